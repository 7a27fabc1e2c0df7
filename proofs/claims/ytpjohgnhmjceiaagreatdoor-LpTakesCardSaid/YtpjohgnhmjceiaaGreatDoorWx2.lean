/- The program's functions in the evaluator's terms: a process, and the law: what each of them answers, whatever comes in.
   Conditions: those of each theorem. -/
import Derived.Test.YtpjohgnhmjceiaaGreatDoorWx1
set_option linter.all false
set_option linter.unusedVariables false
set_option linter.unusedSectionVars false
set_option maxRecDepth 100000
open Go Go.Proofs.YtpjohgnhmjceiaaGreatDoor.AX Go.Proofs
namespace Go.Proofs.YtpjohgnhmjceiaaGreatDoor.WX
variable [Env]
structure PM (t : TB) (nx : Nat) (D : Int) (cv : AV) (a b : List Nat) (d : Nat) (es : List Ev) : Prop where
 h88 : hv t 88 = some (.row [.ptr 87 0, .slice 127 0 2 2 1 false, .slice 129 0 2 2 1 false, .slice 131 0 2 2 1 false, .ptr 89 0, .int .i64 0, .int .i64 D, .int .i64 0, cv] true)
 h87 : hv t 87 = some (.row [.slice 4 0 2 2 8 true, .slice 5 0 2 2 1 true, .int .i64 2, .slice 7 0 2 2 1 true, .int .i64 2, .slice 10 0 2 2 1 true, .int .i64 1, .nslice, .nslice, .nslice, .nslice, .int .i64 100, .slice 135 0 2 2 1 false] true)
 h4 : hv t 4 = some (.row [.int .i64 2, .int .i64 0, .int .i64 1, .nslice, .str [], .int .i64 0, .int .i64 0, .int .i64 0, .int .i64 8, .int .i64 0, .int .i64 1, .slice 3 0 1 1 1 true, .str [], .int .i64 0, .int .i64 0, .int .i64 2] true)
 h5 : hv t 5 = some (.row [.int .i64 0, .int .i64 1] true)
 h7 : hv t 7 = some (.row [.int .i64 0, .int .i64 1] true)
 h3 : hv t 3 = some (.row [.int .i64 0] true)
 h127 : hv t 127 = some (.row [.str a, .str b] true)
 hQ : QD t 89 d nx 4096 es
 hd : 135 ≤ d
 h0 : 136 ≤ nx
 hH : HpN es es.length
 hs : es.length ≤ 200
theorem PM.keep {t t' : TB} {n n' : Nat} {D : Int} {cv : AV} {a b : List Nat} {d : Nat} {es : List Ev} {W : Nat → Prop} (h : PM t n D cv a b d es) (hk : Keep t t' n W) (hw : ∀ x, W x → 131 < x ∧ x ≠ d) (hn : n ≤ n') : PM t' n' D cv a b d es := by
 have h0 := h.h0
 have k : ∀ x, x ≤ 131 → hv t' x = hv t x := fun x hx => hk x (by omega) (fun e => by have := (hw x e).1; omega)
 exact ⟨(k _ (by decide)).trans h.h88, (k _ (by decide)).trans h.h87, (k _ (by decide)).trans h.h4, (k _ (by decide)).trans h.h5, (k _ (by decide)).trans h.h7, (k _ (by decide)).trans h.h3, (k _ (by decide)).trans h.h127, h.hQ.keep hk (fun e => by have := (hw _ e).1; omega) (fun e => (hw _ e).2 rfl) hn, h.hd, by omega, h.hH, h.hs⟩
/-- Behind a change of the queue alone. -/
theorem PM.queue {t t' : TB} {n n' : Nat} {D : Int} {cv : AV} {a b : List Nat} {d d' : Nat} {es es' : List Ev} (h : PM t n D cv a b d es) (hk : Keep t t' n (fun x => x = 89 ∨ x = d)) (hn : n ≤ n') (hd : d' = d ∨ n ≤ d') (hQ : QD t' 89 d' n' 4096 es') (hH : HpN es' es'.length) (hs : es'.length ≤ 200) : PM t' n' D cv a b d' es' := by
 have h0 := h.h0
 have h1 := h.hd
 have k : ∀ x, x ≤ 134 → x ≠ 89 → hv t' x = hv t x := fun x hx h2 => hk x (by omega) (fun e => by have e_ : x = 89 ∨ x = d := e; omega)
 exact ⟨(k _ (by decide) (by decide)).trans h.h88, (k _ (by decide) (by decide)).trans h.h87, (k _ (by decide) (by decide)).trans h.h4, (k _ (by decide) (by decide)).trans h.h5, (k _ (by decide) (by decide)).trans h.h7, (k _ (by decide) (by decide)).trans h.h3, (k _ (by decide) (by decide)).trans h.h127, hQ, by omega, by omega, hH, hs⟩
def GoodE (e : Ev) : Prop := e.node = 1 ∧ e.frm = 0 ∧ (e.val = [48] ∨ e.val = [49] ∨ e.val = [120] ∨ e.val = [122])
theorem one_of {s : List Nat} (h : s.length = 1) (hv : isV s) : s = [48] ∨ s = [49] ∨ s = [120] ∨ s = [122] := by
 match s, h with
 | [c], _ =>
   have := hv.2.2 c (by simp)
   unfold bitC at this
   rcases this with rfl | rfl | rfl | rfl <;> simp
theorem of_one {s : List Nat} (h : s = [48] ∨ s = [49] ∨ s = [120] ∨ s = [122]) : s.length = 1 ∧ isV s := by
 rcases h with rfl | rfl | rfl | rfl <;> exact ⟨rfl, by decide, by decide, by intro c hc; simp at hc; subst hc; unfold bitC; simp⟩
def TakeR (D : Int) (es : List Ev) (e : Ev) (r : Int) (es' : List Ev) : Prop := (r = 1 ∧ es' = es ∧ ¬ GoodE e) ∨ (r = 5 ∧ es' = es ∧ GoodE e ∧ e.time ≤ D) ∨ (GoodE e ∧ D < e.time ∧ PutR es e r es')

def given_r0 : List Ins := [.o 2 (.mov (.c (.bool false)))]
def given_r1 : List Ins := [.mv 3 0,
 .o 4 (.eqv true .ptr (.t 3) (.c .nil)),
 .mv 5 4,
 .g 6 5 true (.mov (.t 0)),
 .g 7 5 true (.nilck (.t 6)),
 .g 8 5 true (.faddr (.t 7) 0),
 .g 9 5 true (.load (.t 8)),
 .g 10 5 true (.eqv true .ptr (.t 9) (.c .nil)),
 .o 11 (.pick (.t 5) (.t 10) (.c (.bool false))),
 .mv 2 11]
def given_c : IC := (.seq (.reg given_r0) (.seq (.reg given_r1) .ret))
theorem given_tab : tb 68 = some (.code 1 12 given_c [.tmp 2]) := by kernel_rfl
theorem given_ok {t : TB} {nx d : Nat} {D : Int} {cv : AV} {a b : List Nat} {es : List Ev} (hP : PM t nx D cv a b d es) : WF tb 68 [.ptr 88 0] t nx (fun v t' nx' => v = .bool true ∧ nx ≤ nx' ∧ Keep t t' nx (fun _ => False)) := by
 have h0 := hP.h0
 have hd0 := hP.hd
 have hd1 := hP.hQ.1
 have hs0 := hP.hs
 refine k_fun given_tab rfl ?_
 unfold given_c
 change WC _ _ (TA.put (some _) TA.e 0) _ _ _
 refine k_seq (k_reg (rO (o_mov ev_c) (r_nil (k_seq (k_reg (m1 (z1 get_same) (rO (o_ptr_nil eZ) (m1 ds (r_op (o_mov (eV (z4 get_same))) (want_on ds) (r_op (o_nilck eZ) (want_on (z1 ds)) (r_op (o_faddr (off := 0) eZ) (want_on (z2 ds)) (r_op (o_load eZ hP.h88 rfl) (want_on (z1 (z2 ds))) (r_op (o_ptr_nil eZ) (want_on (z4 ds)) (rO (o_pick_t (eV (z1 (z4 ds))) eZ) (m1 ds (r_nil (k_ret ?_)))))))))))))))))
 exact ⟨_, ans_tmp ds, rfl, by omega, kR⟩
def done_r0 : List Ins := [.o 2 (.mov (kI 0))]
def done_r1 : List Ins := [.mv 3 0,
 .f 4 68 [(.t 3)],
 .o 5 (.not (.t 4))]
def done_r2 : List Ins := [.o 2 (.mov (kI (-1)))]
def done_r3 : List Ins := [.mv 6 0,
 .o 7 (.nilck (.t 6)),
 .o 8 (.faddr (.t 7) 6),
 .o 9 (.load (.t 8)),
 .mv 2 9]
def done_c : IC := (.seq (.reg done_r0) (.seq (.seq (.reg done_r1) (.cond (.t 5) (.seq (.reg done_r2) .ret) .skip)) (.seq (.reg done_r3) .ret)))
theorem done_tab : tb 24 = some (.code 1 10 done_c [.tmp 2]) := by kernel_rfl
theorem done_ok {t : TB} {nx d : Nat} {D : Int} {cv : AV} {a b : List Nat} {es : List Ev} (hP : PM t nx D cv a b d es) : WF tb 24 [.ptr 88 0] t nx (fun v t' nx' => v = .int .i64 D ∧ nx ≤ nx' ∧ Keep t t' nx (fun _ => False)) := by
 have h0 := hP.h0
 have hd0 := hP.hd
 have hd1 := hP.hQ.1
 have hs0 := hP.hs
 refine k_fun done_tab rfl ?_
 unfold done_c
 change WC _ _ (TA.put (some _) TA.e 0) _ _ _
 refine k_seq (k_reg (rO (o_mov ev_c) (r_nil (k_seq (k_seq (k_reg (m1 (z1 get_same) (r_call (w_callF (evs_cons eZ evs_nil)) rfl (WF.mono (given_ok (hP.keep (n' := nx) (show Keep t t nx (fun _ => False) from kR) (fun _ h => h.elim) (by omega))) ?_)))))))))
 rintro _ t1 n2 ⟨rfl, hn_g, hk_g⟩
 refine rO (o_not eZ) (r_nil (k_cond_f eZ (k_skip (k_seq (k_reg (m1 (z4 get_same) (rO (o_nilck eZ) (rO (o_faddr (off := 6) eZ) (rO (o_load eZ (Keep.look hk_g (by omega) id hP.h88) rfl) (m1 ds (r_nil (k_ret ?_))))))))))))
 exact ⟨_, ans_tmp ds, rfl, by omega, Keep.trans kR hk_g (by omega) (fun d _ h => h)⟩
def nxt_r0 : List Ins := [.o 2 (.mov (kI 0)),
 .o 3 (.mov (.c (.bool false)))]
def nxt_r1 : List Ins := [.mv 7 0,
 .f 8 68 [(.t 7)],
 .o 9 (.not (.t 8))]
def nxt_r2 : List Ins := [.o 2 (.mov (kI 0)),
 .o 3 (.mov (.c (.bool false)))]
def nxt_r3 : List Ins := [.mv 10 0,
 .o 11 (.nilck (.t 10)),
 .o 12 (.faddr (.t 11) 6),
 .o 13 (.load (.t 12)),
 .o 14 (.bin .lss (.t 13) (kI 0))]
def nxt_r4 : List Ins := [.o 2 (.mov (kI 0)),
 .o 3 (.mov (.c (.bool true)))]
def nxt_r5 : List Ins := [.mv 15 0,
 .o 16 (.nilck (.t 15)),
 .o 17 (.faddr (.t 16) 0),
 .o 18 (.load (.t 17)),
 .o 19 (.nilck (.t 18)),
 .o 20 (.faddr (.t 19) 11),
 .o 21 (.load (.t 20)),
 .o 22 (.bin .add (.t 21) (kI 1)),
 .mv 4 22]
def nxt_r6 : List Ins := [.mv 24 0,
 .o 25 (.nilck (.t 24)),
 .o 26 (.faddr (.t 25) 4),
 .o 27 (.load (.t 26)),
 .f 28 69 [(.t 27)],
 .mv 23 28,
 .o 29 (.extr (.t 23) 0),
 .o 30 (.extr (.t 23) 1),
 .o 5 (.alloc [(.int .i64 0), (.int .i64 0), (.str []), (.int .i64 0), (.int .i64 0), (.bool false)]),
 .x (.store 6 (.t 5) (.t 29)),
 .mv 6 30]
def nxt_r7 : List Ins := [.mv 31 6]
def nxt_r8 : List Ins := [.mv 32 4,
 .o 33 (.faddr (.t 5) 0),
 .o 34 (.load (.t 33)),
 .o 35 (.mm false (.t 32) (.t 34)),
 .mv 4 35]
def nxt_r9 : List DIns := [⟨0, [], .mv 36 0⟩,
 ⟨1, [0], .o 37 (.nilck (.t 36))⟩,
 ⟨2, [1], .o 38 (.faddr (.t 37) 5)⟩,
 ⟨3, [2], .o 39 (.load (.t 38))⟩,
 ⟨4, [], .mv 40 0⟩,
 ⟨5, [4], .o 41 (.nilck (.t 40))⟩,
 ⟨6, [5], .o 42 (.faddr (.t 41) 0)⟩,
 ⟨7, [6], .o 43 (.load (.t 42))⟩,
 ⟨8, [7], .o 44 (.nilck (.t 43))⟩,
 ⟨9, [8], .o 45 (.faddr (.t 44) 10)⟩,
 ⟨10, [9], .o 46 (.load (.t 45))⟩,
 ⟨11, [10], .o 47 (.len .slc (.t 46))⟩,
 ⟨12, [3, 11], .o 48 (.bin .lss (.t 39) (.t 47))⟩]
def nxt_r10 : List DIns := [⟨0, [], .mv 49 4⟩,
 ⟨1, [], .mv 50 0⟩,
 ⟨2, [1], .o 51 (.nilck (.t 50))⟩,
 ⟨3, [2], .o 52 (.faddr (.t 51) 0)⟩,
 ⟨4, [3], .o 53 (.load (.t 52))⟩,
 ⟨5, [4], .o 54 (.nilck (.t 53))⟩,
 ⟨6, [5], .o 55 (.faddr (.t 54) 10)⟩,
 ⟨7, [6], .o 56 (.load (.t 55))⟩,
 ⟨8, [], .mv 57 0⟩,
 ⟨9, [8], .o 58 (.nilck (.t 57))⟩,
 ⟨10, [9], .o 59 (.faddr (.t 58) 5)⟩,
 ⟨11, [10], .o 60 (.load (.t 59))⟩,
 ⟨12, [7, 11], .o 61 (.iaddr 3 (.t 56) (.t 60))⟩,
 ⟨13, [12], .o 62 (.faddr (.t 61) 0)⟩,
 ⟨14, [13], .o 63 (.load (.t 62))⟩,
 ⟨15, [0, 14], .o 64 (.mm false (.t 49) (.t 63))⟩,
 ⟨16, [15, 0, 1, 2, 3, 4, 5, 6, 7, 8, 9, 10, 11, 12, 13, 14, 15], .mv 4 64⟩]
def nxt_r11 : List Ins := [.mv 65 4,
 .mv 66 0,
 .o 67 (.nilck (.t 66)),
 .o 68 (.faddr (.t 67) 0),
 .o 69 (.load (.t 68)),
 .o 70 (.nilck (.t 69)),
 .o 71 (.faddr (.t 70) 11),
 .o 72 (.load (.t 71)),
 .o 73 (.bin .gtr (.t 65) (.t 72))]
def nxt_r12 : List Ins := [.o 2 (.mov (kI 0)),
 .o 3 (.mov (.c (.bool false)))]
def nxt_r13 : List Ins := [.mv 74 4,
 .mv 2 74,
 .o 3 (.mov (.c (.bool true)))]
def nxt_c : IC := (.seq (.reg nxt_r0) (.seq (.seq (.reg nxt_r1) (.cond (.t 9) (.seq (.reg nxt_r2) .ret) .skip)) (.seq (.seq (.reg nxt_r3) (.cond (.t 14) (.seq (.reg nxt_r4) .ret) .skip)) (.seq (.reg nxt_r5) (.seq (.seq (.reg nxt_r6) (.seq (.reg nxt_r7) (.cond (.t 31) (.reg nxt_r8) .skip))) (.seq (.seq (.draw nxt_r9) (.cond (.t 48) (.draw nxt_r10) .skip)) (.seq (.seq (.reg nxt_r11) (.cond (.t 73) (.seq (.reg nxt_r12) .ret) .skip)) (.seq (.reg nxt_r13) .ret))))))))
theorem nxt_tab : tb 67 = some (.code 1 75 nxt_c [.tmp 2, .tmp 3]) := by kernel_rfl
theorem next_ok {t : TB} {nx d : Nat} {D : Int} {cv : AV} {a b : List Nat} {es : List Ev} (hP : PM t nx D cv a b d es) (hDD : D = -1 ∨ D = 0 ∧ es = []) : WF tb 67 [.ptr 88 0] t nx (fun v t' nx' => ∃ m : Bool, v = .tup [.int .i64 0, .bool (decide (m = true))] ∧ (m = true ↔ D = -1) ∧ nx ≤ nx' ∧ Keep t t' nx (fun _ => False)) := by
 have h0 := hP.h0
 have hd0 := hP.hd
 have hd1 := hP.hQ.1
 have hs0 := hP.hs
 refine k_fun nxt_tab rfl ?_
 unfold nxt_c
 change WC _ _ (TA.put (some _) TA.e 0) _ _ _
 refine k_seq (k_reg (rO (o_mov ev_c) (rO (o_mov ev_c) (r_nil (k_seq (k_seq (k_reg (m1 (z2 get_same) (r_call (w_callF (evs_cons eZ evs_nil)) rfl (WF.mono (given_ok (hP.keep (n' := nx) (show Keep t t nx (fun _ => False) from kR) (fun _ h => h.elim) (by omega))) ?_))))))))))
 rintro _ t1 n2 ⟨rfl, hn_g, hk_g⟩
 refine rO (o_not eZ) (r_nil (k_cond_f eZ (k_skip (k_seq (k_seq (k_reg (m1 (z1 (z4 get_same)) (rO (o_nilck eZ) (rO (o_faddr (off := 6) eZ) (rO (o_load eZ (Keep.look hk_g (by omega) id hP.h88) rfl) (rO (o_lss eZ ev_c) (r_nil ?_))))))))))))
 refine k_if eZ (fun hc3 => ?_) (fun hc3 => ?_)
 · refine k_seq (k_reg (rO (o_mov ev_c) (rO (o_mov ev_c) (r_nil (k_ret ?_)))))
   exact ⟨_, ans_two (res_tmp (z1 ds) (res_tmp ds res_nil)), true, (by simp), (by simp; omega), by omega, Keep.trans kR hk_g (by omega) (fun d _ h => h)⟩
 refine k_skip (k_seq (k_reg (m1 (z2 (z8 get_same)) (rO (o_nilck eZ) (rO (o_faddr (off := 0) eZ) (rO (o_load eZ (Keep.look hk_g (by omega) id hP.h88) rfl) (rO (o_nilck eZ) (rO (o_faddr (off := 11) eZ) (rO (o_load eZ (Keep.look hk_g (by omega) id hP.h87) rfl) (rO (o_addN (a := 100) (b := 1) eZ ev_c (by omega)) (m1 ds (r_nil (k_seq (k_seq (k_reg (m1 (z1 (z2 (z8 (z8 get_same)))) (rO (o_nilck eZ) (rO (o_faddr (off := 4) eZ) (rO (o_load eZ (Keep.look hk_g (by omega) id hP.h88) rfl) (r_call (w_callF (evs_cons eZ evs_nil)) rfl (WF.mono (qmin_ok (hP.keep (n' := n2) (show Keep t t1 nx (fun _ => False) from Keep.trans kR hk_g (by omega) (fun d _ h => h)) (fun _ h => h.elim) (by omega)).hQ.2.2.2 (hP.keep (n' := n2) (show Keep t t1 nx (fun _ => False) from Keep.trans kR hk_g (by omega) (fun d _ h => h)) (fun _ h => h.elim) (by omega)).hQ.2.2.1 (by omega) (by decide)) ?_)))))))))))))))))))))
 rintro _ t4 n5 ⟨e, m, rfl, hm1, hm2, hn_m, hk_m⟩
 refine m1 ds (rO (o_extr eZ rfl) (rO (o_extr (eV (z1 ds)) rfl) (r_heap (o_alloc) rfl (fun t6 (hh7 : hv t6 = upd (hv t4) n5 (some (.row [(.int .i64 0), (.int .i64 0), (.str []), (.int .i64 0), (.int .i64 0), (.bool false)] true))) => r_heap (o_store (n := 6) eZ (eV (z2 ds)) (lS hh7) rfl rfl (leb rfl)) rfl (fun t8 (hh9 : hv t8 = upd (hv t6) n5 (some (.row [(.int .i64 e.time), (.int .i64 e.node), (.str e.val), (.int .i64 e.frm), (.int .i64 e.seq), (.bool e.anti)] true))) => m1 (z2 ds) (r_nil (k_seq (k_reg (m1 ds (r_nil ?_))))))))))
 refine k_if eZ (fun hc10 => ?_) (fun hc10 => ?_)
 · have hm3 := hm1 (by assumption)
   rcases hDD with h_ | ⟨-, h_⟩
   · omega
   subst h_; simp at hm3
 refine k_skip (k_seq (k_seq (k_draw (eO 0 rfl (o_mov (eV (z1 (z2 (z4 (z8 (z8 (z8 get_same)))))))) (eO 1 rfl (o_nilck eZ) (eO 2 rfl (o_faddr (off := 5) eZ) (eO 3 rfl (o_load eZ (lN hh9 (lN hh7 (Keep.look hk_m (by omega) id (Keep.look hk_g (by omega) id hP.h88)))) rfl) (eO 4 rfl (o_mov (eV (z1 (z2 (z8 (z8 (z8 (z8 get_same)))))))) (eO 5 rfl (o_nilck eZ) (eO 6 rfl (o_faddr (off := 0) eZ) (eO 7 rfl (o_load eZ (lN hh9 (lN hh7 (Keep.look hk_m (by omega) id (Keep.look hk_g (by omega) id hP.h88)))) rfl) (eO 8 rfl (o_nilck eZ) (eO 9 rfl (o_faddr (off := 10) eZ) (eO 10 rfl (o_load eZ (lN hh9 (lN hh7 (Keep.look hk_m (by omega) id (Keep.look hk_g (by omega) id hP.h87)))) rfl) (eO 11 rfl (o_len_nslice eZ) (eO 12 rfl (dec_f (o_lss (eV (z8 ds)) eZ) (by simp)) (e_done (k_cond_f eZ (k_skip (k_seq (k_seq (k_reg (m1 (z1 (z8 (z8 (z8 ds)))) (rO (o_mov (eV (z1 (z4 (z8 (z8 (z8 (z8 (z8 get_same))))))))) (rO (o_nilck eZ) (rO (o_faddr (off := 0) eZ) (rO (o_load eZ (lN hh9 (lN hh7 (Keep.look hk_m (by omega) id (Keep.look hk_g (by omega) id hP.h88)))) rfl) (rO (o_nilck eZ) (rO (o_faddr (off := 11) eZ) (rO (o_load eZ (lN hh9 (lN hh7 (Keep.look hk_m (by omega) id (Keep.look hk_g (by omega) id hP.h87)))) rfl) ?_))))))))))))))))))))))))))))))
 refine rO (o_gtr (eV (z1 (z2 (z4 ds)))) eZ) (r_nil ?_)
 refine k_if eZ (fun hc11 => ?_) (fun hc11 => ?_)
 · refine k_seq (k_reg (rO (o_mov ev_c) (rO (o_mov ev_c) (r_nil (k_ret ?_)))))
   first | (exact ⟨_, ans_two (res_tmp (z1 ds) (res_tmp ds res_nil)), false, (by simp), (by simp; omega), by omega, kU (kU (Keep.trans (Keep.trans kR hk_g (by omega) (fun d _ h => h)) hk_m (by omega) (fun d _ h => h)) hh7) hh9⟩) | (exfalso; omega)
 refine k_skip (k_seq ?_)
 exfalso; omega
def pcanc_r0 : List Ins := [.o 6 (.mov (.c (.bool false)))]
def pcanc_r1 : List Ins := [.mv 7 0,
 .f 8 68 [(.t 7)],
 .mv 9 8,
 .g 10 9 true (.mov (.t 1)),
 .g 11 9 true (.mov (.t 0)),
 .g 12 9 true (.nilck (.t 11)),
 .g 13 9 true (.faddr (.t 12) 0),
 .g 14 9 true (.load (.t 13)),
 .g 15 9 true (.nilck (.t 14)),
 .g 16 9 true (.faddr (.t 15) 6),
 .g 17 9 true (.load (.t 16)),
 .g 18 9 true (.bin .neq (.t 10) (.t 17)),
 .o 19 (.pick (.t 9) (.t 18) (.c (.bool false))),
 .mv 20 19,
 .g 21 20 true (.mov (.t 0)),
 .g 22 20 true (.nilck (.t 21)),
 .g 23 20 true (.faddr (.t 22) 4),
 .g 24 20 true (.load (.t 23)),
 .g 25 20 true (.mov (.t 1)),
 .g 26 20 true (.mov (.t 2)),
 ⟨(some 27), (some (20, true)), (.callF 74 [(.t 24), (.t 25), (.t 26)])⟩,
 .o 28 (.pick (.t 20) (.t 27) (.c (.bool false))),
 .mv 6 28]
def pcanc_c : IC := (.seq (.reg pcanc_r0) (.seq (.reg pcanc_r1) .ret))
theorem pcanc_tab : tb 26 = some (.code 3 29 pcanc_c [.tmp 6]) := by kernel_rfl
theorem pcanc0_ok {t : TB} {nx d : Nat} {D : Int} {cv : AV} {a b : List Nat} {es : List Ev} (hP : PM t nx D cv a b d es) {sq : Int} : WF tb 26 [.ptr 88 0, .int .i64 0, .int .i64 sq] t nx (fun v t' nx' => ∃ (q : Bool) (es' : List Ev) (d' : Nat), v = .bool (decide (q = true)) ∧ PM t' nx' D cv a b d' es' ∧ (q = true → ∃ e, e.frm = 0 ∧ e.seq = sq ∧ (es' ++ [e]).Perm es) ∧ (q ≠ true → es' = es ∧ ∀ x ∈ es, ¬ (x.frm = 0 ∧ x.seq = sq)) ∧ (d' = d ∨ nx ≤ d') ∧ nx ≤ nx' ∧ Keep t t' nx (fun x => x = 89 ∨ x = d)) := by
 have h0 := hP.h0
 have hd0 := hP.hd
 have hd1 := hP.hQ.1
 have hs0 := hP.hs
 refine k_fun pcanc_tab rfl ?_
 unfold pcanc_c
 change WC _ _ (TA.put (some _) (TA.put (some _) (TA.put (some _) TA.e 0) 1) 2) _ _ _
 refine k_seq (k_reg (rO (o_mov ev_c) (r_nil (k_seq (k_reg (m1 (z1 (get_other rfl (get_other rfl get_same))) (r_call (w_callF (evs_cons eZ evs_nil)) rfl (WF.mono (given_ok (hP.keep (n' := nx) (show Keep t t nx (fun _ => False) from kR) (fun _ h => h.elim) (by omega))) ?_))))))))
 rintro _ t1 n2 ⟨rfl, hn_g, hk_g⟩
 refine m1 ds (r_op (o_mov (eV (z4 (get_other rfl get_same)))) (want_on ds) (r_op (o_mov (eV (z1 (z4 (get_other rfl (get_other rfl get_same)))))) (want_on (z1 ds)) (r_op (o_nilck eZ) (want_on (z2 ds)) (r_op (o_faddr (off := 0) eZ) (want_on (z1 (z2 ds))) (r_op (o_load eZ (Keep.look hk_g (by omega) id hP.h88) rfl) (want_on (z4 ds)) (r_op (o_nilck eZ) (want_on (z1 (z4 ds))) (r_op (o_faddr (off := 6) eZ) (want_on (z2 (z4 ds))) (r_op (o_load eZ (Keep.look hk_g (by omega) id hP.h87) rfl) (want_on (z1 (z2 (z4 ds)))) (r_op (ndec_t (o_neq (eV (z1 (z2 (z4 ds)))) eZ) (by simp)) (want_on (z8 ds)) (rO (o_pick_t (eV (z1 (z8 ds))) eZ) (m1 ds (r_op (o_mov (eV (z1 (z2 (z4 (z8 (get_other rfl (get_other rfl get_same)))))))) (want_on ds) (r_op (o_nilck eZ) (want_on (z1 ds)) (r_op (o_faddr (off := 4) eZ) (want_on (z2 ds)) (r_op (o_load eZ (Keep.look hk_g (by omega) id hP.h88) rfl) (want_on (z1 (z2 ds))) (r_op (o_mov (eV (z1 (z2 (z8 (z8 (get_other rfl get_same))))))) (want_on (z4 ds)) (r_op (o_mov (eV (z4 (z8 (z8 get_same))))) (want_on (z1 (z4 ds))) (r_call (w_callF (evs_cons (eV (z2 ds)) (evs_cons (eV (z1 ds)) (evs_cons eZ evs_nil)))) (want_on (z2 (z4 ds))) (WF.mono (canc_d (hP.keep (n' := n2) (show Keep t t1 nx (fun _ => False) from Keep.trans kR hk_g (by omega) (fun d _ h => h)) (fun _ h => h.elim) (by omega)).hQ (by omega) (by decide) hP.hH) ?_)))))))))))))))))))
 rintro _ t3 n4 ⟨q, es2, d2, rfl, hd2, hQ2, hH2, hq1, hq2, hn_q, hk_q⟩
 have hl2 : es2.length ≤ 200 := by
   cases q with
   | true => obtain ⟨e, -, -, h_⟩ := hq1 rfl; have := h_.length_eq; simp at this; omega
   | false => rw [(hq2 (by simp)).1]; exact hs0
 have hP2 : PM t3 n4 D cv a b d2 es2 := (hP.keep (n' := n2) (show Keep t t1 nx (fun _ => False) from Keep.trans kR hk_g (by omega) (fun d _ h => h)) (fun _ h => h.elim) (by omega)).queue hk_q hn_q hd2 hQ2 hH2 hl2
 refine rO (o_pick_t (eV (z1 (z2 (z4 ds)))) eZ) (m1 ds (r_nil (k_ret ?_)))
 exact ⟨_, ans_tmp ds, q, es2, d2, rfl, hP2, hq1, hq2, by omega, by omega, Keep.trans (Keep.trans kR hk_g (by omega) ((fun _ _ h => h.elim))) hk_q (by omega) ((fun _ _ h => h))⟩
theorem pcanc1_ok {t : TB} {nx d : Nat} {D : Int} {cv : AV} {a b : List Nat} {es : List Ev} (hP : PM t nx D cv a b d es) {sq : Int} : WF tb 26 [.ptr 88 0, .int .i64 1, .int .i64 sq] t nx (fun v t' nx' => v = .bool false ∧ nx ≤ nx' ∧ Keep t t' nx (fun _ => False)) := by
 have h0 := hP.h0
 have hd0 := hP.hd
 have hd1 := hP.hQ.1
 have hs0 := hP.hs
 refine k_fun pcanc_tab rfl ?_
 unfold pcanc_c
 change WC _ _ (TA.put (some _) (TA.put (some _) (TA.put (some _) TA.e 0) 1) 2) _ _ _
 refine k_seq (k_reg (rO (o_mov ev_c) (r_nil (k_seq (k_reg (m1 (z1 (get_other rfl (get_other rfl get_same))) (r_call (w_callF (evs_cons eZ evs_nil)) rfl (WF.mono (given_ok (hP.keep (n' := nx) (show Keep t t nx (fun _ => False) from kR) (fun _ h => h.elim) (by omega))) ?_))))))))
 rintro _ t1 n2 ⟨rfl, hn_g, hk_g⟩
 refine m1 ds (r_op (o_mov (eV (z4 (get_other rfl get_same)))) (want_on ds) (r_op (o_mov (eV (z1 (z4 (get_other rfl (get_other rfl get_same)))))) (want_on (z1 ds)) (r_op (o_nilck eZ) (want_on (z2 ds)) (r_op (o_faddr (off := 0) eZ) (want_on (z1 (z2 ds))) (r_op (o_load eZ (Keep.look hk_g (by omega) id hP.h88) rfl) (want_on (z4 ds)) (r_op (o_nilck eZ) (want_on (z1 (z4 ds))) (r_op (o_faddr (off := 6) eZ) (want_on (z2 (z4 ds))) (r_op (o_load eZ (Keep.look hk_g (by omega) id hP.h87) rfl) (want_on (z1 (z2 (z4 ds)))) (r_op (ndec_f (o_neq (eV (z1 (z2 (z4 ds)))) eZ) (by simp)) (want_on (z8 ds)) (rO (o_pick_t (eV (z1 (z8 ds))) eZ) (m1 ds (r_off (wN ds) (r_off (wN (z1 ds)) (r_off (wN (z2 ds)) (r_off (wN (z1 (z2 ds))) (r_off (wN (z4 ds)) (r_off (wN (z1 (z4 ds))) (r_off (wN (z2 (z4 ds))) (rO (o_pick_f (eV (z1 (z2 (z4 ds)))) ev_c) (m1 ds (r_nil (k_ret ?_))))))))))))))))))))))
 exact ⟨_, ans_tmp ds, rfl, by omega, Keep.trans kR hk_g (by omega) (fun d _ h => h)⟩
def ptake_r0 : List Ins := [.o 3 (.box (.t 1)),
 .o 4 (.mov (kI 0))]
def ptake_r1 : List DIns := [⟨0, [], .mv 6 0⟩,
 ⟨1, [0], .f 7 68 [(.t 6)]⟩,
 ⟨2, [1], .o 8 (.not (.t 7))⟩,
 ⟨3, [2, 1], .mv 9 8⟩,
 ⟨4, [3], .g 10 9 false (.faddr (.t 3) 1)⟩,
 ⟨5, [4, 3], .g 11 9 false (.load (.t 10))⟩,
 ⟨6, [5, 3], .g 12 9 false (.bin .lss (.t 11) (kI 0))⟩,
 ⟨7, [3, 6], .o 13 (.pick (.t 9) (.c (.bool true)) (.t 12))⟩,
 ⟨8, [7, 3], .mv 14 13⟩,
 ⟨9, [8], .g 15 14 false (.faddr (.t 3) 1)⟩,
 ⟨10, [9, 8], .g 16 14 false (.load (.t 15))⟩,
 ⟨11, [8], .g 17 14 false (.mov (.t 0))⟩,
 ⟨12, [11, 8], .g 18 14 false (.nilck (.t 17))⟩,
 ⟨13, [12, 8], .g 19 14 false (.faddr (.t 18) 0)⟩,
 ⟨14, [13, 8], .g 20 14 false (.load (.t 19))⟩,
 ⟨15, [14, 8], .g 21 14 false (.nilck (.t 20))⟩,
 ⟨16, [15, 8], .g 22 14 false (.faddr (.t 21) 0)⟩,
 ⟨17, [16, 8], .g 23 14 false (.faddr (.t 22) 0)⟩,
 ⟨18, [17, 8], .g 24 14 false (.load (.t 23))⟩,
 ⟨19, [18, 8], .g 25 14 false (.len .slc (.t 24))⟩,
 ⟨20, [10, 19, 8], .g 26 14 false (.bin .geq (.t 16) (.t 25))⟩,
 ⟨21, [8, 20], .o 27 (.pick (.t 14) (.c (.bool true)) (.t 26))⟩]
def ptake_r2 : List Ins := [.o 4 (.mov (kI 1))]
def ptake_r3 : List DIns := [⟨0, [], .mv 28 0⟩,
 ⟨1, [0], .o 29 (.nilck (.t 28))⟩,
 ⟨2, [1], .o 30 (.faddr (.t 29) 0)⟩,
 ⟨3, [2], .o 31 (.load (.t 30))⟩,
 ⟨4, [3], .o 32 (.nilck (.t 31))⟩,
 ⟨5, [4], .o 33 (.faddr (.t 32) 0)⟩,
 ⟨6, [5], .o 34 (.faddr (.t 33) 0)⟩,
 ⟨7, [6], .o 35 (.load (.t 34))⟩,
 ⟨8, [], .o 36 (.faddr (.t 3) 1)⟩,
 ⟨9, [8], .o 37 (.load (.t 36))⟩,
 ⟨10, [7, 9], .o 38 (.iaddr 8 (.t 35) (.t 37))⟩,
 ⟨11, [10], .o 39 (.loadA 8 (.t 38))⟩,
 ⟨12, [], .o 5 (.alloc [(.int .i64 0), (.int .i64 0), (.int .i64 0), .nslice, (.str []), (.int .i64 0), (.int .i64 0), (.int .i64 0)])⟩,
 ⟨13, [12, 11, 0, 1, 2, 3, 4, 5, 6, 7, 8, 9, 10, 11, 12], .x (.store 8 (.t 5) (.t 39))⟩]
def ptake_r4 : List DIns := [⟨0, [], .o 40 (.faddr (.t 5) 0)⟩,
 ⟨1, [0], .o 41 (.load (.t 40))⟩,
 ⟨2, [1], .o 42 (.bin .neq (.t 41) (kI 8))⟩,
 ⟨3, [2], .mv 43 42⟩,
 ⟨4, [3], .g 44 43 false (.mov (.t 0))⟩,
 ⟨5, [4, 3], .g 45 43 false (.nilck (.t 44))⟩,
 ⟨6, [5, 3], .g 46 43 false (.faddr (.t 45) 0)⟩,
 ⟨7, [6, 3], .g 47 43 false (.load (.t 46))⟩,
 ⟨8, [7, 3], .g 48 43 false (.nilck (.t 47))⟩,
 ⟨9, [8, 3], .g 49 43 false (.faddr (.t 48) 3)⟩,
 ⟨10, [9, 3], .g 50 43 false (.faddr (.t 49) 0)⟩,
 ⟨11, [10, 3], .g 51 43 false (.load (.t 50))⟩,
 ⟨12, [3], .g 52 43 false (.faddr (.t 3) 1)⟩,
 ⟨13, [12, 3], .g 53 43 false (.load (.t 52))⟩,
 ⟨14, [11, 13, 3], .g 54 43 false (.iaddr 1 (.t 51) (.t 53))⟩,
 ⟨15, [14, 3], .g 55 43 false (.load (.t 54))⟩,
 ⟨16, [3], .g 56 43 false (.mov (.t 0))⟩,
 ⟨17, [16, 3], .g 57 43 false (.nilck (.t 56))⟩,
 ⟨18, [17, 3], .g 58 43 false (.faddr (.t 57) 0)⟩,
 ⟨19, [18, 3], .g 59 43 false (.load (.t 58))⟩,
 ⟨20, [19, 3], .g 60 43 false (.nilck (.t 59))⟩,
 ⟨21, [20, 3], .g 61 43 false (.faddr (.t 60) 6)⟩,
 ⟨22, [21, 3], .g 62 43 false (.load (.t 61))⟩,
 ⟨23, [15, 22, 3], .g 63 43 false (.bin .neq (.t 55) (.t 62))⟩,
 ⟨24, [3, 23], .o 64 (.pick (.t 43) (.c (.bool true)) (.t 63))⟩,
 ⟨25, [24, 3], .mv 65 64⟩,
 ⟨26, [25], .g 66 65 false (.mov (.t 0))⟩,
 ⟨27, [26, 25], .g 67 65 false (.nilck (.t 66))⟩,
 ⟨28, [27, 25], .g 68 65 false (.faddr (.t 67) 0)⟩,
 ⟨29, [28, 25], .g 69 65 false (.load (.t 68))⟩,
 ⟨30, [29, 25], .g 70 65 false (.nilck (.t 69))⟩,
 ⟨31, [30, 25], .g 71 65 false (.faddr (.t 70) 3)⟩,
 ⟨32, [31, 25], .g 72 65 false (.faddr (.t 71) 0)⟩,
 ⟨33, [32, 25], .g 73 65 false (.load (.t 72))⟩,
 ⟨34, [25], .g 74 65 false (.faddr (.t 5) 3)⟩,
 ⟨35, [34, 25], .g 75 65 false (.load (.t 74))⟩,
 ⟨36, [35, 25], .g 76 65 false (.iaddr 1 (.t 75) (kI 0))⟩,
 ⟨37, [36, 25], .g 77 65 false (.load (.t 76))⟩,
 ⟨38, [33, 37, 25], .g 78 65 false (.iaddr 1 (.t 73) (.t 77))⟩,
 ⟨39, [38, 25], .g 79 65 false (.load (.t 78))⟩,
 ⟨40, [25], .g 80 65 false (.faddr (.t 3) 3)⟩,
 ⟨41, [40, 25], .g 81 65 false (.load (.t 80))⟩,
 ⟨42, [39, 41, 25], .g 82 65 false (.bin .neq (.t 79) (.t 81))⟩,
 ⟨43, [25, 42], .o 83 (.pick (.t 65) (.c (.bool true)) (.t 82))⟩,
 ⟨44, [43, 25], .mv 84 83⟩,
 ⟨45, [44], .g 85 84 false (.faddr (.t 3) 3)⟩,
 ⟨46, [45, 44], .g 86 84 false (.load (.t 85))⟩,
 ⟨47, [44], .g 87 84 false (.mov (.t 0))⟩,
 ⟨48, [47, 44], .g 88 84 false (.nilck (.t 87))⟩,
 ⟨49, [48, 44], .g 89 84 false (.faddr (.t 88) 0)⟩,
 ⟨50, [49, 44], .g 90 84 false (.load (.t 89))⟩,
 ⟨51, [50, 44], .g 91 84 false (.nilck (.t 90))⟩,
 ⟨52, [51, 44], .g 92 84 false (.faddr (.t 91) 6)⟩,
 ⟨53, [52, 44], .g 93 84 false (.load (.t 92))⟩,
 ⟨54, [46, 53, 44], .g 94 84 false (.bin .eql (.t 86) (.t 93))⟩,
 ⟨55, [44, 54], .o 95 (.pick (.t 84) (.c (.bool true)) (.t 94))⟩,
 ⟨56, [55, 44], .mv 96 95⟩,
 ⟨57, [56], .g 97 96 false (.faddr (.t 3) 2)⟩,
 ⟨58, [57, 56], .g 98 96 false (.load (.t 97))⟩,
 ⟨59, [58, 56, 56], ⟨(some 99), (some (96, false)), (.callF 49 [(.t 98)])⟩⟩,
 ⟨60, [59, 56], .g 100 96 false (.bin .neq (.t 99) (kI 0))⟩,
 ⟨61, [56, 60], .o 101 (.pick (.t 96) (.c (.bool true)) (.t 100))⟩,
 ⟨62, [61, 59], .mv 102 101⟩,
 ⟨63, [62], .g 103 102 false (.faddr (.t 3) 2)⟩,
 ⟨64, [63, 62], .g 104 102 false (.load (.t 103))⟩,
 ⟨65, [64, 62], .g 105 102 false (.len .str (.t 104))⟩,
 ⟨66, [62], .g 106 102 false (.faddr (.t 5) 2)⟩,
 ⟨67, [66, 62], .g 107 102 false (.load (.t 106))⟩,
 ⟨68, [65, 67, 62], .g 108 102 false (.bin .neq (.t 105) (.t 107))⟩,
 ⟨69, [62, 68], .o 109 (.pick (.t 102) (.c (.bool true)) (.t 108))⟩]
def ptake_r5 : List Ins := [.o 4 (.mov (kI 1))]
def ptake_r6 : List DIns := [⟨0, [], .o 110 (.faddr (.t 3) 0)⟩,
 ⟨1, [0], .o 111 (.load (.t 110))⟩,
 ⟨2, [], .mv 112 0⟩,
 ⟨3, [2], .o 113 (.nilck (.t 112))⟩,
 ⟨4, [3], .o 114 (.faddr (.t 113) 6)⟩,
 ⟨5, [4], .o 115 (.load (.t 114))⟩,
 ⟨6, [1, 5], .o 116 (.bin .leq (.t 111) (.t 115))⟩]
def ptake_r7 : List Ins := [.o 4 (.mov (kI 5))]
def ptake_r8 : List DIns := [⟨0, [], .mv 117 0⟩,
 ⟨1, [0], .o 118 (.nilck (.t 117))⟩,
 ⟨2, [1], .o 119 (.faddr (.t 118) 4)⟩,
 ⟨3, [2], .o 120 (.load (.t 119))⟩,
 ⟨4, [], .o 121 (.loadA 6 (.t 3))⟩,
 ⟨5, [3, 4], .f 122 73 [(.t 120), (.t 121)]⟩,
 ⟨6, [5, 5, 0, 1, 2, 3, 4, 5], .mv 4 122⟩]
def ptake_c : IC := (.seq (.reg ptake_r0) (.seq (.seq (.draw ptake_r1) (.cond (.t 27) (.seq (.reg ptake_r2) .ret) .skip)) (.seq (.draw ptake_r3) (.seq (.seq (.draw ptake_r4) (.cond (.t 109) (.seq (.reg ptake_r5) .ret) .skip)) (.seq (.seq (.draw ptake_r6) (.cond (.t 116) (.seq (.reg ptake_r7) .ret) .skip)) (.seq (.draw ptake_r8) .ret))))))
theorem ptake_tab : tb 25 = some (.code 2 123 ptake_c [.tmp 4]) := by kernel_rfl
theorem ptake_ok {t : TB} {nx d : Nat} {D : Int} {cv : AV} {a b : List Nat} {es : List Ev} (hP : PM t nx D cv a b d es) {e : Ev} (hs2 : es.length < 200) (hv1 : ∀ c ∈ e.val, c < 256) (hv2 : e.val.length < 9223372036854775808) : WF tb 25 [.ptr 88 0, .agg (ecells e)] t nx (fun v t' nx' => ∃ (r : Int) (es' : List Ev) (d' : Nat), v = .int .i64 r ∧ PM t' nx' D cv a b d' es' ∧ TakeR D es e r es' ∧ (d' = d ∨ nx ≤ d') ∧ nx ≤ nx' ∧ Keep t t' nx (fun x => x = 89 ∨ x = d)) := by
 rcases (show e.node = 0 ∨ e.node = 1 ∨ (e.node ≠ 0 ∧ e.node ≠ 1) by omega) with hn0 | hn1 | ⟨hn0, hn1⟩
 · rw [show ecells e = [(.int .i64 e.time), (.int .i64 0), (.str e.val), (.int .i64 e.frm), (.int .i64 e.seq), (.bool e.anti)] from by unfold ecells; rw [hn0]]
   have h0 := hP.h0
   have hd0 := hP.hd
   have hd1 := hP.hQ.1
   have hs0 := hP.hs
   refine k_fun ptake_tab rfl ?_
   unfold ptake_c
   change WC _ _ (TA.put (some _) (TA.put (some _) TA.e 0) 1) _ _ _
   refine k_seq (k_reg (r_heap (o_box (eV get_same)) rfl (fun t1 (hh2 : hv t1 = upd (hv t) nx (some (.row [(.int .i64 e.time), (.int .i64 0), (.str e.val), (.int .i64 e.frm), (.int .i64 e.seq), (.bool e.anti)] true))) => rO (o_mov ev_c) (r_nil (k_seq (k_seq (k_draw (eO 0 rfl (o_mov (eV (z2 (get_other rfl get_same)))) (d_call (ix := 1) (pr := [0]) (d := (some 7)) (g := none) (F' := []) (w_callF (evs_cons eZ evs_nil)) rfl (by kernel_rfl) (by kernel_rfl) (by kernel_rfl) (by kernel_rfl) (WF.mono (given_ok (hP.keep (n' := (nx + 1)) (show Keep t t1 nx (fun _ => False) from kU kR hh2) (fun _ h => h.elim) (by omega))) ?_))))))))))
   rintro _ t3 n4 ⟨rfl, hn_g, hk_g⟩
   refine ⟨?_, ?_⟩
   · exact all_nil_
   refine eO 2 rfl (o_not eZ) (eO 3 rfl (o_mov eZ) (e_op 4 rfl (o_faddr (off := 1) (eV (z1 (z4 ds)))) (want_on ds) (e_op 5 rfl (o_load eZ (Keep.look hk_g (by omega) id (lS hh2)) rfl) (want_on (z1 ds)) (e_op 6 rfl (dec_f (o_lss eZ ev_c) (by simp)) (want_on (z2 ds)) (eO 7 rfl (o_pick_f (eV (z1 (z2 ds))) eZ) (eO 8 rfl (o_mov eZ) (e_op 9 rfl (o_faddr (off := 1) (eV (z2 (z8 ds)))) (want_on ds) (e_op 10 rfl (o_load eZ (Keep.look hk_g (by omega) id (lS hh2)) rfl) (want_on (z1 ds)) (e_op 11 rfl (o_mov (eV (z1 (z4 (z8 (get_other rfl get_same)))))) (want_on (z2 ds)) (e_op 12 rfl (o_nilck eZ) (want_on (z1 (z2 ds))) (e_op 13 rfl (o_faddr (off := 0) eZ) (want_on (z4 ds)) (e_op 14 rfl (o_load eZ (Keep.look hk_g (by omega) id (lN hh2 hP.h88)) rfl) (want_on (z1 (z4 ds))) (e_op 15 rfl (o_nilck eZ) (want_on (z2 (z4 ds))) (e_op 16 rfl (o_faddr (off := 0) eZ) (want_on (z1 (z2 (z4 ds)))) (e_op 17 rfl (o_faddr (off := 0) eZ) (want_on (z8 ds)) (e_op 18 rfl (o_load eZ (Keep.look hk_g (by omega) id (lN hh2 hP.h87)) rfl) (want_on (z1 (z8 ds))) (e_op 19 rfl (o_len_slice eZ) (want_on (z2 (z8 ds))) (e_op 20 rfl (ndec_f (o_geq (eV (z1 (z8 ds))) eZ) (by simp)) (want_on (z1 (z2 (z8 ds)))) (eO 21 rfl (o_pick_f (eV (z4 (z8 ds))) eZ) (e_done (k_cond_f eZ (k_skip (k_seq (k_draw ?_))))))))))))))))))))))))
   refine eO 0 rfl (o_mov (eV (z8 (z8 (z8 (get_other rfl get_same)))))) (eO 1 rfl (o_nilck eZ) (eO 2 rfl (o_faddr (off := 0) eZ) (eO 3 rfl (o_load eZ (Keep.look hk_g (by omega) id (lN hh2 hP.h88)) rfl) (eO 4 rfl (o_nilck eZ) (eO 5 rfl (o_faddr (off := 0) eZ) (eO 6 rfl (o_faddr (off := 0) eZ) (eO 7 rfl (o_load eZ (Keep.look hk_g (by omega) id (lN hh2 hP.h87)) rfl) (eO 8 rfl (o_faddr (off := 1) (eV (z1 (z2 (z4 (z8 (z8 (z8 ds)))))))) (eO 9 rfl (o_load eZ (Keep.look hk_g (by omega) id (lS hh2)) rfl) (eO 10 rfl (o_iaddr (i := 0) (eV (z2 ds)) eZ (by omega)) (eO 11 rfl (o_loadA (n := 8) eZ (Keep.look hk_g (by omega) id (lN hh2 hP.h4)) (leb rfl) rfl) ?_)))))))))))
   refine d_heap (ix := 12) (pr := []) (d := (some 5)) (g := none) (F' := [(⟨11, [10], .o 39 (.loadA 8 (.t 38))⟩, (.agg [(.int .i64 2), (.int .i64 0), (.int .i64 1), .nslice, (.str []), (.int .i64 0), (.int .i64 0), (.int .i64 0)])), (⟨10, [7, 9], .o 38 (.iaddr 8 (.t 35) (.t 37))⟩, (.ptr 4 (0 + 0 * 8))), (⟨9, [8], .o 37 (.load (.t 36))⟩, (.int .i64 0)), (⟨8, [], .o 36 (.faddr (.t 3) 1)⟩, (.ptr nx 1)), (⟨7, [6], .o 35 (.load (.t 34))⟩, (.slice 4 0 2 2 8 true)), (⟨6, [5], .o 34 (.faddr (.t 33) 0)⟩, (.ptr 87 0)), (⟨5, [4], .o 33 (.faddr (.t 32) 0)⟩, (.ptr 87 0)), (⟨4, [3], .o 32 (.nilck (.t 31))⟩, (.ptr 87 0)), (⟨3, [2], .o 31 (.load (.t 30))⟩, (.ptr 87 0)), (⟨2, [1], .o 30 (.faddr (.t 29) 0)⟩, (.ptr 88 0)), (⟨1, [0], .o 29 (.nilck (.t 28))⟩, (.ptr 88 0)), (⟨0, [], .mv 28 0⟩, (.ptr 88 0))]) (o := (.alloc [(.int .i64 0), (.int .i64 0), (.int .i64 0), .nslice, (.str []), (.int .i64 0), (.int .i64 0), (.int .i64 0)])) (o_alloc) rfl (by kernel_rfl) (by kernel_rfl) (by kernel_rfl) (by kernel_rfl) (fun t5 (hh6 : hv t5 = upd (hv t3) n4 (some (.row [(.int .i64 0), (.int .i64 0), (.int .i64 0), .nslice, (.str []), (.int .i64 0), (.int .i64 0), (.int .i64 0)] true))) => ⟨?_, ?_⟩)
   · exact (all_cons_ (still_op rfl rfl (o_loadA (n := 8) (eV (z2 ds)) (lN hh6 (Keep.look hk_g (by omega) id (lN hh2 hP.h4))) (leb rfl) rfl) (aeq_agg (by simp [flatC]))) (all_cons_ (still_op rfl rfl (o_iaddr (i := 0) (eV (z1 (z4 ds))) (eV (z1 (z2 ds))) (by omega)) (aeq_flat rfl)) (all_cons_ (still_op rfl rfl (o_load (eV (z4 ds)) (lN hh6 (Keep.look hk_g (by omega) id (lS hh2))) rfl) (aeq_flat rfl)) (all_cons_ (still_op rfl rfl (o_faddr (off := 1) (eV (z4 (z8 (z8 (z8 (z8 ds))))))) (aeq_flat rfl)) (all_cons_ (still_op rfl rfl (o_load (eV (z2 (z4 ds))) (lN hh6 (Keep.look hk_g (by omega) id (lN hh2 hP.h87))) rfl) (aeq_flat rfl)) (all_cons_ (still_op rfl rfl (o_faddr (off := 0) (eV (z1 (z2 (z4 ds))))) (aeq_flat rfl)) (all_cons_ (still_op rfl rfl (o_faddr (off := 0) (eV (z8 ds))) (aeq_flat rfl)) (all_cons_ (still_op rfl rfl (o_nilck (eV (z1 (z8 ds)))) (aeq_flat rfl)) (all_cons_ (still_op rfl rfl (o_load (eV (z2 (z8 ds))) (lN hh6 (Keep.look hk_g (by omega) id (lN hh2 hP.h88))) rfl) (aeq_flat rfl)) (all_cons_ (still_op rfl rfl (o_faddr (off := 0) (eV (z1 (z2 (z8 ds))))) (aeq_flat rfl)) (all_cons_ (still_op rfl rfl (o_nilck (eV (z4 (z8 ds)))) (aeq_flat rfl)) (all_cons_ (still_op rfl rfl (o_mov (eV (z1 (z4 (z8 (z8 (z8 (z8 (get_other rfl get_same))))))))) (aeq_flat rfl)) all_nil_))))))))))))
   refine d_heap (ix := 13) (pr := [12, 11, 0, 1, 2, 3, 4, 5, 6, 7, 8, 9, 10, 11, 12]) (d := none) (g := none) (F' := []) (o := (.store 8 (.t 5) (.t 39))) (o_store (n := 8) eZ (eV (z1 ds)) (lS hh6) rfl rfl (leb rfl)) rfl (by kernel_rfl) (by kernel_rfl) (by kernel_rfl) (by kernel_rfl) (fun t7 (hh8 : hv t7 = upd (hv t5) n4 (some (.row [(.int .i64 2), (.int .i64 0), (.int .i64 1), .nslice, (.str []), (.int .i64 0), (.int .i64 0), (.int .i64 0)] true))) => ⟨?_, ?_⟩)
   · exact all_nil_
   refine e_done (k_seq (k_seq (k_draw (e_opT (on := []) gon_nil 0 rfl (o_faddr (off := 0) (eV (z1 ds))) rfl (e_opT (on := []) gon_nil 1 rfl (o_load eZ (lS hh8) rfl) rfl (e_opT (on := []) gon_nil 2 rfl (ndec_t (o_neq eZ ev_c) (by simp)) rfl (e_opT (on := []) gon_nil 3 rfl (o_mov eZ) rfl (e_offT (on := []) gon_nil 4 rfl (wN ds) (e_offT (on := []) gon_nil 5 rfl (wN (z1 ds)) (e_offT (on := []) gon_nil 6 rfl (wN (z2 ds)) (e_offT (on := []) gon_nil 7 rfl (wN (z1 (z2 ds))) (e_offT (on := []) gon_nil 8 rfl (wN (z4 ds)) (e_offT (on := []) gon_nil 9 rfl (wN (z1 (z4 ds))) (e_offT (on := []) gon_nil 10 rfl (wN (z2 (z4 ds))) (e_offT (on := []) gon_nil 11 rfl (wN (z1 (z2 (z4 ds)))) (e_offT (on := []) gon_nil 12 rfl (wN (z8 ds)) (e_offT (on := []) gon_nil 13 rfl (wN (z1 (z8 ds))) (e_offT (on := []) gon_nil 14 rfl (wN (z2 (z8 ds))) (e_offT (on := []) gon_nil 15 rfl (wN (z1 (z2 (z8 ds)))) (e_offT (on := []) gon_nil 16 rfl (wN (z4 (z8 ds))) (e_offT (on := []) gon_nil 17 rfl (wN (z1 (z4 (z8 ds)))) (e_offT (on := []) gon_nil 18 rfl (wN (z2 (z4 (z8 ds)))) (e_offT (on := []) gon_nil 19 rfl (wN (z1 (z2 (z4 (z8 ds))))) (e_offT (on := []) gon_nil 20 rfl (wN (z8 (z8 ds))) (e_offT (on := []) gon_nil 21 rfl (wN (z1 (z8 (z8 ds)))) (e_offT (on := []) gon_nil 22 rfl (wN (z2 (z8 (z8 ds)))) ?_))))))))))))))))))))))))))
   refine e_offT (on := []) gon_nil 23 rfl (wN (z1 (z2 (z8 (z8 ds))))) (e_opT (on := []) gon_nil 24 rfl (o_pick_t (eV (z4 (z8 (z8 ds)))) ev_c) rfl (e_opT (on := []) gon_nil 25 rfl (o_mov eZ) rfl (e_offT (on := []) gon_nil 26 rfl (wN ds) (e_offT (on := []) gon_nil 27 rfl (wN (z1 ds)) (e_offT (on := []) gon_nil 28 rfl (wN (z2 ds)) (e_offT (on := []) gon_nil 29 rfl (wN (z1 (z2 ds))) (e_offT (on := []) gon_nil 30 rfl (wN (z4 ds)) (e_offT (on := []) gon_nil 31 rfl (wN (z1 (z4 ds))) (e_offT (on := []) gon_nil 32 rfl (wN (z2 (z4 ds))) (e_offT (on := []) gon_nil 33 rfl (wN (z1 (z2 (z4 ds)))) (e_offT (on := []) gon_nil 34 rfl (wN (z8 ds)) (e_offT (on := []) gon_nil 35 rfl (wN (z1 (z8 ds))) (e_offT (on := []) gon_nil 36 rfl (wN (z2 (z8 ds))) (e_offT (on := []) gon_nil 37 rfl (wN (z1 (z2 (z8 ds)))) (e_offT (on := []) gon_nil 38 rfl (wN (z4 (z8 ds))) (e_offT (on := []) gon_nil 39 rfl (wN (z1 (z4 (z8 ds)))) (e_offT (on := []) gon_nil 40 rfl (wN (z2 (z4 (z8 ds)))) (e_offT (on := []) gon_nil 41 rfl (wN (z1 (z2 (z4 (z8 ds))))) (e_offT (on := []) gon_nil 42 rfl (wN (z8 (z8 ds))) (e_opT (on := []) gon_nil 43 rfl (o_pick_t (eV (z1 (z8 (z8 ds)))) ev_c) rfl (e_opT (on := []) gon_nil 44 rfl (o_mov eZ) rfl (e_offT (on := []) gon_nil 45 rfl (wN ds) (e_offT (on := []) gon_nil 46 rfl (wN (z1 ds)) ?_)))))))))))))))))))))))
   refine e_offT (on := []) gon_nil 47 rfl (wN (z2 ds)) (e_offT (on := []) gon_nil 48 rfl (wN (z1 (z2 ds))) (e_offT (on := []) gon_nil 49 rfl (wN (z4 ds)) (e_offT (on := []) gon_nil 50 rfl (wN (z1 (z4 ds))) (e_offT (on := []) gon_nil 51 rfl (wN (z2 (z4 ds))) (e_offT (on := []) gon_nil 52 rfl (wN (z1 (z2 (z4 ds)))) (e_offT (on := []) gon_nil 53 rfl (wN (z8 ds)) (e_offT (on := []) gon_nil 54 rfl (wN (z1 (z8 ds))) (e_opT (on := []) gon_nil 55 rfl (o_pick_t (eV (z2 (z8 ds))) ev_c) rfl (e_opT (on := []) gon_nil 56 rfl (o_mov eZ) rfl (e_offT (on := []) gon_nil 57 rfl (wN ds) (e_offT (on := []) gon_nil 58 rfl (wN (z1 ds)) (e_offT (on := []) gon_nil 59 rfl (wN (z2 ds)) (e_offT (on := []) gon_nil 60 rfl (wN (z1 (z2 ds))) (e_opT (on := []) gon_nil 61 rfl (o_pick_t (eV (z4 ds)) ev_c) rfl (e_opT (on := []) gon_nil 62 rfl (o_mov eZ) rfl (e_offT (on := []) gon_nil 63 rfl (wN ds) (e_offT (on := []) gon_nil 64 rfl (wN (z1 ds)) (e_offT (on := []) gon_nil 65 rfl (wN (z2 ds)) (e_offT (on := []) gon_nil 66 rfl (wN (z1 (z2 ds))) (e_offT (on := []) gon_nil 67 rfl (wN (z4 ds)) (e_offT (on := []) gon_nil 68 rfl (wN (z1 (z4 ds))) (e_opT (on := []) gon_nil 69 rfl (o_pick_t (eV (z2 (z4 ds))) ev_c) rfl (e_done (k_cond_t eZ (k_seq (k_reg (rO (o_mov ev_c) (r_nil (k_ret ?_)))))))))))))))))))))))))))))
   exact ⟨_, ans_tmp ds, _, es, d, rfl, (hP.keep (n' := (n4 + 1)) (show Keep t t7 nx (fun _ => False) from kU (kU (Keep.trans (kU kR hh2) hk_g (by omega) (fun d _ h => h)) hh6) hh8) (fun _ h => h.elim) (by omega)), .inl ⟨rfl, rfl, fun hg => by obtain ⟨g1, g2, g3⟩ := hg; have g4 := of_one g3; first | omega | exact hrk.elim (fun h_ => absurd h_.1 (by omega)) (fun h_ => h_.2 g4.2)⟩, .inl rfl, by omega, kU (kU (Keep.trans (kU kR hh2) hk_g (by omega) ((fun _ _ h => h.elim))) hh6) hh8⟩
 · rw [show ecells e = [(.int .i64 e.time), (.int .i64 1), (.str e.val), (.int .i64 e.frm), (.int .i64 e.seq), (.bool e.anti)] from by unfold ecells; rw [hn1]]
   have h0 := hP.h0
   have hd0 := hP.hd
   have hd1 := hP.hQ.1
   have hs0 := hP.hs
   refine k_fun ptake_tab rfl ?_
   unfold ptake_c
   change WC _ _ (TA.put (some _) (TA.put (some _) TA.e 0) 1) _ _ _
   refine k_seq (k_reg (r_heap (o_box (eV get_same)) rfl (fun t1 (hh2 : hv t1 = upd (hv t) nx (some (.row [(.int .i64 e.time), (.int .i64 1), (.str e.val), (.int .i64 e.frm), (.int .i64 e.seq), (.bool e.anti)] true))) => rO (o_mov ev_c) (r_nil (k_seq (k_seq (k_draw (eO 0 rfl (o_mov (eV (z2 (get_other rfl get_same)))) (d_call (ix := 1) (pr := [0]) (d := (some 7)) (g := none) (F' := []) (w_callF (evs_cons eZ evs_nil)) rfl (by kernel_rfl) (by kernel_rfl) (by kernel_rfl) (by kernel_rfl) (WF.mono (given_ok (hP.keep (n' := (nx + 1)) (show Keep t t1 nx (fun _ => False) from kU kR hh2) (fun _ h => h.elim) (by omega))) ?_))))))))))
   rintro _ t3 n4 ⟨rfl, hn_g, hk_g⟩
   refine ⟨?_, ?_⟩
   · exact all_nil_
   refine eO 2 rfl (o_not eZ) (eO 3 rfl (o_mov eZ) (e_op 4 rfl (o_faddr (off := 1) (eV (z1 (z4 ds)))) (want_on ds) (e_op 5 rfl (o_load eZ (Keep.look hk_g (by omega) id (lS hh2)) rfl) (want_on (z1 ds)) (e_op 6 rfl (dec_f (o_lss eZ ev_c) (by simp)) (want_on (z2 ds)) (eO 7 rfl (o_pick_f (eV (z1 (z2 ds))) eZ) (eO 8 rfl (o_mov eZ) (e_op 9 rfl (o_faddr (off := 1) (eV (z2 (z8 ds)))) (want_on ds) (e_op 10 rfl (o_load eZ (Keep.look hk_g (by omega) id (lS hh2)) rfl) (want_on (z1 ds)) (e_op 11 rfl (o_mov (eV (z1 (z4 (z8 (get_other rfl get_same)))))) (want_on (z2 ds)) (e_op 12 rfl (o_nilck eZ) (want_on (z1 (z2 ds))) (e_op 13 rfl (o_faddr (off := 0) eZ) (want_on (z4 ds)) (e_op 14 rfl (o_load eZ (Keep.look hk_g (by omega) id (lN hh2 hP.h88)) rfl) (want_on (z1 (z4 ds))) (e_op 15 rfl (o_nilck eZ) (want_on (z2 (z4 ds))) (e_op 16 rfl (o_faddr (off := 0) eZ) (want_on (z1 (z2 (z4 ds)))) (e_op 17 rfl (o_faddr (off := 0) eZ) (want_on (z8 ds)) (e_op 18 rfl (o_load eZ (Keep.look hk_g (by omega) id (lN hh2 hP.h87)) rfl) (want_on (z1 (z8 ds))) (e_op 19 rfl (o_len_slice eZ) (want_on (z2 (z8 ds))) (e_op 20 rfl (ndec_f (o_geq (eV (z1 (z8 ds))) eZ) (by simp)) (want_on (z1 (z2 (z8 ds)))) (eO 21 rfl (o_pick_f (eV (z4 (z8 ds))) eZ) (e_done (k_cond_f eZ (k_skip (k_seq (k_draw ?_))))))))))))))))))))))))
   refine eO 0 rfl (o_mov (eV (z8 (z8 (z8 (get_other rfl get_same)))))) (eO 1 rfl (o_nilck eZ) (eO 2 rfl (o_faddr (off := 0) eZ) (eO 3 rfl (o_load eZ (Keep.look hk_g (by omega) id (lN hh2 hP.h88)) rfl) (eO 4 rfl (o_nilck eZ) (eO 5 rfl (o_faddr (off := 0) eZ) (eO 6 rfl (o_faddr (off := 0) eZ) (eO 7 rfl (o_load eZ (Keep.look hk_g (by omega) id (lN hh2 hP.h87)) rfl) (eO 8 rfl (o_faddr (off := 1) (eV (z1 (z2 (z4 (z8 (z8 (z8 ds)))))))) (eO 9 rfl (o_load eZ (Keep.look hk_g (by omega) id (lS hh2)) rfl) (eO 10 rfl (o_iaddr (i := 1) (eV (z2 ds)) eZ (by omega)) (eO 11 rfl (o_loadA (n := 8) eZ (Keep.look hk_g (by omega) id (lN hh2 hP.h4)) (leb rfl) rfl) ?_)))))))))))
   refine d_heap (ix := 12) (pr := []) (d := (some 5)) (g := none) (F' := [(⟨11, [10], .o 39 (.loadA 8 (.t 38))⟩, (.agg [(.int .i64 8), (.int .i64 0), (.int .i64 1), (.slice 3 0 1 1 1 true), (.str []), (.int .i64 0), (.int .i64 0), (.int .i64 2)])), (⟨10, [7, 9], .o 38 (.iaddr 8 (.t 35) (.t 37))⟩, (.ptr 4 (0 + 1 * 8))), (⟨9, [8], .o 37 (.load (.t 36))⟩, (.int .i64 1)), (⟨8, [], .o 36 (.faddr (.t 3) 1)⟩, (.ptr nx 1)), (⟨7, [6], .o 35 (.load (.t 34))⟩, (.slice 4 0 2 2 8 true)), (⟨6, [5], .o 34 (.faddr (.t 33) 0)⟩, (.ptr 87 0)), (⟨5, [4], .o 33 (.faddr (.t 32) 0)⟩, (.ptr 87 0)), (⟨4, [3], .o 32 (.nilck (.t 31))⟩, (.ptr 87 0)), (⟨3, [2], .o 31 (.load (.t 30))⟩, (.ptr 87 0)), (⟨2, [1], .o 30 (.faddr (.t 29) 0)⟩, (.ptr 88 0)), (⟨1, [0], .o 29 (.nilck (.t 28))⟩, (.ptr 88 0)), (⟨0, [], .mv 28 0⟩, (.ptr 88 0))]) (o := (.alloc [(.int .i64 0), (.int .i64 0), (.int .i64 0), .nslice, (.str []), (.int .i64 0), (.int .i64 0), (.int .i64 0)])) (o_alloc) rfl (by kernel_rfl) (by kernel_rfl) (by kernel_rfl) (by kernel_rfl) (fun t5 (hh6 : hv t5 = upd (hv t3) n4 (some (.row [(.int .i64 0), (.int .i64 0), (.int .i64 0), .nslice, (.str []), (.int .i64 0), (.int .i64 0), (.int .i64 0)] true))) => ⟨?_, ?_⟩)
   · exact (all_cons_ (still_op rfl rfl (o_loadA (n := 8) (eV (z2 ds)) (lN hh6 (Keep.look hk_g (by omega) id (lN hh2 hP.h4))) (leb rfl) rfl) (aeq_agg (by simp [flatC]))) (all_cons_ (still_op rfl rfl (o_iaddr (i := 1) (eV (z1 (z4 ds))) (eV (z1 (z2 ds))) (by omega)) (aeq_flat rfl)) (all_cons_ (still_op rfl rfl (o_load (eV (z4 ds)) (lN hh6 (Keep.look hk_g (by omega) id (lS hh2))) rfl) (aeq_flat rfl)) (all_cons_ (still_op rfl rfl (o_faddr (off := 1) (eV (z4 (z8 (z8 (z8 (z8 ds))))))) (aeq_flat rfl)) (all_cons_ (still_op rfl rfl (o_load (eV (z2 (z4 ds))) (lN hh6 (Keep.look hk_g (by omega) id (lN hh2 hP.h87))) rfl) (aeq_flat rfl)) (all_cons_ (still_op rfl rfl (o_faddr (off := 0) (eV (z1 (z2 (z4 ds))))) (aeq_flat rfl)) (all_cons_ (still_op rfl rfl (o_faddr (off := 0) (eV (z8 ds))) (aeq_flat rfl)) (all_cons_ (still_op rfl rfl (o_nilck (eV (z1 (z8 ds)))) (aeq_flat rfl)) (all_cons_ (still_op rfl rfl (o_load (eV (z2 (z8 ds))) (lN hh6 (Keep.look hk_g (by omega) id (lN hh2 hP.h88))) rfl) (aeq_flat rfl)) (all_cons_ (still_op rfl rfl (o_faddr (off := 0) (eV (z1 (z2 (z8 ds))))) (aeq_flat rfl)) (all_cons_ (still_op rfl rfl (o_nilck (eV (z4 (z8 ds)))) (aeq_flat rfl)) (all_cons_ (still_op rfl rfl (o_mov (eV (z1 (z4 (z8 (z8 (z8 (z8 (get_other rfl get_same))))))))) (aeq_flat rfl)) all_nil_))))))))))))
   refine d_heap (ix := 13) (pr := [12, 11, 0, 1, 2, 3, 4, 5, 6, 7, 8, 9, 10, 11, 12]) (d := none) (g := none) (F' := []) (o := (.store 8 (.t 5) (.t 39))) (o_store (n := 8) eZ (eV (z1 ds)) (lS hh6) rfl rfl (leb rfl)) rfl (by kernel_rfl) (by kernel_rfl) (by kernel_rfl) (by kernel_rfl) (fun t7 (hh8 : hv t7 = upd (hv t5) n4 (some (.row [(.int .i64 8), (.int .i64 0), (.int .i64 1), (.slice 3 0 1 1 1 true), (.str []), (.int .i64 0), (.int .i64 0), (.int .i64 2)] true))) => ⟨?_, ?_⟩)
   · exact all_nil_
   refine e_done (k_seq (k_seq (k_draw (e_opT (on := []) gon_nil 0 rfl (o_faddr (off := 0) (eV (z1 ds))) rfl (e_opT (on := []) gon_nil 1 rfl (o_load eZ (lS hh8) rfl) rfl (e_opT (on := []) gon_nil 2 rfl (ndec_f (o_neq eZ ev_c) (by simp)) rfl (e_opT (on := []) gon_nil 3 rfl (o_mov eZ) rfl (e_opT (on := []) gon_nil 4 rfl (o_mov (eV (z2 (z8 (z8 (z8 (z8 (z8 (get_other rfl get_same))))))))) (want_on ds) (e_opT (on := []) gon_nil 5 rfl (o_nilck eZ) (want_on (z1 ds)) (e_opT (on := []) gon_nil 6 rfl (o_faddr (off := 0) eZ) (want_on (z2 ds)) (e_opT (on := []) gon_nil 7 rfl (o_load eZ (lN hh8 (lN hh6 (Keep.look hk_g (by omega) id (lN hh2 hP.h88)))) rfl) (want_on (z1 (z2 ds))) (e_opT (on := []) gon_nil 8 rfl (o_nilck eZ) (want_on (z4 ds)) (e_opT (on := []) gon_nil 9 rfl (o_faddr (off := 3) eZ) (want_on (z1 (z4 ds))) (e_opT (on := []) gon_nil 10 rfl (o_faddr (off := 0) eZ) (want_on (z2 (z4 ds))) (e_opT (on := []) gon_nil 11 rfl (o_load eZ (lN hh8 (lN hh6 (Keep.look hk_g (by omega) id (lN hh2 hP.h87)))) rfl) (want_on (z1 (z2 (z4 ds)))) (e_opT (on := []) gon_nil 12 rfl (o_faddr (off := 1) (eV (z1 (z8 (z8 (z8 (z8 (z8 (z8 ds))))))))) (want_on (z8 ds)) (e_opT (on := []) gon_nil 13 rfl (o_load eZ (lN hh8 (lN hh6 (Keep.look hk_g (by omega) id (lS hh2)))) rfl) (want_on (z1 (z8 ds))) ?_)))))))))))))))))
   refine e_opT (on := []) gon_nil 14 rfl (o_iaddr (i := 1) (eV (z2 ds)) eZ (by omega)) (want_on (z2 (z8 ds))) (e_opT (on := []) gon_nil 15 rfl (o_load eZ (lN hh8 (lN hh6 (Keep.look hk_g (by omega) id (lN hh2 hP.h7)))) rfl) (want_on (z1 (z2 (z8 ds)))) (e_opT (on := []) gon_nil 16 rfl (o_mov (eV (z2 (z4 (z8 (z8 (z8 (z8 (z8 (z8 (get_other rfl get_same))))))))))) (want_on (z4 (z8 ds))) (e_opT (on := []) gon_nil 17 rfl (o_nilck eZ) (want_on (z1 (z4 (z8 ds)))) (e_opT (on := []) gon_nil 18 rfl (o_faddr (off := 0) eZ) (want_on (z2 (z4 (z8 ds)))) (e_opT (on := []) gon_nil 19 rfl (o_load eZ (lN hh8 (lN hh6 (Keep.look hk_g (by omega) id (lN hh2 hP.h88)))) rfl) (want_on (z1 (z2 (z4 (z8 ds))))) (e_opT (on := []) gon_nil 20 rfl (o_nilck eZ) (want_on (z8 (z8 ds))) (e_opT (on := []) gon_nil 21 rfl (o_faddr (off := 6) eZ) (want_on (z1 (z8 (z8 ds)))) (e_opT (on := []) gon_nil 22 rfl (o_load eZ (lN hh8 (lN hh6 (Keep.look hk_g (by omega) id (lN hh2 hP.h87)))) rfl) (want_on (z2 (z8 (z8 ds)))) (e_opT (on := []) gon_nil 23 rfl (ndec_f (o_neq (eV (z1 (z2 (z4 ds)))) eZ) (by simp)) (want_on (z1 (z2 (z8 (z8 ds))))) (e_opT (on := []) gon_nil 24 rfl (o_pick_f (eV (z4 (z8 (z8 ds)))) eZ) rfl (e_opT (on := []) gon_nil 25 rfl (o_mov eZ) rfl (e_opT (on := []) gon_nil 26 rfl (o_mov (eV (z8 (z8 (z8 (z8 (z8 (z8 (z8 (z8 (get_other rfl get_same))))))))))) (want_on ds) ?_))))))))))))
   refine e_opT (on := []) gon_nil 27 rfl (o_nilck eZ) (want_on (z1 ds)) (e_opT (on := []) gon_nil 28 rfl (o_faddr (off := 0) eZ) (want_on (z2 ds)) (e_opT (on := []) gon_nil 29 rfl (o_load eZ (lN hh8 (lN hh6 (Keep.look hk_g (by omega) id (lN hh2 hP.h88)))) rfl) (want_on (z1 (z2 ds))) (e_opT (on := []) gon_nil 30 rfl (o_nilck eZ) (want_on (z4 ds)) (e_opT (on := []) gon_nil 31 rfl (o_faddr (off := 3) eZ) (want_on (z1 (z4 ds))) (e_opT (on := []) gon_nil 32 rfl (o_faddr (off := 0) eZ) (want_on (z2 (z4 ds))) (e_opT (on := []) gon_nil 33 rfl (o_load eZ (lN hh8 (lN hh6 (Keep.look hk_g (by omega) id (lN hh2 hP.h87)))) rfl) (want_on (z1 (z2 (z4 ds)))) (e_opT (on := []) gon_nil 34 rfl (o_faddr (off := 3) (eV (z1 (z2 (z8 (z8 (z8 (z8 ds)))))))) (want_on (z8 ds)) (e_opT (on := []) gon_nil 35 rfl (o_load eZ (lS hh8) rfl) (want_on (z1 (z8 ds))) (e_opT (on := []) gon_nil 36 rfl (o_iaddr (i := 0) eZ ev_c (by omega)) (want_on (z2 (z8 ds))) (e_opT (on := []) gon_nil 37 rfl (o_load eZ (lN hh8 (lN hh6 (Keep.look hk_g (by omega) id (lN hh2 hP.h3)))) rfl) (want_on (z1 (z2 (z8 ds)))) (e_opT (on := []) gon_nil 38 rfl (o_iaddr (i := 0) (eV (z4 ds)) eZ (by omega)) (want_on (z4 (z8 ds))) (e_opT (on := []) gon_nil 39 rfl (o_load eZ (lN hh8 (lN hh6 (Keep.look hk_g (by omega) id (lN hh2 hP.h7)))) rfl) (want_on (z1 (z4 (z8 ds)))) ?_))))))))))))
   refine e_opT (on := []) gon_nil 40 rfl (o_faddr (off := 3) (eV (z1 (z4 (z8 (z8 (z8 (z8 (z8 (z8 (z8 (z8 (z8 ds))))))))))))) (want_on (z2 (z4 (z8 ds)))) (e_opT (on := []) gon_nil 41 rfl (o_load eZ (lN hh8 (lN hh6 (Keep.look hk_g (by omega) id (lS hh2)))) rfl) (want_on (z1 (z2 (z4 (z8 ds))))) ?_)
   by_cases hs9 : (0 = e.frm)
   · refine e_opT (on := []) gon_nil 42 rfl (ndec_f (o_neq (eV (z2 ds)) eZ) hs9) (want_on (z8 (z8 ds))) (e_opT (on := []) gon_nil 43 rfl (o_pick_f (eV (z1 (z8 (z8 ds)))) eZ) rfl (e_opT (on := []) gon_nil 44 rfl (o_mov eZ) rfl (e_opT (on := []) gon_nil 45 rfl (o_faddr (off := 3) (eV (z2 (z8 (z8 (z8 (z8 (z8 (z8 (z8 (z8 (z8 (z8 ds))))))))))))) (want_on ds) (e_opT (on := []) gon_nil 46 rfl (o_load eZ (lN hh8 (lN hh6 (Keep.look hk_g (by omega) id (lS hh2)))) rfl) (want_on (z1 ds)) (e_opT (on := []) gon_nil 47 rfl (o_mov (eV (z1 (z4 (z8 (z8 (z8 (z8 (z8 (z8 (z8 (z8 (z8 (z8 (get_other rfl get_same))))))))))))))) (want_on (z2 ds)) (e_opT (on := []) gon_nil 48 rfl (o_nilck eZ) (want_on (z1 (z2 ds))) (e_opT (on := []) gon_nil 49 rfl (o_faddr (off := 0) eZ) (want_on (z4 ds)) (e_opT (on := []) gon_nil 50 rfl (o_load eZ (lN hh8 (lN hh6 (Keep.look hk_g (by omega) id (lN hh2 hP.h88)))) rfl) (want_on (z1 (z4 ds))) (e_opT (on := []) gon_nil 51 rfl (o_nilck eZ) (want_on (z2 (z4 ds))) (e_opT (on := []) gon_nil 52 rfl (o_faddr (off := 6) eZ) (want_on (z1 (z2 (z4 ds)))) (e_opT (on := []) gon_nil 53 rfl (o_load eZ (lN hh8 (lN hh6 (Keep.look hk_g (by omega) id (lN hh2 hP.h87)))) rfl) (want_on (z8 ds)) ?_)))))))))))
     by_cases hs10 : (e.frm = 1)
     · refine e_opT (on := []) gon_nil 54 rfl (dec_t (o_eql (eV (z1 (z2 (z4 ds)))) eZ) hs10) (want_on (z1 (z8 ds))) (e_opT (on := []) gon_nil 55 rfl (o_pick_f (eV (z2 (z8 ds))) eZ) rfl (e_opT (on := []) gon_nil 56 rfl (o_mov eZ) rfl (e_offT (on := []) gon_nil 57 rfl (wN ds) (e_offT (on := []) gon_nil 58 rfl (wN (z1 ds)) (e_offT (on := []) gon_nil 59 rfl (wN (z2 ds)) (e_offT (on := []) gon_nil 60 rfl (wN (z1 (z2 ds))) (e_opT (on := []) gon_nil 61 rfl (o_pick_t (eV (z4 ds)) ev_c) rfl (e_opT (on := []) gon_nil 62 rfl (o_mov eZ) rfl (e_offT (on := []) gon_nil 63 rfl (wN ds) (e_offT (on := []) gon_nil 64 rfl (wN (z1 ds)) (e_offT (on := []) gon_nil 65 rfl (wN (z2 ds)) (e_offT (on := []) gon_nil 66 rfl (wN (z1 (z2 ds))) (e_offT (on := []) gon_nil 67 rfl (wN (z4 ds)) (e_offT (on := []) gon_nil 68 rfl (wN (z1 (z4 ds))) (e_opT (on := []) gon_nil 69 rfl (o_pick_t (eV (z2 (z4 ds))) ev_c) rfl (e_done (k_cond_t eZ (k_seq (k_reg (rO (o_mov ev_c) (r_nil (k_ret ?_))))))))))))))))))))))
       exact ⟨_, ans_tmp ds, _, es, d, rfl, (hP.keep (n' := (n4 + 1)) (show Keep t t7 nx (fun _ => False) from kU (kU (Keep.trans (kU kR hh2) hk_g (by omega) (fun d _ h => h)) hh6) hh8) (fun _ h => h.elim) (by omega)), .inl ⟨rfl, rfl, fun hg => by obtain ⟨g1, g2, g3⟩ := hg; have g4 := of_one g3; first | omega | exact hrk.elim (fun h_ => absurd h_.1 (by omega)) (fun h_ => h_.2 g4.2)⟩, .inl rfl, by omega, kU (kU (Keep.trans (kU kR hh2) hk_g (by omega) ((fun _ _ h => h.elim))) hh6) hh8⟩
     refine e_opT (on := []) gon_nil 54 rfl (dec_f (o_eql (eV (z1 (z2 (z4 ds)))) eZ) hs10) (want_on (z1 (z8 ds))) (e_opT (on := []) gon_nil 55 rfl (o_pick_f (eV (z2 (z8 ds))) eZ) rfl (e_opT (on := []) gon_nil 56 rfl (o_mov eZ) rfl (e_opT (on := [(96, false)]) (gon_cons (want_on ds) gon_nil) 57 rfl (o_faddr (off := 2) (eV (z2 (z4 (z8 (z8 (z8 (z8 (z8 (z8 (z8 (z8 (z8 (z8 (z8 ds))))))))))))))) (want_on ds) (e_opT (on := [(96, false)]) (gon_cons (want_on (z1 ds)) gon_nil) 58 rfl (o_load eZ (lN hh8 (lN hh6 (Keep.look hk_g (by omega) id (lS hh2)))) rfl) (want_on (z1 ds)) (d_callT (on := [(96, false)]) (gon_cons (want_on (z2 ds)) gon_nil) (ix := 59) (pr := [58, 56, 56]) (d := (some 99)) (g := (some (96, false))) (F' := [(⟨52, [51, 44], .g 92 84 false (.faddr (.t 91) 6)⟩, (.ptr 87 6)), (⟨51, [50, 44], .g 91 84 false (.nilck (.t 90))⟩, (.ptr 87 0)), (⟨50, [49, 44], .g 90 84 false (.load (.t 89))⟩, (.ptr 87 0)), (⟨49, [48, 44], .g 89 84 false (.faddr (.t 88) 0)⟩, (.ptr 88 0)), (⟨48, [47, 44], .g 88 84 false (.nilck (.t 87))⟩, (.ptr 88 0)), (⟨47, [44], .g 87 84 false (.mov (.t 0))⟩, (.ptr 88 0)), (⟨45, [44], .g 85 84 false (.faddr (.t 3) 3)⟩, (.ptr nx 3)), (⟨41, [40, 25], .g 81 65 false (.load (.t 80))⟩, (.int .i64 e.frm)), (⟨40, [25], .g 80 65 false (.faddr (.t 3) 3)⟩, (.ptr nx 3)), (⟨39, [38, 25], .g 79 65 false (.load (.t 78))⟩, (.int .i64 0)), (⟨38, [33, 37, 25], .g 78 65 false (.iaddr 1 (.t 73) (.t 77))⟩, (.ptr 7 (0 + 0 * 1))), (⟨37, [36, 25], .g 77 65 false (.load (.t 76))⟩, (.int .i64 0)), (⟨36, [35, 25], .g 76 65 false (.iaddr 1 (.t 75) (kI 0))⟩, (.ptr 3 (0 + 0 * 1))), (⟨35, [34, 25], .g 75 65 false (.load (.t 74))⟩, (.slice 3 0 1 1 1 true)), (⟨34, [25], .g 74 65 false (.faddr (.t 5) 3)⟩, (.ptr n4 3)), (⟨33, [32, 25], .g 73 65 false (.load (.t 72))⟩, (.slice 7 0 2 2 1 true)), (⟨32, [31, 25], .g 72 65 false (.faddr (.t 71) 0)⟩, (.ptr 87 3)), (⟨31, [30, 25], .g 71 65 false (.faddr (.t 70) 3)⟩, (.ptr 87 3)), (⟨30, [29, 25], .g 70 65 false (.nilck (.t 69))⟩, (.ptr 87 0)), (⟨29, [28, 25], .g 69 65 false (.load (.t 68))⟩, (.ptr 87 0)), (⟨28, [27, 25], .g 68 65 false (.faddr (.t 67) 0)⟩, (.ptr 88 0)), (⟨27, [26, 25], .g 67 65 false (.nilck (.t 66))⟩, (.ptr 88 0)), (⟨26, [25], .g 66 65 false (.mov (.t 0))⟩, (.ptr 88 0)), (⟨23, [15, 22, 3], .g 63 43 false (.bin .neq (.t 55) (.t 62))⟩, (.bool false)), (⟨22, [21, 3], .g 62 43 false (.load (.t 61))⟩, (.int .i64 1)), (⟨21, [20, 3], .g 61 43 false (.faddr (.t 60) 6)⟩, (.ptr 87 6)), (⟨20, [19, 3], .g 60 43 false (.nilck (.t 59))⟩, (.ptr 87 0)), (⟨19, [18, 3], .g 59 43 false (.load (.t 58))⟩, (.ptr 87 0)), (⟨18, [17, 3], .g 58 43 false (.faddr (.t 57) 0)⟩, (.ptr 88 0)), (⟨17, [16, 3], .g 57 43 false (.nilck (.t 56))⟩, (.ptr 88 0)), (⟨16, [3], .g 56 43 false (.mov (.t 0))⟩, (.ptr 88 0)), (⟨15, [14, 3], .g 55 43 false (.load (.t 54))⟩, (.int .i64 1)), (⟨14, [11, 13, 3], .g 54 43 false (.iaddr 1 (.t 51) (.t 53))⟩, (.ptr 7 (0 + 1 * 1))), (⟨13, [12, 3], .g 53 43 false (.load (.t 52))⟩, (.int .i64 1)), (⟨12, [3], .g 52 43 false (.faddr (.t 3) 1)⟩, (.ptr nx 1)), (⟨11, [10, 3], .g 51 43 false (.load (.t 50))⟩, (.slice 7 0 2 2 1 true)), (⟨10, [9, 3], .g 50 43 false (.faddr (.t 49) 0)⟩, (.ptr 87 3)), (⟨9, [8, 3], .g 49 43 false (.faddr (.t 48) 3)⟩, (.ptr 87 3)), (⟨8, [7, 3], .g 48 43 false (.nilck (.t 47))⟩, (.ptr 87 0)), (⟨7, [6, 3], .g 47 43 false (.load (.t 46))⟩, (.ptr 87 0)), (⟨6, [5, 3], .g 46 43 false (.faddr (.t 45) 0)⟩, (.ptr 88 0)), (⟨5, [4, 3], .g 45 43 false (.nilck (.t 44))⟩, (.ptr 88 0)), (⟨4, [3], .g 44 43 false (.mov (.t 0))⟩, (.ptr 88 0)), (⟨2, [1], .o 42 (.bin .neq (.t 41) (kI 8))⟩, (.bool false)), (⟨1, [0], .o 41 (.load (.t 40))⟩, (.int .i64 8)), (⟨0, [], .o 40 (.faddr (.t 5) 0)⟩, (.ptr n4 0))]) (w_callF (evs_cons eZ evs_nil)) (want_on (z2 ds)) (by kernel_rfl) (by kernel_rfl) (by kernel_rfl) (by kernel_rfl) (WF.mono (lcheck_ok e.val hv1 (by omega)) ?_))))))
     rintro _ t11 n12 ⟨rk, rfl, hrk, hn_k, hk_k⟩
     refine ⟨?_, ?_⟩
     · exact (all_cons_ (still_op (want_on (z1 (z2 (z4 (z8 ds))))) rfl (o_faddr (off := 6) (eV (z8 ds))) (aeq_flat rfl)) (all_cons_ (still_op (want_on (z1 (z2 (z4 (z8 ds))))) rfl (o_nilck (eV (z1 (z8 ds)))) (aeq_flat rfl)) (all_cons_ (still_op (want_on (z1 (z2 (z4 (z8 ds))))) rfl (o_load (eV (z2 (z8 ds))) (Keep.look hk_k (by omega) id (lN hh8 (lN hh6 (Keep.look hk_g (by omega) id (lN hh2 hP.h88))))) rfl) (aeq_flat rfl)) (all_cons_ (still_op (want_on (z1 (z2 (z4 (z8 ds))))) rfl (o_faddr (off := 0) (eV (z1 (z2 (z8 ds))))) (aeq_flat rfl)) (all_cons_ (still_op (want_on (z1 (z2 (z4 (z8 ds))))) rfl (o_nilck (eV (z4 (z8 ds)))) (aeq_flat rfl)) (all_cons_ (still_op (want_on (z1 (z2 (z4 (z8 ds))))) rfl (o_mov (eV (z2 (z8 (z8 (z8 (z8 (z8 (z8 (z8 (z8 (z8 (z8 (z8 (z8 (get_other rfl get_same)))))))))))))))) (aeq_flat rfl)) (all_cons_ (still_op (want_on (z1 (z2 (z4 (z8 ds))))) rfl (o_faddr (off := 3) (eV (z1 (z8 (z8 (z8 (z8 (z8 (z8 (z8 (z8 (z8 (z8 (z8 (z8 ds))))))))))))))) (aeq_flat rfl)) (all_cons_ (still_op (want_on (z2 (z8 (z8 (z8 (z8 ds)))))) rfl (o_load (eV (z1 (z2 (z8 (z8 ds))))) (Keep.look hk_k (by omega) id (lN hh8 (lN hh6 (Keep.look hk_g (by omega) id (lS hh2))))) rfl) (aeq_flat rfl)) (all_cons_ (still_op (want_on (z2 (z8 (z8 (z8 (z8 ds)))))) rfl (o_faddr (off := 3) (eV (z1 (z8 (z8 (z8 (z8 (z8 (z8 (z8 (z8 (z8 (z8 (z8 (z8 ds))))))))))))))) (aeq_flat rfl)) (all_cons_ (still_op (want_on (z2 (z8 (z8 (z8 (z8 ds)))))) rfl (o_load (eV (z1 (z4 (z8 (z8 ds))))) (Keep.look hk_k (by omega) id (lN hh8 (lN hh6 (Keep.look hk_g (by omega) id (lN hh2 hP.h7))))) rfl) (aeq_flat rfl)) (all_cons_ (still_op (want_on (z2 (z8 (z8 (z8 (z8 ds)))))) rfl (o_iaddr (i := 0) (eV (z2 (z8 (z8 (z8 ds))))) (eV (z2 (z4 (z8 (z8 ds))))) (by omega)) (aeq_flat rfl)) (all_cons_ (still_op (want_on (z2 (z8 (z8 (z8 (z8 ds)))))) rfl (o_load (eV (z1 (z2 (z4 (z8 (z8 ds)))))) (Keep.look hk_k (by omega) id (lN hh8 (lN hh6 (Keep.look hk_g (by omega) id (lN hh2 hP.h3))))) rfl) (aeq_flat rfl)) (all_cons_ (still_op (want_on (z2 (z8 (z8 (z8 (z8 ds)))))) rfl (o_iaddr (i := 0) (eV (z8 (z8 (z8 ds)))) ev_c (by omega)) (aeq_flat rfl)) (all_cons_ (still_op (want_on (z2 (z8 (z8 (z8 (z8 ds)))))) rfl (o_load (eV (z1 (z8 (z8 (z8 ds))))) (Keep.look hk_k (by omega) id (lS hh8)) rfl) (aeq_flat rfl)) (all_cons_ (still_op (want_on (z2 (z8 (z8 (z8 (z8 ds)))))) rfl (o_faddr (off := 3) (eV (z1 (z4 (z8 (z8 (z8 (z8 (z8 (z8 (z8 ds))))))))))) (aeq_flat rfl)) (all_cons_ (still_op (want_on (z2 (z8 (z8 (z8 (z8 ds)))))) rfl (o_load (eV (z1 (z2 (z8 (z8 (z8 ds)))))) (Keep.look hk_k (by omega) id (lN hh8 (lN hh6 (Keep.look hk_g (by omega) id (lN hh2 hP.h87))))) rfl) (aeq_flat rfl)) (all_cons_ (still_op (want_on (z2 (z8 (z8 (z8 (z8 ds)))))) rfl (o_faddr (off := 0) (eV (z4 (z8 (z8 (z8 ds)))))) (aeq_flat rfl)) (all_cons_ (still_op (want_on (z2 (z8 (z8 (z8 (z8 ds)))))) rfl (o_faddr (off := 3) (eV (z1 (z4 (z8 (z8 (z8 ds))))))) (aeq_flat rfl)) (all_cons_ (still_op (want_on (z2 (z8 (z8 (z8 (z8 ds)))))) rfl (o_nilck (eV (z2 (z4 (z8 (z8 (z8 ds))))))) (aeq_flat rfl)) (all_cons_ (still_op (want_on (z2 (z8 (z8 (z8 (z8 ds)))))) rfl (o_load (eV (z1 (z2 (z4 (z8 (z8 (z8 ds))))))) (Keep.look hk_k (by omega) id (lN hh8 (lN hh6 (Keep.look hk_g (by omega) id (lN hh2 hP.h88))))) rfl) (aeq_flat rfl)) (all_cons_ (still_op (want_on (z2 (z8 (z8 (z8 (z8 ds)))))) rfl (o_faddr (off := 0) (eV (z8 (z8 (z8 (z8 ds)))))) (aeq_flat rfl)) (all_cons_ (still_op (want_on (z2 (z8 (z8 (z8 (z8 ds)))))) rfl (o_nilck (eV (z1 (z8 (z8 (z8 (z8 ds))))))) (aeq_flat rfl)) (all_cons_ (still_op (want_on (z2 (z8 (z8 (z8 (z8 ds)))))) rfl (o_mov (eV (z2 (z8 (z8 (z8 (z8 (z8 (z8 (z8 (z8 (z8 (z8 (z8 (z8 (get_other rfl get_same)))))))))))))))) (aeq_flat rfl)) (all_cons_ (still_op (want_on (z8 (z8 (z8 (z8 (z8 (z8 (z8 ds)))))))) rfl (ndec_f (o_neq (eV (z4 (z8 (z8 (z8 (z8 (z8 ds))))))) (eV (z1 (z4 (z8 (z8 (z8 (z8 ds)))))))) (by simp)) (aeq_flat rfl)) (all_cons_ (still_op (want_on (z8 (z8 (z8 (z8 (z8 (z8 (z8 ds)))))))) rfl (o_load (eV (z2 (z4 (z8 (z8 (z8 (z8 ds))))))) (Keep.look hk_k (by omega) id (lN hh8 (lN hh6 (Keep.look hk_g (by omega) id (lN hh2 hP.h87))))) rfl) (aeq_flat rfl)) (all_cons_ (still_op (want_on (z8 (z8 (z8 (z8 (z8 (z8 (z8 ds)))))))) rfl (o_faddr (off := 6) (eV (z1 (z2 (z4 (z8 (z8 (z8 (z8 ds))))))))) (aeq_flat rfl)) (all_cons_ (still_op (want_on (z8 (z8 (z8 (z8 (z8 (z8 (z8 ds)))))))) rfl (o_nilck (eV (z8 (z8 (z8 (z8 (z8 ds))))))) (aeq_flat rfl)) (all_cons_ (still_op (want_on (z8 (z8 (z8 (z8 (z8 (z8 (z8 ds)))))))) rfl (o_load (eV (z1 (z8 (z8 (z8 (z8 (z8 ds))))))) (Keep.look hk_k (by omega) id (lN hh8 (lN hh6 (Keep.look hk_g (by omega) id (lN hh2 hP.h88))))) rfl) (aeq_flat rfl)) (all_cons_ (still_op (want_on (z8 (z8 (z8 (z8 (z8 (z8 (z8 ds)))))))) rfl (o_faddr (off := 0) (eV (z2 (z8 (z8 (z8 (z8 (z8 ds)))))))) (aeq_flat rfl)) (all_cons_ (still_op (want_on (z8 (z8 (z8 (z8 (z8 (z8 (z8 ds)))))))) rfl (o_nilck (eV (z1 (z2 (z8 (z8 (z8 (z8 (z8 ds))))))))) (aeq_flat rfl)) (all_cons_ (still_op (want_on (z8 (z8 (z8 (z8 (z8 (z8 (z8 ds)))))))) rfl (o_mov (eV (z2 (z8 (z8 (z8 (z8 (z8 (z8 (z8 (z8 (z8 (z8 (z8 (z8 (get_other rfl get_same)))))))))))))))) (aeq_flat rfl)) (all_cons_ (still_op (want_on (z8 (z8 (z8 (z8 (z8 (z8 (z8 ds)))))))) rfl (o_load (eV (z1 (z4 (z8 (z8 (z8 (z8 (z8 ds)))))))) (Keep.look hk_k (by omega) id (lN hh8 (lN hh6 (Keep.look hk_g (by omega) id (lN hh2 hP.h7))))) rfl) (aeq_flat rfl)) (all_cons_ (still_op (want_on (z8 (z8 (z8 (z8 (z8 (z8 (z8 ds)))))))) rfl (o_iaddr (i := 1) (eV (z8 (z8 (z8 (z8 (z8 (z8 ds))))))) (eV (z2 (z4 (z8 (z8 (z8 (z8 (z8 ds)))))))) (by omega)) (aeq_flat rfl)) (all_cons_ (still_op (want_on (z8 (z8 (z8 (z8 (z8 (z8 (z8 ds)))))))) rfl (o_load (eV (z1 (z2 (z4 (z8 (z8 (z8 (z8 (z8 ds))))))))) (Keep.look hk_k (by omega) id (lN hh8 (lN hh6 (Keep.look hk_g (by omega) id (lS hh2))))) rfl) (aeq_flat rfl)) (all_cons_ (still_op (want_on (z8 (z8 (z8 (z8 (z8 (z8 (z8 ds)))))))) rfl (o_faddr (off := 1) (eV (z1 (z8 (z8 (z8 (z8 (z8 (z8 (z8 (z8 (z8 (z8 (z8 (z8 ds))))))))))))))) (aeq_flat rfl)) (all_cons_ (still_op (want_on (z8 (z8 (z8 (z8 (z8 (z8 (z8 ds)))))))) rfl (o_load (eV (z1 (z8 (z8 (z8 (z8 (z8 (z8 ds)))))))) (Keep.look hk_k (by omega) id (lN hh8 (lN hh6 (Keep.look hk_g (by omega) id (lN hh2 hP.h87))))) rfl) (aeq_flat rfl)) (all_cons_ (still_op (want_on (z8 (z8 (z8 (z8 (z8 (z8 (z8 ds)))))))) rfl (o_faddr (off := 0) (eV (z2 (z8 (z8 (z8 (z8 (z8 (z8 ds))))))))) (aeq_flat rfl)) (all_cons_ (still_op (want_on (z8 (z8 (z8 (z8 (z8 (z8 (z8 ds)))))))) rfl (o_faddr (off := 3) (eV (z1 (z2 (z8 (z8 (z8 (z8 (z8 (z8 ds)))))))))) (aeq_flat rfl)) (all_cons_ (still_op (want_on (z8 (z8 (z8 (z8 (z8 (z8 (z8 ds)))))))) rfl (o_nilck (eV (z4 (z8 (z8 (z8 (z8 (z8 (z8 ds))))))))) (aeq_flat rfl)) (all_cons_ (still_op (want_on (z8 (z8 (z8 (z8 (z8 (z8 (z8 ds)))))))) rfl (o_load (eV (z1 (z4 (z8 (z8 (z8 (z8 (z8 (z8 ds))))))))) (Keep.look hk_k (by omega) id (lN hh8 (lN hh6 (Keep.look hk_g (by omega) id (lN hh2 hP.h88))))) rfl) (aeq_flat rfl)) (all_cons_ (still_op (want_on (z8 (z8 (z8 (z8 (z8 (z8 (z8 ds)))))))) rfl (o_faddr (off := 0) (eV (z2 (z4 (z8 (z8 (z8 (z8 (z8 (z8 ds)))))))))) (aeq_flat rfl)) (all_cons_ (still_op (want_on (z8 (z8 (z8 (z8 (z8 (z8 (z8 ds)))))))) rfl (o_nilck (eV (z1 (z2 (z4 (z8 (z8 (z8 (z8 (z8 (z8 ds))))))))))) (aeq_flat rfl)) (all_cons_ (still_op (want_on (z8 (z8 (z8 (z8 (z8 (z8 (z8 ds)))))))) rfl (o_mov (eV (z2 (z8 (z8 (z8 (z8 (z8 (z8 (z8 (z8 (z8 (z8 (z8 (z8 (get_other rfl get_same)))))))))))))))) (aeq_flat rfl)) (all_cons_ (still_op rfl rfl (ndec_f (o_neq (eV (z2 (z8 (z8 (z8 (z8 (z8 (z8 (z8 ds))))))))) ev_c) (by simp)) (aeq_flat rfl)) (all_cons_ (still_op rfl rfl (o_load (eV (z1 (z2 (z8 (z8 (z8 (z8 (z8 (z8 (z8 ds)))))))))) (Keep.look hk_k (by omega) id (lS hh8)) rfl) (aeq_flat rfl)) (all_cons_ (still_op rfl rfl (o_faddr (off := 0) (eV (z1 (z4 (z8 (z8 (z8 (z8 (z8 (z8 (z8 ds))))))))))) (aeq_flat rfl)) all_nil_))))))))))))))))))))))))))))))))))))))))))))))
     by_cases hs13 : (rk = 0)
     · refine e_opT (on := [(96, false)]) (gon_cons (want_on (z1 (z2 ds))) gon_nil) 60 rfl (ndec_f (o_neq eZ ev_c) hs13) (want_on (z1 (z2 ds))) (e_opT (on := [(96, false)]) (gon_cons (want_on (z4 ds)) gon_nil) 61 rfl (o_pick_f (eV (z4 ds)) eZ) rfl (e_opT (on := [(96, false)]) (gon_cons (want_on (z1 (z4 ds))) gon_nil) 62 rfl (o_mov eZ) rfl (e_opT (on := [(96, false)]) (gon_cons (want_on (z2 (z4 ds))) gon_nil) 63 rfl (o_faddr (off := 2) (eV (z4 (z8 (z8 (z8 (z8 (z8 (z8 (z8 (z8 (z8 (z8 (z8 (z8 ds))))))))))))))) (want_on ds) (e_opT (on := [(96, false)]) (gon_cons (want_on (z1 (z2 (z4 ds)))) gon_nil) 64 rfl (o_load eZ (Keep.look hk_k (by omega) id (lN hh8 (lN hh6 (Keep.look hk_g (by omega) id (lS hh2))))) rfl) (want_on (z1 ds)) (e_opT (on := [(96, false)]) (gon_cons (want_on (z8 ds)) gon_nil) 65 rfl (o_len_str eZ) (want_on (z2 ds)) (e_opT (on := [(96, false)]) (gon_cons (want_on (z1 (z8 ds))) gon_nil) 66 rfl (o_faddr (off := 2) (eV (z1 (z2 (z8 (z8 (z8 (z8 (z8 (z8 (z8 (z8 ds)))))))))))) (want_on (z1 (z2 ds))) (e_opT (on := [(96, false)]) (gon_cons (want_on (z2 (z8 ds))) gon_nil) 67 rfl (o_load eZ (Keep.look hk_k (by omega) id (lS hh8)) rfl) (want_on (z4 ds)) (e_opT (on := [(96, false)]) (gon_cons (want_on (z1 (z2 (z8 ds)))) gon_nil) 68 rfl (o_neq (eV (z2 ds)) eZ) (want_on (z1 (z4 ds))) (e_opT (on := [(96, false)]) (gon_cons (want_on (z4 (z8 ds))) gon_nil) 69 rfl (o_pick_f (eV (z2 (z4 ds))) eZ) rfl ?_)))))))))
       refine e_done ?_
       refine k_in eZ (fun hc14 => ?_) (fun hc14 => ?_)
       · refine k_seq (k_reg (rO (o_mov ev_c) (r_nil (k_ret ?_))))
         exact ⟨_, ans_tmp ds, _, es, d, rfl, (hP.keep (n' := n12) (show Keep t t11 nx (fun _ => False) from Keep.trans (kU (kU (Keep.trans (kU kR hh2) hk_g (by omega) (fun d _ h => h)) hh6) hh8) hk_k (by omega) (fun d _ h => h)) (fun _ h => h.elim) (by omega)), .inl ⟨rfl, rfl, fun hg => by obtain ⟨g1, g2, g3⟩ := hg; have g4 := of_one g3; first | omega | exact hrk.elim (fun h_ => absurd h_.1 (by omega)) (fun h_ => h_.2 g4.2)⟩, .inl rfl, by omega, Keep.trans (kU (kU (Keep.trans (kU kR hh2) hk_g (by omega) ((fun _ _ h => h.elim))) hh6) hh8) hk_k (by omega) ((fun _ _ h => h.elim))⟩
       refine k_skip (k_seq (k_seq (k_draw (eO 0 rfl (o_faddr (off := 0) (eV (z1 (z2 (z8 (z8 (z8 (z8 (z8 (z8 (z8 (z8 (z8 (z8 (z8 (z8 (z8 ds))))))))))))))))) (eO 1 rfl (o_load eZ (Keep.look hk_k (by omega) id (lN hh8 (lN hh6 (Keep.look hk_g (by omega) id (lS hh2))))) rfl) (eO 2 rfl (o_mov (eV (z2 (z4 (z8 (z8 (z8 (z8 (z8 (z8 (z8 (z8 (z8 (z8 (z8 (z8 (z8 (get_other rfl get_same)))))))))))))))))) (eO 3 rfl (o_nilck eZ) (eO 4 rfl (o_faddr (off := 6) eZ) (eO 5 rfl (o_load eZ (Keep.look hk_k (by omega) id (lN hh8 (lN hh6 (Keep.look hk_g (by omega) id (lN hh2 hP.h88))))) rfl) (eO 6 rfl (o_leq (eV (z4 ds)) eZ) (e_done ?_)))))))))))
       refine k_in eZ (fun hc15 => ?_) (fun hc15 => ?_)
       · refine k_seq (k_reg (rO (o_mov ev_c) (r_nil (k_ret ?_))))
         exact ⟨_, ans_tmp ds, _, es, d, rfl, (hP.keep (n' := n12) (show Keep t t11 nx (fun _ => False) from Keep.trans (kU (kU (Keep.trans (kU kR hh2) hk_g (by omega) (fun d _ h => h)) hh6) hh8) hk_k (by omega) (fun d _ h => h)) (fun _ h => h.elim) (by omega)), .inr (.inl ⟨rfl, rfl, ⟨by omega, by omega, one_of (by omega) (hrk.elim (fun h_ => h_.2) (fun h_ => absurd h_.1 (by omega)))⟩, by omega⟩), .inl rfl, by omega, Keep.trans (kU (kU (Keep.trans (kU kR hh2) hk_g (by omega) ((fun _ _ h => h.elim))) hh6) hh8) hk_k (by omega) ((fun _ _ h => h.elim))⟩
       refine k_skip (k_seq (k_draw (eO 0 rfl (o_mov (eV (z1 (z2 (z8 (z8 (z8 (z8 (z8 (z8 (z8 (z8 (z8 (z8 (z8 (z8 (z8 (z8 (get_other rfl get_same))))))))))))))))))) (eO 1 rfl (o_nilck eZ) (eO 2 rfl (o_faddr (off := 4) eZ) (eO 3 rfl (o_load eZ (Keep.look hk_k (by omega) id (lN hh8 (lN hh6 (Keep.look hk_g (by omega) id (lN hh2 hP.h88))))) rfl) (eO 4 rfl (o_loadA (n := 6) (eV (z2 (z4 (z8 (z8 (z8 (z8 (z8 (z8 (z8 (z8 (z8 (z8 (z8 (z8 (z8 (z8 ds))))))))))))))))) (Keep.look hk_k (by omega) id (lN hh8 (lN hh6 (Keep.look hk_g (by omega) id (lS hh2))))) (leb rfl) rfl) ?_)))))))
       have hgood : GoodE e := ⟨by omega, by omega, one_of (by omega) (hrk.elim (fun h_ => h_.2) (fun h_ => absurd h_.1 (by omega)))⟩
       refine d_call (ix := 5) (pr := [3, 4]) (d := (some 122)) (g := none) (F' := []) (w_callF (evs_cons (eV (z1 ds)) (evs_cons eZ evs_nil))) rfl (by kernel_rfl) (by kernel_rfl) (by kernel_rfl) (by kernel_rfl) (WF.mono ((show WF tb 73 [.ptr 89 0, .agg [(.int .i64 e.time), (.int .i64 1), (.str e.val), (.int .i64 e.frm), (.int .i64 e.seq), (.bool e.anti)]] _ _ _ from by have h_ := put_d (e := e) (hP.keep (n' := n12) (show Keep t t11 nx (fun _ => False) from Keep.trans (kU (kU (Keep.trans (kU kR hh2) hk_g (by omega) (fun d _ h => h)) hh6) hh8) hk_k (by omega) (fun d _ h => h)) (fun _ h => h.elim) (by omega)).hQ (by omega) (by omega) hP.hH; rw [show ecells e = [(.int .i64 e.time), (.int .i64 1), (.str e.val), (.int .i64 e.frm), (.int .i64 e.seq), (.bool e.anti)] from by unfold ecells; rw [hn1]] at h_; exact h_)) ?_)
       rintro _ t16 n17 ⟨r, es2, d2, rfl, hd2, hQ2, hH2, hpr, hn_q, hk_q⟩
       have hl2 : es2.length ≤ 200 := by
         rcases hpr with ⟨-, h_, -⟩ | ⟨-, h_, -⟩ | ⟨-, h_, -⟩
         · rw [h_]; omega
         · rw [h_]; omega
         rw [h_.length_eq]; simp; omega
       have hP2 : PM t16 n17 D cv a b d2 es2 := (hP.keep (n' := n12) (show Keep t t11 nx (fun _ => False) from Keep.trans (kU (kU (Keep.trans (kU kR hh2) hk_g (by omega) (fun d _ h => h)) hh6) hh8) hk_k (by omega) (fun d _ h => h)) (fun _ h => h.elim) (by omega)).queue hk_q hn_q hd2 hQ2 hH2 hl2
       refine ⟨?_, ?_⟩
       · exact all_nil_
       refine eO 6 rfl (o_mov eZ) (e_done (k_ret ?_))
       exact ⟨_, ans_tmp ds, r, es2, d2, rfl, hP2, .inr (.inr ⟨hgood, by omega, hpr⟩), by omega, by omega, Keep.trans (Keep.trans (kU (kU (Keep.trans (kU kR hh2) hk_g (by omega) ((fun _ _ h => h.elim))) hh6) hh8) hk_k (by omega) ((fun _ _ h => h.elim))) hk_q (by omega) ((fun _ _ h => h))⟩
     refine e_opT (on := [(96, false)]) (gon_cons (want_on (z1 (z2 ds))) gon_nil) 60 rfl (ndec_t (o_neq eZ ev_c) hs13) (want_on (z1 (z2 ds))) (e_opT (on := [(96, false)]) (gon_cons (want_on (z4 ds)) gon_nil) 61 rfl (o_pick_f (eV (z4 ds)) eZ) rfl (e_opT (on := [(96, false)]) (gon_cons (want_on (z1 (z4 ds))) gon_nil) 62 rfl (o_mov eZ) rfl (e_offT (on := [(96, false)]) (gon_cons (want_on (z2 (z4 ds))) gon_nil) 63 rfl (wN ds) (e_offT (on := [(96, false)]) (gon_cons (want_on (z1 (z2 (z4 ds)))) gon_nil) 64 rfl (wN (z1 ds)) (e_offT (on := [(96, false)]) (gon_cons (want_on (z8 ds)) gon_nil) 65 rfl (wN (z2 ds)) (e_offT (on := [(96, false)]) (gon_cons (want_on (z1 (z8 ds))) gon_nil) 66 rfl (wN (z1 (z2 ds))) (e_offT (on := [(96, false)]) (gon_cons (want_on (z2 (z8 ds))) gon_nil) 67 rfl (wN (z4 ds)) (e_offT (on := [(96, false)]) (gon_cons (want_on (z1 (z2 (z8 ds)))) gon_nil) 68 rfl (wN (z1 (z4 ds))) (e_opT (on := [(96, false)]) (gon_cons (want_on (z4 (z8 ds))) gon_nil) 69 rfl (o_pick_t (eV (z2 (z4 ds))) ev_c) rfl (e_done (k_cond_t eZ (k_seq (k_reg (rO (o_mov ev_c) (r_nil (k_ret ?_))))))))))))))))
     exact ⟨_, ans_tmp ds, _, es, d, rfl, (hP.keep (n' := n12) (show Keep t t11 nx (fun _ => False) from Keep.trans (kU (kU (Keep.trans (kU kR hh2) hk_g (by omega) (fun d _ h => h)) hh6) hh8) hk_k (by omega) (fun d _ h => h)) (fun _ h => h.elim) (by omega)), .inl ⟨rfl, rfl, fun hg => by obtain ⟨g1, g2, g3⟩ := hg; have g4 := of_one g3; first | omega | exact hrk.elim (fun h_ => absurd h_.1 (by omega)) (fun h_ => h_.2 g4.2)⟩, .inl rfl, by omega, Keep.trans (kU (kU (Keep.trans (kU kR hh2) hk_g (by omega) ((fun _ _ h => h.elim))) hh6) hh8) hk_k (by omega) ((fun _ _ h => h.elim))⟩
   refine e_opT (on := []) gon_nil 42 rfl (ndec_t (o_neq (eV (z2 ds)) eZ) hs9) (want_on (z8 (z8 ds))) (e_opT (on := []) gon_nil 43 rfl (o_pick_f (eV (z1 (z8 (z8 ds)))) eZ) rfl (e_opT (on := []) gon_nil 44 rfl (o_mov eZ) rfl (e_offT (on := []) gon_nil 45 rfl (wN ds) (e_offT (on := []) gon_nil 46 rfl (wN (z1 ds)) (e_offT (on := []) gon_nil 47 rfl (wN (z2 ds)) (e_offT (on := []) gon_nil 48 rfl (wN (z1 (z2 ds))) (e_offT (on := []) gon_nil 49 rfl (wN (z4 ds)) (e_offT (on := []) gon_nil 50 rfl (wN (z1 (z4 ds))) (e_offT (on := []) gon_nil 51 rfl (wN (z2 (z4 ds))) (e_offT (on := []) gon_nil 52 rfl (wN (z1 (z2 (z4 ds)))) (e_offT (on := []) gon_nil 53 rfl (wN (z8 ds)) (e_offT (on := []) gon_nil 54 rfl (wN (z1 (z8 ds))) (e_opT (on := []) gon_nil 55 rfl (o_pick_t (eV (z2 (z8 ds))) ev_c) rfl (e_opT (on := []) gon_nil 56 rfl (o_mov eZ) rfl (e_offT (on := []) gon_nil 57 rfl (wN ds) (e_offT (on := []) gon_nil 58 rfl (wN (z1 ds)) (e_offT (on := []) gon_nil 59 rfl (wN (z2 ds)) (e_offT (on := []) gon_nil 60 rfl (wN (z1 (z2 ds))) (e_opT (on := []) gon_nil 61 rfl (o_pick_t (eV (z4 ds)) ev_c) rfl (e_opT (on := []) gon_nil 62 rfl (o_mov eZ) rfl (e_offT (on := []) gon_nil 63 rfl (wN ds) (e_offT (on := []) gon_nil 64 rfl (wN (z1 ds)) (e_offT (on := []) gon_nil 65 rfl (wN (z2 ds)) ?_)))))))))))))))))))))))
   refine e_offT (on := []) gon_nil 66 rfl (wN (z1 (z2 ds))) (e_offT (on := []) gon_nil 67 rfl (wN (z4 ds)) (e_offT (on := []) gon_nil 68 rfl (wN (z1 (z4 ds))) (e_opT (on := []) gon_nil 69 rfl (o_pick_t (eV (z2 (z4 ds))) ev_c) rfl (e_done (k_cond_t eZ (k_seq (k_reg (rO (o_mov ev_c) (r_nil (k_ret ?_))))))))))
   exact ⟨_, ans_tmp ds, _, es, d, rfl, (hP.keep (n' := (n4 + 1)) (show Keep t t7 nx (fun _ => False) from kU (kU (Keep.trans (kU kR hh2) hk_g (by omega) (fun d _ h => h)) hh6) hh8) (fun _ h => h.elim) (by omega)), .inl ⟨rfl, rfl, fun hg => by obtain ⟨g1, g2, g3⟩ := hg; have g4 := of_one g3; first | omega | exact hrk.elim (fun h_ => absurd h_.1 (by omega)) (fun h_ => h_.2 g4.2)⟩, .inl rfl, by omega, kU (kU (Keep.trans (kU kR hh2) hk_g (by omega) ((fun _ _ h => h.elim))) hh6) hh8⟩
 unfold ecells
 have h0 := hP.h0
 have hd0 := hP.hd
 have hd1 := hP.hQ.1
 have hs0 := hP.hs
 refine k_fun ptake_tab rfl ?_
 unfold ptake_c
 change WC _ _ (TA.put (some _) (TA.put (some _) TA.e 0) 1) _ _ _
 refine k_seq (k_reg (r_heap (o_box (eV get_same)) rfl (fun t1 (hh2 : hv t1 = upd (hv t) nx (some (.row [(.int .i64 e.time), (.int .i64 e.node), (.str e.val), (.int .i64 e.frm), (.int .i64 e.seq), (.bool e.anti)] true))) => rO (o_mov ev_c) (r_nil (k_seq (k_seq (k_draw (eO 0 rfl (o_mov (eV (z2 (get_other rfl get_same)))) (d_call (ix := 1) (pr := [0]) (d := (some 7)) (g := none) (F' := []) (w_callF (evs_cons eZ evs_nil)) rfl (by kernel_rfl) (by kernel_rfl) (by kernel_rfl) (by kernel_rfl) (WF.mono (given_ok (hP.keep (n' := (nx + 1)) (show Keep t t1 nx (fun _ => False) from kU kR hh2) (fun _ h => h.elim) (by omega))) ?_))))))))))
 rintro _ t3 n4 ⟨rfl, hn_g, hk_g⟩
 refine ⟨?_, ?_⟩
 · exact all_nil_
 refine eO 2 rfl (o_not eZ) (eO 3 rfl (o_mov eZ) (e_op 4 rfl (o_faddr (off := 1) (eV (z1 (z4 ds)))) (want_on ds) (e_op 5 rfl (o_load eZ (Keep.look hk_g (by omega) id (lS hh2)) rfl) (want_on (z1 ds)) ?_)))
 by_cases hs5 : (e.node < 0)
 · refine e_op 6 rfl (dec_t (o_lss eZ ev_c) hs5) (want_on (z2 ds)) (eO 7 rfl (o_pick_f (eV (z1 (z2 ds))) eZ) (eO 8 rfl (o_mov eZ) (e_off 9 rfl (wN ds) (e_off 10 rfl (wN (z1 ds)) (e_off 11 rfl (wN (z2 ds)) (e_off 12 rfl (wN (z1 (z2 ds))) (e_off 13 rfl (wN (z4 ds)) (e_off 14 rfl (wN (z1 (z4 ds))) (e_off 15 rfl (wN (z2 (z4 ds))) (e_off 16 rfl (wN (z1 (z2 (z4 ds)))) (e_off 17 rfl (wN (z8 ds)) (e_off 18 rfl (wN (z1 (z8 ds))) (e_off 19 rfl (wN (z2 (z8 ds))) (e_off 20 rfl (wN (z1 (z2 (z8 ds)))) (eO 21 rfl (o_pick_t (eV (z4 (z8 ds))) ev_c) (e_done (k_cond_t eZ (k_seq (k_reg (rO (o_mov ev_c) (r_nil (k_ret ?_))))))))))))))))))))))
   exact ⟨_, ans_tmp ds, _, es, d, rfl, (hP.keep (n' := n4) (show Keep t t3 nx (fun _ => False) from Keep.trans (kU kR hh2) hk_g (by omega) (fun d _ h => h)) (fun _ h => h.elim) (by omega)), .inl ⟨rfl, rfl, fun hg => by obtain ⟨g1, g2, g3⟩ := hg; have g4 := of_one g3; first | omega | exact hrk.elim (fun h_ => absurd h_.1 (by omega)) (fun h_ => h_.2 g4.2)⟩, .inl rfl, by omega, Keep.trans (kU kR hh2) hk_g (by omega) ((fun _ _ h => h.elim))⟩
 refine e_op 6 rfl (dec_f (o_lss eZ ev_c) hs5) (want_on (z2 ds)) (eO 7 rfl (o_pick_f (eV (z1 (z2 ds))) eZ) (eO 8 rfl (o_mov eZ) (e_op 9 rfl (o_faddr (off := 1) (eV (z2 (z8 ds)))) (want_on ds) (e_op 10 rfl (o_load eZ (Keep.look hk_g (by omega) id (lS hh2)) rfl) (want_on (z1 ds)) (e_op 11 rfl (o_mov (eV (z1 (z4 (z8 (get_other rfl get_same)))))) (want_on (z2 ds)) (e_op 12 rfl (o_nilck eZ) (want_on (z1 (z2 ds))) (e_op 13 rfl (o_faddr (off := 0) eZ) (want_on (z4 ds)) (e_op 14 rfl (o_load eZ (Keep.look hk_g (by omega) id (lN hh2 hP.h88)) rfl) (want_on (z1 (z4 ds))) (e_op 15 rfl (o_nilck eZ) (want_on (z2 (z4 ds))) (e_op 16 rfl (o_faddr (off := 0) eZ) (want_on (z1 (z2 (z4 ds)))) (e_op 17 rfl (o_faddr (off := 0) eZ) (want_on (z8 ds)) (e_op 18 rfl (o_load eZ (Keep.look hk_g (by omega) id (lN hh2 hP.h87)) rfl) (want_on (z1 (z8 ds))) (e_op 19 rfl (o_len_slice eZ) (want_on (z2 (z8 ds))) (e_op 20 rfl (o_geq (eV (z1 (z8 ds))) eZ) (want_on (z1 (z2 (z8 ds)))) (eO 21 rfl (o_pick_f (eV (z4 (z8 ds))) eZ) (e_done ?_))))))))))))))))
 refine k_in eZ (fun hc6 => ?_) (fun hc6 => ?_)
 · refine k_seq (k_reg (rO (o_mov ev_c) (r_nil (k_ret ?_))))
   exact ⟨_, ans_tmp ds, _, es, d, rfl, (hP.keep (n' := n4) (show Keep t t3 nx (fun _ => False) from Keep.trans (kU kR hh2) hk_g (by omega) (fun d _ h => h)) (fun _ h => h.elim) (by omega)), .inl ⟨rfl, rfl, fun hg => by obtain ⟨g1, g2, g3⟩ := hg; have g4 := of_one g3; first | omega | exact hrk.elim (fun h_ => absurd h_.1 (by omega)) (fun h_ => h_.2 g4.2)⟩, .inl rfl, by omega, Keep.trans (kU kR hh2) hk_g (by omega) ((fun _ _ h => h.elim))⟩
 refine k_skip (k_seq ?_)
 exfalso; omega
end Go.Proofs.YtpjohgnhmjceiaaGreatDoor.WX

set_option linter.all false
set_option linter.unusedVariables false
set_option linter.unusedSectionVars false
set_option maxRecDepth 100000
open Go Go.Proofs.YtpjohgnhmjceiaaGreatDoor.AX Go.Proofs
namespace Go.Proofs.YtpjohgnhmjceiaaGreatDoor.WX
variable [Env]
theorem o_slc_nil {T : TA} {t : TB} {nx : Nat} {x : Opd} {b o n c sz : Nat} {ex ng : Bool} (hx : x.ev T = some (.slice b o n c sz ex)) : (IOp.eqv ng .slc x (.c .nslice)).run T t nx = .ok (.bool ng) t nx := by
 have e : (Opd.c AV.nslice).ev T = some .nslice := rfl
 simp only [IOp.run, hx, e]
 rfl
theorem iter_get {t : TB} {b : Nat} {m : Option Nat} {s l : Nat} {se : List Nat} (h : hv t b = some (.iter m s se l)) : t.get b = some (.iter m s se l) := by
 unfold hv at h
 cases e : t.get b with
 | none => rw [e] at h; cases h
 | some k =>
   rw [e] at h
   cases k with
   | cells c n w =>
     have h' : (gets c n 0).map (fun l => HB.row l w) = some (.iter m s se l) := h
     cases e2 : gets c n 0 with
     | none => rw [e2] at h'; cases h'
     | some q => rw [e2] at h'; cases h'
   | map es clk => cases h
   | iter a b c d => cases h; rfl
theorem o_range {T : TA} {t : TB} {nx b clk : Nat} {es : List (AV × AV × Nat)} {x : Opd} (hx : x.ev T = some (.map b)) (hb : hv t b = some (.map es clk)) : ∃ t', (IOp.range x).run T t nx = .ok (.ptr nx 0) t' (nx + 1) ∧ hv t' = upd (hv t) nx (some (.iter (some b) clk [] clk)) := by
 refine ⟨t.put (some (.iter (some b) clk [] clk)) nx, ?_, by rw [hv_put]; rfl⟩
 have h1 := map_iff.1 hb
 simp only [IOp.run, hx, h1, fNat_eq]
theorem o_next0 {T : TA} {t : TB} {nx i m s l clk : Nat} {x : Opd} (hx : x.ev T = some (.ptr i 0)) (hi : hv t i = some (.iter (some m) s [] l)) (hm : hv t m = some (.map [] clk)) : (IOp.next x).run T t nx = .ok (.tup [.bool false]) t nx := by
 have h1 := map_iff.1 hm
 have h2 := iter_get hi
 simp only [IOp.run, hx, h1, h2]
 rfl
theorem app_C0 {t : TB} {nx e : Nat} {cs : List AV} {wr ex : Bool} (he : hv t e = some (.row cs wr)) (hcs : cs.length = 3) (hc : allCell cs = true) :
   ∃ t', appendA 3 .nslice (.slice e 0 1 1 3 ex) t nx = .ok (.slice nx 0 1 1 3 false) t' (nx + 1) ∧ hv t' = upd (hv t) nx (some (.row cs true)) :=
 app_nil (sz := 3) (k := 1) rfl (by
   rw [src_row (k := 1) he (by omega), Nat.one_mul]
   congr 1
   exact whole hcs) hc (by decide) (by omega)
theorem app_S2 {t : TB} {nx B : Nat} {a b : List Nat} {ex wr : Bool} (hB : hv t B = some (.row [] true)) (h : hv t 127 = some (.row [.str a, .str b] wr)) :
   ∃ t', appendA 1 (.slice B 0 0 0 1 true) (.slice 127 0 2 2 1 ex) t nx = .ok (.slice nx 0 2 2 1 false) t' (nx + 1) ∧ ∃ t1, (∀ d, d ≠ B → hv t1 d = hv t d) ∧ hv t' = upd (hv t1) nx (some (.row [.str a, .str b] true)) := by
 have := app_any (t := t) (nx := nx) (sz := 1) (k := 2) (b := B) (o := 0) (n := 0) (ex := true) (y := .slice 127 0 2 2 1 ex) (l := []) (cs := [.str a, .str b]) rfl (by
   rw [src_row (k := 2) h (by simp)]; rfl) rfl hB (by simp) (by decide) (by decide)
 exact this

def clone_r0 : List Ins := [.o 2 (.mov (.c .nslice))]
def clone_r1 : List Ins := [.mv 3 0,
 .o 4 (.eqv false .slc (.t 3) (.c .nslice))]
def clone_r2 : List Ins := [.o 2 (.mov (.c .nslice))]
def clone_r3 : List Ins := [.o 5 (.bslice 1 0 [(.str [])] []),
 .mv 6 0,
 .o 7 (.app 1 (.t 5) (.t 6)),
 .mv 2 7]
def clone_c : IC := (.seq (.reg clone_r0) (.seq (.seq (.reg clone_r1) (.cond (.t 4) (.seq (.reg clone_r2) .ret) .skip)) (.seq (.reg clone_r3) .ret)))
theorem clone_tab : tb 63 = some (.code 1 8 clone_c [.tmp 2]) := by kernel_rfl
theorem clone_ok {t : TB} {nx : Nat} {a b : List Nat} (h : hv t 127 = some (.row [.str a, .str b] true)) (h0 : 136 ≤ nx) : WF tb 63 [.slice 127 0 2 2 1 false] t nx (fun v t' nx' => ∃ c0 : Nat, v = .slice c0 0 2 2 1 false ∧ nx ≤ c0 ∧ c0 < nx' ∧ hv t' c0 = some (.row [.str a, .str b] true) ∧ nx ≤ nx' ∧ Keep t t' nx (fun _ => False)) := by
 refine k_fun clone_tab rfl ?_
 unfold clone_c
 change WC _ _ (TA.put (some _) TA.e 0) _ _ _
 refine k_seq (k_reg (rO (o_mov ev_c) (r_nil (k_seq (k_seq (k_reg (m1 (z1 get_same) (rO (o_slc_nil eZ) (r_nil (k_cond_f eZ (k_skip (k_seq (k_reg (r_heap (o_bslice fill_nil) rfl (fun t1 (hh2 : hv t1 = upd (hv t) nx (some (.row [] true))) => m1 (z4 get_same) (r_heap (o_appE (eV (z1 ds)) eZ (app_S2 (lS hh2) (lN hh2 h))) rfl (fun ta ⟨tb_, hh_a, hh_b⟩ => m1 ds (r_nil (k_ret ?_)))))))))))))))))))
 exact ⟨_, ans_tmp ds, _, rfl, by omega, by omega, (lS hh_b), by omega, kU (Keep.ne (kU kR hh2) hh_a (.inl (by omega))) hh_b⟩
def follow_r0 : List Ins := [.mv 4 0,
 .o 5 (.nilck (.t 4)),
 .o 6 (.faddr (.t 5) 0),
 .o 7 (.load (.t 6)),
 .o 8 (.nilck (.t 7)),
 .o 9 (.faddr (.t 8) 7),
 .o 10 (.load (.t 9)),
 .o 11 (.len .slc (.t 10)),
 .o 12 (.mov (kI 0))]
def follow_r1 : List Ins := [.o 13 (.bin .lss (.t 12) (.t 11))]
def follow_r2 : List Ins := [.o 14 (.iaddr 1 (.t 10) (.t 12)),
 .o 15 (.load (.t 14)),
 .mv 3 15]
def follow_r3 : List DIns := [⟨0, [], .mv 16 0⟩,
 ⟨1, [0], .o 17 (.nilck (.t 16))⟩,
 ⟨2, [1], .o 18 (.faddr (.t 17) 1)⟩,
 ⟨3, [2], .o 19 (.load (.t 18))⟩,
 ⟨4, [], .mv 20 3⟩,
 ⟨5, [], .mv 21 0⟩,
 ⟨6, [], .mv 22 0⟩,
 ⟨7, [6], .o 23 (.nilck (.t 22))⟩,
 ⟨8, [7], .o 24 (.faddr (.t 23) 0)⟩,
 ⟨9, [8], .o 25 (.load (.t 24))⟩,
 ⟨10, [9], .o 26 (.nilck (.t 25))⟩,
 ⟨11, [10], .o 27 (.faddr (.t 26) 0)⟩,
 ⟨12, [11], .o 28 (.faddr (.t 27) 0)⟩,
 ⟨13, [12], .o 29 (.load (.t 28))⟩,
 ⟨14, [], .mv 30 3⟩,
 ⟨15, [13, 14], .o 31 (.iaddr 8 (.t 29) (.t 30))⟩,
 ⟨16, [15], .o 32 (.loadA 8 (.t 31))⟩,
 ⟨17, [5, 16], .f 33 119 [(.t 21), (.t 32)]⟩,
 ⟨18, [3, 4, 0, 1, 2, 3, 4, 5, 6, 7, 8, 9, 10, 11, 12, 13, 14, 15, 16, 17], .o 34 (.iaddr 1 (.t 19) (.t 20))⟩,
 ⟨19, [18, 17, 17, 0, 1, 2, 3, 4, 5, 6, 7, 8, 9, 10, 11, 12, 13, 14, 15, 16, 17], .x (.store 1 (.t 34) (.t 33))⟩]
def follow_r4 : List Ins := [.o 35 (.bin .add (.t 12) (kI 1)),
 .mv 12 35]
def follow_c : IC := (.seq (.reg follow_r0) (.block 0 (.loop (.seq (.reg follow_r1) (.seq (.cond (.t 13) .skip (.exit 0)) (.seq (.block 1 (.seq (.reg follow_r2) (.draw follow_r3))) (.reg follow_r4)))))))
theorem follow_tab : tb 66 = some (.code 1 36 follow_c []) := by kernel_rfl
theorem follow_ok {t : TB} {nx d : Nat} {D : Int} {cv : AV} {a b : List Nat} {es : List Ev} (hP : PM t nx D cv a b d es) : WF tb 66 [.ptr 88 0] t nx (fun v t' nx' => v = .tup [] ∧ nx ≤ nx' ∧ Keep t t' nx (fun _ => False)) := by
 have h0 := hP.h0
 have hd0 := hP.hd
 have hd1 := hP.hQ.1
 have hs0 := hP.hs
 refine k_fun follow_tab rfl ?_
 unfold follow_c
 change WC _ _ (TA.put (some _) TA.e 0) _ _ _
 refine k_seq (k_reg (m1 get_same (rO (o_nilck eZ) (rO (o_faddr (off := 0) eZ) (rO (o_load eZ hP.h88 rfl) (rO (o_nilck eZ) (rO (o_faddr (off := 7) eZ) (rO (o_load eZ hP.h87 rfl) (rO (o_len_nslice eZ) (rO (o_mov ev_c) (r_nil (k_block (k_loop (fun mm Tz tz nz => Tz.get 11 = some (.int .i64 ((0 : Nat) : Int)) ∧ Tz.get 12 = some (.int .i64 0) ∧ t = tz ∧ nx = nz) (fun mm Tz1 tz nz hI => ?_) 0 ⟨(z1 ds), ds, rfl, rfl⟩)))))))))))))
 obtain ⟨qz1_11, qz1_12, rfl, rfl⟩ := hI
 refine k_seq (k_reg (rO (dec_f (o_lss (eV qz1_12) (eV qz1_11)) (by simp)) (r_nil (k_seq (k_cond_f eZ (k_exit (exK_same ?_)))))))
 exact ⟨_, ans_none, rfl, by omega, kR⟩
def settle_r0 : List Ins := [.o 2 (.mov (.c (.bool true)))]
def settle_r1 : List Ins := [.mv 10 2]
def settle_r2 : List Ins := [.mv 11 0,
 .f 12 66 [(.t 11)]]
def settle_r3 : List Ins := [.o 2 (.mov (.c (.bool false)))]
def settle_r4 : List Ins := [.o 13 .mkmap,
 .mv 3 13]
def settle_r5 : List Ins := [.mv 14 0,
 .o 15 (.nilck (.t 14)),
 .o 16 (.faddr (.t 15) 0),
 .o 17 (.load (.t 16)),
 .o 18 (.nilck (.t 17)),
 .o 19 (.faddr (.t 18) 8),
 .o 20 (.load (.t 19)),
 .o 21 (.len .slc (.t 20)),
 .o 22 (.mov (kI 0))]
def settle_r6 : List Ins := [.o 23 (.bin .lss (.t 22) (.t 21))]
def settle_r7 : List Ins := [.o 24 (.iaddr 1 (.t 20) (.t 22)),
 .o 25 (.load (.t 24)),
 .mv 5 25]
def settle_r8 : List Ins := [.mv 26 0,
 .o 27 (.nilck (.t 26)),
 .o 28 (.faddr (.t 27) 0),
 .o 29 (.load (.t 28)),
 .o 30 (.nilck (.t 29)),
 .o 31 (.faddr (.t 30) 0),
 .o 32 (.faddr (.t 31) 0),
 .o 33 (.load (.t 32)),
 .mv 34 5,
 .o 35 (.iaddr 8 (.t 33) (.t 34)),
 .o 36 (.loadA 8 (.t 35)),
 .o 6 (.alloc [(.int .i64 0), (.int .i64 0), (.int .i64 0), .nslice, (.str []), (.int .i64 0), (.int .i64 0), (.int .i64 0)]),
 .x (.store 8 (.t 6) (.t 36))]
def settle_r9 : List DIns := [⟨0, [], .mv 37 0⟩,
 ⟨1, [0], .o 38 (.nilck (.t 37))⟩,
 ⟨2, [1], .o 39 (.faddr (.t 38) 1)⟩,
 ⟨3, [2], .o 40 (.load (.t 39))⟩,
 ⟨4, [], .o 41 (.faddr (.t 6) 3)⟩,
 ⟨5, [4], .o 42 (.load (.t 41))⟩,
 ⟨6, [5], .o 43 (.iaddr 1 (.t 42) (kI 0))⟩,
 ⟨7, [6], .o 44 (.load (.t 43))⟩,
 ⟨8, [3, 7], .o 45 (.iaddr 1 (.t 40) (.t 44))⟩,
 ⟨9, [8], .o 46 (.load (.t 45))⟩,
 ⟨10, [9, 0, 1, 2, 3, 4, 5, 6, 7, 8, 9], .mv 7 46⟩]
def settle_r10 : List Ins := [.mv 47 0,
 .o 48 (.nilck (.t 47)),
 .o 49 (.faddr (.t 48) 2),
 .o 50 (.load (.t 49)),
 .mv 51 5,
 .o 52 (.iaddr 1 (.t 50) (.t 51)),
 .o 53 (.load (.t 52)),
 .mv 54 7,
 .f 55 110 [(.t 53), (.t 54)]]
def settle_r11 : List DIns := [⟨0, [], .mv 56 3⟩,
 ⟨1, [], .mv 57 5⟩,
 ⟨2, [], .mv 58 0⟩,
 ⟨3, [2], .o 59 (.nilck (.t 58))⟩,
 ⟨4, [3], .o 60 (.faddr (.t 59) 1)⟩,
 ⟨5, [4], .o 61 (.load (.t 60))⟩,
 ⟨6, [], .o 62 (.faddr (.t 6) 3)⟩,
 ⟨7, [6], .o 63 (.load (.t 62))⟩,
 ⟨8, [7], .o 64 (.iaddr 1 (.t 63) (kI 1))⟩,
 ⟨9, [8], .o 65 (.load (.t 64))⟩,
 ⟨10, [5, 9], .o 66 (.iaddr 1 (.t 61) (.t 65))⟩,
 ⟨11, [10], .o 67 (.load (.t 66))⟩,
 ⟨12, [0, 1, 11, 0, 1, 2, 3, 4, 5, 6, 7, 8, 9, 10, 11], .x (.mupd .int (.t 56) (.t 57) (.t 67))⟩]
def settle_r12 : List Ins := [.o 2 (.mov (.c (.bool true)))]
def settle_r13 : List Ins := [.mv 68 0,
 .o 69 (.nilck (.t 68)),
 .o 70 (.faddr (.t 69) 2),
 .o 71 (.load (.t 70)),
 .mv 72 5,
 .mv 73 7,
 .o 74 (.iaddr 1 (.t 71) (.t 72)),
 .x (.store 1 (.t 74) (.t 73))]
def settle_r14 : List Ins := [.o 75 (.bin .add (.t 22) (kI 1)),
 .mv 22 75]
def settle_r15 : List Ins := [.mv 76 3,
 .o 77 (.range (.t 76))]
def settle_r16 : List Ins := [.o 78 (.next (.t 77)),
 .o 79 (.extr (.t 78) 0)]
def settle_r17 : List Ins := [.o 80 (.entry (.t 77)),
 .o 81 (.extr (.t 80) 0),
 .o 82 (.extr (.t 80) 1),
 .mv 8 81,
 .mv 9 82]
def settle_r18 : List Ins := [.mv 83 0,
 .o 84 (.nilck (.t 83)),
 .o 85 (.faddr (.t 84) 1),
 .o 86 (.load (.t 85)),
 .mv 87 8,
 .mv 88 9,
 .o 89 (.iaddr 1 (.t 86) (.t 87)),
 .x (.store 1 (.t 89) (.t 88))]
def settle_c : IC := (.seq (.reg settle_r0) (.block 0 (.loop (.seq (.seq (.reg settle_r1) (.cond (.t 10) .skip (.exit 0))) (.block 1 (.seq (.reg settle_r2) (.seq (.reg settle_r3) (.seq (.reg settle_r4) (.seq (.seq (.reg settle_r5) (.block 2 (.loop (.seq (.reg settle_r6) (.seq (.cond (.t 23) .skip (.exit 2)) (.seq (.block 3 (.seq (.reg settle_r7) (.seq (.reg settle_r8) (.seq (.draw settle_r9) (.seq (.seq (.reg settle_r10) (.cond (.t 55) (.seq (.draw settle_r11) (.reg settle_r12)) .skip)) (.reg settle_r13)))))) (.reg settle_r14))))))) (.seq (.reg settle_r15) (.block 4 (.loop (.seq (.reg settle_r16) (.seq (.cond (.t 79) .skip (.exit 4)) (.block 5 (.seq (.reg settle_r17) (.reg settle_r18)))))))))))))))))
theorem settle_tab : tb 71 = some (.code 1 90 settle_c []) := by kernel_rfl
theorem settle_ok {t : TB} {nx d : Nat} {D : Int} {cv : AV} {a b : List Nat} {es : List Ev} (hP : PM t nx D cv a b d es) : WF tb 71 [.ptr 88 0] t nx (fun v t' nx' => v = .tup [] ∧ nx ≤ nx' ∧ Keep t t' nx (fun _ => False)) := by
 have h0 := hP.h0
 have hd0 := hP.hd
 have hd1 := hP.hQ.1
 have hs0 := hP.hs
 refine k_fun settle_tab rfl ?_
 unfold settle_c
 change WC _ _ (TA.put (some _) TA.e 0) _ _ _
 refine k_seq (k_reg (rO (o_mov ev_c) (r_nil (k_block (k_loop (fun mm Tv tv nv => ∃ r : Bool, (Tv.get 0 = some (.ptr 88 0) ∧ Tv.get 2 = some (.bool r)) ∧ nx ≤ nv ∧ Keep t tv nx (fun _ => False) ∧ mm = (bif r then 1 else 0)) (fun mm Tv tv nv hI => ?_) (1) ⟨true, ⟨(z1 get_same), ds⟩, by omega, kR, rfl⟩)))))
 obtain ⟨r, ⟨q0, q2⟩, hnv, hkv, hmm⟩ := hI
 have hPv := hP.keep hkv (fun _ h => h.elim) hnv
 refine k_seq (k_seq (k_reg (m1 q2 (r_nil ?_))))
 refine k_cond eZ (fun hc1 => ?_) (fun hc1 => ?_)
 · refine k_skip (k_block (k_seq (k_reg (m1 (z1 q0) (r_call (w_callF (evs_cons eZ evs_nil)) rfl (WF.mono (follow_ok (hP.keep (n' := nv) (show Keep t tv nx (fun _ => False) from hkv) (fun _ h => h.elim) (by omega))) ?_))))))
   rintro _ t2 n3 ⟨rfl, hn_f, hk_f⟩
   refine r_nil (k_seq (k_reg (rO (o_mov ev_c) (r_nil (k_seq (k_reg (r_heap (o_mkmap) rfl (fun t4 (hh5 : hv t4 = upd (hv t2) n3 (some (.map [] 0))) => m1 ds (r_nil (k_seq (k_seq (k_reg (m1 (z2 (z4 q0)) (rO (o_nilck eZ) (rO (o_faddr (off := 0) eZ) (rO (o_load eZ (lN hh5 (Keep.look hk_f (by omega) id hPv.h88)) rfl) (rO (o_nilck eZ) (rO (o_faddr (off := 8) eZ) (rO (o_load eZ (lN hh5 (Keep.look hk_f (by omega) id hPv.h87)) rfl) (rO (o_len_nslice eZ) (rO (o_mov ev_c) (r_nil (k_block (k_loop (fun mm Tz tz nz => Tz.get 0 = some (.ptr 88 0) ∧ Tz.get 2 = some (.bool false) ∧ Tz.get 3 = some (.map n3) ∧ Tz.get 21 = some (.int .i64 ((0 : Nat) : Int)) ∧ Tz.get 22 = some (.int .i64 0) ∧ t4 = tz ∧ (n3 + 1) = nz) (fun mm Tz6 tz nz hI => ?_) 0 ⟨(z1 (z2 (z4 (z8 q0)))), (z1 (z2 (z8 ds))), (z1 (z8 ds)), (z1 ds), ds, rfl, rfl⟩))))))))))))))))))))))))
   obtain ⟨qz6_0, qz6_2, qz6_3, qz6_21, qz6_22, rfl, rfl⟩ := hI
   refine k_seq (k_reg (rO (dec_f (o_lss (eV qz6_22) (eV qz6_21)) (by simp)) (r_nil (k_seq (k_cond_f eZ (k_exit (exK_same (k_seq (k_reg (m1 (z1 qz6_3) (r_heap (o_range eZ (lS hh5)) rfl (fun ti_ hi_ => r_nil (k_block (k_loop (fun mm Tz tz nz => Tz.get 0 = some (.ptr 88 0) ∧ Tz.get 2 = some (.bool false) ∧ Tz.get 77 = some (.ptr (n3 + 1) 0) ∧ ti_ = tz ∧ ((n3 + 1) + 1) = nz) (fun mm Tz7 tz nz hI => ?_) 0 ⟨(z1 (z2 qz6_0)), (z1 (z2 qz6_2)), ds, rfl, rfl⟩))))))))))))))
   obtain ⟨qz7_0, qz7_2, qz7_77, rfl, rfl⟩ := hI
   refine k_seq (k_reg (rO (o_next0 (eV qz7_77) (lS hi_) (lN hi_ (lS hh5))) (rO (o_extr eZ rfl) (r_nil (k_seq (k_cond_f eZ (k_exit (exK_same ?_))))))))
   exact ⟨0, by rw [hmm, hc1]; decide, false, ⟨(z2 qz7_0), (z2 qz7_2)⟩, by omega, kU (kU (Keep.trans (hkv) hk_f (by omega) (fun d _ h => h)) hh5) hi_, rfl⟩
 refine k_exit (exK_same ?_)
 exact ⟨_, ans_none, rfl, by omega, hkv⟩
def send_r0 : List Ins := [.o 4 (.mov (.c .nslice)),
 .o 5 (.mov (kI 0))]
def send_r1 : List Ins := [.o 6 (.mov (.c .nslice))]
def send_r2 : List Ins := [.mv 13 0,
 .o 14 (.nilck (.t 13)),
 .o 15 (.faddr (.t 14) 0),
 .o 16 (.load (.t 15)),
 .o 17 (.nilck (.t 16)),
 .o 18 (.faddr (.t 17) 9),
 .o 19 (.load (.t 18)),
 .o 20 (.len .slc (.t 19)),
 .o 21 (.mov (kI 0))]
def send_r3 : List Ins := [.o 22 (.bin .lss (.t 21) (.t 20))]
def send_r4 : List Ins := [.o 23 (.iaddr 1 (.t 19) (.t 21)),
 .o 24 (.load (.t 23)),
 .mv 8 24]
def send_r5 : List Ins := [.mv 25 0,
 .o 26 (.nilck (.t 25)),
 .o 27 (.faddr (.t 26) 0),
 .o 28 (.load (.t 27)),
 .o 29 (.nilck (.t 28)),
 .o 30 (.faddr (.t 29) 0),
 .o 31 (.faddr (.t 30) 0),
 .o 32 (.load (.t 31)),
 .mv 33 8,
 .o 34 (.iaddr 8 (.t 32) (.t 33)),
 .o 35 (.loadA 8 (.t 34)),
 .o 9 (.alloc [(.int .i64 0), (.int .i64 0), (.int .i64 0), .nslice, (.str []), (.int .i64 0), (.int .i64 0), (.int .i64 0)]),
 .x (.store 8 (.t 9) (.t 35))]
def send_r6 : List DIns := [⟨0, [], .mv 36 0⟩,
 ⟨1, [0], .o 37 (.nilck (.t 36))⟩,
 ⟨2, [1], .o 38 (.faddr (.t 37) 1)⟩,
 ⟨3, [2], .o 39 (.load (.t 38))⟩,
 ⟨4, [], .o 40 (.faddr (.t 9) 3)⟩,
 ⟨5, [4], .o 41 (.load (.t 40))⟩,
 ⟨6, [5], .o 42 (.iaddr 1 (.t 41) (kI 0))⟩,
 ⟨7, [6], .o 43 (.load (.t 42))⟩,
 ⟨8, [3, 7], .o 44 (.iaddr 1 (.t 39) (.t 43))⟩,
 ⟨9, [8], .o 45 (.load (.t 44))⟩,
 ⟨10, [9, 0, 1, 2, 3, 4, 5, 6, 7, 8, 9], .mv 10 45⟩]
def send_r7 : List Ins := [.mv 46 10,
 .mv 47 0,
 .o 48 (.nilck (.t 47)),
 .o 49 (.faddr (.t 48) 3),
 .o 50 (.load (.t 49)),
 .mv 51 8,
 .o 52 (.iaddr 1 (.t 50) (.t 51)),
 .o 53 (.load (.t 52)),
 .o 54 (.bin .eql (.t 46) (.t 53))]
def send_r8 : List Ins := [.mv 55 0,
 .o 56 (.nilck (.t 55)),
 .o 57 (.faddr (.t 56) 3),
 .o 58 (.load (.t 57)),
 .mv 59 8,
 .mv 60 10,
 .o 61 (.iaddr 1 (.t 58) (.t 59)),
 .x (.store 1 (.t 61) (.t 60))]
def send_r9 : List DIns := [⟨0, [], .o 62 (.faddr (.t 9) 7)⟩,
 ⟨1, [0], .o 63 (.load (.t 62))⟩,
 ⟨2, [], .mv 64 0⟩,
 ⟨3, [2], .o 65 (.nilck (.t 64))⟩,
 ⟨4, [3], .o 66 (.faddr (.t 65) 0)⟩,
 ⟨5, [4], .o 67 (.load (.t 66))⟩,
 ⟨6, [5], .o 68 (.nilck (.t 67))⟩,
 ⟨7, [6], .o 69 (.faddr (.t 68) 11)⟩,
 ⟨8, [7], .o 70 (.load (.t 69))⟩,
 ⟨9, [], .mv 71 1⟩,
 ⟨10, [8, 9], .o 72 (.bin .sub (.t 70) (.t 71))⟩,
 ⟨11, [1, 10], .o 73 (.bin .gtr (.t 63) (.t 72))⟩]
def send_r10 : List Ins := [.mv 74 0,
 .o 75 (.nilck (.t 74)),
 .o 76 (.faddr (.t 75) 7),
 .o 77 (.load (.t 76)),
 .o 78 (.bin .add (.t 77) (kI 1)),
 .o 79 (.nilck (.t 74)),
 .o 80 (.faddr (.t 79) 7),
 .x (.store 1 (.t 80) (.t 78))]
def send_r11 : List DIns := [⟨0, [], .mv 81 1⟩,
 ⟨1, [], .o 82 (.faddr (.t 9) 7)⟩,
 ⟨2, [1], .o 83 (.load (.t 82))⟩,
 ⟨3, [0, 2], .o 84 (.bin .add (.t 81) (.t 83))⟩,
 ⟨4, [], .mv 85 8⟩,
 ⟨5, [], .mv 86 10⟩,
 ⟨6, [], .mv 87 0⟩,
 ⟨7, [6], .o 88 (.nilck (.t 87))⟩,
 ⟨8, [7], .o 89 (.faddr (.t 88) 0)⟩,
 ⟨9, [8], .o 90 (.load (.t 89))⟩,
 ⟨10, [9], .o 91 (.nilck (.t 90))⟩,
 ⟨11, [10], .o 92 (.faddr (.t 91) 6)⟩,
 ⟨12, [11], .o 93 (.load (.t 92))⟩,
 ⟨13, [], .mv 94 0⟩,
 ⟨14, [13], .o 95 (.nilck (.t 94))⟩,
 ⟨15, [14], .o 96 (.faddr (.t 95) 7)⟩,
 ⟨16, [15], .o 97 (.load (.t 96))⟩,
 ⟨17, [3, 4, 5, 12, 16], .o 98 (.build [(.int .i64 0), (.int .i64 0), (.str []), (.int .i64 0), (.int .i64 0), (.bool false)] [(0, 1, (.t 84)), (1, 1, (.t 85)), (2, 1, (.t 86)), (3, 1, (.t 93)), (4, 1, (.t 97))])⟩,
 ⟨18, [], .o 11 (.alloc [(.int .i64 0), (.int .i64 0), (.str []), (.int .i64 0), (.int .i64 0), (.bool false)])⟩,
 ⟨19, [18, 17, 0, 1, 2, 3, 4, 5, 6, 7, 8, 9, 10, 11, 12, 13, 14, 15, 16, 17, 18], .x (.store 6 (.t 11) (.t 98))⟩]
def send_r12 : List DIns := [⟨0, [], .mv 99 0⟩,
 ⟨1, [0], .o 100 (.nilck (.t 99))⟩,
 ⟨2, [1], .o 101 (.faddr (.t 100) 0)⟩,
 ⟨3, [2], .o 102 (.load (.t 101))⟩,
 ⟨4, [3], .o 103 (.nilck (.t 102))⟩,
 ⟨5, [4], .o 104 (.faddr (.t 103) 3)⟩,
 ⟨6, [5], .o 105 (.faddr (.t 104) 0)⟩,
 ⟨7, [6], .o 106 (.load (.t 105))⟩,
 ⟨8, [], .mv 107 8⟩,
 ⟨9, [7, 8], .o 108 (.iaddr 1 (.t 106) (.t 107))⟩,
 ⟨10, [9], .o 109 (.load (.t 108))⟩,
 ⟨11, [], .mv 110 0⟩,
 ⟨12, [11], .o 111 (.nilck (.t 110))⟩,
 ⟨13, [12], .o 112 (.faddr (.t 111) 0)⟩,
 ⟨14, [13], .o 113 (.load (.t 112))⟩,
 ⟨15, [14], .o 114 (.nilck (.t 113))⟩,
 ⟨16, [15], .o 115 (.faddr (.t 114) 6)⟩,
 ⟨17, [16], .o 116 (.load (.t 115))⟩,
 ⟨18, [10, 17], .o 117 (.bin .neq (.t 109) (.t 116))⟩]
def send_r13 : List Ins := [.mv 118 6,
 .o 119 (.loadA 6 (.t 11)),
 .o 120 (.bslice 6 1 [(.int .i64 0), (.int .i64 0), (.str []), (.int .i64 0), (.int .i64 0), (.bool false)] [(0, 6, (.t 119))]),
 .o 121 (.app 6 (.t 118) (.t 120)),
 .mv 6 121]
def send_r14 : List DIns := [⟨0, [], .mv 122 0⟩,
 ⟨1, [0], .o 123 (.nilck (.t 122))⟩,
 ⟨2, [1], .o 124 (.faddr (.t 123) 4)⟩,
 ⟨3, [2], .o 125 (.load (.t 124))⟩,
 ⟨4, [], .o 126 (.loadA 6 (.t 11))⟩,
 ⟨5, [3, 4], .f 127 73 [(.t 125), (.t 126)]⟩,
 ⟨6, [5, 5, 0, 1, 2, 3, 4, 5], .mv 12 127⟩]
def send_r15 : List Ins := [.mv 128 12,
 .o 129 (.bin .neq (.t 128) (kI 0))]
def send_r16 : List Ins := [.mv 130 12,
 .o 4 (.mov (.c .nslice)),
 .mv 5 130]
def send_r17 : List Ins := [.o 131 (.bin .add (.t 21) (kI 1)),
 .mv 21 131]
def send_r18 : List Ins := [.mv 132 6,
 .mv 4 132,
 .o 5 (.mov (kI 0))]
def send_c : IC := (.seq (.reg send_r0) (.seq (.reg send_r1) (.seq (.seq (.reg send_r2) (.block 0 (.loop (.seq (.reg send_r3) (.seq (.cond (.t 22) .skip (.exit 0)) (.seq (.block 1 (.seq (.reg send_r4) (.seq (.reg send_r5) (.seq (.draw send_r6) (.seq (.seq (.reg send_r7) (.cond (.t 54) (.exit 1) .skip)) (.seq (.reg send_r8) (.seq (.seq (.draw send_r9) (.cond (.t 73) (.exit 1) .skip)) (.seq (.reg send_r10) (.seq (.draw send_r11) (.seq (.draw send_r12) (.cond (.t 117) (.reg send_r13) (.seq (.draw send_r14) (.seq (.reg send_r15) (.cond (.t 129) (.seq (.reg send_r16) .ret) .skip)))))))))))))) (.reg send_r17))))))) (.seq (.reg send_r18) .ret))))
theorem send_tab : tb 72 = some (.code 2 133 send_c [.tmp 4, .tmp 5]) := by kernel_rfl
theorem send_ok {t : TB} {nx d : Nat} {D : Int} {cv : AV} {a b : List Nat} {es : List Ev} (hP : PM t nx D cv a b d es) {now : Int} : WF tb 72 [.ptr 88 0, .int .i64 now] t nx (fun v t' nx' => v = .tup [.nslice, .int .i64 0] ∧ nx ≤ nx' ∧ Keep t t' nx (fun _ => False)) := by
 have h0 := hP.h0
 have hd0 := hP.hd
 have hd1 := hP.hQ.1
 have hs0 := hP.hs
 refine k_fun send_tab rfl ?_
 unfold send_c
 change WC _ _ (TA.put (some _) (TA.put (some _) TA.e 0) 1) _ _ _
 refine k_seq (k_reg (rO (o_mov ev_c) (rO (o_mov ev_c) (r_nil (k_seq (k_reg (rO (o_mov ev_c) (r_nil (k_seq (k_seq (k_reg (m1 (z1 (z2 (get_other rfl get_same))) (rO (o_nilck eZ) (rO (o_faddr (off := 0) eZ) (rO (o_load eZ hP.h88 rfl) (rO (o_nilck eZ) (rO (o_faddr (off := 9) eZ) (rO (o_load eZ hP.h87 rfl) (rO (o_len_nslice eZ) (rO (o_mov ev_c) (r_nil (k_block (k_loop (fun mm Tz tz nz => Tz.get 6 = some .nslice ∧ Tz.get 20 = some (.int .i64 ((0 : Nat) : Int)) ∧ Tz.get 21 = some (.int .i64 0) ∧ t = tz ∧ nx = nz) (fun mm Tz1 tz nz hI => ?_) 0 ⟨(z1 (z8 ds)), (z1 ds), ds, rfl, rfl⟩)))))))))))))))))))))))
 obtain ⟨qz1_6, qz1_20, qz1_21, rfl, rfl⟩ := hI
 refine k_seq (k_reg (rO (dec_f (o_lss (eV qz1_21) (eV qz1_20)) (by simp)) (r_nil (k_seq (k_cond_f eZ (k_exit (exK_same (k_seq (k_reg (m1 (z1 qz1_6) (m1 ds (rO (o_mov ev_c) (r_nil (k_ret ?_))))))))))))))
 exact ⟨_, ans_two (res_tmp (z1 ds) (res_tmp ds res_nil)), rfl, by omega, kR⟩
end Go.Proofs.YtpjohgnhmjceiaaGreatDoor.WX

set_option linter.all false
set_option linter.unusedVariables false
set_option linter.unusedSectionVars false
set_option maxRecDepth 100000
open Go Go.Proofs.YtpjohgnhmjceiaaGreatDoor.AX Go.Proofs
namespace Go.Proofs.YtpjohgnhmjceiaaGreatDoor.WX
variable [Env]
structure LS (D : Int) (es hs : List Ev) : Prop where
 perm : hs.Perm es
 ev : ∀ e ∈ es, D < e.time ∧ 0 ≤ e.time ∧ e.node = 1 ∧ e.frm = 0
 seqs : hs.Pairwise (fun a b => a.seq ≠ b.seq)
theorem LS.nil (D : Int) : LS D [] [] := ⟨List.Perm.refl _, (fun e he => nomatch he), List.Pairwise.nil⟩
theorem LS.put {D : Int} {es hs es' : List Ev} {e : Ev} (h : LS D es hs) (hp : es'.Perm (es ++ [e])) (h1 : D < e.time) (h2 : 0 ≤ e.time) (h3 : e.node = 1) (h4 : e.frm = 0) (h5 : ∀ x ∈ hs, x.seq ≠ e.seq) : LS D es' (hs ++ [e]) := by
 refine ⟨(h.perm.append_right [e]).trans hp.symm, fun x hx => ?_, ?_⟩
 · rcases List.mem_append.1 (hp.mem_iff.1 hx) with hx | hx
   · exact h.ev x hx
   · simp at hx; subst hx; exact ⟨h1, h2, h3, h4⟩
 · rw [List.pairwise_append]
   refine ⟨h.seqs, by simp, fun a ha b hb => ?_⟩
   simp at hb; subst hb; exact h5 a ha
theorem LS.step {D : Int} {es hs tk es' : List Ev} (h : LS D es hs) (hp : (tk ++ es').Perm es) (h1 : ∀ x ∈ tk, x.time = 0) (h2 : ∀ x ∈ es', 0 < x.time) : LS 0 es' (hs.filter (fun x => decide (0 < x.time))) := by
 refine ⟨?_, fun e he => ?_, h.seqs.filter _⟩
 · have e1 : tk.filter (fun x => decide (0 < x.time)) = [] := List.filter_eq_nil_iff.2 (fun a ha => by rw [h1 a ha]; decide)
   have e2 : es'.filter (fun x => decide (0 < x.time)) = es' := List.filter_eq_self.2 (fun a ha => decide_eq_true (h2 a ha))
   have := (h.perm.trans hp.symm).filter (fun x => decide (0 < x.time))
   rw [List.filter_append, e1, e2, List.nil_append] at this
   exact this
 · have h3 := h.ev e (hp.mem_iff.1 (List.mem_append_right _ he))
   exact ⟨h2 e he, h3.2.1, h3.2.2⟩
theorem canc_step {es es' hs : List Ev} {i : Nat} {e x : Ev} (hp : es.Perm (hs.drop i)) (hx : hs[i]? = some x) (hq : hs.Pairwise (fun a b => a.seq ≠ b.seq)) (he : (es' ++ [e]).Perm es) (hs_ : e.seq = x.seq) : es'.Perm (hs.drop (i + 1)) ∧ ∀ y ∈ es', y.seq ≠ x.seq := by
 obtain ⟨hi, rfl⟩ := List.getElem?_eq_some_iff.1 hx
 have hd := List.drop_eq_getElem_cons hi
 have hw : (hs.drop i).Pairwise (fun a b => a.seq ≠ b.seq) := hq.sublist (List.drop_sublist i hs)
 rw [hd] at hw hp
 have hw2 := List.pairwise_cons.1 hw
 have hm : e ∈ hs[i] :: hs.drop (i + 1) := hp.mem_iff.1 (he.mem_iff.1 (by simp))
 have ee : e = hs[i] := by
   rcases List.mem_cons.1 hm with h | h
   · exact h
   · exact absurd hs_.symm (hw2.1 e h)
 subst ee
 have h1 : es'.Perm (hs.drop (i + 1)) := by
   have h2 := (List.perm_append_comm (l₁ := [hs[i]]) (l₂ := es')).trans (he.trans hp)
   exact (List.perm_cons _).1 h2
 exact ⟨h1, fun y hy e2 => hw2.1 y (h1.mem_iff.1 hy) e2.symm⟩
theorem heap_first {es : List Ev} (h : HpN es es.length) : ∀ k, k < es.length → tm es 0 ≤ tm es k := by
 intro k
 induction k using Nat.strongRecOn with
 | ind k ih =>
   intro hk
   by_cases h0 : k = 0
   · subst h0; exact Int.le_refl _
   · exact Int.le_trans (ih ((k - 1) / 2) (by omega) (by omega)) (h k (by omega) hk)
theorem heap_min {es : List Ev} {e : Ev} (h : HpN es es.length) (he : es[0]? = some e) : ∀ x ∈ es, e.time ≤ x.time := fun x hx => by
 obtain ⟨k, hk, rfl⟩ := List.mem_iff_getElem.1 hx
 have := heap_first h k hk
 rw [tm_at he, tm_at (List.getElem?_eq_getElem hk)] at this
 exact this

def step_r0 : List Ins := [.o 2 (.mov (.c .nslice)),
 .o 3 (.mov (kI 0))]
def step_r1 : List Ins := [.mv 12 0,
 .f 13 67 [(.t 12)],
 .mv 11 13,
 .o 14 (.extr (.t 11) 0),
 .o 15 (.extr (.t 11) 1),
 .mv 4 14,
 .mv 5 15]
def step_r2 : List Ins := [.mv 16 0,
 .f 17 68 [(.t 16)],
 .o 18 (.not (.t 17))]
def step_r3 : List Ins := [.o 2 (.mov (.c .nslice)),
 .o 3 (.mov (kI 1))]
def step_r4 : List Ins := [.mv 19 5,
 .o 20 (.not (.t 19))]
def step_r5 : List Ins := [.o 2 (.mov (.c .nslice)),
 .o 3 (.mov (kI 3))]
def step_r6 : List Ins := [.mv 21 0,
 .o 22 (.nilck (.t 21)),
 .o 23 (.faddr (.t 22) 1),
 .o 24 (.load (.t 23)),
 .f 25 63 [(.t 24)],
 .mv 6 25]
def step_r7 : List Ins := [.mv 27 0,
 .o 28 (.nilck (.t 27)),
 .o 29 (.faddr (.t 28) 4),
 .o 30 (.load (.t 29)),
 .f 31 69 [(.t 30)],
 .mv 26 31,
 .o 32 (.extr (.t 26) 0),
 .o 33 (.extr (.t 26) 1),
 .o 7 (.alloc [(.int .i64 0), (.int .i64 0), (.str []), (.int .i64 0), (.int .i64 0), (.bool false)]),
 .x (.store 6 (.t 7) (.t 32)),
 .mv 8 33]
def step_r8 : List Ins := [.mv 34 8,
 .mv 35 34,
 .g 36 35 true (.faddr (.t 7) 0),
 .g 37 35 true (.load (.t 36)),
 .g 38 35 true (.mov (.t 4)),
 .g 39 35 true (.bin .eql (.t 37) (.t 38)),
 .o 40 (.pick (.t 35) (.t 39) (.c (.bool false)))]
def step_r9 : List Ins := [.mv 49 0,
 .o 50 (.nilck (.t 49)),
 .o 51 (.faddr (.t 50) 4),
 .o 52 (.load (.t 51)),
 .f 53 70 [(.t 52)]]
def step_r10 : List DIns := [⟨0, [], .mv 54 0⟩,
 ⟨1, [0], .o 55 (.nilck (.t 54))⟩,
 ⟨2, [1], .o 56 (.faddr (.t 55) 1)⟩,
 ⟨3, [2], .o 57 (.load (.t 56))⟩,
 ⟨4, [], .o 58 (.faddr (.t 7) 1)⟩,
 ⟨5, [4], .o 59 (.load (.t 58))⟩,
 ⟨6, [], .o 60 (.faddr (.t 7) 2)⟩,
 ⟨7, [6], .o 61 (.load (.t 60))⟩,
 ⟨8, [3, 5, 0, 1, 2, 3, 4, 5, 6, 7], .o 62 (.iaddr 1 (.t 57) (.t 59))⟩,
 ⟨9, [8, 7, 0, 1, 2, 3, 4, 5, 6, 7], .x (.store 1 (.t 62) (.t 61))⟩]
def step_r11 : List Ins := [.o 63 (.loadA 6 (.t 7))]
def step_r12 : List Ins := [.o 7 (.alloc [(.int .i64 0), (.int .i64 0), (.str []), (.int .i64 0), (.int .i64 0), (.bool false)]),
 .x (.store 6 (.t 7) (.t 63))]
def step_r13 : List Ins := [.mv 42 0,
 .o 43 (.nilck (.t 42)),
 .o 44 (.faddr (.t 43) 4),
 .o 45 (.load (.t 44)),
 .f 46 69 [(.t 45)],
 .mv 41 46,
 .o 47 (.extr (.t 41) 0),
 .o 48 (.extr (.t 41) 1),
 .x (.store 6 (.t 7) (.t 47)),
 .mv 8 48]
def step_r14 : List DIns := [⟨0, [], .mv 64 0⟩,
 ⟨1, [0], .o 65 (.nilck (.t 64))⟩,
 ⟨2, [1], .o 66 (.faddr (.t 65) 5)⟩,
 ⟨3, [2], .o 67 (.load (.t 66))⟩,
 ⟨4, [], .mv 68 0⟩,
 ⟨5, [4], .o 69 (.nilck (.t 68))⟩,
 ⟨6, [5], .o 70 (.faddr (.t 69) 0)⟩,
 ⟨7, [6], .o 71 (.load (.t 70))⟩,
 ⟨8, [7], .o 72 (.nilck (.t 71))⟩,
 ⟨9, [8], .o 73 (.faddr (.t 72) 10)⟩,
 ⟨10, [9], .o 74 (.load (.t 73))⟩,
 ⟨11, [10], .o 75 (.len .slc (.t 74))⟩,
 ⟨12, [3, 11], .o 76 (.bin .lss (.t 67) (.t 75))⟩,
 ⟨13, [12], .mv 77 76⟩,
 ⟨14, [13], .g 78 77 true (.mov (.t 0))⟩,
 ⟨15, [14, 13], .g 79 77 true (.nilck (.t 78))⟩,
 ⟨16, [15, 13], .g 80 77 true (.faddr (.t 79) 0)⟩,
 ⟨17, [16, 13], .g 81 77 true (.load (.t 80))⟩,
 ⟨18, [17, 13], .g 82 77 true (.nilck (.t 81))⟩,
 ⟨19, [18, 13], .g 83 77 true (.faddr (.t 82) 10)⟩,
 ⟨20, [19, 13], .g 84 77 true (.load (.t 83))⟩,
 ⟨21, [13], .g 85 77 true (.mov (.t 0))⟩,
 ⟨22, [21, 13], .g 86 77 true (.nilck (.t 85))⟩,
 ⟨23, [22, 13], .g 87 77 true (.faddr (.t 86) 5)⟩,
 ⟨24, [23, 13], .g 88 77 true (.load (.t 87))⟩,
 ⟨25, [20, 24, 13], .g 89 77 true (.iaddr 3 (.t 84) (.t 88))⟩,
 ⟨26, [25, 13], .g 90 77 true (.faddr (.t 89) 0)⟩,
 ⟨27, [26, 13], .g 91 77 true (.load (.t 90))⟩,
 ⟨28, [13], .g 92 77 true (.mov (.t 4))⟩,
 ⟨29, [27, 28, 13], .g 93 77 true (.bin .eql (.t 91) (.t 92))⟩,
 ⟨30, [13, 29], .o 94 (.pick (.t 77) (.t 93) (.c (.bool false)))⟩]
def step_r15 : List DIns := [⟨0, [], .mv 95 0⟩,
 ⟨1, [0], .o 96 (.nilck (.t 95))⟩,
 ⟨2, [1], .o 97 (.faddr (.t 96) 1)⟩,
 ⟨3, [2], .o 98 (.load (.t 97))⟩,
 ⟨4, [], .mv 99 0⟩,
 ⟨5, [4], .o 100 (.nilck (.t 99))⟩,
 ⟨6, [5], .o 101 (.faddr (.t 100) 0)⟩,
 ⟨7, [6], .o 102 (.load (.t 101))⟩,
 ⟨8, [7], .o 103 (.nilck (.t 102))⟩,
 ⟨9, [8], .o 104 (.faddr (.t 103) 0)⟩,
 ⟨10, [9], .o 105 (.faddr (.t 104) 1)⟩,
 ⟨11, [10], .o 106 (.load (.t 105))⟩,
 ⟨12, [], .mv 107 0⟩,
 ⟨13, [12], .o 108 (.nilck (.t 107))⟩,
 ⟨14, [13], .o 109 (.faddr (.t 108) 0)⟩,
 ⟨15, [14], .o 110 (.load (.t 109))⟩,
 ⟨16, [15], .o 111 (.nilck (.t 110))⟩,
 ⟨17, [16], .o 112 (.faddr (.t 111) 10)⟩,
 ⟨18, [17], .o 113 (.load (.t 112))⟩,
 ⟨19, [], .mv 114 0⟩,
 ⟨20, [19], .o 115 (.nilck (.t 114))⟩,
 ⟨21, [20], .o 116 (.faddr (.t 115) 5)⟩,
 ⟨22, [21], .o 117 (.load (.t 116))⟩,
 ⟨23, [18, 22], .o 118 (.iaddr 3 (.t 113) (.t 117))⟩,
 ⟨24, [23], .o 119 (.faddr (.t 118) 1)⟩,
 ⟨25, [24], .o 120 (.load (.t 119))⟩,
 ⟨26, [11, 25], .o 121 (.iaddr 1 (.t 106) (.t 120))⟩,
 ⟨27, [26], .o 122 (.load (.t 121))⟩,
 ⟨28, [], .mv 123 0⟩,
 ⟨29, [28], .o 124 (.nilck (.t 123))⟩,
 ⟨30, [29], .o 125 (.faddr (.t 124) 0)⟩,
 ⟨31, [30], .o 126 (.load (.t 125))⟩,
 ⟨32, [31], .o 127 (.nilck (.t 126))⟩,
 ⟨33, [32], .o 128 (.faddr (.t 127) 10)⟩,
 ⟨34, [33], .o 129 (.load (.t 128))⟩,
 ⟨35, [], .mv 130 0⟩,
 ⟨36, [35], .o 131 (.nilck (.t 130))⟩,
 ⟨37, [36], .o 132 (.faddr (.t 131) 5)⟩,
 ⟨38, [37], .o 133 (.load (.t 132))⟩,
 ⟨39, [34, 38], .o 134 (.iaddr 3 (.t 129) (.t 133))⟩,
 ⟨40, [39], .o 135 (.faddr (.t 134) 2)⟩,
 ⟨41, [40], .o 136 (.load (.t 135))⟩,
 ⟨42, [3, 27, 0, 1, 2, 3, 4, 5, 6, 7, 8, 9, 10, 11, 12, 13, 14, 15, 16, 17, 18, 19, 20, 21, 22, 23, 24, 25, 26, 27, 28, 29, 30, 31, 32, 33, 34, 35, 36, 37, 38, 39, 40, 41], .o 137 (.iaddr 1 (.t 98) (.t 122))⟩,
 ⟨43, [42, 41, 0, 1, 2, 3, 4, 5, 6, 7, 8, 9, 10, 11, 12, 13, 14, 15, 16, 17, 18, 19, 20, 21, 22, 23, 24, 25, 26, 27, 28, 29, 30, 31, 32, 33, 34, 35, 36, 37, 38, 39, 40, 41], .x (.store 1 (.t 137) (.t 136))⟩]
def step_r16 : List Ins := [.mv 138 0,
 .o 139 (.nilck (.t 138)),
 .o 140 (.faddr (.t 139) 5),
 .o 141 (.load (.t 140)),
 .o 142 (.bin .add (.t 141) (kI 1)),
 .o 143 (.nilck (.t 138)),
 .o 144 (.faddr (.t 143) 5),
 .x (.store 1 (.t 144) (.t 142))]
def step_r17 : List Ins := [.mv 145 0,
 .f 146 71 [(.t 145)]]
def step_r18 : List Ins := [.mv 147 0,
 .o 148 (.nilck (.t 147)),
 .o 149 (.faddr (.t 148) 0),
 .o 150 (.load (.t 149)),
 .o 151 (.nilck (.t 150)),
 .o 152 (.faddr (.t 151) 0),
 .o 153 (.faddr (.t 152) 1),
 .o 154 (.load (.t 153)),
 .o 155 (.len .slc (.t 154)),
 .o 156 (.mov (kI 0))]
def step_r19 : List Ins := [.o 157 (.bin .lss (.t 156) (.t 155))]
def step_r20 : List Ins := [.mv 158 156,
 .o 159 (.iaddr 1 (.t 154) (.t 156)),
 .o 160 (.load (.t 159)),
 .mv 9 158,
 .mv 10 160]
def step_r21 : List DIns := [⟨0, [], .mv 161 0⟩,
 ⟨1, [0], .o 162 (.nilck (.t 161))⟩,
 ⟨2, [1], .o 163 (.faddr (.t 162) 0)⟩,
 ⟨3, [2], .o 164 (.load (.t 163))⟩,
 ⟨4, [3], .o 165 (.nilck (.t 164))⟩,
 ⟨5, [4], .o 166 (.faddr (.t 165) 3)⟩,
 ⟨6, [5], .o 167 (.faddr (.t 166) 0)⟩,
 ⟨7, [6], .o 168 (.load (.t 167))⟩,
 ⟨8, [], .mv 169 10⟩,
 ⟨9, [7, 8], .o 170 (.iaddr 1 (.t 168) (.t 169))⟩,
 ⟨10, [9], .o 171 (.load (.t 170))⟩,
 ⟨11, [], .mv 172 0⟩,
 ⟨12, [11], .o 173 (.nilck (.t 172))⟩,
 ⟨13, [12], .o 174 (.faddr (.t 173) 0)⟩,
 ⟨14, [13], .o 175 (.load (.t 174))⟩,
 ⟨15, [14], .o 176 (.nilck (.t 175))⟩,
 ⟨16, [15], .o 177 (.faddr (.t 176) 6)⟩,
 ⟨17, [16], .o 178 (.load (.t 177))⟩,
 ⟨18, [10, 17], .o 179 (.bin .eql (.t 171) (.t 178))⟩,
 ⟨19, [18], .mv 180 179⟩,
 ⟨20, [19], .g 181 180 true (.mov (.t 0))⟩,
 ⟨21, [20, 19], .g 182 180 true (.nilck (.t 181))⟩,
 ⟨22, [21, 19], .g 183 180 true (.faddr (.t 182) 1)⟩,
 ⟨23, [22, 19], .g 184 180 true (.load (.t 183))⟩,
 ⟨24, [19], .g 185 180 true (.mov (.t 10))⟩,
 ⟨25, [23, 24, 19], .g 186 180 true (.iaddr 1 (.t 184) (.t 185))⟩,
 ⟨26, [25, 19], .g 187 180 true (.load (.t 186))⟩,
 ⟨27, [19], .g 188 180 true (.mov (.t 6))⟩,
 ⟨28, [19], .g 189 180 true (.mov (.t 10))⟩,
 ⟨29, [27, 28, 19], .g 190 180 true (.iaddr 1 (.t 188) (.t 189))⟩,
 ⟨30, [29, 19], .g 191 180 true (.load (.t 190))⟩,
 ⟨31, [26, 30, 19], .g 192 180 true (.bin .neq (.t 187) (.t 191))⟩,
 ⟨32, [19, 31], .o 193 (.pick (.t 180) (.t 192) (.c (.bool false)))⟩]
def step_r22 : List DIns := [⟨0, [], .mv 194 0⟩,
 ⟨1, [], .mv 195 0⟩,
 ⟨2, [1], .o 196 (.nilck (.t 195))⟩,
 ⟨3, [2], .o 197 (.faddr (.t 196) 8)⟩,
 ⟨4, [3], .o 198 (.load (.t 197))⟩,
 ⟨5, [], .mv 199 4⟩,
 ⟨6, [], .mv 200 9⟩,
 ⟨7, [], .mv 201 0⟩,
 ⟨8, [7], .o 202 (.nilck (.t 201))⟩,
 ⟨9, [8], .o 203 (.faddr (.t 202) 1)⟩,
 ⟨10, [9], .o 204 (.load (.t 203))⟩,
 ⟨11, [], .mv 205 10⟩,
 ⟨12, [10, 11], .o 206 (.iaddr 1 (.t 204) (.t 205))⟩,
 ⟨13, [12], .o 207 (.load (.t 206))⟩,
 ⟨14, [5, 6, 13], .o 208 (.build [(.int .i64 0), (.int .i64 0), (.str [])] [(0, 1, (.t 199)), (1, 1, (.t 200)), (2, 1, (.t 207))])⟩,
 ⟨15, [14], .o 209 (.bslice 3 1 [(.int .i64 0), (.int .i64 0), (.str [])] [(0, 3, (.t 208))])⟩,
 ⟨16, [4, 15], .o 210 (.app 3 (.t 198) (.t 209))⟩,
 ⟨17, [0, 0, 1, 2, 3, 4, 5, 6, 7, 8, 9, 10, 11, 12, 13, 14, 15, 16], .o 211 (.nilck (.t 194))⟩,
 ⟨18, [17, 0, 1, 2, 3, 4, 5, 6, 7, 8, 9, 10, 11, 12, 13, 14, 15, 16], .o 212 (.faddr (.t 211) 8)⟩,
 ⟨19, [18, 16, 16, 0, 1, 2, 3, 4, 5, 6, 7, 8, 9, 10, 11, 12, 13, 14, 15, 16], .x (.store 1 (.t 212) (.t 210))⟩]
def step_r23 : List Ins := [.o 213 (.bin .add (.t 156) (kI 1)),
 .mv 156 213]
def step_r24 : List Ins := [.mv 214 0,
 .mv 215 4,
 .o 216 (.nilck (.t 214)),
 .o 217 (.faddr (.t 216) 6),
 .x (.store 1 (.t 217) (.t 215))]
def step_r25 : List Ins := [.mv 218 0,
 .mv 219 4,
 .f 220 72 [(.t 218), (.t 219)],
 .o 221 (.extr (.t 220) 0),
 .o 222 (.extr (.t 220) 1),
 .mv 2 221,
 .mv 3 222]
def step_c : IC := (.seq (.reg step_r0) (.seq (.reg step_r1) (.seq (.seq (.reg step_r2) (.cond (.t 18) (.seq (.reg step_r3) .ret) .skip)) (.seq (.seq (.reg step_r4) (.cond (.t 20) (.seq (.reg step_r5) .ret) .skip)) (.seq (.reg step_r6) (.seq (.seq (.reg step_r7) (.block 0 (.loop (.seq (.seq (.reg step_r8) (.cond (.t 40) .skip (.exit 0))) (.seq (.block 1 (.seq (.reg step_r9) (.draw step_r10))) (.seq (.seq (.reg step_r11) (.reg step_r12)) (.reg step_r13))))))) (.seq (.block 2 (.loop (.seq (.seq (.draw step_r14) (.cond (.t 94) .skip (.exit 2))) (.block 3 (.seq (.draw step_r15) (.reg step_r16)))))) (.seq (.reg step_r17) (.seq (.seq (.reg step_r18) (.block 4 (.loop (.seq (.reg step_r19) (.seq (.cond (.t 157) .skip (.exit 4)) (.seq (.block 5 (.seq (.reg step_r20) (.seq (.draw step_r21) (.cond (.t 193) (.draw step_r22) .skip)))) (.reg step_r23))))))) (.seq (.reg step_r24) (.seq (.reg step_r25) .ret)))))))))))
theorem step_tab : tb 23 = some (.code 1 223 step_c [.tmp 2, .tmp 3]) := by kernel_rfl
theorem next_A {t : TB} {nx d : Nat} {D : Int} {cv : AV} {a b : List Nat} {es : List Ev} (hP : PM t nx D cv a b d es) (hD : D = -1) : WF tb 67 [.ptr 88 0] t nx (fun v t' nx' => v = .tup [.int .i64 0, .bool true] ∧ nx ≤ nx' ∧ Keep t t' nx (fun _ => False)) :=
 (next_ok hP (.inl hD)).mono (fun v t' nx' ⟨m, h1, h2, h3⟩ => ⟨by rw [h1, h2.2 hD]; rfl, h3⟩)
theorem next_B {t : TB} {nx d : Nat} {D : Int} {cv : AV} {a b : List Nat} {es : List Ev} (hP : PM t nx D cv a b d es) (hD : D = 0) (he : es = []) : WF tb 67 [.ptr 88 0] t nx (fun v t' nx' => v = .tup [.int .i64 0, .bool false] ∧ nx ≤ nx' ∧ Keep t t' nx (fun _ => False)) :=
 (next_ok hP (.inr ⟨hD, he⟩)).mono (fun v t' nx' ⟨m, h1, h2, h3⟩ => by
   cases m with
   | true => have := h2.1 rfl; omega
   | false => exact ⟨h1, h3⟩)

set_option maxHeartbeats 4000000 in
theorem stepA_ok {t : TB} {nx d : Nat} {D : Int} {cv : AV} {a b : List Nat} {es : List Ev} (hP : PM t nx D cv a b d es) (hD : D = -1) (hcv : cv = .nslice) (hev : ∀ x ∈ es, 0 ≤ x.time ∧ x.node = 1) : WF tb 23 [.ptr 88 0] t nx (fun v t' nx' => ∃ (tk es' : List Ev) (cv' : AV) (b' : List Nat) (d' : Nat), v = .tup [.nslice, .int .i64 0] ∧ PM t' nx' 0 cv' a b' d' es' ∧ (tk ++ es').Perm es ∧ (∀ x ∈ tk, x.time = 0) ∧ (∀ x ∈ es', 0 < x.time) ∧ (d' = d ∨ nx ≤ d') ∧ nx ≤ nx' ∧ Keep t t' nx (fun x => x = 88 ∨ x = 89 ∨ x = 127 ∨ x = d)) := by
 subst hcv
 have h0 := hP.h0
 have hd0 := hP.hd
 have hd1 := hP.hQ.1
 have hs0 := hP.hs
 refine k_fun step_tab rfl ?_
 unfold step_c
 change WC _ _ (TA.put (some _) TA.e 0) _ _ _
 refine k_seq (k_reg (rO (o_mov ev_c) (rO (o_mov ev_c) (r_nil (k_seq (k_reg (m1 (z2 get_same) (r_call (w_callF (evs_cons eZ evs_nil)) rfl (WF.mono (next_A (hP.keep (n' := nx) (show Keep t t nx (fun _ => False) from kR) (fun _ h => h.elim) (by omega)) hD) ?_)))))))))
 rintro _ t1 n2 ⟨rfl, hn_n, hk_n⟩
 refine m1 ds (rO (o_extr eZ rfl) (rO (o_extr (eV (z1 ds)) rfl) (m1 (z1 ds) (m1 (z1 ds) (r_nil (k_seq (k_seq (k_reg (m1 (z1 (z8 get_same)) (r_call (w_callF (evs_cons eZ evs_nil)) rfl (WF.mono (given_ok (hP.keep (n' := n2) (show Keep t t1 nx (fun _ => False) from Keep.trans kR hk_n (by omega) (fun d _ h => h)) (fun _ h => h.elim) (by omega))) ?_)))))))))))
 rintro _ t3 n4 ⟨rfl, hn_g, hk_g⟩
 refine rO (o_not eZ) (r_nil (k_cond_f eZ (k_skip (k_seq (k_seq (k_reg (m1 (z1 (z2 ds)) (rO (o_not eZ) (r_nil (k_cond_f eZ (k_skip (k_seq (k_reg (m1 (z2 (z4 (z8 get_same))) (rO (o_nilck eZ) (rO (o_faddr (off := 1) eZ) (rO (o_load eZ (Keep.look hk_g (by omega) id (Keep.look hk_n (by omega) id hP.h88)) rfl) (r_call (w_callF (evs_cons eZ evs_nil)) rfl (WF.mono (clone_ok (Keep.look hk_g (by omega) id (Keep.look hk_n (by omega) id hP.h127)) (by omega)) ?_)))))))))))))))))))
 rintro _ t5 n6 ⟨c0, rfl, hc1, hc2, hr_c, hn_c, hk_c⟩
 refine m1 ds (r_nil (k_seq (k_seq (k_reg (m1 (z4 (z8 (z8 get_same))) (rO (o_nilck eZ) (rO (o_faddr (off := 4) eZ) (rO (o_load eZ (Keep.look hk_c (by omega) id (Keep.look hk_g (by omega) id (Keep.look hk_n (by omega) id hP.h88))) rfl) (r_call (w_callF (evs_cons eZ evs_nil)) rfl (WF.mono (qmin_ok (hP.keep (n' := n6) (show Keep t t5 nx (fun _ => False) from Keep.trans (Keep.trans (Keep.trans kR hk_n (by omega) (fun d _ h => h)) hk_g (by omega) (fun d _ h => h)) hk_c (by omega) (fun d _ h => h)) (fun _ h => h.elim) (by omega)).hQ.2.2.2 (hP.keep (n' := n6) (show Keep t t5 nx (fun _ => False) from Keep.trans (Keep.trans (Keep.trans kR hk_n (by omega) (fun d _ h => h)) hk_g (by omega) (fun d _ h => h)) hk_c (by omega) (fun d _ h => h)) (fun _ h => h.elim) (by omega)).hQ.2.2.1 (by omega) (by decide)) ?_))))))))))
 rintro _ t7 n8 ⟨e, m, rfl, hm1, hm2, hn_m, hk_m⟩
 refine m1 ds (rO (o_extr eZ rfl) (rO (o_extr (eV (z1 ds)) rfl) (r_heap (o_alloc) rfl (fun t9 (hh10 : hv t9 = upd (hv t7) n8 (some (.row [(.int .i64 0), (.int .i64 0), (.str []), (.int .i64 0), (.int .i64 0), (.bool false)] true))) => r_heap (o_store (n := 6) eZ (eV (z2 ds)) (lS hh10) rfl rfl (leb rfl)) rfl (fun t11 (hh12 : hv t11 = upd (hv t9) n8 (some (.row [(.int .i64 e.time), (.int .i64 e.node), (.str e.val), (.int .i64 e.frm), (.int .i64 e.seq), (.bool e.anti)] true))) => m1 (z2 ds) (r_nil ?_))))))
 refine k_cut (fun T_ t_ n_ => ∃ (tk es2 : List Ev) (bv : List Nat) (d2 : Nat), (T_.get 0 = some (.ptr 88 0) ∧ T_.get 4 = some (.int .i64 0) ∧ T_.get 6 = some (.slice c0 0 2 2 1 false)) ∧ PM t_ n_ D .nslice a bv d2 es2 ∧ hv t_ c0 = some (.row [.str a, .str b] true) ∧ c0 ≠ d2 ∧ c0 < n_ ∧ (tk ++ es2).Perm es ∧ (∀ x ∈ tk, x.time = 0) ∧ (∀ x ∈ es2, 0 < x.time) ∧ (d2 = d ∨ nx ≤ d2) ∧ nx ≤ n_ ∧ Keep t t_ nx (fun x => x = 88 ∨ x = 89 ∨ x = 127 ∨ x = d)) ?_ ?_
 · refine k_block (k_loop (fun mm Tv tv nv => ∃ (tk es2 : List Ev) (bv : List Nat) (d2 B : Nat) (e : Ev) (m : Bool), (Tv.get 0 = some (.ptr 88 0) ∧ Tv.get 4 = some (.int .i64 0) ∧ Tv.get 6 = some (.slice c0 0 2 2 1 false) ∧ Tv.get 7 = some (.ptr B 0) ∧ Tv.get 8 = some (.bool (decide (m = true)))) ∧ PM tv nv D .nslice a bv d2 es2 ∧ hv tv c0 = some (.row [.str a, .str b] true) ∧ hv tv B = some (.row (ecells e) true) ∧ c0 ≠ d2 ∧ c0 < nv ∧ B ≠ d2 ∧ B < nv ∧ nx ≤ B ∧ B ≠ c0 ∧ (m = true → es2[0]? = some e) ∧ (m ≠ true → es2 = []) ∧ (tk ++ es2).Perm es ∧ (∀ x ∈ tk, x.time = 0) ∧ (d2 = d ∨ nx ≤ d2) ∧ nx ≤ nv ∧ Keep t tv nx (fun x => x = 88 ∨ x = 89 ∨ x = 127 ∨ x = d) ∧ mm = es2.length) (fun mm Tv tv nv hI => ?_) (es.length) ⟨[], es, b, d, n8, e, m, ⟨(z1 (z2 (z4 (z8 (z8 (z8 get_same)))))), (z1 (z2 (z4 (z8 (z8 ds))))), (z1 (z2 (z8 ds))), (z2 ds), ds⟩, hP.keep (n' := (n8 + 1)) (show Keep t t11 nx (fun _ => False) from kU (kU (Keep.trans (Keep.trans (Keep.trans (Keep.trans kR hk_n (by omega) (fun d _ h => h)) hk_g (by omega) (fun d _ h => h)) hk_c (by omega) (fun d _ h => h)) hk_m (by omega) (fun d _ h => h)) hh10) hh12) (fun _ h => h.elim) (by omega), (lN hh12 (lN hh10 (Keep.look hk_m (by omega) id hr_c))), (lS hh12), by omega, by omega, by omega, by omega, by omega, by omega, hm1, hm2, List.Perm.refl _, (fun x hx => nomatch hx), .inl rfl, by omega, (show Keep t t11 nx (fun x => x = 88 ∨ x = 89 ∨ x = 127 ∨ x = d) from kU (kU (Keep.trans (Keep.trans (Keep.trans (Keep.trans kR hk_n (by omega) ((fun _ _ h => h.elim))) hk_g (by omega) ((fun _ _ h => h.elim))) hk_c (by omega) ((fun _ _ h => h.elim))) hk_m (by omega) ((fun _ _ h => h.elim))) hh10) hh12), rfl⟩)
   obtain ⟨tk, es2, bv, d2, B, e, m, ⟨q0, q4, q6, q7, q8⟩, hP2, hrc, hrB, hcd, hcn, hBd, hBn, hBx, hBc, hm1, hm2, htk, htz, hdd, hnv, hkv, hmm⟩ := hI
   have h02 := hP2.h0
   have hd2 := hP2.hd
   have hd3 := hP2.hQ.1
   have hs2 := hP2.hs
   refine k_seq (k_seq (k_reg ?_))
   by_cases hs13 : (m = true)
   · refine rO (dec_t (o_mov (eV q8)) hs13) (m1 ds (r_op (o_faddr (off := 0) (eV (z2 q7))) (want_on ds) (r_op (o_load eZ hrB rfl) (want_on (z1 ds)) (r_op (o_mov (eV (z4 q4))) (want_on (z2 ds)) (r_op (o_eql (eV (z1 ds)) eZ) (want_on (z1 (z2 ds))) (rO (o_pick_t (eV (z4 ds)) eZ) (r_nil ?_)))))))
     refine k_if eZ (fun hc14 => ?_) (fun hc14 => ?_)
     · refine k_skip (k_seq (k_block (k_seq (k_reg (m1 (z1 (z2 (z4 q0))) (rO (o_nilck eZ) (rO (o_faddr (off := 4) eZ) (rO (o_load eZ hP2.h88 rfl) ?_))))))))
       have ha := hm1 (by assumption)
       have hnd := (hev e (htk.mem_iff.1 (List.mem_append_right _ (List.mem_of_getElem? ha)))).2
       refine r_call (w_callF (evs_cons eZ evs_nil)) rfl (WF.mono (qtake_ok (e := e) hP2.hQ (by omega) (by decide) hP2.hH ha) ?_)
       rintro _ t15 n16 ⟨es3, d3, rfl, hd5, hQ3, hpp, hH3, hn_q, hk_q⟩
       have hd7 := hQ3.1
       have hrB2 : hv t15 B = some (.row [.int .i64 e.time, .int .i64 1, .str e.val, .int .i64 e.frm, .int .i64 e.seq, .bool e.anti] true) := by have h_ : hv t15 B = some (.row (ecells e) true) := (Keep.look hk_q (by omega) (fun h_ => absurd (show B = 89 ∨ B = d2 from h_) (by omega)) hrB); unfold ecells at h_; rw [hnd] at h_; exact h_
       refine r_nil (k_draw (eO 0 rfl (o_mov (eV (z4 (z8 q0)))) (eO 1 rfl (o_nilck eZ) (eO 2 rfl (o_faddr (off := 1) eZ) (eO 3 rfl (o_load eZ (Keep.look hk_q (by omega) (fun h_ => absurd (show 88 = 89 ∨ 88 = d2 from h_) (by omega)) hP2.h88) rfl) (eO 4 rfl (o_faddr (off := 1) (eV (z8 (z8 q7)))) (eO 5 rfl (o_load eZ hrB2 rfl) (eO 6 rfl (o_faddr (off := 2) (eV (z2 (z8 (z8 q7))))) (eO 7 rfl (o_load eZ hrB2 rfl) (eO 8 rfl (o_iaddr (i := 1) (eV (z4 ds)) (eV (z2 ds)) (by omega)) ?_))))))))))
       refine d_heap (ix := 9) (pr := [8, 7, 0, 1, 2, 3, 4, 5, 6, 7]) (d := none) (g := none) (F' := []) (o := (.store 1 (.t 62) (.t 61))) (o_store (n := 1) eZ (eV (z1 ds)) (Keep.look hk_q (by omega) (fun h_ => absurd (show 127 = 89 ∨ 127 = d2 from h_) (by omega)) hP2.h127) rfl rfl (leb rfl)) rfl (by kernel_rfl) (by kernel_rfl) (by kernel_rfl) (by kernel_rfl) (fun t17 (hh18 : hv t17 = upd (hv t15) 127 (some (.row [(.str a), (.str e.val)] true))) => ⟨?_, ?_⟩)
       · exact all_nil_
       refine e_done (k_seq (k_seq (k_reg (rO (o_loadA (n := 6) (eV (z2 (z4 (z8 (z8 q7))))) (lN hh18 hrB2) (leb rfl) rfl) (r_nil (k_reg (r_heap (o_alloc) rfl (fun t19 (hh20 : hv t19 = upd (hv t17) n16 (some (.row [(.int .i64 0), (.int .i64 0), (.str []), (.int .i64 0), (.int .i64 0), (.bool false)] true))) => r_heap (o_store (n := 6) eZ (eV (z1 ds)) (lS hh20) rfl rfl (leb rfl)) rfl (fun t21 (hh22 : hv t21 = upd (hv t19) n16 (some (.row [(.int .i64 e.time), (.int .i64 1), (.str e.val), (.int .i64 e.frm), (.int .i64 e.seq), (.bool e.anti)] true))) => r_nil (k_reg (m1 (z1 (z8 (z8 (z8 q0)))) (rO (o_nilck eZ) (rO (o_faddr (off := 4) eZ) (rO (o_load eZ (lN hh22 (lN hh20 (lN hh18 (Keep.look hk_q (by omega) (fun h_ => absurd (show 88 = 89 ∨ 88 = d2 from h_) (by omega)) hP2.h88)))) rfl) ?_))))))))))))))
       have hQ4 := hQ3.keep (n' := (n16 + 1)) (show Keep t15 t21 n16 (fun b => b = 127) from Keep.upd (Keep.upd (Keep.upd (Keep.refl t15 n16 _) hh18 (by first | exact .inl (by omega) | (right; first | exact rfl | (show _ ∨ _; omega) | omega))) hh20 (by first | exact .inl (by omega) | (right; first | exact rfl | (show _ ∨ _; omega) | omega))) hh22 (by first | exact .inl (by omega) | (right; first | exact rfl | (show _ ∨ _; omega) | omega))) (by omega) (by omega) (by omega)
       have hl4 : es3.length + 1 = es2.length := by have := hpp.length_eq; simpa using this
       refine r_call (w_callF (evs_cons eZ evs_nil)) rfl (WF.mono (qmin_ok hQ4.2.2.2 hQ4.2.2.1 (by omega) (by decide)) ?_)
       rintro _ t23 n24 ⟨e2, m2, rfl, hm3, hm4, hn_m2, hk_m2⟩
       refine m1 ds (rO (o_extr eZ rfl) (rO (o_extr (eV (z1 ds)) rfl) (r_heap (o_store (n := 6) (eV (z1 (z8 ds))) (eV (z1 ds)) (Keep.look hk_m2 (by omega) id (lS hh22)) rfl rfl (leb rfl)) rfl (fun t25 (hh26 : hv t25 = upd (hv t23) n16 (some (.row [(.int .i64 e2.time), (.int .i64 e2.node), (.str e2.val), (.int .i64 e2.frm), (.int .i64 e2.seq), (.bool e2.anti)] true))) => m1 (z1 ds) (r_nil ?_)))))
       have hl3 : es3.length + 1 = es2.length := by have := hpp.length_eq; simpa using this
       have hP4 : PM t25 n24 D .nslice a e.val d3 es3 := ⟨(lN hh26 (Keep.look hk_m2 (by omega) id (lN hh22 (lN hh20 (lN hh18 (Keep.look hk_q (by omega) (fun h_ => absurd (show 88 = 89 ∨ 88 = d2 from h_) (by omega)) hP2.h88)))))), (lN hh26 (Keep.look hk_m2 (by omega) id (lN hh22 (lN hh20 (lN hh18 (Keep.look hk_q (by omega) (fun h_ => absurd (show 87 = 89 ∨ 87 = d2 from h_) (by omega)) hP2.h87)))))), (lN hh26 (Keep.look hk_m2 (by omega) id (lN hh22 (lN hh20 (lN hh18 (Keep.look hk_q (by omega) (fun h_ => absurd (show 4 = 89 ∨ 4 = d2 from h_) (by omega)) hP2.h4)))))), (lN hh26 (Keep.look hk_m2 (by omega) id (lN hh22 (lN hh20 (lN hh18 (Keep.look hk_q (by omega) (fun h_ => absurd (show 5 = 89 ∨ 5 = d2 from h_) (by omega)) hP2.h5)))))), (lN hh26 (Keep.look hk_m2 (by omega) id (lN hh22 (lN hh20 (lN hh18 (Keep.look hk_q (by omega) (fun h_ => absurd (show 7 = 89 ∨ 7 = d2 from h_) (by omega)) hP2.h7)))))), (lN hh26 (Keep.look hk_m2 (by omega) id (lN hh22 (lN hh20 (lN hh18 (Keep.look hk_q (by omega) (fun h_ => absurd (show 3 = 89 ∨ 3 = d2 from h_) (by omega)) hP2.h3)))))), (lN hh26 (Keep.look hk_m2 (by omega) id (lN hh22 (lN hh20 (lS hh18))))), (hQ3.keep (show Keep t15 t25 n16 (fun b => b = 127) from Keep.upd (Keep.trans (Keep.upd (Keep.upd (Keep.upd (Keep.refl t15 n16 _) hh18 (by first | exact .inl (by omega) | (right; first | exact rfl | (show _ ∨ _; omega) | omega))) hh20 (by first | exact .inl (by omega) | (right; first | exact rfl | (show _ ∨ _; omega) | omega))) hh22 (by first | exact .inl (by omega) | (right; first | exact rfl | (show _ ∨ _; omega) | omega))) hk_m2 (by omega) (fun d _ h => h.elim)) hh26 (by first | exact .inl (by omega) | (right; first | exact rfl | (show _ ∨ _; omega) | omega))) (by omega) (by omega) (by omega)), by omega, by omega, hH3, by omega⟩
       exact ⟨es3.length, by omega, tk ++ [e], es3, e.val, d3, n16, e2, m2, ⟨(z1 (z2 (z8 (z8 (z8 (z8 q0)))))), (z1 (z2 (z8 (z8 (z8 (z8 q4)))))), (z1 (z2 (z8 (z8 (z8 (z8 q6)))))), (z1 (z2 (z8 ds))), ds⟩, hP4, (lN hh26 (Keep.look hk_m2 (by omega) id (lN hh22 (lN hh20 (lN hh18 (Keep.look hk_q (by omega) (fun h_ => absurd (show c0 = 89 ∨ c0 = d2 from h_) (by omega)) hrc)))))), (lS hh26), by omega, by omega, by omega, by omega, by omega, by omega, hm3, hm4, (by rw [List.append_assoc]; exact (List.Perm.append_left tk (List.perm_append_comm (l₁ := [e]) (l₂ := es3))).trans ((List.Perm.append_left tk hpp).trans htk)), (fun x hx => (List.mem_append.1 hx).elim (htz x) (fun h_ => by simp at h_; subst h_; omega)), by omega, by omega, kU (Keep.trans (kU (kU (Keep.upd (Keep.trans (hkv) hk_q (by omega) ((fun b hb h_ => by have e_ : b = 89 ∨ b = d2 := h_; have e2_ : b < nx := hb; show b = 88 ∨ b = 89 ∨ b = 127 ∨ b = d; omega))) hh18 (.inr (.inr (.inr (.inl rfl))))) hh20) hh22) hk_m2 (by omega) ((fun _ _ h => h.elim))) hh26, rfl⟩
     refine k_exit (exK_same ?_)
     have hfin : ∀ x ∈ es2, 0 < x.time := by
       have hm3 := hm1 (by assumption)
       intro x hx; have h1_ := heap_min hP2.hH hm3 x hx; have h2_ := (hev e (htk.mem_iff.1 (List.mem_append_right _ (List.mem_of_getElem? hm3)))).1; omega
     exact ⟨tk, es2, bv, d2, ⟨(z1 (z2 (z4 q0))), (z1 (z2 (z4 q4))), (z1 (z2 (z4 q6)))⟩, hP2, hrc, by omega, by omega, htk, htz, hfin, by omega, by omega, hkv⟩
   refine rO (dec_f (o_mov (eV q8)) hs13) (m1 ds (r_off (wN ds) (r_off (wN (z1 ds)) (r_off (wN (z2 ds)) (r_off (wN (z1 (z2 ds))) (rO (o_pick_f (eV (z4 ds)) ev_c) (r_nil (k_cond_f eZ (k_exit (exK_same ?_))))))))))
   have hfin : ∀ x ∈ es2, 0 < x.time := by
     rw [hm2 (by assumption)]; intro x hx; cases hx
   exact ⟨tk, es2, bv, d2, ⟨(z1 (z2 (z4 q0))), (z1 (z2 (z4 q4))), (z1 (z2 (z4 q6)))⟩, hP2, hrc, by omega, by omega, htk, htz, hfin, by omega, by omega, hkv⟩
 rintro T_2 t_2 n_2 ⟨tk, es2, bv, d2, ⟨p0, p4, p6⟩, hP2, hrc, hcd, hcn, htk, htz, hfin, hdd, hn2, hk2⟩
 have h02 := hP2.h0
 have hd2 := hP2.hd
 have hd3 := hP2.hQ.1
 refine k_seq (k_block (k_loop (fun mm Tz tz nz => Tz.get 0 = some (.ptr 88 0) ∧ Tz.get 4 = some (.int .i64 0) ∧ Tz.get 6 = some (.slice c0 0 2 2 1 false) ∧ t_2 = tz ∧ n_2 = nz) (fun mm Tz27 tz nz hI => ?_) 0 ⟨p0, p4, p6, rfl, rfl⟩))
 obtain ⟨qz27_0, qz27_4, qz27_6, rfl, rfl⟩ := hI
 refine k_seq (k_seq (k_draw (eO 0 rfl (o_mov (eV qz27_0)) (eO 1 rfl (o_nilck eZ) (eO 2 rfl (o_faddr (off := 5) eZ) (eO 3 rfl (o_load eZ hP2.h88 rfl) (eO 4 rfl (o_mov (eV (z4 qz27_0))) (eO 5 rfl (o_nilck eZ) (eO 6 rfl (o_faddr (off := 0) eZ) (eO 7 rfl (o_load eZ hP2.h88 rfl) (eO 8 rfl (o_nilck eZ) (eO 9 rfl (o_faddr (off := 10) eZ) (eO 10 rfl (o_load eZ hP2.h87 rfl) (eO 11 rfl (o_len_nslice eZ) (eO 12 rfl (dec_f (o_lss (eV (z8 ds)) eZ) (by simp)) (eO 13 rfl (o_mov eZ) (e_off 14 rfl (wN ds) (e_off 15 rfl (wN (z1 ds)) (e_off 16 rfl (wN (z2 ds)) (e_off 17 rfl (wN (z1 (z2 ds))) (e_off 18 rfl (wN (z4 ds)) (e_off 19 rfl (wN (z1 (z4 ds))) (e_off 20 rfl (wN (z2 (z4 ds))) (e_off 21 rfl (wN (z1 (z2 (z4 ds)))) (e_off 22 rfl (wN (z8 ds)) (e_off 23 rfl (wN (z1 (z8 ds))) (e_off 24 rfl (wN (z2 (z8 ds))) (e_off 25 rfl (wN (z1 (z2 (z8 ds)))) (e_off 26 rfl (wN (z4 (z8 ds))) (e_off 27 rfl (wN (z1 (z4 (z8 ds)))) (e_off 28 rfl (wN (z2 (z4 (z8 ds)))) (e_off 29 rfl (wN (z1 (z2 (z4 (z8 ds))))) (eO 30 rfl (o_pick_f (eV (z8 (z8 ds))) ev_c) (e_done (k_cond_f eZ (k_exit (exK_same (k_seq (k_reg (rO (o_mov (eV (z1 (z2 (z4 (z8 (z8 (z8 qz27_0)))))))) ?_))))))))))))))))))))))))))))))))))))))))
 refine r_call (w_callF (evs_cons eZ evs_nil)) rfl (WF.mono (settle_ok (hP2.keep (n' := n_2) (show Keep t_2 t_2 n_2 (fun b => False) from Keep.refl t_2 n_2 _) (fun _ h => h.elim) (by omega))) ?_)
 rintro _ t28 n29 ⟨rfl, hn_s, hk_s⟩
 refine r_nil (k_seq (k_seq (k_reg (m1 (z1 (z8 (z8 (z8 (z8 qz27_0))))) (rO (o_nilck eZ) (rO (o_faddr (off := 0) eZ) (rO (o_load eZ (Keep.look hk_s (by omega) id hP2.h88) rfl) (rO (o_nilck eZ) (rO (o_faddr (off := 0) eZ) (rO (o_faddr (off := 1) eZ) (rO (o_load eZ (Keep.look hk_s (by omega) id hP2.h87) rfl) (rO (o_len_slice eZ) (rO (o_mov ev_c) (r_nil (k_block (k_loop (fun mm Tw tw nw => ∃ (i : Nat) (cv2 : AV), i ≤ 2 ∧ (Tw.get 0 = some (.ptr 88 0) ∧ Tw.get 4 = some (.int .i64 0) ∧ Tw.get 6 = some (.slice c0 0 2 2 1 false) ∧ Tw.get 154 = some (.slice 5 0 2 2 1 true) ∧ Tw.get 155 = some (.int .i64 ((2 : Nat) : Int)) ∧ Tw.get 156 = some (.int .i64 ((i : Nat) : Int))) ∧ PM tw nw D cv2 a bv d2 es2 ∧ (i ≤ 1 → cv2 = .nslice) ∧ hv tw c0 = some (.row [.str a, .str b] true) ∧ c0 < nw ∧ nx ≤ nw ∧ Keep t tw nx (fun x => x = 88 ∨ x = 89 ∨ x = 127 ∨ x = d) ∧ mm + i = 2) (fun mm Tw tw nw hI => ?_) (2) ⟨0, .nslice, by omega, ⟨(z1 (z2 (z8 (z8 (z8 (z8 (z8 qz27_0))))))), (z1 (z2 (z8 (z8 (z8 (z8 (z8 qz27_4))))))), (z1 (z2 (z8 (z8 (z8 (z8 (z8 qz27_6))))))), (z2 ds), (z1 ds), ds⟩, hP2.keep (n' := n29) (show Keep t_2 t28 n_2 (fun b => False) from Keep.trans (Keep.refl t_2 n_2 _) hk_s (by omega) (fun d _ h => h.elim)) (fun _ h => h.elim) (by omega), (fun _ => rfl), (Keep.look hk_s (by omega) id hrc), by omega, by omega, Keep.trans (hk2) hk_s (by omega) ((fun _ _ h => h.elim)), rfl⟩))))))))))))))))
 obtain ⟨i, cv2, hi, ⟨r0, r4, r6, r154, r155, r156⟩, hP3, hcv2, hrc3, hcn3, hnw, hkw, hmm⟩ := hI
 have h03 := hP3.h0
 have hd4 := hP3.hd
 have hd6 := hP3.hQ.1
 refine k_seq (k_reg (rO (o_lss (eV r156) (eV r155)) (r_nil (k_seq ?_))))
 refine k_if eZ (fun hc30 => ?_) (fun hc30 => ?_)
 · refine k_skip (k_seq (k_block (k_seq ?_)))
   obtain rfl := hcv2 (by omega)
   rcases (show i = 0 ∨ i = 1 by omega) with rfl | rfl
   · refine k_reg (m1 (z1 r156) (rO (o_iaddr (i := 0) (eV (z2 r154)) (eV (z2 r156)) (by omega)) (rO (o_load eZ hP3.h5 rfl) (m1 (z2 ds) (m1 (z1 ds) (r_nil (k_seq (k_draw (eO 0 rfl (o_mov (eV (z2 (z4 r0)))) (eO 1 rfl (o_nilck eZ) (eO 2 rfl (o_faddr (off := 0) eZ) (eO 3 rfl (o_load eZ hP3.h88 rfl) (eO 4 rfl (o_nilck eZ) (eO 5 rfl (o_faddr (off := 3) eZ) (eO 6 rfl (o_faddr (off := 0) eZ) (eO 7 rfl (o_load eZ hP3.h87 rfl) (eO 8 rfl (o_mov (eV (z8 ds))) (eO 9 rfl (o_iaddr (i := 0) (eV (z1 ds)) eZ (by omega)) (eO 10 rfl (o_load eZ hP3.h7 rfl) (eO 11 rfl (o_mov (eV (z1 (z8 (z8 r0))))) (eO 12 rfl (o_nilck eZ) (eO 13 rfl (o_faddr (off := 0) eZ) (eO 14 rfl (o_load eZ hP3.h88 rfl) (eO 15 rfl (o_nilck eZ) (eO 16 rfl (o_faddr (off := 6) eZ) (eO 17 rfl (o_load eZ hP3.h87 rfl) (eO 18 rfl (dec_f (o_eql (eV (z1 (z2 (z4 ds)))) eZ) (by simp)) (eO 19 rfl (o_mov eZ) (e_off 20 rfl (wN ds) (e_off 21 rfl (wN (z1 ds)) (e_off 22 rfl (wN (z2 ds)) (e_off 23 rfl (wN (z1 (z2 ds))) (e_off 24 rfl (wN (z4 ds)) (e_off 25 rfl (wN (z1 (z4 ds))) (e_off 26 rfl (wN (z2 (z4 ds))) (e_off 27 rfl (wN (z1 (z2 (z4 ds)))) (e_off 28 rfl (wN (z8 ds)) ?_)))))))))))))))))))))))))))))))))))))
     refine e_off 29 rfl (wN (z1 (z8 ds))) (e_off 30 rfl (wN (z2 (z8 ds))) (e_off 31 rfl (wN (z1 (z2 (z8 ds)))) (eO 32 rfl (o_pick_f (eV (z4 (z8 ds))) ev_c) (e_done (k_cond_f eZ (k_skip (k_reg (rO (o_addN (a := 0) (b := 1) (eV (z1 (z2 (z4 (z8 (z8 (z8 (z8 r156)))))))) ev_c (by omega)) (m1 ds (r_nil ?_))))))))))
     exact ⟨2 - (0 + 1), by omega, 0 + 1, .nslice, by omega, ⟨(z1 (z8 (z8 (z8 (z8 (z8 r0)))))), (z1 (z8 (z8 (z8 (z8 (z8 r4)))))), (z1 (z8 (z8 (z8 (z8 (z8 r6)))))), (z1 (z8 (z8 (z8 (z8 (z8 r154)))))), (z1 (z8 (z8 (z8 (z8 (z8 r155)))))), ds⟩, ⟨hP3.h88, hP3.h87, hP3.h4, hP3.h5, hP3.h7, hP3.h3, hP3.h127, (hP3.hQ.keep (show Keep tw tw nw (fun b => b = 88) from Keep.refl tw nw _) (by omega) (by omega) (by omega)), by omega, by omega, hP3.hH, hP3.hs⟩, (fun h_ => by first | rfl | omega), hrc3, by omega, by omega, hkw, by omega⟩
   refine k_reg (m1 (z1 r156) (rO (o_iaddr (i := 1) (eV (z2 r154)) (eV (z2 r156)) (by omega)) (rO (o_load eZ hP3.h5 rfl) (m1 (z2 ds) (m1 (z1 ds) (r_nil (k_seq (k_draw (eO 0 rfl (o_mov (eV (z2 (z4 r0)))) (eO 1 rfl (o_nilck eZ) (eO 2 rfl (o_faddr (off := 0) eZ) (eO 3 rfl (o_load eZ hP3.h88 rfl) (eO 4 rfl (o_nilck eZ) (eO 5 rfl (o_faddr (off := 3) eZ) (eO 6 rfl (o_faddr (off := 0) eZ) (eO 7 rfl (o_load eZ hP3.h87 rfl) (eO 8 rfl (o_mov (eV (z8 ds))) (eO 9 rfl (o_iaddr (i := 1) (eV (z1 ds)) eZ (by omega)) (eO 10 rfl (o_load eZ hP3.h7 rfl) (eO 11 rfl (o_mov (eV (z1 (z8 (z8 r0))))) (eO 12 rfl (o_nilck eZ) (eO 13 rfl (o_faddr (off := 0) eZ) (eO 14 rfl (o_load eZ hP3.h88 rfl) (eO 15 rfl (o_nilck eZ) (eO 16 rfl (o_faddr (off := 6) eZ) (eO 17 rfl (o_load eZ hP3.h87 rfl) (eO 18 rfl (dec_t (o_eql (eV (z1 (z2 (z4 ds)))) eZ) (by simp)) (eO 19 rfl (o_mov eZ) (e_op 20 rfl (o_mov (eV (z2 (z8 (z8 (z8 r0)))))) (want_on ds) (e_op 21 rfl (o_nilck eZ) (want_on (z1 ds)) (e_op 22 rfl (o_faddr (off := 1) eZ) (want_on (z2 ds)) (e_op 23 rfl (o_load eZ hP3.h88 rfl) (want_on (z1 (z2 ds))) (e_op 24 rfl (o_mov (eV (z8 (z8 (z8 ds))))) (want_on (z4 ds)) (e_op 25 rfl (o_iaddr (i := 1) (eV (z1 ds)) eZ (by omega)) (want_on (z1 (z4 ds))) ?_))))))))))))))))))))))))))))))))))
   refine e_op 26 rfl (o_load eZ hP3.h127 rfl) (want_on (z2 (z4 ds))) (e_op 27 rfl (o_mov (eV (z1 (z8 (z8 (z8 (z8 r6))))))) (want_on (z1 (z2 (z4 ds)))) (e_op 28 rfl (o_mov (eV (z4 (z8 (z8 (z8 ds)))))) (want_on (z8 ds)) (e_op 29 rfl (o_iaddr (i := 1) (eV (z1 ds)) eZ (by omega)) (want_on (z1 (z8 ds))) (e_op 30 rfl (o_load eZ hrc3 rfl) (want_on (z2 (z8 ds))) (e_op 31 rfl (o_str_neq (eV (z4 ds)) eZ) (want_on (z1 (z2 (z8 ds)))) (eO 32 rfl (o_pick_t (eV (z4 (z8 ds))) eZ) (e_done ?_)))))))
   refine k_in eZ (fun hc31 => ?_) (fun hc31 => ?_)
   · refine k_draw (eO 0 rfl (o_mov (eV (z1 (z2 (z4 (z8 (z8 (z8 (z8 r0))))))))) (eO 1 rfl (o_mov (eV (z8 (z8 (z8 (z8 (z8 r0))))))) (eO 2 rfl (o_nilck eZ) (eO 3 rfl (o_faddr (off := 8) eZ) (eO 4 rfl (o_load eZ hP3.h88 rfl) (eO 5 rfl (o_mov (eV (z4 (z8 (z8 (z8 (z8 (z8 r4)))))))) (eO 6 rfl (o_mov (eV (z8 (z8 (z8 (z8 (z8 ds))))))) (eO 7 rfl (o_mov (eV (z2 (z4 (z8 (z8 (z8 (z8 (z8 r0))))))))) (eO 8 rfl (o_nilck eZ) (eO 9 rfl (o_faddr (off := 1) eZ) (eO 10 rfl (o_load eZ hP3.h88 rfl) (eO 11 rfl (o_mov (eV (z4 (z8 (z8 (z8 (z8 (z8 ds)))))))) (eO 12 rfl (o_iaddr (i := 1) (eV (z1 ds)) eZ (by omega)) (eO 13 rfl (o_load eZ hP3.h127 rfl) (eO 14 rfl (o_build (fill_cons (eV (z8 ds)) rfl rfl (fill_cons (eV (z1 (z2 (z4 ds)))) rfl rfl (fill_cons eZ rfl rfl fill_nil)))) ?_)))))))))))))))
     refine d_heap (ix := 15) (pr := [14]) (d := (some 209)) (g := none) (F' := [(⟨9, [8], .o 203 (.faddr (.t 202) 1)⟩, (.ptr 88 1)), (⟨8, [7], .o 202 (.nilck (.t 201))⟩, (.ptr 88 0)), (⟨7, [], .mv 201 0⟩, (.ptr 88 0)), (⟨4, [3], .o 198 (.load (.t 197))⟩, .nslice), (⟨3, [2], .o 197 (.faddr (.t 196) 8)⟩, (.ptr 88 8)), (⟨2, [1], .o 196 (.nilck (.t 195))⟩, (.ptr 88 0)), (⟨1, [], .mv 195 0⟩, (.ptr 88 0)), (⟨0, [], .mv 194 0⟩, (.ptr 88 0))]) (o := (.bslice 3 1 [(.int .i64 0), (.int .i64 0), (.str [])] [(0, 3, (.t 208))])) (o_bslice (fill_cons eZ rfl rfl fill_nil)) rfl (by kernel_rfl) (by kernel_rfl) (by kernel_rfl) (by kernel_rfl) (fun t32 (hh33 : hv t32 = upd (hv tw) nw (some (.row [(.int .i64 0), (.int .i64 ((1 : Nat) : Int)), (.str bv)] true))) => ⟨?_, ?_⟩)
     · exact (all_cons_ (still_op rfl rfl (o_faddr (off := 1) (eV (z1 (z2 (z4 ds))))) (aeq_flat rfl)) (all_cons_ (still_op rfl rfl (o_nilck (eV (z8 ds))) (aeq_flat rfl)) (all_cons_ (still_op rfl rfl (o_mov (eV (z1 (z2 (z4 (z8 (z8 (z8 (z8 (z8 (z8 r0))))))))))) (aeq_flat rfl)) (all_cons_ (still_op rfl rfl (o_load (eV (z4 (z8 ds))) (lN hh33 hP3.h88) rfl) (aeq_flat rfl)) (all_cons_ (still_op rfl rfl (o_faddr (off := 8) (eV (z1 (z4 (z8 ds))))) (aeq_flat rfl)) (all_cons_ (still_op rfl rfl (o_nilck (eV (z2 (z4 (z8 ds))))) (aeq_flat rfl)) (all_cons_ (still_op rfl rfl (o_mov (eV (z1 (z2 (z4 (z8 (z8 (z8 (z8 (z8 (z8 r0))))))))))) (aeq_flat rfl)) (all_cons_ (still_op rfl rfl (o_mov (eV (z1 (z2 (z4 (z8 (z8 (z8 (z8 (z8 (z8 r0))))))))))) (aeq_flat rfl)) all_nil_))))))))
     refine d_heap (ix := 16) (pr := [4, 15]) (d := (some 210)) (g := none) (F' := [(⟨9, [8], .o 203 (.faddr (.t 202) 1)⟩, (.ptr 88 1)), (⟨8, [7], .o 202 (.nilck (.t 201))⟩, (.ptr 88 0)), (⟨7, [], .mv 201 0⟩, (.ptr 88 0)), (⟨0, [], .mv 194 0⟩, (.ptr 88 0))]) (o := (.app 3 (.t 198) (.t 209))) (o_appE (eV (z1 (z2 (z8 ds)))) eZ (app_C0 (lS hh33) rfl rfl)) rfl (by kernel_rfl) (by kernel_rfl) (by kernel_rfl) (by kernel_rfl) (fun t34 (hh35 : hv t34 = upd (hv t32) (nw + 1) (some (.row [(.int .i64 0), (.int .i64 ((1 : Nat) : Int)), (.str bv)] true))) => ⟨?_, ?_⟩)
     · exact (all_cons_ (still_op rfl rfl (o_faddr (off := 1) (eV (z8 ds))) (aeq_flat rfl)) (all_cons_ (still_op rfl rfl (o_nilck (eV (z1 (z8 ds)))) (aeq_flat rfl)) (all_cons_ (still_op rfl rfl (o_mov (eV (z8 (z8 (z8 (z8 (z8 (z8 (z8 r0))))))))) (aeq_flat rfl)) (all_cons_ (still_op rfl rfl (o_mov (eV (z8 (z8 (z8 (z8 (z8 (z8 (z8 r0))))))))) (aeq_flat rfl)) all_nil_))))
     refine eO 17 rfl (o_nilck (eV (z8 (z8 ds)))) (eO 18 rfl (o_faddr (off := 8) eZ) ?_)
     refine d_heap (ix := 19) (pr := [18, 16, 16, 0, 1, 2, 3, 4, 5, 6, 7, 8, 9, 10, 11, 12, 13, 14, 15, 16]) (d := none) (g := none) (F' := []) (o := (.store 1 (.t 212) (.t 210))) (o_store (n := 1) eZ (eV (z2 ds)) (lN hh35 (lN hh33 hP3.h88)) rfl rfl (leb rfl)) rfl (by kernel_rfl) (by kernel_rfl) (by kernel_rfl) (by kernel_rfl) (fun t36 (hh37 : hv t36 = upd (hv t34) 88 (some (.row [(.ptr 87 0), (.slice 127 0 2 2 1 false), (.slice 129 0 2 2 1 false), (.slice 131 0 2 2 1 false), (.ptr 89 0), (.int .i64 0), (.int .i64 D), (.int .i64 0), (.slice (nw + 1) 0 1 1 3 false)] true))) => ⟨?_, ?_⟩)
     · exact all_nil_
     refine e_done (k_reg (rO (o_addN (a := 1) (b := 1) (eV (z1 (z2 (z8 (z8 (z8 (z8 (z8 (z8 (z8 r156)))))))))) ev_c (by omega)) (m1 ds (r_nil ?_))))
     exact ⟨2 - (1 + 1), by omega, 1 + 1, (.slice (nw + 1) 0 1 1 3 false), by omega, ⟨(z1 (z4 (z8 (z8 (z8 (z8 (z8 (z8 (z8 r0))))))))), (z1 (z4 (z8 (z8 (z8 (z8 (z8 (z8 (z8 r4))))))))), (z1 (z4 (z8 (z8 (z8 (z8 (z8 (z8 (z8 r6))))))))), (z1 (z4 (z8 (z8 (z8 (z8 (z8 (z8 (z8 r154))))))))), (z1 (z4 (z8 (z8 (z8 (z8 (z8 (z8 (z8 r155))))))))), ds⟩, ⟨(lS hh37), (lN hh37 (lN hh35 (lN hh33 hP3.h87))), (lN hh37 (lN hh35 (lN hh33 hP3.h4))), (lN hh37 (lN hh35 (lN hh33 hP3.h5))), (lN hh37 (lN hh35 (lN hh33 hP3.h7))), (lN hh37 (lN hh35 (lN hh33 hP3.h3))), (lN hh37 (lN hh35 (lN hh33 hP3.h127))), (hP3.hQ.keep (show Keep tw t36 nw (fun b => b = 88) from Keep.upd (Keep.upd (Keep.upd (Keep.refl tw nw _) hh33 (by first | exact .inl (by omega) | (right; first | exact rfl | (show _ ∨ _; omega) | omega))) hh35 (by first | exact .inl (by omega) | (right; first | exact rfl | (show _ ∨ _; omega) | omega))) hh37 (by first | exact .inl (by omega) | (right; first | exact rfl | (show _ ∨ _; omega) | omega))) (by omega) (by omega) (by omega)), by omega, by omega, hP3.hH, hP3.hs⟩, (fun h_ => by first | rfl | omega), (lN hh37 (lN hh35 (lN hh33 hrc3))), by omega, by omega, Keep.upd (kU (kU (hkw) hh33) hh35) hh37 (.inr (.inl rfl)), by omega⟩
   refine k_skip (k_reg (rO (o_addN (a := 1) (b := 1) (eV (z1 (z2 (z4 (z8 (z8 (z8 (z8 r156)))))))) ev_c (by omega)) (m1 ds (r_nil ?_))))
   exact ⟨2 - (1 + 1), by omega, 1 + 1, .nslice, by omega, ⟨(z1 (z8 (z8 (z8 (z8 (z8 r0)))))), (z1 (z8 (z8 (z8 (z8 (z8 r4)))))), (z1 (z8 (z8 (z8 (z8 (z8 r6)))))), (z1 (z8 (z8 (z8 (z8 (z8 r154)))))), (z1 (z8 (z8 (z8 (z8 (z8 r155)))))), ds⟩, ⟨hP3.h88, hP3.h87, hP3.h4, hP3.h5, hP3.h7, hP3.h3, hP3.h127, (hP3.hQ.keep (show Keep tw tw nw (fun b => b = 88) from Keep.refl tw nw _) (by omega) (by omega) (by omega)), by omega, by omega, hP3.hH, hP3.hs⟩, (fun h_ => by first | rfl | omega), hrc3, by omega, by omega, hkw, by omega⟩
 refine k_exit (exK_same (k_seq (k_reg (m1 (z1 r0) (m1 (z2 r4) (rO (o_nilck (eV (z1 ds))) (rO (o_faddr (off := 6) eZ) (r_heap (o_store (n := 1) eZ (eV (z2 ds)) hP3.h88 rfl rfl (leb rfl)) rfl (fun t38 (hh39 : hv t38 = upd (hv tw) 88 (some (.row [(.ptr 87 0), (.slice 127 0 2 2 1 false), (.slice 129 0 2 2 1 false), (.slice 131 0 2 2 1 false), (.ptr 89 0), (.int .i64 0), (.int .i64 0), (.int .i64 0), cv2] true))) => r_nil (k_seq (k_reg (m1 (z2 (z4 r0)) (m1 (z1 (z2 (z4 r4))) ?_)))))))))))))
 have hP5 : PM t38 nw 0 cv2 a bv d2 es2 := ⟨(lS hh39), (lN hh39 hP3.h87), (lN hh39 hP3.h4), (lN hh39 hP3.h5), (lN hh39 hP3.h7), (lN hh39 hP3.h3), (lN hh39 hP3.h127), (hP3.hQ.keep (show Keep tw t38 nw (fun b => b = 88) from Keep.upd (Keep.refl tw nw _) hh39 (by first | exact .inl (by omega) | (right; first | exact rfl | (show _ ∨ _; omega) | omega))) (by omega) (by omega) (by omega)), by omega, by omega, hP3.hH, hP3.hs⟩
 refine r_call (w_callF (evs_cons (eV (z1 ds)) (evs_cons eZ evs_nil))) rfl (WF.mono (send_ok hP5) ?_)
 rintro _ t40 n41 ⟨rfl, hn_z, hk_z⟩
 refine rO (o_extr eZ rfl) (rO (o_extr (eV (z1 ds)) rfl) (m1 (z1 ds) (m1 (z1 ds) (r_nil (k_ret ?_)))))
 exact ⟨_, ans_two (res_tmp (z1 ds) (res_tmp ds res_nil)), tk, es2, cv2, bv, d2, rfl, hP5.keep hk_z (fun _ h => h.elim) hn_z, htk, htz, hfin, by omega, by omega, Keep.trans (Keep.upd (hkw) hh39 (.inr (.inl rfl))) hk_z (by omega) ((fun _ _ h => h.elim))⟩
theorem stepB_ok {t : TB} {nx d : Nat} {D : Int} {cv : AV} {a b : List Nat} {es : List Ev} (hP : PM t nx D cv a b d es) (hD : D = 0) (hes : es = []) : WF tb 23 [.ptr 88 0] t nx (fun v t' nx' => v = .tup [.nslice, .int .i64 3] ∧ nx ≤ nx' ∧ Keep t t' nx (fun _ => False)) := by
 have h0 := hP.h0
 have hd0 := hP.hd
 have hd1 := hP.hQ.1
 have hs0 := hP.hs
 refine k_fun step_tab rfl ?_
 unfold step_c
 change WC _ _ (TA.put (some _) TA.e 0) _ _ _
 refine k_seq (k_reg (rO (o_mov ev_c) (rO (o_mov ev_c) (r_nil (k_seq (k_reg (m1 (z2 get_same) (r_call (w_callF (evs_cons eZ evs_nil)) rfl (WF.mono (next_B (hP.keep (n' := nx) (show Keep t t nx (fun _ => False) from kR) (fun _ h => h.elim) (by omega)) hD hes) ?_)))))))))
 rintro _ t1 n2 ⟨rfl, hn_n, hk_n⟩
 refine m1 ds (rO (o_extr eZ rfl) (rO (o_extr (eV (z1 ds)) rfl) (m1 (z1 ds) (m1 (z1 ds) (r_nil (k_seq (k_seq (k_reg (m1 (z1 (z8 get_same)) (r_call (w_callF (evs_cons eZ evs_nil)) rfl (WF.mono (given_ok (hP.keep (n' := n2) (show Keep t t1 nx (fun _ => False) from Keep.trans kR hk_n (by omega) (fun d _ h => h)) (fun _ h => h.elim) (by omega))) ?_)))))))))))
 rintro _ t3 n4 ⟨rfl, hn_g, hk_g⟩
 refine rO (o_not eZ) (r_nil (k_cond_f eZ (k_skip (k_seq (k_seq (k_reg (m1 (z1 (z2 ds)) (rO (o_not eZ) (r_nil (k_cond_t eZ (k_seq (k_reg (rO (o_mov ev_c) (rO (o_mov ev_c) (r_nil (k_ret ?_))))))))))))))))
 exact ⟨_, ans_two (res_tmp (z1 ds) (res_tmp ds res_nil)), rfl, by omega, Keep.trans (Keep.trans kR hk_n (by omega) (fun d _ h => h)) hk_g (by omega) (fun d _ h => h)⟩
end Go.Proofs.YtpjohgnhmjceiaaGreatDoor.WX

set_option linter.all false
set_option linter.unusedVariables false
set_option linter.unusedSectionVars false
set_option maxRecDepth 100000
open Go Go.Proofs.YtpjohgnhmjceiaaGreatDoor.AX Go.Proofs
namespace Go.Proofs.YtpjohgnhmjceiaaGreatDoor.WX
variable [Env]
def ends_r0 : List Ins := [.o 2 (.mov (kI 0))]
def ends_r1 : List Ins := [.mv 5 2,
 .o 6 (.bin .lss (.t 5) (kI 70))]
def ends_r2 : List Ins := [.mv 10 0,
 .f 11 23 [(.t 10)],
 .mv 9 11,
 .o 12 (.extr (.t 9) 0),
 .o 13 (.extr (.t 9) 1),
 .mv 3 12,
 .mv 4 13]
def ends_r3 : List Ins := [.mv 14 4,
 .o 15 (.bin .neq (.t 14) (kI 0))]
def ends_r4 : List Ins := [.mv 7 2,
 .o 8 (.bin .add (.t 7) (kI 1)),
 .mv 2 8]
def ends_c : IC := (.seq (.reg ends_r0) (.block 0 (.loop (.seq (.seq (.reg ends_r1) (.cond (.t 6) .skip (.exit 0))) (.seq (.block 1 (.seq (.reg ends_r2) (.seq (.reg ends_r3) (.cond (.t 15) .ret .skip)))) (.reg ends_r4))))))
theorem ends_tab : tb 27 = some (.code 1 16 ends_c []) := by kernel_rfl
theorem step_ok {t : TB} {nx d : Nat} {D : Int} {cv : AV} {a b : List Nat} {es : List Ev} (hP : PM t nx D cv a b d es) (hDD : D = -1 ∧ cv = .nslice ∨ D = 0) (hes : es = []) : WF tb 23 [.ptr 88 0] t nx (fun v t' nx' => ∃ (r : Int) (cv' : AV) (b' : List Nat) (d' : Nat), v = .tup [.nslice, .int .i64 r] ∧ PM t' nx' 0 cv' a b' d' [] ∧ nx ≤ nx') := by
 subst hes
 rcases hDD with ⟨h1, h2⟩ | h1
 · refine (stepA_ok hP h1 h2 (fun x hx => nomatch hx)).mono (fun v t' nx' ⟨tk, es', cv', b', d', h3, h4, h5, _, _, _, h6, _⟩ => ?_)
   have h7 : es' = [] := by
     have := h5.length_eq
     simp at this
     exact this.2
   subst h7
   exact ⟨0, cv', b', d', h3, h4, h6⟩
 · subst h1
   exact (stepB_ok hP rfl rfl).mono (fun v t' nx' ⟨h3, h4, h5⟩ => ⟨3, cv, b, d, h3, hP.keep h5 (fun _ h => h.elim) h4, h4⟩)

theorem ends_ok {t : TB} {nx d : Nat} {D : Int} {cv : AV} {a b : List Nat} {es : List Ev} (hP : PM t nx D cv a b d es) (hDD : D = -1 ∧ cv = .nslice ∨ D = 0) (hes : es = []) : WF tb 27 [.ptr 88 0] t nx (fun v t' nx' => ∃ (cv' : AV) (b' : List Nat) (d' : Nat), v = .tup [] ∧ PM t' nx' 0 cv' a b' d' [] ∧ nx ≤ nx') := by
 subst hes
 have h0 := hP.h0
 have hd0 := hP.hd
 have hd1 := hP.hQ.1
 have hs0 := hP.hs
 refine k_fun ends_tab rfl ?_
 unfold ends_c
 change WC _ _ (TA.put (some _) TA.e 0) _ _ _
 refine k_seq (k_reg (rO (o_mov ev_c) (r_nil (k_block (k_loop (fun mm Tv tv nv => ∃ (i : Nat) (D2 : Int) (cv2 : AV) (b2 : List Nat) (d2 : Nat), i ≤ 70 ∧ (Tv.get 0 = some (.ptr 88 0) ∧ Tv.get 2 = some (.int .i64 ((i : Nat) : Int))) ∧ PM tv nv D2 cv2 a b2 d2 [] ∧ (D2 = -1 ∧ cv2 = .nslice ∨ D2 = 0) ∧ (0 < i → D2 = 0) ∧ nx ≤ nv ∧ mm + i = 70) (fun mm Tv tv nv hI => ?_) (70) ⟨0, D, cv, b, d, by omega, ⟨(z1 get_same), ds⟩, hP, hDD, by omega, by omega, rfl⟩)))))
 obtain ⟨i, D2, cv2, b2, d2, hi, ⟨q0, q2⟩, hP2, hD2, hi0, hnv, hmm⟩ := hI
 refine k_seq (k_seq (k_reg (m1 q2 (rO (o_lss eZ ev_c) (r_nil ?_)))))
 refine k_if eZ (fun hc1 => ?_) (fun hc1 => ?_)
 · refine k_skip (k_seq (k_block (k_seq (k_reg (m1 (z2 q0) (r_call (w_callF (evs_cons eZ evs_nil)) rfl (WF.mono (step_ok hP2 hD2 rfl) ?_)))))))
   rintro _ t2 n3 ⟨r3, cv3, b3, d3, rfl, hP3, hn3⟩
   refine m1 ds (rO (o_extr eZ rfl) (rO (o_extr (eV (z1 ds)) rfl) (m1 (z1 ds) (m1 (z1 ds) (r_nil (k_seq (k_reg (m1 ds (rO (o_neq eZ ev_c) (r_nil ?_))))))))))
   refine k_in eZ (fun hc4 => ?_) (fun hc4 => ?_)
   · refine k_ret ?_
     exact ⟨_, ans_none, _, _, _, rfl, hP3, by omega⟩
   refine k_skip (k_reg (m1 (z1 (z2 (z8 q2))) (rO (o_addN (a := i) (b := 1) eZ ev_c (by omega)) (m1 ds (r_nil ?_)))))
   exact ⟨mm - 1, by omega, i + 1, 0, cv3, b3, d3, by omega, ⟨(z2 (z4 (z8 q0))), ds⟩, hP3, .inr rfl, (fun _ => rfl), by omega, by omega⟩
 refine k_exit (exK_same ?_)
 exact ⟨_, ans_none, cv2, b2, d2, rfl, (by have h_ := hi0 (by omega); subst h_; exact hP2), by omega⟩
end Go.Proofs.YtpjohgnhmjceiaaGreatDoor.WX

set_option linter.all false
set_option linter.unusedVariables false
set_option linter.unusedSectionVars false
set_option maxRecDepth 100000
open Go Go.Proofs.YtpjohgnhmjceiaaGreatDoor.AX Go.Proofs
namespace Go.Proofs.YtpjohgnhmjceiaaGreatDoor.WX
variable [Env]
def law_r0 : List Ins := [.o 4 (.mov (.c (.bool false)))]
def law_r1 : List Ins := [.f 21 21 [],
 .mv 20 21,
 .o 22 (.extr (.t 20) 0),
 .o 23 (.extr (.t 20) 1),
 .o 5 (.alloc [.nslice, .nslice, (.int .i64 0)]),
 .o 6 (.alloc [.nslice, (.int .i64 0), .nslice]),
 .x (.store 3 (.t 5) (.t 22)),
 .x (.store 3 (.t 6) (.t 23))]
def law_r2 : List Ins := [.o 25 (.loadA 3 (.t 5)),
 .o 26 (.loadA 3 (.t 6)),
 .f 27 22 [(.t 25), (.t 26), (kI 1), (.c .nslice), (kI 100)],
 .mv 24 27,
 .o 28 (.extr (.t 24) 0),
 .o 29 (.extr (.t 24) 1),
 .mv 7 28,
 .mv 8 29]
def law_r3 : List Ins := [.mv 30 8,
 .o 31 (.bin .neq (.t 30) (kI 0)),
 .mv 32 31,
 .g 33 32 false (.mov (.t 7)),
 .g 34 32 false (.eqv false .ptr (.t 33) (.c .nil)),
 .o 35 (.pick (.t 32) (.c (.bool true)) (.t 34))]
def law_r4 : List Ins := [.o 4 (.mov (.c (.bool false)))]
def law_r5 : List Ins := [.o 9 (.mov (.c .nslice))]
def law_r6 : List Ins := [.o 10 (.mov (kI 0))]
def law_r7 : List Ins := [.mv 36 10,
 .mv 37 0,
 .o 38 (.len .slc (.t 37)),
 .o 39 (.bin .lss (.t 36) (.t 38)),
 .mv 40 39,
 .g 41 40 true (.mov (.t 10)),
 .g 42 40 true (.bin .lss (.t 41) (kI 100)),
 .o 43 (.pick (.t 40) (.t 42) (.c (.bool false)))]
def law_r8 : List Ins := [.mv 46 10,
 .mv 47 1,
 .o 48 (.bin .and (.t 47) (kI 7)),
 .o 49 (.bin .add (kI 1) (.t 48)),
 .o 50 (.bin .eql (.t 46) (.t 49))]
def law_r9 : List Ins := [.mv 51 7,
 .f 52 23 [(.t 51)]]
def law_r10 : List Ins := [.o 11 (.mov (.c .nslice))]
def law_r11 : List Ins := [.o 12 (.mov (kI 0))]
def law_r12 : List Ins := [.mv 53 12,
 .mv 54 9,
 .o 55 (.len .slc (.t 54)),
 .o 56 (.bin .lss (.t 53) (.t 55))]
def law_r13 : List DIns := [⟨0, [], .mv 59 9⟩,
 ⟨1, [], .mv 60 12⟩,
 ⟨2, [0, 1], .o 61 (.iaddr 6 (.t 59) (.t 60))⟩,
 ⟨3, [2], .o 62 (.faddr (.t 61) 0)⟩,
 ⟨4, [3], .o 63 (.load (.t 62))⟩,
 ⟨5, [], .mv 64 7⟩,
 ⟨6, [5], .f 65 24 [(.t 64)]⟩,
 ⟨7, [4, 6], .o 66 (.bin .gtr (.t 63) (.t 65))⟩]
def law_r14 : List Ins := [.mv 67 11,
 .mv 68 9,
 .mv 69 12,
 .o 70 (.iaddr 6 (.t 68) (.t 69)),
 .o 71 (.loadA 6 (.t 70)),
 .o 72 (.bslice 6 1 [(.int .i64 0), (.int .i64 0), (.str []), (.int .i64 0), (.int .i64 0), (.bool false)] [(0, 6, (.t 71))]),
 .o 73 (.app 6 (.t 67) (.t 72)),
 .mv 11 73]
def law_r15 : List Ins := [.mv 57 12,
 .o 58 (.bin .add (.t 57) (kI 1)),
 .mv 12 58]
def law_r16 : List Ins := [.mv 74 11,
 .mv 9 74]
def law_r17 : List Ins := [.mv 75 0,
 .mv 76 10,
 .o 77 (.iaddr 6 (.t 75) (.t 76)),
 .o 78 (.loadA 6 (.t 77)),
 .o 13 (.alloc [(.int .i64 0), (.int .i64 0), (.str []), (.int .i64 0), (.int .i64 0), (.bool false)]),
 .x (.store 6 (.t 13) (.t 78))]
def law_r18 : List Ins := [.o 79 (.faddr (.t 13) 1),
 .o 80 (.load (.t 79)),
 .o 81 (.bin .eql (.t 80) (kI 1)),
 .mv 82 81,
 .g 83 82 true (.faddr (.t 13) 3),
 .g 84 82 true (.load (.t 83)),
 .g 85 82 true (.bin .eql (.t 84) (kI 0)),
 .o 86 (.pick (.t 82) (.t 85) (.c (.bool false))),
 .mv 87 86,
 .g 88 87 true (.faddr (.t 13) 2),
 .g 89 87 true (.load (.t 88)),
 .g 90 87 true (.bin .eql (.t 89) (.c (.str [48]))),
 .g 91 87 true (.mov (.t 90)),
 .g 92 91 false (.faddr (.t 13) 2),
 .g 93 91 false (.load (.t 92)),
 .g 94 91 false (.bin .eql (.t 93) (.c (.str [49]))),
 .g 95 87 true (.pick (.t 91) (.c (.bool true)) (.t 94)),
 .g 96 87 true (.mov (.t 95)),
 .g 97 96 false (.faddr (.t 13) 2),
 .g 98 96 false (.load (.t 97)),
 .g 99 96 false (.bin .eql (.t 98) (.c (.str [120]))),
 .g 100 87 true (.pick (.t 96) (.c (.bool true)) (.t 99)),
 .g 101 87 true (.mov (.t 100)),
 .g 102 101 false (.faddr (.t 13) 2),
 .g 103 101 false (.load (.t 102)),
 .g 104 101 false (.bin .eql (.t 103) (.c (.str [122]))),
 .g 105 87 true (.pick (.t 101) (.c (.bool true)) (.t 104)),
 .o 106 (.pick (.t 87) (.t 105) (.c (.bool false))),
 .mv 14 106]
def law_r19 : List Ins := [.o 15 (.mov (.c (.bool false)))]
def law_r20 : List Ins := [.o 16 (.mov (kI 0))]
def law_r21 : List Ins := [.mv 107 16,
 .mv 108 9,
 .o 109 (.len .slc (.t 108)),
 .o 110 (.bin .lss (.t 107) (.t 109))]
def law_r22 : List DIns := [⟨0, [], .mv 113 15⟩,
 ⟨1, [0], .mv 114 113⟩,
 ⟨2, [1], .g 115 114 false (.mov (.t 9))⟩,
 ⟨3, [1], .g 116 114 false (.mov (.t 16))⟩,
 ⟨4, [2, 3, 1], .g 117 114 false (.iaddr 6 (.t 115) (.t 116))⟩,
 ⟨5, [4, 1], .g 118 114 false (.faddr (.t 117) 4)⟩,
 ⟨6, [5, 1], .g 119 114 false (.load (.t 118))⟩,
 ⟨7, [1], .g 120 114 false (.faddr (.t 13) 4)⟩,
 ⟨8, [7, 1], .g 121 114 false (.load (.t 120))⟩,
 ⟨9, [6, 8, 1], .g 122 114 false (.bin .eql (.t 119) (.t 121))⟩,
 ⟨10, [1, 9], .o 123 (.pick (.t 114) (.c (.bool true)) (.t 122))⟩,
 ⟨11, [10, 1, 0, 1, 2, 3, 4, 5, 6, 7, 8, 9, 10], .mv 15 123⟩]
def law_r23 : List Ins := [.mv 111 16,
 .o 112 (.bin .add (.t 111) (kI 1)),
 .mv 16 112]
def law_r24 : List Ins := [.mv 124 7,
 .o 125 (.loadA 6 (.t 13)),
 .f 126 25 [(.t 124), (.t 125)],
 .mv 17 126]
def law_r25 : List Ins := [.mv 134 14,
 .o 135 (.not (.t 134)),
 .mv 133 135]
def law_r26 : List Ins := [.mv 136 17,
 .o 137 (.bin .neq (.t 136) (kI 1))]
def law_r27 : List Ins := [.o 4 (.mov (.c (.bool false)))]
def law_r28 : List DIns := [⟨0, [], .o 139 (.faddr (.t 13) 0)⟩,
 ⟨1, [0], .o 140 (.load (.t 139))⟩,
 ⟨2, [], .mv 141 7⟩,
 ⟨3, [2], .f 142 24 [(.t 141)]⟩,
 ⟨4, [1, 3], .o 143 (.bin .leq (.t 140) (.t 142))⟩,
 ⟨5, [4, 3], .mv 138 143⟩]
def law_r29 : List Ins := [.mv 144 17,
 .o 145 (.bin .neq (.t 144) (kI 5))]
def law_r30 : List Ins := [.o 4 (.mov (.c (.bool false)))]
def law_r31 : List Ins := [.o 147 (.faddr (.t 13) 0),
 .o 148 (.load (.t 147)),
 .o 149 (.bin .lss (.t 148) (kI 0)),
 .mv 150 149,
 .g 151 150 false (.faddr (.t 13) 5),
 .g 152 150 false (.load (.t 151)),
 .o 153 (.pick (.t 150) (.c (.bool true)) (.t 152)),
 .mv 154 153,
 .g 155 154 false (.mov (.t 15)),
 .o 156 (.pick (.t 154) (.c (.bool true)) (.t 155)),
 .mv 146 156]
def law_r32 : List Ins := [.mv 157 17,
 .o 158 (.bin .neq (.t 157) (kI 1))]
def law_r33 : List Ins := [.o 4 (.mov (.c (.bool false)))]
def law_r34 : List Ins := [.o 160 (.faddr (.t 13) 0),
 .o 161 (.load (.t 160)),
 .o 162 (.bin .gtr (.t 161) (kI 4611686018427387903)),
 .mv 159 162]
def law_r35 : List Ins := [.mv 163 17,
 .o 164 (.bin .neq (.t 163) (kI 140))]
def law_r36 : List Ins := [.o 4 (.mov (.c (.bool false)))]
def law_r37 : List Ins := [.mv 127 17,
 .o 128 (.bin .neq (.t 127) (kI 0))]
def law_r38 : List Ins := [.o 4 (.mov (.c (.bool false)))]
def law_r39 : List Ins := [.mv 129 9,
 .o 130 (.loadA 6 (.t 13)),
 .o 131 (.bslice 6 1 [(.int .i64 0), (.int .i64 0), (.str []), (.int .i64 0), (.int .i64 0), (.bool false)] [(0, 6, (.t 130))]),
 .o 132 (.app 6 (.t 129) (.t 131)),
 .mv 9 132]
def law_r40 : List Ins := [.mv 44 10,
 .o 45 (.bin .add (.t 44) (kI 1)),
 .mv 10 45]
def law_r41 : List Ins := [.o 18 (.mov (kI 0))]
def law_r42 : List Ins := [.mv 165 18,
 .mv 166 9,
 .o 167 (.len .slc (.t 166)),
 .o 168 (.bin .lss (.t 165) (.t 167))]
def law_r43 : List Ins := [.mv 171 7,
 .mv 172 9,
 .mv 173 18,
 .o 174 (.iaddr 6 (.t 172) (.t 173)),
 .o 175 (.faddr (.t 174) 4),
 .o 176 (.load (.t 175)),
 .f 177 26 [(.t 171), (kI 0), (.t 176)],
 .o 178 (.not (.t 177)),
 .mv 179 178,
 .g 180 179 false (.mov (.t 7)),
 .g 181 179 false (.mov (.t 9)),
 .g 182 179 false (.mov (.t 18)),
 .g 183 179 false (.iaddr 6 (.t 181) (.t 182)),
 .g 184 179 false (.faddr (.t 183) 4),
 .g 185 179 false (.load (.t 184)),
 ⟨(some 186), (some (179, false)), (.callF 26 [(.t 180), (kI 0), (.t 185)])⟩,
 .o 187 (.pick (.t 179) (.c (.bool true)) (.t 186)),
 .mv 188 187,
 .g 189 188 false (.mov (.t 7)),
 .g 190 188 false (.mov (.t 9)),
 .g 191 188 false (.mov (.t 18)),
 .g 192 188 false (.iaddr 6 (.t 190) (.t 191)),
 .g 193 188 false (.faddr (.t 192) 4),
 .g 194 188 false (.load (.t 193)),
 ⟨(some 195), (some (188, false)), (.callF 26 [(.t 189), (kI 1), (.t 194)])⟩,
 .o 196 (.pick (.t 188) (.c (.bool true)) (.t 195))]
def law_r44 : List Ins := [.o 4 (.mov (.c (.bool false)))]
def law_r45 : List Ins := [.mv 169 18,
 .o 170 (.bin .add (.t 169) (kI 1)),
 .mv 18 170]
def law_r46 : List Ins := [.mv 197 7,
 .f 198 24 [(.t 197)],
 .mv 19 198]
def law_r47 : List Ins := [.mv 199 7,
 .f 200 27 [(.t 199)]]
def law_r48 : List Ins := [.mv 201 7,
 .f 202 24 [(.t 201)],
 .mv 203 19,
 .o 204 (.bin .eql (.t 202) (.t 203)),
 .mv 205 204,
 .g 206 205 false (.mov (.t 19)),
 .g 207 205 false (.bin .lss (.t 206) (kI 0)),
 .g 208 205 false (.mov (.t 207)),
 .g 209 208 true (.mov (.t 7)),
 ⟨(some 210), (some (208, true)), (.callF 24 [(.t 209)])⟩,
 .g 211 208 true (.bin .eql (.t 210) (kI 0)),
 .g 212 205 false (.pick (.t 208) (.t 211) (.c (.bool false))),
 .o 213 (.pick (.t 205) (.c (.bool true)) (.t 212)),
 .mv 214 213,
 ⟨(some 215), (some (214, true)), (.callF 28 [])⟩,
 .o 216 (.pick (.t 214) (.t 215) (.c (.bool false))),
 .mv 4 216]
def law_c : IC := (.seq (.reg law_r0) (.seq (.reg law_r1) (.seq (.reg law_r2) (.seq (.seq (.reg law_r3) (.cond (.t 35) (.seq (.reg law_r4) .ret) .skip)) (.seq (.reg law_r5) (.seq (.seq (.reg law_r6) (.block 0 (.loop (.seq (.seq (.reg law_r7) (.cond (.t 43) .skip (.exit 0))) (.seq (.block 1 (.seq (.seq (.reg law_r8) (.cond (.t 50) (.seq (.reg law_r9) (.seq (.reg law_r10) (.seq (.seq (.reg law_r11) (.block 2 (.loop (.seq (.seq (.reg law_r12) (.cond (.t 56) .skip (.exit 2))) (.seq (.block 3 (.seq (.draw law_r13) (.cond (.t 66) (.reg law_r14) .skip))) (.reg law_r15)))))) (.reg law_r16)))) .skip)) (.seq (.reg law_r17) (.seq (.reg law_r18) (.seq (.reg law_r19) (.seq (.seq (.reg law_r20) (.block 4 (.loop (.seq (.seq (.reg law_r21) (.cond (.t 110) .skip (.exit 4))) (.seq (.block 5 (.draw law_r22)) (.reg law_r23)))))) (.seq (.reg law_r24) (.block 6 (.seq (.reg law_r25) (.cond (.t 133) (.seq (.reg law_r26) (.cond (.t 137) (.seq (.reg law_r27) .ret) .skip)) (.seq (.draw law_r28) (.cond (.t 138) (.seq (.reg law_r29) (.cond (.t 145) (.seq (.reg law_r30) .ret) .skip)) (.seq (.reg law_r31) (.cond (.t 146) (.seq (.reg law_r32) (.cond (.t 158) (.seq (.reg law_r33) .ret) .skip)) (.seq (.reg law_r34) (.cond (.t 159) (.seq (.reg law_r35) (.cond (.t 164) (.seq (.reg law_r36) .ret) .skip)) (.seq (.seq (.reg law_r37) (.cond (.t 128) (.seq (.reg law_r38) .ret) .skip)) (.reg law_r39)))))))))))))))))) (.reg law_r40)))))) (.seq (.seq (.reg law_r41) (.block 7 (.loop (.seq (.seq (.reg law_r42) (.cond (.t 168) .skip (.exit 7))) (.seq (.block 8 (.seq (.reg law_r43) (.cond (.t 196) (.seq (.reg law_r44) .ret) .skip))) (.reg law_r45)))))) (.seq (.reg law_r46) (.seq (.reg law_r47) (.seq (.reg law_r48) .ret))))))))))
theorem law_tab : tb 8 = some (.code 2 217 law_c [.tmp 4]) := by kernel_rfl
instance (e : Ev) : Decidable (GoodE e) := by unfold GoodE; infer_instance
def LD (t : TB) (dh nx : Nat) (v : AV) (es : List Ev) : Prop := dh < nx ∧ QV t (fun b => b = dh) nx v es
theorem LD.keep {t t' : TB} {dh n n' : Nat} {v : AV} {es : List Ev} {W : Nat → Prop} (h : LD t dh n v es) (hk : Keep t t' n W) (hw : ¬ W dh) (hn : n ≤ n') : LD t' dh n' v es := ⟨by have := h.1; omega, h.2.keep hk (fun b e _ => by rw [e]; exact hw) hn⟩
theorem LD.qr {t : TB} {dh n : Nat} {v : AV} {es : List Ev} (h : LD t dh n v es) : QR t n v es := h.2.qr
theorem LD.none {t : TB} {dh n : Nat} (h : dh < n) : LD t dh n .nslice [] := ⟨h, .inl ⟨rfl, rfl⟩⟩
theorem LD.at {t : TB} {dh n i : Nat} {v : AV} {es : List Ev} {x : Ev} (h : LD t dh n v es) (hx : es[i]? = some x) : ∃ c r, v = .slice dh 0 es.length c 6 false ∧ hv t dh = some (.row r true) ∧ RE r c es := by
 rcases h.2 with ⟨-, rfl⟩ | ⟨d, c, r, h1, rfl, -, h2, h3⟩
 · simp at hx
 · exact ⟨c, r, h1, h2, h3⟩
theorem QR.at {t : TB} {bd i : Nat} {v : AV} {es : List Ev} {x : Ev} (h : QR t bd v es) (hx : es[i]? = some x) : ∃ d c ex wr r, v = .slice d 0 es.length c 6 ex ∧ d < bd ∧ hv t d = some (.row r wr) ∧ RE r c es := by
 rcases h with ⟨-, rfl⟩ | ⟨d, c, ex, wr, r, h⟩
 · simp at hx
 · exact ⟨d, c, ex, wr, r, h⟩
theorem QR.eq {t t' : TB} {v : AV} {es : List Ev} (h : QR t 1 v es) (e : hv t' 0 = hv t 0) : QR t' 1 v es := by
 rcases h with h | ⟨d, c, ex, wr, r, h1, h2, h3, h4⟩
 · exact .inl h
 · obtain rfl : d = 0 := by omega
   exact .inr ⟨0, c, ex, wr, r, h1, h2, e.trans h3, h4⟩
theorem RE.cell {r : List AV} {c i j : Nat} {es : List Ev} {x : Ev} {v : AV} (h : RE r c es) (hx : es[i]? = some x) (hj : (ecells x)[j]? = some v) : r[0 + i * 6 + j]? = some v := by
 have h1 := h.get hx
 rw [← h1, List.getElem?_take, List.getElem?_drop] at hj
 split at hj
 · rw [Nat.zero_add]; exact hj
 · cases hj
theorem app_LD {t : TB} {nx dr e : Nat} {v : AV} {es : List Ev} {wr ex : Bool} {x : Ev} (h : LD t dr nx v es) (he : hv t e = some (.row (ecells x) wr)) (hs : es.length < 10000) :
   ∃ v' nx', nx ≤ nx' ∧ ∃ t', appendA 6 v (.slice e 0 1 1 6 ex) t nx = .ok v' t' nx' ∧ (Keep t t' nx (fun b => b = dr) ∧ ∃ dr', (dr' = dr ∨ nx ≤ dr') ∧ LD t' dr' nx' v' (es ++ [x])) := by
 obtain ⟨h1, h2⟩ := h
 rcases h2 with ⟨rfl, rfl⟩ | ⟨d, c, r, rfl, rfl, h3, hr, hE⟩
 · obtain ⟨t', e1, e2⟩ := app_E0 (nx := nx) (ex := ex) he rfl rfl
   exact ⟨_, _, by omega, t', e1, Keep.upd kR e2 (.inl (Nat.le_refl _)), nx, .inr (Nat.le_refl _), by omega, .inr ⟨nx, 1, _, rfl, rfl, by omega, lS e2, by have h_ := RE.own [x]; exact h_⟩⟩
 · by_cases hc : es.length < c
   · obtain ⟨t', e1, e2⟩ := app_E1 (nx := nx) (ex := ex) he rfl rfl hr hc hE.len
     exact ⟨_, _, by omega, t', e1, Keep.upd kR e2 (.inr rfl), d, .inl rfl, h1, .inr ⟨d, c, _, by simp, rfl, h3, lS e2, hE.push x hc⟩⟩
   · obtain rfl : es.length = c := by have := hE.fits; omega
     obtain ⟨t', e1, t1, e2, e3⟩ := app_E2 (nx := nx) (ex := ex) he rfl rfl hr hE.len (by omega)
     exact ⟨_, _, by omega, t', e1, Keep.upd (Keep.upd kR e2 (.inr rfl)) e3 (.inl (Nat.le_refl _)), nx, .inr (Nat.le_refl _), by omega, .inr ⟨nx, es.length + 1, _, by simp, rfl, by omega, lS e3, hE.grow x⟩⟩
theorem filt_t {hs : List Ev} {j : Nat} {x : Ev} {p : Ev → Bool} (hx : hs[j]? = some x) (h : p x = true) : (hs.take (j + 1)).filter p = (hs.take j).filter p ++ [x] := by
 rw [List.take_add_one, hx, List.filter_append]
 simp [h]
theorem filt_f {hs : List Ev} {j : Nat} {x : Ev} {p : Ev → Bool} (hx : hs[j]? = some x) (h : p x = false) : (hs.take (j + 1)).filter p = (hs.take j).filter p := by
 rw [List.take_add_one, hx, List.filter_append]
 simp [h]
theorem some_in {hs : List Ev} {j : Nat} {y : Ev} {p : Ev → Prop} (hy : hs[j]? = some y) : (∃ z ∈ hs.take (j + 1), p z) ↔ (∃ z ∈ hs.take j, p z) ∨ p y := by
 rw [List.take_add_one, hy]
 constructor
 · rintro ⟨z, h1, h2⟩
   rcases List.mem_append.1 h1 with h | h
   · exact .inl ⟨z, h, h2⟩
   · simp at h; subst h; exact .inr h2
 · rintro (⟨z, h1, h2⟩ | h)
   · exact ⟨z, List.mem_append_left _ h1, h2⟩
   · exact ⟨y, by simp, h⟩
theorem take_cases {D r : Int} {es es2 hs : List Ev} {x : Ev} {tw : Bool} (h : TakeR D es x r es2) (hL : LS D es hs) (htw : tw = true ↔ ∃ y ∈ hs, y.seq = x.seq) :
   (¬ GoodE x → r = 1 ∧ es2 = es) ∧ (GoodE x → ¬ D < x.time → r = 5 ∧ es2 = es) ∧ (GoodE x → D < x.time → (x.time < 0 ∨ x.anti = true ∨ tw = true) → r = 1 ∧ es2 = es) ∧ (GoodE x → D < x.time → ¬ (x.time < 0 ∨ x.anti = true ∨ tw = true) → 4611686018427387903 < x.time → r = 140 ∧ es2 = es) ∧ (GoodE x → D < x.time → ¬ (x.time < 0 ∨ x.anti = true ∨ tw = true) → ¬ 4611686018427387903 < x.time → r = 0 ∧ LS D es2 (hs ++ [x])) := by
 have hbad : GoodE x → ((x.time < 0 ∨ x.anti = true ∨ tw = true) ↔ Bad es x) := fun hg => by
   unfold Bad
   refine or_congr Iff.rfl (or_congr Iff.rfl (htw.trans ⟨?_, ?_⟩))
   · rintro ⟨y, h1, h2⟩
     have h3 := hL.perm.mem_iff.1 h1
     exact ⟨y, h3, by rw [(hL.ev y h3).2.2.2, hg.2.1], h2⟩
   · rintro ⟨y, h1, h2, h3⟩
     exact ⟨y, hL.perm.mem_iff.2 h1, h3⟩
 rcases h with ⟨h1, h2, h3⟩ | ⟨h1, h2, h3, h4⟩ | ⟨h1, h2, h3⟩
 · exact ⟨fun _ => ⟨h1, h2⟩, fun h => absurd h h3, fun h => absurd h h3, fun h => absurd h h3, fun h => absurd h h3⟩
 · exact ⟨fun h => absurd h3 h, fun _ _ => ⟨h1, h2⟩, fun _ h => absurd h (by omega), fun _ h => absurd h (by omega), fun _ h => absurd h (by omega)⟩
 · have hb := hbad h1
   rcases h3 with ⟨e1, e2, e3⟩ | ⟨e1, e2, e3, e4⟩ | ⟨e1, e2, e3, e4⟩
   · exact ⟨fun h => absurd h1 h, fun _ h => absurd h2 h, fun _ _ _ => ⟨e1, e2⟩, fun _ _ h => absurd (hb.2 e3) h, fun _ _ h => absurd (hb.2 e3) h⟩
   · exact ⟨fun h => absurd h1 h, fun _ h => absurd h2 h, fun _ _ h => absurd (hb.1 h) e3, fun _ _ _ _ => ⟨e1, e2⟩, fun _ _ _ h => absurd e4 h⟩
   · refine ⟨fun h => absurd h1 h, fun _ h => absurd h2 h, fun _ _ h => absurd (hb.1 h) e3, fun _ _ _ h => absurd h (by omega), fun _ _ h _ => ⟨e1, hL.put e2 h2 ?_ h1.1 h1.2.1 (fun y hy e => h (.inr (.inr (htw.2 ⟨y, hy, e⟩))))⟩⟩
     have : ¬ x.time < 0 := fun h4 => h (.inl h4)
     omega
theorem lcanc_ok {t : TB} {nx d k : Nat} {D : Int} {cv : AV} {a b : List Nat} {es hs : List Ev} {x : Ev} (hP : PM t nx D cv a b d es) (hp : es.Perm (hs.drop k)) (hx : hs[k]? = some x) (hq : hs.Pairwise (fun a b => a.seq ≠ b.seq)) (hf : ∀ y ∈ hs, y.frm = 0) : WF tb 26 [.ptr 88 0, .int .i64 0, .int .i64 x.seq] t nx (fun v t' nx' => ∃ (es' : List Ev) (d' : Nat), v = .bool true ∧ PM t' nx' D cv a b d' es' ∧ es'.Perm (hs.drop (k + 1)) ∧ (∀ y ∈ es', y.seq ≠ x.seq) ∧ (d' = d ∨ nx ≤ d') ∧ nx ≤ nx' ∧ Keep t t' nx (fun x => x = 89 ∨ x = d)) :=
 (pcanc0_ok hP).mono (fun v t' nx' ⟨q, es', d', h1, h2, h3, h4, h5, h6, h7⟩ => by
   cases q with
   | true =>
     obtain ⟨e, e1, e2, e3⟩ := h3 rfl
     obtain ⟨e4, e5⟩ := canc_step hp hx hq e3 e2
     exact ⟨es', d', h1, h2, e4, e5, h5, h6, h7⟩
   | false =>
     have hm : x ∈ es := hp.mem_iff.2 (by rw [List.drop_eq_getElem_cons (List.getElem?_eq_some_iff.1 hx).1, (List.getElem?_eq_some_iff.1 hx).2]; simp)
     exact absurd ⟨hf x (List.mem_of_getElem? hx), rfl⟩ ((h4 (by simp)).2 x hm))
theorem lcanc2_ok {t : TB} {nx d : Nat} {D sq : Int} {cv : AV} {a b : List Nat} {es : List Ev} (hP : PM t nx D cv a b d es) (hn : ∀ y ∈ es, y.seq ≠ sq) : WF tb 26 [.ptr 88 0, .int .i64 0, .int .i64 sq] t nx (fun v t' nx' => ∃ (d' : Nat), v = .bool false ∧ PM t' nx' D cv a b d' es ∧ (d' = d ∨ nx ≤ d') ∧ nx ≤ nx' ∧ Keep t t' nx (fun x => x = 89 ∨ x = d)) :=
 (pcanc0_ok hP).mono (fun v t' nx' ⟨q, es', d', h1, h2, h3, h4, h5, h6, h7⟩ => by
   cases q with
   | true =>
     obtain ⟨e, e1, e2, e3⟩ := h3 rfl
     exact absurd e2 (hn e (e3.mem_iff.1 (by simp)))
   | false =>
     obtain ⟨rfl, -⟩ := h4 (by simp)
     exact ⟨d', h1, h2, h5, h6, h7⟩)
theorem ok_bool {o : IOp} {T : TA} {t : TB} {nx : Nat} {b c : Bool} (h : o.run T t nx = .ok (.bool b) t nx) (e : b = c) : o.run T t nx = .ok (.bool c) t nx := by rw [← e]; exact h
theorem o_and_eq {T : TA} {t : TB} {nx m r : Nat} {x y : Opd} {a : Int} (hx : x.ev T = some (.int .i64 a)) (hy : y.ev T = some (.int .i64 (m : Int))) (h2 : bitsF .and .i64 a (m : Int) = some (r : Int)) : (IOp.bin .and x y).run T t nx = .ok (.int .i64 (r : Int)) t nx := by
 refine o_bin hx hy rfl (by decide) (by decide) (v := .int .i64 (r : Int)) ?_
 show (bitsF .and .i64 a (m : Int)).map (AV.int .i64) = _
 rw [h2]; rfl
theorem wr_run {T T' : TA} {t t' : TB} {nx nx' : Nat} {l : List Ins} {ok : TA → TB → Nat → Prop} (e : regA (callA tb (runF tb 1000000)) l T t nx = .ok T' t' nx') (h : ok T' t' nx') : WR tb l T t nx ok := ⟨1000000, T', t', nx', by rw [← callF_eq]; exact e, h⟩
noncomputable def RT (r : R) : TA := match r with | .ok T _ _ => T | _ => .e
noncomputable def Rt (r : R) : TB := match r with | .ok _ t _ => t | _ => .e
noncomputable def Rn (r : R) : Nat := match r with | .ok _ _ n => n | _ => 0
noncomputable def go (l : List Ins) (r : R) : R := match r with | .ok T t nx => regA (callA tb (runF tb 1000000)) l T t nx | r => r
noncomputable def s0 (t : TB) (lv : AV) (n : Int) : R := regA (callA tb (runF tb 1000000)) law_r0 (TA.put (some (.int .i64 n)) (TA.put (some lv) TA.e 0) 1) t 1
noncomputable def s1 (t : TB) (lv : AV) (n : Int) : R := go law_r1 (s0 t lv n)
noncomputable def s2 (t : TB) (lv : AV) (n : Int) : R := go law_r2 (s1 t lv n)
def PRE (t0 : TB) (lv : AV) (n : Int) : Prop := ∃ Ta ta na Tb tb_ nb T1 t1, regA (callA tb (runF tb 1000000)) law_r0 (TA.put (some (.int .i64 n)) (TA.put (some lv) TA.e 0) 1) t0 1 = .ok Ta ta na ∧ regA (callA tb (runF tb 1000000)) law_r1 Ta ta na = .ok Tb tb_ nb ∧ regA (callA tb (runF tb 1000000)) law_r2 Tb tb_ nb = .ok T1 t1 136
 ∧ T1.get 0 = some lv ∧ T1.get 1 = some (.int .i64 n) ∧ T1.get 7 = some (.ptr 88 0) ∧ T1.get 8 = some (.int .i64 0) ∧ hv t1 0 = hv t0 0 ∧ PM t1 136 (-1) .nslice [120] [120] 135 []
set_option maxRecDepth 100000 in
theorem pre_e (lv : AV) (n : Int) : PRE .e lv n :=
 ⟨RT (s0 .e lv n), Rt (s0 .e lv n), Rn (s0 .e lv n), RT (s1 .e lv n), Rt (s1 .e lv n), Rn (s1 .e lv n), RT (s2 .e lv n), Rt (s2 .e lv n), by kernel_rfl, by kernel_rfl, by kernel_rfl, by kernel_rfl, by kernel_rfl, by kernel_rfl, by kernel_rfl, by kernel_rfl,
   ⟨by kernel_rfl, by kernel_rfl, by kernel_rfl, by kernel_rfl, by kernel_rfl, by kernel_rfl, by kernel_rfl, ⟨by decide, by decide, by decide, .nslice, by kernel_rfl, .inl ⟨rfl, rfl⟩⟩, by decide, by decide, fun k h1 h2 => absurd h2 (Nat.not_lt_zero _), by decide⟩⟩
set_option maxRecDepth 100000 in
theorem pre_k (k : Blk) (lv : AV) (n : Int) : PRE (TB.put (some k) .e 0) lv n :=
 ⟨RT (s0 (TB.put (some k) .e 0) lv n), Rt (s0 (TB.put (some k) .e 0) lv n), Rn (s0 (TB.put (some k) .e 0) lv n), RT (s1 (TB.put (some k) .e 0) lv n), Rt (s1 (TB.put (some k) .e 0) lv n), Rn (s1 (TB.put (some k) .e 0) lv n), RT (s2 (TB.put (some k) .e 0) lv n), Rt (s2 (TB.put (some k) .e 0) lv n), by kernel_rfl, by kernel_rfl, by kernel_rfl, by kernel_rfl, by kernel_rfl, by kernel_rfl, by kernel_rfl, by kernel_rfl,
   ⟨by kernel_rfl, by kernel_rfl, by kernel_rfl, by kernel_rfl, by kernel_rfl, by kernel_rfl, by kernel_rfl, ⟨by decide, by decide, by decide, .nslice, by kernel_rfl, .inl ⟨rfl, rfl⟩⟩, by decide, by decide, fun k h1 h2 => absurd h2 (Nat.not_lt_zero _), by decide⟩⟩
theorem pre_ok {t0 : TB} (h : t0 = .e ∨ ∃ k, t0 = TB.put (some k) .e 0) (lv : AV) (n : Int) : PRE t0 lv n := by
 rcases h with rfl | ⟨k, rfl⟩
 · exact pre_e lv n
 · exact pre_k k lv n

end Go.Proofs.YtpjohgnhmjceiaaGreatDoor.WX

set_option linter.all false
set_option linter.unusedVariables false
set_option linter.unusedSectionVars false
set_option maxRecDepth 100000
open Go Go.Proofs.YtpjohgnhmjceiaaGreatDoor.AX Go.Proofs
namespace Go.Proofs.YtpjohgnhmjceiaaGreatDoor.WX
variable [Env]
set_option maxHeartbeats 8000000 in
theorem law_ok {lv : AV} {ls : List Ev} {n : Int} {t0 : TB} (hpre : PRE t0 lv n) (hl : QR t0 1 lv ls) (hll : ls.length < 9223372036854775808) (hlv : ∀ c ∈ ls, (∀ b ∈ c.val, b < 256) ∧ c.val.length < 9223372036854775808) : WF tb 8 [lv, .int .i64 n] t0 1 (fun v t' nx' => v = .bool true) := by
 obtain ⟨S, hS, hbits⟩ := land_F n 7 (by decide)
 obtain ⟨Ta, ta, na, Tb, tb_, nb, T1, t1, e0, e1, e2, g0, g1, g7, g8, hz, hP1⟩ := hpre
 refine k_fun law_tab rfl ?_
 unfold law_c
 change WC _ _ (TA.put (some _) (TA.put (some _) TA.e 0) 1) _ _ _
 refine k_seq (k_reg (wr_run e0 (k_seq (k_reg (wr_run e1 (k_seq (k_reg (wr_run e2 (k_seq (k_seq (k_reg (m1 g8 (rO (ndec_f (o_neq eZ ev_c) (by simp)) (m1 ds (r_op (o_mov (eV (z1 (z2 g7)))) (want_on ds) (r_op (o_ptr_nil eZ) (want_on (z1 ds)) (rO (o_pick_f (eV (z2 ds)) eZ) (r_nil (k_cond_f eZ (k_skip (k_seq (k_reg (rO (o_mov ev_c) (r_nil (k_seq (k_seq (k_reg (rO (o_mov ev_c) (r_nil (k_block (k_loop (fun mm Tv tv nv => ∃ (i : Nat) (D : Int) (cv hvv : AV) (a b : List Nat) (d dh : Nat) (es hs : List Ev), i ≤ ls.length ∧ i ≤ 100 ∧ (Tv.get 0 = some lv ∧ Tv.get 1 = some (.int .i64 n) ∧ Tv.get 7 = some (.ptr 88 0) ∧ Tv.get 9 = some hvv ∧ Tv.get 10 = some (.int .i64 ((i : Nat) : Int))) ∧ PM tv nv D cv a b d es ∧ LS D es hs ∧ LD tv dh nv hvv hs ∧ 133 ≤ dh ∧ dh ≠ d ∧ dh ≠ 89 ∧ hs.length ≤ i ∧ hv tv 0 = hv t0 0 ∧ (D = -1 ∧ cv = .nslice ∧ i ≤ S + 1 ∨ D = 0 ∧ S + 1 < i) ∧ mm + i = 100) (fun mm Tv tv nv hI => ?_) (100) ⟨0, -1, .nslice, .nslice, [120], [120], 135, 133, [], [], by omega, by omega, ⟨(z8 g0), (z8 g1), (z8 g7), (z1 ds), ds⟩, hP1, LS.nil _, LD.none (by decide), by decide, by decide, by decide, Nat.le_refl _, hz, .inl ⟨rfl, rfl, by omega⟩, rfl⟩)))))))))))))))))))))))))))))))
 obtain ⟨i, D, cv, hvv, a, b, d, dh, es, hs, hi, hi2, ⟨q0, q1, q7, q9, q10⟩, hP, hL, hLD, hdh, hdd, hdq, hhl, h0z, hst, hmm⟩ := hI
 have hp0 := hP.h0
 have hpd := hP.hd
 have hpd2 := hP.hQ.1
 have hld1 := hLD.1
 have hpl := hL.perm.length_eq
 refine k_seq (k_seq ?_)
 refine k_cut (fun T_ t_ n_ => tv = t_ ∧ nv = n_ ∧ T_.get 43 = some (.bool (decide (i < ls.length ∧ i < 100))) ∧ T_.get 0 = some lv ∧ T_.get 1 = some (.int .i64 n) ∧ T_.get 7 = some (.ptr 88 0) ∧ T_.get 9 = some hvv ∧ T_.get 10 = some (.int .i64 ((i : Nat) : Int))) ?_ ?_
 · refine k_reg (m1 q10 (m1 (z1 q0) (rO (o_len_E (hl.eq (rfl.trans h0z)) eZ) ?_)))
   by_cases hs8 : (((i : Nat) : Int) < ((ls.length : Nat) : Int))
   · refine rO (dec_t (o_lss (eV (z2 ds)) eZ) hs8) (m1 ds (r_op (o_mov (eV (z1 (z4 q10)))) (want_on ds) (r_op (o_lss eZ ev_c) (want_on (z1 ds)) (rO (o_pick_t (eV (z2 ds)) eZ) (r_nil ?_)))))
     exact ⟨rfl, rfl, bd_ ⟨fun _ => by omega, fun _ => by omega⟩ ds, (z8 q0), (z8 q1), (z8 q7), (z8 q9), (z8 q10)⟩
   refine rO (dec_f (o_lss (eV (z2 ds)) eZ) hs8) (m1 ds (r_off (wN ds) (r_off (wN (z1 ds)) (rO (o_pick_f (eV (z2 ds)) ev_c) (r_nil ?_)))))
   exact ⟨rfl, rfl, bf_ (by omega) ds, (z8 q0), (z8 q1), (z8 q7), (z8 q9), (z8 q10)⟩
 rintro T1 _ _ ⟨rfl, rfl, q2, q3, q4, q5, q6, q7⟩
 refine k_if (eV q2) (fun hc9 => ?_) (fun hc9 => ?_)
 · refine k_skip (k_seq (k_block (k_seq (k_seq (k_reg (m1 q7 (m1 (z1 q4) (rO (o_and_eq (m := 7) eZ ev_c hbits) (rO (o_addN (a := 1) (b := S) ev_c eZ (by omega)) (rO (o_eql (eV (z1 (z2 ds))) eZ) (r_nil ?_)))))))))))
   refine k_cut (fun T_ t_ n_ => ∃ (D : Int) (cv hvv : AV) (a b : List Nat) (d dh : Nat) (es hs : List Ev), (T_.get 0 = some lv ∧ T_.get 1 = some (.int .i64 n) ∧ T_.get 7 = some (.ptr 88 0) ∧ T_.get 9 = some hvv ∧ T_.get 10 = some (.int .i64 ((i : Nat) : Int))) ∧ PM t_ n_ D cv a b d es ∧ LS D es hs ∧ LD t_ dh n_ hvv hs ∧ 133 ≤ dh ∧ dh ≠ d ∧ dh ≠ 89 ∧ hs.length ≤ i ∧ hv t_ 0 = hv t0 0 ∧ (D = -1 ∧ cv = .nslice ∧ i < S + 1 ∨ D = 0 ∧ S + 1 ≤ i)) ?_ ?_
   · refine k_if eZ (fun hc10 => ?_) (fun hc10 => ?_)
     · refine k_seq (k_reg (m1 (z1 (z4 q5)) ?_))
       have hD1 : D = -1 ∧ cv = .nslice := hst.elim (fun h_ => ⟨h_.1, h_.2.1⟩) (fun h_ => absurd h_.2 (by omega))
       refine r_call (w_callF (evs_cons eZ evs_nil)) rfl (WF.mono (stepA_ok hP hD1.1 hD1.2 (fun x hx => ⟨(hL.ev x hx).2.1, (hL.ev x hx).2.2.1⟩)) ?_)
       rintro _ t11 n12 ⟨tk, es2, cv2, b2, d2, rfl, hP2, hpm, htk, hes, hd2, hn_s, hk_s⟩
       have hL2 := hL.step hpm htk hes
       have hLD2 := hLD.keep hk_s (fun h_ => absurd (show dh = 88 ∨ dh = 89 ∨ dh = 127 ∨ dh = d from h_) (by omega)) hn_s
       have h02 : hv t11 0 = hv t0 0 := ((hk_s _ (by omega) (fun h_ => absurd (show 0 = 88 ∨ 0 = 89 ∨ 0 = 127 ∨ 0 = d from h_) (by omega))).trans h0z)
       have hh5 := hP2.h0
       obtain ⟨dr0, hr1, hr2, hr3⟩ : ∃ x, 133 ≤ x ∧ x < 135 ∧ x ≠ dh := by by_cases h_ : dh = 133; exact ⟨134, by omega, by omega, by omega⟩; exact ⟨133, by omega, by omega, by omega⟩
       have hpd5 := hP2.hd
       refine r_nil (k_seq (k_reg (rO (o_mov ev_c) (r_nil (k_seq (k_seq (k_reg (rO (o_mov ev_c) (r_nil (k_block (k_loop (fun mm Tu tu nu => ∃ (j dr : Nat) (rv : AV), j ≤ hs.length ∧ (Tu.get 0 = some lv ∧ Tu.get 1 = some (.int .i64 n) ∧ Tu.get 7 = some (.ptr 88 0) ∧ Tu.get 9 = some hvv ∧ Tu.get 10 = some (.int .i64 ((i : Nat) : Int)) ∧ Tu.get 11 = some rv ∧ Tu.get 12 = some (.int .i64 ((j : Nat) : Int))) ∧ PM tu nu 0 cv2 a b2 d2 es2 ∧ LD tu dh nu hvv hs ∧ LD tu dr nu rv ((hs.take j).filter (fun x => decide (0 < x.time))) ∧ 133 ≤ dr ∧ dr ≠ d2 ∧ dr ≠ dh ∧ dr ≠ 89 ∧ dh ≠ d2 ∧ hv tu 0 = hv t0 0 ∧ mm + j = hs.length) (fun mm Tu tu nu hI => ?_) (hs.length) ⟨0, dr0, .nslice, by omega, ⟨(z1 (z8 q3)), (z1 (z8 q4)), (z1 (z8 q5)), (z1 (z8 q6)), (z1 (z8 q7)), (z1 ds), ds⟩, hP2, hLD2, LD.none (by omega), by omega, by omega, by omega, by omega, by omega, h02, by omega⟩)))))))))))
       obtain ⟨j, dr, rv, hj, ⟨r0, r1, r7, r9, r10, r11, r12⟩, hPu, hLu, hLr, hdr1, hdr2, hdr3, hdr4, hdh2, h0u, hmu⟩ := hI
       have hpu0 := hPu.h0
       have hpud := hPu.hd
       have hpud2 := hPu.hQ.1
       have hlu1 := hLu.1
       have hlr1 := hLr.1
       have hfl := List.length_filter_le (fun x : Ev => decide (0 < x.time)) (hs.take j)
       rw [List.length_take] at hfl
       refine k_seq (k_seq (k_reg (m1 r12 (m1 (z1 r9) (rO (o_len_E hLu.qr eZ) (rO (o_lss (eV (z2 ds)) eZ) (r_nil ?_)))))))
       refine k_if eZ (fun hc13 => ?_) (fun hc13 => ?_)
       · refine k_skip (k_seq (k_block (k_seq ?_)))
         obtain ⟨x, hx⟩ := some_at (l := hs) (i := j) (by omega)
         obtain ⟨ch, rh, hve, hrh, hEh⟩ := hLu.at hx
         refine k_draw (eO 0 rfl (o_mov (eV (z4 r9))) (eO 1 rfl (o_mov (eV (z1 (z4 r12)))) (eO 2 rfl (o_iaddrE (i := j) (eV (z1 ds)) hve eZ (by omega)) (eO 3 rfl (o_faddr (off := 0) eZ) (eO 4 rfl (o_load eZ hrh (RE.cell (j := 0) hEh hx rfl)) (eO 5 rfl (o_mov (eV (z1 (z8 r7)))) (d_call (ix := 6) (pr := [5]) (d := (some 65)) (g := none) (F' := [(⟨4, [3], .o 63 (.load (.t 62))⟩, (.int .i64 x.time)), (⟨3, [2], .o 62 (.faddr (.t 61) 0)⟩, (.ptr dh ((0 + j * 6) + 0))), (⟨2, [0, 1], .o 61 (.iaddr 6 (.t 59) (.t 60))⟩, (.ptr dh (0 + j * 6))), (⟨1, [], .mv 60 12⟩, (.int .i64 ((j : Nat) : Int))), (⟨0, [], .mv 59 9⟩, hvv)]) (w_callF (evs_cons eZ evs_nil)) rfl (by kernel_rfl) (by kernel_rfl) (by kernel_rfl) (by kernel_rfl) (WF.mono (done_ok hPu) ?_))))))))
         rintro _ t14 n15 ⟨rfl, hn_d, hk_d⟩
         refine ⟨?_, ?_⟩
         · exact (all_cons_ (still_op rfl rfl (o_load (eV (z1 (z2 ds))) (Keep.look hk_d (by omega) id hrh) (RE.cell (j := 0) hEh hx rfl)) (aeq_flat rfl)) (all_cons_ (still_op rfl rfl (o_faddr (off := 0) (eV (z4 ds))) (aeq_flat rfl)) (all_cons_ (still_op rfl rfl (o_iaddrE (i := j) (eV (z2 (z4 ds))) hve (eV (z1 (z4 ds))) (by omega)) (aeq_flat rfl)) (all_cons_ (still_op rfl rfl (o_mov (eV (z1 (z2 (z8 r12))))) (aeq_flat rfl)) (all_cons_ (still_op rfl rfl (o_mov (eV (z1 (z2 (z8 r9))))) (aeq_flat (by rw [hve]; rfl))) all_nil_)))))
         refine eO 7 rfl (o_gtr (eV (z2 ds)) eZ) (e_done ?_)
         refine k_if eZ (fun hc16 => ?_) (fun hc16 => ?_)
         · refine k_reg (m1 (z4 (z8 r11)) (m1 (z1 (z4 (z8 r9))) (m1 (z2 (z4 (z8 r12))) (rO (o_iaddrE (i := j) (eV (z1 ds)) hve eZ (by omega)) ?_))))
           refine rO (o_loadA (n := 6) eZ (Keep.look hk_d (by omega) id hrh) (by have h_ := hEh.len; have h2_ := hEh.fits; omega) (show _ = [(.int .i64 x.time), (.int .i64 x.node), (.str x.val), (.int .i64 x.frm), (.int .i64 x.seq), (.bool x.anti)] from by rw [Nat.zero_add]; exact hEh.get hx)) ?_
           refine r_heap (o_bslice (fill_cons eZ rfl rfl fill_nil)) rfl (fun t17 (hh18 : hv t17 = upd (hv t14) n15 (some (.row [(.int .i64 x.time), (.int .i64 x.node), (.str x.val), (.int .i64 x.frm), (.int .i64 x.seq), (.bool x.anti)] true))) => ?_)
           obtain ⟨vap, nap, hnap, hapap⟩ := app_LD (x := x) (ex := true) (hLr.keep (n' := (n15 + 1)) (show Keep tu t17 nu (fun b => False) from Keep.upd (Keep.trans (Keep.refl tu nu _) hk_d (by omega) (fun d _ h => h.elim)) hh18 (by first | exact .inl (by omega) | (right; first | exact rfl | (show _ ∨ _; omega) | omega))) (fun h => h) (by omega)) (lS hh18) (by omega)
           refine r_heap (o_appE (eV (z1 (z4 ds))) eZ hapap) rfl (fun taap ⟨hkaap, dap, hdap, hLap⟩ => m1 ds (r_nil (k_reg (m1 (z4 (z8 (z8 r12))) (rO (o_addN (a := j) (b := 1) eZ ev_c (by omega)) (m1 ds (r_nil ?_)))))))
           exact ⟨hs.length - (j + 1), by omega, j + 1, dap, _, by omega, ⟨(z1 (z2 (z4 (z8 (z8 r0))))), (z1 (z2 (z4 (z8 (z8 r1))))), (z1 (z2 (z4 (z8 (z8 r7))))), (z1 (z2 (z4 (z8 (z8 r9))))), (z1 (z2 (z4 (z8 (z8 r10))))), (z1 (z2 ds)), ds⟩, hPu.keep (show Keep tu taap nu (fun b => b = dr) from Keep.trans (Keep.upd (Keep.trans (Keep.refl tu nu _) hk_d (by omega) (fun d _ h => h.elim)) hh18 (by first | exact .inl (by omega) | (right; first | exact rfl | (show _ ∨ _; omega) | omega))) hkaap (by omega) ((fun _ _ h => h))) (fun x hx => by have hx2 : x = dr := hx; omega) (by omega), hLu.keep (show Keep tu taap nu (fun b => b = dr) from Keep.trans (Keep.upd (Keep.trans (Keep.refl tu nu _) hk_d (by omega) (fun d _ h => h.elim)) hh18 (by first | exact .inl (by omega) | (right; first | exact rfl | (show _ ∨ _; omega) | omega))) hkaap (by omega) ((fun _ _ h => h))) (by omega) (by omega), (by rw [filt_t hx (decide_eq_true (by omega))]; exact hLap.keep (W := fun _ => False) kR (fun h => h) (Nat.le_refl _)), by omega, by omega, by omega, by omega, by omega, ((((hkaap _ (by omega) (fun h_ => absurd (show 0 = dr from h_) (by omega))).trans ((congrFun hh18 0).trans (upd_ne _ _ _ _ (by omega)))).trans (hk_d _ (by omega) id)).trans h0u), by omega⟩
         refine k_skip (k_reg (m1 (z4 (z8 r12)) (rO (o_addN (a := j) (b := 1) eZ ev_c (by omega)) (m1 ds (r_nil ?_)))))
         exact ⟨hs.length - (j + 1), by omega, j + 1, dr, rv, by omega, ⟨(z1 (z2 (z4 (z8 r0)))), (z1 (z2 (z4 (z8 r1)))), (z1 (z2 (z4 (z8 r7)))), (z1 (z2 (z4 (z8 r9)))), (z1 (z2 (z4 (z8 r10)))), (z1 (z2 (z4 (z8 r11)))), ds⟩, hPu.keep (show Keep tu t14 nu (fun b => False) from Keep.trans (Keep.refl tu nu _) hk_d (by omega) (fun d _ h => h.elim)) (fun _ h => h.elim) (by omega), hLu.keep (show Keep tu t14 nu (fun b => False) from Keep.trans (Keep.refl tu nu _) hk_d (by omega) (fun d _ h => h.elim)) (fun h => h) (by omega), (by rw [filt_f hx (decide_eq_false (by omega))]; exact hLr.keep (show Keep tu t14 nu (fun b => False) from Keep.trans (Keep.refl tu nu _) hk_d (by omega) (fun d _ h => h.elim)) (fun h => h) (by omega)), by omega, by omega, by omega, by omega, by omega, ((hk_d _ (by omega) id).trans h0u), by omega⟩
       refine k_exit (exK_same (k_reg (m1 (z4 r11) (m1 ds (r_nil ?_)))))
       rw [List.take_of_length_le (by omega)] at hLr
       exact ⟨0, cv2, rv, a, b2, d2, dr, es2, _, ⟨(z2 (z4 r0)), (z2 (z4 r1)), (z2 (z4 r7)), ds, (z2 (z4 r10))⟩, hPu, hL2, hLr, by omega, by omega, by omega, Nat.le_trans (List.length_filter_le _ _) hhl, (rfl.trans h0u), .inr ⟨rfl, by omega⟩⟩
     refine k_skip ?_
     exact ⟨D, cv, hvv, a, b, d, dh, es, hs, ⟨(z1 (z4 q3)), (z1 (z4 q4)), (z1 (z4 q5)), (z1 (z4 q6)), (z1 (z4 q7))⟩, hP, hL, hLD, hdh, hdd, hdq, hhl, h0z, by rcases hst with ⟨h1_, h2_, h3_⟩ | ⟨h1_, h3_⟩; exact .inl ⟨h1_, h2_, by omega⟩; exact .inr ⟨h1_, by omega⟩⟩
   clear hP hL hLD hdh hdd hdq hhl h0z hst hp0 hpd hpd2 hld1 hpl q0 q1 q7 q9 q10
   rintro T_2 t_2 n_2 ⟨D, cv, hvv, a, b, d, dh, es, hs, ⟨q0, q1, q7, q9, q10⟩, hP, hL, hLD, hdh, hdd, hdq, hhl, h0z, hst⟩
   have hp0 := hP.h0
   have hpd := hP.hd
   have hpd2 := hP.hQ.1
   have hld1 := hLD.1
   have hpl := hL.perm.length_eq
   refine k_seq ?_
   have hlq := hl.eq h0z
   obtain ⟨x, hx⟩ := some_at (l := ls) (i := i) (by omega)
   obtain ⟨d0, c0, ex0, wr0, r0, hle, hd0, hr0, hE0⟩ := hlq.at hx
   refine k_reg (m1 q0 (m1 (z1 q10) (rO (o_iaddrE (i := i) (eV (z1 ds)) hle eZ (by omega)) ?_)))
   refine rO (o_loadA (n := 6) eZ hr0 (by have h_ := hE0.len; have h2_ := hE0.fits; omega) (show _ = [(.int .i64 x.time), (.int .i64 x.node), (.str x.val), (.int .i64 x.frm), (.int .i64 x.seq), (.bool x.anti)] from by rw [Nat.zero_add]; exact hE0.get hx)) ?_
   refine r_heap (o_alloc) rfl (fun t19 (hh20 : hv t19 = upd (hv t_2) n_2 (some (.row [(.int .i64 0), (.int .i64 0), (.str []), (.int .i64 0), (.int .i64 0), (.bool false)] true))) => r_heap (o_store (n := 6) eZ (eV (z1 ds)) (lS hh20) rfl rfl (leb rfl)) rfl (fun t21 (hh22 : hv t21 = upd (hv t19) n_2 (some (.row [(.int .i64 x.time), (.int .i64 x.node), (.str x.val), (.int .i64 x.frm), (.int .i64 x.seq), (.bool x.anti)] true))) => r_nil (k_seq ?_)))
   refine k_cut (fun T_ t_ n_ => t21 = t_ ∧ (n_2 + 1) = n_ ∧ T_.get 14 = some (.bool (decide (GoodE x))) ∧ T_.get 0 = some lv ∧ T_.get 1 = some (.int .i64 n) ∧ T_.get 7 = some (.ptr 88 0) ∧ T_.get 9 = some hvv ∧ T_.get 10 = some (.int .i64 ((i : Nat) : Int)) ∧ T_.get 13 = some (.ptr n_2 0)) ?_ ?_
   · refine k_reg (rO (o_faddr (off := 1) (eV (z1 ds))) (rO (o_load eZ (lS hh22) rfl) ?_))
     by_cases hs31 : (x.node = 1)
     · refine rO (dec_t (o_eql eZ ev_c) hs31) (m1 ds (r_op (o_faddr (off := 3) (eV (z1 (z4 ds)))) (want_on ds) (r_op (o_load eZ (lS hh22) rfl) (want_on (z1 ds)) ?_)))
       by_cases hs32 : (x.frm = 0)
       · refine r_op (dec_t (o_eql eZ ev_c) hs32) (want_on (z2 ds)) (rO (o_pick_t (eV (z1 (z2 ds))) eZ) (m1 ds (r_op (o_faddr (off := 2) (eV (z2 (z8 ds)))) (want_on ds) (r_op (o_load eZ (lS hh22) rfl) (want_on (z1 ds)) ?_))))
         by_cases hs33 : (x.val = [48])
         · refine r_op (dec_t (o_str_eql eZ ev_c) hs33) (want_on (z2 ds)) (r_op (o_mov eZ) (want_on (z1 (z2 ds))) (r_off (wN ds) (r_off (wN (z1 ds)) (r_off (wN (z2 ds)) (r_op (o_pick_t (eV (z1 (z2 ds))) ev_c) (want_on (z1 (z2 (z4 ds)))) (r_op (o_mov eZ) (want_on (z8 ds)) (r_off (wN ds) (r_off (wN (z1 ds)) (r_off (wN (z2 ds)) (r_op (o_pick_t (eV (z1 (z2 ds))) ev_c) (want_on (z4 (z8 ds))) (r_op (o_mov eZ) (want_on (z1 (z4 (z8 ds)))) (r_off (wN ds) (r_off (wN (z1 ds)) (r_off (wN (z2 ds)) (r_op (o_pick_t (eV (z1 (z2 ds))) ev_c) (want_on (z1 (z8 (z8 ds)))) (rO (o_pick_t (eV (z2 (z8 (z8 ds)))) eZ) (m1 ds (r_nil ?_))))))))))))))))))
           exact ⟨rfl, rfl, bt_ (by simp [GoodE, hs31, hs32, hs33]) ds, (z1 (z2 (z8 (z8 (z8 (z8 q0)))))), (z1 (z2 (z8 (z8 (z8 (z8 q1)))))), (z1 (z2 (z8 (z8 (z8 (z8 q7)))))), (z1 (z2 (z8 (z8 (z8 (z8 q9)))))), (z1 (z2 (z8 (z8 (z8 (z8 q10)))))), (z2 (z4 (z8 (z8 (z8 ds)))))⟩
         refine r_op (dec_f (o_str_eql eZ ev_c) hs33) (want_on (z2 ds)) (r_op (o_mov eZ) (want_on (z1 (z2 ds))) (r_op (o_faddr (off := 2) (eV (z2 (z4 (z8 ds))))) (want_on ds) (r_op (o_load eZ (lS hh22) rfl) (want_on (z1 ds)) ?_)))
         by_cases hs34 : (x.val = [49])
         · refine r_op (dec_t (o_str_eql eZ ev_c) hs34) (want_on (z2 ds)) (r_op (o_pick_f (eV (z1 (z2 ds))) eZ) (want_on (z1 (z2 (z4 ds)))) (r_op (o_mov eZ) (want_on (z8 ds)) (r_off (wN ds) (r_off (wN (z1 ds)) (r_off (wN (z2 ds)) (r_op (o_pick_t (eV (z1 (z2 ds))) ev_c) (want_on (z4 (z8 ds))) (r_op (o_mov eZ) (want_on (z1 (z4 (z8 ds)))) (r_off (wN ds) (r_off (wN (z1 ds)) (r_off (wN (z2 ds)) (r_op (o_pick_t (eV (z1 (z2 ds))) ev_c) (want_on (z1 (z8 (z8 ds)))) (rO (o_pick_t (eV (z2 (z8 (z8 ds)))) eZ) (m1 ds (r_nil ?_))))))))))))))
           exact ⟨rfl, rfl, bt_ (by simp [GoodE, hs31, hs32, hs33, hs34]) ds, (z1 (z2 (z8 (z8 (z8 (z8 q0)))))), (z1 (z2 (z8 (z8 (z8 (z8 q1)))))), (z1 (z2 (z8 (z8 (z8 (z8 q7)))))), (z1 (z2 (z8 (z8 (z8 (z8 q9)))))), (z1 (z2 (z8 (z8 (z8 (z8 q10)))))), (z2 (z4 (z8 (z8 (z8 ds)))))⟩
         refine r_op (dec_f (o_str_eql eZ ev_c) hs34) (want_on (z2 ds)) (r_op (o_pick_f (eV (z1 (z2 ds))) eZ) (want_on (z1 (z2 (z4 ds)))) (r_op (o_mov eZ) (want_on (z8 ds)) (r_op (o_faddr (off := 2) (eV (z1 (z2 (z8 (z8 ds)))))) (want_on ds) (r_op (o_load eZ (lS hh22) rfl) (want_on (z1 ds)) ?_))))
         by_cases hs35 : (x.val = [120])
         · refine r_op (dec_t (o_str_eql eZ ev_c) hs35) (want_on (z2 ds)) (r_op (o_pick_f (eV (z1 (z2 ds))) eZ) (want_on (z4 (z8 ds))) (r_op (o_mov eZ) (want_on (z1 (z4 (z8 ds)))) (r_off (wN ds) (r_off (wN (z1 ds)) (r_off (wN (z2 ds)) (r_op (o_pick_t (eV (z1 (z2 ds))) ev_c) (want_on (z1 (z8 (z8 ds)))) (rO (o_pick_t (eV (z2 (z8 (z8 ds)))) eZ) (m1 ds (r_nil ?_)))))))))
           exact ⟨rfl, rfl, bt_ (by simp [GoodE, hs31, hs32, hs33, hs34, hs35]) ds, (z1 (z2 (z8 (z8 (z8 (z8 q0)))))), (z1 (z2 (z8 (z8 (z8 (z8 q1)))))), (z1 (z2 (z8 (z8 (z8 (z8 q7)))))), (z1 (z2 (z8 (z8 (z8 (z8 q9)))))), (z1 (z2 (z8 (z8 (z8 (z8 q10)))))), (z2 (z4 (z8 (z8 (z8 ds)))))⟩
         refine r_op (dec_f (o_str_eql eZ ev_c) hs35) (want_on (z2 ds)) (r_op (o_pick_f (eV (z1 (z2 ds))) eZ) (want_on (z4 (z8 ds))) (r_op (o_mov eZ) (want_on (z1 (z4 (z8 ds)))) (r_op (o_faddr (off := 2) (eV (z8 (z8 (z8 ds))))) (want_on ds) (r_op (o_load eZ (lS hh22) rfl) (want_on (z1 ds)) (r_op (o_str_eql eZ ev_c) (want_on (z2 ds)) (r_op (o_pick_f (eV (z1 (z2 ds))) eZ) (want_on (z1 (z8 (z8 ds)))) (rO (o_pick_t (eV (z2 (z8 (z8 ds)))) eZ) (m1 ds (r_nil ?_)))))))))
         exact ⟨rfl, rfl, bd_ (by simp [GoodE, hs31, hs32, hs33, hs34, hs35]) ds, (z1 (z2 (z8 (z8 (z8 (z8 q0)))))), (z1 (z2 (z8 (z8 (z8 (z8 q1)))))), (z1 (z2 (z8 (z8 (z8 (z8 q7)))))), (z1 (z2 (z8 (z8 (z8 (z8 q9)))))), (z1 (z2 (z8 (z8 (z8 (z8 q10)))))), (z2 (z4 (z8 (z8 (z8 ds)))))⟩
       refine r_op (dec_f (o_eql eZ ev_c) hs32) (want_on (z2 ds)) (rO (o_pick_t (eV (z1 (z2 ds))) eZ) (m1 ds (r_off (wN ds) (r_off (wN (z1 ds)) (r_off (wN (z2 ds)) (r_off (wN (z1 (z2 ds))) (r_off (want_undef ds) (r_off (want_undef (z1 ds)) (r_off (want_undef (z2 ds)) (r_off (wN (z1 (z2 (z4 ds)))) (r_off (wN (z8 ds)) (r_off (want_undef ds) (r_off (want_undef (z1 ds)) (r_off (want_undef (z2 ds)) (r_off (wN (z4 (z8 ds))) (r_off (wN (z1 (z4 (z8 ds)))) (r_off (want_undef ds) (r_off (want_undef (z1 ds)) (r_off (want_undef (z2 ds)) (r_off (wN (z1 (z8 (z8 ds)))) (rO (o_pick_f (eV (z2 (z8 (z8 ds)))) ev_c) (m1 ds (r_nil ?_)))))))))))))))))))))))
       exact ⟨rfl, rfl, bf_ (by simp [GoodE, hs31, hs32]) ds, (z1 (z2 (z8 (z8 (z8 (z8 q0)))))), (z1 (z2 (z8 (z8 (z8 (z8 q1)))))), (z1 (z2 (z8 (z8 (z8 (z8 q7)))))), (z1 (z2 (z8 (z8 (z8 (z8 q9)))))), (z1 (z2 (z8 (z8 (z8 (z8 q10)))))), (z2 (z4 (z8 (z8 (z8 ds)))))⟩
     refine rO (dec_f (o_eql eZ ev_c) hs31) (m1 ds (r_off (wN ds) (r_off (wN (z1 ds)) (r_off (wN (z2 ds)) (rO (o_pick_f (eV (z1 (z2 ds))) ev_c) (m1 ds (r_off (wN ds) (r_off (wN (z1 ds)) (r_off (wN (z2 ds)) (r_off (wN (z1 (z2 ds))) (r_off (want_undef ds) (r_off (want_undef (z1 ds)) (r_off (want_undef (z2 ds)) (r_off (wN (z1 (z2 (z4 ds)))) (r_off (wN (z8 ds)) (r_off (want_undef ds) (r_off (want_undef (z1 ds)) (r_off (want_undef (z2 ds)) (r_off (wN (z4 (z8 ds))) (r_off (wN (z1 (z4 (z8 ds)))) (r_off (want_undef ds) (r_off (want_undef (z1 ds)) (r_off (want_undef (z2 ds)) (r_off (wN (z1 (z8 (z8 ds)))) (rO (o_pick_f (eV (z2 (z8 (z8 ds)))) ev_c) (m1 ds (r_nil ?_)))))))))))))))))))))))))))
     exact ⟨rfl, rfl, bf_ (by simp [GoodE, hs31]) ds, (z1 (z2 (z8 (z8 (z8 (z8 q0)))))), (z1 (z2 (z8 (z8 (z8 (z8 q1)))))), (z1 (z2 (z8 (z8 (z8 (z8 q7)))))), (z1 (z2 (z8 (z8 (z8 (z8 q9)))))), (z1 (z2 (z8 (z8 (z8 (z8 q10)))))), (z2 (z4 (z8 (z8 (z8 ds)))))⟩
   rintro T23 _ _ ⟨rfl, rfl, q24, q25, q26, q27, q28, q29, q30⟩
   refine k_seq (k_reg (rO (o_mov ev_c) (r_nil (k_seq (k_seq (k_reg (rO (o_mov ev_c) (r_nil (k_block ?_)))))))))
   have hxv := hlv x (List.mem_of_getElem? hx)
   refine k_loop (fun mz Tz tz nz => ∃ (j : Nat) (tw : Bool), j ≤ hs.length ∧ (Tz.get 0 = some lv ∧ Tz.get 1 = some (.int .i64 n) ∧ Tz.get 7 = some (.ptr 88 0) ∧ Tz.get 9 = some hvv ∧ Tz.get 10 = some (.int .i64 ((i : Nat) : Int)) ∧ Tz.get 13 = some (.ptr n_2 0) ∧ Tz.get 14 = some (.bool (decide (GoodE x))) ∧ Tz.get 15 = some (.bool tw) ∧ Tz.get 16 = some (.int .i64 ((j : Nat) : Int))) ∧ (tw = true ↔ ∃ z ∈ hs.take j, z.seq = x.seq) ∧ mz + j = hs.length ∧ t21 = tz ∧ (n_2 + 1) = nz) (fun mz Tz tz nz hI => ?_) hs.length ⟨0, false, by omega, ⟨(z2 q25), (z2 q26), (z2 q27), (z2 q28), (z2 q29), (z2 q30), (z2 q24), (z1 ds), ds⟩, by simp, rfl, rfl, rfl⟩
   obtain ⟨j, tw, hj, ⟨zq0, zq1, zq7, zq9, zq10, zq13, zq14, zq15, zq16⟩, htw, hmz, rfl, rfl⟩ := hI
   refine k_seq (k_seq (k_reg (m1 zq16 (m1 (z1 zq9) ?_))))
   refine rO (o_len_E (hLD.keep (n' := (n_2 + 1)) (show Keep t_2 t21 n_2 (fun b => False) from Keep.upd (Keep.upd (Keep.refl t_2 n_2 _) hh20 (by first | exact .inl (by omega) | (right; first | exact rfl | (show _ ∨ _; omega) | omega))) hh22 (by first | exact .inl (by omega) | (right; first | exact rfl | (show _ ∨ _; omega) | omega))) (fun h => h) (by omega)).qr eZ) ?_
   refine rO (o_lss (eV (z2 ds)) eZ) (r_nil ?_)
   refine k_if eZ (fun hc36 => ?_) (fun hc36 => ?_)
   · refine k_skip (k_seq (k_block ?_))
     obtain ⟨y, hy⟩ := some_at (l := hs) (i := j) (by omega)
     obtain ⟨ch, rh, hve, hrh, hEh⟩ := hLD.at hy
     have hrh2 : hv t21 dh = some (.row rh true) := ((((congrFun hh22 dh).trans (upd_ne _ _ _ _ (by omega))).trans ((congrFun hh20 dh).trans (upd_ne _ _ _ _ (by omega))))).trans hrh
     rcases Bool.eq_false_or_eq_true tw with rfl | rfl
     · refine k_draw (eO 0 rfl (o_mov (eV (z4 zq15))) (eO 1 rfl (o_mov eZ) (e_off 2 rfl (wN ds) (e_off 3 rfl (wN (z1 ds)) (e_off 4 rfl (wN (z2 ds)) (e_off 5 rfl (wN (z1 (z2 ds))) (e_off 6 rfl (wN (z4 ds)) (e_off 7 rfl (wN (z1 (z4 ds))) (e_off 8 rfl (wN (z2 (z4 ds))) (e_off 9 rfl (wN (z1 (z2 (z4 ds)))) (eO 10 rfl (o_pick_t (eV (z8 ds)) ev_c) (d_heap (ix := 11) (pr := [10, 1, 0, 1, 2, 3, 4, 5, 6, 7, 8, 9, 10]) (d := (some 15)) (g := none) (F' := []) (o := (.mov (.t 123))) (P := fun t_ => t21 = t_) ⟨_, o_mov eZ, rfl⟩ rfl (by kernel_rfl) (by kernel_rfl) (by kernel_rfl) (by kernel_rfl) (fun ta37 hta37 => ?_)))))))))))))
       subst hta37
       refine ⟨?_, ?_⟩
       · exact all_nil_
       refine e_done (k_reg (m1 (z8 (z8 zq16)) (rO (o_addN (a := j) (b := 1) eZ ev_c (by omega)) (m1 ds (r_nil ?_)))))
       exact ⟨hs.length - (j + 1), by omega, j + 1, true, by omega, ⟨(z1 (z2 (z8 (z8 zq0)))), (z1 (z2 (z8 (z8 zq1)))), (z1 (z2 (z8 (z8 zq7)))), (z1 (z2 (z8 (z8 zq9)))), (z1 (z2 (z8 (z8 zq10)))), (z1 (z2 (z8 (z8 zq13)))), (z1 (z2 (z8 (z8 zq14)))), (z1 (z2 ds)), ds⟩, (by rw [some_in (p := fun z => z.seq = x.seq) hy]; exact ⟨fun h_ => (by first | exact .inr (by assumption) | exact .inl (htw.1 rfl) | cases h_), fun h_ => (by first | rfl | exact Or.elim h_ (fun h_ => absurd (htw.2 h_) (by simp)) (fun h_ => absurd h_ (by assumption)))⟩), by omega, rfl, rfl⟩
     refine k_draw (eO 0 rfl (o_mov (eV (z4 zq15))) (eO 1 rfl (o_mov eZ) (e_op 2 rfl (o_mov (eV (z2 (z4 zq9)))) (want_on ds) (e_op 3 rfl (o_mov (eV (z1 (z2 (z4 zq16))))) (want_on (z1 ds)) (e_op 4 rfl (o_iaddrE (i := j) (eV (z1 ds)) hve eZ (by omega)) (want_on (z2 ds)) (e_op 5 rfl (o_faddr (off := 4) eZ) (want_on (z1 (z2 ds))) (e_op 6 rfl (o_load eZ hrh2 (RE.cell (j := 4) hEh hy rfl)) (want_on (z4 ds)) (e_op 7 rfl (o_faddr (off := 4) (eV (z1 (z2 (z8 zq13))))) (want_on (z1 (z4 ds))) (e_op 8 rfl (o_load eZ (lS hh22) rfl) (want_on (z2 (z4 ds))) ?_)))))))))
     by_cases hs38 : (y.seq = x.seq)
     · refine e_op 9 rfl (dec_t (o_eql (eV (z2 ds)) eZ) hs38) (want_on (z1 (z2 (z4 ds)))) (eO 10 rfl (o_pick_f (eV (z8 ds)) eZ) (d_heap (ix := 11) (pr := [10, 1, 0, 1, 2, 3, 4, 5, 6, 7, 8, 9, 10]) (d := (some 15)) (g := none) (F' := []) (o := (.mov (.t 123))) (P := fun t_ => t21 = t_) ⟨_, o_mov eZ, rfl⟩ rfl (by kernel_rfl) (by kernel_rfl) (by kernel_rfl) (by kernel_rfl) (fun ta39 hta39 => ?_)))
       subst hta39
       refine ⟨?_, ?_⟩
       · exact all_nil_
       refine e_done (k_reg (m1 (z8 (z8 zq16)) (rO (o_addN (a := j) (b := 1) eZ ev_c (by omega)) (m1 ds (r_nil ?_)))))
       exact ⟨hs.length - (j + 1), by omega, j + 1, true, by omega, ⟨(z1 (z2 (z8 (z8 zq0)))), (z1 (z2 (z8 (z8 zq1)))), (z1 (z2 (z8 (z8 zq7)))), (z1 (z2 (z8 (z8 zq9)))), (z1 (z2 (z8 (z8 zq10)))), (z1 (z2 (z8 (z8 zq13)))), (z1 (z2 (z8 (z8 zq14)))), (z1 (z2 ds)), ds⟩, (by rw [some_in (p := fun z => z.seq = x.seq) hy]; exact ⟨fun h_ => (by first | exact .inr (by assumption) | exact .inl (htw.1 rfl) | cases h_), fun h_ => (by first | rfl | exact Or.elim h_ (fun h_ => absurd (htw.2 h_) (by simp)) (fun h_ => absurd h_ (by assumption)))⟩), by omega, rfl, rfl⟩
     refine e_op 9 rfl (dec_f (o_eql (eV (z2 ds)) eZ) hs38) (want_on (z1 (z2 (z4 ds)))) (eO 10 rfl (o_pick_f (eV (z8 ds)) eZ) (d_heap (ix := 11) (pr := [10, 1, 0, 1, 2, 3, 4, 5, 6, 7, 8, 9, 10]) (d := (some 15)) (g := none) (F' := []) (o := (.mov (.t 123))) (P := fun t_ => t21 = t_) ⟨_, o_mov eZ, rfl⟩ rfl (by kernel_rfl) (by kernel_rfl) (by kernel_rfl) (by kernel_rfl) (fun ta40 hta40 => ?_)))
     subst hta40
     refine ⟨?_, ?_⟩
     · exact all_nil_
     refine e_done (k_reg (m1 (z8 (z8 zq16)) (rO (o_addN (a := j) (b := 1) eZ ev_c (by omega)) (m1 ds (r_nil ?_)))))
     exact ⟨hs.length - (j + 1), by omega, j + 1, false, by omega, ⟨(z1 (z2 (z8 (z8 zq0)))), (z1 (z2 (z8 (z8 zq1)))), (z1 (z2 (z8 (z8 zq7)))), (z1 (z2 (z8 (z8 zq9)))), (z1 (z2 (z8 (z8 zq10)))), (z1 (z2 (z8 (z8 zq13)))), (z1 (z2 (z8 (z8 zq14)))), (z1 (z2 ds)), ds⟩, (by rw [some_in (p := fun z => z.seq = x.seq) hy]; exact ⟨fun h_ => (by first | exact .inr (by assumption) | exact .inl (htw.1 rfl) | cases h_), fun h_ => (by first | rfl | exact Or.elim h_ (fun h_ => absurd (htw.2 h_) (by simp)) (fun h_ => absurd h_ (by assumption)))⟩), by omega, rfl, rfl⟩
   refine k_exit (exK_same (k_seq (k_reg (m1 (z4 zq7) (rO (o_loadA (n := 6) (eV (z1 (z4 zq13))) (lS hh22) (leb rfl) rfl) ?_)))))
   rw [List.take_of_length_le (by omega)] at htw
   refine r_call (w_callF (evs_cons (eV (z1 ds)) (evs_cons eZ evs_nil))) rfl (WF.mono (ptake_ok (e := x) (hP.keep (n' := (n_2 + 1)) (show Keep t_2 t21 n_2 (fun b => False) from Keep.upd (Keep.upd (Keep.refl t_2 n_2 _) hh20 (by first | exact .inl (by omega) | (right; first | exact rfl | (show _ ∨ _; omega) | omega))) hh22 (by first | exact .inl (by omega) | (right; first | exact rfl | (show _ ∨ _; omega) | omega))) (fun _ h => h.elim) (by omega)) (by omega) hxv.1 (by omega)) ?_)
   rintro _ t41 n42 ⟨r, es2, d2, rfl, hP2, hT, hd2, hn_t, hk_t⟩
   obtain ⟨hT1, hT2, hT3, hT4, hT5⟩ := take_cases hT hL htw
   clear htw hT
   have hpt0 := hP2.h0
   have hpt1 := hP2.hd
   have hpt2 := hP2.hQ.1
   refine m1 ds (r_nil (k_block (k_seq (k_reg (m1 (z8 zq14) (rO (o_not eZ) (m1 ds (r_nil ?_))))))))
   refine k_in eZ (fun hc43 => ?_) (fun hc43 => ?_)
   · refine k_seq ?_
     obtain ⟨hr_, hes_⟩ := hT1 (by assumption)
     refine k_reg (m1 (z1 (z2 ds)) (rO (o_neq eZ ev_c) (r_nil ?_)))
     refine k_in eZ (fun hc44 => ?_) (fun hc44 => ?_)
     · refine k_seq ?_
       exfalso; omega
     refine k_skip (k_reg (m1 (z1 (z4 (z8 zq10))) (rO (o_addN (a := i) (b := 1) eZ ev_c (by omega)) (m1 ds (r_nil ?_)))))
     exact ⟨mm - 1, by omega, i + 1, D, cv, hvv, a, b, d2, dh, es2, hs, by omega, by omega, ⟨(z8 (z8 zq0)), (z8 (z8 zq1)), (z8 (z8 zq7)), (z8 (z8 zq9)), ds⟩, (hP2.keep (show Keep t41 t41 n42 (fun b => False) from Keep.refl t41 n42 _) (fun x hx => hx.elim) (by omega)), (by rw [hes_]; exact hL), hLD.keep (show Keep t_2 t41 n_2 (fun b => b = 89 ∨ b = d) from Keep.trans (Keep.upd (Keep.upd (Keep.refl t_2 n_2 _) hh20 (by first | exact .inl (by omega) | (right; first | exact rfl | (show _ ∨ _; omega) | omega))) hh22 (by first | exact .inl (by omega) | (right; first | exact rfl | (show _ ∨ _; omega) | omega))) hk_t (by omega) ((fun _ _ h => h))) (by omega) (by omega), by omega, by omega, by omega, by omega, ((((hk_t _ (by omega) (fun h_ => absurd (show 0 = 89 ∨ 0 = d from h_) (by omega))).trans ((congrFun hh22 0).trans (upd_ne _ _ _ _ (by omega)))).trans ((congrFun hh20 0).trans (upd_ne _ _ _ _ (by omega)))).trans h0z), by rcases hst with ⟨h1_, h2_, h3_⟩ | ⟨h1_, h3_⟩; exact .inl ⟨h1_, h2_, by omega⟩; exact .inr ⟨h1_, by omega⟩, by omega⟩
   refine k_seq (k_draw (eO 0 rfl (o_faddr (off := 0) (eV (z1 (z2 (z8 zq13))))) (eO 1 rfl (o_load eZ (Keep.look hk_t (by omega) (fun h_ => absurd (show n_2 = 89 ∨ n_2 = d from h_) (by omega)) (lS hh22)) rfl) (eO 2 rfl (o_mov (eV (z1 (z4 (z8 zq7))))) (d_call (ix := 3) (pr := [2]) (d := (some 142)) (g := none) (F' := [(⟨1, [0], .o 140 (.load (.t 139))⟩, (.int .i64 x.time)), (⟨0, [], .o 139 (.faddr (.t 13) 0)⟩, (.ptr n_2 0))]) (w_callF (evs_cons eZ evs_nil)) rfl (by kernel_rfl) (by kernel_rfl) (by kernel_rfl) (by kernel_rfl) (WF.mono (done_ok (hP2.keep (n' := n42) (show Keep t41 t41 n42 (fun b => False) from Keep.refl t41 n42 _) (fun _ h => h.elim) (by omega))) ?_))))))
   rintro _ t45 n46 ⟨rfl, hn_d, hk_d⟩
   refine ⟨?_, ?_⟩
   · exact (all_cons_ (still_op rfl rfl (o_load (eV (z1 (z2 ds))) (Keep.look hk_d (by omega) id (Keep.look hk_t (by omega) (fun h_ => absurd (show n_2 = 89 ∨ n_2 = d from h_) (by omega)) (lS hh22))) rfl) (aeq_flat rfl)) (all_cons_ (still_op rfl rfl (o_faddr (off := 0) (eV (z1 (z2 (z4 (z8 zq13)))))) (aeq_flat rfl)) all_nil_))
   refine eO 4 rfl (o_leq (eV (z2 ds)) eZ) (eO 5 rfl (o_mov eZ) (e_done ?_))
   refine k_in eZ (fun hc47 => ?_) (fun hc47 => ?_)
   · refine k_seq ?_
     obtain ⟨hr_, hes_⟩ := hT2 (by simp_all) (by omega)
     refine k_reg (m1 (z1 (z8 ds)) (rO (o_neq eZ ev_c) (r_nil ?_)))
     refine k_in eZ (fun hc48 => ?_) (fun hc48 => ?_)
     · refine k_seq ?_
       exfalso; omega
     refine k_skip (k_reg (m1 (z1 (z2 (z8 (z8 zq10)))) (rO (o_addN (a := i) (b := 1) eZ ev_c (by omega)) (m1 ds (r_nil ?_)))))
     exact ⟨mm - 1, by omega, i + 1, D, cv, hvv, a, b, d2, dh, es2, hs, by omega, by omega, ⟨(z2 (z4 (z8 (z8 zq0)))), (z2 (z4 (z8 (z8 zq1)))), (z2 (z4 (z8 (z8 zq7)))), (z2 (z4 (z8 (z8 zq9)))), ds⟩, (hP2.keep (show Keep t41 t45 n42 (fun b => False) from Keep.trans (Keep.refl t41 n42 _) hk_d (by omega) (fun d _ h => h.elim)) (fun x hx => hx.elim) (by omega)), (by rw [hes_]; exact hL), hLD.keep (show Keep t_2 t45 n_2 (fun b => b = 89 ∨ b = d) from Keep.trans (Keep.trans (Keep.upd (Keep.upd (Keep.refl t_2 n_2 _) hh20 (by first | exact .inl (by omega) | (right; first | exact rfl | (show _ ∨ _; omega) | omega))) hh22 (by first | exact .inl (by omega) | (right; first | exact rfl | (show _ ∨ _; omega) | omega))) hk_t (by omega) ((fun _ _ h => h))) hk_d (by omega) (fun d _ h => h.elim)) (by omega) (by omega), by omega, by omega, by omega, by omega, (((((hk_d _ (by omega) id).trans (hk_t _ (by omega) (fun h_ => absurd (show 0 = 89 ∨ 0 = d from h_) (by omega)))).trans ((congrFun hh22 0).trans (upd_ne _ _ _ _ (by omega)))).trans ((congrFun hh20 0).trans (upd_ne _ _ _ _ (by omega)))).trans h0z), by rcases hst with ⟨h1_, h2_, h3_⟩ | ⟨h1_, h3_⟩; exact .inl ⟨h1_, h2_, by omega⟩; exact .inr ⟨h1_, by omega⟩, by omega⟩
   refine k_seq ?_
   have hgd : GoodE x := by simp_all
   have hDt : D < x.time := by omega
   rcases Bool.eq_false_or_eq_true x.anti with han | han
   · refine k_reg (rO (o_faddr (off := 0) (eV (z1 (z8 (z8 zq13))))) (rO (o_load eZ (Keep.look hk_d (by omega) id (Keep.look hk_t (by omega) (fun h_ => absurd (show n_2 = 89 ∨ n_2 = d from h_) (by omega)) (lS hh22))) rfl) ?_))
     by_cases hs49 : (x.time < 0)
     · refine rO (dec_t (o_lss eZ ev_c) hs49) (m1 ds (r_off (wN ds) (r_off (wN (z1 ds)) (rO (o_pick_t (eV (z2 ds)) ev_c) (m1 ds (r_off (wN ds) (rO (o_pick_t (eV (z1 ds)) ev_c) (m1 ds (r_nil (k_cond_t eZ (k_seq ?_)))))))))))
       obtain ⟨hr_, hes_⟩ := hT3 hgd hDt (by first | exact .inl (by omega) | exact .inr (.inl han) | exact .inr (.inr (by assumption)))
       refine k_reg (m1 (z4 (z8 (z8 ds))) (rO (o_neq eZ ev_c) (r_nil ?_)))
       refine k_in eZ (fun hc50 => ?_) (fun hc50 => ?_)
       · refine k_seq ?_
         exfalso; omega
       refine k_skip (k_reg (m1 (z2 (z4 (z8 (z8 (z8 zq10))))) (rO (o_addN (a := i) (b := 1) eZ ev_c (by omega)) (m1 ds (r_nil ?_)))))
       exact ⟨mm - 1, by omega, i + 1, D, cv, hvv, a, b, d2, dh, es2, hs, by omega, by omega, ⟨(z1 (z8 (z8 (z8 (z8 zq0))))), (z1 (z8 (z8 (z8 (z8 zq1))))), (z1 (z8 (z8 (z8 (z8 zq7))))), (z1 (z8 (z8 (z8 (z8 zq9))))), ds⟩, (hP2.keep (show Keep t41 t45 n42 (fun b => False) from Keep.trans (Keep.refl t41 n42 _) hk_d (by omega) (fun d _ h => h.elim)) (fun x hx => hx.elim) (by omega)), (by rw [hes_]; exact hL), hLD.keep (show Keep t_2 t45 n_2 (fun b => b = 89 ∨ b = d) from Keep.trans (Keep.trans (Keep.upd (Keep.upd (Keep.refl t_2 n_2 _) hh20 (by first | exact .inl (by omega) | (right; first | exact rfl | (show _ ∨ _; omega) | omega))) hh22 (by first | exact .inl (by omega) | (right; first | exact rfl | (show _ ∨ _; omega) | omega))) hk_t (by omega) ((fun _ _ h => h))) hk_d (by omega) (fun d _ h => h.elim)) (by omega) (by omega), by omega, by omega, by omega, by omega, (((((hk_d _ (by omega) id).trans (hk_t _ (by omega) (fun h_ => absurd (show 0 = 89 ∨ 0 = d from h_) (by omega)))).trans ((congrFun hh22 0).trans (upd_ne _ _ _ _ (by omega)))).trans ((congrFun hh20 0).trans (upd_ne _ _ _ _ (by omega)))).trans h0z), by rcases hst with ⟨h1_, h2_, h3_⟩ | ⟨h1_, h3_⟩; exact .inl ⟨h1_, h2_, by omega⟩; exact .inr ⟨h1_, by omega⟩, by omega⟩
     refine rO (dec_f (o_lss eZ ev_c) hs49) (m1 ds (r_op (o_faddr (off := 5) (eV (z1 (z4 (z8 (z8 zq13)))))) (want_on ds) (r_op (ok_bool (o_load eZ (Keep.look hk_d (by omega) id (Keep.look hk_t (by omega) (fun h_ => absurd (show n_2 = 89 ∨ n_2 = d from h_) (by omega)) (lS hh22))) rfl) han) (want_on (z1 ds)) (rO (o_pick_f (eV (z2 ds)) eZ) (m1 ds (r_off (wN ds) (rO (o_pick_t (eV (z1 ds)) ev_c) (m1 ds (r_nil (k_cond_t eZ (k_seq ?_)))))))))))
     obtain ⟨hr_, hes_⟩ := hT3 hgd hDt (by first | exact .inl (by omega) | exact .inr (.inl han) | exact .inr (.inr (by assumption)))
     refine k_reg (m1 (z4 (z8 (z8 ds))) (rO (o_neq eZ ev_c) (r_nil ?_)))
     refine k_in eZ (fun hc51 => ?_) (fun hc51 => ?_)
     · refine k_seq ?_
       exfalso; omega
     refine k_skip (k_reg (m1 (z2 (z4 (z8 (z8 (z8 zq10))))) (rO (o_addN (a := i) (b := 1) eZ ev_c (by omega)) (m1 ds (r_nil ?_)))))
     exact ⟨mm - 1, by omega, i + 1, D, cv, hvv, a, b, d2, dh, es2, hs, by omega, by omega, ⟨(z1 (z8 (z8 (z8 (z8 zq0))))), (z1 (z8 (z8 (z8 (z8 zq1))))), (z1 (z8 (z8 (z8 (z8 zq7))))), (z1 (z8 (z8 (z8 (z8 zq9))))), ds⟩, (hP2.keep (show Keep t41 t45 n42 (fun b => False) from Keep.trans (Keep.refl t41 n42 _) hk_d (by omega) (fun d _ h => h.elim)) (fun x hx => hx.elim) (by omega)), (by rw [hes_]; exact hL), hLD.keep (show Keep t_2 t45 n_2 (fun b => b = 89 ∨ b = d) from Keep.trans (Keep.trans (Keep.upd (Keep.upd (Keep.refl t_2 n_2 _) hh20 (by first | exact .inl (by omega) | (right; first | exact rfl | (show _ ∨ _; omega) | omega))) hh22 (by first | exact .inl (by omega) | (right; first | exact rfl | (show _ ∨ _; omega) | omega))) hk_t (by omega) ((fun _ _ h => h))) hk_d (by omega) (fun d _ h => h.elim)) (by omega) (by omega), by omega, by omega, by omega, by omega, (((((hk_d _ (by omega) id).trans (hk_t _ (by omega) (fun h_ => absurd (show 0 = 89 ∨ 0 = d from h_) (by omega)))).trans ((congrFun hh22 0).trans (upd_ne _ _ _ _ (by omega)))).trans ((congrFun hh20 0).trans (upd_ne _ _ _ _ (by omega)))).trans h0z), by rcases hst with ⟨h1_, h2_, h3_⟩ | ⟨h1_, h3_⟩; exact .inl ⟨h1_, h2_, by omega⟩; exact .inr ⟨h1_, by omega⟩, by omega⟩
   refine k_reg (rO (o_faddr (off := 0) (eV (z1 (z8 (z8 zq13))))) (rO (o_load eZ (Keep.look hk_d (by omega) id (Keep.look hk_t (by omega) (fun h_ => absurd (show n_2 = 89 ∨ n_2 = d from h_) (by omega)) (lS hh22))) rfl) ?_))
   by_cases hs52 : (x.time < 0)
   · refine rO (dec_t (o_lss eZ ev_c) hs52) (m1 ds (r_off (wN ds) (r_off (wN (z1 ds)) (rO (o_pick_t (eV (z2 ds)) ev_c) (m1 ds (r_off (wN ds) (rO (o_pick_t (eV (z1 ds)) ev_c) (m1 ds (r_nil (k_cond_t eZ (k_seq ?_)))))))))))
     obtain ⟨hr_, hes_⟩ := hT3 hgd hDt (by first | exact .inl (by omega) | exact .inr (.inl han) | exact .inr (.inr (by assumption)))
     refine k_reg (m1 (z4 (z8 (z8 ds))) (rO (o_neq eZ ev_c) (r_nil ?_)))
     refine k_in eZ (fun hc53 => ?_) (fun hc53 => ?_)
     · refine k_seq ?_
       exfalso; omega
     refine k_skip (k_reg (m1 (z2 (z4 (z8 (z8 (z8 zq10))))) (rO (o_addN (a := i) (b := 1) eZ ev_c (by omega)) (m1 ds (r_nil ?_)))))
     exact ⟨mm - 1, by omega, i + 1, D, cv, hvv, a, b, d2, dh, es2, hs, by omega, by omega, ⟨(z1 (z8 (z8 (z8 (z8 zq0))))), (z1 (z8 (z8 (z8 (z8 zq1))))), (z1 (z8 (z8 (z8 (z8 zq7))))), (z1 (z8 (z8 (z8 (z8 zq9))))), ds⟩, (hP2.keep (show Keep t41 t45 n42 (fun b => False) from Keep.trans (Keep.refl t41 n42 _) hk_d (by omega) (fun d _ h => h.elim)) (fun x hx => hx.elim) (by omega)), (by rw [hes_]; exact hL), hLD.keep (show Keep t_2 t45 n_2 (fun b => b = 89 ∨ b = d) from Keep.trans (Keep.trans (Keep.upd (Keep.upd (Keep.refl t_2 n_2 _) hh20 (by first | exact .inl (by omega) | (right; first | exact rfl | (show _ ∨ _; omega) | omega))) hh22 (by first | exact .inl (by omega) | (right; first | exact rfl | (show _ ∨ _; omega) | omega))) hk_t (by omega) ((fun _ _ h => h))) hk_d (by omega) (fun d _ h => h.elim)) (by omega) (by omega), by omega, by omega, by omega, by omega, (((((hk_d _ (by omega) id).trans (hk_t _ (by omega) (fun h_ => absurd (show 0 = 89 ∨ 0 = d from h_) (by omega)))).trans ((congrFun hh22 0).trans (upd_ne _ _ _ _ (by omega)))).trans ((congrFun hh20 0).trans (upd_ne _ _ _ _ (by omega)))).trans h0z), by rcases hst with ⟨h1_, h2_, h3_⟩ | ⟨h1_, h3_⟩; exact .inl ⟨h1_, h2_, by omega⟩; exact .inr ⟨h1_, by omega⟩, by omega⟩
   refine rO (dec_f (o_lss eZ ev_c) hs52) (m1 ds (r_op (o_faddr (off := 5) (eV (z1 (z4 (z8 (z8 zq13)))))) (want_on ds) (r_op (ok_bool (o_load eZ (Keep.look hk_d (by omega) id (Keep.look hk_t (by omega) (fun h_ => absurd (show n_2 = 89 ∨ n_2 = d from h_) (by omega)) (lS hh22))) rfl) han) (want_on (z1 ds)) (rO (o_pick_f (eV (z2 ds)) eZ) (m1 ds (r_op (o_mov (eV (z1 (z8 (z8 (z8 zq15)))))) (want_on ds) (rO (o_pick_f (eV (z1 ds)) eZ) (m1 ds (r_nil ?_)))))))))
   refine k_cond eZ (fun hc54 => ?_) (fun hc54 => ?_)
   · refine k_seq ?_
     obtain ⟨hr_, hes_⟩ := hT3 hgd hDt (by first | exact .inl (by omega) | exact .inr (.inl han) | exact .inr (.inr (by assumption)))
     refine k_reg (m1 (z4 (z8 (z8 ds))) (rO (o_neq eZ ev_c) (r_nil ?_)))
     refine k_in eZ (fun hc55 => ?_) (fun hc55 => ?_)
     · refine k_seq ?_
       exfalso; omega
     refine k_skip (k_reg (m1 (z2 (z4 (z8 (z8 (z8 zq10))))) (rO (o_addN (a := i) (b := 1) eZ ev_c (by omega)) (m1 ds (r_nil ?_)))))
     exact ⟨mm - 1, by omega, i + 1, D, cv, hvv, a, b, d2, dh, es2, hs, by omega, by omega, ⟨(z1 (z8 (z8 (z8 (z8 zq0))))), (z1 (z8 (z8 (z8 (z8 zq1))))), (z1 (z8 (z8 (z8 (z8 zq7))))), (z1 (z8 (z8 (z8 (z8 zq9))))), ds⟩, (hP2.keep (show Keep t41 t45 n42 (fun b => False) from Keep.trans (Keep.refl t41 n42 _) hk_d (by omega) (fun d _ h => h.elim)) (fun x hx => hx.elim) (by omega)), (by rw [hes_]; exact hL), hLD.keep (show Keep t_2 t45 n_2 (fun b => b = 89 ∨ b = d) from Keep.trans (Keep.trans (Keep.upd (Keep.upd (Keep.refl t_2 n_2 _) hh20 (by first | exact .inl (by omega) | (right; first | exact rfl | (show _ ∨ _; omega) | omega))) hh22 (by first | exact .inl (by omega) | (right; first | exact rfl | (show _ ∨ _; omega) | omega))) hk_t (by omega) ((fun _ _ h => h))) hk_d (by omega) (fun d _ h => h.elim)) (by omega) (by omega), by omega, by omega, by omega, by omega, (((((hk_d _ (by omega) id).trans (hk_t _ (by omega) (fun h_ => absurd (show 0 = 89 ∨ 0 = d from h_) (by omega)))).trans ((congrFun hh22 0).trans (upd_ne _ _ _ _ (by omega)))).trans ((congrFun hh20 0).trans (upd_ne _ _ _ _ (by omega)))).trans h0z), by rcases hst with ⟨h1_, h2_, h3_⟩ | ⟨h1_, h3_⟩; exact .inl ⟨h1_, h2_, by omega⟩; exact .inr ⟨h1_, by omega⟩, by omega⟩
   refine k_seq ?_
   have hnb : ¬ (x.time < 0 ∨ x.anti = true ∨ tw = true) := fun h_ => h_.elim (fun h_ => absurd h_ (by omega)) (fun h_ => h_.elim (fun h_ => by rw [han] at h_; cases h_) (fun h_ => by have h2_ := hc54; rw [h2_] at h_; cases h_))
   refine k_reg (rO (o_faddr (off := 0) (eV (z4 (z8 (z8 (z8 zq13)))))) (rO (o_load eZ (Keep.look hk_d (by omega) id (Keep.look hk_t (by omega) (fun h_ => absurd (show n_2 = 89 ∨ n_2 = d from h_) (by omega)) (lS hh22))) rfl) (rO (o_gtr eZ ev_c) (m1 ds (r_nil ?_)))))
   refine k_if eZ (fun hc56 => ?_) (fun hc56 => ?_)
   · refine k_seq ?_
     obtain ⟨hr_, hes_⟩ := hT4 hgd hDt hnb (by omega)
     refine k_reg (m1 (z8 (z8 (z8 ds))) (rO (o_neq eZ ev_c) (r_nil ?_)))
     refine k_in eZ (fun hc57 => ?_) (fun hc57 => ?_)
     · refine k_seq ?_
       exfalso; omega
     refine k_skip (k_reg (m1 (z2 (z8 (z8 (z8 (z8 zq10))))) (rO (o_addN (a := i) (b := 1) eZ ev_c (by omega)) (m1 ds (r_nil ?_)))))
     exact ⟨mm - 1, by omega, i + 1, D, cv, hvv, a, b, d2, dh, es2, hs, by omega, by omega, ⟨(z1 (z4 (z8 (z8 (z8 (z8 zq0)))))), (z1 (z4 (z8 (z8 (z8 (z8 zq1)))))), (z1 (z4 (z8 (z8 (z8 (z8 zq7)))))), (z1 (z4 (z8 (z8 (z8 (z8 zq9)))))), ds⟩, (hP2.keep (show Keep t41 t45 n42 (fun b => False) from Keep.trans (Keep.refl t41 n42 _) hk_d (by omega) (fun d _ h => h.elim)) (fun x hx => hx.elim) (by omega)), (by rw [hes_]; exact hL), hLD.keep (show Keep t_2 t45 n_2 (fun b => b = 89 ∨ b = d) from Keep.trans (Keep.trans (Keep.upd (Keep.upd (Keep.refl t_2 n_2 _) hh20 (by first | exact .inl (by omega) | (right; first | exact rfl | (show _ ∨ _; omega) | omega))) hh22 (by first | exact .inl (by omega) | (right; first | exact rfl | (show _ ∨ _; omega) | omega))) hk_t (by omega) ((fun _ _ h => h))) hk_d (by omega) (fun d _ h => h.elim)) (by omega) (by omega), by omega, by omega, by omega, by omega, (((((hk_d _ (by omega) id).trans (hk_t _ (by omega) (fun h_ => absurd (show 0 = 89 ∨ 0 = d from h_) (by omega)))).trans ((congrFun hh22 0).trans (upd_ne _ _ _ _ (by omega)))).trans ((congrFun hh20 0).trans (upd_ne _ _ _ _ (by omega)))).trans h0z), by rcases hst with ⟨h1_, h2_, h3_⟩ | ⟨h1_, h3_⟩; exact .inl ⟨h1_, h2_, by omega⟩; exact .inr ⟨h1_, by omega⟩, by omega⟩
   refine k_seq (k_seq ?_)
   obtain ⟨hr_, hLs⟩ := hT5 hgd hDt hnb (by omega)
   refine k_reg (m1 (z8 (z8 (z8 ds))) (rO (o_neq eZ ev_c) (r_nil ?_)))
   refine k_in eZ (fun hc58 => ?_) (fun hc58 => ?_)
   · refine k_seq ?_
     exfalso; omega
   refine k_skip (k_reg (m1 (z2 (z8 (z8 (z8 (z8 zq9))))) (rO (o_loadA (n := 6) (eV (z1 (z2 (z8 (z8 (z8 (z8 zq13))))))) (Keep.look hk_d (by omega) id (Keep.look hk_t (by omega) (fun h_ => absurd (show n_2 = 89 ∨ n_2 = d from h_) (by omega)) (lS hh22))) (leb rfl) rfl) (r_heap (o_bslice (fill_cons eZ rfl rfl fill_nil)) rfl (fun t59 (hh60 : hv t59 = upd (hv t45) n46 (some (.row [(.int .i64 x.time), (.int .i64 x.node), (.str x.val), (.int .i64 x.frm), (.int .i64 x.seq), (.bool x.anti)] true))) => ?_)))))
   obtain ⟨vap, nap, hnap, hapap⟩ := app_LD (x := x) (ex := true) (hLD.keep (n' := (n46 + 1)) (show Keep t_2 t59 n_2 (fun b => b = 89 ∨ b = d) from Keep.upd (Keep.trans (Keep.trans (Keep.upd (Keep.upd (Keep.refl t_2 n_2 _) hh20 (by first | exact .inl (by omega) | (right; first | exact rfl | (show _ ∨ _; omega) | omega))) hh22 (by first | exact .inl (by omega) | (right; first | exact rfl | (show _ ∨ _; omega) | omega))) hk_t (by omega) ((fun _ _ h => h))) hk_d (by omega) (fun d _ h => h.elim)) hh60 (by first | exact .inl (by omega) | (right; first | exact rfl | (show _ ∨ _; omega) | omega))) (by omega) (by omega)) (lS hh60) (by omega)
   refine r_heap (o_appE (eV (z2 ds)) eZ hapap) rfl (fun taap ⟨hkaap, dap, hdap, hLap⟩ => m1 ds (r_nil (k_reg (rO (o_mov (eV (z1 (z2 (z4 (z8 (z8 (z8 (z8 zq10))))))))) (rO (o_addN (a := i) (b := 1) eZ ev_c (by omega)) (m1 ds (r_nil ?_)))))))
   exact ⟨mm - 1, by omega, i + 1, D, cv, _, a, b, d2, dap, es2, _, by omega, by omega, ⟨(z2 (z8 (z8 (z8 (z8 (z8 zq0)))))), (z2 (z8 (z8 (z8 (z8 (z8 zq1)))))), (z2 (z8 (z8 (z8 (z8 (z8 zq7)))))), (z1 (z2 ds)), ds⟩, (hP2.keep (show Keep t41 taap n42 (fun b => b = dh) from Keep.trans (Keep.upd (Keep.trans (Keep.refl t41 n42 _) hk_d (by omega) (fun d _ h => h.elim)) hh60 (by first | exact .inl (by omega) | (right; first | exact rfl | (show _ ∨ _; omega) | omega))) hkaap (by omega) ((fun _ _ h => h))) (fun x hx => by have hx2 : x = dh := hx; omega) (by omega)), hLs, hLap, by omega, by omega, by omega, (by simp; omega), (((((((hkaap _ (by omega) (fun h_ => absurd (show 0 = dh from h_) (by omega))).trans ((congrFun hh60 0).trans (upd_ne _ _ _ _ (by omega)))).trans (hk_d _ (by omega) id)).trans (hk_t _ (by omega) (fun h_ => absurd (show 0 = 89 ∨ 0 = d from h_) (by omega)))).trans ((congrFun hh22 0).trans (upd_ne _ _ _ _ (by omega)))).trans ((congrFun hh20 0).trans (upd_ne _ _ _ _ (by omega)))).trans h0z), by rcases hst with ⟨h1_, h2_, h3_⟩ | ⟨h1_, h3_⟩; exact .inl ⟨h1_, h2_, by omega⟩; exact .inr ⟨h1_, by omega⟩, by omega⟩
 refine k_exit (exK_same (k_seq (k_seq (k_reg (rO (o_mov ev_c) (r_nil (k_block ?_)))))))
 have hDD : D = -1 ∧ cv = .nslice ∨ D = 0 := hst.elim (fun h_ => .inl ⟨h_.1, h_.2.1⟩) (fun h_ => .inr h_.1)
 have hfr : ∀ y ∈ hs, y.frm = 0 := fun y hy => (hL.ev y (hL.perm.mem_iff.1 hy)).2.2.2
 refine k_loop (fun mm Ty ty ny => ∃ (k d2 : Nat) (es2 : List Ev), k ≤ hs.length ∧ (Ty.get 7 = some (.ptr 88 0) ∧ Ty.get 9 = some hvv ∧ Ty.get 18 = some (.int .i64 ((k : Nat) : Int))) ∧ PM ty ny D cv a b d2 es2 ∧ es2.Perm (hs.drop k) ∧ LD ty dh ny hvv hs ∧ dh ≠ d2 ∧ mm + k = hs.length) (fun mm Ty ty ny hI => ?_) (hs.length) ⟨0, d, es, by omega, ⟨(z1 q5), (z1 q6), ds⟩, hP, hL.perm.symm, hLD, hdd, rfl⟩
 obtain ⟨k, d2, es2, hk, ⟨y7, y9, y18⟩, hPy, hpm2, hLy, hdy, hmy⟩ := hI
 have hpy0 := hPy.h0
 have hpyd := hPy.hd
 have hpyd2 := hPy.hQ.1
 have hly1 := hLy.1
 refine k_seq (k_seq (k_reg (m1 y18 (m1 (z1 y9) (rO (o_len_E hLy.qr eZ) (rO (o_lss (eV (z2 ds)) eZ) (r_nil ?_)))))))
 refine k_if eZ (fun hc61 => ?_) (fun hc61 => ?_)
 · refine k_skip (k_seq (k_block (k_seq ?_)))
   obtain ⟨x, hx⟩ := some_at (l := hs) (i := k) (by omega)
   obtain ⟨ch, rh, hve, hrh, hEh⟩ := hLy.at hx
   refine k_reg (m1 (z4 y7) (m1 (z1 (z4 y9)) (m1 (z2 (z4 y18)) (rO (o_iaddrE (i := k) (eV (z1 ds)) hve eZ (by omega)) (rO (o_faddr (off := 4) eZ) (rO (o_load eZ hrh (RE.cell (j := 4) hEh hx rfl)) (r_call (w_callF (evs_cons (eV (z1 (z4 ds))) (evs_cons ev_c (evs_cons eZ evs_nil)))) rfl (WF.mono (lcanc_ok hPy hpm2 hx hL.seqs hfr) ?_))))))))
   rintro _ t62 n63 ⟨es3, d3, rfl, hPa, hpm3, hno3, hd3, hn_a, hk_a⟩
   have hpa := hPa.h0
   have hpa2 := hPa.hd
   have hpa3 := hPa.hQ.1
   refine rO (o_not eZ) (m1 ds (r_op (o_mov (eV (z1 (z4 (z8 y7))))) (want_on ds) (r_op (o_mov (eV (z2 (z4 (z8 y9))))) (want_on (z1 ds)) (r_op (o_mov (eV (z1 (z2 (z4 (z8 y18)))))) (want_on (z2 ds)) (r_op (o_iaddrE (i := k) (eV (z1 ds)) hve eZ (by omega)) (want_on (z1 (z2 ds))) (r_op (o_faddr (off := 4) eZ) (want_on (z4 ds)) (r_op (o_load eZ (Keep.look hk_a (by omega) (fun h_ => absurd (show dh = 89 ∨ dh = d2 from h_) (by omega)) hrh) (RE.cell (j := 4) hEh hx rfl)) (want_on (z1 (z4 ds))) (r_call (w_callF (evs_cons (eV (z1 (z4 ds))) (evs_cons ev_c (evs_cons eZ evs_nil)))) (want_on (z2 (z4 ds))) (WF.mono (lcanc2_ok hPa hno3) ?_)))))))))
   rintro _ t64 n65 ⟨d4, rfl, hPb, hd4, hn_b, hk_b⟩
   have hpb := hPb.h0
   have hpb2 := hPb.hd
   have hpb3 := hPb.hQ.1
   refine rO (o_pick_f (eV (z1 (z2 (z4 ds)))) eZ) (m1 ds (r_op (o_mov (eV (z2 (z4 (z8 (z8 y7)))))) (want_on ds) (r_op (o_mov (eV (z1 (z2 (z4 (z8 (z8 y9))))))) (want_on (z1 ds)) (r_op (o_mov (eV (z8 (z8 (z8 y18))))) (want_on (z2 ds)) (r_op (o_iaddrE (i := k) (eV (z1 ds)) hve eZ (by omega)) (want_on (z1 (z2 ds))) (r_op (o_faddr (off := 4) eZ) (want_on (z4 ds)) (r_op (o_load eZ (Keep.look hk_b (by omega) (fun h_ => absurd (show dh = 89 ∨ dh = d3 from h_) (by omega)) (Keep.look hk_a (by omega) (fun h_ => absurd (show dh = 89 ∨ dh = d2 from h_) (by omega)) hrh)) (RE.cell (j := 4) hEh hx rfl)) (want_on (z1 (z4 ds))) (r_call (w_callF (evs_cons (eV (z1 (z4 ds))) (evs_cons ev_c (evs_cons eZ evs_nil)))) (want_on (z2 (z4 ds))) (WF.mono (pcanc1_ok hPb) ?_)))))))))
   rintro _ t66 n67 ⟨rfl, hn_c, hk_c⟩
   refine rO (o_pick_f (eV (z1 (z2 (z4 ds)))) eZ) (r_nil (k_cond_f eZ (k_skip (k_reg (m1 (z2 (z4 (z8 (z8 (z8 y18))))) (rO (o_addN (a := k) (b := 1) eZ ev_c (by omega)) (m1 ds (r_nil ?_))))))))
   exact ⟨hs.length - (k + 1), by omega, k + 1, d4, es3, by omega, ⟨(z1 (z8 (z8 (z8 (z8 y7))))), (z1 (z8 (z8 (z8 (z8 y9))))), ds⟩, hPb.keep (n' := n67) (show Keep t64 t66 n65 (fun b => False) from Keep.trans (Keep.refl t64 n65 _) hk_c (by omega) (fun d _ h => h.elim)) (fun _ h => h.elim) (by omega), hpm3, hLy.keep (show Keep ty t66 ny (fun b => b = 89 ∨ b = d2) from Keep.trans (Keep.trans (Keep.trans (Keep.refl ty ny _) hk_a (by omega) ((fun _ _ h => h))) hk_b (by omega) ((fun b hb h_ => by have e_ : b = 89 ∨ b = d3 := h_; have e2_ : b < ny := hb; show b = 89 ∨ b = d2; omega))) hk_c (by omega) (fun d _ h => h.elim)) (by omega) (by omega), by omega, by omega⟩
 refine k_exit (exK_same (k_seq ?_))
 have he0 : es2 = [] := by rw [List.drop_of_length_le (by omega)] at hpm2; exact hpm2.eq_nil
 refine k_reg (m1 (z4 y7) (r_call (w_callF (evs_cons eZ evs_nil)) rfl (WF.mono (done_ok hPy) ?_)))
 rintro _ t68 n69 ⟨rfl, hn_d, hk_d⟩
 refine m1 ds (r_nil (k_seq (k_reg (m1 (z1 (z2 (z4 y7))) (r_call (w_callF (evs_cons eZ evs_nil)) rfl (WF.mono (ends_ok (hPy.keep (n' := n69) (show Keep ty t68 ny (fun b => False) from Keep.trans (Keep.refl ty ny _) hk_d (by omega) (fun d _ h => h.elim)) (fun _ h => h.elim) (by omega)) hDD he0) ?_))))))
 rintro _ t70 n71 ⟨cv5, b5, d5, rfl, hPe, hn_e⟩
 refine r_nil (k_seq (k_reg (m1 (z1 (z8 y7)) (r_call (w_callF (evs_cons eZ evs_nil)) rfl (WF.mono (done_ok (hPe.keep (n' := n71) (show Keep t70 t70 n71 (fun b => False) from Keep.refl t70 n71 _) (fun _ h => h.elim) (by omega))) ?_)))))
 rintro _ t72 n73 ⟨rfl, hn_f2, hk_f2⟩
 refine m1 (z4 ds) ?_
 by_cases hs74 : (0 = D)
 · refine rO (dec_t (o_eql (eV (z1 ds)) eZ) hs74) (m1 ds (r_off (wN ds) (r_off (wN (z1 ds)) (r_off (wN (z2 ds)) (r_off (want_undef ds) (r_off (want_undef (z1 ds)) (r_off (want_undef (z2 ds)) (r_off (wN (z2 (z4 ds))) (rO (o_pick_t (eV (z1 (z2 (z4 ds)))) ev_c) (m1 ds (r_call (w_callF evs_nil) (want_on ds) (WF.mono ((k_prim (Q := fun v t' nx' => v = .bool true) awake0_tab rfl rfl)) ?_))))))))))))
   rintro _ t75 n76 rfl
   refine rO (o_pick_t (eV (z1 ds)) eZ) (m1 ds (r_nil (k_ret ?_)))
   exact ⟨_, ans_tmp ds, rfl⟩
 refine rO (dec_f (o_eql (eV (z1 ds)) eZ) hs74) (m1 ds (r_op (o_mov (eV (z1 (z2 (z4 ds))))) (want_on ds) ?_))
 by_cases hs77 : (D < 0)
 · refine r_op (dec_t (o_lss eZ ev_c) hs77) (want_on (z1 ds)) (r_op (o_mov eZ) (want_on (z2 ds)) (r_op (o_mov (eV (z1 (z8 (z8 y7))))) (want_on ds) (r_call (w_callF (evs_cons eZ evs_nil)) (want_on (z1 ds)) (WF.mono (done_ok (hPe.keep (n' := n73) (show Keep t70 t72 n71 (fun b => False) from Keep.trans (Keep.refl t70 n71 _) hk_f2 (by omega) (fun d _ h => h.elim)) (fun _ h => h.elim) (by omega))) ?_))))
   rintro _ t78 n79 ⟨rfl, hn_f3, hk_f3⟩
   refine r_op (dec_t (o_eql eZ ev_c) (by simp)) (want_on (z2 ds)) (r_op (o_pick_t (eV (z1 (z2 ds))) eZ) (want_on (z2 (z4 ds))) (rO (o_pick_f (eV (z1 (z2 (z4 ds)))) eZ) (m1 ds (r_call (w_callF evs_nil) (want_on ds) (WF.mono ((k_prim (Q := fun v t' nx' => v = .bool true) awake0_tab rfl rfl)) ?_)))))
   rintro _ t80 n81 rfl
   refine rO (o_pick_t (eV (z1 ds)) eZ) (m1 ds (r_nil (k_ret ?_)))
   exact ⟨_, ans_tmp ds, rfl⟩
 refine r_op (dec_f (o_lss eZ ev_c) hs77) (want_on (z1 ds)) (r_op (o_mov eZ) (want_on (z2 ds)) (r_off (wN ds) (r_off (wN (z1 ds)) (r_off (wN (z2 ds)) (r_op (o_pick_f (eV (z1 (z2 ds))) ev_c) (want_on (z2 (z4 ds))) (rO (o_pick_f (eV (z1 (z2 (z4 ds)))) eZ) (m1 ds (r_off (wN ds) (rO (o_pick_f (eV (z1 ds)) ev_c) (m1 ds (r_nil (k_ret ?_))))))))))))
 exfalso; omega
end Go.Proofs.YtpjohgnhmjceiaaGreatDoor.WX

