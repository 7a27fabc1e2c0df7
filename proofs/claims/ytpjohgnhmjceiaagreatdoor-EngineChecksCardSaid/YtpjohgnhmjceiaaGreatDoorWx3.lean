/- The program's functions in the evaluator's terms, part 3: what each of them answers, whatever comes in.
   Conditions: those of each theorem. -/
import Derived.Test.YtpjohgnhmjceiaaGreatDoorWx2
set_option linter.all false
set_option linter.unusedVariables false
set_option linter.unusedSectionVars false
set_option maxRecDepth 100000
open Go Go.Proofs.YtpjohgnhmjceiaaGreatDoor.AX Go.Proofs
namespace Go.Proofs.YtpjohgnhmjceiaaGreatDoor.WX
variable [Env]
theorem setVal_zero (x : AV × AV × Nat) (es : List (AV × AV × Nat)) (k v : AV) : setVal (x :: es) 0 k v = (k, v, x.2.2) :: es := rfl
theorem setVal_succ (x : AV × AV × Nat) (es : List (AV × AV × Nat)) (i : Nat) (k v : AV) : setVal (x :: es) (i + 1) k v = x :: setVal es i k v := rfl
theorem setVal_int : ∀ {es : List (AV × AV × Nat)} (_ : mInt es) {m : Nat} {k v v' : Int} {b : Nat} (_ : es[m]? = some (.int .i64 k, .int .i64 v, b)) (_ : ∀ n < m, ∀ e, es[n]? = some e → e.1 ≠ .int .i64 k), mInt (setVal es m (.int .i64 k) (.int .i64 v')) ∧ ∀ q, mget (setVal es m (.int .i64 k) (.int .i64 v')) q = if q = k then v' else mget es q
  | [], _, m, _, _, _, _, h, _ => by simp at h
  | e :: es, hi, 0, k, v, v', b, h, _ => by
    simp at h; subst h
    rw [setVal_zero]
    refine ⟨fun e he => ?_, fun q => ?_⟩
    · rcases List.mem_cons.1 he with rfl | he
      · exact ⟨_, _, _, rfl⟩
      · exact hi e (by simp [he])
    · simp only [mget]
      split <;> rfl
  | e :: es, hi, m + 1, k, v, v', b, h, hn => by
    obtain ⟨j, u, b', rfl⟩ := hi e (by simp)
    have hj : j ≠ k := by
      have h0 := hn 0 (by omega) _ rfl
      intro e; subst e; exact h0 rfl
    obtain ⟨h1, h2⟩ := setVal_int (es := es) (fun e he => hi e (by simp [he])) (m := m) (v' := v') (by simpa using h) (fun n hn' e he => hn (n + 1) (by omega) e (by simpa using he))
    rw [setVal_succ]
    refine ⟨fun e he => ?_, fun q => ?_⟩
    · rcases List.mem_cons.1 he with rfl | he
      · exact ⟨_, _, _, rfl⟩
      · exact h1 e he
    · simp only [mget]
      rw [h2 q]
      by_cases hq : q = j
      · subst hq; rw [if_pos rfl, if_neg hj, if_pos rfl]
      · rw [if_neg hq]; simp only [if_neg hq]
theorem find_first : ∀ {es : List (AV × AV × Nat)} (h : mInt es) {k : Int} {i m : Nat} {u : AV}, findK .int (.int .i64 k) es i = some (some (m, u)) → ∀ n < m - i, ∀ e, es[n]? = some e → e.1 ≠ .int .i64 k
  | [], _, k, i, m, u, h, n, hn, e, he => by simp at he
  | e0 :: es, hi, k, i, m, u, h, n, hn, e, he => by
    obtain ⟨j, v, b, rfl⟩ := hi e0 (by simp)
    have e1 : cellEq .int (.int .i64 k) (.int .i64 j) = some (decide (k = j)) := by
      show (match Nat.beq (kN .i64) (kN .i64) with | true => some (iEq k j) | false => none) = _
      rw [iEq_eq]; rfl
    have e2 : findK .int (.int .i64 k) ((.int .i64 j, .int .i64 v, b) :: es) i = (match cellEq .int (.int .i64 k) (.int .i64 j) with
      | some true => some (some (i, .int .i64 v))
      | some false => findK .int (.int .i64 k) es (Nat.succ i)
      | none => none) := rfl
    rw [e2, e1] at h
    by_cases hk : k = j
    · rw [decide_eq_true hk] at h; simp at h; omega
    · rw [decide_eq_false hk] at h
      cases n with
      | zero => simp at he; subst he; intro e'; cases e'; exact hk rfl
      | succ n => exact find_first (es := es) (fun e he => hi e (by simp [he])) h n (by omega) e (by simpa using he)
theorem mget_app : ∀ {es : List (AV × AV × Nat)} (_ : mInt es) {k v : Int} {b : Nat}, (∀ e ∈ es, e.1 ≠ .int .i64 k) → ∀ q, mget (es ++ [(.int .i64 k, .int .i64 v, b)]) q = if q = k then v else mget es q
  | [], _, k, v, b, _, q => by simp [mget]
  | e :: es, hi, k, v, b, hn, q => by
    obtain ⟨j, u, b', rfl⟩ := hi e (by simp)
    have hj : j ≠ k := by intro e; subst e; exact hn (.int .i64 j, .int .i64 u, b') (by simp) rfl
    have ih := mget_app (es := es) (fun e he => hi e (by simp [he])) (k := k) (v := v) (b := b) (fun e he => hn e (by simp [he])) q
    simp only [List.cons_append, mget]
    rw [ih]
    by_cases hq : q = j
    · subst hq; rw [if_pos rfl, if_neg hj, if_pos rfl]
    · rw [if_neg hq]; simp only [if_neg hq]
theorem o_mupd {T : TA} {t : TB} {nx : Nat} {x k y : Opd} {b : Nat} {es : List (AV × AV × Nat)} {clk : Nat} {j v : Int} (hx : x.ev T = some (.map b)) (hk : k.ev T = some (.int .i64 j)) (hy : y.ev T = some (.int .i64 v)) (hb : hv t b = some (.map es clk)) (hm : mInt es) :
    ∃ t', (IOp.mupd .int x k y).run T t nx = .ok .undef t' nx ∧ ∃ es' clk', hv t' = upd (hv t) b (some (.map es' clk')) ∧ mInt es' ∧ ∀ q, mget es' q = if q = j then v else mget es q := by
  have h1 := map_iff.1 hb
  simp only [IOp.run, hx, hy, hk, h1]
  rcases find_int hm j 0 with ⟨m, u, e1, e2, -, b', e3⟩ | ⟨e1, e2, e3⟩
  · rw [e1]
    rw [Nat.sub_zero] at e3
    obtain ⟨h2, h3⟩ := setVal_int (v' := v) hm e3 (fun n hn e he => find_first hm e1 n (by omega) e he)
    exact ⟨_, rfl, _, clk, by rw [hv_put]; rfl, h2, h3⟩
  · rw [e1]
    refine ⟨_, rfl, _, Nat.succ clk, by rw [hv_put]; rfl, ?_, ?_⟩
    · rw [lApp_eq]
      intro e he
      rcases List.mem_append.1 he with he | he
      · exact hm e he
      · simp at he; subst he; exact ⟨_, _, _, rfl⟩
    · rw [lApp_eq]
      exact mget_app hm e3
/-- What lower.Check answers OK to. -/
structure MayP (ns : List Nd) (ts : List Int) (p : Int) : Prop where
  few : ns.length ≤ 4096
  next : p = (ts.length : Int)
  nodes : ∀ x ∈ ns, (1 ≤ x.wide ∧ x.wide ≤ 256) ∧ ∀ k ∈ x.ins, 0 ≤ k ∧ k < (ns.length : Int)
  nets : ∀ k ∈ ts, 0 ≤ k ∧ k < (ns.length : Int)
  each : ∀ (i : Nat) (x : Nd), ns[i]? = some x → ndOK (x.ins.map (wdN ns)) x ∧ (x.kind = 2 → ts.count (i : Int) = 1)
theorem sum_len : ∀ {w : List Int}, (∀ a ∈ w, 1 ≤ a) → (w.length : Int) ≤ w.sum
  | [], _ => by simp
  | a :: w, h => by
    have h1 := h a (by simp)
    have h2 := sum_len (w := w) (fun b hb => h b (by simp [hb]))
    simp only [List.length_cons, List.sum_cons]; omega
theorem oper_len {x : Nd} {w : List Int} (h : operW x w = x.wide) (hx : 1 ≤ x.wide ∧ x.wide ≤ 256) : w.length ≤ 256 := by
  rcases Nat.lt_or_ge 256 w.length with hl | hl
  · exfalso
    have h2 : ∀ a : Int, w ≠ [a] := fun a e => by rw [e] at hl; simp at hl
    have h3 : ∀ a b : Int, w ≠ [a, b] := fun a b e => by rw [e] at hl; simp at hl
    have h4 : ∀ a b c : Int, w ≠ [a, b, c] := fun a b c e => by rw [e] at hl; simp at hl
    have hw : operW x w = -1 := by
      rcases w with _ | ⟨a, _ | ⟨b, _ | ⟨c, _ | ⟨d, w⟩⟩⟩⟩
      · simp at hl
      · simp at hl
      · simp at hl
      · simp at hl
      · unfold operW
        repeat' (first | rfl | (split; rfl) | (rw [if_neg (by omega)]) | split)
    omega
  · exact hl
theorem ndOK.len {ns : List Nd} {x : Nd} (h : ndOK (x.ins.map (wdN ns)) x) (hx : 1 ≤ x.wide ∧ x.wide ≤ 256) : x.ins.length ≤ 256 ∧ (∀ c ∈ x.value, c < 256) ∧ x.value.length ≤ 256 := by
  obtain ⟨⟨-, hz, -⟩, hn⟩ := h
  have e : (x.ins.map (wdN ns)).length = x.ins.length := by simp
  refine ⟨?_, ?_, ?_⟩
  · rw [← e]
    rcases hn with h | h | h | h | h | h | h | h
    · rw [h.2.1]; simp
    · rw [h.2]; simp
    · exact oper_len h.2 hx
    · obtain ⟨-, a, h⟩ := h; rw [h]; simp
    · obtain ⟨-, ⟨a, h⟩, -⟩ := h; rw [h]; simp
    · obtain ⟨-, a, h⟩ := h; rw [h]; simp
    · obtain ⟨-, a, h⟩ := h; rw [h]; simp
    · rw [h.2.1]; simp
  · rcases hz with hk | hv
    · rcases hn with h | h | h | h | h | h | h | h
      · intro c hc; have := h.2.2.1.2.2 c hc; unfold bitC at this; omega
      all_goals (have := h.1; omega)
    · rw [hv]; simp
  · rcases hz with hk | hv
    · rcases hn with h | h | h | h | h | h | h | h
      · exact h.2.2.1.2.1
      all_goals (have := h.1; omega)
    · rw [hv]; simp
theorem MayP.of {ns : List Nd} {ts : List Int} (hg : NetG ns) (hf : ns.length < 4000) (h1 : First2 ns) (hm : NetsM ts ns.length) (h2 : 2 ≤ ns.length) : MayP ns ts (ts.length : Int) := by
  obtain ⟨us, rfl, hu, hr⟩ := hm
  refine ⟨by omega, rfl, fun x hx => ?_, fun k hk => ?_, fun i x hx => ⟨(hg i x hx).ok, fun hk => ?_⟩⟩
  · obtain ⟨i, hi, rfl⟩ := List.mem_iff_getElem.1 hx
    have := hg i ns[i] (by simp [hi])
    exact ⟨this.wide, this.ins⟩
  · rcases List.mem_cons.1 hk with rfl | hk
    · omega
    · rcases List.mem_cons.1 hk with rfl | hk
      · omega
      · have := hr k hk; omega
  · have hi := (hg i x hx).inp hk
    have hz : us.count (i : Int) = 0 := List.count_eq_zero.2 (fun hc => by have := hr _ hc; omega)
    rcases (show i = 0 ∨ i = 1 by omega) with rfl | rfl
    · simp [List.count_cons, hz] 
      simpa using hz
    · simp [List.count_cons]
      simpa using hz
theorem nodeN_all {r ivs : List AV} {o i : Nat} {ns : List Nd} {x : Nd} {iv : AV} (h : (r.drop o).take (ns.length * 8) = flatN ns ivs) (hl : ivs.length = ns.length) (hx : ns[i]? = some x) (hv : ivs[i]? = some iv) : (r.drop (o + i * 8)).take 8 = ncells x iv := by
  have hi : i < ns.length := by
    rcases Nat.lt_or_ge i ns.length with h' | h'
    · exact h'
    · rw [List.getElem?_eq_none h'] at hx; cases hx
  rw [← flatN_drop hx hv hl, ← h, List.drop_take, List.take_take, List.drop_drop, Nat.min_eq_left (by omega)]
theorem RowN.cell {t : TB} {bd : Nat} {v : AV} {l : List Nd} (h : RowN t bd v l) : isCell v = true := by
  rcases h with ⟨rfl, -⟩ | ⟨d, o, c, ex, wr, r, ivs, rfl, -⟩ <;> rfl
theorem WF.decb {f : FuncId} {vs : List AV} {t : TB} {nx : Nat} {P : Prop} {Q : TB → Nat → Prop} (h : WF tb f vs t nx (fun v t' nx' => ∃ b : Bool, v = .bool b ∧ (b = true ↔ P) ∧ Q t' nx')) : WF tb f vs t nx (fun v t' nx' => ∃ b : Bool, v = .bool (decide (b = true)) ∧ (b = true ↔ P) ∧ Q t' nx') := by
  refine WF.mono h ?_
  rintro _ t' nx' ⟨b, rfl, h1, h2⟩
  exact ⟨b, by simp, h1, h2⟩
theorem count_snoc {l : List Int} {i : Nat} {k : Int} (h : l[i]? = some k) (q : Int) : (((l.take (i + 1)).count q : Nat) : Int) = if q = k then (((l.take i).count k : Nat) : Int) + 1 else (((l.take i).count q : Nat) : Int) := by
  rw [take_more h, List.count_append]
  by_cases e : q = k
  · subst e; simp
  · rw [if_neg e]
    have : [k].count q = 0 := List.count_eq_zero.2 (by simp [e])
    omega

theorem chk1_ok {t : TB} {nx bd pb : Nat} {vn vt : AV} {p k : Int} {ns : List Nd} (hN : RowN t bd vn ns) (hp : hv t pb = some (.row [vn, vt, .int .i64 p] true)) :
    WF tb 100 [.int .i64 k, .ptr pb 0] t nx (fun v t' nx' => ∃ b : Bool, v = .bool b ∧ (b = true ↔ 0 ≤ k ∧ k < (ns.length : Int)) ∧ nx ≤ nx' ∧ Keep t t' nx (fun _ => False)) := by
  refine k_fun chk1_tab rfl ?_
  unfold chk1_c
  change WC _ _ (TA.put (some _) (TA.put (some _) TA.e 0) 1) _ _ _
  refine k_seq (k_reg (r_op (o_mov ev_c) rfl (r_nil (k_seq (k_reg (m1 (z1 rfl (get_other rfl get_same)) ?_))))))
  by_cases hs1 : (k < 0)
  · refine r_op (ndec_f (o_geq (ev_t ds) ev_c) hs1) rfl (m1 ds (r_off (want_not ds rfl) (r_off (want_not (z1 rfl ds) rfl) (r_off (want_not (z2 rfl ds) rfl) (r_off (want_not (z1 rfl (z2 rfl ds)) rfl) (r_off (want_not (z4 rfl ds) rfl) (r_op (o_pick_f (ev_t (z1 rfl (z4 rfl ds))) ev_c) rfl (m1 ds (r_nil (k_ret ?_))))))))))
    exact ⟨_, ans_tmp ds, _, rfl, ⟨(fun h => by cases h), fun h => by exfalso; omega⟩, by omega, Keep.refl _ _ _⟩
  refine r_op (ndec_t (o_geq (ev_t ds) ev_c) hs1) rfl (m1 ds (r_op (o_mov (ev_t (z4 rfl (get_other rfl get_same)))) (want_on ds) (r_op (o_faddr (off := 0) (ev_t (z1 rfl (z4 rfl get_same)))) (want_on (z1 rfl ds)) (r_op (o_load (ev_t ds) hp rfl) (want_on (z2 rfl ds)) (r_op (o_len_N hN (ev_t ds)) (want_on (z1 rfl (z2 rfl ds))) ?_)))))
  by_cases hs2 : (k < ((ns.length : Nat) : Int))
  · refine r_op (dec_t (o_lss (ev_t (z1 rfl (z2 rfl ds))) (ev_t ds)) hs2) (want_on (z4 rfl ds)) (r_op (o_pick_t (ev_t (z1 rfl (z4 rfl ds))) (ev_t ds)) rfl (m1 ds (r_nil (k_ret ?_))))
    exact ⟨_, ans_tmp ds, _, rfl, ⟨fun _ => by omega, fun _ => rfl⟩, by omega, Keep.refl _ _ _⟩
  refine r_op (dec_f (o_lss (ev_t (z1 rfl (z2 rfl ds))) (ev_t ds)) hs2) (want_on (z4 rfl ds)) (r_op (o_pick_t (ev_t (z1 rfl (z4 rfl ds))) (ev_t ds)) rfl (m1 ds (r_nil (k_ret ?_))))
  exact ⟨_, ans_tmp ds, _, rfl, ⟨(fun h => by cases h), fun h => by exfalso; omega⟩, by omega, Keep.refl _ _ _⟩
theorem chk2_ok {t : TB} {nx bd pb fb : Nat} {vn vt : AV} {p k : Int} {ns : List Nd} (hN : RowN t bd vn ns) (hp : hv t pb = some (.row [vn, vt, .int .i64 p] true)) (hf : hv t fb = some (.row [.func 100 [] [.ptr pb 0]] true)) :
    WF tb 102 [.int .i64 k, .ptr fb 0] t nx (fun v t' nx' => ∃ b : Bool, v = .bool b ∧ (b = true ↔ ¬ (0 ≤ k ∧ k < (ns.length : Int))) ∧ nx ≤ nx' ∧ Keep t t' nx (fun _ => False)) := by
  refine k_fun chk2_tab rfl ?_
  unfold chk2_c
  change WC _ _ (TA.put (some _) (TA.put (some _) TA.e 0) 1) _ _ _
  refine k_seq (k_reg (r_op (o_mov ev_c) rfl (r_nil (k_seq (k_reg (r_op (o_load (ev_t (z1 rfl get_same)) hf rfl) rfl (m1 (z2 rfl (get_other rfl get_same)) (r_call (w_callV (ev_t (z1 rfl ds)) (evs_cons (ev_t ds) evs_nil)) rfl (WF.mono (chk1_ok hN hp) ?_)))))))))
  rintro _ t1 n2 ⟨b, rfl, hb_b, hn_b, hk_b⟩
  refine r_op (o_not (ev_t ds)) rfl (m1 ds (r_nil (k_ret ?_)))
  exact ⟨_, ans_tmp ds, _, rfl, (by rw [← hb_b]; cases b <;> simp), by omega, Keep.trans (Keep.refl _ _ _) hk_b (by omega) (fun d _ h => h)⟩
theorem index_ok {t : TB} {nx bd pb fb : Nat} {vn vt iv : AV} {p : Int} {ns : List Nd} {l : List Int} (hN : RowN t bd vn ns) (hp : hv t pb = some (.row [vn, vt, .int .i64 p] true)) (hf : hv t fb = some (.row [.func 100 [] [.ptr pb 0]] true)) (hI : RowI t bd iv l) (hb : bd ≤ nx) (hpb : pb < nx) (hfb : fb < nx) (hl : l.length < 9223372036854775808) :
    WF tb 149 [iv, .func 102 [] [.ptr fb 0]] t nx (fun v t' nx' => ∃ r : Int, v = .int .i64 r ∧ (0 ≤ r ↔ ¬ ∀ k ∈ l, 0 ≤ k ∧ k < (ns.length : Int)) ∧ nx ≤ nx' ∧ Keep t t' nx (fun _ => False)) := by
  refine k_fun index_tab rfl ?_
  unfold index_c
  change WC _ _ (TA.put (some _) (TA.put (some _) TA.e 0) 1) _ _ _
  refine k_seq (k_reg (r_op (o_mov ev_c) rfl (r_nil (k_seq (k_seq (k_reg (m1 (z1 rfl (get_other rfl get_same)) (r_op (o_len_I hI (ev_t ds)) rfl (r_op (o_mov ev_c) rfl (r_nil (k_block (k_loop (fun mm Tv tv nv => ∃ i : Nat, i ≤ l.length ∧ (∀ k ∈ l.take i, 0 ≤ k ∧ k < (ns.length : Int)) ∧ Tv.get 0 = some iv ∧ Tv.get 1 = some (.func 102 [] [(.ptr fb 0)]) ∧ Tv.get 7 = some (.int .i64 ((l.length : Nat) : Int)) ∧ Tv.get 8 = some (.int .i64 (i : Int)) ∧ nx ≤ nv ∧ Keep t tv nx (fun _ => False) ∧ mm + i = l.length) (fun mm Tv tv nv hI => ?_) (l.length) ⟨0, by omega, by simp, (z4 rfl (get_other rfl get_same)), (z4 rfl get_same), (z1 rfl ds), ds, by omega, Keep.refl _ _ _, by omega⟩))))))))))))
  obtain ⟨i, hi, hok, q0, q1, q7, q8, hnv, hkp, hmm⟩ := hI
  refine k_seq (k_reg (r_op (o_lss (ev_t q8) (ev_t q7)) rfl (r_nil (k_seq ?_))))
  refine k_cond (ev_t ds) (fun hc1 => ?_) (fun hc1 => ?_)
  · replace hc1 := of_decide_eq_true hc1
    refine k_skip (k_seq (k_block (k_seq (k_reg (m1 (z1 rfl q8) (m1 ds (r_nil (k_seq ?_))))))))
    have hNv := hN.keep (fun d hd hw => hkp d (by omega) hw) (Nat.le_refl bd)
    have hpv := hkp.look hpb id hp
    have hfv := hkp.look hfb id hf
    rcases hI with ⟨-, h0⟩ | ⟨di, oi, ci, exi, wri, ri, hie, hdi, hri, hrli, hsegi⟩
    · have h_ := congrArg List.length h0; simp only [List.length_nil] at h_; omega
    subst hie
    have hri1 := hkp.look (by omega) id hri
    obtain ⟨k, hk⟩ := some_at (l := l) (i := i) (by omega)
    refine k_reg (m1 (z1 rfl (z2 rfl q1)) (m1 (z4 rfl q0) (m1 (z2 rfl ds) (r_op (o_iaddr (i := i) (ev_t (z1 rfl ds)) (ev_t ds) (by omega)) rfl ?_))))
    refine r_op (o_load (ev_t ds) hri1 (by rw [Nat.mul_one]; exact rowI_get (i := i) hsegi hk)) rfl ?_
    refine r_call (w_callV (ev_t (z4 rfl ds)) (evs_cons (ev_t ds) evs_nil)) rfl (WF.mono (chk2_ok hNv hpv hfv) ?_)
    rintro _ t2 n3 ⟨b, rfl, hb_b, hn_b, hk_b⟩
    refine r_nil ?_
    refine k_cond (ev_t ds) (fun hc4 => ?_) (fun hc4 => ?_)
    · refine k_seq (k_reg (m1 (z2 rfl (z4 rfl ds)) (m1 ds (r_nil (k_ret ?_)))))
      exact ⟨_, ans_tmp ds, _, rfl, ⟨fun _ hall => hb_b.1 (by assumption) (hall k (List.mem_of_getElem? hk)), fun _ => by omega⟩, by omega, Keep.trans (hkp) hk_b (by omega) (fun d _ h => h)⟩
    refine k_skip (k_reg (r_op (o_add (ev_t (z1 rfl (z8 rfl q8))) ev_c (by omega) (by omega)) rfl (m1 ds (r_nil (⟨mm - 1, by omega, i + 1, by omega, fun j hj => ?_, (z1 rfl (z2 rfl (z8 rfl q0))), (z1 rfl (z2 rfl (z8 rfl q1))), (z1 rfl (z2 rfl (z8 rfl q7))), ds, by omega, Keep.trans (hkp) hk_b (by omega) (fun d _ h => h), by omega⟩)))))
    rw [take_more hk] at hj
    rcases List.mem_append.1 hj with hj | hj
    · exact hok j hj
    simp only [List.mem_singleton] at hj; subst hj; exact Classical.not_not.1 (fun hc => absurd (hb_b.2 hc) (by rw [show b = false by assumption]; simp))
  replace hc1 := of_decide_eq_false hc1
  refine k_exit (exK_same (k_seq (k_reg (r_op (o_mov ev_c) rfl (r_nil (k_ret ?_))))))
  have hti : l.take i = l := List.take_of_length_le (by omega)
  rw [hti] at hok
  exact ⟨_, ans_tmp ds, _, rfl, ⟨fun h => by exfalso; omega, fun h => absurd hok h⟩, by omega, hkp⟩
theorem contains_ok {t : TB} {nx bd pb fb : Nat} {vn vt iv : AV} {p : Int} {ns : List Nd} {l : List Int} (hN : RowN t bd vn ns) (hp : hv t pb = some (.row [vn, vt, .int .i64 p] true)) (hf : hv t fb = some (.row [.func 100 [] [.ptr pb 0]] true)) (hI : RowI t bd iv l) (hb : bd ≤ nx) (hpb : pb < nx) (hfb : fb < nx) (hl : l.length < 9223372036854775808) :
    WF tb 101 [iv, .func 102 [] [.ptr fb 0]] t nx (fun v t' nx' => ∃ b : Bool, v = .bool b ∧ (b = true ↔ ¬ ∀ k ∈ l, 0 ≤ k ∧ k < (ns.length : Int)) ∧ nx ≤ nx' ∧ Keep t t' nx (fun _ => False)) := by
  refine k_fun contains_tab rfl ?_
  unfold contains_c
  change WC _ _ (TA.put (some _) (TA.put (some _) TA.e 0) 1) _ _ _
  refine k_seq (k_reg (r_op (o_mov ev_c) rfl (r_nil (k_seq (k_reg (m1 (z1 rfl (get_other rfl get_same)) (m1 (z2 rfl get_same) (r_call (w_callF (evs_cons (ev_t (z1 rfl ds)) (evs_cons (ev_t ds) evs_nil))) rfl (WF.mono (index_ok hN hp hf hI hb hpb hfb hl) ?_)))))))))
  rintro _ t1 n2 ⟨r, rfl, hr_, hn_r, hk_r⟩
  by_cases hs3 : (r < 0)
  · refine r_op (ndec_f (o_geq (ev_t ds) ev_c) hs3) rfl (m1 ds (r_nil (k_ret ?_)))
    exact ⟨_, ans_tmp ds, _, rfl, ⟨(fun h => by cases h), fun h => by have := hr_.2 h; exfalso; omega⟩, by omega, Keep.trans (Keep.refl _ _ _) hk_r (by omega) (fun d _ h => h)⟩
  refine r_op (ndec_t (o_geq (ev_t ds) ev_c) hs3) rfl (m1 ds (r_nil (k_ret ?_)))
  exact ⟨_, ans_tmp ds, _, rfl, ⟨fun _ => hr_.1 (by omega), fun _ => rfl⟩, by omega, Keep.trans (Keep.refl _ _ _) hk_r (by omega) (fun d _ h => h)⟩
set_option maxHeartbeats 8000000 in
theorem check_ok {t : TB} {nx bd : Nat} {vn vt : AV} {p : Int} {ns : List Nd} {ts : List Int} (hN : RowN t bd vn ns) (hT : RowI t bd vt ts) (hb : bd ≤ nx) (hnl : ns.length < 9223372036854775808) (htl : ts.length < 9223372036854775808)
    (hv256 : ∀ x ∈ ns, x.ins.length < 60000 ∧ (∀ c ∈ x.value, c < 256) ∧ x.value.length ≤ 9223372036854775807) :
    WF tb 48 [.agg [vn, vt, .int .i64 p]] t nx (fun v t' nx' => ∃ r : Int, v = .int .i64 r ∧ (r = 0 ∨ r = 1) ∧ (r = 0 ↔ MayP ns ts p) ∧ nx ≤ nx' ∧ Keep t t' nx (fun _ => False)) := by
  have hcn := hN.cell
  have hct := hT.cell
  refine k_fun chk_tab rfl ?_
  unfold chk_c
  change WC _ _ (TA.put (some _) TA.e 0) _ _ _
  refine k_seq (k_reg (r_heap (o_box (ev_t get_same)) rfl (fun t1 (hh2 : hv t1 = upd (hv t) nx (some (.row [vn, vt, (.int .i64 p)] true))) => r_op (o_mov ev_c) rfl (r_nil (k_seq (k_seq (k_reg (r_op (o_faddr (off := 0) (ev_t (z1 rfl ds))) rfl (r_op (o_load (ev_t ds) (look_same hh2) rfl) rfl (r_op (o_len_N hN (ev_t ds)) rfl ?_))))))))))
  by_cases hs3 : (4096 < ((ns.length : Nat) : Int))
  · refine r_op (dec_t (o_gtr (ev_t ds) ev_c) hs3) rfl (m1 ds (r_off (want_not ds rfl) (r_off (want_not (z1 rfl ds) rfl) (r_off (want_not (z2 rfl ds) rfl) (r_off (want_not (z1 rfl (z2 rfl ds)) rfl) (r_off (want_not (z4 rfl ds) rfl) (r_off (want_not (z1 rfl (z4 rfl ds)) rfl) (r_op (o_pick_t (ev_t (z2 rfl (z4 rfl ds))) ev_c) rfl (r_nil (k_cond_t (ev_t ds) (k_seq (k_reg (r_op (o_mov ev_c) rfl (r_nil (k_ret ?_)))))))))))))))
    have hfin : ((1 : Int) = 0 ↔ MayP ns ts p) := by
      refine ⟨fun h => by omega, fun h => ?_⟩
      have h1 := h.few; have h2 := h.next; omega
    exact ⟨_, ans_tmp ds, _, rfl, by omega, hfin, by omega, Keep.upd (Keep.refl _ _ _) hh2 (.inl (by omega))⟩
  refine r_op (dec_f (o_gtr (ev_t ds) ev_c) hs3) rfl (m1 ds (r_op (o_faddr (off := 2) (ev_t (z2 rfl (z4 rfl ds)))) (want_on ds) (r_op (o_load (ev_t ds) (look_same hh2) rfl) (want_on (z1 rfl ds)) (r_op (o_faddr (off := 1) (ev_t (z8 rfl ds))) (want_on (z2 rfl ds)) (r_op (o_load (ev_t ds) (look_same hh2) rfl) (want_on (z1 rfl (z2 rfl ds))) (r_op (o_len_I hT (ev_t ds)) (want_on (z4 rfl ds)) ?_))))))
  by_cases hs4 : (p = ((ts.length : Nat) : Int))
  · refine r_op (ndec_f (o_neq (ev_t (z1 rfl (z2 rfl ds))) (ev_t ds)) hs4) (want_on (z1 rfl (z4 rfl ds))) (r_op (o_pick_f (ev_t (z2 rfl (z4 rfl ds))) (ev_t ds)) rfl (r_nil (k_cond_f (ev_t ds) (k_skip (k_seq (k_reg (r_op (o_mkfn evs_nil (evs_cons (ev_t (z1 rfl (z4 rfl (z8 rfl ds)))) evs_nil)) rfl (r_heap (o_alloc) rfl (fun t5 (hh6 : hv t5 = upd (hv t1) (nx + 1) (some (.row [.nfunc] true))) => r_heap (o_store (n := 1) (ev_t ds) (ev_t (z1 rfl ds)) (look_same hh6) rfl rfl (leb rfl)) rfl (fun t7 (hh8 : hv t7 = upd (hv t5) (nx + 1) (some (.row [(.func 100 [] [(.ptr nx 0)])] true))) => r_nil (k_seq (k_seq (k_reg (r_op (o_faddr (off := 0) (ev_t (z8 rfl (z8 rfl ds)))) rfl (r_op (o_load (ev_t ds) (look_ne hh8 (by omega) (look_ne hh6 (by omega) (look_same hh2))) rfl) rfl (r_op (o_len_N hN (ev_t ds)) rfl (r_op (o_mov ev_c) rfl (r_nil (k_block (k_loop (fun mm Tv tv nv => ∃ i : Nat, i ≤ ns.length ∧ (∀ x ∈ ns.take i, (1 ≤ x.wide ∧ x.wide ≤ 256) ∧ ∀ k ∈ x.ins, 0 ≤ k ∧ k < (ns.length : Int)) ∧ Tv.get 25 = some vn ∧ Tv.get 26 = some (.int .i64 ((ns.length : Nat) : Int)) ∧ Tv.get 27 = some (.int .i64 (i : Int)) ∧ nx + 2 ≤ nv ∧ (Tv.get 1 = some (.ptr nx 0) ∧ Tv.get 3 = some (.ptr (nx + 1) 0) ∧ hv tv nx = some (.row [vn, vt, .int .i64 p] true) ∧ hv tv (nx + 1) = some (.row [(.func 100 [] [(.ptr nx 0)])] true) ∧ Keep t tv nx (fun _ => False)) ∧ mm + i = ns.length) (fun mm Tv tv nv hI => ?_) (ns.length) ⟨0, by omega, by simp, (z2 rfl ds), (z1 rfl ds), ds, by omega, ⟨(z4 rfl (z8 rfl (z8 rfl ds))), (z1 rfl (z4 rfl ds)), (look_ne hh8 (by omega) (look_ne hh6 (by omega) (look_same hh2))), (look_same hh8), Keep.upd (Keep.upd (Keep.upd (Keep.refl _ _ _) hh2 (.inl (by omega))) hh6 (.inl (by omega))) hh8 (.inl (by omega))⟩, by omega⟩))))))))))))))))))))
    obtain ⟨i, hi, hok, q25, q26, q27, hnv, ⟨q1, q3, hr1, hr2, hkp⟩, hmm⟩ := hI
    refine k_seq (k_reg (r_op (o_lss (ev_t q27) (ev_t q26)) rfl (r_nil (k_seq ?_))))
    refine k_cond (ev_t ds) (fun hc9 => ?_) (fun hc9 => ?_)
    · replace hc9 := of_decide_eq_true hc9
      refine k_skip (k_seq (k_block (k_seq ?_)))
      rcases hN with ⟨-, h0⟩ | ⟨dN, on, cn, exn, wrn, rn, ivs, hne, hdn, hrn, hrln, hsegn, hivl, hivr⟩
      · have h_ := congrArg List.length h0; simp only [List.length_nil] at h_; omega
      have hN : RowN t bd vn ns := .inr ⟨dN, on, cn, exn, wrn, rn, ivs, hne, hdn, hrn, hrln, hsegn, hivl, hivr⟩
      obtain ⟨x, hx⟩ := some_at (l := ns) (i := i) (by omega)
      obtain ⟨iv, hiv⟩ := some_at (l := ivs) (i := i) (by omega)
      have hI := hivr i x iv hx hiv
      have hic := hI.cell
      have hxm := List.mem_of_getElem? hx
      have hxv := hv256 x hxm
      have hrn1 := hkp.look (by omega) id hrn
      refine k_reg (r_op (o_iaddr (i := i) (hne ▸ (ev_t (z1 rfl q25))) (ev_t (z1 rfl q27)) (by omega)) rfl (r_op (o_loadA (n := 8) (ev_t ds) hrn1 (by omega) (nodeN_all hsegn hivl hx hiv)) rfl (r_heap (o_alloc) rfl (fun t10 (hh11 : hv t10 = upd (hv tv) nv (some (.row [(.int .i64 0), (.int .i64 0), (.int .i64 0), .nslice, (.str []), (.int .i64 0), (.int .i64 0), (.int .i64 0)] true))) => r_heap (o_store (n := 8) (ev_t ds) (ev_t (z1 rfl ds)) (look_same hh11) rfl (ncells_cell x hic) (leb rfl)) rfl (fun t12 (hh13 : hv t12 = upd (hv t10) nv (some (.row [(.int .i64 x.kind), (.int .i64 x.op), (.int .i64 x.wide), iv, (.str x.value), (.int .i64 x.hi), (.int .i64 x.lo), (.int .i64 x.time)] true))) => r_nil (k_seq (k_reg (r_op (o_faddr (off := 2) (ev_t (z1 rfl ds))) rfl (r_op (o_load (ev_t ds) (look_same hh13) rfl) rfl ?_)))))))))
      by_cases hs14 : (x.wide < 1)
      · refine r_op (dec_t (o_lss (ev_t ds) ev_c) hs14) rfl (m1 ds (r_off (want_not ds rfl) (r_off (want_not (z1 rfl ds) rfl) (r_off (want_not (z2 rfl ds) rfl) (r_op (o_pick_t (ev_t (z1 rfl (z2 rfl ds))) ev_c) rfl (m1 ds (r_off (want_not ds rfl) (r_off (want_not (z1 rfl ds) rfl) (r_off (want_not (z2 rfl ds) rfl) (r_off (want_not (z1 rfl (z2 rfl ds)) rfl) (r_op (o_pick_t (ev_t (z4 rfl ds)) ev_c) rfl (r_nil (k_cond_t (ev_t ds) (k_seq (k_reg (r_op (o_mov ev_c) rfl (r_nil (k_ret ?_))))))))))))))))))
        have hfin : ((1 : Int) = 0 ↔ MayP ns ts p) := by
          refine ⟨fun h => by omega, fun h => ?_⟩
          have h1 := h.nodes x hxm; first | omega | (exact absurd h1.2 (hb_b.1 (by assumption)))
        exact ⟨_, ans_tmp ds, _, rfl, by omega, hfin, by omega, Keep.upd (Keep.upd (hkp) hh11 (.inl (by omega))) hh13 (.inl (by omega))⟩
      refine r_op (dec_f (o_lss (ev_t ds) ev_c) hs14) rfl (m1 ds (r_op (o_faddr (off := 2) (ev_t (z1 rfl (z4 rfl ds)))) (want_on ds) (r_op (o_load (ev_t ds) (look_same hh13) rfl) (want_on (z1 rfl ds)) ?_)))
      by_cases hs15 : (256 < x.wide)
      · refine r_op (dec_t (o_gtr (ev_t ds) ev_c) hs15) (want_on (z2 rfl ds)) (r_op (o_pick_f (ev_t (z1 rfl (z2 rfl ds))) (ev_t ds)) rfl (m1 ds (r_off (want_not ds rfl) (r_off (want_not (z1 rfl ds) rfl) (r_off (want_not (z2 rfl ds) rfl) (r_off (want_not (z1 rfl (z2 rfl ds)) rfl) (r_op (o_pick_t (ev_t (z4 rfl ds)) ev_c) rfl (r_nil (k_cond_t (ev_t ds) (k_seq (k_reg (r_op (o_mov ev_c) rfl (r_nil (k_ret ?_))))))))))))))
        have hfin : ((1 : Int) = 0 ↔ MayP ns ts p) := by
          refine ⟨fun h => by omega, fun h => ?_⟩
          have h1 := h.nodes x hxm; first | omega | (exact absurd h1.2 (hb_b.1 (by assumption)))
        exact ⟨_, ans_tmp ds, _, rfl, by omega, hfin, by omega, Keep.upd (Keep.upd (hkp) hh11 (.inl (by omega))) hh13 (.inl (by omega))⟩
      refine r_op (dec_f (o_gtr (ev_t ds) ev_c) hs15) (want_on (z2 rfl ds)) (r_op (o_pick_f (ev_t (z1 rfl (z2 rfl ds))) (ev_t ds)) rfl (m1 ds (r_op (o_faddr (off := 3) (ev_t (z2 rfl (z8 rfl ds)))) (want_on ds) (r_op (o_load (ev_t ds) (look_same hh13) rfl) (want_on (z1 rfl ds)) (r_op (o_mkfn evs_nil (evs_cons (ev_t (z8 rfl (z8 rfl q3))) evs_nil)) (want_on (z2 rfl ds)) (r_call (w_callF (evs_cons (ev_t (z1 rfl ds)) (evs_cons (ev_t ds) evs_nil))) (want_on (z1 rfl (z2 rfl ds))) (WF.mono (contains_ok (hN.keep (fun d hd hw => (Keep.upd (Keep.upd (hkp) hh11 (.inl (by omega))) hh13 (.inl (by omega))) d (by omega) hw) (Nat.le_refl bd)) (look_ne hh13 (by omega) (look_ne hh11 (by omega) hr1)) (look_ne hh13 (by omega) (look_ne hh11 (by omega) hr2)) (hI.keep (fun d hd hw => (Keep.upd (Keep.upd (hkp) hh11 (.inl (by omega))) hh13 (.inl (by omega))) d (by omega) hw) (Nat.le_refl bd)) (by omega) (by omega) (by omega) (by omega)) ?_)))))))
      rintro _ t16 n17 ⟨b, rfl, hb_b, hn_b, hk_b⟩
      refine r_op (o_pick_f (ev_t (z4 rfl ds)) (ev_t ds)) rfl (r_nil ?_)
      refine k_cond (ev_t ds) (fun hc18 => ?_) (fun hc18 => ?_)
      · refine k_seq (k_reg (r_op (o_mov ev_c) rfl (r_nil (k_ret ?_))))
        have hfin : ((1 : Int) = 0 ↔ MayP ns ts p) := by
          refine ⟨fun h => by omega, fun h => ?_⟩
          have h1 := h.nodes x hxm; first | omega | (exact absurd h1.2 (hb_b.1 (by assumption)))
        exact ⟨_, ans_tmp ds, _, rfl, by omega, hfin, by omega, Keep.trans (Keep.upd (Keep.upd (hkp) hh11 (.inl (by omega))) hh13 (.inl (by omega))) hk_b (by omega) (fun d _ h => h)⟩
      refine k_skip (k_reg (r_op (o_add (ev_t (z1 rfl (z2 rfl (z8 rfl (z8 rfl q27))))) ev_c (by omega) (by omega)) rfl (m1 ds (r_nil (⟨mm - 1, by omega, i + 1, by omega, fun y hy_ => ?_, (z1 rfl (z4 rfl (z8 rfl (z8 rfl q25)))), (z1 rfl (z4 rfl (z8 rfl (z8 rfl q26)))), ds, by omega, ⟨(z1 rfl (z4 rfl (z8 rfl (z8 rfl q1)))), (z1 rfl (z4 rfl (z8 rfl (z8 rfl q3)))), (Keep.look hk_b (by omega) id (look_ne hh13 (by omega) (look_ne hh11 (by omega) hr1))), (Keep.look hk_b (by omega) id (look_ne hh13 (by omega) (look_ne hh11 (by omega) hr2))), Keep.trans (Keep.upd (Keep.upd (hkp) hh11 (.inl (by omega))) hh13 (.inl (by omega))) hk_b (by omega) (fun d _ h => h)⟩, by omega⟩)))))
      rw [List.take_succ, hx] at hy_
      rcases List.mem_append.1 hy_ with hy_ | hy_
      · exact hok y hy_
      simp only [Option.toList_some, List.mem_singleton] at hy_; subst hy_; exact ⟨by omega, Classical.not_not.1 (fun hc => absurd (hb_b.2 hc) (by rw [show b = false by assumption]; simp))⟩
    replace hc9 := of_decide_eq_false hc9
    refine k_exit (exK_same (k_seq ?_))
    have hnodes := hok
    rw [List.take_of_length_le (by omega)] at hnodes
    clear hok
    refine k_reg (r_heap (o_mkmap) rfl (fun t19 (hh20 : hv t19 = upd (hv tv) nv (some (.map [] 0))) => m1 ds (r_nil (k_seq (k_seq (k_reg (r_op (o_faddr (off := 1) (ev_t (z1 rfl (z2 rfl q1)))) rfl (r_op (o_load (ev_t ds) (look_ne hh20 (by omega) hr1) rfl) rfl (r_op (o_len_I hT (ev_t ds)) rfl (r_op (o_mov ev_c) rfl (r_nil (k_block (k_loop (fun mm Tu tu nu => ∃ (i : Nat) (es : List (AV × AV × Nat)) (clk : Nat), i ≤ ts.length ∧ (∀ k ∈ ts.take i, 0 ≤ k ∧ k < (ns.length : Int)) ∧ hv tu nv = some (.map es clk) ∧ mInt es ∧ (∀ q, mget es q = (((ts.take i).count q : Nat) : Int)) ∧ Tu.get 6 = some (.map nv) ∧ Tu.get 48 = some vt ∧ Tu.get 49 = some (.int .i64 ((ts.length : Nat) : Int)) ∧ Tu.get 50 = some (.int .i64 (i : Int)) ∧ nv + 1 ≤ nu ∧ (Tu.get 1 = some (.ptr nx 0) ∧ Tu.get 3 = some (.ptr (nx + 1) 0) ∧ hv tu nx = some (.row [vn, vt, .int .i64 p] true) ∧ hv tu (nx + 1) = some (.row [(.func 100 [] [(.ptr nx 0)])] true) ∧ Keep t tu nx (fun _ => False)) ∧ mm + i = ts.length) (fun mm Tu tu nu hI => ?_) (ts.length) ⟨0, [], 0, by omega, by simp, (look_same hh20), (fun e he => by cases he), (fun q => by simp [mget]), (z4 rfl ds), (z2 rfl ds), (z1 rfl ds), ds, by omega, ⟨(z1 rfl (z2 rfl (z4 rfl q1))), (z1 rfl (z2 rfl (z4 rfl q3))), (look_ne hh20 (by omega) hr1), (look_ne hh20 (by omega) hr2), Keep.upd (hkp) hh20 (.inl (by omega))⟩, by omega⟩)))))))))))))
    obtain ⟨i, es, clk, hi, hok, hmr, hmi, hmg, q6, q48, q49, q50, hnu, ⟨q1, q3, hr1, hr2, hkp⟩, hmm⟩ := hI
    refine k_seq (k_reg (r_op (o_lss (ev_t q50) (ev_t q49)) rfl (r_nil (k_seq ?_))))
    refine k_cond (ev_t ds) (fun hc21 => ?_) (fun hc21 => ?_)
    · replace hc21 := of_decide_eq_true hc21
      refine k_skip (k_seq (k_block (k_seq ?_)))
      rcases hT with ⟨-, h0⟩ | ⟨di, oi, ci, exi, wri, ri, hie, hdi, hri, hrli, hsegi⟩
      · have h_ := congrArg List.length h0; simp only [List.length_nil] at h_; omega
      obtain ⟨k, hk⟩ := some_at (l := ts) (i := i) (by omega)
      have hkm := List.mem_of_getElem? hk
      have hri1 := hkp.look (by omega) id hri
      have hNv := hN.keep (fun d hd hw => hkp d (by omega) hw) (Nat.le_refl bd)
      have hcl := List.count_le_length (a := k) (l := ts.take i)
      rw [List.length_take] at hcl
      have hmk := hmg k
      refine k_reg (r_op (o_iaddr (i := i) (hie ▸ (ev_t (z1 rfl q48))) (ev_t (z1 rfl q50)) (by omega)) rfl ?_)
      refine r_op (o_load (ev_t ds) hri1 (by rw [Nat.mul_one]; exact rowI_get (i := i) hsegi hk)) rfl ?_
      refine m1 ds (r_nil (k_seq (k_seq (k_reg (r_op (o_load (ev_t (z4 rfl q3)) hr2 rfl) rfl (m1 (z1 rfl ds) (r_call (w_callV (ev_t (z1 rfl ds)) (evs_cons (ev_t ds) evs_nil)) rfl (WF.mono (chk1_ok hNv hr1) ?_))))))))
      rintro _ t22 n23 ⟨b, rfl, hb_b, hn_b, hk_b⟩
      refine r_op (o_not (ev_t ds)) rfl (r_nil ?_)
      refine k_cond (ev_t ds) (fun hc24 => ?_) (fun hc24 => ?_)
      · refine k_seq (k_reg (r_op (o_mov ev_c) rfl (r_nil (k_ret ?_))))
        have hfin : ((1 : Int) = 0 ↔ MayP ns ts p) := by
          refine ⟨fun h => by omega, fun h => ?_⟩
          have h1 := hb_b.2 (h.nets k hkm); simp_all
        exact ⟨_, ans_tmp ds, _, rfl, by omega, hfin, by omega, Keep.trans (hkp) hk_b (by omega) (fun d _ h => h)⟩
      refine k_skip (k_reg (m1 (z8 rfl q6) (m1 (z1 rfl (z4 rfl ds)) (r_op (o_look (ev_t (z1 rfl ds)) (ev_t ds) (Keep.look hk_b (by omega) id hmr) hmi) rfl (r_op (o_add (ev_t ds) ev_c (by omega) (by omega)) rfl (r_heap (o_mupd (ev_t (z1 rfl (z2 rfl ds))) (ev_t (z2 rfl ds)) (ev_t ds) (Keep.look hk_b (by omega) id hmr) hmi) rfl (fun tm ⟨es2, clk2, hq, hmi2, hmg2⟩ => r_nil (k_reg (r_op (o_add (ev_t (z1 rfl (z4 rfl (z8 rfl q50)))) ev_c (by omega) (by omega)) rfl (m1 ds (r_nil ?_)))))))))))
      refine ⟨mm - 1, by omega, i + 1, es2, clk2, by omega, fun j hj => ?_, (look_same hq), hmi2, (fun q => ?_), (z1 rfl (z2 rfl (z4 rfl (z8 rfl q6)))), (z1 rfl (z2 rfl (z4 rfl (z8 rfl q48)))), (z1 rfl (z2 rfl (z4 rfl (z8 rfl q49)))), ds, by omega, ⟨(z1 rfl (z2 rfl (z4 rfl (z8 rfl q1)))), (z1 rfl (z2 rfl (z4 rfl (z8 rfl q3)))), (look_ne hq (by omega) (Keep.look hk_b (by omega) id hr1)), (look_ne hq (by omega) (Keep.look hk_b (by omega) id hr2)), Keep.upd (Keep.trans (hkp) hk_b (by omega) (fun d _ h => h)) hq (.inl (by omega))⟩, by omega⟩
      · rw [take_more hk] at hj
        rcases List.mem_append.1 hj with hj | hj
        · exact hok j hj
        simp only [List.mem_singleton] at hj; subst hj; exact hb_b.1 (by simpa using (by assumption : (!b) = false))
      rw [hmg2, hmg, hmg, count_snoc hk]
    replace hc21 := of_decide_eq_false hc21
    refine k_exit (exK_same (k_seq (k_seq (k_reg (r_op (o_faddr (off := 0) (ev_t (z1 rfl q1))) rfl (r_op (o_load (ev_t ds) hr1 rfl) rfl (r_op (o_len_N hN (ev_t ds)) rfl (r_op (o_mov ev_c) rfl (r_nil (k_block ?_))))))))))
    rw [List.take_of_length_le (by omega)] at hok
    rw [List.take_of_length_le (by omega)] at hmg
    refine k_loop (fun mm Tz tz nz => ∃ i : Nat, i ≤ ns.length ∧ (∀ (j : Nat) (y : Nd), j < i → ns[j]? = some y → ndOK (y.ins.map (wdN ns)) y ∧ (y.kind = 2 → ts.count (j : Int) = 1)) ∧ hv tz nv = some (.map es clk) ∧ Tz.get 6 = some (.map nv) ∧ Tz.get 64 = some vn ∧ Tz.get 65 = some (.int .i64 ((ns.length : Nat) : Int)) ∧ Tz.get 66 = some (.int .i64 (i : Int)) ∧ nv + 1 ≤ nz ∧ (Tz.get 1 = some (.ptr nx 0) ∧ Tz.get 3 = some (.ptr (nx + 1) 0) ∧ hv tz nx = some (.row [vn, vt, .int .i64 p] true) ∧ hv tz (nx + 1) = some (.row [(.func 100 [] [(.ptr nx 0)])] true) ∧ Keep t tz nx (fun _ => False)) ∧ mm + i = ns.length) (fun mm Tz tz nz hI => ?_) (ns.length) ⟨0, by omega, (fun j y hj => by omega), hmr, (z1 rfl (z4 rfl q6)), (z2 rfl ds), (z1 rfl ds), ds, by omega, ⟨(z1 rfl (z4 rfl q1)), (z1 rfl (z4 rfl q3)), hr1, hr2, hkp⟩, by omega⟩
    obtain ⟨i, hi, hok3, hmr, q6, q64, q65, q66, hnz, ⟨q1, q3, hr1, hr2, hkp⟩, hmm⟩ := hI
    refine k_seq (k_reg (r_op (o_lss (ev_t q66) (ev_t q65)) rfl (r_nil (k_seq ?_))))
    refine k_cond (ev_t ds) (fun hc25 => ?_) (fun hc25 => ?_)
    · replace hc25 := of_decide_eq_true hc25
      refine k_skip (k_seq (k_block (k_seq ?_)))
      have hmgi := hmg (i : Int)
      rcases hN with ⟨-, h0⟩ | ⟨dN, on, cn, exn, wrn, rn, ivs, hne, hdn, hrn, hrln, hsegn, hivl, hivr⟩
      · have h_ := congrArg List.length h0; simp only [List.length_nil] at h_; omega
      have hN : RowN t bd vn ns := .inr ⟨dN, on, cn, exn, wrn, rn, ivs, hne, hdn, hrn, hrln, hsegn, hivl, hivr⟩
      obtain ⟨x, hx⟩ := some_at (l := ns) (i := i) (by omega)
      obtain ⟨iv, hiv⟩ := some_at (l := ivs) (i := i) (by omega)
      have hI := hivr i x iv hx hiv
      have hic := hI.cell
      have hxm := List.mem_of_getElem? hx
      have hxv := hv256 x hxm
      have hrn1 := hkp.look (by omega) id hrn
      refine k_reg (m1 (z1 rfl q66) (r_op (o_iaddr (i := i) (hne ▸ (ev_t (z2 rfl q64))) (ev_t (z2 rfl q66)) (by omega)) rfl (r_op (o_loadA (n := 8) (ev_t ds) hrn1 (by omega) (nodeN_all hsegn hivl hx hiv)) rfl (r_heap (o_alloc) rfl (fun t26 (hh27 : hv t26 = upd (hv tz) nz (some (.row [(.int .i64 0), (.int .i64 0), (.int .i64 0), .nslice, (.str []), (.int .i64 0), (.int .i64 0), (.int .i64 0)] true))) => m1 (z1 rfl (z2 rfl ds)) (r_heap (o_store (n := 8) (ev_t (z1 rfl ds)) (ev_t (z2 rfl ds)) (look_same hh27) rfl (ncells_cell x hic) (leb rfl)) rfl (fun t28 (hh29 : hv t28 = upd (hv t26) nz (some (.row [(.int .i64 x.kind), (.int .i64 x.op), (.int .i64 x.wide), iv, (.str x.value), (.int .i64 x.hi), (.int .i64 x.lo), (.int .i64 x.time)] true))) => r_nil (k_seq (k_reg (r_op (o_loadA (n := 3) (ev_t (z1 rfl (z2 rfl (z4 rfl q1)))) (look_ne hh29 (by omega) (look_ne hh27 (by omega) hr1)) (leb rfl) rfl) rfl (r_op (o_loadA (n := 8) (ev_t (z1 rfl (z2 rfl ds))) (look_same hh29) (leb rfl) rfl) rfl (r_call (w_callF (evs_cons (ev_t (z1 rfl ds)) (evs_cons (ev_t ds) evs_nil))) rfl (WF.mono (WF.decb (may_ok x vn vt iv p ns (hN.keep (fun d hd hw => (Keep.upd (Keep.upd (hkp) hh27 (.inl (by omega))) hh29 (.inl (by omega))) d (by omega) hw) (Nat.le_refl bd)) (hI.keep (fun d hd hw => (Keep.upd (Keep.upd (hkp) hh27 (.inl (by omega))) hh29 (.inl (by omega))) d (by omega) hw) (Nat.le_refl bd)) (by omega) ⟨hcn, hct⟩ (hnodes x hxm).2 (fun y hy => (hnodes y hy).1) (hnodes x hxm).1 hxv.1 hxv.2.1 hxv.2.2)) ?_)))))))))))))
      rintro _ t30 n31 ⟨b, rfl, hb_b, hn_b, hk_b⟩
      by_cases hs32 : (b = true)
      · refine r_op (ndec_f (o_not (ev_t ds)) hs32) rfl (m1 ds (r_op (o_faddr (off := 0) (ev_t (z1 rfl (z2 rfl (z4 rfl ds))))) (want_on ds) (r_op (o_load (ev_t ds) (Keep.look hk_b (by omega) id (look_same hh29)) rfl) (want_on (z1 rfl ds)) ?_)))
        by_cases hs33 : (x.kind = 2)
        · refine r_op (dec_t (o_eql (ev_t ds) ev_c) hs33) (want_on (z2 rfl ds)) (r_op (o_mov (ev_t ds)) (want_on (z1 rfl (z2 rfl ds))) (r_op (o_mov (ev_t (z8 rfl (z8 rfl q6)))) (want_on ds) (r_op (o_mov (ev_t (z1 rfl (z2 rfl (z8 rfl ds))))) (want_on (z1 rfl ds)) (r_op (o_look (ev_t (z1 rfl ds)) (ev_t ds) (Keep.look hk_b (by omega) id (look_ne hh29 (by omega) (look_ne hh27 (by omega) hmr))) hmi) (want_on (z2 rfl ds)) ?_))))
          by_cases hs34 : ((mget es ((i : Nat) : Int)) = 1)
          · refine r_op (ndec_f (o_neq (ev_t ds) ev_c) hs34) (want_on (z1 rfl (z2 rfl ds))) (r_op (o_pick_t (ev_t (z4 rfl ds)) (ev_t ds)) (want_on (z8 rfl ds)) (r_op (o_pick_f (ev_t (z1 rfl (z8 rfl ds))) (ev_t ds)) rfl (r_nil (k_cond_f (ev_t ds) (k_skip (k_reg (r_op (o_add (ev_t (z2 rfl (z4 rfl (z8 rfl (z8 rfl q66))))) ev_c (by omega) (by omega)) rfl (m1 ds (r_nil (⟨mm - 1, by omega, i + 1, by omega, fun j y hj hy_ => ?_, (Keep.look hk_b (by omega) id (look_ne hh29 (by omega) (look_ne hh27 (by omega) hmr))), (z8 rfl (z8 rfl (z8 rfl q6))), (z8 rfl (z8 rfl (z8 rfl q64))), (z8 rfl (z8 rfl (z8 rfl q65))), ds, by omega, ⟨(z8 rfl (z8 rfl (z8 rfl q1))), (z8 rfl (z8 rfl (z8 rfl q3))), (Keep.look hk_b (by omega) id (look_ne hh29 (by omega) (look_ne hh27 (by omega) hr1))), (Keep.look hk_b (by omega) id (look_ne hh29 (by omega) (look_ne hh27 (by omega) hr2))), Keep.trans (Keep.upd (Keep.upd (hkp) hh27 (.inl (by omega))) hh29 (.inl (by omega))) hk_b (by omega) (fun d _ h => h)⟩, by omega⟩))))))))))
            rcases (show j < i ∨ j = i by omega) with hj | rfl
            · exact hok3 j y hj hy_
            rw [hx] at hy_; cases hy_; exact ⟨hb_b.1 (by assumption), fun hk2 => by omega⟩
          refine r_op (ndec_t (o_neq (ev_t ds) ev_c) hs34) (want_on (z1 rfl (z2 rfl ds))) (r_op (o_pick_t (ev_t (z4 rfl ds)) (ev_t ds)) (want_on (z8 rfl ds)) (r_op (o_pick_f (ev_t (z1 rfl (z8 rfl ds))) (ev_t ds)) rfl (r_nil (k_cond_t (ev_t ds) (k_seq (k_reg (r_op (o_mov ev_c) rfl (r_nil (k_ret ?_)))))))))
          have hfin : ((1 : Int) = 0 ↔ MayP ns ts p) := by
            refine ⟨fun h => by omega, fun h => ?_⟩
            have h1 := h.each i x hx; first | exact absurd (hb_b.2 h1.1) (by assumption) | (have h2 := h1.2 (by omega); omega)
          exact ⟨_, ans_tmp ds, _, rfl, by omega, hfin, by omega, Keep.trans (Keep.upd (Keep.upd (hkp) hh27 (.inl (by omega))) hh29 (.inl (by omega))) hk_b (by omega) (fun d _ h => h)⟩
        refine r_op (dec_f (o_eql (ev_t ds) ev_c) hs33) (want_on (z2 rfl ds)) (r_op (o_mov (ev_t ds)) (want_on (z1 rfl (z2 rfl ds))) (r_off (want_not ds rfl) (r_off (want_not (z1 rfl ds) rfl) (r_off (want_not (z2 rfl ds) rfl) (r_off (want_not (z1 rfl (z2 rfl ds)) rfl) (r_op (o_pick_f (ev_t (z4 rfl ds)) ev_c) (want_on (z8 rfl ds)) (r_op (o_pick_f (ev_t (z1 rfl (z8 rfl ds))) (ev_t ds)) rfl (r_nil (k_cond_f (ev_t ds) (k_skip (k_reg (r_op (o_add (ev_t (z2 rfl (z4 rfl (z8 rfl (z8 rfl q66))))) ev_c (by omega) (by omega)) rfl (m1 ds (r_nil (⟨mm - 1, by omega, i + 1, by omega, fun j y hj hy_ => ?_, (Keep.look hk_b (by omega) id (look_ne hh29 (by omega) (look_ne hh27 (by omega) hmr))), (z8 rfl (z8 rfl (z8 rfl q6))), (z8 rfl (z8 rfl (z8 rfl q64))), (z8 rfl (z8 rfl (z8 rfl q65))), ds, by omega, ⟨(z8 rfl (z8 rfl (z8 rfl q1))), (z8 rfl (z8 rfl (z8 rfl q3))), (Keep.look hk_b (by omega) id (look_ne hh29 (by omega) (look_ne hh27 (by omega) hr1))), (Keep.look hk_b (by omega) id (look_ne hh29 (by omega) (look_ne hh27 (by omega) hr2))), Keep.trans (Keep.upd (Keep.upd (hkp) hh27 (.inl (by omega))) hh29 (.inl (by omega))) hk_b (by omega) (fun d _ h => h)⟩, by omega⟩)))))))))))))))
        rcases (show j < i ∨ j = i by omega) with hj | rfl
        · exact hok3 j y hj hy_
        rw [hx] at hy_; cases hy_; exact ⟨hb_b.1 (by assumption), fun hk2 => by omega⟩
      refine r_op (ndec_t (o_not (ev_t ds)) hs32) rfl (m1 ds (r_off (want_not ds rfl) (r_off (want_not (z1 rfl ds) rfl) (r_off (want_not (z2 rfl ds) rfl) (r_off (want_not (z1 rfl (z2 rfl ds)) rfl) (r_off (want_undef ds) (r_off (want_undef (z1 rfl ds)) (r_off (want_undef (z2 rfl ds)) (r_off (want_undef (z1 rfl (z2 rfl ds))) (r_off (want_not (z8 rfl ds) rfl) (r_op (o_pick_t (ev_t (z1 rfl (z8 rfl ds))) ev_c) rfl (r_nil (k_cond_t (ev_t ds) (k_seq (k_reg (r_op (o_mov ev_c) rfl (r_nil (k_ret ?_))))))))))))))))))
      have hfin : ((1 : Int) = 0 ↔ MayP ns ts p) := by
        refine ⟨fun h => by omega, fun h => ?_⟩
        have h1 := h.each i x hx; first | exact absurd (hb_b.2 h1.1) (by assumption) | (have h2 := h1.2 (by omega); omega)
      exact ⟨_, ans_tmp ds, _, rfl, by omega, hfin, by omega, Keep.trans (Keep.upd (Keep.upd (hkp) hh27 (.inl (by omega))) hh29 (.inl (by omega))) hk_b (by omega) (fun d _ h => h)⟩
    replace hc25 := of_decide_eq_false hc25
    refine k_exit (exK_same (k_seq (k_reg (r_op (o_mov ev_c) rfl (r_nil (k_ret ?_))))))
    have hfin : ((0 : Int) = 0 ↔ MayP ns ts p) := by
      exact ⟨fun _ => ⟨by omega, by omega, hnodes, hok, fun j y hy => hok3 j y (by have := (List.getElem?_eq_some_iff.1 hy).1; omega) hy⟩, fun _ => rfl⟩
    exact ⟨_, ans_tmp ds, _, rfl, by omega, hfin, by omega, hkp⟩
  refine r_op (ndec_t (o_neq (ev_t (z1 rfl (z2 rfl ds))) (ev_t ds)) hs4) (want_on (z1 rfl (z4 rfl ds))) (r_op (o_pick_f (ev_t (z2 rfl (z4 rfl ds))) (ev_t ds)) rfl (r_nil (k_cond_t (ev_t ds) (k_seq (k_reg (r_op (o_mov ev_c) rfl (r_nil (k_ret ?_))))))))
  have hfin : ((1 : Int) = 0 ↔ MayP ns ts p) := by
    refine ⟨fun h => by omega, fun h => ?_⟩
    have h1 := h.few; have h2 := h.next; omega
  exact ⟨_, ans_tmp ds, _, rfl, by omega, hfin, by omega, Keep.upd (Keep.refl _ _ _) hh2 (.inl (by omega))⟩
end Go.Proofs.YtpjohgnhmjceiaaGreatDoor.WX

set_option linter.all false
set_option linter.unusedVariables false
set_option linter.unusedSectionVars false
set_option maxRecDepth 100000
open Go Go.Proofs.YtpjohgnhmjceiaaGreatDoor.AX Go.Proofs
namespace Go.Proofs.YtpjohgnhmjceiaaGreatDoor.WX
def isnan_r0 : List Ins := [⟨(some 2), none, (.op (.mov (.c (.bool false))))⟩]
def isnan_r1 : List Ins := [⟨(some 3), none, (.op (.mov (.t 0)))⟩,
  ⟨(some 4), none, (.op (.mov (.t 0)))⟩,
  ⟨(some 5), none, (.op (.bin .neq (.t 3) (.t 4)))⟩,
  ⟨(some 2), none, (.op (.mov (.t 5)))⟩]
def isnan_c : IC := (.seq (.reg isnan_r0) (.seq (.reg isnan_r1) .ret))
theorem isnan_tab : tb 105 = some (.code 1 6 isnan_c [.tmp 2]) := by kernel_rfl
def compare_r0 : List Ins := [⟨(some 4), none, (.op (.mov (.c (.int .i64 0))))⟩]
def compare_r1 : List Ins := [⟨(some 7), none, (.op (.mov (.t 0)))⟩,
  ⟨(some 8), none, (.callF 105 [(.t 7)])⟩,
  ⟨(some 5), none, (.op (.mov (.t 8)))⟩]
def compare_r2 : List Ins := [⟨(some 9), none, (.op (.mov (.t 1)))⟩,
  ⟨(some 10), none, (.callF 105 [(.t 9)])⟩,
  ⟨(some 6), none, (.op (.mov (.t 10)))⟩]
def compare_r3 : List Ins := [⟨(some 11), none, (.op (.mov (.t 5)))⟩]
def compare_r4 : List Ins := [⟨(some 12), none, (.op (.mov (.t 6)))⟩]
def compare_r5 : List Ins := [⟨(some 4), none, (.op (.mov (.c (.int .i64 0))))⟩]
def compare_r6 : List Ins := [⟨(some 4), none, (.op (.mov (.c (.int .i64 (-1)))))⟩]
def compare_r7 : List Ins := [⟨(some 13), none, (.op (.mov (.t 6)))⟩]
def compare_r8 : List Ins := [⟨(some 4), none, (.op (.mov (.c (.int .i64 1))))⟩]
def compare_r9 : List Ins := [⟨(some 14), none, (.op (.mov (.t 0)))⟩,
  ⟨(some 15), none, (.op (.mov (.t 1)))⟩,
  ⟨(some 16), none, (.op (.bin .lss (.t 14) (.t 15)))⟩]
def compare_r10 : List Ins := [⟨(some 4), none, (.op (.mov (.c (.int .i64 (-1)))))⟩]
def compare_r11 : List Ins := [⟨(some 17), none, (.op (.mov (.t 0)))⟩,
  ⟨(some 18), none, (.op (.mov (.t 1)))⟩,
  ⟨(some 19), none, (.op (.bin .gtr (.t 17) (.t 18)))⟩]
def compare_r12 : List Ins := [⟨(some 4), none, (.op (.mov (.c (.int .i64 1))))⟩]
def compare_r13 : List Ins := [⟨(some 4), none, (.op (.mov (.c (.int .i64 0))))⟩]
def compare_c : IC := (.seq (.reg compare_r0) (.seq (.reg compare_r1) (.seq (.reg compare_r2) (.seq (.seq (.reg compare_r3) (.cond (.t 11) (.seq (.seq (.reg compare_r4) (.cond (.t 12) (.seq (.reg compare_r5) .ret) .skip)) (.seq (.reg compare_r6) .ret)) .skip)) (.seq (.seq (.reg compare_r7) (.cond (.t 13) (.seq (.reg compare_r8) .ret) .skip)) (.seq (.seq (.reg compare_r9) (.cond (.t 16) (.seq (.reg compare_r10) .ret) .skip)) (.seq (.seq (.reg compare_r11) (.cond (.t 19) (.seq (.reg compare_r12) .ret) .skip)) (.seq (.reg compare_r13) .ret))))))))
theorem compare_tab : tb 51 = some (.code 2 20 compare_c [.tmp 4]) := by kernel_rfl
def or__r0 : List Ins := [⟨(some 2), none, (.op (.mov (.c (.int .i64 0))))⟩]
def or__r1 : List Ins := [⟨(some 3), none, (.op (.mov (.c (.int .i64 0))))⟩]
def or__r2 : List Ins := [⟨(some 6), none, (.op (.mov (.t 0)))⟩,
  ⟨(some 7), none, (.op (.len .slc (.t 6)))⟩,
  ⟨(some 8), none, (.op (.mov (.c (.int .i64 0))))⟩]
def or__r3 : List Ins := [⟨(some 9), none, (.op (.bin .lss (.t 8) (.t 7)))⟩]
def or__r4 : List Ins := [⟨(some 10), none, (.op (.iaddr 1 (.t 6) (.t 8)))⟩,
  ⟨(some 11), none, (.op (.load (.t 10)))⟩,
  ⟨(some 5), none, (.op (.mov (.t 11)))⟩]
def or__r5 : List Ins := [⟨(some 12), none, (.op (.mov (.t 5)))⟩,
  ⟨(some 13), none, (.op (.mov (.t 3)))⟩,
  ⟨(some 14), none, (.op (.bin .neq (.t 12) (.t 13)))⟩]
def or__r6 : List Ins := [⟨(some 15), none, (.op (.mov (.t 5)))⟩,
  ⟨(some 2), none, (.op (.mov (.t 15)))⟩]
def or__r7 : List Ins := [⟨(some 16), none, (.op (.bin .add (.t 8) (.c (.int .i64 1))))⟩,
  ⟨(some 8), none, (.op (.mov (.t 16)))⟩]
def or__r8 : List Ins := [⟨(some 17), none, (.op (.mov (.t 3)))⟩,
  ⟨(some 2), none, (.op (.mov (.t 17)))⟩]
def or__c : IC := (.seq (.reg or__r0) (.seq (.reg or__r1) (.seq (.seq (.reg or__r2) (.block 0 (.loop (.seq (.reg or__r3) (.seq (.cond (.t 9) .skip (.exit 0)) (.seq (.block 1 (.seq (.reg or__r4) (.seq (.reg or__r5) (.cond (.t 14) (.seq (.reg or__r6) .ret) .skip)))) (.reg or__r7))))))) (.seq (.reg or__r8) .ret))))
theorem or__tab : tb 50 = some (.code 1 18 or__c [.tmp 2]) := by kernel_rfl
def rmay_r0 : List Ins := [⟨(some 2), none, (.op (.mov (.c (.bool false))))⟩]
def rmay_r1 : List Ins := [⟨(some 3), none, (.op (.mov (.c (.int .i64 0))))⟩]
def rmay_r2 : List Ins := [⟨(some 4), none, (.op (.mov (.t 3)))⟩,
  ⟨(some 5), none, (.op (.mov (.t 0)))⟩,
  ⟨(some 6), none, (.op (.len .str (.t 5)))⟩,
  ⟨(some 7), none, (.op (.bin .lss (.t 4) (.t 6)))⟩]
def rmay_r3 : List Ins := [⟨(some 10), none, (.op (.mov (.t 0)))⟩,
  ⟨(some 11), none, (.op (.mov (.t 3)))⟩,
  ⟨(some 12), none, (.op (.sidx (.t 10) (.t 11)))⟩,
  ⟨(some 13), none, (.op (.bin .neq (.t 12) (.c (.int .u8 48))))⟩,
  ⟨(some 14), none, (.op (.mov (.t 13)))⟩,
  ⟨(some 15), (some (14, true)), (.op (.mov (.t 0)))⟩,
  ⟨(some 16), (some (14, true)), (.op (.mov (.t 3)))⟩,
  ⟨(some 17), (some (14, true)), (.op (.sidx (.t 15) (.t 16)))⟩,
  ⟨(some 18), (some (14, true)), (.op (.bin .neq (.t 17) (.c (.int .u8 49))))⟩,
  ⟨(some 19), none, (.op (.pick (.t 14) (.t 18) (.c (.bool false))))⟩,
  ⟨(some 20), none, (.op (.mov (.t 19)))⟩,
  ⟨(some 21), (some (20, true)), (.op (.mov (.t 0)))⟩,
  ⟨(some 22), (some (20, true)), (.op (.mov (.t 3)))⟩,
  ⟨(some 23), (some (20, true)), (.op (.sidx (.t 21) (.t 22)))⟩,
  ⟨(some 24), (some (20, true)), (.op (.bin .neq (.t 23) (.c (.int .u8 120))))⟩,
  ⟨(some 25), none, (.op (.pick (.t 20) (.t 24) (.c (.bool false))))⟩,
  ⟨(some 26), none, (.op (.mov (.t 25)))⟩,
  ⟨(some 27), (some (26, true)), (.op (.mov (.t 0)))⟩,
  ⟨(some 28), (some (26, true)), (.op (.mov (.t 3)))⟩,
  ⟨(some 29), (some (26, true)), (.op (.sidx (.t 27) (.t 28)))⟩,
  ⟨(some 30), (some (26, true)), (.op (.bin .neq (.t 29) (.c (.int .u8 122))))⟩,
  ⟨(some 31), none, (.op (.pick (.t 26) (.t 30) (.c (.bool false))))⟩]
def rmay_r4 : List Ins := [⟨(some 2), none, (.op (.mov (.c (.bool false))))⟩]
def rmay_r5 : List Ins := [⟨(some 8), none, (.op (.mov (.t 3)))⟩,
  ⟨(some 9), none, (.op (.bin .add (.t 8) (.c (.int .i64 1))))⟩,
  ⟨(some 3), none, (.op (.mov (.t 9)))⟩]
def rmay_r6 : List Ins := [⟨(some 32), none, (.op (.mov (.t 0)))⟩,
  ⟨(some 33), none, (.op (.len .str (.t 32)))⟩,
  ⟨(some 34), none, (.op (.bin .geq (.t 33) (.c (.int .i64 1))))⟩,
  ⟨(some 35), none, (.op (.mov (.t 34)))⟩,
  ⟨(some 36), (some (35, true)), (.op (.mov (.t 0)))⟩,
  ⟨(some 37), (some (35, true)), (.op (.len .str (.t 36)))⟩,
  ⟨(some 38), (some (35, true)), (.op (.bin .leq (.t 37) (.c (.int .i64 256))))⟩,
  ⟨(some 39), none, (.op (.pick (.t 35) (.t 38) (.c (.bool false))))⟩,
  ⟨(some 2), none, (.op (.mov (.t 39)))⟩]
def rmay_c : IC := (.seq (.reg rmay_r0) (.seq (.seq (.reg rmay_r1) (.block 0 (.loop (.seq (.seq (.reg rmay_r2) (.cond (.t 7) .skip (.exit 0))) (.seq (.block 1 (.seq (.reg rmay_r3) (.cond (.t 31) (.seq (.reg rmay_r4) .ret) .skip))) (.reg rmay_r5)))))) (.seq (.reg rmay_r6) .ret)))
theorem rmay_tab : tb 53 = some (.code 1 40 rmay_c [.tmp 2]) := by kernel_rfl
def stim_r0 : List Ins := [⟨(some 3), none, (.op (.box (.t 0)))⟩,
  ⟨(some 6), none, (.op (.mov (.c (.bool false))))⟩]
def stim_r1 : List Ins := [⟨(some 10), none, (.op (.mov (.t 2)))⟩,
  ⟨(some 11), none, (.op (.bin .lss (.t 10) (.c (.int .i64 0))))⟩,
  ⟨(some 12), none, (.op (.mov (.t 11)))⟩,
  ⟨(some 13), (some (12, false)), (.op (.mov (.t 2)))⟩,
  ⟨(some 14), (some (12, false)), (.op (.bin .gtr (.t 13) (.c (.int .i64 4611686018427387903))))⟩,
  ⟨(some 15), none, (.op (.pick (.t 12) (.c (.bool true)) (.t 14)))⟩]
def stim_r2 : List Ins := [⟨(some 6), none, (.op (.mov (.c (.bool false))))⟩]
def stim_r3 : List Ins := [⟨(some 7), none, (.op (.mov (.c (.int .i64 0))))⟩]
def stim_r4 : List Ins := [⟨(some 16), none, (.op (.mov (.t 7)))⟩,
  ⟨(some 17), none, (.op (.mov (.t 1)))⟩,
  ⟨(some 18), none, (.op (.len .slc (.t 17)))⟩,
  ⟨(some 19), none, (.op (.bin .lss (.t 16) (.t 18)))⟩]
def stim_r5 : List Ins := [⟨(some 22), none, (.op (.mov (.t 1)))⟩,
  ⟨(some 23), none, (.op (.mov (.t 7)))⟩,
  ⟨(some 24), none, (.op (.iaddr 3 (.t 22) (.t 23)))⟩,
  ⟨(some 25), none, (.op (.loadA 3 (.t 24)))⟩,
  ⟨(some 8), none, (.op (.alloc [(.int .i64 0), (.int .i64 0), (.str [])]))⟩,
  ⟨none, none, (.op (.store 3 (.t 8) (.t 25)))⟩]
def stim_r6 : List Ins := [⟨(some 26), none, (.op (.faddr (.t 8) 0))⟩,
  ⟨(some 27), none, (.op (.load (.t 26)))⟩,
  ⟨(some 28), none, (.op (.bin .lss (.t 27) (.c (.int .i64 0))))⟩,
  ⟨(some 29), none, (.op (.mov (.t 28)))⟩,
  ⟨(some 30), (some (29, false)), (.op (.faddr (.t 8) 0))⟩,
  ⟨(some 31), (some (29, false)), (.op (.load (.t 30)))⟩,
  ⟨(some 32), (some (29, false)), (.op (.bin .gtr (.t 31) (.c (.int .i64 4611686018427387903))))⟩,
  ⟨(some 33), none, (.op (.pick (.t 29) (.c (.bool true)) (.t 32)))⟩,
  ⟨(some 34), none, (.op (.mov (.t 33)))⟩,
  ⟨(some 35), (some (34, false)), (.op (.faddr (.t 8) 1))⟩,
  ⟨(some 36), (some (34, false)), (.op (.load (.t 35)))⟩,
  ⟨(some 37), (some (34, false)), (.op (.bin .lss (.t 36) (.c (.int .i64 0))))⟩,
  ⟨(some 38), none, (.op (.pick (.t 34) (.c (.bool true)) (.t 37)))⟩,
  ⟨(some 39), none, (.op (.mov (.t 38)))⟩,
  ⟨(some 40), (some (39, false)), (.op (.faddr (.t 8) 1))⟩,
  ⟨(some 41), (some (39, false)), (.op (.load (.t 40)))⟩,
  ⟨(some 42), (some (39, false)), (.op (.faddr (.t 3) 1))⟩,
  ⟨(some 43), (some (39, false)), (.op (.load (.t 42)))⟩,
  ⟨(some 44), (some (39, false)), (.op (.len .slc (.t 43)))⟩,
  ⟨(some 45), (some (39, false)), (.op (.bin .geq (.t 41) (.t 44)))⟩,
  ⟨(some 46), none, (.op (.pick (.t 39) (.c (.bool true)) (.t 45)))⟩,
  ⟨(some 47), none, (.op (.mov (.t 46)))⟩,
  ⟨(some 48), (some (47, false)), (.op (.faddr (.t 8) 2))⟩,
  ⟨(some 49), (some (47, false)), (.op (.load (.t 48)))⟩,
  ⟨(some 50), (some (47, false)), (.callF 53 [(.t 49)])⟩,
  ⟨(some 51), (some (47, false)), (.op (.not (.t 50)))⟩,
  ⟨(some 52), none, (.op (.pick (.t 47) (.c (.bool true)) (.t 51)))⟩]
def stim_r7 : List Ins := [⟨(some 6), none, (.op (.mov (.c (.bool false))))⟩]
def stim_r8 : List DIns := [⟨0, [], ⟨(some 53), none, (.op (.faddr (.t 3) 0))⟩⟩,
  ⟨1, [0], ⟨(some 54), none, (.op (.load (.t 53)))⟩⟩,
  ⟨2, [], ⟨(some 55), none, (.op (.faddr (.t 3) 1))⟩⟩,
  ⟨3, [2], ⟨(some 56), none, (.op (.load (.t 55)))⟩⟩,
  ⟨4, [], ⟨(some 57), none, (.op (.faddr (.t 8) 1))⟩⟩,
  ⟨5, [4], ⟨(some 58), none, (.op (.load (.t 57)))⟩⟩,
  ⟨6, [3, 5], ⟨(some 59), none, (.op (.iaddr 1 (.t 56) (.t 58)))⟩⟩,
  ⟨7, [6], ⟨(some 60), none, (.op (.load (.t 59)))⟩⟩,
  ⟨8, [1, 7], ⟨(some 61), none, (.op (.iaddr 8 (.t 54) (.t 60)))⟩⟩,
  ⟨9, [8], ⟨(some 62), none, (.op (.loadA 8 (.t 61)))⟩⟩,
  ⟨10, [], ⟨(some 9), none, (.op (.alloc [(.int .i64 0), (.int .i64 0), (.int .i64 0), .nslice, (.str []), (.int .i64 0), (.int .i64 0), (.int .i64 0)]))⟩⟩,
  ⟨11, [10, 9, 0, 1, 2, 3, 4, 5, 6, 7, 8, 9, 10], ⟨none, none, (.op (.store 8 (.t 9) (.t 62)))⟩⟩]
def stim_r9 : List Ins := [⟨(some 63), none, (.op (.faddr (.t 9) 0))⟩,
  ⟨(some 64), none, (.op (.load (.t 63)))⟩,
  ⟨(some 65), none, (.op (.bin .neq (.t 64) (.c (.int .i64 2))))⟩,
  ⟨(some 66), none, (.op (.mov (.t 65)))⟩,
  ⟨(some 67), (some (66, false)), (.op (.faddr (.t 9) 2))⟩,
  ⟨(some 68), (some (66, false)), (.op (.load (.t 67)))⟩,
  ⟨(some 69), (some (66, false)), (.op (.faddr (.t 8) 2))⟩,
  ⟨(some 70), (some (66, false)), (.op (.load (.t 69)))⟩,
  ⟨(some 71), (some (66, false)), (.op (.len .str (.t 70)))⟩,
  ⟨(some 72), (some (66, false)), (.op (.bin .neq (.t 68) (.t 71)))⟩,
  ⟨(some 73), none, (.op (.pick (.t 66) (.c (.bool true)) (.t 72)))⟩]
def stim_r10 : List Ins := [⟨(some 6), none, (.op (.mov (.c (.bool false))))⟩]
def stim_r11 : List DIns := [⟨0, [], ⟨(some 74), none, (.op (.mov (.t 7)))⟩⟩,
  ⟨1, [0], ⟨(some 75), none, (.op (.bin .gtr (.t 74) (.c (.int .i64 0))))⟩⟩,
  ⟨2, [1], ⟨(some 76), none, (.op (.mov (.t 75)))⟩⟩,
  ⟨3, [2], ⟨(some 77), (some (76, true)), (.op (.mov (.t 1)))⟩⟩,
  ⟨4, [2], ⟨(some 78), (some (76, true)), (.op (.mov (.t 7)))⟩⟩,
  ⟨5, [4, 2], ⟨(some 79), (some (76, true)), (.op (.bin .sub (.t 78) (.c (.int .i64 1))))⟩⟩,
  ⟨6, [3, 5, 2], ⟨(some 80), (some (76, true)), (.op (.iaddr 3 (.t 77) (.t 79)))⟩⟩,
  ⟨7, [6, 2], ⟨(some 81), (some (76, true)), (.op (.faddr (.t 80) 0))⟩⟩,
  ⟨8, [7, 2], ⟨(some 82), (some (76, true)), (.op (.load (.t 81)))⟩⟩,
  ⟨9, [2], ⟨(some 83), (some (76, true)), (.op (.faddr (.t 8) 0))⟩⟩,
  ⟨10, [9, 2], ⟨(some 84), (some (76, true)), (.op (.load (.t 83)))⟩⟩,
  ⟨11, [8, 10, 2], ⟨(some 85), (some (76, true)), (.op (.bin .gtr (.t 82) (.t 84)))⟩⟩,
  ⟨12, [11, 2, 2], ⟨(some 86), (some (76, true)), (.op (.mov (.t 85)))⟩⟩,
  ⟨13, [12], ⟨(some 87), (some (86, false)), (.op (.mov (.t 1)))⟩⟩,
  ⟨14, [12], ⟨(some 88), (some (86, false)), (.op (.mov (.t 7)))⟩⟩,
  ⟨15, [14, 12], ⟨(some 89), (some (86, false)), (.op (.bin .sub (.t 88) (.c (.int .i64 1))))⟩⟩,
  ⟨16, [13, 15, 12], ⟨(some 90), (some (86, false)), (.op (.iaddr 3 (.t 87) (.t 89)))⟩⟩,
  ⟨17, [16, 12], ⟨(some 91), (some (86, false)), (.op (.faddr (.t 90) 0))⟩⟩,
  ⟨18, [17, 12], ⟨(some 92), (some (86, false)), (.op (.load (.t 91)))⟩⟩,
  ⟨19, [12], ⟨(some 93), (some (86, false)), (.op (.faddr (.t 8) 0))⟩⟩,
  ⟨20, [19, 12], ⟨(some 94), (some (86, false)), (.op (.load (.t 93)))⟩⟩,
  ⟨21, [18, 20, 12], ⟨(some 95), (some (86, false)), (.op (.bin .eql (.t 92) (.t 94)))⟩⟩,
  ⟨22, [21, 12, 12], ⟨(some 96), (some (86, false)), (.op (.mov (.t 95)))⟩⟩,
  ⟨23, [22], ⟨(some 97), (some (96, true)), (.op (.mov (.t 1)))⟩⟩,
  ⟨24, [22], ⟨(some 98), (some (96, true)), (.op (.mov (.t 7)))⟩⟩,
  ⟨25, [24, 22], ⟨(some 99), (some (96, true)), (.op (.bin .sub (.t 98) (.c (.int .i64 1))))⟩⟩,
  ⟨26, [23, 25, 22], ⟨(some 100), (some (96, true)), (.op (.iaddr 3 (.t 97) (.t 99)))⟩⟩,
  ⟨27, [26, 22], ⟨(some 101), (some (96, true)), (.op (.faddr (.t 100) 1))⟩⟩,
  ⟨28, [27, 22], ⟨(some 102), (some (96, true)), (.op (.load (.t 101)))⟩⟩,
  ⟨29, [22], ⟨(some 103), (some (96, true)), (.op (.faddr (.t 8) 1))⟩⟩,
  ⟨30, [29, 22], ⟨(some 104), (some (96, true)), (.op (.load (.t 103)))⟩⟩,
  ⟨31, [28, 30, 22], ⟨(some 105), (some (96, true)), (.op (.bin .geq (.t 102) (.t 104)))⟩⟩,
  ⟨32, [22, 31, 12], ⟨(some 106), (some (86, false)), (.op (.pick (.t 96) (.t 105) (.c (.bool false))))⟩⟩,
  ⟨33, [12, 32, 2], ⟨(some 107), (some (76, true)), (.op (.pick (.t 86) (.c (.bool true)) (.t 106)))⟩⟩,
  ⟨34, [2, 33], ⟨(some 108), none, (.op (.pick (.t 76) (.t 107) (.c (.bool false))))⟩⟩]
def stim_r12 : List Ins := [⟨(some 6), none, (.op (.mov (.c (.bool false))))⟩]
def stim_r13 : List Ins := [⟨(some 20), none, (.op (.mov (.t 7)))⟩,
  ⟨(some 21), none, (.op (.bin .add (.t 20) (.c (.int .i64 1))))⟩,
  ⟨(some 7), none, (.op (.mov (.t 21)))⟩]
def stim_r14 : List Ins := [⟨(some 6), none, (.op (.mov (.c (.bool true))))⟩]
def stim_c : IC := (.seq (.reg stim_r0) (.seq (.seq (.reg stim_r1) (.cond (.t 15) (.seq (.reg stim_r2) .ret) .skip)) (.seq (.seq (.reg stim_r3) (.block 0 (.loop (.seq (.seq (.reg stim_r4) (.cond (.t 19) .skip (.exit 0))) (.seq (.block 1 (.seq (.reg stim_r5) (.seq (.seq (.reg stim_r6) (.cond (.t 52) (.seq (.reg stim_r7) .ret) .skip)) (.seq (.draw stim_r8) (.seq (.seq (.reg stim_r9) (.cond (.t 73) (.seq (.reg stim_r10) .ret) .skip)) (.seq (.draw stim_r11) (.cond (.t 108) (.seq (.reg stim_r12) .ret) .skip))))))) (.reg stim_r13)))))) (.seq (.reg stim_r14) .ret))))
theorem stim_tab : tb 15 = some (.code 3 109 stim_c [.tmp 6]) := by kernel_rfl
def echeck_r0 : List Ins := [⟨(some 3), none, (.op (.box (.t 0)))⟩,
  ⟨(some 6), none, (.op (.mov (.c (.int .i64 0))))⟩]
def echeck_r1 : List Ins := [⟨(some 12), none, (.op (.loadA 3 (.t 3)))⟩,
  ⟨(some 13), none, (.callF 48 [(.t 12)])⟩,
  ⟨(some 14), none, (.op (.bin .neq (.t 13) (.c (.int .i64 0))))⟩,
  ⟨(some 15), none, (.op (.mov (.t 14)))⟩,
  ⟨(some 16), (some (15, false)), (.op (.mov (.t 2)))⟩,
  ⟨(some 17), (some (15, false)), (.op (.bin .lss (.t 16) (.c (.int .i64 0))))⟩,
  ⟨(some 18), none, (.op (.pick (.t 15) (.c (.bool true)) (.t 17)))⟩,
  ⟨(some 19), none, (.op (.mov (.t 18)))⟩,
  ⟨(some 20), (some (19, false)), (.op (.mov (.t 2)))⟩,
  ⟨(some 21), (some (19, false)), (.op (.bin .gtr (.t 20) (.c (.int .i64 4611686018427387903))))⟩,
  ⟨(some 22), none, (.op (.pick (.t 19) (.c (.bool true)) (.t 21)))⟩]
def echeck_r2 : List Ins := [⟨(some 6), none, (.op (.mov (.c (.int .i64 1))))⟩]
def echeck_r3 : List Ins := [⟨(some 23), none, (.op (.mov (.t 1)))⟩,
  ⟨(some 24), none, (.op (.len .slc (.t 23)))⟩,
  ⟨(some 25), none, (.op (.mov (.c (.int .i64 0))))⟩]
def echeck_r4 : List Ins := [⟨(some 26), none, (.op (.bin .lss (.t 25) (.t 24)))⟩]
def echeck_r5 : List Ins := [⟨(some 27), none, (.op (.mov (.t 25)))⟩,
  ⟨(some 28), none, (.op (.iaddr 3 (.t 23) (.t 25)))⟩,
  ⟨(some 29), none, (.op (.loadA 3 (.t 28)))⟩,
  ⟨(some 8), none, (.op (.alloc [(.int .i64 0), (.int .i64 0), (.str [])]))⟩,
  ⟨(some 7), none, (.op (.mov (.t 27)))⟩,
  ⟨none, none, (.op (.store 3 (.t 8) (.t 29)))⟩]
def echeck_r6 : List Ins := [⟨(some 30), none, (.op (.faddr (.t 8) 0))⟩,
  ⟨(some 31), none, (.op (.load (.t 30)))⟩,
  ⟨(some 32), none, (.op (.bin .lss (.t 31) (.c (.int .i64 0))))⟩,
  ⟨(some 33), none, (.op (.mov (.t 32)))⟩,
  ⟨(some 34), (some (33, false)), (.op (.faddr (.t 8) 0))⟩,
  ⟨(some 35), (some (33, false)), (.op (.load (.t 34)))⟩,
  ⟨(some 36), (some (33, false)), (.op (.bin .gtr (.t 35) (.c (.int .i64 4611686018427387903))))⟩,
  ⟨(some 37), none, (.op (.pick (.t 33) (.c (.bool true)) (.t 36)))⟩,
  ⟨(some 38), none, (.op (.mov (.t 37)))⟩,
  ⟨(some 39), (some (38, false)), (.op (.faddr (.t 8) 1))⟩,
  ⟨(some 40), (some (38, false)), (.op (.load (.t 39)))⟩,
  ⟨(some 41), (some (38, false)), (.op (.bin .lss (.t 40) (.c (.int .i64 0))))⟩,
  ⟨(some 42), none, (.op (.pick (.t 38) (.c (.bool true)) (.t 41)))⟩,
  ⟨(some 43), none, (.op (.mov (.t 42)))⟩,
  ⟨(some 44), (some (43, false)), (.op (.faddr (.t 8) 1))⟩,
  ⟨(some 45), (some (43, false)), (.op (.load (.t 44)))⟩,
  ⟨(some 46), (some (43, false)), (.op (.faddr (.t 3) 1))⟩,
  ⟨(some 47), (some (43, false)), (.op (.load (.t 46)))⟩,
  ⟨(some 48), (some (43, false)), (.op (.len .slc (.t 47)))⟩,
  ⟨(some 49), (some (43, false)), (.op (.bin .geq (.t 45) (.t 48)))⟩,
  ⟨(some 50), none, (.op (.pick (.t 43) (.c (.bool true)) (.t 49)))⟩,
  ⟨(some 51), none, (.op (.mov (.t 50)))⟩,
  ⟨(some 52), (some (51, false)), (.op (.faddr (.t 8) 2))⟩,
  ⟨(some 53), (some (51, false)), (.op (.load (.t 52)))⟩,
  ⟨(some 54), (some (51, false)), (.callF 49 [(.t 53)])⟩,
  ⟨(some 55), (some (51, false)), (.op (.bin .neq (.t 54) (.c (.int .i64 0))))⟩,
  ⟨(some 56), none, (.op (.pick (.t 51) (.c (.bool true)) (.t 55)))⟩]
def echeck_r7 : List Ins := [⟨(some 6), none, (.op (.mov (.c (.int .i64 1))))⟩]
def echeck_r8 : List DIns := [⟨0, [], ⟨(some 57), none, (.op (.faddr (.t 3) 0))⟩⟩,
  ⟨1, [0], ⟨(some 58), none, (.op (.load (.t 57)))⟩⟩,
  ⟨2, [], ⟨(some 59), none, (.op (.faddr (.t 3) 1))⟩⟩,
  ⟨3, [2], ⟨(some 60), none, (.op (.load (.t 59)))⟩⟩,
  ⟨4, [], ⟨(some 61), none, (.op (.faddr (.t 8) 1))⟩⟩,
  ⟨5, [4], ⟨(some 62), none, (.op (.load (.t 61)))⟩⟩,
  ⟨6, [3, 5], ⟨(some 63), none, (.op (.iaddr 1 (.t 60) (.t 62)))⟩⟩,
  ⟨7, [6], ⟨(some 64), none, (.op (.load (.t 63)))⟩⟩,
  ⟨8, [1, 7], ⟨(some 65), none, (.op (.iaddr 8 (.t 58) (.t 64)))⟩⟩,
  ⟨9, [8], ⟨(some 66), none, (.op (.loadA 8 (.t 65)))⟩⟩,
  ⟨10, [], ⟨(some 9), none, (.op (.alloc [(.int .i64 0), (.int .i64 0), (.int .i64 0), .nslice, (.str []), (.int .i64 0), (.int .i64 0), (.int .i64 0)]))⟩⟩,
  ⟨11, [10, 9, 0, 1, 2, 3, 4, 5, 6, 7, 8, 9, 10], ⟨none, none, (.op (.store 8 (.t 9) (.t 66)))⟩⟩]
def echeck_r9 : List Ins := [⟨(some 67), none, (.op (.faddr (.t 9) 0))⟩,
  ⟨(some 68), none, (.op (.load (.t 67)))⟩,
  ⟨(some 69), none, (.op (.bin .neq (.t 68) (.c (.int .i64 2))))⟩,
  ⟨(some 70), none, (.op (.mov (.t 69)))⟩,
  ⟨(some 71), (some (70, false)), (.op (.faddr (.t 9) 2))⟩,
  ⟨(some 72), (some (70, false)), (.op (.load (.t 71)))⟩,
  ⟨(some 73), (some (70, false)), (.op (.faddr (.t 8) 2))⟩,
  ⟨(some 74), (some (70, false)), (.op (.load (.t 73)))⟩,
  ⟨(some 75), (some (70, false)), (.op (.len .str (.t 74)))⟩,
  ⟨(some 76), (some (70, false)), (.op (.bin .neq (.t 72) (.t 75)))⟩,
  ⟨(some 77), none, (.op (.pick (.t 70) (.c (.bool true)) (.t 76)))⟩]
def echeck_r10 : List Ins := [⟨(some 6), none, (.op (.mov (.c (.int .i64 1))))⟩]
def echeck_r11 : List DIns := [⟨0, [], ⟨(some 78), none, (.op (.mov (.t 7)))⟩⟩,
  ⟨1, [0], ⟨(some 79), none, (.op (.bin .gtr (.t 78) (.c (.int .i64 0))))⟩⟩,
  ⟨2, [1], ⟨(some 80), none, (.op (.mov (.t 79)))⟩⟩,
  ⟨3, [2], ⟨(some 81), (some (80, true)), (.op (.mov (.t 1)))⟩⟩,
  ⟨4, [2], ⟨(some 82), (some (80, true)), (.op (.mov (.t 7)))⟩⟩,
  ⟨5, [4, 2], ⟨(some 83), (some (80, true)), (.op (.bin .sub (.t 82) (.c (.int .i64 1))))⟩⟩,
  ⟨6, [3, 5, 2], ⟨(some 84), (some (80, true)), (.op (.iaddr 3 (.t 81) (.t 83)))⟩⟩,
  ⟨7, [6, 2], ⟨(some 85), (some (80, true)), (.op (.faddr (.t 84) 0))⟩⟩,
  ⟨8, [7, 2], ⟨(some 86), (some (80, true)), (.op (.load (.t 85)))⟩⟩,
  ⟨9, [2], ⟨(some 87), (some (80, true)), (.op (.faddr (.t 8) 0))⟩⟩,
  ⟨10, [9, 2], ⟨(some 88), (some (80, true)), (.op (.load (.t 87)))⟩⟩,
  ⟨11, [8, 10, 2, 2], ⟨(some 89), (some (80, true)), (.callF 51 [(.t 86), (.t 88)])⟩⟩,
  ⟨12, [2], ⟨(some 90), (some (80, true)), (.op (.mov (.t 1)))⟩⟩,
  ⟨13, [2], ⟨(some 91), (some (80, true)), (.op (.mov (.t 7)))⟩⟩,
  ⟨14, [13, 2], ⟨(some 92), (some (80, true)), (.op (.bin .sub (.t 91) (.c (.int .i64 1))))⟩⟩,
  ⟨15, [12, 14, 2], ⟨(some 93), (some (80, true)), (.op (.iaddr 3 (.t 90) (.t 92)))⟩⟩,
  ⟨16, [15, 2], ⟨(some 94), (some (80, true)), (.op (.faddr (.t 93) 1))⟩⟩,
  ⟨17, [16, 2], ⟨(some 95), (some (80, true)), (.op (.load (.t 94)))⟩⟩,
  ⟨18, [2], ⟨(some 96), (some (80, true)), (.op (.faddr (.t 8) 1))⟩⟩,
  ⟨19, [18, 2], ⟨(some 97), (some (80, true)), (.op (.load (.t 96)))⟩⟩,
  ⟨20, [17, 19, 11, 2], ⟨(some 98), (some (80, true)), (.callF 51 [(.t 95), (.t 97)])⟩⟩,
  ⟨21, [11, 20, 2], ⟨(some 99), (some (80, true)), (.op (.bslice 1 2 [(.int .i64 0)] [(0, 1, (.t 89)), (1, 1, (.t 98))]))⟩⟩,
  ⟨22, [21, 20, 2], ⟨(some 100), (some (80, true)), (.callF 50 [(.t 99)])⟩⟩,
  ⟨23, [22, 2], ⟨(some 101), (some (80, true)), (.op (.bin .geq (.t 100) (.c (.int .i64 0))))⟩⟩,
  ⟨24, [2, 23], ⟨(some 102), none, (.op (.pick (.t 80) (.t 101) (.c (.bool false))))⟩⟩]
def echeck_r12 : List Ins := [⟨(some 6), none, (.op (.mov (.c (.int .i64 1))))⟩]
def echeck_r13 : List Ins := [⟨(some 103), none, (.op (.bin .add (.t 25) (.c (.int .i64 1))))⟩,
  ⟨(some 25), none, (.op (.mov (.t 103)))⟩]
def echeck_r14 : List Ins := [⟨(some 105), none, (.op (.loadA 3 (.t 3)))⟩,
  ⟨(some 106), none, (.callF 52 [(.t 105)])⟩,
  ⟨(some 104), none, (.op (.mov (.t 106)))⟩,
  ⟨(some 107), none, (.op (.extr (.t 104) 0))⟩,
  ⟨(some 108), none, (.op (.extr (.t 104) 1))⟩,
  ⟨(some 10), none, (.op (.mov (.t 107)))⟩,
  ⟨(some 11), none, (.op (.mov (.t 108)))⟩]
def echeck_r15 : List Ins := [⟨(some 109), none, (.op (.mov (.t 11)))⟩,
  ⟨(some 6), none, (.op (.mov (.t 109)))⟩]
def echeck_c : IC := (.seq (.reg echeck_r0) (.seq (.seq (.reg echeck_r1) (.cond (.t 22) (.seq (.reg echeck_r2) .ret) .skip)) (.seq (.seq (.reg echeck_r3) (.block 0 (.loop (.seq (.reg echeck_r4) (.seq (.cond (.t 26) .skip (.exit 0)) (.seq (.block 1 (.seq (.reg echeck_r5) (.seq (.seq (.reg echeck_r6) (.cond (.t 56) (.seq (.reg echeck_r7) .ret) .skip)) (.seq (.seq (.draw echeck_r8) (.seq (.reg echeck_r9) (.cond (.t 77) (.seq (.reg echeck_r10) .ret) .skip))) (.seq (.draw echeck_r11) (.cond (.t 102) (.seq (.reg echeck_r12) .ret) .skip)))))) (.reg echeck_r13))))))) (.seq (.reg echeck_r14) (.seq (.reg echeck_r15) .ret)))))
theorem echeck_tab : tb 14 = some (.code 3 110 echeck_c [.tmp 6]) := by kernel_rfl
def lrun_r0 : List Ins := [⟨(some 1), none, (.op (.box (.t 0)))⟩,
  ⟨(some 2), none, (.op (.mov (.c .nslice)))⟩,
  ⟨(some 3), none, (.op (.mov (.c (.int .i64 0))))⟩]
def lrun_r1 : List Ins := [⟨(some 7), none, (.op (.loadA 3 (.t 1)))⟩,
  ⟨(some 8), none, (.callF 48 [(.t 7)])⟩,
  ⟨(some 9), none, (.op (.bin .neq (.t 8) (.c (.int .i64 0))))⟩]
def lrun_r2 : List Ins := [⟨(some 2), none, (.op (.mov (.c .nslice)))⟩,
  ⟨(some 3), none, (.op (.mov (.c (.int .i64 1))))⟩]
def lrun_r3 : List Ins := [⟨(some 11), none, (.op (.loadA 3 (.t 1)))⟩,
  ⟨(some 12), none, (.callF 106 [(.t 11)])⟩,
  ⟨(some 10), none, (.op (.mov (.t 12)))⟩,
  ⟨(some 13), none, (.op (.extr (.t 10) 0))⟩,
  ⟨(some 14), none, (.op (.extr (.t 10) 1))⟩,
  ⟨(some 15), none, (.op (.extr (.t 10) 2))⟩,
  ⟨(some 4), none, (.op (.mov (.t 13)))⟩,
  ⟨(some 5), none, (.op (.mov (.t 14)))⟩,
  ⟨(some 6), none, (.op (.mov (.t 15)))⟩]
def lrun_r4 : List Ins := [⟨(some 16), none, (.op (.mov (.t 6)))⟩,
  ⟨(some 17), none, (.op (.faddr (.t 1) 0))⟩,
  ⟨(some 18), none, (.op (.load (.t 17)))⟩,
  ⟨(some 19), none, (.op (.len .slc (.t 18)))⟩,
  ⟨(some 20), none, (.op (.bin .lss (.t 16) (.t 19)))⟩]
def lrun_r5 : List Ins := [⟨(some 2), none, (.op (.mov (.c .nslice)))⟩,
  ⟨(some 3), none, (.op (.mov (.c (.int .i64 110))))⟩]
def lrun_r6 : List Ins := [⟨(some 21), none, (.op (.mov (.t 4)))⟩,
  ⟨(some 2), none, (.op (.mov (.t 21)))⟩,
  ⟨(some 3), none, (.op (.mov (.c (.int .i64 0))))⟩]
def lrun_c : IC := (.seq (.reg lrun_r0) (.seq (.seq (.reg lrun_r1) (.cond (.t 9) (.seq (.reg lrun_r2) .ret) .skip)) (.seq (.reg lrun_r3) (.seq (.seq (.reg lrun_r4) (.cond (.t 20) (.seq (.reg lrun_r5) .ret) .skip)) (.seq (.reg lrun_r6) .ret)))))
theorem lrun_tab : tb 52 = some (.code 1 22 lrun_c [.tmp 2, .tmp 3]) := by kernel_rfl
variable [Env]
theorem o_sidx {T : TA} {t : TB} {nx : Nat} {x y : Opd} {s : List Nat} {i c : Nat} {k : IntKind} (hx : x.ev T = some (.str s)) (hy : y.ev T = some (.int k (i : Int))) (hi : s[i]? = some c) : (IOp.sidx x y).run T t nx = .ok (.int .u8 (c : Int)) t nx := by
  have e : y.ev T = some (.int k (.ofNat i)) := hy
  simp only [IOp.run, hx, e, idx, lGet_eq, hi, fNat_eq]
  rfl
theorem o_neq_u8 {T : TA} {t : TB} {nx : Nat} {x y : Opd} {a b : Int} (hx : x.ev T = some (.int .u8 a)) (hy : y.ev T = some (.int .u8 b)) : (IOp.bin .neq x y).run T t nx = .ok (.bool (!decide (a = b))) t nx := o_bin hx hy rfl (by decide) (by decide) (by show some (AV.bool (!iEq a b)) = _; rw [iEq_eq])
/-- The first number that is not 0. -/
def orL : List Int → Int
  | [] => 0
  | a :: l => if a = 0 then orL l else a
theorem orL_at {l : List Int} {i : Nat} {k : Int} (h : l[i]? = some k) : orL (l.drop i) = if k = 0 then orL (l.drop (i + 1)) else k := by
  obtain ⟨hi, rfl⟩ := List.getElem?_eq_some_iff.1 h
  rw [List.drop_eq_getElem_cons hi]
  rfl
/-- A change of an input. -/
structure Chg where
  at_ : Int
  net : Int
  val : List Nat
def ccells (c : Chg) : List AV := [.int .i64 c.at_, .int .i64 c.net, .str c.val]
def flatC3 (cs : List Chg) : List AV := cs.flatMap ccells
def RowC (t : TB) (bd : Nat) (v : AV) (cs : List Chg) : Prop :=
  (v = .nslice ∧ cs = []) ∨ ∃ (d o c : Nat) (ex wr : Bool) (r : List AV), v = .slice d o cs.length c 3 ex ∧ d < bd ∧ hv t d = some (.row r wr) ∧ o + cs.length * 3 ≤ r.length ∧ (r.drop o).take (cs.length * 3) = flatC3 cs
theorem RowC.keep {t t' : TB} {bd bd' : Nat} {v : AV} {l : List Chg} (h : RowC t bd v l) (k : Keep t t' bd (fun _ => False)) (hb : bd ≤ bd') : RowC t' bd' v l := by
  rcases h with h | ⟨d, o, c, ex, wr, r, h1, h2, h3, h4⟩
  · exact .inl h
  · exact .inr ⟨d, o, c, ex, wr, r, h1, by omega, (k d h2 id).trans h3, h4⟩
theorem o_len_C {T : TA} {t t0 : TB} {nx bd : Nat} {v : AV} {cs : List Chg} {x : Opd} (h : RowC t0 bd v cs) (hx : x.ev T = some v) : (IOp.len .slc x).run T t nx = .ok (.int .i64 (cs.length : Int)) t nx := by
  rcases h with ⟨rfl, rfl⟩ | ⟨d, o, c, ex, wr, r, rfl, -⟩
  · exact o_len_nslice hx
  · exact o_len_slice hx
theorem flatC3_get : ∀ {cs : List Chg} {i j : Nat} {c : Chg}, cs[i]? = some c → j < 3 → (flatC3 cs)[i * 3 + j]? = (ccells c)[j]?
  | [], i, j, c, h, _ => by simp at h
  | d :: cs, 0, j, c, h, hj => by
    simp at h; subst h
    show (ccells d ++ flatC3 cs)[0 * 3 + j]? = _
    rw [Nat.zero_mul, Nat.zero_add, List.getElem?_append_left (by show j < 3; omega)]
  | d :: cs, i + 1, j, c, h, hj => by
    show (ccells d ++ flatC3 cs)[(i + 1) * 3 + j]? = _
    rw [List.getElem?_append_right (by show 3 ≤ _; omega), show (i + 1) * 3 + j - (ccells d).length = i * 3 + j from by show _ - 3 = _; omega]
    exact flatC3_get (by simpa using h) hj
theorem rowC_get {r : List AV} {o i j q : Nat} {cs : List Chg} {c : Chg} {v : AV} (h : (r.drop o).take (cs.length * 3) = flatC3 cs) (hx : cs[i]? = some c) (hj : j < 3) (e : q = o + i * 3 + j) (hc : (ccells c)[j]? = some v) : r[q]? = some v := by
  subst e
  have hi : i < cs.length := (List.getElem?_eq_some_iff.1 hx).1
  have e := congrArg (fun m => m[i * 3 + j]?) h
  simp only [List.getElem?_take, List.getElem?_drop] at e
  rw [if_pos (by omega), flatC3_get hx hj, hc] at e
  rw [Nat.add_assoc]; exact e
theorem rowC_all {r : List AV} {o i : Nat} {cs : List Chg} {c : Chg} (h : (r.drop o).take (cs.length * 3) = flatC3 cs) (hx : cs[i]? = some c) : (r.drop (o + i * 3)).take 3 = ccells c := by
  apply List.ext_getElem?
  intro j
  rw [List.getElem?_take, List.getElem?_drop]
  by_cases hj : j < 3
  · rw [if_pos hj]
    have : ∃ v, (ccells c)[j]? = some v := some_at (by show j < 3; omega)
    obtain ⟨v, hv⟩ := this
    rw [hv]; exact rowC_get h hx hj rfl hv
  · rw [if_neg hj]; rw [List.getElem?_eq_none (by show 3 ≤ j; omega)]
/-- A change that may be: when, where, what. -/
def chgOK (ns : List Nd) (ts : List Int) (c : Chg) : Prop :=
  (0 ≤ c.at_ ∧ c.at_ ≤ 4611686018427387903) ∧ (0 ≤ c.net ∧ c.net < (ts.length : Int)) ∧ isV c.val ∧ ∃ (k : Int) (x : Nd), ts[c.net.toNat]? = some k ∧ ns[k.toNat]? = some x ∧ x.kind = 2 ∧ x.wide = (c.val.length : Int)
def chgLt (a b : Chg) : Prop := a.at_ < b.at_ ∨ (a.at_ = b.at_ ∧ a.net < b.net)
structure StimP (ns : List Nd) (ts : List Int) (cs : List Chg) (b : Int) : Prop where
  upto : 0 ≤ b ∧ b ≤ 4611686018427387903
  each : ∀ c ∈ cs, chgOK ns ts c
  rise : ∀ (i : Nat) (a c : Chg), cs[i]? = some a → cs[i + 1]? = some c → chgLt a c
theorem o_iaddrE {T : TA} {t : TB} {nx : Nat} {sz : Nat} {x y : Opd} {w : AV} {b o n c i : Nat} {ex : Bool} {k : IntKind} (hx : x.ev T = some w) (hw : w = .slice b o n c sz ex) (hy : y.ev T = some (.int k (i : Int))) (hi : i < n) : (IOp.iaddr sz x y).run T t nx = .ok (.ptr b (o + i * sz)) t nx := o_iaddr (hx.trans (by rw [hw])) hy hi
theorem RowI.flat {t : TB} {bd : Nat} {v : AV} {l : List Int} (h : RowI t bd v l) : flatC v = true := by
  rcases h with ⟨rfl, -⟩ | ⟨d, o, c, ex, wr, r, rfl, -⟩ <;> rfl
theorem ncells_flat (x : Nd) {iv : AV} (h : flatC iv = true) : ∀ v ∈ ncells x iv, flatC v = true := by
  intro v hv
  unfold ncells at hv
  simp only [List.mem_cons, List.not_mem_nil, or_false] at hv
  rcases hv with rfl | rfl | rfl | rfl | rfl | rfl | rfl | rfl <;> first | rfl | exact h
theorem orL2 (a b : Int) : (a ≠ 0 ∧ orL [a, b] = a) ∨ (a = 0 ∧ orL [a, b] = b) := by
  by_cases h : a = 0
  · subst h
    refine .inr ⟨rfl, ?_⟩
    show (if b = 0 then 0 else b) = b
    split <;> omega
  · exact .inl ⟨h, if_neg h⟩

theorem isnan_ok {t : TB} {nx : Nat} (a : Int) : WF tb 105 [.int .i64 a] t nx (fun v t' nx' => v = .bool false ∧ nx ≤ nx' ∧ Keep t t' nx (fun _ => False)) := by
  refine k_fun isnan_tab rfl ?_
  unfold isnan_c
  change WC _ _ (TA.put (some _) TA.e 0) _ _ _
  refine k_seq (k_reg (r_op (o_mov ev_c) rfl (r_nil (k_seq (k_reg (m1 (z1 rfl get_same) (m1 (z2 rfl get_same) ?_)))))))
  by_cases hs1 : (a = a)
  · refine r_op (ndec_f (o_neq (ev_t (z1 rfl ds)) (ev_t ds)) hs1) rfl (m1 ds (r_nil (k_ret ?_)))
    exact ⟨_, ans_tmp ds, rfl, by omega, Keep.refl _ _ _⟩
  refine r_op (ndec_t (o_neq (ev_t (z1 rfl ds)) (ev_t ds)) hs1) rfl (m1 ds (r_nil (k_ret ?_)))
  exact absurd rfl (by assumption)
theorem compare_ok {t : TB} {nx : Nat} (a b : Int) : WF tb 51 [.int .i64 a, .int .i64 b] t nx (fun v t' nx' => ∃ r : Int, v = .int .i64 r ∧ (a < b ∧ r = -1 ∨ a = b ∧ r = 0 ∨ b < a ∧ r = 1) ∧ nx ≤ nx' ∧ Keep t t' nx (fun _ => False)) := by
  refine k_fun compare_tab rfl ?_
  unfold compare_c
  change WC _ _ (TA.put (some _) (TA.put (some _) TA.e 0) 1) _ _ _
  refine k_seq (k_reg (r_op (o_mov ev_c) rfl (r_nil (k_seq (k_reg (m1 (z1 rfl (get_other rfl get_same)) (r_call (w_callF (evs_cons (ev_t ds) evs_nil)) rfl (WF.mono (isnan_ok a) ?_))))))))
  rintro _ t1 n2 ⟨rfl, hn1, hk1⟩
  refine m1 ds (r_nil (k_seq (k_reg (m1 (z4 rfl get_same) (r_call (w_callF (evs_cons (ev_t ds) evs_nil)) rfl (WF.mono (isnan_ok b) ?_))))))
  rintro _ t3 n4 ⟨rfl, hn2, hk2⟩
  refine m1 ds (r_nil (k_seq (k_seq (k_reg (m1 (z1 rfl (z2 rfl ds)) (r_nil (k_cond_f (ev_t ds) (k_skip (k_seq (k_seq (k_reg (m1 (z1 rfl ds) (r_nil (k_cond_f (ev_t ds) (k_skip (k_seq (k_seq (k_reg (m1 (z1 rfl (z8 rfl (get_other rfl get_same))) (m1 (z2 rfl (z8 rfl get_same)) (r_op (o_lss (ev_t (z1 rfl ds)) (ev_t ds)) rfl (r_nil ?_))))))))))))))))))))))
  refine k_cond (ev_t ds) (fun hc5 => ?_) (fun hc5 => ?_)
  · replace hc5 := of_decide_eq_true hc5
    refine k_seq (k_reg (r_op (o_mov ev_c) rfl (r_nil (k_ret ?_))))
    exact ⟨_, ans_tmp ds, _, rfl, by omega, by omega, Keep.trans (Keep.trans (Keep.refl _ _ _) hk1 (by omega) (fun d _ h => h)) hk2 (by omega) (fun d _ h => h)⟩
  replace hc5 := of_decide_eq_false hc5
  refine k_skip (k_seq (k_seq (k_reg (m1 (z4 rfl (z8 rfl (get_other rfl get_same))) (m1 (z1 rfl (z4 rfl (z8 rfl get_same))) (r_op (o_gtr (ev_t (z1 rfl ds)) (ev_t ds)) rfl (r_nil ?_)))))))
  refine k_cond (ev_t ds) (fun hc6 => ?_) (fun hc6 => ?_)
  · replace hc6 := of_decide_eq_true hc6
    refine k_seq (k_reg (r_op (o_mov ev_c) rfl (r_nil (k_ret ?_))))
    exact ⟨_, ans_tmp ds, _, rfl, by omega, by omega, Keep.trans (Keep.trans (Keep.refl _ _ _) hk1 (by omega) (fun d _ h => h)) hk2 (by omega) (fun d _ h => h)⟩
  replace hc6 := of_decide_eq_false hc6
  refine k_skip (k_seq (k_reg (r_op (o_mov ev_c) rfl (r_nil (k_ret ?_)))))
  exact ⟨_, ans_tmp ds, _, rfl, by omega, by omega, Keep.trans (Keep.trans (Keep.refl _ _ _) hk1 (by omega) (fun d _ h => h)) hk2 (by omega) (fun d _ h => h)⟩
theorem or_ok {t : TB} {nx bd : Nat} {sv : AV} {l : List Int} (hI : RowI t bd sv l) (hb : bd ≤ nx) (hl : l.length < 9223372036854775808) : WF tb 50 [sv] t nx (fun v t' nx' => v = .int .i64 (orL l) ∧ nx ≤ nx' ∧ Keep t t' nx (fun _ => False)) := by
  refine k_fun or__tab rfl ?_
  unfold or__c
  change WC _ _ (TA.put (some _) TA.e 0) _ _ _
  refine k_seq (k_reg (r_op (o_mov ev_c) rfl (r_nil (k_seq (k_reg (r_op (o_mov ev_c) rfl (r_nil (k_seq (k_seq (k_reg (m1 (z2 rfl get_same) (r_op (o_len_I hI (ev_t ds)) rfl (r_op (o_mov ev_c) rfl (r_nil (k_block (k_loop (fun mm Tv tv nv => ∃ i : Nat, i ≤ l.length ∧ orL l = orL (l.drop i) ∧ Tv.get 3 = some (.int .i64 0) ∧ Tv.get 6 = some sv ∧ Tv.get 7 = some (.int .i64 ((l.length : Nat) : Int)) ∧ Tv.get 8 = some (.int .i64 (i : Int)) ∧ nx ≤ nv ∧ Keep t tv nx (fun _ => False) ∧ mm + i = l.length) (fun mm Tv tv nv hI => ?_) (l.length) ⟨0, by omega, rfl, (z1 rfl (z2 rfl ds)), (z2 rfl ds), (z1 rfl ds), ds, by omega, Keep.refl _ _ _, by omega⟩))))))))))))))))
  obtain ⟨i, hi, hor, q3, q6, q7, q8, hnv, hkp, hmm⟩ := hI
  refine k_seq (k_reg (r_op (o_lss (ev_t q8) (ev_t q7)) rfl (r_nil (k_seq ?_))))
  refine k_cond (ev_t ds) (fun hc1 => ?_) (fun hc1 => ?_)
  · replace hc1 := of_decide_eq_true hc1
    refine k_skip (k_seq (k_block (k_seq ?_)))
    rcases hI with ⟨-, h0⟩ | ⟨di, oi, ci, exi, wri, ri, hie, hdi, hri, hrli, hsegi⟩
    · have h_ := congrArg List.length h0; simp only [List.length_nil] at h_; omega
    obtain ⟨k, hk⟩ := some_at (l := l) (i := i) (by omega)
    have hri1 := hkp.look (by omega) id hri
    refine k_reg (r_op (o_iaddrE (i := i) (ev_t (z1 rfl q6)) hie (ev_t (z1 rfl q8)) (by omega)) rfl ?_)
    refine r_op (o_load (ev_t ds) hri1 (by rw [Nat.mul_one]; exact rowI_get (i := i) hsegi hk)) rfl ?_
    refine m1 ds (r_nil (k_seq (k_reg (m1 ds (m1 (z1 rfl (z4 rfl q3)) (r_op (o_neq (ev_t (z1 rfl ds)) (ev_t ds)) rfl (r_nil ?_)))))))
    refine k_cond (ev_t ds) (fun hc2 => ?_) (fun hc2 => ?_)
    · replace hc2 := nd_t hc2
      refine k_seq (k_reg (m1 (z1 rfl (z2 rfl ds)) (m1 ds (r_nil (k_ret ?_)))))
      exact ⟨_, ans_tmp ds, by rw [hor, orL_at hk, if_neg (by assumption)], by omega, hkp⟩
    replace hc2 := nd_f hc2
    refine k_skip (k_reg (r_op (o_add (ev_t (z1 rfl (z2 rfl (z4 rfl q8)))) ev_c (by omega) (by omega)) rfl (m1 ds (r_nil ?_))))
    exact ⟨mm - 1, by omega, i + 1, by omega, by rw [hor, orL_at hk, if_pos (by assumption)], (z1 rfl (z8 rfl q3)), (z1 rfl (z8 rfl q6)), (z1 rfl (z8 rfl q7)), ds, by omega, hkp, by omega⟩
  replace hc1 := of_decide_eq_false hc1
  refine k_exit (exK_same (k_seq (k_reg (m1 (z1 rfl q3) (m1 ds (r_nil (k_ret ?_)))))))
  exact ⟨_, ans_tmp ds, by rw [hor, List.drop_eq_nil_of_le (by omega)]; rfl, by omega, hkp⟩
theorem rmay_ok {t : TB} {nx : Nat} (s : List Nat) (hl : s.length < 9223372036854775808) : WF tb 53 [.str s] t nx (fun v t' nx' => ∃ b : Bool, v = .bool b ∧ (b = true ↔ isV s) ∧ nx ≤ nx' ∧ Keep t t' nx (fun _ => False)) := by
  refine k_fun rmay_tab rfl ?_
  unfold rmay_c
  change WC _ _ (TA.put (some _) TA.e 0) _ _ _
  refine k_seq (k_reg (r_op (o_mov ev_c) rfl (r_nil (k_seq (k_seq (k_reg (r_op (o_mov ev_c) rfl (r_nil (k_block (k_loop (fun mm Tv tv nv => ∃ i : Nat, i ≤ s.length ∧ (∀ j, j < i → ∀ c, s[j]? = some c → bitC c) ∧ Tv.get 0 = some (.str s) ∧ Tv.get 3 = some (.int .i64 (i : Int)) ∧ nx ≤ nv ∧ Keep t tv nx (fun _ => False) ∧ mm + i = s.length) (fun mm Tv tv nv hI => ?_) (s.length) ⟨0, by omega, (fun j hj => by omega), (z2 rfl get_same), ds, by omega, Keep.refl _ _ _, by omega⟩))))))))))
  obtain ⟨i, hi, hok, q0, q3, hnv, hkp, hmm⟩ := hI
  refine k_seq (k_seq (k_reg (m1 q3 (m1 (z1 rfl q0) (r_op (o_len_str (ev_t ds)) rfl (r_op (o_lss (ev_t (z2 rfl ds)) (ev_t ds)) rfl (r_nil ?_)))))))
  refine k_cond (ev_t ds) (fun hc1 => ?_) (fun hc1 => ?_)
  · replace hc1 := of_decide_eq_true hc1
    refine k_skip (k_seq (k_block (k_seq ?_)))
    obtain ⟨k, hk⟩ := some_at (l := s) (i := i) (by omega)
    refine k_reg (m1 (z4 rfl q0) (m1 (z1 rfl (z4 rfl q3)) (r_op (o_sidx (i := i) (ev_t (z1 rfl ds)) (ev_t ds) hk) rfl ?_)))
    by_cases hs2 : (((k : Nat) : Int) = 48)
    · refine r_op (ndec_f (o_neq_u8 (ev_t ds) ev_c) hs2) rfl (m1 ds (r_off (want_not ds rfl) (r_off (want_not (z1 rfl ds) rfl) (r_off (want_not (z2 rfl ds) rfl) (r_off (want_not (z1 rfl (z2 rfl ds)) rfl) (r_op (o_pick_f (ev_t (z4 rfl ds)) ev_c) rfl (m1 ds (r_off (want_not ds rfl) (r_off (want_not (z1 rfl ds) rfl) (r_off (want_not (z2 rfl ds) rfl) (r_off (want_not (z1 rfl (z2 rfl ds)) rfl) (r_op (o_pick_f (ev_t (z4 rfl ds)) ev_c) rfl (m1 ds (r_off (want_not ds rfl) (r_off (want_not (z1 rfl ds) rfl) (r_off (want_not (z2 rfl ds) rfl) (r_off (want_not (z1 rfl (z2 rfl ds)) rfl) (r_op (o_pick_f (ev_t (z4 rfl ds)) ev_c) rfl (r_nil (k_cond_f (ev_t ds) (k_skip (k_reg (m1 (z2 rfl (z8 rfl (z8 rfl (z8 rfl q3)))) (r_op (o_add (ev_t ds) ev_c (by omega) (by omega)) rfl (m1 ds (r_nil (⟨mm - 1, by omega, i + 1, by omega, (fun j hj c hc_ => ?_), (z1 rfl (z4 rfl (z8 rfl (z8 rfl (z8 rfl q0))))), ds, by omega, hkp, by omega⟩)))))))))))))))))))))))))))
      rcases (show j < i ∨ j = i by omega) with hj | rfl
      · exact hok j hj c hc_
      rw [hk] at hc_; cases hc_; unfold bitC; omega
    refine r_op (ndec_t (o_neq_u8 (ev_t ds) ev_c) hs2) rfl (m1 ds (r_op (o_mov (ev_t (z1 rfl (z8 rfl q0)))) (want_on ds) (r_op (o_mov (ev_t (z2 rfl (z8 rfl q3)))) (want_on (z1 rfl ds)) (r_op (o_sidx (i := i) (ev_t (z1 rfl ds)) (ev_t ds) hk) (want_on (z2 rfl ds)) ?_))))
    by_cases hs3 : (((k : Nat) : Int) = 49)
    · refine r_op (ndec_f (o_neq_u8 (ev_t ds) ev_c) hs3) (want_on (z1 rfl (z2 rfl ds))) (r_op (o_pick_t (ev_t (z4 rfl ds)) (ev_t ds)) rfl (m1 ds (r_off (want_not ds rfl) (r_off (want_not (z1 rfl ds) rfl) (r_off (want_not (z2 rfl ds) rfl) (r_off (want_not (z1 rfl (z2 rfl ds)) rfl) (r_op (o_pick_f (ev_t (z4 rfl ds)) ev_c) rfl (m1 ds (r_off (want_not ds rfl) (r_off (want_not (z1 rfl ds) rfl) (r_off (want_not (z2 rfl ds) rfl) (r_off (want_not (z1 rfl (z2 rfl ds)) rfl) (r_op (o_pick_f (ev_t (z4 rfl ds)) ev_c) rfl (r_nil (k_cond_f (ev_t ds) (k_skip (k_reg (m1 (z2 rfl (z8 rfl (z8 rfl (z8 rfl q3)))) (r_op (o_add (ev_t ds) ev_c (by omega) (by omega)) rfl (m1 ds (r_nil (⟨mm - 1, by omega, i + 1, by omega, (fun j hj c hc_ => ?_), (z1 rfl (z4 rfl (z8 rfl (z8 rfl (z8 rfl q0))))), ds, by omega, hkp, by omega⟩))))))))))))))))))))))
      rcases (show j < i ∨ j = i by omega) with hj | rfl
      · exact hok j hj c hc_
      rw [hk] at hc_; cases hc_; unfold bitC; omega
    refine r_op (ndec_t (o_neq_u8 (ev_t ds) ev_c) hs3) (want_on (z1 rfl (z2 rfl ds))) (r_op (o_pick_t (ev_t (z4 rfl ds)) (ev_t ds)) rfl (m1 ds (r_op (o_mov (ev_t (z1 rfl (z2 rfl (z4 rfl (z8 rfl q0)))))) (want_on ds) (r_op (o_mov (ev_t (z8 rfl (z8 rfl q3)))) (want_on (z1 rfl ds)) (r_op (o_sidx (i := i) (ev_t (z1 rfl ds)) (ev_t ds) hk) (want_on (z2 rfl ds)) ?_)))))
    by_cases hs4 : (((k : Nat) : Int) = 120)
    · refine r_op (ndec_f (o_neq_u8 (ev_t ds) ev_c) hs4) (want_on (z1 rfl (z2 rfl ds))) (r_op (o_pick_t (ev_t (z4 rfl ds)) (ev_t ds)) rfl (m1 ds (r_off (want_not ds rfl) (r_off (want_not (z1 rfl ds) rfl) (r_off (want_not (z2 rfl ds) rfl) (r_off (want_not (z1 rfl (z2 rfl ds)) rfl) (r_op (o_pick_f (ev_t (z4 rfl ds)) ev_c) rfl (r_nil (k_cond_f (ev_t ds) (k_skip (k_reg (m1 (z2 rfl (z8 rfl (z8 rfl (z8 rfl q3)))) (r_op (o_add (ev_t ds) ev_c (by omega) (by omega)) rfl (m1 ds (r_nil (⟨mm - 1, by omega, i + 1, by omega, (fun j hj c hc_ => ?_), (z1 rfl (z4 rfl (z8 rfl (z8 rfl (z8 rfl q0))))), ds, by omega, hkp, by omega⟩))))))))))))))))
      rcases (show j < i ∨ j = i by omega) with hj | rfl
      · exact hok j hj c hc_
      rw [hk] at hc_; cases hc_; unfold bitC; omega
    refine r_op (ndec_t (o_neq_u8 (ev_t ds) ev_c) hs4) (want_on (z1 rfl (z2 rfl ds))) (r_op (o_pick_t (ev_t (z4 rfl ds)) (ev_t ds)) rfl (m1 ds (r_op (o_mov (ev_t (z1 rfl (z4 rfl (z8 rfl (z8 rfl q0)))))) (want_on ds) (r_op (o_mov (ev_t (z2 rfl (z4 rfl (z8 rfl (z8 rfl q3)))))) (want_on (z1 rfl ds)) (r_op (o_sidx (i := i) (ev_t (z1 rfl ds)) (ev_t ds) hk) (want_on (z2 rfl ds)) ?_)))))
    by_cases hs5 : (((k : Nat) : Int) = 122)
    · refine r_op (ndec_f (o_neq_u8 (ev_t ds) ev_c) hs5) (want_on (z1 rfl (z2 rfl ds))) (r_op (o_pick_t (ev_t (z4 rfl ds)) (ev_t ds)) rfl (r_nil (k_cond_f (ev_t ds) (k_skip (k_reg (m1 (z2 rfl (z8 rfl (z8 rfl (z8 rfl q3)))) (r_op (o_add (ev_t ds) ev_c (by omega) (by omega)) rfl (m1 ds (r_nil (⟨mm - 1, by omega, i + 1, by omega, (fun j hj c hc_ => ?_), (z1 rfl (z4 rfl (z8 rfl (z8 rfl (z8 rfl q0))))), ds, by omega, hkp, by omega⟩))))))))))
      rcases (show j < i ∨ j = i by omega) with hj | rfl
      · exact hok j hj c hc_
      rw [hk] at hc_; cases hc_; unfold bitC; omega
    refine r_op (ndec_t (o_neq_u8 (ev_t ds) ev_c) hs5) (want_on (z1 rfl (z2 rfl ds))) (r_op (o_pick_t (ev_t (z4 rfl ds)) (ev_t ds)) rfl (r_nil (k_cond_t (ev_t ds) (k_seq (k_reg (r_op (o_mov ev_c) rfl (r_nil (k_ret ?_))))))))
    exact ⟨_, ans_tmp ds, _, rfl, ⟨(fun h => by cases h), fun h => by exfalso; obtain ⟨h1_, h2_, h3_⟩ := h; first | omega | (have h4_ := h3_ k (List.mem_of_getElem? hk); unfold bitC at h4_; omega)⟩, by omega, hkp⟩
  replace hc1 := of_decide_eq_false hc1
  refine k_exit (exK_same (k_seq (k_reg (m1 (z4 rfl q0) (r_op (o_len_str (ev_t ds)) rfl ?_)))))
  by_cases hs6 : (((s.length : Nat) : Int) < 1)
  · refine r_op (ndec_f (o_geq (ev_t ds) ev_c) hs6) rfl (m1 ds (r_off (want_not ds rfl) (r_off (want_not (z1 rfl ds) rfl) (r_off (want_not (z2 rfl ds) rfl) (r_op (o_pick_f (ev_t (z1 rfl (z2 rfl ds))) ev_c) rfl (m1 ds (r_nil (k_ret ?_))))))))
    exact ⟨_, ans_tmp ds, _, rfl, ⟨(fun h => by cases h), fun h => by exfalso; obtain ⟨h1_, h2_, h3_⟩ := h; first | omega | (have h4_ := h3_ k (List.mem_of_getElem? hk); unfold bitC at h4_; omega)⟩, by omega, hkp⟩
  refine r_op (ndec_t (o_geq (ev_t ds) ev_c) hs6) rfl (m1 ds (r_op (o_mov (ev_t (z8 rfl q0))) (want_on ds) (r_op (o_len_str (ev_t ds)) (want_on (z1 rfl ds)) ?_)))
  by_cases hs7 : (256 < ((s.length : Nat) : Int))
  · refine r_op (ndec_f (o_leq (ev_t ds) ev_c) hs7) (want_on (z2 rfl ds)) (r_op (o_pick_t (ev_t (z1 rfl (z2 rfl ds))) (ev_t ds)) rfl (m1 ds (r_nil (k_ret ?_))))
    exact ⟨_, ans_tmp ds, _, rfl, ⟨(fun h => by cases h), fun h => by exfalso; obtain ⟨h1_, h2_, h3_⟩ := h; first | omega | (have h4_ := h3_ k (List.mem_of_getElem? hk); unfold bitC at h4_; omega)⟩, by omega, hkp⟩
  refine r_op (ndec_t (o_leq (ev_t ds) ev_c) hs7) (want_on (z2 rfl ds)) (r_op (o_pick_t (ev_t (z1 rfl (z2 rfl ds))) (ev_t ds)) rfl (m1 ds (r_nil (k_ret ?_))))
  exact ⟨_, ans_tmp ds, _, rfl, ⟨fun _ => ⟨by omega, by omega, fun c hc_ => by obtain ⟨j, hj, rfl⟩ := List.mem_iff_getElem.1 hc_; exact hok j (by omega) _ (List.getElem?_eq_getElem hj)⟩, fun _ => rfl⟩, by omega, hkp⟩
end Go.Proofs.YtpjohgnhmjceiaaGreatDoor.WX

set_option linter.all false
set_option linter.unusedVariables false
set_option linter.unusedSectionVars false
set_option maxRecDepth 100000
open Go Go.Proofs.YtpjohgnhmjceiaaGreatDoor.AX Go.Proofs
namespace Go.Proofs.YtpjohgnhmjceiaaGreatDoor.WX
variable [Env]
set_option maxHeartbeats 8000000 in
theorem stim_ok {t : TB} {nx bd : Nat} {vn vt cv : AV} {p b : Int} {ns : List Nd} {ts : List Int} {cs : List Chg} (hN : RowN t bd vn ns) (hT : RowI t bd vt ts) (hC : RowC t bd cv cs) (hb : bd ≤ nx) (hnl : ns.length < 9223372036854775808) (htl : ts.length < 9223372036854775808) (hcl : cs.length < 9223372036854775808)
    (hnets : ∀ k ∈ ts, 0 ≤ k ∧ k < (ns.length : Int)) (hcv : ∀ c ∈ cs, (∀ b ∈ c.val, b < 256) ∧ c.val.length < 9223372036854775808) :
    WF tb 15 [.agg [vn, vt, .int .i64 p], cv, .int .i64 b] t nx (fun v t' nx' => ∃ r : Bool, v = .bool r ∧ (r = true ↔ StimP ns ts cs b) ∧ nx ≤ nx' ∧ Keep t t' nx (fun _ => False)) := by
  have hcn := hN.cell
  have hct := hT.cell
  refine k_fun stim_tab rfl ?_
  unfold stim_c
  change WC _ _ (TA.put (some _) (TA.put (some _) (TA.put (some _) TA.e 0) 1) 2) _ _ _
  refine k_seq (k_reg (r_heap (o_box (ev_t (get_other rfl (get_other rfl get_same)))) rfl (fun t1 (hh2 : hv t1 = upd (hv t) nx (some (.row [vn, vt, (.int .i64 p)] true))) => r_op (o_mov ev_c) rfl (r_nil (k_seq (k_seq (k_reg (m1 (z2 rfl get_same) ?_))))))))
  by_cases hs3 : (b < 0)
  · refine r_op (dec_t (o_lss (ev_t ds) ev_c) hs3) rfl (m1 ds (r_off (want_not ds rfl) (r_off (want_not (z1 rfl ds) rfl) (r_op (o_pick_t (ev_t (z2 rfl ds)) ev_c) rfl (r_nil (k_cond_t (ev_t ds) (k_seq (k_reg (r_op (o_mov ev_c) rfl (r_nil (k_ret ?_)))))))))))
    have hno : ¬ StimP ns ts cs b := by
      intro h
      have h1 := h.upto; omega
    exact ⟨_, ans_tmp ds, _, rfl, ⟨(fun h => by cases h), fun h => absurd h hno⟩, by omega, Keep.upd (Keep.refl _ _ _) hh2 (.inl (by omega))⟩
  refine r_op (dec_f (o_lss (ev_t ds) ev_c) hs3) rfl (m1 ds (r_op (o_mov (ev_t (z1 rfl (z4 rfl get_same)))) (want_on ds) ?_))
  by_cases hs4 : (4611686018427387903 < b)
  · refine r_op (dec_t (o_gtr (ev_t ds) ev_c) hs4) (want_on (z1 rfl ds)) (r_op (o_pick_f (ev_t (z2 rfl ds)) (ev_t ds)) rfl (r_nil (k_cond_t (ev_t ds) (k_seq (k_reg (r_op (o_mov ev_c) rfl (r_nil (k_ret ?_))))))))
    have hno : ¬ StimP ns ts cs b := by
      intro h
      have h1 := h.upto; omega
    exact ⟨_, ans_tmp ds, _, rfl, ⟨(fun h => by cases h), fun h => absurd h hno⟩, by omega, Keep.upd (Keep.refl _ _ _) hh2 (.inl (by omega))⟩
  refine r_op (dec_f (o_gtr (ev_t ds) ev_c) hs4) (want_on (z1 rfl ds)) (r_op (o_pick_f (ev_t (z2 rfl ds)) (ev_t ds)) rfl (r_nil (k_cond_f (ev_t ds) (k_skip (k_seq (k_seq (k_reg (r_op (o_mov ev_c) rfl (r_nil (k_block (k_loop (fun mm Tv tv nv => ∃ i : Nat, i ≤ cs.length ∧ (∀ j, j < i → ∀ c, cs[j]? = some c → chgOK ns ts c) ∧ (∀ j, j + 1 < i → ∀ a c, cs[j]? = some a → cs[j + 1]? = some c → chgLt a c) ∧ Tv.get 3 = some (.ptr nx 0) ∧ Tv.get 1 = some cv ∧ Tv.get 7 = some (.int .i64 ((i : Nat) : Int)) ∧ hv tv nx = some (.row [vn, vt, .int .i64 p] true) ∧ nx + 1 ≤ nv ∧ Keep t tv nx (fun _ => False) ∧ mm + i = cs.length) (fun mm Tv tv nv hI => ?_) (cs.length) ⟨0, by omega, (fun j hj => by omega), (fun j hj => by omega), (z8 rfl ds), (z1 rfl (z8 rfl (get_other rfl get_same))), ds, (look_same hh2), by omega, Keep.upd (Keep.refl _ _ _) hh2 (.inl (by omega)), by omega⟩)))))))))))
  obtain ⟨i, hi, hok, hri, q3, q1, q7, hr1, hnv, hkp, hmm⟩ := hI
  refine k_seq (k_seq (k_reg (m1 q7 (m1 (z1 rfl q1) (r_op (o_len_C hC (ev_t ds)) rfl (r_op (o_lss (ev_t (z2 rfl ds)) (ev_t ds)) rfl (r_nil ?_)))))))
  refine k_cond (ev_t ds) (fun hc5 => ?_) (fun hc5 => ?_)
  · replace hc5 := of_decide_eq_true hc5
    refine k_skip (k_seq (k_block (k_seq ?_)))
    rcases hC with ⟨-, h0⟩ | ⟨dc, oc, cc, exc, wrc, rc, hce, hdc, hrc, hrlc, hsegc⟩
    · have h_ := congrArg List.length h0; simp only [List.length_nil] at h_; omega
    obtain ⟨c, hc⟩ := some_at (l := cs) (i := i) (by omega)
    have hcm := List.mem_of_getElem? hc
    have hcb := hcv c hcm
    have hrc1 := hkp.look (by omega) id hrc
    refine k_reg (m1 (z4 rfl q1) (m1 (z1 rfl (z4 rfl q7)) (r_op (o_iaddrE (i := i) (ev_t (z1 rfl ds)) hce (ev_t ds) (by omega)) rfl (r_op (o_loadA (n := 3) (ev_t ds) hrc1 (by omega) (rowC_all hsegc hc)) rfl (r_heap (o_alloc) rfl (fun t6 (hh7 : hv t6 = upd (hv tv) nv (some (.row [(.int .i64 0), (.int .i64 0), (.str [])] true))) => r_heap (o_store (n := 3) (ev_t ds) (ev_t (z1 rfl ds)) (look_same hh7) rfl rfl (leb rfl)) rfl (fun t8 (hh9 : hv t8 = upd (hv t6) nv (some (.row [(.int .i64 c.at_), (.int .i64 c.net), (.str c.val)] true))) => r_nil (k_seq (k_seq (k_reg (r_op (o_faddr (off := 0) (ev_t (z1 rfl ds))) rfl (r_op (o_load (ev_t ds) (look_same hh9) rfl) rfl ?_))))))))))))
    by_cases hs10 : (c.at_ < 0)
    · refine r_op (dec_t (o_lss (ev_t ds) ev_c) hs10) rfl (m1 ds (r_off (want_not ds rfl) (r_off (want_not (z1 rfl ds) rfl) (r_off (want_not (z2 rfl ds) rfl) (r_op (o_pick_t (ev_t (z1 rfl (z2 rfl ds))) ev_c) rfl (m1 ds (r_off (want_not ds rfl) (r_off (want_not (z1 rfl ds) rfl) (r_off (want_not (z2 rfl ds) rfl) (r_op (o_pick_t (ev_t (z1 rfl (z2 rfl ds))) ev_c) rfl (m1 ds (r_off (want_not ds rfl) (r_off (want_not (z1 rfl ds) rfl) (r_off (want_not (z2 rfl ds) rfl) (r_off (want_not (z1 rfl (z2 rfl ds)) rfl) (r_off (want_not (z4 rfl ds) rfl) (r_off (want_not (z1 rfl (z4 rfl ds)) rfl) (r_op (o_pick_t (ev_t (z2 rfl (z4 rfl ds))) ev_c) rfl (m1 ds (r_off (want_not ds rfl) (r_off (want_not (z1 rfl ds) rfl) (r_off (want_not (z2 rfl ds) rfl) (r_off (want_not (z1 rfl (z2 rfl ds)) rfl) (r_op (o_pick_t (ev_t (z4 rfl ds)) ev_c) rfl (r_nil (k_cond_t (ev_t ds) (k_seq (k_reg (r_op (o_mov ev_c) rfl (r_nil (k_ret ?_)))))))))))))))))))))))))))))))
      have hno : ¬ StimP ns ts cs b := by
        intro h
        obtain ⟨h1, h2, h3, k_, x_, h4, h5, h6, h7⟩ := h.each c hcm
        first | omega | exact absurd (hb_b.2 h3) (by assumption)
      exact ⟨_, ans_tmp ds, _, rfl, ⟨(fun h => by cases h), fun h => absurd h hno⟩, by omega, Keep.upd (Keep.upd (hkp) hh7 (.inl (by omega))) hh9 (.inl (by omega))⟩
    refine r_op (dec_f (o_lss (ev_t ds) ev_c) hs10) rfl (m1 ds (r_op (o_faddr (off := 0) (ev_t (z1 rfl (z4 rfl ds)))) (want_on ds) (r_op (o_load (ev_t ds) (look_same hh9) rfl) (want_on (z1 rfl ds)) ?_)))
    by_cases hs11 : (4611686018427387903 < c.at_)
    · refine r_op (dec_t (o_gtr (ev_t ds) ev_c) hs11) (want_on (z2 rfl ds)) (r_op (o_pick_f (ev_t (z1 rfl (z2 rfl ds))) (ev_t ds)) rfl (m1 ds (r_off (want_not ds rfl) (r_off (want_not (z1 rfl ds) rfl) (r_off (want_not (z2 rfl ds) rfl) (r_op (o_pick_t (ev_t (z1 rfl (z2 rfl ds))) ev_c) rfl (m1 ds (r_off (want_not ds rfl) (r_off (want_not (z1 rfl ds) rfl) (r_off (want_not (z2 rfl ds) rfl) (r_off (want_not (z1 rfl (z2 rfl ds)) rfl) (r_off (want_not (z4 rfl ds) rfl) (r_off (want_not (z1 rfl (z4 rfl ds)) rfl) (r_op (o_pick_t (ev_t (z2 rfl (z4 rfl ds))) ev_c) rfl (m1 ds (r_off (want_not ds rfl) (r_off (want_not (z1 rfl ds) rfl) (r_off (want_not (z2 rfl ds) rfl) (r_off (want_not (z1 rfl (z2 rfl ds)) rfl) (r_op (o_pick_t (ev_t (z4 rfl ds)) ev_c) rfl (r_nil (k_cond_t (ev_t ds) (k_seq (k_reg (r_op (o_mov ev_c) rfl (r_nil (k_ret ?_)))))))))))))))))))))))))))
      have hno : ¬ StimP ns ts cs b := by
        intro h
        obtain ⟨h1, h2, h3, k_, x_, h4, h5, h6, h7⟩ := h.each c hcm
        first | omega | exact absurd (hb_b.2 h3) (by assumption)
      exact ⟨_, ans_tmp ds, _, rfl, ⟨(fun h => by cases h), fun h => absurd h hno⟩, by omega, Keep.upd (Keep.upd (hkp) hh7 (.inl (by omega))) hh9 (.inl (by omega))⟩
    refine r_op (dec_f (o_gtr (ev_t ds) ev_c) hs11) (want_on (z2 rfl ds)) (r_op (o_pick_f (ev_t (z1 rfl (z2 rfl ds))) (ev_t ds)) rfl (m1 ds (r_op (o_faddr (off := 1) (ev_t (z2 rfl (z8 rfl ds)))) (want_on ds) (r_op (o_load (ev_t ds) (look_same hh9) rfl) (want_on (z1 rfl ds)) ?_))))
    by_cases hs12 : (c.net < 0)
    · refine r_op (dec_t (o_lss (ev_t ds) ev_c) hs12) (want_on (z2 rfl ds)) (r_op (o_pick_f (ev_t (z1 rfl (z2 rfl ds))) (ev_t ds)) rfl (m1 ds (r_off (want_not ds rfl) (r_off (want_not (z1 rfl ds) rfl) (r_off (want_not (z2 rfl ds) rfl) (r_off (want_not (z1 rfl (z2 rfl ds)) rfl) (r_off (want_not (z4 rfl ds) rfl) (r_off (want_not (z1 rfl (z4 rfl ds)) rfl) (r_op (o_pick_t (ev_t (z2 rfl (z4 rfl ds))) ev_c) rfl (m1 ds (r_off (want_not ds rfl) (r_off (want_not (z1 rfl ds) rfl) (r_off (want_not (z2 rfl ds) rfl) (r_off (want_not (z1 rfl (z2 rfl ds)) rfl) (r_op (o_pick_t (ev_t (z4 rfl ds)) ev_c) rfl (r_nil (k_cond_t (ev_t ds) (k_seq (k_reg (r_op (o_mov ev_c) rfl (r_nil (k_ret ?_))))))))))))))))))))))
      have hno : ¬ StimP ns ts cs b := by
        intro h
        obtain ⟨h1, h2, h3, k_, x_, h4, h5, h6, h7⟩ := h.each c hcm
        first | omega | exact absurd (hb_b.2 h3) (by assumption)
      exact ⟨_, ans_tmp ds, _, rfl, ⟨(fun h => by cases h), fun h => absurd h hno⟩, by omega, Keep.upd (Keep.upd (hkp) hh7 (.inl (by omega))) hh9 (.inl (by omega))⟩
    refine r_op (dec_f (o_lss (ev_t ds) ev_c) hs12) (want_on (z2 rfl ds)) (r_op (o_pick_f (ev_t (z1 rfl (z2 rfl ds))) (ev_t ds)) rfl (m1 ds (r_op (o_faddr (off := 1) (ev_t (z1 rfl (z2 rfl (z4 rfl (z8 rfl ds)))))) (want_on ds) (r_op (o_load (ev_t ds) (look_same hh9) rfl) (want_on (z1 rfl ds)) (r_op (o_faddr (off := 1) (ev_t (z2 rfl (z8 rfl (z8 rfl (z8 rfl q3)))))) (want_on (z2 rfl ds)) (r_op (o_load (ev_t ds) (look_ne hh9 (by omega) (look_ne hh7 (by omega) hr1)) rfl) (want_on (z1 rfl (z2 rfl ds))) (r_op (o_len_I hT (ev_t ds)) (want_on (z4 rfl ds)) ?_)))))))
    by_cases hs13 : (c.net < ((ts.length : Nat) : Int))
    · refine r_op (ndec_f (o_geq (ev_t (z1 rfl (z2 rfl ds))) (ev_t ds)) hs13) (want_on (z1 rfl (z4 rfl ds))) (r_op (o_pick_f (ev_t (z2 rfl (z4 rfl ds))) (ev_t ds)) rfl (m1 ds (r_op (o_faddr (off := 2) (ev_t (z1 rfl (z2 rfl (z4 rfl (z8 rfl (z8 rfl ds))))))) (want_on ds) (r_op (o_load (ev_t ds) (look_same hh9) rfl) (want_on (z1 rfl ds)) (r_call (w_callF (evs_cons (ev_t ds) evs_nil)) (want_on (z2 rfl ds)) (WF.mono (WF.decb (rmay_ok c.val (by omega))) ?_))))))
      rintro _ t14 n15 ⟨b_, rfl, hb_b, hn_b, hk_b⟩
      by_cases hs16 : (b_ = true)
      · refine r_op (ndec_f (o_not (ev_t ds)) hs16) (want_on (z1 rfl (z2 rfl ds))) (r_op (o_pick_f (ev_t (z4 rfl ds)) (ev_t ds)) rfl (r_nil (k_cond_f (ev_t ds) (k_skip (k_seq ?_)))))
        rcases hT with ⟨-, h0⟩ | ⟨di, oi, ci, exi, wri, ri, hie, hdi, hri_, hrli, hsegi⟩
        · have h_ := congrArg List.length h0; simp only [List.length_nil] at h_; omega
        obtain ⟨k, hk⟩ := some_at (l := ts) (i := c.net.toNat) (by omega)
        have hkr := hnets k (List.mem_of_getElem? hk)
        rcases hN with ⟨-, h0⟩ | ⟨dN, on, cn, exn, wrn, rn, ivs, hne, hdn, hrn, hrln, hsegn, hivl, hivr⟩
        · have h_ := congrArg List.length h0; simp only [List.length_nil] at h_; omega
        obtain ⟨x, hx⟩ := some_at (l := ns) (i := k.toNat) (by omega)
        obtain ⟨iv, hiv⟩ := some_at (l := ivs) (i := k.toNat) (by omega)
        have hic := (hivr _ x iv hx hiv).cell
        have hri1 := hkp.look (by omega) id hri_
        have hrn1 := hkp.look (by omega) id hrn
        have hfi := (hivr _ x iv hx hiv).flat
        have hfn : flatC vn = true := by rw [hne]; rfl
        have hft : flatC vt = true := by rw [hie]; rfl
        have hfc : flatC cv = true := by rw [hce]; rfl
        refine k_draw (e_op 0 rfl (o_faddr (off := 0) (ev_t (z1 rfl (z4 rfl (z8 rfl (z8 rfl (z8 rfl (z8 rfl q3)))))))) rfl (e_op 1 rfl (o_load (ev_t ds) (Keep.look hk_b (by omega) id (look_ne hh9 (by omega) (look_ne hh7 (by omega) hr1))) rfl) rfl (e_op 2 rfl (o_faddr (off := 1) (ev_t (z1 rfl (z2 rfl (z4 rfl (z8 rfl (z8 rfl (z8 rfl (z8 rfl q3))))))))) rfl (e_op 3 rfl (o_load (ev_t ds) (Keep.look hk_b (by omega) id (look_ne hh9 (by omega) (look_ne hh7 (by omega) hr1))) rfl) rfl (e_op 4 rfl (o_faddr (off := 1) (ev_t (z8 rfl (z8 rfl (z8 rfl (z8 rfl ds)))))) rfl (e_op 5 rfl (o_load (ev_t ds) (Keep.look hk_b (by omega) id (look_same hh9)) rfl) rfl (e_op 6 rfl (o_iaddrE (i := (c.net).toNat) (ev_t (z2 rfl ds)) hie (ev_cast (ev_t ds) (by omega)) (by omega)) rfl ?_)))))))
        refine e_op 7 rfl (o_load (ev_t ds) (Keep.look hk_b (by omega) id (look_ne hh9 (by omega) (look_ne hh7 (by omega) hri1))) (by rw [Nat.mul_one]; exact rowI_get (i := c.net.toNat) hsegi hk)) rfl ?_
        refine e_op 8 rfl (o_iaddrE (i := (k).toNat) (ev_t (z2 rfl (z4 rfl ds))) hne (ev_cast (ev_t ds) (by omega)) (by omega)) rfl (e_op 9 rfl (o_loadA (n := 8) (ev_t ds) (Keep.look hk_b (by omega) id (look_ne hh9 (by omega) (look_ne hh7 (by omega) hrn1))) (by omega) (nodeN_all hsegn hivl hx hiv)) rfl ?_)
        refine d_heap (ix := 10) (pr := []) (d := (some 9)) (g := none) (F' := [(⟨9, [8], ⟨(some 62), none, (.op (.loadA 8 (.t 61)))⟩⟩, (.agg [(.int .i64 x.kind), (.int .i64 x.op), (.int .i64 x.wide), iv, (.str x.value), (.int .i64 x.hi), (.int .i64 x.lo), (.int .i64 x.time)])), (⟨8, [1, 7], ⟨(some 61), none, (.op (.iaddr 8 (.t 54) (.t 60)))⟩⟩, (.ptr dN (on + (k).toNat * 8))), (⟨7, [6], ⟨(some 60), none, (.op (.load (.t 59)))⟩⟩, (.int .i64 k)), (⟨6, [3, 5], ⟨(some 59), none, (.op (.iaddr 1 (.t 56) (.t 58)))⟩⟩, (.ptr di (oi + (c.net).toNat * 1))), (⟨5, [4], ⟨(some 58), none, (.op (.load (.t 57)))⟩⟩, (.int .i64 c.net)), (⟨4, [], ⟨(some 57), none, (.op (.faddr (.t 8) 1))⟩⟩, (.ptr nv 1)), (⟨3, [2], ⟨(some 56), none, (.op (.load (.t 55)))⟩⟩, vt), (⟨2, [], ⟨(some 55), none, (.op (.faddr (.t 3) 1))⟩⟩, (.ptr nx 1)), (⟨1, [0], ⟨(some 54), none, (.op (.load (.t 53)))⟩⟩, vn), (⟨0, [], ⟨(some 53), none, (.op (.faddr (.t 3) 0))⟩⟩, (.ptr nx 0))]) (o := (.alloc [(.int .i64 0), (.int .i64 0), (.int .i64 0), .nslice, (.str []), (.int .i64 0), (.int .i64 0), (.int .i64 0)])) (o_alloc) rfl (by kernel_rfl) (by kernel_rfl) (by kernel_rfl) (by kernel_rfl) (fun t17 (hh18 : hv t17 = upd (hv t14) n15 (some (.row [(.int .i64 0), (.int .i64 0), (.int .i64 0), .nslice, (.str []), (.int .i64 0), (.int .i64 0), (.int .i64 0)] true))) => ⟨?_, ?_⟩)
        · exact (all_cons_ (still_op rfl rfl (o_loadA (n := 8) (ev_t (z2 rfl ds)) (look_ne hh18 (by omega) (Keep.look hk_b (by omega) id (look_ne hh9 (by omega) (look_ne hh7 (by omega) hrn1)))) (by omega) (nodeN_all hsegn hivl hx hiv)) (aeq_agg (ncells_flat x hfi))) (all_cons_ (still_op rfl rfl (o_iaddrE (i := (k).toNat) (ev_t (z1 rfl (z8 rfl ds))) hne (ev_cast (ev_t (z1 rfl (z2 rfl ds))) (by omega)) (by omega)) (aeq_flat rfl)) (all_cons_ (still_op rfl rfl (o_load (ev_t (z4 rfl ds)) (look_ne hh18 (by omega) (Keep.look hk_b (by omega) id (look_ne hh9 (by omega) (look_ne hh7 (by omega) hri1)))) (by rw [Nat.mul_one]; exact rowI_get (i := c.net.toNat) hsegi hk)) (aeq_flat rfl)) (all_cons_ (still_op rfl rfl (o_iaddrE (i := (c.net).toNat) (ev_t (z1 rfl (z2 rfl (z4 rfl ds)))) hie (ev_cast (ev_t (z1 rfl (z4 rfl ds))) (by omega)) (by omega)) (aeq_flat rfl)) (all_cons_ (still_op rfl rfl (o_load (ev_t (z2 rfl (z4 rfl ds))) (look_ne hh18 (by omega) (Keep.look hk_b (by omega) id (look_same hh9))) rfl) (aeq_flat rfl)) (all_cons_ (still_op rfl rfl (o_faddr (off := 1) (ev_t (z1 rfl (z2 rfl (z4 rfl (z8 rfl (z8 rfl (z8 rfl (z8 rfl ds))))))))) (aeq_flat rfl)) (all_cons_ (still_op rfl rfl (o_load (ev_t (z8 rfl ds)) (look_ne hh18 (by omega) (Keep.look hk_b (by omega) id (look_ne hh9 (by omega) (look_ne hh7 (by omega) hr1)))) rfl) (aeq_flat hft)) (all_cons_ (still_op rfl rfl (o_faddr (off := 1) (ev_t (z8 rfl (z8 rfl (z8 rfl (z8 rfl (z8 rfl (z8 rfl q3)))))))) (aeq_flat rfl)) (all_cons_ (still_op rfl rfl (o_load (ev_t (z2 rfl (z8 rfl ds))) (look_ne hh18 (by omega) (Keep.look hk_b (by omega) id (look_ne hh9 (by omega) (look_ne hh7 (by omega) hr1)))) rfl) (aeq_flat hfn)) (all_cons_ (still_op rfl rfl (o_faddr (off := 0) (ev_t (z8 rfl (z8 rfl (z8 rfl (z8 rfl (z8 rfl (z8 rfl q3)))))))) (aeq_flat rfl)) all_nil_))))))))))
        refine d_heap (ix := 11) (pr := [10, 9, 0, 1, 2, 3, 4, 5, 6, 7, 8, 9, 10]) (d := none) (g := none) (F' := []) (o := (.store 8 (.t 9) (.t 62))) (o_store (n := 8) (ev_t ds) (ev_t (z1 rfl ds)) (look_same hh18) rfl (ncells_cell x hic) (leb rfl)) rfl (by kernel_rfl) (by kernel_rfl) (by kernel_rfl) (by kernel_rfl) (fun t19 (hh20 : hv t19 = upd (hv t17) n15 (some (.row [(.int .i64 x.kind), (.int .i64 x.op), (.int .i64 x.wide), iv, (.str x.value), (.int .i64 x.hi), (.int .i64 x.lo), (.int .i64 x.time)] true))) => ⟨?_, ?_⟩)
        · exact all_nil_
        refine e_done (k_seq (k_seq (k_reg (r_op (o_faddr (off := 0) (ev_t (z1 rfl ds))) rfl (r_op (o_load (ev_t ds) (look_same hh20) rfl) rfl ?_)))))
        by_cases hs21 : (x.kind = 2)
        · refine r_op (ndec_f (o_neq (ev_t ds) ev_c) hs21) rfl (m1 ds (r_op (o_faddr (off := 2) (ev_t (z1 rfl (z4 rfl ds)))) (want_on ds) (r_op (o_load (ev_t ds) (look_same hh20) rfl) (want_on (z1 rfl ds)) (r_op (o_faddr (off := 2) (ev_t (z2 rfl (z4 rfl (z8 rfl (z8 rfl (z8 rfl (z8 rfl (z8 rfl ds))))))))) (want_on (z2 rfl ds)) (r_op (o_load (ev_t ds) (look_ne hh20 (by omega) (look_ne hh18 (by omega) (Keep.look hk_b (by omega) id (look_same hh9)))) rfl) (want_on (z1 rfl (z2 rfl ds))) (r_op (o_len_str (ev_t ds)) (want_on (z4 rfl ds)) ?_))))))
          by_cases hs22 : (x.wide = ((c.val.length : Nat) : Int))
          · refine r_op (ndec_f (o_neq (ev_t (z1 rfl (z2 rfl ds))) (ev_t ds)) hs22) (want_on (z1 rfl (z4 rfl ds))) (r_op (o_pick_f (ev_t (z2 rfl (z4 rfl ds))) (ev_t ds)) rfl (r_nil (k_cond_f (ev_t ds) (k_skip (k_seq ?_)))))
            rcases Nat.eq_zero_or_pos i with hi0 | hi0
            · have hz_ : ¬ ((0 : Int) < ((i : Nat) : Int)) := by omega
              refine k_draw (e_op 0 rfl (o_mov (ev_t (z4 rfl (z8 rfl (z8 rfl (z8 rfl (z8 rfl (z8 rfl (z8 rfl (z8 rfl q7)))))))))) rfl (e_op 1 rfl (dec_f (o_gtr (ev_t ds) ev_c) hz_) rfl (e_op 2 rfl (o_mov (ev_t ds)) rfl (e_off 3 rfl (want_not ds rfl) (e_off 4 rfl (want_not (z1 rfl ds) rfl) (e_off 5 rfl (want_not (z2 rfl ds) rfl) (e_off 6 rfl (want_not (z1 rfl (z2 rfl ds)) rfl) (e_off 7 rfl (want_not (z4 rfl ds) rfl) (e_off 8 rfl (want_not (z1 rfl (z4 rfl ds)) rfl) (e_off 9 rfl (want_not (z2 rfl (z4 rfl ds)) rfl) (e_off 10 rfl (want_not (z1 rfl (z2 rfl (z4 rfl ds))) rfl) (e_off 11 rfl (want_not (z8 rfl ds) rfl) (e_off 12 rfl (want_not (z1 rfl (z8 rfl ds)) rfl) (e_off 13 rfl (want_undef ds) (e_off 14 rfl (want_undef (z1 rfl ds)) (e_off 15 rfl (want_undef (z2 rfl ds)) (e_off 16 rfl (want_undef (z1 rfl (z2 rfl ds))) (e_off 17 rfl (want_undef (z4 rfl ds)) (e_off 18 rfl (want_undef (z1 rfl (z4 rfl ds))) (e_off 19 rfl (want_undef (z2 rfl (z4 rfl ds))) (e_off 20 rfl (want_undef (z1 rfl (z2 rfl (z4 rfl ds)))) (e_off 21 rfl (want_undef (z8 rfl ds)) (e_off 22 rfl (want_undef (z1 rfl (z8 rfl ds))) (e_off 23 rfl (want_undef ds) (e_off 24 rfl (want_undef (z1 rfl ds)) (e_off 25 rfl (want_undef (z2 rfl ds)) (e_off 26 rfl (want_undef (z1 rfl (z2 rfl ds))) (e_off 27 rfl (want_undef (z4 rfl ds)) (e_off 28 rfl (want_undef (z1 rfl (z4 rfl ds))) (e_off 29 rfl (want_undef (z2 rfl (z4 rfl ds))) (e_off 30 rfl (want_undef (z1 rfl (z2 rfl (z4 rfl ds)))) (e_off 31 rfl (want_undef (z8 rfl ds)) ?_))))))))))))))))))))))))))))))))
              refine e_off 32 rfl (want_undef (z1 rfl (z2 rfl (z8 rfl (z8 rfl ds))))) (e_off 33 rfl (want_not (z2 rfl (z4 rfl (z8 rfl (z8 rfl (z8 rfl ds))))) rfl) (e_op 34 rfl (o_pick_f (ev_t (z1 rfl (z2 rfl (z4 rfl (z8 rfl (z8 rfl (z8 rfl ds))))))) ev_c) rfl (e_done (k_cond_f (ev_t ds) (k_skip (k_reg (r_op (o_mov (ev_t (z1 rfl (z2 rfl (z4 rfl (z8 rfl (z8 rfl (z8 rfl (z8 rfl (z8 rfl (z8 rfl (z8 rfl (z8 rfl (z8 rfl (z8 rfl (z8 rfl q7)))))))))))))))) rfl (r_op (o_add (ev_t ds) ev_c (by omega) (by omega)) rfl (m1 ds (r_nil ?_))))))))))
              refine ⟨mm - 1, by omega, i + 1, by omega, (fun j hj c_ hc_ => ?_), (fun j hj a_ c_ ha_ hc_ => ?_), (z2 rfl (z8 rfl (z8 rfl (z8 rfl (z8 rfl (z8 rfl (z8 rfl (z8 rfl (z8 rfl (z8 rfl (z8 rfl (z8 rfl (z8 rfl q3))))))))))))), (z2 rfl (z8 rfl (z8 rfl (z8 rfl (z8 rfl (z8 rfl (z8 rfl (z8 rfl (z8 rfl (z8 rfl (z8 rfl (z8 rfl (z8 rfl q1))))))))))))), ds, (look_ne hh20 (by omega) (look_ne hh18 (by omega) (Keep.look hk_b (by omega) id (look_ne hh9 (by omega) (look_ne hh7 (by omega) hr1))))), by omega, Keep.upd (Keep.upd (Keep.trans (Keep.upd (Keep.upd (hkp) hh7 (.inl (by omega))) hh9 (.inl (by omega))) hk_b (by omega) (fun d _ h => h)) hh18 (.inl (by omega))) hh20 (.inl (by omega)), by omega⟩
              · rcases (show j < i ∨ j = i by omega) with hj | rfl
                · exact hok j hj c_ hc_
                rw [hc] at hc_; cases hc_; exact ⟨by omega, by omega, hb_b.1 (by assumption), k, x, hk, hx, by omega, by omega⟩
              rcases (show j + 1 < i ∨ j + 1 = i by omega) with hj | hj
              · exact hri j hj a_ c_ ha_ hc_
              omega
            have hz_ :  ((0 : Int) < ((i : Nat) : Int)) := by omega
            obtain ⟨a, ha⟩ := some_at (l := cs) (i := i - 1) (by omega)
            refine k_draw (e_op 0 rfl (o_mov (ev_t (z4 rfl (z8 rfl (z8 rfl (z8 rfl (z8 rfl (z8 rfl (z8 rfl (z8 rfl q7)))))))))) rfl (e_op 1 rfl (dec_t (o_gtr (ev_t ds) ev_c) hz_) rfl (e_op 2 rfl (o_mov (ev_t ds)) rfl (e_op 3 rfl (o_mov (ev_t (z1 rfl (z2 rfl (z4 rfl (z8 rfl (z8 rfl (z8 rfl (z8 rfl (z8 rfl (z8 rfl (z8 rfl q1)))))))))))) (want_on ds) (e_op 4 rfl (o_mov (ev_t (z8 rfl (z8 rfl (z8 rfl (z8 rfl (z8 rfl (z8 rfl (z8 rfl (z8 rfl q7)))))))))) (want_on (z1 rfl ds)) (e_op 5 rfl (o_sub (ev_t ds) ev_c (by omega) (by omega)) (want_on (z2 rfl ds)) (e_op 6 rfl (o_iaddrE (i := ((((i : Nat) : Int) - 1)).toNat) (ev_t (z2 rfl ds)) hce (ev_cast (ev_t ds) (by omega)) (by omega)) (want_on (z1 rfl (z2 rfl ds))) (e_op 7 rfl (o_faddr (off := 0) (ev_t ds)) (want_on (z4 rfl ds)) (e_op 8 rfl (o_load (ev_t ds) (look_ne hh20 (by omega) (look_ne hh18 (by omega) (Keep.look hk_b (by omega) id (look_ne hh9 (by omega) (look_ne hh7 (by omega) hrc1))))) (rowC_get (j := 0) hsegc ha (by decide) (by omega) rfl)) (want_on (z1 rfl (z4 rfl ds))) (e_op 9 rfl (o_faddr (off := 0) (ev_t (z4 rfl (z8 rfl (z8 rfl (z8 rfl (z8 rfl (z8 rfl (z8 rfl (z8 rfl ds)))))))))) (want_on (z2 rfl (z4 rfl ds))) (e_op 10 rfl (o_load (ev_t ds) (look_ne hh20 (by omega) (look_ne hh18 (by omega) (Keep.look hk_b (by omega) id (look_same hh9)))) rfl) (want_on (z1 rfl (z2 rfl (z4 rfl ds)))) ?_)))))))))))
            by_cases hs23 : (c.at_ < a.at_)
            · refine e_op 11 rfl (dec_t (o_gtr (ev_t (z2 rfl ds)) (ev_t ds)) hs23) (want_on (z8 rfl ds)) (e_op 12 rfl (o_mov (ev_t ds)) (want_on (z1 rfl (z8 rfl ds))) (e_off 13 rfl (want_not ds rfl) (e_off 14 rfl (want_not (z1 rfl ds) rfl) (e_off 15 rfl (want_not (z2 rfl ds) rfl) (e_off 16 rfl (want_not (z1 rfl (z2 rfl ds)) rfl) (e_off 17 rfl (want_not (z4 rfl ds) rfl) (e_off 18 rfl (want_not (z1 rfl (z4 rfl ds)) rfl) (e_off 19 rfl (want_not (z2 rfl (z4 rfl ds)) rfl) (e_off 20 rfl (want_not (z1 rfl (z2 rfl (z4 rfl ds))) rfl) (e_off 21 rfl (want_not (z8 rfl ds) rfl) (e_off 22 rfl (want_not (z1 rfl (z8 rfl ds)) rfl) (e_off 23 rfl (want_undef ds) (e_off 24 rfl (want_undef (z1 rfl ds)) (e_off 25 rfl (want_undef (z2 rfl ds)) (e_off 26 rfl (want_undef (z1 rfl (z2 rfl ds))) (e_off 27 rfl (want_undef (z4 rfl ds)) (e_off 28 rfl (want_undef (z1 rfl (z4 rfl ds))) (e_off 29 rfl (want_undef (z2 rfl (z4 rfl ds))) (e_off 30 rfl (want_undef (z1 rfl (z2 rfl (z4 rfl ds)))) (e_off 31 rfl (want_undef (z8 rfl ds)) (e_off 32 rfl (want_not (z1 rfl (z2 rfl (z8 rfl (z8 rfl ds)))) rfl) (e_op 33 rfl (o_pick_t (ev_t (z4 rfl (z8 rfl (z8 rfl ds)))) ev_c) (want_on (z2 rfl (z4 rfl (z8 rfl (z8 rfl (z8 rfl ds)))))) (e_op 34 rfl (o_pick_t (ev_t (z1 rfl (z2 rfl (z4 rfl (z8 rfl (z8 rfl (z8 rfl ds))))))) (ev_t ds)) rfl (e_done (k_cond_t (ev_t ds) (k_seq (k_reg (r_op (o_mov ev_c) rfl (r_nil (k_ret ?_))))))))))))))))))))))))))))))
              have hno : ¬ StimP ns ts cs b := by
                intro h
                have h1 := h.rise (i - 1) a c ha (by rw [Nat.sub_add_cancel hi0]; exact hc)
                unfold chgLt at h1; omega
              exact ⟨_, ans_tmp ds, _, rfl, ⟨(fun h => by cases h), fun h => absurd h hno⟩, by omega, Keep.upd (Keep.upd (Keep.trans (Keep.upd (Keep.upd (hkp) hh7 (.inl (by omega))) hh9 (.inl (by omega))) hk_b (by omega) (fun d _ h => h)) hh18 (.inl (by omega))) hh20 (.inl (by omega))⟩
            refine e_op 11 rfl (dec_f (o_gtr (ev_t (z2 rfl ds)) (ev_t ds)) hs23) (want_on (z8 rfl ds)) (e_op 12 rfl (o_mov (ev_t ds)) (want_on (z1 rfl (z8 rfl ds))) (e_op 13 rfl (o_mov (ev_t (z1 rfl (z8 rfl (z8 rfl (z8 rfl (z8 rfl (z8 rfl (z8 rfl (z8 rfl (z8 rfl (z8 rfl q1)))))))))))) (want_on ds) (e_op 14 rfl (o_mov (ev_t (z2 rfl (z8 rfl (z8 rfl (z8 rfl (z8 rfl (z8 rfl (z8 rfl (z8 rfl (z8 rfl (z8 rfl q7)))))))))))) (want_on (z1 rfl ds)) (e_op 15 rfl (o_sub (ev_t ds) ev_c (by omega) (by omega)) (want_on (z2 rfl ds)) (e_op 16 rfl (o_iaddrE (i := ((((i : Nat) : Int) - 1)).toNat) (ev_t (z2 rfl ds)) hce (ev_cast (ev_t ds) (by omega)) (by omega)) (want_on (z1 rfl (z2 rfl ds))) (e_op 17 rfl (o_faddr (off := 0) (ev_t ds)) (want_on (z4 rfl ds)) (e_op 18 rfl (o_load (ev_t ds) (look_ne hh20 (by omega) (look_ne hh18 (by omega) (Keep.look hk_b (by omega) id (look_ne hh9 (by omega) (look_ne hh7 (by omega) hrc1))))) (rowC_get (j := 0) hsegc ha (by decide) (by omega) rfl)) (want_on (z1 rfl (z4 rfl ds))) (e_op 19 rfl (o_faddr (off := 0) (ev_t (z2 rfl (z4 rfl (z8 rfl (z8 rfl (z8 rfl (z8 rfl (z8 rfl (z8 rfl (z8 rfl (z8 rfl ds)))))))))))) (want_on (z2 rfl (z4 rfl ds))) (e_op 20 rfl (o_load (ev_t ds) (look_ne hh20 (by omega) (look_ne hh18 (by omega) (Keep.look hk_b (by omega) id (look_same hh9)))) rfl) (want_on (z1 rfl (z2 rfl (z4 rfl ds)))) ?_)))))))))
            by_cases hs24 : (a.at_ = c.at_)
            · refine e_op 21 rfl (dec_t (o_eql (ev_t (z2 rfl ds)) (ev_t ds)) hs24) (want_on (z8 rfl ds)) (e_op 22 rfl (o_mov (ev_t ds)) (want_on (z1 rfl (z8 rfl ds))) (e_op 23 rfl (o_mov (ev_t (z1 rfl (z2 rfl (z8 rfl (z8 rfl (z8 rfl (z8 rfl (z8 rfl (z8 rfl (z8 rfl (z8 rfl (z8 rfl (z8 rfl q1)))))))))))))) (want_on ds) (e_op 24 rfl (o_mov (ev_t (z4 rfl (z8 rfl (z8 rfl (z8 rfl (z8 rfl (z8 rfl (z8 rfl (z8 rfl (z8 rfl (z8 rfl (z8 rfl q7))))))))))))) (want_on (z1 rfl ds)) (e_op 25 rfl (o_sub (ev_t ds) ev_c (by omega) (by omega)) (want_on (z2 rfl ds)) (e_op 26 rfl (o_iaddrE (i := ((((i : Nat) : Int) - 1)).toNat) (ev_t (z2 rfl ds)) hce (ev_cast (ev_t ds) (by omega)) (by omega)) (want_on (z1 rfl (z2 rfl ds))) (e_op 27 rfl (o_faddr (off := 1) (ev_t ds)) (want_on (z4 rfl ds)) (e_op 28 rfl (o_load (ev_t ds) (look_ne hh20 (by omega) (look_ne hh18 (by omega) (Keep.look hk_b (by omega) id (look_ne hh9 (by omega) (look_ne hh7 (by omega) hrc1))))) (rowC_get (j := 1) hsegc ha (by decide) (by omega) rfl)) (want_on (z1 rfl (z4 rfl ds))) (e_op 29 rfl (o_faddr (off := 1) (ev_t (z8 rfl (z8 rfl (z8 rfl (z8 rfl (z8 rfl (z8 rfl (z8 rfl (z8 rfl (z8 rfl (z8 rfl ds)))))))))))) (want_on (z2 rfl (z4 rfl ds))) (e_op 30 rfl (o_load (ev_t ds) (look_ne hh20 (by omega) (look_ne hh18 (by omega) (Keep.look hk_b (by omega) id (look_same hh9)))) rfl) (want_on (z1 rfl (z2 rfl (z4 rfl ds)))) ?_)))))))))
              by_cases hs25 : (a.net < c.net)
              · refine e_op 31 rfl (ndec_f (o_geq (ev_t (z2 rfl ds)) (ev_t ds)) hs25) (want_on (z8 rfl ds)) (e_op 32 rfl (o_pick_t (ev_t (z1 rfl (z8 rfl ds))) (ev_t ds)) (want_on (z1 rfl (z2 rfl (z8 rfl (z8 rfl ds))))) (e_op 33 rfl (o_pick_f (ev_t (z4 rfl (z8 rfl (z8 rfl ds)))) (ev_t ds)) (want_on (z2 rfl (z4 rfl (z8 rfl (z8 rfl (z8 rfl ds)))))) (e_op 34 rfl (o_pick_t (ev_t (z1 rfl (z2 rfl (z4 rfl (z8 rfl (z8 rfl (z8 rfl ds))))))) (ev_t ds)) rfl (e_done (k_cond_f (ev_t ds) (k_skip (k_reg (r_op (o_mov (ev_t (z1 rfl (z2 rfl (z4 rfl (z8 rfl (z8 rfl (z8 rfl (z8 rfl (z8 rfl (z8 rfl (z8 rfl (z8 rfl (z8 rfl (z8 rfl (z8 rfl q7)))))))))))))))) rfl (r_op (o_add (ev_t ds) ev_c (by omega) (by omega)) rfl (m1 ds (r_nil ?_)))))))))))
                refine ⟨mm - 1, by omega, i + 1, by omega, (fun j hj c_ hc_ => ?_), (fun j hj a_ c_ ha_ hc_ => ?_), (z2 rfl (z8 rfl (z8 rfl (z8 rfl (z8 rfl (z8 rfl (z8 rfl (z8 rfl (z8 rfl (z8 rfl (z8 rfl (z8 rfl (z8 rfl q3))))))))))))), (z2 rfl (z8 rfl (z8 rfl (z8 rfl (z8 rfl (z8 rfl (z8 rfl (z8 rfl (z8 rfl (z8 rfl (z8 rfl (z8 rfl (z8 rfl q1))))))))))))), ds, (look_ne hh20 (by omega) (look_ne hh18 (by omega) (Keep.look hk_b (by omega) id (look_ne hh9 (by omega) (look_ne hh7 (by omega) hr1))))), by omega, Keep.upd (Keep.upd (Keep.trans (Keep.upd (Keep.upd (hkp) hh7 (.inl (by omega))) hh9 (.inl (by omega))) hk_b (by omega) (fun d _ h => h)) hh18 (.inl (by omega))) hh20 (.inl (by omega)), by omega⟩
                · rcases (show j < i ∨ j = i by omega) with hj | rfl
                  · exact hok j hj c_ hc_
                  rw [hc] at hc_; cases hc_; exact ⟨by omega, by omega, hb_b.1 (by assumption), k, x, hk, hx, by omega, by omega⟩
                rcases (show j + 1 < i ∨ j + 1 = i by omega) with hj | hj
                · exact hri j hj a_ c_ ha_ hc_
                rw [hj, hc] at hc_; cases hc_; rw [show j = i - 1 by omega, ha] at ha_; cases ha_; unfold chgLt; omega
              refine e_op 31 rfl (ndec_t (o_geq (ev_t (z2 rfl ds)) (ev_t ds)) hs25) (want_on (z8 rfl ds)) (e_op 32 rfl (o_pick_t (ev_t (z1 rfl (z8 rfl ds))) (ev_t ds)) (want_on (z1 rfl (z2 rfl (z8 rfl (z8 rfl ds))))) (e_op 33 rfl (o_pick_f (ev_t (z4 rfl (z8 rfl (z8 rfl ds)))) (ev_t ds)) (want_on (z2 rfl (z4 rfl (z8 rfl (z8 rfl (z8 rfl ds)))))) (e_op 34 rfl (o_pick_t (ev_t (z1 rfl (z2 rfl (z4 rfl (z8 rfl (z8 rfl (z8 rfl ds))))))) (ev_t ds)) rfl (e_done (k_cond_t (ev_t ds) (k_seq (k_reg (r_op (o_mov ev_c) rfl (r_nil (k_ret ?_))))))))))
              have hno : ¬ StimP ns ts cs b := by
                intro h
                have h1 := h.rise (i - 1) a c ha (by rw [Nat.sub_add_cancel hi0]; exact hc)
                unfold chgLt at h1; omega
              exact ⟨_, ans_tmp ds, _, rfl, ⟨(fun h => by cases h), fun h => absurd h hno⟩, by omega, Keep.upd (Keep.upd (Keep.trans (Keep.upd (Keep.upd (hkp) hh7 (.inl (by omega))) hh9 (.inl (by omega))) hk_b (by omega) (fun d _ h => h)) hh18 (.inl (by omega))) hh20 (.inl (by omega))⟩
            refine e_op 21 rfl (dec_f (o_eql (ev_t (z2 rfl ds)) (ev_t ds)) hs24) (want_on (z8 rfl ds)) (e_op 22 rfl (o_mov (ev_t ds)) (want_on (z1 rfl (z8 rfl ds))) (e_off 23 rfl (want_not ds rfl) (e_off 24 rfl (want_not (z1 rfl ds) rfl) (e_off 25 rfl (want_not (z2 rfl ds) rfl) (e_off 26 rfl (want_not (z1 rfl (z2 rfl ds)) rfl) (e_off 27 rfl (want_not (z4 rfl ds) rfl) (e_off 28 rfl (want_not (z1 rfl (z4 rfl ds)) rfl) (e_off 29 rfl (want_not (z2 rfl (z4 rfl ds)) rfl) (e_off 30 rfl (want_not (z1 rfl (z2 rfl (z4 rfl ds))) rfl) (e_off 31 rfl (want_not (z8 rfl ds) rfl) (e_op 32 rfl (o_pick_f (ev_t (z1 rfl (z8 rfl ds))) ev_c) (want_on (z1 rfl (z2 rfl (z8 rfl (z8 rfl ds))))) (e_op 33 rfl (o_pick_f (ev_t (z4 rfl (z8 rfl (z8 rfl ds)))) (ev_t ds)) (want_on (z2 rfl (z4 rfl (z8 rfl (z8 rfl (z8 rfl ds)))))) (e_op 34 rfl (o_pick_t (ev_t (z1 rfl (z2 rfl (z4 rfl (z8 rfl (z8 rfl (z8 rfl ds))))))) (ev_t ds)) rfl (e_done (k_cond_f (ev_t ds) (k_skip (k_reg (r_op (o_mov (ev_t (z1 rfl (z2 rfl (z4 rfl (z8 rfl (z8 rfl (z8 rfl (z8 rfl (z8 rfl (z8 rfl (z8 rfl (z8 rfl (z8 rfl (z8 rfl (z8 rfl q7)))))))))))))))) rfl (r_op (o_add (ev_t ds) ev_c (by omega) (by omega)) rfl (m1 ds (r_nil ?_)))))))))))))))))))))
            refine ⟨mm - 1, by omega, i + 1, by omega, (fun j hj c_ hc_ => ?_), (fun j hj a_ c_ ha_ hc_ => ?_), (z2 rfl (z8 rfl (z8 rfl (z8 rfl (z8 rfl (z8 rfl (z8 rfl (z8 rfl (z8 rfl (z8 rfl (z8 rfl (z8 rfl (z8 rfl q3))))))))))))), (z2 rfl (z8 rfl (z8 rfl (z8 rfl (z8 rfl (z8 rfl (z8 rfl (z8 rfl (z8 rfl (z8 rfl (z8 rfl (z8 rfl (z8 rfl q1))))))))))))), ds, (look_ne hh20 (by omega) (look_ne hh18 (by omega) (Keep.look hk_b (by omega) id (look_ne hh9 (by omega) (look_ne hh7 (by omega) hr1))))), by omega, Keep.upd (Keep.upd (Keep.trans (Keep.upd (Keep.upd (hkp) hh7 (.inl (by omega))) hh9 (.inl (by omega))) hk_b (by omega) (fun d _ h => h)) hh18 (.inl (by omega))) hh20 (.inl (by omega)), by omega⟩
            · rcases (show j < i ∨ j = i by omega) with hj | rfl
              · exact hok j hj c_ hc_
              rw [hc] at hc_; cases hc_; exact ⟨by omega, by omega, hb_b.1 (by assumption), k, x, hk, hx, by omega, by omega⟩
            rcases (show j + 1 < i ∨ j + 1 = i by omega) with hj | hj
            · exact hri j hj a_ c_ ha_ hc_
            rw [hj, hc] at hc_; cases hc_; rw [show j = i - 1 by omega, ha] at ha_; cases ha_; unfold chgLt; omega
          refine r_op (ndec_t (o_neq (ev_t (z1 rfl (z2 rfl ds))) (ev_t ds)) hs22) (want_on (z1 rfl (z4 rfl ds))) (r_op (o_pick_f (ev_t (z2 rfl (z4 rfl ds))) (ev_t ds)) rfl (r_nil (k_cond_t (ev_t ds) (k_seq (k_reg (r_op (o_mov ev_c) rfl (r_nil (k_ret ?_))))))))
          have hno : ¬ StimP ns ts cs b := by
            intro h
            obtain ⟨h1, h2, h3, k_, x_, h4, h5, h6, h7⟩ := h.each c hcm
            rw [hk] at h4; cases h4; rw [hx] at h5; cases h5; omega
          exact ⟨_, ans_tmp ds, _, rfl, ⟨(fun h => by cases h), fun h => absurd h hno⟩, by omega, Keep.upd (Keep.upd (Keep.trans (Keep.upd (Keep.upd (hkp) hh7 (.inl (by omega))) hh9 (.inl (by omega))) hk_b (by omega) (fun d _ h => h)) hh18 (.inl (by omega))) hh20 (.inl (by omega))⟩
        refine r_op (ndec_t (o_neq (ev_t ds) ev_c) hs21) rfl (m1 ds (r_off (want_not ds rfl) (r_off (want_not (z1 rfl ds) rfl) (r_off (want_not (z2 rfl ds) rfl) (r_off (want_not (z1 rfl (z2 rfl ds)) rfl) (r_off (want_not (z4 rfl ds) rfl) (r_off (want_not (z1 rfl (z4 rfl ds)) rfl) (r_op (o_pick_t (ev_t (z2 rfl (z4 rfl ds))) ev_c) rfl (r_nil (k_cond_t (ev_t ds) (k_seq (k_reg (r_op (o_mov ev_c) rfl (r_nil (k_ret ?_)))))))))))))))
        have hno : ¬ StimP ns ts cs b := by
          intro h
          obtain ⟨h1, h2, h3, k_, x_, h4, h5, h6, h7⟩ := h.each c hcm
          rw [hk] at h4; cases h4; rw [hx] at h5; cases h5; omega
        exact ⟨_, ans_tmp ds, _, rfl, ⟨(fun h => by cases h), fun h => absurd h hno⟩, by omega, Keep.upd (Keep.upd (Keep.trans (Keep.upd (Keep.upd (hkp) hh7 (.inl (by omega))) hh9 (.inl (by omega))) hk_b (by omega) (fun d _ h => h)) hh18 (.inl (by omega))) hh20 (.inl (by omega))⟩
      refine r_op (ndec_t (o_not (ev_t ds)) hs16) (want_on (z1 rfl (z2 rfl ds))) (r_op (o_pick_f (ev_t (z4 rfl ds)) (ev_t ds)) rfl (r_nil (k_cond_t (ev_t ds) (k_seq (k_reg (r_op (o_mov ev_c) rfl (r_nil (k_ret ?_))))))))
      have hno : ¬ StimP ns ts cs b := by
        intro h
        obtain ⟨h1, h2, h3, k_, x_, h4, h5, h6, h7⟩ := h.each c hcm
        first | omega | exact absurd (hb_b.2 h3) (by assumption)
      exact ⟨_, ans_tmp ds, _, rfl, ⟨(fun h => by cases h), fun h => absurd h hno⟩, by omega, Keep.trans (Keep.upd (Keep.upd (hkp) hh7 (.inl (by omega))) hh9 (.inl (by omega))) hk_b (by omega) (fun d _ h => h)⟩
    refine r_op (ndec_t (o_geq (ev_t (z1 rfl (z2 rfl ds))) (ev_t ds)) hs13) (want_on (z1 rfl (z4 rfl ds))) (r_op (o_pick_f (ev_t (z2 rfl (z4 rfl ds))) (ev_t ds)) rfl (m1 ds (r_off (want_not ds rfl) (r_off (want_not (z1 rfl ds) rfl) (r_off (want_not (z2 rfl ds) rfl) (r_off (want_not (z1 rfl (z2 rfl ds)) rfl) (r_op (o_pick_t (ev_t (z4 rfl ds)) ev_c) rfl (r_nil (k_cond_t (ev_t ds) (k_seq (k_reg (r_op (o_mov ev_c) rfl (r_nil (k_ret ?_))))))))))))))
    have hno : ¬ StimP ns ts cs b := by
      intro h
      obtain ⟨h1, h2, h3, k_, x_, h4, h5, h6, h7⟩ := h.each c hcm
      first | omega | exact absurd (hb_b.2 h3) (by assumption)
    exact ⟨_, ans_tmp ds, _, rfl, ⟨(fun h => by cases h), fun h => absurd h hno⟩, by omega, Keep.upd (Keep.upd (hkp) hh7 (.inl (by omega))) hh9 (.inl (by omega))⟩
  replace hc5 := of_decide_eq_false hc5
  refine k_exit (exK_same (k_seq (k_reg (r_op (o_mov ev_c) rfl (r_nil (k_ret ?_))))))
  exact ⟨_, ans_tmp ds, _, rfl, ⟨fun _ => ⟨by omega, fun c_ hc_ => by obtain ⟨j, hj, rfl⟩ := List.mem_iff_getElem.1 hc_; exact hok j (by omega) _ (List.getElem?_eq_getElem hj), fun j a_ c_ ha_ hc_ => hri j (by have := (List.getElem?_eq_some_iff.1 hc_).1; omega) a_ c_ ha_ hc_⟩, fun _ => rfl⟩, by omega, hkp⟩
end Go.Proofs.YtpjohgnhmjceiaaGreatDoor.WX

set_option linter.all false
set_option linter.unusedVariables false
set_option linter.unusedSectionVars false
set_option maxRecDepth 100000
open Go Go.Proofs.YtpjohgnhmjceiaaGreatDoor.AX Go.Proofs
namespace Go.Proofs.YtpjohgnhmjceiaaGreatDoor.WX
variable [Env]
set_option maxHeartbeats 8000000 in
theorem echeck_ok {t : TB} {nx bd : Nat} {vn vt cv : AV} {p b : Int} {ns : List Nd} {ts : List Int} {cs : List Chg} (hN : RowN t bd vn ns) (hT : RowI t bd vt ts) (hC : RowC t bd cv cs) (hb : bd ≤ nx) (hnl : ns.length < 9223372036854775808) (htl : ts.length < 9223372036854775808) (hcl : cs.length < 9223372036854775808)
    (hnets : ∀ k ∈ ts, 0 ≤ k ∧ k < (ns.length : Int)) (hcv : ∀ c ∈ cs, (∀ b ∈ c.val, b < 256) ∧ c.val.length < 9223372036854775808) (hM : MayP ns ts p) (hlong : ∀ x ∈ ns, x.ins.length < 60000 ∧ (∀ c ∈ x.value, c < 256) ∧ x.value.length ≤ 9223372036854775807)
    (hlr : ∀ t2 nx2, Keep t t2 nx (fun _ => False) → nx ≤ nx2 → WF tb 52 [.agg [vn, vt, .int .i64 p]] t2 nx2 (fun v t' nx' => ∃ lv, v = .tup [lv, .int .i64 0] ∧ nx2 ≤ nx' ∧ Keep t2 t' nx2 (fun _ => False))) :
    WF tb 14 [.agg [vn, vt, .int .i64 p], cv, .int .i64 b] t nx (fun v t' nx' => ∃ r : Int, v = .int .i64 r ∧ (r = 0 ∨ r = 1) ∧ (r = 0 ↔ StimP ns ts cs b) ∧ nx ≤ nx' ∧ Keep t t' nx (fun _ => False)) := by
  have hcn := hN.cell
  have hct := hT.cell
  refine k_fun echeck_tab rfl ?_
  unfold echeck_c
  change WC _ _ (TA.put (some _) (TA.put (some _) (TA.put (some _) TA.e 0) 1) 2) _ _ _
  refine k_seq (k_reg (r_heap (o_box (ev_t (get_other rfl (get_other rfl get_same)))) rfl (fun t1 (hh2 : hv t1 = upd (hv t) nx (some (.row [vn, vt, (.int .i64 p)] true))) => r_op (o_mov ev_c) rfl (r_nil (k_seq (k_seq (k_reg (r_op (o_loadA (n := 3) (ev_t (z1 rfl ds)) (look_same hh2) (leb rfl) rfl) rfl (r_call (w_callF (evs_cons (ev_t ds) evs_nil)) rfl (WF.mono (check_ok (hN.keep (fun d hd hw => (show Keep t t1 nx (fun _ => False) from Keep.upd (Keep.refl _ _ _) hh2 (.inl (by omega))) d (by omega) hw) (Nat.le_refl bd)) (hT.keep (fun d hd hw => (show Keep t t1 nx (fun _ => False) from Keep.upd (Keep.refl _ _ _) hh2 (.inl (by omega))) d (by omega) hw) (Nat.le_refl bd)) (by omega) hnl htl hlong) ?_))))))))))
  rintro _ t3 n4 ⟨rk, rfl, hrk1, hrk2, hn_c, hk_c⟩
  have hrk0 := hrk2.2 hM
  by_cases hs5 : (rk = 0)
  · refine r_op (ndec_f (o_neq (ev_t ds) ev_c) hs5) rfl (m1 ds (r_op (o_mov (ev_t (z2 rfl (z4 rfl get_same)))) (want_on ds) ?_))
    by_cases hs6 : (b < 0)
    · refine r_op (dec_t (o_lss (ev_t ds) ev_c) hs6) (want_on (z1 rfl ds)) (r_op (o_pick_f (ev_t (z2 rfl ds)) (ev_t ds)) rfl (m1 ds (r_off (want_not ds rfl) (r_off (want_not (z1 rfl ds) rfl) (r_op (o_pick_t (ev_t (z2 rfl ds)) ev_c) rfl (r_nil (k_cond_t (ev_t ds) (k_seq (k_reg (r_op (o_mov ev_c) rfl (r_nil (k_ret ?_))))))))))))
      have hno : ¬ StimP ns ts cs b := by
        intro h
        have h1 := h.upto; omega
      exact ⟨_, ans_tmp ds, _, rfl, by omega, ⟨fun h => by omega, fun h => absurd h hno⟩, by omega, Keep.trans (Keep.upd (Keep.refl _ _ _) hh2 (.inl (by omega))) hk_c (by omega) (fun d _ h => h)⟩
    refine r_op (dec_f (o_lss (ev_t ds) ev_c) hs6) (want_on (z1 rfl ds)) (r_op (o_pick_f (ev_t (z2 rfl ds)) (ev_t ds)) rfl (m1 ds (r_op (o_mov (ev_t (z2 rfl (z8 rfl get_same)))) (want_on ds) ?_)))
    by_cases hs7 : (4611686018427387903 < b)
    · refine r_op (dec_t (o_gtr (ev_t ds) ev_c) hs7) (want_on (z1 rfl ds)) (r_op (o_pick_f (ev_t (z2 rfl ds)) (ev_t ds)) rfl (r_nil (k_cond_t (ev_t ds) (k_seq (k_reg (r_op (o_mov ev_c) rfl (r_nil (k_ret ?_))))))))
      have hno : ¬ StimP ns ts cs b := by
        intro h
        have h1 := h.upto; omega
      exact ⟨_, ans_tmp ds, _, rfl, by omega, ⟨fun h => by omega, fun h => absurd h hno⟩, by omega, Keep.trans (Keep.upd (Keep.refl _ _ _) hh2 (.inl (by omega))) hk_c (by omega) (fun d _ h => h)⟩
    refine r_op (dec_f (o_gtr (ev_t ds) ev_c) hs7) (want_on (z1 rfl ds)) (r_op (o_pick_f (ev_t (z2 rfl ds)) (ev_t ds)) rfl (r_nil (k_cond_f (ev_t ds) (k_skip (k_seq (k_seq (k_reg (m1 (z1 rfl (z4 rfl (z8 rfl (get_other rfl get_same)))) (r_op (o_len_C hC (ev_t ds)) rfl (r_op (o_mov ev_c) rfl (r_nil (k_block (k_loop (fun mm Tv tv nv => ∃ i : Nat, i ≤ cs.length ∧ (∀ j, j < i → ∀ c, cs[j]? = some c → chgOK ns ts c) ∧ (∀ j, j + 1 < i → ∀ a c, cs[j]? = some a → cs[j + 1]? = some c → chgLt a c) ∧ Tv.get 3 = some (.ptr nx 0) ∧ Tv.get 1 = some cv ∧ Tv.get 25 = some (.int .i64 ((i : Nat) : Int)) ∧ Tv.get 23 = some cv ∧ Tv.get 24 = some (.int .i64 ((cs.length : Nat) : Int)) ∧ hv tv nx = some (.row [vn, vt, .int .i64 p] true) ∧ nx + 1 ≤ nv ∧ Keep t tv nx (fun _ => False) ∧ mm + i = cs.length) (fun mm Tv tv nv hI => ?_) (cs.length) ⟨0, by omega, (fun j hj => by omega), (fun j hj => by omega), (z1 rfl (z2 rfl (z4 rfl (z8 rfl ds)))), (z8 rfl (z8 rfl (get_other rfl get_same))), ds, (z2 rfl ds), (z1 rfl ds), (Keep.look hk_c (by omega) id (look_same hh2)), by omega, Keep.trans (Keep.upd (Keep.refl _ _ _) hh2 (.inl (by omega))) hk_c (by omega) (fun d _ h => h), by omega⟩)))))))))))))
    obtain ⟨i, hi, hok, hri, q3, q1, q25, q23, q24, hr1, hnv, hkp, hmm⟩ := hI
    refine k_seq (k_reg (r_op (o_lss (ev_t q25) (ev_t q24)) rfl (r_nil (k_seq ?_))))
    refine k_cond (ev_t ds) (fun hc8 => ?_) (fun hc8 => ?_)
    · replace hc8 := of_decide_eq_true hc8
      refine k_skip (k_seq (k_block (k_seq ?_)))
      rcases hC with ⟨-, h0⟩ | ⟨dc, oc, cc, exc, wrc, rc, hce, hdc, hrc, hrlc, hsegc⟩
      · have h_ := congrArg List.length h0; simp only [List.length_nil] at h_; omega
      obtain ⟨c, hc⟩ := some_at (l := cs) (i := i) (by omega)
      have hcm := List.mem_of_getElem? hc
      have hcb := hcv c hcm
      have hrc1 := hkp.look (by omega) id hrc
      refine k_reg (m1 (z1 rfl q25) (r_op (o_iaddrE (i := i) (ev_t (z2 rfl q23)) hce (ev_t (z2 rfl q25)) (by omega)) rfl (r_op (o_loadA (n := 3) (ev_t ds) hrc1 (by omega) (rowC_all hsegc hc)) rfl (r_heap (o_alloc) rfl (fun t9 (hh10 : hv t9 = upd (hv tv) nv (some (.row [(.int .i64 0), (.int .i64 0), (.str [])] true))) => m1 (z1 rfl (z2 rfl ds)) (r_heap (o_store (n := 3) (ev_t (z1 rfl ds)) (ev_t (z2 rfl ds)) (look_same hh10) rfl rfl (leb rfl)) rfl (fun t11 (hh12 : hv t11 = upd (hv t9) nv (some (.row [(.int .i64 c.at_), (.int .i64 c.net), (.str c.val)] true))) => r_nil (k_seq (k_seq (k_reg (r_op (o_faddr (off := 0) (ev_t (z2 rfl ds))) rfl (r_op (o_load (ev_t ds) (look_same hh12) rfl) rfl ?_))))))))))))
      by_cases hs13 : (c.at_ < 0)
      · refine r_op (dec_t (o_lss (ev_t ds) ev_c) hs13) rfl (m1 ds (r_off (want_not ds rfl) (r_off (want_not (z1 rfl ds) rfl) (r_off (want_not (z2 rfl ds) rfl) (r_op (o_pick_t (ev_t (z1 rfl (z2 rfl ds))) ev_c) rfl (m1 ds (r_off (want_not ds rfl) (r_off (want_not (z1 rfl ds) rfl) (r_off (want_not (z2 rfl ds) rfl) (r_op (o_pick_t (ev_t (z1 rfl (z2 rfl ds))) ev_c) rfl (m1 ds (r_off (want_not ds rfl) (r_off (want_not (z1 rfl ds) rfl) (r_off (want_not (z2 rfl ds) rfl) (r_off (want_not (z1 rfl (z2 rfl ds)) rfl) (r_off (want_not (z4 rfl ds) rfl) (r_off (want_not (z1 rfl (z4 rfl ds)) rfl) (r_op (o_pick_t (ev_t (z2 rfl (z4 rfl ds))) ev_c) rfl (m1 ds (r_off (want_not ds rfl) (r_off (want_not (z1 rfl ds) rfl) (r_off (want_not (z2 rfl ds) rfl) (r_off (want_not (z1 rfl (z2 rfl ds)) rfl) (r_op (o_pick_t (ev_t (z4 rfl ds)) ev_c) rfl (r_nil (k_cond_t (ev_t ds) (k_seq (k_reg (r_op (o_mov ev_c) rfl (r_nil (k_ret ?_)))))))))))))))))))))))))))))))
        have hno : ¬ StimP ns ts cs b := by
          intro h
          obtain ⟨h1, h2, h3, k_, x_, h4, h5, h6, h7⟩ := h.each c hcm
          first | omega | exact hr_.elim (fun e => by exfalso; omega) (fun e => e.2 h3)
        exact ⟨_, ans_tmp ds, _, rfl, by omega, ⟨fun h => by omega, fun h => absurd h hno⟩, by omega, Keep.upd (Keep.upd (hkp) hh10 (.inl (by omega))) hh12 (.inl (by omega))⟩
      refine r_op (dec_f (o_lss (ev_t ds) ev_c) hs13) rfl (m1 ds (r_op (o_faddr (off := 0) (ev_t (z2 rfl (z4 rfl ds)))) (want_on ds) (r_op (o_load (ev_t ds) (look_same hh12) rfl) (want_on (z1 rfl ds)) ?_)))
      by_cases hs14 : (4611686018427387903 < c.at_)
      · refine r_op (dec_t (o_gtr (ev_t ds) ev_c) hs14) (want_on (z2 rfl ds)) (r_op (o_pick_f (ev_t (z1 rfl (z2 rfl ds))) (ev_t ds)) rfl (m1 ds (r_off (want_not ds rfl) (r_off (want_not (z1 rfl ds) rfl) (r_off (want_not (z2 rfl ds) rfl) (r_op (o_pick_t (ev_t (z1 rfl (z2 rfl ds))) ev_c) rfl (m1 ds (r_off (want_not ds rfl) (r_off (want_not (z1 rfl ds) rfl) (r_off (want_not (z2 rfl ds) rfl) (r_off (want_not (z1 rfl (z2 rfl ds)) rfl) (r_off (want_not (z4 rfl ds) rfl) (r_off (want_not (z1 rfl (z4 rfl ds)) rfl) (r_op (o_pick_t (ev_t (z2 rfl (z4 rfl ds))) ev_c) rfl (m1 ds (r_off (want_not ds rfl) (r_off (want_not (z1 rfl ds) rfl) (r_off (want_not (z2 rfl ds) rfl) (r_off (want_not (z1 rfl (z2 rfl ds)) rfl) (r_op (o_pick_t (ev_t (z4 rfl ds)) ev_c) rfl (r_nil (k_cond_t (ev_t ds) (k_seq (k_reg (r_op (o_mov ev_c) rfl (r_nil (k_ret ?_)))))))))))))))))))))))))))
        have hno : ¬ StimP ns ts cs b := by
          intro h
          obtain ⟨h1, h2, h3, k_, x_, h4, h5, h6, h7⟩ := h.each c hcm
          first | omega | exact hr_.elim (fun e => by exfalso; omega) (fun e => e.2 h3)
        exact ⟨_, ans_tmp ds, _, rfl, by omega, ⟨fun h => by omega, fun h => absurd h hno⟩, by omega, Keep.upd (Keep.upd (hkp) hh10 (.inl (by omega))) hh12 (.inl (by omega))⟩
      refine r_op (dec_f (o_gtr (ev_t ds) ev_c) hs14) (want_on (z2 rfl ds)) (r_op (o_pick_f (ev_t (z1 rfl (z2 rfl ds))) (ev_t ds)) rfl (m1 ds (r_op (o_faddr (off := 1) (ev_t (z1 rfl (z2 rfl (z8 rfl ds))))) (want_on ds) (r_op (o_load (ev_t ds) (look_same hh12) rfl) (want_on (z1 rfl ds)) ?_))))
      by_cases hs15 : (c.net < 0)
      · refine r_op (dec_t (o_lss (ev_t ds) ev_c) hs15) (want_on (z2 rfl ds)) (r_op (o_pick_f (ev_t (z1 rfl (z2 rfl ds))) (ev_t ds)) rfl (m1 ds (r_off (want_not ds rfl) (r_off (want_not (z1 rfl ds) rfl) (r_off (want_not (z2 rfl ds) rfl) (r_off (want_not (z1 rfl (z2 rfl ds)) rfl) (r_off (want_not (z4 rfl ds) rfl) (r_off (want_not (z1 rfl (z4 rfl ds)) rfl) (r_op (o_pick_t (ev_t (z2 rfl (z4 rfl ds))) ev_c) rfl (m1 ds (r_off (want_not ds rfl) (r_off (want_not (z1 rfl ds) rfl) (r_off (want_not (z2 rfl ds) rfl) (r_off (want_not (z1 rfl (z2 rfl ds)) rfl) (r_op (o_pick_t (ev_t (z4 rfl ds)) ev_c) rfl (r_nil (k_cond_t (ev_t ds) (k_seq (k_reg (r_op (o_mov ev_c) rfl (r_nil (k_ret ?_))))))))))))))))))))))
        have hno : ¬ StimP ns ts cs b := by
          intro h
          obtain ⟨h1, h2, h3, k_, x_, h4, h5, h6, h7⟩ := h.each c hcm
          first | omega | exact hr_.elim (fun e => by exfalso; omega) (fun e => e.2 h3)
        exact ⟨_, ans_tmp ds, _, rfl, by omega, ⟨fun h => by omega, fun h => absurd h hno⟩, by omega, Keep.upd (Keep.upd (hkp) hh10 (.inl (by omega))) hh12 (.inl (by omega))⟩
      refine r_op (dec_f (o_lss (ev_t ds) ev_c) hs15) (want_on (z2 rfl ds)) (r_op (o_pick_f (ev_t (z1 rfl (z2 rfl ds))) (ev_t ds)) rfl (m1 ds (r_op (o_faddr (off := 1) (ev_t (z8 rfl (z8 rfl ds)))) (want_on ds) (r_op (o_load (ev_t ds) (look_same hh12) rfl) (want_on (z1 rfl ds)) (r_op (o_faddr (off := 1) (ev_t (z1 rfl (z2 rfl (z4 rfl (z8 rfl (z8 rfl q3))))))) (want_on (z2 rfl ds)) (r_op (o_load (ev_t ds) (look_ne hh12 (by omega) (look_ne hh10 (by omega) hr1)) rfl) (want_on (z1 rfl (z2 rfl ds))) (r_op (o_len_I hT (ev_t ds)) (want_on (z4 rfl ds)) ?_)))))))
      by_cases hs16 : (c.net < ((ts.length : Nat) : Int))
      · refine r_op (ndec_f (o_geq (ev_t (z1 rfl (z2 rfl ds))) (ev_t ds)) hs16) (want_on (z1 rfl (z4 rfl ds))) (r_op (o_pick_f (ev_t (z2 rfl (z4 rfl ds))) (ev_t ds)) rfl (m1 ds (r_op (o_faddr (off := 2) (ev_t (z8 rfl (z8 rfl (z8 rfl ds))))) (want_on ds) (r_op (o_load (ev_t ds) (look_same hh12) rfl) (want_on (z1 rfl ds)) (r_call (w_callF (evs_cons (ev_t ds) evs_nil)) (want_on (z2 rfl ds)) (WF.mono (lcheck_ok c.val hcb.1 (by omega)) ?_))))))
        rintro _ t17 n18 ⟨r_, rfl, hr_, hn_b, hk_b⟩
        by_cases hs19 : (r_ = 0)
        · refine r_op (ndec_f (o_neq (ev_t ds) ev_c) hs19) (want_on (z1 rfl (z2 rfl ds))) (r_op (o_pick_f (ev_t (z4 rfl ds)) (ev_t ds)) rfl (r_nil (k_cond_f (ev_t ds) (k_skip (k_seq (k_seq ?_))))))
          rcases hT with ⟨-, h0⟩ | ⟨di, oi, ci, exi, wri, ri, hie, hdi, hri_, hrli, hsegi⟩
          · have h_ := congrArg List.length h0; simp only [List.length_nil] at h_; omega
          obtain ⟨k, hk⟩ := some_at (l := ts) (i := c.net.toNat) (by omega)
          have hkr := hnets k (List.mem_of_getElem? hk)
          rcases hN with ⟨-, h0⟩ | ⟨dN, on, cn, exn, wrn, rn, ivs, hne, hdn, hrn, hrln, hsegn, hivl, hivr⟩
          · have h_ := congrArg List.length h0; simp only [List.length_nil] at h_; omega
          obtain ⟨x, hx⟩ := some_at (l := ns) (i := k.toNat) (by omega)
          obtain ⟨iv, hiv⟩ := some_at (l := ivs) (i := k.toNat) (by omega)
          have hic := (hivr _ x iv hx hiv).cell
          have hri1 := hkp.look (by omega) id hri_
          have hrn1 := hkp.look (by omega) id hrn
          have hfi := (hivr _ x iv hx hiv).flat
          have hfn : flatC vn = true := by rw [hne]; rfl
          have hft : flatC vt = true := by rw [hie]; rfl
          have hfc : flatC cv = true := by rw [hce]; rfl
          refine k_draw (e_op 0 rfl (o_faddr (off := 0) (ev_t (z2 rfl (z8 rfl (z8 rfl (z8 rfl (z8 rfl q3))))))) rfl (e_op 1 rfl (o_load (ev_t ds) (Keep.look hk_b (by omega) id (look_ne hh12 (by omega) (look_ne hh10 (by omega) hr1))) rfl) rfl (e_op 2 rfl (o_faddr (off := 1) (ev_t (z4 rfl (z8 rfl (z8 rfl (z8 rfl (z8 rfl q3))))))) rfl (e_op 3 rfl (o_load (ev_t ds) (Keep.look hk_b (by omega) id (look_ne hh12 (by omega) (look_ne hh10 (by omega) hr1))) rfl) rfl (e_op 4 rfl (o_faddr (off := 1) (ev_t (z1 rfl (z8 rfl (z8 rfl (z8 rfl (z8 rfl ds))))))) rfl (e_op 5 rfl (o_load (ev_t ds) (Keep.look hk_b (by omega) id (look_same hh12)) rfl) rfl (e_op 6 rfl (o_iaddrE (i := (c.net).toNat) (ev_t (z2 rfl ds)) hie (ev_cast (ev_t ds) (by omega)) (by omega)) rfl ?_)))))))
          refine e_op 7 rfl (o_load (ev_t ds) (Keep.look hk_b (by omega) id (look_ne hh12 (by omega) (look_ne hh10 (by omega) hri1))) (by rw [Nat.mul_one]; exact rowI_get (i := c.net.toNat) hsegi hk)) rfl ?_
          refine e_op 8 rfl (o_iaddrE (i := (k).toNat) (ev_t (z2 rfl (z4 rfl ds))) hne (ev_cast (ev_t ds) (by omega)) (by omega)) rfl (e_op 9 rfl (o_loadA (n := 8) (ev_t ds) (Keep.look hk_b (by omega) id (look_ne hh12 (by omega) (look_ne hh10 (by omega) hrn1))) (by omega) (nodeN_all hsegn hivl hx hiv)) rfl ?_)
          refine d_heap (ix := 10) (pr := []) (d := (some 9)) (g := none) (F' := [(⟨9, [8], ⟨(some 66), none, (.op (.loadA 8 (.t 65)))⟩⟩, (.agg [(.int .i64 x.kind), (.int .i64 x.op), (.int .i64 x.wide), iv, (.str x.value), (.int .i64 x.hi), (.int .i64 x.lo), (.int .i64 x.time)])), (⟨8, [1, 7], ⟨(some 65), none, (.op (.iaddr 8 (.t 58) (.t 64)))⟩⟩, (.ptr dN (on + (k).toNat * 8))), (⟨7, [6], ⟨(some 64), none, (.op (.load (.t 63)))⟩⟩, (.int .i64 k)), (⟨6, [3, 5], ⟨(some 63), none, (.op (.iaddr 1 (.t 60) (.t 62)))⟩⟩, (.ptr di (oi + (c.net).toNat * 1))), (⟨5, [4], ⟨(some 62), none, (.op (.load (.t 61)))⟩⟩, (.int .i64 c.net)), (⟨4, [], ⟨(some 61), none, (.op (.faddr (.t 8) 1))⟩⟩, (.ptr nv 1)), (⟨3, [2], ⟨(some 60), none, (.op (.load (.t 59)))⟩⟩, vt), (⟨2, [], ⟨(some 59), none, (.op (.faddr (.t 3) 1))⟩⟩, (.ptr nx 1)), (⟨1, [0], ⟨(some 58), none, (.op (.load (.t 57)))⟩⟩, vn), (⟨0, [], ⟨(some 57), none, (.op (.faddr (.t 3) 0))⟩⟩, (.ptr nx 0))]) (o := (.alloc [(.int .i64 0), (.int .i64 0), (.int .i64 0), .nslice, (.str []), (.int .i64 0), (.int .i64 0), (.int .i64 0)])) (o_alloc) rfl (by kernel_rfl) (by kernel_rfl) (by kernel_rfl) (by kernel_rfl) (fun t20 (hh21 : hv t20 = upd (hv t17) n18 (some (.row [(.int .i64 0), (.int .i64 0), (.int .i64 0), .nslice, (.str []), (.int .i64 0), (.int .i64 0), (.int .i64 0)] true))) => ⟨?_, ?_⟩)
          · exact (all_cons_ (still_op rfl rfl (o_loadA (n := 8) (ev_t (z2 rfl ds)) (look_ne hh21 (by omega) (Keep.look hk_b (by omega) id (look_ne hh12 (by omega) (look_ne hh10 (by omega) hrn1)))) (by omega) (nodeN_all hsegn hivl hx hiv)) (aeq_agg (ncells_flat x hfi))) (all_cons_ (still_op rfl rfl (o_iaddrE (i := (k).toNat) (ev_t (z1 rfl (z8 rfl ds))) hne (ev_cast (ev_t (z1 rfl (z2 rfl ds))) (by omega)) (by omega)) (aeq_flat rfl)) (all_cons_ (still_op rfl rfl (o_load (ev_t (z4 rfl ds)) (look_ne hh21 (by omega) (Keep.look hk_b (by omega) id (look_ne hh12 (by omega) (look_ne hh10 (by omega) hri1)))) (by rw [Nat.mul_one]; exact rowI_get (i := c.net.toNat) hsegi hk)) (aeq_flat rfl)) (all_cons_ (still_op rfl rfl (o_iaddrE (i := (c.net).toNat) (ev_t (z1 rfl (z2 rfl (z4 rfl ds)))) hie (ev_cast (ev_t (z1 rfl (z4 rfl ds))) (by omega)) (by omega)) (aeq_flat rfl)) (all_cons_ (still_op rfl rfl (o_load (ev_t (z2 rfl (z4 rfl ds))) (look_ne hh21 (by omega) (Keep.look hk_b (by omega) id (look_same hh12))) rfl) (aeq_flat rfl)) (all_cons_ (still_op rfl rfl (o_faddr (off := 1) (ev_t (z8 rfl (z8 rfl (z8 rfl (z8 rfl (z8 rfl ds))))))) (aeq_flat rfl)) (all_cons_ (still_op rfl rfl (o_load (ev_t (z8 rfl ds)) (look_ne hh21 (by omega) (Keep.look hk_b (by omega) id (look_ne hh12 (by omega) (look_ne hh10 (by omega) hr1)))) rfl) (aeq_flat hft)) (all_cons_ (still_op rfl rfl (o_faddr (off := 1) (ev_t (z1 rfl (z4 rfl (z8 rfl (z8 rfl (z8 rfl (z8 rfl (z8 rfl q3))))))))) (aeq_flat rfl)) (all_cons_ (still_op rfl rfl (o_load (ev_t (z2 rfl (z8 rfl ds))) (look_ne hh21 (by omega) (Keep.look hk_b (by omega) id (look_ne hh12 (by omega) (look_ne hh10 (by omega) hr1)))) rfl) (aeq_flat hfn)) (all_cons_ (still_op rfl rfl (o_faddr (off := 0) (ev_t (z1 rfl (z4 rfl (z8 rfl (z8 rfl (z8 rfl (z8 rfl (z8 rfl q3))))))))) (aeq_flat rfl)) all_nil_))))))))))
          refine d_heap (ix := 11) (pr := [10, 9, 0, 1, 2, 3, 4, 5, 6, 7, 8, 9, 10]) (d := none) (g := none) (F' := []) (o := (.store 8 (.t 9) (.t 66))) (o_store (n := 8) (ev_t ds) (ev_t (z1 rfl ds)) (look_same hh21) rfl (ncells_cell x hic) (leb rfl)) rfl (by kernel_rfl) (by kernel_rfl) (by kernel_rfl) (by kernel_rfl) (fun t22 (hh23 : hv t22 = upd (hv t20) n18 (some (.row [(.int .i64 x.kind), (.int .i64 x.op), (.int .i64 x.wide), iv, (.str x.value), (.int .i64 x.hi), (.int .i64 x.lo), (.int .i64 x.time)] true))) => ⟨?_, ?_⟩)
          · exact all_nil_
          refine e_done (k_seq (k_reg (r_op (o_faddr (off := 0) (ev_t (z1 rfl ds))) rfl (r_op (o_load (ev_t ds) (look_same hh23) rfl) rfl ?_))))
          by_cases hs24 : (x.kind = 2)
          · refine r_op (ndec_f (o_neq (ev_t ds) ev_c) hs24) rfl (m1 ds (r_op (o_faddr (off := 2) (ev_t (z1 rfl (z4 rfl ds)))) (want_on ds) (r_op (o_load (ev_t ds) (look_same hh23) rfl) (want_on (z1 rfl ds)) (r_op (o_faddr (off := 2) (ev_t (z1 rfl (z2 rfl (z4 rfl (z8 rfl (z8 rfl (z8 rfl (z8 rfl (z8 rfl ds)))))))))) (want_on (z2 rfl ds)) (r_op (o_load (ev_t ds) (look_ne hh23 (by omega) (look_ne hh21 (by omega) (Keep.look hk_b (by omega) id (look_same hh12)))) rfl) (want_on (z1 rfl (z2 rfl ds))) (r_op (o_len_str (ev_t ds)) (want_on (z4 rfl ds)) ?_))))))
            by_cases hs25 : (x.wide = ((c.val.length : Nat) : Int))
            · refine r_op (ndec_f (o_neq (ev_t (z1 rfl (z2 rfl ds))) (ev_t ds)) hs25) (want_on (z1 rfl (z4 rfl ds))) (r_op (o_pick_f (ev_t (z2 rfl (z4 rfl ds))) (ev_t ds)) rfl (r_nil (k_cond_f (ev_t ds) (k_skip (k_seq ?_)))))
              rcases Nat.eq_zero_or_pos i with hi0 | hi0
              · have hz_ : ¬ ((0 : Int) < ((i : Nat) : Int)) := by omega
                refine k_draw (e_opT (on := []) gon_nil 0 rfl (o_mov (ev_t (z1 rfl (z2 rfl (z8 rfl (z8 rfl (z8 rfl (z8 rfl (z8 rfl (z8 rfl ds)))))))))) rfl (e_opT (on := []) gon_nil 1 rfl (dec_f (o_gtr (ev_t ds) ev_c) hz_) rfl (e_opT (on := []) gon_nil 2 rfl (o_mov (ev_t ds)) rfl (e_offT (on := []) gon_nil 3 rfl (want_not ds rfl) (e_offT (on := []) gon_nil 4 rfl (want_not (z1 rfl ds) rfl) (e_offT (on := []) gon_nil 5 rfl (want_not (z2 rfl ds) rfl) (e_offT (on := []) gon_nil 6 rfl (want_not (z1 rfl (z2 rfl ds)) rfl) (e_offT (on := []) gon_nil 7 rfl (want_not (z4 rfl ds) rfl) (e_offT (on := []) gon_nil 8 rfl (want_not (z1 rfl (z4 rfl ds)) rfl) (e_offT (on := []) gon_nil 9 rfl (want_not (z2 rfl (z4 rfl ds)) rfl) (e_offT (on := []) gon_nil 10 rfl (want_not (z1 rfl (z2 rfl (z4 rfl ds))) rfl) (e_offT (on := []) gon_nil 11 rfl (want_not (z8 rfl ds) rfl) (e_offT (on := []) gon_nil 12 rfl (want_not (z1 rfl (z8 rfl ds)) rfl) (e_offT (on := []) gon_nil 13 rfl (want_not (z2 rfl (z8 rfl ds)) rfl) (e_offT (on := []) gon_nil 14 rfl (want_not (z1 rfl (z2 rfl (z8 rfl ds))) rfl) (e_offT (on := []) gon_nil 15 rfl (want_not (z4 rfl (z8 rfl ds)) rfl) (e_offT (on := []) gon_nil 16 rfl (want_not (z1 rfl (z4 rfl (z8 rfl ds))) rfl) (e_offT (on := []) gon_nil 17 rfl (want_not (z2 rfl (z4 rfl (z8 rfl ds))) rfl) (e_offT (on := []) gon_nil 18 rfl (want_not (z1 rfl (z2 rfl (z4 rfl (z8 rfl ds)))) rfl) (e_offT (on := []) gon_nil 19 rfl (want_not (z8 rfl (z8 rfl ds)) rfl) (e_offT (on := []) gon_nil 20 rfl (want_not (z1 rfl (z8 rfl (z8 rfl ds))) rfl) ?_)))))))))))))))))))))
                refine e_offT (on := []) gon_nil 21 rfl (want_not (z2 rfl (z8 rfl (z8 rfl ds))) rfl) (e_offT (on := []) gon_nil 22 rfl (want_not (z1 rfl (z2 rfl (z8 rfl (z8 rfl ds)))) rfl) (e_offT (on := []) gon_nil 23 rfl (want_not (z4 rfl (z8 rfl (z8 rfl ds))) rfl) (e_opT (on := []) gon_nil 24 rfl (o_pick_f (ev_t (z1 rfl (z4 rfl (z8 rfl (z8 rfl ds))))) ev_c) rfl (e_done (k_cond_f (ev_t ds) (k_skip (k_reg (r_op (o_add (ev_t (z2 rfl (z8 rfl (z8 rfl (z8 rfl (z8 rfl (z8 rfl (z8 rfl (z8 rfl (z8 rfl (z8 rfl (z8 rfl q25)))))))))))) ev_c (by omega) (by omega)) rfl (m1 ds (r_nil ?_))))))))))
                refine ⟨mm - 1, by omega, i + 1, by omega, (fun j hj c_ hc_ => ?_), (fun j hj a_ c_ ha_ hc_ => ?_), (z4 rfl (z8 rfl (z8 rfl (z8 rfl (z8 rfl (z8 rfl (z8 rfl (z8 rfl (z8 rfl (z8 rfl (z8 rfl q3))))))))))), (z4 rfl (z8 rfl (z8 rfl (z8 rfl (z8 rfl (z8 rfl (z8 rfl (z8 rfl (z8 rfl (z8 rfl (z8 rfl q1))))))))))), ds, (z4 rfl (z8 rfl (z8 rfl (z8 rfl (z8 rfl (z8 rfl (z8 rfl (z8 rfl (z8 rfl (z8 rfl (z8 rfl q23))))))))))), (z4 rfl (z8 rfl (z8 rfl (z8 rfl (z8 rfl (z8 rfl (z8 rfl (z8 rfl (z8 rfl (z8 rfl (z8 rfl q24))))))))))), (look_ne hh23 (by omega) (look_ne hh21 (by omega) (Keep.look hk_b (by omega) id (look_ne hh12 (by omega) (look_ne hh10 (by omega) hr1))))), by omega, Keep.upd (Keep.upd (Keep.trans (Keep.upd (Keep.upd (hkp) hh10 (.inl (by omega))) hh12 (.inl (by omega))) hk_b (by omega) (fun d _ h => h)) hh21 (.inl (by omega))) hh23 (.inl (by omega)), by omega⟩
                · rcases (show j < i ∨ j = i by omega) with hj | rfl
                  · exact hok j hj c_ hc_
                  rw [hc] at hc_; cases hc_; exact ⟨by omega, by omega, hr_.elim (fun e => e.2) (fun e => by exfalso; omega), k, x, hk, hx, by omega, by omega⟩
                rcases (show j + 1 < i ∨ j + 1 = i by omega) with hj | hj
                · exact hri j hj a_ c_ ha_ hc_
                omega
              have hz_ :  ((0 : Int) < ((i : Nat) : Int)) := by omega
              obtain ⟨a, ha⟩ := some_at (l := cs) (i := i - 1) (by omega)
              refine k_draw (e_opT (on := []) gon_nil 0 rfl (o_mov (ev_t (z1 rfl (z2 rfl (z8 rfl (z8 rfl (z8 rfl (z8 rfl (z8 rfl (z8 rfl ds)))))))))) rfl (e_opT (on := []) gon_nil 1 rfl (dec_t (o_gtr (ev_t ds) ev_c) hz_) rfl (e_opT (on := []) gon_nil 2 rfl (o_mov (ev_t ds)) rfl (e_opT (on := [(80, true)]) (gon_cons (want_on ds) gon_nil) 3 rfl (o_mov (ev_t (z4 rfl (z8 rfl (z8 rfl (z8 rfl (z8 rfl (z8 rfl (z8 rfl (z8 rfl q1)))))))))) (want_on ds) (e_opT (on := [(80, true)]) (gon_cons (want_on (z1 rfl ds)) gon_nil) 4 rfl (o_mov (ev_t (z1 rfl (z2 rfl (z4 rfl (z8 rfl (z8 rfl (z8 rfl (z8 rfl (z8 rfl (z8 rfl ds))))))))))) (want_on (z1 rfl ds)) (e_opT (on := [(80, true)]) (gon_cons (want_on (z2 rfl ds)) gon_nil) 5 rfl (o_sub (ev_t ds) ev_c (by omega) (by omega)) (want_on (z2 rfl ds)) (e_opT (on := [(80, true)]) (gon_cons (want_on (z1 rfl (z2 rfl ds))) gon_nil) 6 rfl (o_iaddrE (i := ((((i : Nat) : Int) - 1)).toNat) (ev_t (z2 rfl ds)) hce (ev_cast (ev_t ds) (by omega)) (by omega)) (want_on (z1 rfl (z2 rfl ds))) (e_opT (on := [(80, true)]) (gon_cons (want_on (z4 rfl ds)) gon_nil) 7 rfl (o_faddr (off := 0) (ev_t ds)) (want_on (z4 rfl ds)) (e_opT (on := [(80, true)]) (gon_cons (want_on (z1 rfl (z4 rfl ds))) gon_nil) 8 rfl (o_load (ev_t ds) (look_ne hh23 (by omega) (look_ne hh21 (by omega) (Keep.look hk_b (by omega) id (look_ne hh12 (by omega) (look_ne hh10 (by omega) hrc1))))) (rowC_get (j := 0) hsegc ha (by decide) (by omega) rfl)) (want_on (z1 rfl (z4 rfl ds))) (e_opT (on := [(80, true)]) (gon_cons (want_on (z2 rfl (z4 rfl ds))) gon_nil) 9 rfl (o_faddr (off := 0) (ev_t (z1 rfl (z4 rfl (z8 rfl (z8 rfl (z8 rfl (z8 rfl (z8 rfl (z8 rfl (z8 rfl ds))))))))))) (want_on (z2 rfl (z4 rfl ds))) ?_))))))))))
              refine e_opT (on := [(80, true)]) (gon_cons (want_on (z1 rfl (z2 rfl (z4 rfl ds)))) gon_nil) 10 rfl (o_load (ev_t ds) (look_ne hh23 (by omega) (look_ne hh21 (by omega) (Keep.look hk_b (by omega) id (look_same hh12)))) rfl) (want_on (z1 rfl (z2 rfl (z4 rfl ds)))) (e_opT (on := [(80, true)]) (gon_cons (want_on (z8 rfl ds)) gon_nil) 12 rfl (o_mov (ev_t (z4 rfl (z8 rfl (z8 rfl (z8 rfl (z8 rfl (z8 rfl (z8 rfl (z8 rfl (z8 rfl q1))))))))))) (want_on (z8 rfl ds)) (e_opT (on := [(80, true)]) (gon_cons (want_on (z1 rfl (z8 rfl ds))) gon_nil) 13 rfl (o_mov (ev_t (z1 rfl (z2 rfl (z4 rfl (z8 rfl (z8 rfl (z8 rfl (z8 rfl (z8 rfl (z8 rfl (z8 rfl ds)))))))))))) (want_on (z1 rfl (z8 rfl ds))) (e_opT (on := [(80, true)]) (gon_cons (want_on (z2 rfl (z8 rfl ds))) gon_nil) 14 rfl (o_sub (ev_t ds) ev_c (by omega) (by omega)) (want_on (z2 rfl (z8 rfl ds))) (e_opT (on := [(80, true)]) (gon_cons (want_on (z1 rfl (z2 rfl (z8 rfl ds)))) gon_nil) 15 rfl (o_iaddrE (i := ((((i : Nat) : Int) - 1)).toNat) (ev_t (z2 rfl ds)) hce (ev_cast (ev_t ds) (by omega)) (by omega)) (want_on (z1 rfl (z2 rfl (z8 rfl ds)))) (e_opT (on := [(80, true)]) (gon_cons (want_on (z4 rfl (z8 rfl ds))) gon_nil) 16 rfl (o_faddr (off := 1) (ev_t ds)) (want_on (z4 rfl (z8 rfl ds))) (e_opT (on := [(80, true)]) (gon_cons (want_on (z1 rfl (z4 rfl (z8 rfl ds)))) gon_nil) 17 rfl (o_load (ev_t ds) (look_ne hh23 (by omega) (look_ne hh21 (by omega) (Keep.look hk_b (by omega) id (look_ne hh12 (by omega) (look_ne hh10 (by omega) hrc1))))) (rowC_get (j := 1) hsegc ha (by decide) (by omega) rfl)) (want_on (z1 rfl (z4 rfl (z8 rfl ds)))) ?_))))))
              refine e_opT (on := [(80, true)]) (gon_cons (want_on (z2 rfl (z4 rfl (z8 rfl ds)))) gon_nil) 18 rfl (o_faddr (off := 1) (ev_t (z1 rfl (z4 rfl (z8 rfl (z8 rfl (z8 rfl (z8 rfl (z8 rfl (z8 rfl (z8 rfl (z8 rfl ds)))))))))))) (want_on (z2 rfl (z4 rfl (z8 rfl ds)))) (e_opT (on := [(80, true)]) (gon_cons (want_on (z1 rfl (z2 rfl (z4 rfl (z8 rfl ds))))) gon_nil) 19 rfl (o_load (ev_t ds) (look_ne hh23 (by omega) (look_ne hh21 (by omega) (Keep.look hk_b (by omega) id (look_same hh12)))) rfl) (want_on (z1 rfl (z2 rfl (z4 rfl (z8 rfl ds))))) (d_callT (on := [(80, true)]) (gon_cons (want_on (z8 rfl (z8 rfl ds))) gon_nil) (ix := 11) (pr := [8, 10, 2, 2]) (d := (some 89)) (g := (some (80, true))) (F' := [(⟨19, [18, 2], ⟨(some 97), (some (80, true)), (.op (.load (.t 96)))⟩⟩, (.int .i64 c.net)), (⟨18, [2], ⟨(some 96), (some (80, true)), (.op (.faddr (.t 8) 1))⟩⟩, (.ptr nv 1)), (⟨17, [16, 2], ⟨(some 95), (some (80, true)), (.op (.load (.t 94)))⟩⟩, (.int .i64 a.net)), (⟨16, [15, 2], ⟨(some 94), (some (80, true)), (.op (.faddr (.t 93) 1))⟩⟩, (.ptr dc ((oc + ((((i : Nat) : Int) - 1)).toNat * 3) + 1))), (⟨15, [12, 14, 2], ⟨(some 93), (some (80, true)), (.op (.iaddr 3 (.t 90) (.t 92)))⟩⟩, (.ptr dc (oc + ((((i : Nat) : Int) - 1)).toNat * 3))), (⟨14, [13, 2], ⟨(some 92), (some (80, true)), (.op (.bin .sub (.t 91) (.c (.int .i64 1))))⟩⟩, (.int .i64 (((i : Nat) : Int) - 1))), (⟨13, [2], ⟨(some 91), (some (80, true)), (.op (.mov (.t 7)))⟩⟩, (.int .i64 ((i : Nat) : Int))), (⟨12, [2], ⟨(some 90), (some (80, true)), (.op (.mov (.t 1)))⟩⟩, cv), (⟨4, [2], ⟨(some 82), (some (80, true)), (.op (.mov (.t 7)))⟩⟩, (.int .i64 ((i : Nat) : Int)))]) (w_callF (evs_cons (ev_t (z2 rfl (z8 rfl ds))) (evs_cons (ev_t (z8 rfl ds)) evs_nil))) (want_on (z8 rfl (z8 rfl ds))) (by kernel_rfl) (by kernel_rfl) (by kernel_rfl) (by kernel_rfl) (WF.mono (compare_ok a.at_ c.at_) ?_)))
              rintro _ t26 n27 ⟨c1, rfl, hcr1, hn_1, hk_1⟩
              refine ⟨?_, ?_⟩
              · exact (all_cons_ (still_op (want_on (z1 rfl (z8 rfl (z8 rfl ds)))) rfl (o_load (ev_t (z2 rfl ds)) (Keep.look hk_1 (by omega) id (look_ne hh23 (by omega) (look_ne hh21 (by omega) (Keep.look hk_b (by omega) id (look_same hh12))))) rfl) (aeq_flat rfl)) (all_cons_ (still_op (want_on (z1 rfl (z8 rfl (z8 rfl ds)))) rfl (o_faddr (off := 1) (ev_t (z8 rfl (z8 rfl (z8 rfl (z8 rfl (z8 rfl (z8 rfl (z8 rfl (z8 rfl (z8 rfl ds))))))))))) (aeq_flat rfl)) (all_cons_ (still_op (want_on (z1 rfl (z8 rfl (z8 rfl ds)))) rfl (o_load (ev_t (z4 rfl ds)) (Keep.look hk_1 (by omega) id (look_ne hh23 (by omega) (look_ne hh21 (by omega) (Keep.look hk_b (by omega) id (look_ne hh12 (by omega) (look_ne hh10 (by omega) hrc1)))))) (rowC_get (j := 1) hsegc ha (by decide) (by omega) rfl)) (aeq_flat rfl)) (all_cons_ (still_op (want_on (z1 rfl (z8 rfl (z8 rfl ds)))) rfl (o_faddr (off := 1) (ev_t (z1 rfl (z4 rfl ds)))) (aeq_flat rfl)) (all_cons_ (still_op (want_on (z1 rfl (z8 rfl (z8 rfl ds)))) rfl (o_iaddrE (i := ((((i : Nat) : Int) - 1)).toNat) (ev_t (z8 rfl ds)) hce (ev_cast (ev_t (z2 rfl (z4 rfl ds))) (by omega)) (by omega)) (aeq_flat rfl)) (all_cons_ (still_op (want_on (z1 rfl (z8 rfl (z8 rfl ds)))) rfl (o_sub (ev_t (z1 rfl (z2 rfl (z4 rfl ds)))) ev_c (by omega) (by omega)) (aeq_flat rfl)) (all_cons_ (still_op (want_on (z1 rfl (z8 rfl (z8 rfl ds)))) rfl (o_mov (ev_t (z1 rfl (z2 rfl (z4 rfl (z8 rfl (z8 rfl (z8 rfl (z8 rfl (z8 rfl (z8 rfl (z8 rfl (z8 rfl ds))))))))))))) (aeq_flat rfl)) (all_cons_ (still_op (want_on (z1 rfl (z8 rfl (z8 rfl ds)))) rfl (o_mov (ev_t (z1 rfl (z4 rfl (z8 rfl (z8 rfl (z8 rfl (z8 rfl (z8 rfl (z8 rfl (z8 rfl (z8 rfl (z8 rfl q1))))))))))))) (aeq_flat hfc)) (all_cons_ (still_op (want_on (z1 rfl (z8 rfl (z8 rfl ds)))) rfl (o_mov (ev_t (z1 rfl (z2 rfl (z4 rfl (z8 rfl (z8 rfl (z8 rfl (z8 rfl (z8 rfl (z8 rfl (z8 rfl (z8 rfl ds))))))))))))) (aeq_flat rfl)) all_nil_)))))))))
              refine d_callT (on := [(80, true)]) (gon_cons (want_on (z1 rfl (z8 rfl (z8 rfl ds)))) gon_nil) (ix := 20) (pr := [17, 19, 11, 2]) (d := (some 98)) (g := (some (80, true))) (F' := [(⟨13, [2], ⟨(some 91), (some (80, true)), (.op (.mov (.t 7)))⟩⟩, (.int .i64 ((i : Nat) : Int))), (⟨4, [2], ⟨(some 82), (some (80, true)), (.op (.mov (.t 7)))⟩⟩, (.int .i64 ((i : Nat) : Int)))]) (w_callF (evs_cons (ev_t (z1 rfl (z2 rfl ds))) (evs_cons (ev_t (z1 rfl ds)) evs_nil))) (want_on (z1 rfl (z8 rfl (z8 rfl ds)))) (by kernel_rfl) (by kernel_rfl) (by kernel_rfl) (by kernel_rfl) (WF.mono (compare_ok a.net c.net) ?_)
              rintro _ t28 n29 ⟨c2, rfl, hcr2, hn_2, hk_2⟩
              refine ⟨?_, ?_⟩
              · exact (all_cons_ (still_op (want_on (z2 rfl (z8 rfl (z8 rfl ds)))) rfl (o_mov (ev_t (z8 rfl (z8 rfl (z8 rfl (z8 rfl (z8 rfl (z8 rfl (z8 rfl (z8 rfl (z8 rfl ds))))))))))) (aeq_flat rfl)) (all_cons_ (still_op (want_on (z2 rfl (z8 rfl (z8 rfl ds)))) rfl (o_mov (ev_t (z8 rfl (z8 rfl (z8 rfl (z8 rfl (z8 rfl (z8 rfl (z8 rfl (z8 rfl (z8 rfl ds))))))))))) (aeq_flat rfl)) all_nil_))
              refine d_heapT (on := [(80, true)]) (gon_cons (want_on (z2 rfl (z8 rfl (z8 rfl ds)))) gon_nil) (ix := 21) (pr := [11, 20, 2]) (d := (some 99)) (g := (some (80, true))) (F' := [(⟨13, [2], ⟨(some 91), (some (80, true)), (.op (.mov (.t 7)))⟩⟩, (.int .i64 ((i : Nat) : Int))), (⟨4, [2], ⟨(some 82), (some (80, true)), (.op (.mov (.t 7)))⟩⟩, (.int .i64 ((i : Nat) : Int)))]) (o := (.bslice 1 2 [(.int .i64 0)] [(0, 1, (.t 89)), (1, 1, (.t 98))])) (o_bslice (fill_cons (ev_t (z1 rfl ds)) rfl rfl (fill_cons (ev_t ds) rfl rfl fill_nil))) (want_on (z2 rfl (z8 rfl (z8 rfl ds)))) (by kernel_rfl) (by kernel_rfl) (by kernel_rfl) (by kernel_rfl) (fun t30 (hh31 : hv t30 = upd (hv t28) n29 (some (.row [(.int .i64 c1), (.int .i64 c2)] true))) => ⟨?_, ?_⟩)
              · exact (all_cons_ (still_op (want_on (z1 rfl (z2 rfl (z8 rfl (z8 rfl ds))))) rfl (o_mov (ev_t (z1 rfl (z8 rfl (z8 rfl (z8 rfl (z8 rfl (z8 rfl (z8 rfl (z8 rfl (z8 rfl (z8 rfl ds)))))))))))) (aeq_flat rfl)) (all_cons_ (still_op (want_on (z1 rfl (z2 rfl (z8 rfl (z8 rfl ds))))) rfl (o_mov (ev_t (z1 rfl (z8 rfl (z8 rfl (z8 rfl (z8 rfl (z8 rfl (z8 rfl (z8 rfl (z8 rfl (z8 rfl ds)))))))))))) (aeq_flat rfl)) all_nil_))
              refine d_callT (on := [(80, true)]) (gon_cons (want_on (z1 rfl (z2 rfl (z8 rfl (z8 rfl ds))))) gon_nil) (ix := 22) (pr := [21, 20, 2]) (d := (some 100)) (g := (some (80, true))) (F' := [(⟨13, [2], ⟨(some 91), (some (80, true)), (.op (.mov (.t 7)))⟩⟩, (.int .i64 ((i : Nat) : Int))), (⟨4, [2], ⟨(some 82), (some (80, true)), (.op (.mov (.t 7)))⟩⟩, (.int .i64 ((i : Nat) : Int)))]) (w_callF (evs_cons (ev_t ds) evs_nil)) (want_on (z1 rfl (z2 rfl (z8 rfl (z8 rfl ds))))) (by kernel_rfl) (by kernel_rfl) (by kernel_rfl) (by kernel_rfl) (WF.mono (or_ok (bd := (n29 + 1)) (l := [c1, c2]) (.inr ⟨n29, 0, 2, true, true, [.int .i64 c1, .int .i64 c2], rfl, by omega, (look_same hh31), by simp, rfl⟩) (Nat.le_refl _) (by simp)) ?_)
              rintro _ t32 n33 ⟨rfl, hn_o, hk_o⟩
              have horl := orL2 c1 c2
              refine ⟨?_, ?_⟩
              · exact (all_cons_ (still_op (want_on (z4 rfl (z8 rfl (z8 rfl ds)))) rfl (o_mov (ev_t (z2 rfl (z8 rfl (z8 rfl (z8 rfl (z8 rfl (z8 rfl (z8 rfl (z8 rfl (z8 rfl (z8 rfl ds)))))))))))) (aeq_flat rfl)) (all_cons_ (still_op (want_on (z4 rfl (z8 rfl (z8 rfl ds)))) rfl (o_mov (ev_t (z2 rfl (z8 rfl (z8 rfl (z8 rfl (z8 rfl (z8 rfl (z8 rfl (z8 rfl (z8 rfl (z8 rfl ds)))))))))))) (aeq_flat rfl)) all_nil_))
              by_cases hs34 : ((orL [c1, c2]) < 0)
              · refine e_opT (on := [(80, true)]) (gon_cons (want_on (z4 rfl (z8 rfl (z8 rfl ds)))) gon_nil) 23 rfl (ndec_f (o_geq (ev_t ds) ev_c) hs34) (want_on (z4 rfl (z8 rfl (z8 rfl ds)))) (e_opT (on := [(80, true)]) (gon_cons (want_on (z1 rfl (z4 rfl (z8 rfl (z8 rfl ds))))) gon_nil) 24 rfl (o_pick_t (ev_t (z1 rfl (z4 rfl (z8 rfl (z8 rfl ds))))) (ev_t ds)) rfl (e_done (k_cond_f (ev_t ds) (k_skip (k_reg (r_op (o_add (ev_t (z2 rfl (z8 rfl (z8 rfl (z8 rfl (z8 rfl (z8 rfl (z8 rfl (z8 rfl (z8 rfl (z8 rfl (z8 rfl q25)))))))))))) ev_c (by omega) (by omega)) rfl (m1 ds (r_nil ?_))))))))
                refine ⟨mm - 1, by omega, i + 1, by omega, (fun j hj c_ hc_ => ?_), (fun j hj a_ c_ ha_ hc_ => ?_), (z4 rfl (z8 rfl (z8 rfl (z8 rfl (z8 rfl (z8 rfl (z8 rfl (z8 rfl (z8 rfl (z8 rfl (z8 rfl q3))))))))))), (z4 rfl (z8 rfl (z8 rfl (z8 rfl (z8 rfl (z8 rfl (z8 rfl (z8 rfl (z8 rfl (z8 rfl (z8 rfl q1))))))))))), ds, (z4 rfl (z8 rfl (z8 rfl (z8 rfl (z8 rfl (z8 rfl (z8 rfl (z8 rfl (z8 rfl (z8 rfl (z8 rfl q23))))))))))), (z4 rfl (z8 rfl (z8 rfl (z8 rfl (z8 rfl (z8 rfl (z8 rfl (z8 rfl (z8 rfl (z8 rfl (z8 rfl q24))))))))))), (Keep.look hk_o (by omega) id (look_ne hh31 (by omega) (Keep.look hk_2 (by omega) id (Keep.look hk_1 (by omega) id (look_ne hh23 (by omega) (look_ne hh21 (by omega) (Keep.look hk_b (by omega) id (look_ne hh12 (by omega) (look_ne hh10 (by omega) hr1))))))))), by omega, Keep.trans (Keep.upd (Keep.trans (Keep.trans (Keep.upd (Keep.upd (Keep.trans (Keep.upd (Keep.upd (hkp) hh10 (.inl (by omega))) hh12 (.inl (by omega))) hk_b (by omega) (fun d _ h => h)) hh21 (.inl (by omega))) hh23 (.inl (by omega))) hk_1 (by omega) (fun d _ h => h)) hk_2 (by omega) (fun d _ h => h)) hh31 (.inl (by omega))) hk_o (by omega) (fun d _ h => h), by omega⟩
                · rcases (show j < i ∨ j = i by omega) with hj | rfl
                  · exact hok j hj c_ hc_
                  rw [hc] at hc_; cases hc_; exact ⟨by omega, by omega, hr_.elim (fun e => e.2) (fun e => by exfalso; omega), k, x, hk, hx, by omega, by omega⟩
                rcases (show j + 1 < i ∨ j + 1 = i by omega) with hj | hj
                · exact hri j hj a_ c_ ha_ hc_
                rw [hj, hc] at hc_; cases hc_; rw [show j = i - 1 by omega, ha] at ha_; cases ha_; unfold chgLt; omega
              refine e_opT (on := [(80, true)]) (gon_cons (want_on (z4 rfl (z8 rfl (z8 rfl ds)))) gon_nil) 23 rfl (ndec_t (o_geq (ev_t ds) ev_c) hs34) (want_on (z4 rfl (z8 rfl (z8 rfl ds)))) (e_opT (on := [(80, true)]) (gon_cons (want_on (z1 rfl (z4 rfl (z8 rfl (z8 rfl ds))))) gon_nil) 24 rfl (o_pick_t (ev_t (z1 rfl (z4 rfl (z8 rfl (z8 rfl ds))))) (ev_t ds)) rfl (e_done (k_cond_t (ev_t ds) (k_seq (k_reg (r_op (o_mov ev_c) rfl (r_nil (k_ret ?_))))))))
              have hno : ¬ StimP ns ts cs b := by
                intro h
                have h1 := h.rise (i - 1) a c ha (by rw [Nat.sub_add_cancel hi0]; exact hc)
                unfold chgLt at h1; omega
              exact ⟨_, ans_tmp ds, _, rfl, by omega, ⟨fun h => by omega, fun h => absurd h hno⟩, by omega, Keep.trans (Keep.upd (Keep.trans (Keep.trans (Keep.upd (Keep.upd (Keep.trans (Keep.upd (Keep.upd (hkp) hh10 (.inl (by omega))) hh12 (.inl (by omega))) hk_b (by omega) (fun d _ h => h)) hh21 (.inl (by omega))) hh23 (.inl (by omega))) hk_1 (by omega) (fun d _ h => h)) hk_2 (by omega) (fun d _ h => h)) hh31 (.inl (by omega))) hk_o (by omega) (fun d _ h => h)⟩
            refine r_op (ndec_t (o_neq (ev_t (z1 rfl (z2 rfl ds))) (ev_t ds)) hs25) (want_on (z1 rfl (z4 rfl ds))) (r_op (o_pick_f (ev_t (z2 rfl (z4 rfl ds))) (ev_t ds)) rfl (r_nil (k_cond_t (ev_t ds) (k_seq (k_reg (r_op (o_mov ev_c) rfl (r_nil (k_ret ?_))))))))
            have hno : ¬ StimP ns ts cs b := by
              intro h
              obtain ⟨h1, h2, h3, k_, x_, h4, h5, h6, h7⟩ := h.each c hcm
              rw [hk] at h4; cases h4; rw [hx] at h5; cases h5; omega
            exact ⟨_, ans_tmp ds, _, rfl, by omega, ⟨fun h => by omega, fun h => absurd h hno⟩, by omega, Keep.upd (Keep.upd (Keep.trans (Keep.upd (Keep.upd (hkp) hh10 (.inl (by omega))) hh12 (.inl (by omega))) hk_b (by omega) (fun d _ h => h)) hh21 (.inl (by omega))) hh23 (.inl (by omega))⟩
          refine r_op (ndec_t (o_neq (ev_t ds) ev_c) hs24) rfl (m1 ds (r_off (want_not ds rfl) (r_off (want_not (z1 rfl ds) rfl) (r_off (want_not (z2 rfl ds) rfl) (r_off (want_not (z1 rfl (z2 rfl ds)) rfl) (r_off (want_not (z4 rfl ds) rfl) (r_off (want_not (z1 rfl (z4 rfl ds)) rfl) (r_op (o_pick_t (ev_t (z2 rfl (z4 rfl ds))) ev_c) rfl (r_nil (k_cond_t (ev_t ds) (k_seq (k_reg (r_op (o_mov ev_c) rfl (r_nil (k_ret ?_)))))))))))))))
          have hno : ¬ StimP ns ts cs b := by
            intro h
            obtain ⟨h1, h2, h3, k_, x_, h4, h5, h6, h7⟩ := h.each c hcm
            rw [hk] at h4; cases h4; rw [hx] at h5; cases h5; omega
          exact ⟨_, ans_tmp ds, _, rfl, by omega, ⟨fun h => by omega, fun h => absurd h hno⟩, by omega, Keep.upd (Keep.upd (Keep.trans (Keep.upd (Keep.upd (hkp) hh10 (.inl (by omega))) hh12 (.inl (by omega))) hk_b (by omega) (fun d _ h => h)) hh21 (.inl (by omega))) hh23 (.inl (by omega))⟩
        refine r_op (ndec_t (o_neq (ev_t ds) ev_c) hs19) (want_on (z1 rfl (z2 rfl ds))) (r_op (o_pick_f (ev_t (z4 rfl ds)) (ev_t ds)) rfl (r_nil (k_cond_t (ev_t ds) (k_seq (k_reg (r_op (o_mov ev_c) rfl (r_nil (k_ret ?_))))))))
        have hno : ¬ StimP ns ts cs b := by
          intro h
          obtain ⟨h1, h2, h3, k_, x_, h4, h5, h6, h7⟩ := h.each c hcm
          first | omega | exact hr_.elim (fun e => by exfalso; omega) (fun e => e.2 h3)
        exact ⟨_, ans_tmp ds, _, rfl, by omega, ⟨fun h => by omega, fun h => absurd h hno⟩, by omega, Keep.trans (Keep.upd (Keep.upd (hkp) hh10 (.inl (by omega))) hh12 (.inl (by omega))) hk_b (by omega) (fun d _ h => h)⟩
      refine r_op (ndec_t (o_geq (ev_t (z1 rfl (z2 rfl ds))) (ev_t ds)) hs16) (want_on (z1 rfl (z4 rfl ds))) (r_op (o_pick_f (ev_t (z2 rfl (z4 rfl ds))) (ev_t ds)) rfl (m1 ds (r_off (want_not ds rfl) (r_off (want_not (z1 rfl ds) rfl) (r_off (want_not (z2 rfl ds) rfl) (r_off (want_not (z1 rfl (z2 rfl ds)) rfl) (r_op (o_pick_t (ev_t (z4 rfl ds)) ev_c) rfl (r_nil (k_cond_t (ev_t ds) (k_seq (k_reg (r_op (o_mov ev_c) rfl (r_nil (k_ret ?_))))))))))))))
      have hno : ¬ StimP ns ts cs b := by
        intro h
        obtain ⟨h1, h2, h3, k_, x_, h4, h5, h6, h7⟩ := h.each c hcm
        first | omega | exact hr_.elim (fun e => by exfalso; omega) (fun e => e.2 h3)
      exact ⟨_, ans_tmp ds, _, rfl, by omega, ⟨fun h => by omega, fun h => absurd h hno⟩, by omega, Keep.upd (Keep.upd (hkp) hh10 (.inl (by omega))) hh12 (.inl (by omega))⟩
    replace hc8 := of_decide_eq_false hc8
    refine k_exit (exK_same (k_seq (k_reg (r_op (o_loadA (n := 3) (ev_t (z1 rfl q3)) hr1 (leb rfl) rfl) rfl (r_call (w_callF (evs_cons (ev_t ds) evs_nil)) rfl (WF.mono (hlr _ _ (hkp) (by omega)) ?_))))))
    rintro _ t35 n36 ⟨lv, rfl, hn_l, hk_l⟩
    refine m1 ds (r_op (o_extr (ev_t ds) rfl) rfl (r_op (o_extr (ev_t (z1 rfl ds)) rfl) rfl (m1 (z1 rfl ds) (m1 (z1 rfl ds) (r_nil (k_seq (k_reg (m1 ds (m1 ds (r_nil (k_ret ?_)))))))))))
    exact ⟨_, ans_tmp ds, _, rfl, by omega, ⟨fun _ => ⟨by omega, fun c_ hc_ => by obtain ⟨j, hj, rfl⟩ := List.mem_iff_getElem.1 hc_; exact hok j (by omega) _ (List.getElem?_eq_getElem hj), fun j a_ c_ ha_ hc_ => hri j (by have := (List.getElem?_eq_some_iff.1 hc_).1; omega) a_ c_ ha_ hc_⟩, fun _ => rfl⟩, by omega, Keep.trans (hkp) hk_l (by omega) (fun d _ h => h)⟩
  refine r_op (ndec_t (o_neq (ev_t ds) ev_c) hs5) rfl (m1 ds (r_off (want_not ds rfl) (r_off (want_not (z1 rfl ds) rfl) (r_op (o_pick_t (ev_t (z2 rfl ds)) ev_c) rfl (m1 ds (r_off (want_not ds rfl) (r_off (want_not (z1 rfl ds) rfl) (r_op (o_pick_t (ev_t (z2 rfl ds)) ev_c) rfl (r_nil (k_cond_t (ev_t ds) (k_seq (k_reg (r_op (o_mov ev_c) rfl (r_nil (k_ret ?_)))))))))))))))
  have hno : ¬ StimP ns ts cs b := by
    intro h
    have h1 := h.upto; omega
  exact ⟨_, ans_tmp ds, _, rfl, by omega, ⟨fun h => by omega, fun h => absurd h hno⟩, by omega, Keep.trans (Keep.upd (Keep.refl _ _ _) hh2 (.inl (by omega))) hk_c (by omega) (fun d _ h => h)⟩
end Go.Proofs.YtpjohgnhmjceiaaGreatDoor.WX

