/- A verified evaluator of the program's code, part 3 of 4: what it computes of a call is what the call does; rules for what it computes.
   Conditions: none; it speaks of every program. -/
import Derived.Test.YtpjohgnhmjceiaaGreatDoorAx2
set_option linter.unusedVariables false
set_option linter.unusedSectionVars false
set_option linter.unusedSimpArgs false
namespace Go.Proofs.YtpjohgnhmjceiaaGreatDoor.AX
variable [Env]
variable {P : Program} {a : Act} {w : World} {ρ : Rho} {N : Nat} {T : TA} {t t' : TB} {nx nx' : Nat} {v : AV}
theorem s_range {o : Oper} {ty kt e : TypeId} {x : Operand} (ho : o.op = .range ty x) (hu : P.underlying ty = some (.map kt e)) (hh : HRel ρ t nx w) (ht : TRel ρ N T a) (h : (IOp.range (opd x)).run T t nx = .ok v t' nx') : Sound P o a w ρ t nx v t' nx' := by
 simp only [IOp.run] at h
 split at h
 · rename_i hx
   rw [fNat_eq] at h; cases h
   have ex := rel_nmap (opd_rel ht hx)
   refine ⟨_, _, _, .pointer (some ⟨w.heap.size, 0, none⟩), ?_, .inl rfl, nxt_alloc hh (.mapIter none 0 #[] 0) (.iter none 0 [] 0) 0 0 ⟨rfl, heap_new w _⟩, by simp [AV.rel, Rho.upd]⟩
   simp [execOp, ho, Instr.range, run_underlying hu, ex, newObj, Sem.run]
 · rename_i b hx
   split at h
   · rename_i es clk hb
     rw [fNat_eq] at h; cases h
     obtain ⟨p, hp, ex⟩ := rel_map (opd_rel ht hx)
     obtain ⟨ms, g1, g2, g3⟩ := getObj_map (P := P) hh hb hp
     refine ⟨_, _, _, .pointer (some ⟨w.heap.size, 0, none⟩), ?_, .inl rfl, nxt_alloc hh (.mapIter (some p.blk) clk #[] clk) (.iter (some b) clk [] clk) 0 0 ⟨rfl, p, Rho.le_upd hh.new _ _ hp, heap_new w _⟩, by simp [AV.rel, Rho.upd]⟩
     simp [execOp, ho, Instr.range, run_underlying hu, ex, g1, newObj, Sem.run]
   · cases h
 · cases h
theorem nIn_eq (n : Nat) (l : List Nat) : nIn n l = l.contains n := by
 induction l with
 | nil => rfl
 | cons x l ih =>
   show @Bool.rec (fun _ => Bool) (nIn n l) true (Nat.beq n x) = _
   rw [brec, ih, List.contains_cons]
   by_cases h : n = x
   · subst h; simp [Nat.beq_eq]
   · rw [if_neg (by simpa [Nat.beq_eq] using h)]; simp [h]
theorem leftOf_rel (seen : List Nat) : ∀ (es : List (AV × AV × Nat)) (ms : List MapEntry), entsRel ρ es ms → entsRel ρ (leftOf es seen) (ms.filter (fun e => !seen.contains e.born))
 | [], ms, h => by
   have : ms = [] := List.eq_nil_of_length_eq_zero (by have := h.1; simp at this; omega)
   subst this; exact h
 | e :: es, [], h => by have := h.1; simp at this
 | e :: es, m :: ms, h => by
   have he := h.2 0 e m (by simp) (by simp)
   have ih := leftOf_rel seen es ms ⟨by have := h.1; simpa using this, fun j x y hx hy => h.2 (j + 1) x y (by simpa using hx) (by simpa using hy)⟩
   show entsRel ρ (@Bool.rec (fun _ => List (AV × AV × Nat)) (e :: leftOf es seen) (leftOf es seen) (nIn e.2.2 seen)) _
   rw [brec, nIn_eq, he.2.2, List.filter_cons]
   by_cases hc : seen.contains m.born = true
   · rw [if_pos hc, if_neg (by rw [hc]; decide)]; exact ih
   · rw [if_neg hc, if_pos (by simp at hc ⊢; exact hc)]
     refine ⟨by simp [ih.1], fun i x y hx hy => ?_⟩
     cases i with
     | zero => simp at hx hy; subst hx; subst hy; exact he
     | succ i => exact ih.2 i x y (by simpa using hx) (by simpa using hy)
theorem anyOld_eq (last : Nat) : ∀ (es : List (AV × AV × Nat)) (ms : List MapEntry), entsRel ρ es ms → anyOld es last = true → ms.all (fun e => decide (e.born ≥ last)) = false
 | [], ms, h, k => by cases k
 | e :: es, [], h, k => by have := h.1; simp at this
 | e :: es, m :: ms, h, k => by
   have he := h.2 0 e m (by simp) (by simp)
   have k' : @Bool.rec (fun _ => Bool) (anyOld es last) true (Nat.ble (Nat.succ e.2.2) last) = true := k
   rw [brec] at k'
   by_cases hc : Nat.ble (Nat.succ e.2.2) last = true
   · have := ble_succ hc
     rw [he.2.2] at this
     simp; intro h'; omega
   · rw [if_neg hc] at k'
     have ih := anyOld_eq last es ms ⟨by have := h.1; simpa using this, fun j x y hx hy => h.2 (j + 1) x y (by simpa using hx) (by simpa using hy)⟩ k'
     rw [List.all_cons, ih, Bool.and_false]
theorem s_next {o : Oper} {x : Operand} (ho : o.op = .next x false) (hh : HRel ρ t nx w) (ht : TRel ρ N T a) (h : (IOp.next (opd x)).run T t nx = .ok v t' nx') : Sound P o a w ρ t nx v t' nx' := by
 simp only [IOp.run] at h
 split at h
 · rename_i b hx
   obtain ⟨p, hp, ex⟩ := rel_ptr (opd_rel ht hx)
   split at h
   · rename_i hb
     cases h
     obtain ⟨p', hp', hl, hd, hm⟩ := hh.blk b _ hb
     rw [hp] at hp'; cases hp'
     refine sound_val hh (cv := .tuple #[.bool false]) ?_ (by simp only [AV.rel]; exact ⟨_, rfl, rels_cons.2 ⟨_, _, rfl, by simp [AV.rel], by simp [rels]⟩⟩)
     have hg : (getObj p.blk).run P w = .ok (.mapIter none 0 #[] 0) w := by simp [getObj, Sem.run, hm]
     rw [hd] at ex
     simp [execOp, ho, Instr.next, ex, hg]
   · rename_i m since sn last hb
     split at h
     · rename_i es clk hm
       obtain ⟨p', hp', hl, hd, q, hq, hi⟩ := hh.blk b _ hb
       rw [hp] at hp'; cases hp'
       rw [hd] at ex
       obtain ⟨ms, g1, g2, g3⟩ := getObj_map (P := P) hh hm hq
       have hg : (getObj p.blk).run P w = .ok (.mapIter (some q.blk) since sn.toArray last) w := by simp [getObj, Sem.run, hi]
       have hl0 := leftOf_rel sn es ms.toList g3
       have hleft : (ms.filter fun e => !sn.toArray.contains e.born).toList = ms.toList.filter (fun e => !sn.contains e.born) := by simp
       -- the check ahead
       have hchk : (match leftOf es sn with
         | [] => V1.ok (.tup [.bool false]) t nx
         | [e] => (match Nat.ble (Nat.succ e.2.2) since with
           | true => .ok (.tup [.bool true, e.1, e.2.1]) (t.put (some (.iter (some m) since (lApp sn [e.2.2] (fun r => r)) clk)) b) nx
           | false => .no [])
         | _ => .no []) = .ok v t' nx' ∧ ((!sn.toArray.isEmpty && !ms.isEmpty && ms.all (fun e => decide (e.born ≥ last))) = false) := by
        cases sn with
        | nil => exact ⟨h, by simp⟩
        | cons s ss =>
          cases es with
          | nil =>
            have h1 : ms.toList = [] := List.eq_nil_of_length_eq_zero g3.1.symm
            have h2 : ms = #[] := by simpa using h1
            exact ⟨h, by simp [h2]⟩
          | cons e ee =>
            cases ha : anyOld (e :: ee) last with
            | false => rw [ha] at h; cases h
            | true =>
              rw [ha] at h
              refine ⟨h, ?_⟩
              have h1 := anyOld_eq last _ ms.toList g3 ha
              have h2 : ms.all (fun e => decide (e.born ≥ last)) = false := by rw [← Array.all_toList]; exact h1
              rw [h2, Bool.and_false]
       obtain ⟨h, hc⟩ := hchk
       split at h
       · rename_i hle
         cases h
         rw [hle] at hl0
         have hnil : (ms.filter fun e => !sn.toArray.contains e.born) = #[] := by
          have : (ms.filter fun e => !sn.toArray.contains e.born).toList = [] := by rw [hleft]; exact List.eq_nil_of_length_eq_zero hl0.1.symm
          simpa using this
         refine sound_val hh (cv := .tuple #[.bool false]) ?_ (by simp only [AV.rel]; exact ⟨_, rfl, rels_cons.2 ⟨_, _, rfl, by simp [AV.rel], by simp [rels]⟩⟩)
         simp only [execOp, ho, Sem.run_bind, Instr.next, ex, hg, Result.andThen_ok, g1, hc, hnil]
         simp [choose, Sem.run, Question.forced]
       · rename_i e hle
         split at h
         · rename_i hb2
           rw [lApp_eq] at h
           cases h
           rw [hle] at hl0
           obtain ⟨me, hme⟩ : ∃ me, (ms.filter fun e => !sn.toArray.contains e.born) = #[me] := by
            have h1 : (ms.filter fun e => !sn.toArray.contains e.born).toList.length = 1 := by rw [hleft]; exact hl0.1.symm
            obtain ⟨me, hme⟩ := List.length_eq_one_iff.1 h1
            exact ⟨me, by apply Array.ext'; exact hme⟩
           have her := hl0.2 0 e me (by simp) (by rw [← hleft, hme]; simp)
           have hborn : me.born < since := by rw [← her.2.2]; exact ble_succ hb2
           have hset := setObj_run (P := P) (ob := .mapIter (some q.blk) since ((sn ++ [me.born]).toArray) clk) hi (fun _ _ _ h => by cases h)
           refine ⟨ρ, _, .value (.tuple #[.bool true, me.key, me.val]), _, ?_, .inl rfl, nxt_setObj hh hb rfl hp (k' := .iter (some m) since (sn ++ [e.2.2]) clk) (ob := .mapIter (some q.blk) since ((sn ++ [me.born]).toArray) clk) (fun w' hw' => ⟨hd, q, hq, ?_⟩), ?_⟩
           · have e1 : (#[me] : Array MapEntry).filter (fun e => decide (e.born < since)) = #[me] := by simp [hborn]
             have e2 : (#[me] : Array MapEntry).filter (fun e => decide (e.born ≥ since)) = #[] := by simp; omega
             simp only [execOp, ho, Sem.run_bind, Instr.next, ex, hg, Result.andThen_ok, g1, hc, hme, e1, e2]
             simp [choose, Sem.run, Question.forced, hset]
           · rw [hw']; simp [her.2.2]
           · simp only [AV.rel]
             exact ⟨_, rfl, rels_cons.2 ⟨_, _, rfl, by simp [AV.rel], rels_cons.2 ⟨_, _, rfl, her.1, rels_cons.2 ⟨_, _, rfl, her.2.1, by simp [rels]⟩⟩⟩⟩
         · cases h
       · cases h
     · cases h
   · cases h
 · cases h
theorem findB_rel (n : Nat) : ∀ (es : List (AV × AV × Nat)) (ms : List MapEntry) (r : AV × AV), entsRel ρ es ms → findB es n = some r → ∃ m, ms.find? (fun e => e.born == n) = some m ∧ r.1.rel ρ m.key ∧ r.2.rel ρ m.val
 | [], ms, r, h, k => by cases k
 | e :: es, [], r, h, k => by have := h.1; simp at this
 | e :: es, m :: ms, r, h, k => by
   have he := h.2 0 e m (by simp) (by simp)
   have k' : @Bool.rec (fun _ => Option (AV × AV)) (findB es n) (some (e.1, e.2.1)) (Nat.beq e.2.2 n) = some r := k
   rw [brec] at k'
   by_cases hc : Nat.beq e.2.2 n = true
   · rw [if_pos hc] at k'
     cases k'
     rw [Nat.beq_eq, he.2.2] at hc
     exact ⟨m, by simp [hc], he.1, he.2.1⟩
   · rw [if_neg hc] at k'
     obtain ⟨m', h1, h2⟩ := findB_rel n es ms r ⟨by have := h.1; simpa using this, fun j x y hx hy => h.2 (j + 1) x y (by simpa using hx) (by simpa using hy)⟩ k'
     refine ⟨m', ?_, h2⟩
     rw [Nat.beq_eq, he.2.2] at hc
     rw [List.find?_cons_of_neg (by simpa using hc)]; exact h1
theorem s_entry {o : Oper} {x : Operand} (ho : o.op = .entry x) (hh : HRel ρ t nx w) (ht : TRel ρ N T a) (h : (IOp.entry (opd x)).run T t nx = .ok v t' nx') : Sound P o a w ρ t nx v t' nx' := by
 simp only [IOp.run] at h
 split at h
 · rename_i b hx
   obtain ⟨p, hp, ex⟩ := rel_ptr (opd_rel ht hx)
   split at h
   · rename_i m since seen last hb
     split at h
     · rename_i es clk hm
       obtain ⟨p', hp', hl, hd, q, hq, hi⟩ := hh.blk b _ hb
       rw [hp] at hp'; cases hp'
       rw [hd] at ex
       obtain ⟨ms, g1, g2, g3⟩ := getObj_map (P := P) hh hm hq
       have hg : (getObj p.blk).run P w = .ok (.mapIter (some q.blk) since seen.toArray last) w := by simp [getObj, Sem.run, hi]
       split at h
       · rename_i s hcl hs
         rw [Nat.beq_eq] at hcl
         rw [lGet_eq, lLen_eq] at hs
         split at h
         · rename_i k y hf
           cases h
           obtain ⟨me, f1, f2, f3⟩ := findB_rel s es ms.toList _ g3 hf
           have hback : seen.toArray.back? = some s := by
            rw [Array.back?_eq_getElem?]
            simpa using hs
           have hfind : ms.find? (fun e => e.born == s) = some me := by rw [← Array.find?_toList]; exact f1
           refine sound_val hh (cv := .tuple #[me.key, me.val]) ?_ (by simp only [AV.rel]; exact ⟨_, rfl, rels_cons.2 ⟨_, _, rfl, f2, rels_cons.2 ⟨_, _, rfl, f3, by simp [rels]⟩⟩⟩)
           subst hcl
           simp only [execOp, ho, Sem.run_bind, Instr.entry, ex, hg, Result.andThen_ok, hback, g1]
           simp [hfind]
         · cases h
       · cases h
     · cases h
   · cases h
 · cases h
theorem s_tassert {o : Oper} {xt ty : TypeId} {x : Operand} {ok : Bool} {i : Inf} {d : TypeDesc} (ho : o.op = .typeAssert x xt ty ok) (hu : P.underlying ty = some d) (hn : ∀ ms, d ≠ .interface ms) (hi : infOf P ty = some i)
  (hh : HRel ρ t nx w) (ht : TRel ρ N T a) (h : (IOp.tassert ty i.zero (opd x) ok).run T t nx = .ok v t' nx') : Sound P o a w ρ t nx v t' nx' := by
 obtain ⟨ti, z, h1, h2, h3, h4, h5⟩ := infOf_some hi
 have hz : i.zero.rel ρ z := ofVal_rel 3 z _ h3
 have hzr : (zeroValue ty).run P w = .ok z w := by simp [zeroValue, typeInfo, h1, h2]
 have two : ∀ (y : AV) (cy : Value) (f : Bool), y.rel ρ cy → (AV.tup [y, .bool f]).rel ρ (.tuple #[cy, .bool f]) := fun y cy f hy => by
  simp only [AV.rel]; exact ⟨_, rfl, rels_cons.2 ⟨_, _, rfl, hy, rels_cons.2 ⟨_, _, rfl, by simp [AV.rel], by simp [rels]⟩⟩⟩
 simp only [IOp.run] at h
 split at h
 · rename_i ty' u hx
   have hr := opd_rel ht hx
   simp only [AV.rel] at hr
   obtain ⟨y, ex, ry⟩ := hr
   split at h
   · rename_i hb
     rw [Nat.beq_eq] at hb
     subst hb
     cases ok
     · cases h
       refine sound_val hh (cv := y) ?_ ry
       simp only [execOp, ho, Sem.run_bind, Instr.typeAssert, run_underlying hu, Result.andThen_ok, ex]
       cases d <;> first | exact absurd rfl (hn _) | simp
     · cases h
       refine sound_val hh (cv := .tuple #[y, .bool true]) ?_ (two _ _ _ ry)
       simp only [execOp, ho, Sem.run_bind, Instr.typeAssert, run_underlying hu, Result.andThen_ok, ex]
       cases d <;> first | exact absurd rfl (hn _) | simp
   · rename_i hb
     have hne : ¬ ty' = ty := fun e => by subst e; simp at hb
     cases ok
     · cases h
     · cases h
       refine sound_val hh (cv := .tuple #[z, .bool false]) ?_ (two _ _ _ hz)
       simp only [execOp, ho, Sem.run_bind, Instr.typeAssert, run_underlying hu, Result.andThen_ok, ex]
       cases d <;> first | exact absurd rfl (hn _) | simp [hne, hzr]
 · rename_i hx
   have hr := opd_rel ht hx
   simp only [AV.rel] at hr
   cases ok
   · cases h
   · cases h
     refine sound_val hh (cv := .tuple #[z, .bool false]) ?_ (two _ _ _ hz)
     simp only [execOp, ho, Sem.run_bind, Instr.typeAssert, run_underlying hu, Result.andThen_ok, hr]
     cases d <;> first | exact absurd rfl (hn _) | simp [hzr]
 · cases h
theorem arr_get {α : Type} {xs : Array α} {x : α} {r : List α} (h : xs.toList = x :: r) : xs[0]? = some x := by rw [← Array.getElem?_toList, h]; rfl
theorem arr_get1 {α : Type} {xs : Array α} {x y : α} {r : List α} (h : xs.toList = x :: y :: r) : xs[1]? = some y := by rw [← Array.getElem?_toList, h]; rfl
theorem s_builtin {o : Oper} {b : Builtin} {ats : Array TypeId} {xs : Array Operand} (ho : o.op = .call { callee := .builtin b, args := xs, argTypes := ats })
  (hh : HRel ρ t nx w) (ht : TRel ρ N T a) (h : (builtinOf P b ats xs).run T t nx = .ok v t' nx') : Sound P o a w ρ t nx v t' nx' := by
 unfold builtinOf at h
 split at h
 · split at h
   · rename_i ty r1 x r2 e1 e2
     split at h
     · rename_i hu
       exact s_len ho (arr_get e2) (arr_get e1) hu rfl hh ht h
     · rename_i e hu
       exact s_len ho (arr_get e2) (arr_get e1) hu rfl hh ht h
     · rename_i k e hu
       exact s_len ho (arr_get e2) (arr_get e1) hu rfl hh ht h
     · cases h
   · cases h
 · split at h
   · rename_i ty tx r1 x y r2 e1 e2
     split at h
     · rename_i e hu hk
       have hk' : (∃ e', P.underlying tx = some (.slice e')) ∨ P.underlying tx = some .string := by
        split at hk
        · rename_i e' hu'; exact .inl ⟨e', hu'⟩
        · rename_i hu'; exact .inr hu'
        · cases hk
       split at h
       · rename_i i hi
         split at h
         · rename_i hc
           exact s_app ho ⟨_, e2⟩ ⟨_, e1⟩ hu hk' hi hc hh ht h
         · cases h
       · cases h
     · rename_i e hu hk
       split at h
       · rename_i i hk1 hi
         split at h
         · rename_i hc
           exact s_appz ho ⟨_, e2⟩ ⟨_, e1⟩ hu hk1 hi hc hh ht h
         · cases h
       · cases h
     · cases h
   · cases h
 · split at h
   · rename_i ty r1 x y r2 e1 e2
     split at h
     · rename_i e hu
       split at h
       · rename_i i hi
         split at h
         · exact s_copy ho (arr_get e2) (arr_get1 e2) (arr_get e1) hu hi hh ht h
         · cases h
       · cases h
     · cases h
   · cases h
 · split at h
   · rename_i ty r1 x r2 e1 e2
     split at h
     · rename_i e hu
       exact s_cap ho (arr_get e2) (arr_get e1) hu hh ht h
     · cases h
   · cases h
 · split at h
   · rename_i ty r1 x r2 e1 e2
     split at h
     · rename_i e hu
       split at h
       · rename_i i hi
         split at h
         · rename_i hc
           exact s_clr ho (arr_get e2) (arr_get e1) hu hi hc hh ht h
         · cases h
       · cases h
     · cases h
   · cases h
 · split at h
   · rename_i x y e
     exact s_mm (mx := false) ho e hh ht h
   · cases h
 · split at h
   · rename_i x y e
     exact s_mm (mx := true) ho e hh ht h
   · cases h
 · cases h
theorem s_binOp {o : Oper} {op : BinOp} {ty tz : TypeId} {x y : Operand} (ho : o.op = .binOp op ty x y tz) (hh : HRel ρ t nx w) (ht : TRel ρ N T a) (h : (binOf P op ty x y).run T t nx = .ok v t' nx') : Sound P o a w ρ t nx v t' nx' := by
 unfold binOf at h
 split at h
 · exact s_bin ho hh ht h
 · exact s_bin ho hh ht h
 · have hform : (∃ ng k, eqOf P op ty x y = .eqv ng k (opd x) (opd y)) ∨ eqOf P op ty x y = .bad := by
    unfold eqOf
    simp only
    cases op <;> simp only
    all_goals
     repeat' split
     all_goals first | exact .inl ⟨_, _, rfl⟩ | exact .inr rfl
   rcases hform with ⟨ng, k, e⟩ | e
   · rw [e] at h; exact s_eqv ho e hh ht h
   · rw [e] at h; cases h
theorem op_sound {ts : List TypeId} {o : Oper} {i : IOp} (hw : whatOf P ts o = .op i) (hh : HRel ρ t nx w) (ht : TRel ρ N T a) (h : i.run T t nx = .ok v t' nx') : Sound P o a w ρ t nx v t' nx' := by
 have hbad : i ≠ .bad := fun e => by subst e; cases h
 unfold whatOf at hw
 split at hw
 · rename_i x ho; cases hw; exact s_mov (.inl ho) hh ht h
 · rename_i x ho; cases hw; exact s_mov (.inr ho) hh ht h
 · rename_i c x y ho; cases hw; exact s_pick ho hh ht h
 · rename_i e ho
   split at hw
   · rename_i i hi; cases hw; exact s_alloc ho hi hh h
   · cases hw; exact absurd rfl hbad
 · rename_i e x ho; cases hw; exact s_box ho hh ht h
 · rename_i ty ps ho
   split at hw
   · rename_i i pl hi hp; cases hw; exact s_build ho hi hp hh ht h
   · cases hw; exact absurd rfl hbad
 · rename_i ty n ps ho
   split at hw
   · rename_i e hu
     split at hw
     · rename_i i hi
       split at hw
       · rename_i hc; cases hw; exact s_bslice ho hu hi hc hh ht h
       · cases hw; exact absurd rfl hbad
     · cases hw; exact absurd rfl hbad
   · cases hw; exact absurd rfl hbad
 · rename_i ty x ho
   split at hw
   · rename_i i hag hi; cases hw; exact s_loadA ho hag hi hh ht h
   · rename_i i hag hi; cases hw; exact s_load ho hag hh ht h
   · cases hw; exact absurd rfl hbad
 · rename_i ty x y ho
   split at hw
   · rename_i i hi; cases hw; exact s_store ho hi hh ht h
   · cases hw; exact absurd rfl hbad
 · rename_i x ho; cases hw; exact s_nilck ho hh ht h
 · rename_i op ty x y tz ho; cases hw; exact s_binOp ho hh ht h
 · rename_i ty x ho; cases hw; exact s_not ho hh ht h
 · rename_i ty x ho; cases hw; exact s_neg ho hh ht h
 · rename_i sr ds x ho
   split at hw
   · rename_i k0 k h1 h2; cases hw; exact s_conv ho h1 h2 hh ht h
   · rename_i e h1 h2
     split at hw
     · rename_i i h3 hi
       split at hw
       · cases hw; exact s_s2b ho h1 h2 h3 hh ht h
       · cases hw; exact absurd rfl hbad
     · cases hw; exact absurd rfl hbad
   · rename_i e h1 h2
     split at hw
     · rename_i i h3 hi
       split at hw
       · cases hw; exact s_b2s ho h1 h2 h3 hh ht h
       · cases hw; exact absurd rfl hbad
     · cases hw; exact absurd rfl hbad
   · cases hw; exact absurd rfl hbad
 · rename_i ty x ho
   split at hw
   · cases hw; exact absurd rfl hbad
   · rename_i d hn hd; cases hw; exact s_iface ho hd (fun ms e => hn ms (by rw [e])) hh ht h
   · cases hw; exact absurd rfl hbad
 · rename_i f x y ho; cases hw; exact s_mkfn ho hh ht h
 · rename_i ty ho; cases hw; exact s_mkmap ho hh h
 · rename_i ty l c ho
   split at hw
   · rename_i e hu
     split at hw
     · rename_i i hi
       split at hw
       · rename_i hc; cases hw; exact s_mkslice ho hu hi hc hh ht h
       · cases hw; exact absurd rfl hbad
     · cases hw; exact absurd rfl hbad
   · cases hw; exact absurd rfl hbad
 · rename_i ty x lo hi mx ho
   split at hw
   · rename_i hu
     split at hw
     · cases hw; exact absurd rfl hbad
     · rename_i hmx
       cases hw
       have : mx = none := by cases mx <;> simp_all
       subst this
       exact s_sslice ho hu hh ht h
   · rename_i e hu
     split at hw
     · rename_i i hi
       split at hw
       · cases hw; exact s_cslice ho hu hi hh ht h
       · cases hw; exact absurd rfl hbad
     · cases hw; exact absurd rfl hbad
   · cases hw; exact absurd rfl hbad
 · rename_i ty x f ho
   split at hw
   · rename_i fs hu
     split at hw
     · rename_i fl hf
       split at hw
       · rename_i i hi
         split at hw
         · rename_i hc; cases hw; exact s_faddr ho hu hf hi hc hh ht h
         · cases hw; exact absurd rfl hbad
       · cases hw; exact absurd rfl hbad
     · cases hw; exact absurd rfl hbad
   · cases hw; exact absurd rfl hbad
 · rename_i ty x f ho
   split at hw
   · rename_i fs hu
     split at hw
     · rename_i fl hf
       split at hw
       · rename_i ag i hag hi; cases hw; exact s_fld ho hu hf hi hag hh ht h
       · cases hw; exact absurd rfl hbad
     · cases hw; exact absurd rfl hbad
   · cases hw; exact absurd rfl hbad
 · rename_i ty x i ho
   split at hw
   · rename_i e hu
     split at hw
     · rename_i n hn
       split at hw
       · cases hw; exact s_iaddr ho hu hn hh ht h
       · cases hw; exact absurd rfl hbad
     · cases hw; exact absurd rfl hbad
   · rename_i ln e hu
     split at hw
     · rename_i n hn
       split at hw
       · cases hw; exact s_aaddr ho hu hn hh ht h
       · cases hw; exact absurd rfl hbad
     · cases hw; exact absurd rfl hbad
   · cases hw; exact absurd rfl hbad
 · rename_i ty x i ho
   split at hw
   · rename_i hu; cases hw; exact s_sidx ho hu hh ht h
   · rename_i ln e hu
     split at hw
     · rename_i ag n hag hn; cases hw; exact s_aidx ho hu hn hag hh ht h
     · cases hw; exact absurd rfl hbad
   · cases hw; exact absurd rfl hbad
 · rename_i ty x k ok ho
   split at hw
   · rename_i kt e hu
     split at hw
     · rename_i sk n hs hn; cases hw; exact s_look ho hu hs hn hh ht h
     · rename_i n hs hn
       split at hw
       · rename_i h2; cases hw; exact s_looke ho hu h2 hn hh ht h
       · cases hw; simp only [IOp.run] at h; cases h
     · cases hw; exact absurd rfl hbad
   · cases hw; exact absurd rfl hbad
 · rename_i ty x k y ho
   split at hw
   · rename_i kt e hu
     split at hw
     · rename_i sk hs; cases hw; exact s_mupd ho hu hs hh ht h
     · cases hw; exact absurd rfl hbad
   · cases hw; exact absurd rfl hbad
 · rename_i ty x ho
   split at hw
   · rename_i kt e hu; cases hw; exact s_range ho hu hh ht h
   · cases hw; exact absurd rfl hbad
 · rename_i x ho; cases hw; exact s_next ho hh ht h
 · rename_i x ho; cases hw; exact s_entry ho hh ht h
 · rename_i x xt ty ok ho
   split at hw
   · cases hw; exact absurd rfl hbad
   · rename_i d i hn hd hi; cases hw; exact s_tassert ho hd (fun ms e => hn ms (by rw [e])) hi hh ht h
   · cases hw; exact absurd rfl hbad
 · rename_i x i ho; cases hw; exact s_extr ho hh ht h
 · rename_i c ho
   split at hw
   · rename_i b hb
     cases hw
     refine s_builtin (b := b) (ats := c.argTypes) (xs := c.args) ?_ hh ht h
     rw [ho]
     obtain ⟨ce, ar, at_⟩ := c
     simp only at hb
     subst hb
     rfl
   · cases hw
   · cases hw
   · cases hw
 · cases hw; exact absurd rfl hbad
end Go.Proofs.YtpjohgnhmjceiaaGreatDoor.AX
set_option linter.unusedVariables false
set_option linter.unusedSectionVars false
set_option linter.unusedSimpArgs false
namespace Go.Proofs.YtpjohgnhmjceiaaGreatDoor.AX
variable [Env]
variable {P : Program}
def PrimOK (P : Program) (f : FuncId) (g : List AV → TB → Option AV) : Prop :=
 ∀ (args : List AV) (t : TB) (nx : Nat) (v : AV), g args t = some v → ∀ (ρ : Rho) (vs : List Value) (w : World), HRel ρ t nx w → rels ρ args vs → Calls P f vs.toArray w fun e w' => ∃ cv, e = .returned cv ∧ v.rel ρ cv ∧ RowKit.Below w.heap.size w w'
def TabOK (P : Program) (ts : List TypeId) (tab : Nat → Option AFn) : Prop := ∀ (f : FuncId) (af : AFn), tab f = some af → match af with
 | .code np nt body res => fnOf P ts f = some (.code np nt body res)
 | .prim g => PrimOK P f g ∧ ∃ fn, P.funcs[f]? = some fn ∧ fn.body.isSome = true ∧ fn.name ≠ "runtime.NumGoroutine"
def CallPost (v : AV) (ρ : Rho) (t : TB) (nx : Nat) (w : World) (t' : TB) (nx' : Nat) (e : Ending) (w' : World) : Prop :=
 ∃ ρ' cv, e = .returned cv ∧ v.rel ρ' cv ∧ Nxt ρ t nx w ρ' t' nx' w'
def CallOK (P : Program) (call : FuncId → List AV → TB → Nat → V1) : Prop :=
 ∀ (f : FuncId) (args : List AV) (t : TB) (nx : Nat) (v : AV) (t' : TB) (nx' : Nat), call f args t nx = .ok v t' nx' → ∀ (ρ : Rho) (vs : List Value) (w : World), HRel ρ t nx w → rels ρ args vs →
  (∃ fn, P.funcs[f]? = some fn ∧ fn.body.isSome = true ∧ fn.name ≠ "runtime.NumGoroutine") ∧ Calls P f vs.toArray w (CallPost v ρ t nx w t' nx')
def Post (N : Nat) (r : R) (ρ : Rho) (t : TB) (nx : Nat) (w : World) (e : Exit) (a' : Act) (w' : World) : Prop := match r with
 | .bad _ => False
 | .ok T' t' nx' => e = .normal ∧ ∃ ρ', Nxt ρ t nx w ρ' t' nx' w' ∧ TRel ρ' N T' a'
 | .ret T' t' nx' => e = .ret ∧ ∃ ρ', Nxt ρ t nx w ρ' t' nx' w' ∧ TRel ρ' N T' a'
 | .exit id T' t' nx' => e = .exit id ∧ ∃ ρ', Nxt ρ t nx w ρ' t' nx' w' ∧ TRel ρ' N T' a'
def R.isBad : R → Bool | .bad _ => true | _ => false
theorem Post.trans {N : Nat} {r : R} {ρ ρ1 : Rho} {t t1 : TB} {nx n1 : Nat} {w w1 : World} {e : Exit} {a' : Act} {w' : World} (h : Nxt ρ t nx w ρ1 t1 n1 w1) (k : Post N r ρ1 t1 n1 w1 e a' w') : Post N r ρ t nx w e a' w' := by
 cases r with
 | bad l => exact k
 | ok T' t' nx' => obtain ⟨he, ρ', hn, ht⟩ := k; exact ⟨he, ρ', h.trans hn, ht⟩
 | ret T' t' nx' => obtain ⟨he, ρ', hn, ht⟩ := k; exact ⟨he, ρ', h.trans hn, ht⟩
 | exit id T' t' nx' => obtain ⟨he, ρ', hn, ht⟩ := k; exact ⟨he, ρ', h.trans hn, ht⟩
theorem TRel.mono {ρ ρ' : Rho} {N : Nat} {T : TA} {a : Act} (hle : ρ.le ρ') (h : TRel ρ N T a) : TRel ρ' N T a :=
 ⟨h.size, h.defers, fun i v hv => let ⟨cv, h1, h2⟩ := h.get i v hv; ⟨cv, h1, AV.rel_mono hle _ _ h2⟩⟩
theorem TRel.put {ρ : Rho} {N : Nat} {T : TA} {a : Act} (h : TRel ρ N T a) {d : Option Nat} (hd : ∀ x, d = some x → x < N) {v : AV} {cv : Value} (hv : v.rel ρ cv) : TRel ρ N (putD T d v) (a.put d cv) := by
 cases d with
 | none => exact h
 | some d =>
   have hlt := hd d rfl
   refine ⟨by simp [Act.put, h.size], h.defers, fun i u hu => ?_⟩
   have hu' : (T.put (some v) d).get i = some u := hu
   (first | rw [Bt.get_put] at hu' | rw [Bt.get_put] at hu')
   by_cases e : i = d
   · rw [if_pos e] at hu'
     cases hu'
     exact ⟨cv, by subst e; show (a.tmps.setIfInBounds i cv)[i]? = _; rw [Array.getElem?_setIfInBounds_self_of_lt (by rw [h.size]; exact hlt)], hv⟩
   · rw [if_neg e] at hu'
     obtain ⟨cu, h1, h2⟩ := h.get i u hu'
     exact ⟨cu, by show (a.tmps.setIfInBounds d cv)[i]? = _; rw [Array.getElem?_setIfInBounds_ne (Ne.symm e)]; exact h1, h2⟩
theorem wanted_eq {ρ : Rho} {N : Nat} {T : TA} {a : Act} (h : TRel ρ N T a) {ops : Array Oper} {o : Oper} {g : Option (Nat × Bool)} {b : Bool} (hg : grdOf ops o = some g) (hw : wantA g T = some b) : Region.wanted o (yielded ops a.tmps) = b := by
 unfold grdOf at hg
 unfold wantA at hw
 unfold Region.wanted
 cases hgd : o.guard with
 | none => rw [hgd] at hg; cases hg; cases hw; rfl
 | some q =>
   obtain ⟨j, want⟩ := q
   rw [hgd] at hg
   simp only at hg ⊢
   unfold yielded
   cases hd : (ops[j]?).bind (·.dst) with
   | none => rw [hd] at hg; cases hg
   | some d =>
     rw [hd] at hg
     cases hg
     simp only at hw
     split at hw
     · rename_i hs
       cases hw
       obtain ⟨cv, h1, h2⟩ := h.get _ _ hs
       simp only [Option.bind_some, h1, rel_bool h2]
       cases b <;> rfl
     · rename_i hs
       cases hw
       obtain ⟨cv, h1, h2⟩ := h.get _ _ hs
       simp only [Option.bind_some, h1, rel_bool h2]
       cases want <;> rfl
     · rename_i hs
       cases hw
       obtain ⟨cv, h1, h2⟩ := h.get _ _ hs
       simp only [AV.rel] at h2
       obtain ⟨x, rfl, _⟩ := h2
       simp only [Option.bind_some, h1]
       cases want <;> rfl
     · cases hw
theorem run_callFunc {w : World} {f : FuncId} {fn : Func} {args : Array Value} (hf : P.funcs[f]? = some fn) (hb : fn.body.isSome = true) (hn : fn.name ≠ "runtime.NumGoroutine") : (callFunc f args).run P w = .ok (.enter f args) w := by
 have h1 : (fn.name == "runtime.NumGoroutine") = false := by simpa using hn
 have h2 : ¬ fn.body = none := by cases hx : fn.body <;> simp_all
 simp [callFunc, program, run_prog, hf, hn, h2]
theorem run_call {w : World} {a : Act} {o : Oper} {c : Call} {x : Operand} {f : FuncId} {p q : Array Value} {fn : Func} (ho : o.op = .call c) (hc : c.callee = .value x) (hx : a.eval x = .func (.func f) p q) (hf : P.funcs[f]? = some fn) (hb : fn.body.isSome = true) (hn : fn.name ≠ "runtime.NumGoroutine") :
  (execOp a.eval o).run P w = .ok (.enter f (p ++ c.args.map a.eval ++ q)) w := by
 simp only [execOp, ho, Sem.run_bind, resolve, hc, Deferred.ofValue, hx]
 show ((Sem.run P (invoke (.fn (.func f) q) (p ++ c.args.map a.eval)) w)) = _
 simp only [invoke, run_callFunc hf hb hn]
theorem findM_eq {ty : TypeId} : ∀ {tab : List (TypeId × FuncId × Option (Nat × Bool))} {r : FuncId × Option (Nat × Bool)}, findM ty tab = some r → (ty, r) ∈ tab
 | [], r, h => by cases h
 | p :: tab, r, h => by
   have h' : @Bool.rec (fun _ => Option (FuncId × Option (Nat × Bool))) (findM ty tab) (some p.2) (Nat.beq p.1 ty) = some r := h
   rw [brec] at h'
   by_cases hc : Nat.beq p.1 ty = true
   · rw [if_pos hc] at h'; cases h'; rw [Nat.beq_eq] at hc; subst hc; simp
   · rw [if_neg hc] at h'; exact List.mem_cons_of_mem _ (findM_eq h')
theorem methTab_mem {ts : List TypeId} {name : String} {ty : TypeId} {r : FuncId × Option (Nat × Bool)} (h : (ty, r) ∈ methTab P ts name) : methOf P name ty = some r := by
 unfold methTab at h
 obtain ⟨x, _, h2⟩ := List.mem_filterMap.1 h
 simp only [Option.map_eq_some_iff, Prod.mk.injEq] at h2
 obtain ⟨y, h3, rfl, rfl⟩ := h2
 exact h3
theorem wrapchk (p : Addr) (s n : String) (ats : Array TypeId) (ty : TypeId) : Builtin.ssaWrapNilChk_ ats ty #[.pointer (some p), strVal s, strVal n] = pure (.pointer (some p)) := rfl
theorem run_method {ρ : Rho} {t : TB} {nx : Nat} {w : World} {ty : TypeId} {name : String} {f : FuncId} {m : Option (Nat × Bool)} {y : AV} {u : Value} {r : AV} (hh : HRel ρ t nx w) (hm : methOf P name ty = some (f, m)) (hy : y.rel ρ u) (hr : recvA m y t = some r) (fuel : Nat) :
  ∃ cv, (method (fuel + 1) ty u name).run P w = .ok (f, cv) w ∧ r.rel ρ cv := by
 unfold methOf at hm
 split at hm
 · cases hm
 · rename_i i hi
   split at hm
   · cases hm
   · rename_i me hme
     split at hm
     · cases hm
     · rename_i hp
       have hp0 : me.path.size = 0 := by simpa using hp
       have hpl : me.path.toList = [] := by rw [List.eq_nil_iff_length_eq_zero, Array.length_toList]; exact hp0
       have hemp : me.path = #[] := Array.eq_empty_of_size_eq_zero hp0
       split at hm
       · cases hm
       · rename_i g pr hfn
         have hti : (typeInfo ty).run P w = .ok i w := by simp [typeInfo, hi]
         split at hm
         · rename_i e hu
           cases hm
           unfold recvA at hr
           cases hr
           refine ⟨u, ?_, hy⟩
           simp only [method, Sem.run_bind, hti, Result.andThen_ok, hme, hpl, follow, Sem.run_pure, hfn, receiverAt, run_underlying hu, Place.get]
         · rename_i e hu
           split at hm
           · rename_i ie ag hie hag
             cases hm
             unfold recvA at hr
             simp only at hr
             split at hr
             · rename_i b o
               obtain ⟨p, hp', ev⟩ := rel_ptr hy
               split at hr
               · rename_i c n wr hb
                 cases ag with
                 | true =>
                   simp only at hr
                   split at hr
                   · rename_i l hl
                     cases hr
                     obtain ⟨vs, k1, k2, k3⟩ := run_loadMany (P := P) hh hb hl hp'
                     refine ⟨.agg vs.toArray, ?_, rel_agg k1⟩
                     simp [method, hti, hme, hpl, follow, hfn, receiverAt, run_underlying hu, Place.get, ev, hemp, wrapchk, asAddr, loadVar, run_isAgg hag, run_size hie, k3]
                   · cases hr
                 | false =>
                   simp only at hr
                   obtain ⟨p2, hp2, hk⟩ := get_cells hh hb
                   rw [hp'] at hp2; cases hp2
                   obtain ⟨cv, k1, k2⟩ := hk _ _ hr
                   refine ⟨cv, ?_, k2⟩
                   simp [method, hti, hme, hpl, follow, hfn, receiverAt, run_underlying hu, Place.get, ev, hemp, wrapchk, asAddr, loadVar, run_isAgg hag, run_load, k1]
               · cases hr
             · cases hr
           · cases hm
         · rename_i d hn hu
           cases hm
           unfold recvA at hr
           cases hr
           refine ⟨u, ?_, hy⟩
           simp only [method, Sem.run_bind, hti, Result.andThen_ok, hme, hpl, follow, Sem.run_pure, hfn, receiverAt, run_underlying hu]
           cases d <;> first | exact absurd rfl (hn _) | rfl
         · cases hm
theorem run_callM {w : World} {a : Act} {o : Oper} {c : Call} {x : Operand} {name : String} {ty : TypeId} {u : Value} {f : FuncId} {cv : Value} {fn : Func} (ho : o.op = .call c) (hc : c.callee = .invoke x name) (hx : a.eval x = .iface ty u)
  (hm : (method (P.types.size + 99 + 1) ty u name).run P w = .ok (f, cv) w) (hf : P.funcs[f]? = some fn) (hb : fn.body.isSome = true) (hn : fn.name ≠ "runtime.NumGoroutine") :
  (execOp a.eval o).run P w = .ok (.enter f (#[cv] ++ c.args.map a.eval)) w := by
 simp only [execOp, ho, Sem.run_bind, resolve, hc, hx, Sem.run_pure, Result.andThen_ok]
 have h0 : (#[Value.iface ty u] ++ c.args.map a.eval)[0]? = some (.iface ty u) := by rw [← Array.getElem?_toList, Array.toList_append]; rfl
 have h1 : (#[Value.iface ty u] ++ c.args.map a.eval).extract 1 (#[Value.iface ty u] ++ c.args.map a.eval).size = c.args.map a.eval := by
  apply Array.ext'
  simp [Array.toList_extract, List.extract_eq_take_drop]
  exact List.take_of_length_le (by simp)
 have hk : P.types.size + Made.depth = P.types.size + 99 + 1 := rfl
 simp only [invoke, h0, h1, callMethod, program, Sem.run_bind, run_prog, Result.andThen_ok, hk, hm]
 exact run_callFunc hf hb hn
theorem upon_call {o : Oper} {a : Act} {w : World} {f : FuncId} {args : Array Value} {K : Act → World → Prop} {Q : Exit → Act → World → Prop} {R : Ending → World → Prop} (hr : (execOp a.eval o).run P w = .ok (.enter f args) w) (hc : Calls P f args w R)
  (h : ∀ e w', R e w' → ∃ cv, e = .returned cv ∧ K (a.put o.dst cv) w') : o.wp P a w K Q := by
 unfold Oper.wp
 rw [hr]
 refine hc.mono fun e w' he => ?_
 obtain ⟨cv, rfl, hk⟩ := h e w' he
 exact hk
theorem upon_val {o : Oper} {a : Act} {w w' : World} {r : Next} {cv : Value} {K : Act → World → Prop} {Q : Exit → Act → World → Prop} (hr : (execOp a.eval o).run P w = .ok r w') (h : r = .value cv ∨ r = .skip ∧ cv = undef) (hk : K (a.put o.dst cv) w') : o.wp P a w K Q := by
 unfold Oper.wp
 rw [hr]
 rcases h with rfl | ⟨rfl, rfl⟩ <;> exact hk
theorem what_sound {call : FuncId → List AV → TB → Nat → V1} (hcall : CallOK P call) {ts : List TypeId} {N : Nat} {o : Oper} {ρ : Rho} {T : TA} {t t1 : TB} {nx n1 : Nat} {v : AV} {a : Act} {w : World} {K : Act → World → Prop} {Q : Exit → Act → World → Prop}
  (hh : HRel ρ t nx w) (ht : TRel ρ N T a) (h : (whatOf P ts o).run call T t nx = .ok v t1 n1) (hk : ∀ ρ1 w1 cv, Nxt ρ t nx w ρ1 t1 n1 w1 → v.rel ρ1 cv → K (a.put o.dst cv) w1) : o.wp P a w K Q := by
 cases hw : whatOf P ts o with
 | op i =>
   rw [hw] at h
   obtain ⟨ρ', w', r, cv, h1, h2, h3, h4⟩ := op_sound hw hh ht h
   exact upon_val h1 h2 (hk ρ' w' cv h3 h4)
 | callF f args =>
   rw [hw] at h
   simp only [What.run] at h
   split at h
   · rename_i l hl
     have hform : ∃ c, o.op = .call c ∧ c.callee = .value (.func f) ∧ args = opds c.args := by
      unfold whatOf at hw
      split at hw <;> (try (cases hw; done)) <;> (try (repeat' (split at hw)) <;> (try (cases hw; done)))
      rename_i c ho _ _ hc
      cases hw
      exact ⟨c, ho, hc, rfl⟩
     obtain ⟨c, ho, hc, rfl⟩ := hform
     have hargs : rels ρ l (c.args.map a.eval).toList := by simpa using evs_rel ht hl
     obtain ⟨⟨fn, hf, hb, hn⟩, hcalls⟩ := hcall f l t nx v t1 n1 h ρ _ w hh hargs
     have hr := run_call (a := a) (w := w) ho hc (show a.eval (.func f) = .func (.func f) #[] #[] from rfl) hf hb hn
     have heq : (c.args.map a.eval).toList.toArray = #[] ++ c.args.map a.eval ++ #[] := by
      apply Array.ext'; simp
     rw [heq] at hcalls
     refine upon_call hr hcalls (fun e w' he => ?_)
     obtain ⟨ρ', cv, h1, h2, h3⟩ := he
     exact ⟨cv, h1, hk ρ' w' cv h3 h2⟩
   · cases h
 | callV x args =>
   rw [hw] at h
   simp only [What.run] at h
   split at h
   · rename_i f p q l hx hl
     rw [lApp_eq, lApp_eq] at h
     have hform : ∃ c y, o.op = .call c ∧ c.callee = .value y ∧ x = opd y ∧ args = opds c.args := by
      unfold whatOf at hw
      split at hw <;> (try (cases hw; done)) <;> (try (repeat' (split at hw)) <;> (try (cases hw; done)))
      rename_i c ho _ y _ hc
      cases hw
      exact ⟨c, y, ho, hc, rfl, rfl⟩
     obtain ⟨c, y, ho, hc, rfl, rfl⟩ := hform
     have hargs : rels ρ l (c.args.map a.eval).toList := by simpa using evs_rel ht hl
     have rx := opd_rel ht hx
     simp only [AV.rel] at rx
     obtain ⟨p', q', ex, rp, rq⟩ := rx
     have hall := rels_app rp (rels_app hargs rq)
     obtain ⟨⟨fn, hf, hb, hn⟩, hcalls⟩ := hcall f _ t nx v t1 n1 h ρ _ w hh hall
     have hr := run_call (a := a) (w := w) ho hc ex hf hb hn
     have heq : (p'.toList ++ ((c.args.map a.eval).toList ++ q'.toList)).toArray = p' ++ c.args.map a.eval ++ q' := by
      apply Array.ext'; simp
     rw [heq] at hcalls
     refine upon_call hr hcalls (fun e w' he => ?_)
     obtain ⟨ρ', cv, h1, h2, h3⟩ := he
     exact ⟨cv, h1, hk ρ' w' cv h3 h2⟩
   · cases h
 | callM tab x args =>
   rw [hw] at h
   simp only [What.run] at h
   split at h
   · rename_i ty y l hx hl
     split at h
     · rename_i f m hfm
       split at h
       · rename_i r hr
         have hform : ∃ c z name, o.op = .call c ∧ c.callee = .invoke z name ∧ tab = methTab P ts name ∧ x = opd z ∧ args = opds c.args := by
          unfold whatOf at hw
          split at hw <;> (try (cases hw; done)) <;> (try (repeat' (split at hw)) <;> (try (cases hw; done)))
          rename_i c ho _ z name hc
          cases hw
          exact ⟨c, z, name, ho, hc, rfl, rfl, rfl⟩
         obtain ⟨c, z, name, ho, hc, rfl, rfl, rfl⟩ := hform
         have hargs : rels ρ l (c.args.map a.eval).toList := by simpa using evs_rel ht hl
         have rx := opd_rel ht hx
         simp only [AV.rel] at rx
         obtain ⟨u, ex, ru⟩ := rx
         have hme := methTab_mem (findM_eq hfm)
         obtain ⟨cr, hcr1, hcr2⟩ := run_method hh hme ru hr 0
         have hmeth : ∀ fuel, ∃ cr', (method (fuel + 1) ty u name).run P w = .ok (f, cr') w ∧ r.rel ρ cr' := fun fuel => run_method hh hme ru hr fuel
         obtain ⟨cr', hm1, hm2⟩ := hmeth (P.types.size + 99)
         have hall : rels ρ (r :: l) (cr' :: (c.args.map a.eval).toList) := rels_cons.2 ⟨_, _, rfl, hm2, hargs⟩
         obtain ⟨⟨fn, hf, hb, hn⟩, hcalls⟩ := hcall f _ t nx v t1 n1 h ρ _ w hh hall
         have hrr := run_callM (a := a) (w := w) ho hc ex hm1 hf hb hn
         have heq : (cr' :: (c.args.map a.eval).toList).toArray = #[cr'] ++ c.args.map a.eval := by
          apply Array.ext'; simp
         rw [heq] at hcalls
         refine upon_call hrr hcalls (fun e w' he => ?_)
         obtain ⟨ρ', cv, h1, h2, h3⟩ := he
         exact ⟨cv, h1, hk ρ' w' cv h3 h2⟩
       · cases h
     · cases h
   · cases h
end Go.Proofs.YtpjohgnhmjceiaaGreatDoor.AX
set_option linter.unusedVariables false
set_option linter.unusedSectionVars false
set_option linter.unusedSimpArgs false
namespace Go.Proofs.YtpjohgnhmjceiaaGreatDoor.AX
variable [Env]
theorem ev_congr {x : Opd} {T T' : TA} (h : ∀ d ∈ x.slots, T.get d = T'.get d) : x.ev T = x.ev T' := by
 cases x with
 | t i => exact h i (by simp [Opd.slots])
 | c v => rfl
 | none_ => rfl
theorem evs_congr {T T' : TA} : ∀ (xs : List Opd), (∀ d ∈ slotsL xs, T.get d = T'.get d) → evs xs T = evs xs T'
 | [], _ => rfl
 | x :: xs, h => by
   have e1 : x.ev T = x.ev T' := ev_congr (fun d hd => h d (List.mem_append_left _ hd))
   have e2 := evs_congr xs (fun d hd => h d (List.mem_append_right _ hd))
   show (match x.ev T with
    | some v => (match evs xs T with | some r => some (v :: r) | none => none)
    | none => none) = (match x.ev T' with
    | some v => (match evs xs T' with | some r => some (v :: r) | none => none)
    | none => none)
   rw [e1, e2]
theorem fillA_congr {T T' : TA} : ∀ (ps : List (Nat × Nat × Opd)) (l : List AV), (∀ d ∈ slotsP ps, T.get d = T'.get d) → fillA ps T l = fillA ps T' l
 | [], l, _ => rfl
 | (off, size, x) :: ps, l, h => by
   have e1 : x.ev T = x.ev T' := ev_congr (fun d hd => h d (List.mem_append_left _ hd))
   have e2 := fun l => fillA_congr ps l (fun d hd => h d (List.mem_append_right _ hd))
   show (match x.ev T with
    | some v => (match Nat.beq (lLen v.cells) size with
      | true => (match Nat.ble (Nat.add off size) (lLen l) with | true => fillA ps T (setsAt v.cells off l) | false => none)
      | false => none)
    | none => none) = (match x.ev T' with
    | some v => (match Nat.beq (lLen v.cells) size with
      | true => (match Nat.ble (Nat.add off size) (lLen l) with | true => fillA ps T' (setsAt v.cells off l) | false => none)
      | false => none)
    | none => none)
   rw [e1]
   cases x.ev T' <;> simp only [e2]
theorem bnd_congr {T T' : TA} {x : Opd} (h : ∀ d ∈ x.slots, T.get d = T'.get d) (y : Nat) : bnd x T y = bnd x T' y := by
 unfold bnd; rw [ev_congr h]
theorem bnds_congr {T T' : TA} (lo hi mx : Option Opd) (ln cp : Nat) (h : ∀ d ∈ slotsO lo ++ slotsO hi ++ slotsO mx, T.get d = T'.get d) : bnds T ln cp lo hi mx = bnds T' ln cp lo hi mx := by
 have h1 : ∀ x, lo = some x → bnd x T = bnd x T' := fun x e => funext (fun y => bnd_congr (fun d hd => h d (by subst e; simp [slotsO, hd])) y)
 have h2 : ∀ x, hi = some x → bnd x T = bnd x T' := fun x e => funext (fun y => bnd_congr (fun d hd => h d (by subst e; simp [slotsO, hd])) y)
 have h3 : ∀ x, mx = some x → bnd x T = bnd x T' := fun x e => funext (fun y => bnd_congr (fun d hd => h d (by subst e; simp [slotsO, hd])) y)
 unfold bnds
 rcases lo with _ | lo <;> rcases hi with _ | hi <;> rcases mx with _ | mx <;> dsimp only <;> (try rw [h1 _ rfl]) <;> (try rw [h2 _ rfl]) <;> (try rw [h3 _ rfl]) <;> (try rfl)
theorem run_congr {i : IOp} {T T' : TA} {t : TB} {nx : Nat} (h : ∀ d ∈ i.slots, T.get d = T'.get d) : i.run T t nx = i.run T' t nx := by
 cases i with
 | mov x =>
   have e1 : x.ev T = x.ev T' := ev_congr (fun d hd => h d (by simp [IOp.slots, hd]))
   simp only [IOp.run, e1]
 | pick c a b =>
   have e1 : c.ev T = c.ev T' := ev_congr (fun d hd => h d (by simp [IOp.slots, hd]))
   have e2 : a.ev T = a.ev T' := ev_congr (fun d hd => h d (by simp [IOp.slots, hd]))
   have e3 : b.ev T = b.ev T' := ev_congr (fun d hd => h d (by simp [IOp.slots, hd]))
   simp only [IOp.run, e1, e2, e3]
 | alloc zs => rfl
 | box x =>
   have e1 : x.ev T = x.ev T' := ev_congr (fun d hd => h d (by simp [IOp.slots, hd]))
   simp only [IOp.run, e1]
 | build zs ps =>
   have e1 := fun l => fillA_congr (T := T) (T' := T') ps l h
   simp only [IOp.run, e1]
 | bslice sz n zs ps =>
   have e1 := fun l => fillA_congr (T := T) (T' := T') ps l h
   simp only [IOp.run, e1]
 | load x =>
   have e1 : x.ev T = x.ev T' := ev_congr (fun d hd => h d (by simp [IOp.slots, hd]))
   simp only [IOp.run, e1]
 | loadA n x =>
   have e1 : x.ev T = x.ev T' := ev_congr (fun d hd => h d (by simp [IOp.slots, hd]))
   simp only [IOp.run, e1]
 | store n x v =>
   have e1 : x.ev T = x.ev T' := ev_congr (fun d hd => h d (by simp [IOp.slots, hd]))
   have e2 : v.ev T = v.ev T' := ev_congr (fun d hd => h d (by simp [IOp.slots, hd]))
   simp only [IOp.run, e1, e2]
 | nilck x =>
   have e1 : x.ev T = x.ev T' := ev_congr (fun d hd => h d (by simp [IOp.slots, hd]))
   simp only [IOp.run, e1]
 | bin op x y =>
   have e1 : x.ev T = x.ev T' := ev_congr (fun d hd => h d (by simp [IOp.slots, hd]))
   have e2 : y.ev T = y.ev T' := ev_congr (fun d hd => h d (by simp [IOp.slots, hd]))
   simp only [IOp.run, e1, e2]
 | eqv ng k x y =>
   have e1 : x.ev T = x.ev T' := ev_congr (fun d hd => h d (by simp [IOp.slots, hd]))
   have e2 : y.ev T = y.ev T' := ev_congr (fun d hd => h d (by simp [IOp.slots, hd]))
   simp only [IOp.run, e1, e2]
 | not x =>
   have e1 : x.ev T = x.ev T' := ev_congr (fun d hd => h d (by simp [IOp.slots, hd]))
   simp only [IOp.run, e1]
 | neg x =>
   have e1 : x.ev T = x.ev T' := ev_congr (fun d hd => h d (by simp [IOp.slots, hd]))
   simp only [IOp.run, e1]
 | conv k x =>
   have e1 : x.ev T = x.ev T' := ev_congr (fun d hd => h d (by simp [IOp.slots, hd]))
   simp only [IOp.run, e1]
 | s2b x =>
   have e1 : x.ev T = x.ev T' := ev_congr (fun d hd => h d (by simp [IOp.slots, hd]))
   simp only [IOp.run, e1]
 | b2s x =>
   have e1 : x.ev T = x.ev T' := ev_congr (fun d hd => h d (by simp [IOp.slots, hd]))
   simp only [IOp.run, e1]
 | iface ty x =>
   have e1 : x.ev T = x.ev T' := ev_congr (fun d hd => h d (by simp [IOp.slots, hd]))
   simp only [IOp.run, e1]
 | mkfn f xs ys =>
   have e1 := evs_congr (T := T) (T' := T') xs (fun d hd => h d (List.mem_append_left _ hd))
   have e2 := evs_congr (T := T) (T' := T') ys (fun d hd => h d (List.mem_append_right _ hd))
   simp only [IOp.run, e1, e2]
 | mkmap => rfl
 | mkslice sz zs l c =>
   have e1 : l.ev T = l.ev T' := ev_congr (fun d hd => h d (by simp [IOp.slots, hd]))
   have e2 : c.ev T = c.ev T' := ev_congr (fun d hd => h d (by simp [IOp.slots, hd]))
   simp only [IOp.run, e1, e2]
 | sslice x lo hi =>
   have e1 : x.ev T = x.ev T' := ev_congr (fun d hd => h d (by simp [IOp.slots, hd]))
   have e2 := fun ln cp => bnds_congr (T := T) (T' := T') lo hi none ln cp (fun d hd => h d (by simp only [IOp.slots, List.mem_append] at hd ⊢; rcases hd with (hd | hd) | hd <;> first | exact .inl (.inr hd) | exact .inr hd | cases hd))
   simp only [IOp.run, e1, e2]
 | cslice sz x lo hi mx =>
   have e1 : x.ev T = x.ev T' := ev_congr (fun d hd => h d (by simp [IOp.slots, hd]))
   have e2 := fun ln cp => bnds_congr (T := T) (T' := T') lo hi mx ln cp (fun d hd => h d (by simp only [IOp.slots, List.mem_append] at hd ⊢; rcases hd with (hd | hd) | hd <;> first | exact .inl (.inl (.inr hd)) | exact .inl (.inr hd) | exact .inr hd))
   simp only [IOp.run, e1, e2]
 | faddr x off =>
   have e1 : x.ev T = x.ev T' := ev_congr (fun d hd => h d (by simp [IOp.slots, hd]))
   simp only [IOp.run, e1]
 | fld x off n ag =>
   have e1 : x.ev T = x.ev T' := ev_congr (fun d hd => h d (by simp [IOp.slots, hd]))
   simp only [IOp.run, e1]
 | iaddr sz x i =>
   have e1 : x.ev T = x.ev T' := ev_congr (fun d hd => h d (by simp [IOp.slots, hd]))
   have e2 : i.ev T = i.ev T' := ev_congr (fun d hd => h d (by simp [IOp.slots, hd]))
   simp only [IOp.run, e1, e2]
 | aaddr ln sz x i =>
   have e1 : x.ev T = x.ev T' := ev_congr (fun d hd => h d (by simp [IOp.slots, hd]))
   have e2 : i.ev T = i.ev T' := ev_congr (fun d hd => h d (by simp [IOp.slots, hd]))
   simp only [IOp.run, e1, e2]
 | sidx x i =>
   have e1 : x.ev T = x.ev T' := ev_congr (fun d hd => h d (by simp [IOp.slots, hd]))
   have e2 : i.ev T = i.ev T' := ev_congr (fun d hd => h d (by simp [IOp.slots, hd]))
   simp only [IOp.run, e1, e2]
 | aidx ln sz ag x i =>
   have e1 : x.ev T = x.ev T' := ev_congr (fun d hd => h d (by simp [IOp.slots, hd]))
   have e2 : i.ev T = i.ev T' := ev_congr (fun d hd => h d (by simp [IOp.slots, hd]))
   simp only [IOp.run, e1, e2]
 | look sk z x i ok =>
   have e1 : x.ev T = x.ev T' := ev_congr (fun d hd => h d (by simp [IOp.slots, hd]))
   have e2 : i.ev T = i.ev T' := ev_congr (fun d hd => h d (by simp [IOp.slots, hd]))
   simp only [IOp.run, e1, e2]
 | mupd sk x k v =>
   have e1 : x.ev T = x.ev T' := ev_congr (fun d hd => h d (by simp [IOp.slots, hd]))
   have e2 : k.ev T = k.ev T' := ev_congr (fun d hd => h d (by simp [IOp.slots, hd]))
   have e3 : v.ev T = v.ev T' := ev_congr (fun d hd => h d (by simp [IOp.slots, hd]))
   simp only [IOp.run, e1, e2, e3]
 | range x =>
   have e1 : x.ev T = x.ev T' := ev_congr (fun d hd => h d (by simp [IOp.slots, hd]))
   simp only [IOp.run, e1]
 | next x =>
   have e1 : x.ev T = x.ev T' := ev_congr (fun d hd => h d (by simp [IOp.slots, hd]))
   simp only [IOp.run, e1]
 | entry x =>
   have e1 : x.ev T = x.ev T' := ev_congr (fun d hd => h d (by simp [IOp.slots, hd]))
   simp only [IOp.run, e1]
 | tassert ty z x ok =>
   have e1 : x.ev T = x.ev T' := ev_congr (fun d hd => h d (by simp [IOp.slots, hd]))
   simp only [IOp.run, e1]
 | extr x i =>
   have e1 : x.ev T = x.ev T' := ev_congr (fun d hd => h d (by simp [IOp.slots, hd]))
   simp only [IOp.run, e1]
 | len k x =>
   have e1 : x.ev T = x.ev T' := ev_congr (fun d hd => h d (by simp [IOp.slots, hd]))
   simp only [IOp.run, e1]
 | cap x =>
   have e1 : x.ev T = x.ev T' := ev_congr (fun d hd => h d (by simp [IOp.slots, hd]))
   simp only [IOp.run, e1]
 | app sz x y =>
   have e1 : x.ev T = x.ev T' := ev_congr (fun d hd => h d (by simp [IOp.slots, hd]))
   have e2 : y.ev T = y.ev T' := ev_congr (fun d hd => h d (by simp [IOp.slots, hd]))
   simp only [IOp.run, e1, e2]
 | copy sz x y =>
   have e1 : x.ev T = x.ev T' := ev_congr (fun d hd => h d (by simp [IOp.slots, hd]))
   have e2 : y.ev T = y.ev T' := ev_congr (fun d hd => h d (by simp [IOp.slots, hd]))
   simp only [IOp.run, e1, e2]
 | clr sz zs x =>
   have e1 : x.ev T = x.ev T' := ev_congr (fun d hd => h d (by simp [IOp.slots, hd]))
   simp only [IOp.run, e1]
 | appz sz zs x y =>
   have e1 : x.ev T = x.ev T' := ev_congr (fun d hd => h d (by simp [IOp.slots, hd]))
   have e2 : y.ev T = y.ev T' := ev_congr (fun d hd => h d (by simp [IOp.slots, hd]))
   simp only [IOp.run, e1, e2]
 | looke z x i ok =>
   have e1 : x.ev T = x.ev T' := ev_congr (fun d hd => h d (by simp [IOp.slots, hd]))
   have e2 : i.ev T = i.ev T' := ev_congr (fun d hd => h d (by simp [IOp.slots, hd]))
   simp only [IOp.run, e1, e2]
 | mm mx x y =>
   have e1 : x.ev T = x.ev T' := ev_congr (fun d hd => h d (by simp [IOp.slots, hd]))
   have e2 : y.ev T = y.ev T' := ev_congr (fun d hd => h d (by simp [IOp.slots, hd]))
   simp only [IOp.run, e1, e2]
 | bad => rfl
theorem light_same {i : IOp} {T : TA} {t t' : TB} {nx nx' : Nat} {v : AV} (hl : i.light = true) (h : i.run T t nx = .ok v t' nx') : t' = t ∧ nx' = nx := by
 cases i <;> simp only [IOp.light] at hl <;> (try (cases hl; done)) <;> simp only [IOp.run] at h
 all_goals (repeat' (split at h))
 all_goals first
  | (cases h; done)
  | (cases h; exact ⟨rfl, rfl⟩)
  | (rw [fInt_eq] at h; cases h; exact ⟨rfl, rfl⟩)
  | (rw [fNat_eq] at h; cases h; exact ⟨rfl, rfl⟩)
  | (rw [fNat_eq, fNat_eq, fNat_eq] at h; cases h; exact ⟨rfl, rfl⟩)
  | (rw [lTake_eq] at h; cases h; exact ⟨rfl, rfl⟩)
  | exact (retV_ok h).2
end Go.Proofs.YtpjohgnhmjceiaaGreatDoor.AX
set_option linter.unusedVariables false
set_option linter.unusedSectionVars false
set_option linter.unusedSimpArgs false
namespace Go.Proofs.YtpjohgnhmjceiaaGreatDoor.AX
variable [Env]
variable {P : Program}
theorem closedC_rel {ρ ρ' : Rho} {v : AV} (h : closedC v = true) {cv : Value} (k : v.rel ρ cv) : v.rel ρ' cv := by
 cases v <;> first | exact k | (cases h; done) | (simpa [AV.rel] using k)
theorem closedL_rel {ρ ρ' : Rho} : ∀ {l : List AV}, (List.rec (motive := fun _ => Bool) true (fun x _ ih => match closedC x with | true => ih | false => false) l) = true → ∀ {cs : List Value}, rels ρ l cs → rels ρ' l cs
 | [], _, cs, k => k
 | x :: l, h, cs, k => by
   have h' : (match closedC x with | true => (List.rec (motive := fun _ => Bool) true (fun x _ ih => match closedC x with | true => ih | false => false) l) | false => false) = true := h
   split at h'
   · rename_i hc
     obtain ⟨u, us, rfl, h1, h2⟩ := k
     exact ⟨u, us, rfl, closedC_rel hc h1, closedL_rel h' h2⟩
   · cases h'
theorem closed_rel {ρ ρ' : Rho} {v : AV} (h : closedA v = true) {cv : Value} (k : v.rel ρ cv) : v.rel ρ' cv := by
 by_cases e : ∃ l, v = .agg l
 · obtain ⟨l, rfl⟩ := e
   obtain ⟨x, rfl, hx⟩ := k
   exact ⟨x, rfl, closedL_rel h hx⟩
 · have h' : closedC v = true := by
    cases v <;> first | exact h | exact absurd ⟨_, rfl⟩ e
   exact closedC_rel h' k
theorem allP_get {p : AV → Bool} {t : TA} (h : TA.allP p t = true) : ∀ (i : Nat) (v : AV), t.get i = some v → p v = true := by
 have fin : ∀ (o : Option AV) (v : AV), optP p o = true → o = some v → p v = true := fun o v h e => by subst e; exact h
 induction t with
 | e => intro i v hv; cases hv
 | n l x r ihl ihr =>
   have h' : (match optP p x with | true => (match TA.allP p l with | true => TA.allP p r | false => false) | false => false) = true := h
   intro i v hv
   rw [Bt.get_n] at hv
   split at h'
   · rename_i hx
     split at h'
     · rename_i hl
       split at hv
       · exact fin _ v hx hv
       · split at hv
         · exact ihl hl _ v hv
         · exact ihr h' _ v hv
     · cases h'
   · cases h'
theorem closedB_rel {ρ ρ' : Rho} {k : Blk} {p : Pl} {w : World} (h : closedB k = true) (hk : k.rel ρ p w) : k.rel ρ' p w := by
 cases k with
 | cells t n wr =>
   cases wr with
   | false => cases h
   | true =>
     obtain ⟨h1, h2, h3, h4⟩ := hk
     exact ⟨h1, fun i v hv => let ⟨cv, q1, q2⟩ := h2 i v hv; ⟨cv, q1, closed_rel (allP_get h i v hv) q2⟩, h3, h4⟩
 | map es clk =>
   cases es with
   | nil =>
     obtain ⟨ms, h1, h2, h3⟩ := hk
     exact ⟨ms, h1, h2, fun i e m he hm => by simp at he⟩
   | cons => cases h
 | iter m s l n => cases h
theorem closedB_write {k : Blk} (h : closedB k = true) : k.mayWrite = true := by
 cases k with
 | cells t n wr => cases wr with | false => cases h | true => rfl
 | map es clk => rfl
 | iter m s l n => rfl
theorem isRef_rel {ρ ρ' : Rho} {b : Nat} {v : AV} {cv : Value} {p : Pl} (h : isRef b v = true) (k : v.rel ρ cv) (hp : ρ b = some p) (hp' : ρ' b = some p) : v.rel ρ' cv := by
 unfold isRef at h
 split at h
 · rw [Nat.beq_eq] at h; subst h
   simp only [AV.rel] at k ⊢
   obtain ⟨q, hq, r⟩ := k
   rw [hp] at hq; cases hq
   exact ⟨p, hp', r⟩
 · rw [Nat.beq_eq] at h; subst h
   simp only [AV.rel] at k ⊢
   obtain ⟨q, c', off, hq, r⟩ := k
   rw [hp] at hq; cases hq
   exact ⟨p, c', off, hp', r⟩
 · rw [Nat.beq_eq] at h; subst h
   simp only [AV.rel] at k ⊢
   obtain ⟨q, hq, r⟩ := k
   rw [hp] at hq; cases hq
   exact ⟨p, hp', r⟩
 · cases h
theorem closedS_get {T : TA} : ∀ {l : List Nat}, closedS l T = true → ∀ d ∈ l, ∃ v, T.get d = some v ∧ closedA v = true
 | [], _, d, hd => by cases hd
 | x :: l, h, d, hd => by
   have h' : (match T.get x with | some v => (match closedA v with | true => closedS l T | false => false) | none => false) = true := h
   split at h'
   · rename_i v hv
     split at h'
     · rename_i hc
       rcases List.mem_cons.1 hd with rfl | hd
       · exact ⟨v, hv, hc⟩
       · exact closedS_get h' d hd
     · cases h'
   · cases h'
theorem closedS_congr {T T' : TA} : ∀ {l : List Nat}, (∀ d ∈ l, T.get d = T'.get d) → closedS l T = closedS l T'
 | [], _ => rfl
 | x :: l, h => by
   have e : ∀ U : TA, closedS (x :: l) U = (match U.get x with | some v => (match closedA v with | true => closedS l U | false => false) | none => false) := fun _ => rfl
   rw [e, e, h x (by simp), closedS_congr (l := l) (fun d hd => h d (List.mem_cons_of_mem _ hd))]
noncomputable def only (T : TA) : List Nat → TA
 | [] => .e
 | d :: l => (only T l).put (T.get d) d
theorem only_get (T : TA) : ∀ (l : List Nat) (j : Nat), (only T l).get j = if j ∈ l then T.get j else none
 | [], j => by simp [only, Bt.get_e]
 | d :: l, j => by
   (first | rw [only, Bt.get_put, only_get T l j] | rw [only, Bt.get_put, only_get T l j])
   by_cases h : j = d
   · subst h; simp
   · have : (j ∈ d :: l) ↔ j ∈ l := by simp [h]
     rw [if_neg h]; simp only [this]
theorem plus_get (t : TB) : ∀ (G : List GB) (c : Nat), (plusA t G).get c = (match G.find? (fun g => g.b == c) with | some g => some g.k | none => t.get c)
 | [], c => rfl
 | g :: G, c => by
   show ((plusA t G).put (some g.k) g.b).get c = _
   (first | rw [Bt.get_put, plus_get t G c, List.find?_cons] | rw [Bt.get_put, plus_get t G c, List.find?_cons])
   by_cases h : c = g.b
   · subst h; simp
   · rw [if_neg h]
     have : (g.b == c) = false := by simpa using fun e => h e.symm
     rw [this]
def Apart (G : List GB) : Prop := G.Pairwise (fun g h => g.b ≠ h.b)
theorem find_apart : ∀ {G : List GB}, Apart G → ∀ g ∈ G, G.find? (fun x => x.b == g.b) = some g
 | [], _, g, hg => by cases hg
 | x :: G, h, g, hg => by
   rw [List.find?_cons]
   obtain ⟨h1, h2⟩ := List.pairwise_cons.1 h
   rcases List.mem_cons.1 hg with rfl | hg
   · simp
   · have : (x.b == g.b) = false := by simpa using h1 g hg
     rw [this]; exact find_apart h2 g hg
theorem plus_mem {t : TB} {G : List GB} (h : Apart G) {g : GB} (hg : g ∈ G) : (plusA t G).get g.b = some g.k := by
 rw [plus_get, find_apart h g hg]
theorem plus_old {t : TB} {G : List GB} {c : Nat} (h : ∀ g ∈ G, g.b ≠ c) : (plusA t G).get c = t.get c := by
 rw [plus_get]
 have : G.find? (fun g => g.b == c) = none := by
  rw [List.find?_eq_none]
  intro g hg; simpa using h g hg
 rw [this]
theorem plus_cases {t : TB} {G : List GB} {c : Nat} {x : Blk} (h : (plusA t G).get c = some x) : (∃ g ∈ G, g.b = c ∧ g.k = x) ∨ (t.get c = some x ∧ ∀ g ∈ G, g.b ≠ c) := by
 rw [plus_get] at h
 cases hf : G.find? (fun g => g.b == c) with
 | some g =>
   rw [hf] at h
   have h1 := List.mem_of_find?_eq_some hf
   have h2 := List.find?_some hf
   exact .inl ⟨g, h1, by simpa using h2, by simpa using h⟩
 | none =>
   rw [hf] at h
   refine .inr ⟨h, fun g hg => ?_⟩
   have := List.find?_eq_none.1 hf g hg
   simpa using this
theorem HRel.congr {ρ : Rho} {t t' : TB} {nx : Nat} {w : World} (h : HRel ρ t nx w) (e : ∀ c, t'.get c = t.get c) : HRel ρ t' nx w :=
 ⟨fun b k hk => h.blk b k (by rw [← e]; exact hk), fun b c k l p q hb hc => h.inj b c k l p q (by rw [← e]; exact hb) (by rw [← e]; exact hc), h.new⟩
theorem Nxt.congr {ρ ρ' : Rho} {t t' t'' : TB} {nx nx' : Nat} {w w' : World} (h : Nxt ρ t nx w ρ' t' nx' w') (e : ∀ c, t''.get c = t'.get c) : Nxt ρ t nx w ρ' t'' nx' w' :=
 ⟨h.le, h.heap.congr e, h.fr, fun k ⟨b, x, p, h1, h2, h3, h4⟩ => h.own k ⟨b, x, p, by rw [← e]; exact h1, h2, h3, h4⟩, h.pl, fun b x hx => h.dom b x (by rw [← e]; exact hx), h.nxle⟩
theorem HRel.sub {ρ : Rho} {t t' : TB} {nx : Nat} {w : World} (h : HRel ρ t nx w) (e : ∀ c x, t'.get c = some x → t.get c = some x) : HRel ρ t' nx w :=
 ⟨fun b k hk => h.blk b k (e _ _ hk), fun b c k l p q hb hc => h.inj b c k l p q (e _ _ hb) (e _ _ hc), h.new⟩
theorem plus_sub {t : TB} {G : List GB} (hf : ∀ g ∈ G, t.get g.b = none) : ∀ c x, t.get c = some x → (plusA t G).get c = some x := fun c x h => by
 rw [plus_old (fun g hg e => by subst e; rw [hf g hg] at h; cases h)]; exact h
theorem Nxt.beside {ρ ρ1 : Rho} {t t' : TB} {nx nx' : Nat} {w w1 : World} {G : List GB} (h : HRel ρ (plusA t G) nx w) (hn : Nxt ρ t nx w ρ1 t' nx' w1) (ha : Apart G) (hf : ∀ g ∈ G, t.get g.b = none ∧ g.b < nx) (hwr : ∀ g ∈ G, g.k.mayWrite = true) :
  Nxt ρ (plusA t G) nx w ρ1 (plusA t' G) nx' w1 := by
 have hs := plus_sub (t := t) (fun g hg => (hf g hg).1)
 have hno : ∀ g ∈ G, ∀ p, ρ g.b = some p → ¬ Go.Proofs.YtpjohgnhmjceiaaGreatDoor.AX.own ρ t p.blk := fun g hg p hp ⟨d, y, q, h1, h2, h3, h4⟩ => by
  have e := h.inj _ _ _ _ _ _ (hs _ _ h1) (plus_mem ha hg) (.inr (hwr g hg)) h3 hp h4
  subst e
  rw [(hf g hg).1] at h1; cases h1
 have hown : ∀ k, Go.Proofs.YtpjohgnhmjceiaaGreatDoor.AX.own ρ t k → Go.Proofs.YtpjohgnhmjceiaaGreatDoor.AX.own ρ (plusA t G) k := fun k ⟨d, y, q, h1, h2, h3, h4⟩ => ⟨d, y, q, hs _ _ h1, h2, h3, h4⟩
 have hpos : ∀ g ∈ G, ∃ p, ρ g.b = some p ∧ ρ1 g.b = some p ∧ p.blk < w.heap.size ∧ g.k.rel ρ1 p w1 := fun g hg => by
  obtain ⟨p, h1, h2, h3⟩ := h.blk _ _ (plus_mem ha hg)
  exact ⟨p, h1, hn.le _ _ h1, h2, Blk.rel_keep hn.le h3 (hn.fr.block _ h2 (hno g hg p h1))⟩
 have mixed : ∀ g ∈ G, ∀ d y q p, t'.get d = some y → (∀ g ∈ G, g.b ≠ d) → ρ1 d = some q → ρ1 g.b = some p → q.blk = p.blk → False := fun g hg d y q p hd hne hq hp he => by
  obtain ⟨p', h1, h2, h3, _⟩ := hpos g hg
  rw [h2] at hp; cases hp
  rcases hn.pl d q hq with h4 | ⟨_, h4 | h4⟩
  · rcases hn.dom d y hd with ⟨z, h5⟩ | h5
    · have e := h.inj _ _ _ _ _ _ (hs _ _ h5) (plus_mem ha hg) (.inr (hwr g hg)) h4 h1 he
      exact hne g hg e.symm
    · rw [h.new d h5] at h4; cases h4
  · omega
  · rw [he] at h4; exact hno g hg _ h1 h4
 refine ⟨hn.le, ⟨fun b x hb => ?_, fun b c x y p q hb hc hw hp hq he => ?_, hn.heap.new⟩, ⟨hn.fr.os, hn.fr.tape, hn.fr.output, hn.fr.size, fun k hk hO => hn.fr.block k hk (fun h' => hO (hown k h'))⟩, fun k hk => ?_, fun b p hb => ?_, fun b x hb => ?_, hn.nxle⟩
 · rcases plus_cases hb with ⟨g, h1, rfl, rfl⟩ | ⟨h1, _⟩
   · obtain ⟨p, _, h3, h4, h5⟩ := hpos g h1
     exact ⟨p, h3, Nat.lt_of_lt_of_le h4 hn.fr.size, h5⟩
   · exact hn.heap.blk b x h1
 · rcases plus_cases hb with ⟨g, h1, rfl, rfl⟩ | ⟨h1, h1'⟩
   · rcases plus_cases hc with ⟨g2, h2, rfl, rfl⟩ | ⟨h2, h2'⟩
     · obtain ⟨p1, k1, k2, _, _⟩ := hpos g h1
       obtain ⟨p2, k3, k4, _, _⟩ := hpos g2 h2
       rw [k2] at hp; cases hp
       rw [k4] at hq; cases hq
       exact h.inj _ _ _ _ _ _ (plus_mem ha h1) (plus_mem ha h2) hw k1 k3 he
     · exact (mixed g h1 c y q p h2 h2' hq hp he.symm).elim
   · rcases plus_cases hc with ⟨g2, h2, rfl, rfl⟩ | ⟨h2, h2'⟩
     · exact (mixed g2 h2 b x p q h1 h1' hp hq he).elim
     · exact hn.heap.inj b c x y p q h1 h2 hw hp hq he
 · obtain ⟨c, x, p, h1, h2, h3, h4⟩ := hk
   rcases plus_cases h1 with ⟨g, h5, rfl, rfl⟩ | ⟨h5, _⟩
   · obtain ⟨p', k1, k2, _, _⟩ := hpos g h5
     rw [k2] at h3; cases h3
     exact .inl ⟨g.b, g.k, _, plus_mem ha h5, h2, k1, h4⟩
   · rcases hn.own k ⟨c, x, p, h5, h2, h3, h4⟩ with h6 | h6
     · exact .inl (hown k h6)
     · exact .inr h6
 · rcases hn.pl b p hb with h1 | ⟨h0, h1 | h1⟩
   · exact .inl h1
   · exact .inr ⟨h0, .inl h1⟩
   · exact .inr ⟨h0, .inr (hown _ h1)⟩
 · rcases plus_cases hb with ⟨g, h1, rfl, rfl⟩ | ⟨h1, _⟩
   · exact .inl ⟨_, plus_mem ha h1⟩
   · rcases hn.dom b x h1 with ⟨y, h2⟩ | h2
     · exact .inl ⟨y, hs _ _ h2⟩
     · exact .inr h2
theorem Nxt.place {ρ0 ρ : Rho} {t0 t : TB} {n0 nx b : Nat} {w0 w w1 : World} {k : Blk} {p : Pl} (h : Nxt ρ0 t0 n0 w0 ρ t nx w) (hb : ρ b = none) (hlo : n0 ≤ b) (hhi : b < nx) (hw : Fr (fun _ => False) w w1) (hp1 : w.heap.size ≤ p.blk) (hp2 : p.blk < w1.heap.size)
  (hk : k.rel (ρ.upd b p) p w1) : Nxt ρ0 t0 n0 w0 (ρ.upd b p) (t.put (some k) b) nx w1 := by
 have hle : ρ.le (ρ.upd b p) := by
  intro c q hc
  unfold Rho.upd
  by_cases e : c = b
  · subst e; rw [hb] at hc; cases hc
  · rw [if_neg e]; exact hc
 have hne : ∀ c, c ≠ b → (ρ.upd b p) c = ρ c := fun c e => by unfold Rho.upd; rw [if_neg e]
 have hself : (ρ.upd b p) b = some p := by simp [Rho.upd]
 have hblk : ∀ c x, c ≠ b → (t.put (some k) b).get c = some x → t.get c = some x := fun c x e hc => by (first | rw [Bt.get_put, if_neg e] at hc | rw [Bt.get_put, if_neg e] at hc); exact hc
 refine ⟨Rho.le_trans h.le hle, ⟨fun c x hc => ?_, fun c d x y q r hc hd hwr hq hr he => ?_, fun c hc => ?_⟩, ⟨hw.os.trans h.fr.os, hw.tape.trans h.fr.tape, hw.output.trans h.fr.output, Nat.le_trans h.fr.size hw.size, fun i hi hO => ?_⟩, fun i hi => ?_, fun c q hc => ?_, fun c x hc => ?_, h.nxle⟩
 · by_cases e : c = b
   · subst e
     (first | rw [Bt.get_put, if_pos rfl] at hc | rw [Bt.get_put, if_pos rfl] at hc); cases hc
     exact ⟨p, hself, hp2, hk⟩
   · obtain ⟨q, hq, hl, hr⟩ := h.heap.blk c x (hblk c x e hc)
     exact ⟨q, hle _ _ hq, Nat.lt_of_lt_of_le hl hw.size, Blk.rel_keep hle hr (hw.block _ hl id)⟩
 · by_cases e1 : c = b
   · by_cases e2 : d = b
     · rw [e1, e2]
     · rw [e1, hself] at hq; cases hq
       obtain ⟨r', hr', hl, _⟩ := h.heap.blk d y (hblk d y e2 hd)
       rw [hne d e2, hr'] at hr; cases hr
       omega
   · obtain ⟨q', hq', hl, _⟩ := h.heap.blk c x (hblk c x e1 hc)
     rw [hne c e1, hq'] at hq; cases hq
     by_cases e2 : d = b
     · rw [e2, hself] at hr; cases hr
       omega
     · obtain ⟨r', hr', hl', _⟩ := h.heap.blk d y (hblk d y e2 hd)
       rw [hne d e2, hr'] at hr; cases hr
       exact h.heap.inj c d x y _ _ (hblk c x e1 hc) (hblk d y e2 hd) hwr hq' hr' he
 · rw [hne c (by omega)]; exact h.heap.new c hc
 · rw [hw.block i (Nat.lt_of_lt_of_le hi h.fr.size) id]; exact h.fr.block i hi hO
 · obtain ⟨c, x, q, h1, h2, h3, rfl⟩ := hi
   by_cases e : c = b
   · rw [e, hself] at h3; cases h3
     exact .inr (Nat.le_trans h.fr.size hp1)
   · rw [hne c e] at h3
     exact h.own _ ⟨c, x, q, hblk c x e h1, h2, h3, rfl⟩
 · by_cases e : c = b
   · rw [e, hself] at hc; cases hc
     exact .inr ⟨by omega, .inl (Nat.le_trans h.fr.size hp1)⟩
   · rw [hne c e] at hc; exact h.pl c q hc
 · by_cases e : c = b
   · exact .inr (by omega)
   · exact h.dom c x (hblk c x e hc)
theorem allocE_congr {i : Ins} {T T' : TA} {b : Nat} (h : ∀ d ∈ i.rd, T.get d = T'.get d) : allocE i T b = allocE i T' b := by
 unfold allocE
 cases hg : i.grd with
 | some g => rfl
 | none =>
   simp only
   cases hw : i.what with
   | op o =>
     have hs : ∀ d ∈ o.slots, T.get d = T'.get d := fun d hd => h d (List.mem_append_right _ (by rw [hw]; exact hd))
     simp only [closedS_congr hs, run_congr hs]
   | _ => rfl
theorem alloc_run {ts : List TypeId} {N : Nat} {o : Oper} {q : IOp} {ρ : Rho} {T : TA} {a : Act} {w : World} {b : Nat} {v : AV} {k : Blk} (hq : whatOf P ts o = .op q) (ht : TRel ρ N T a) (hc : closedS q.slots T = true) {t' : TB} {nx' : Nat} (hr : q.run T .e b = .ok v t' nx')
  (hn : nx' = Nat.succ b) (hv : isRef b v = true) (hb : t'.get b = some k) (hk : closedB k = true) :
  ∃ w1 r cv p, (execOp a.eval o).run P w = .ok r w1 ∧ (r = .value cv ∨ r = .skip ∧ cv = undef) ∧ Fr (fun _ => False) w w1 ∧ w.heap.size ≤ p.blk ∧ p.blk < w1.heap.size ∧ ∀ ρ1 : Rho, ρ1 b = some p → v.rel ρ1 cv ∧ k.rel ρ1 p w1 := by
 have h0 : HRel (fun _ => none) .e b w := ⟨fun b k h => by simp [Bt.get_e] at h, fun b c k l p q h => by simp [Bt.get_e] at h, fun _ _ => rfl⟩
 have hT : TRel (fun _ => none) N (only T q.slots) a := ⟨ht.size, ht.defers, fun i v hv => by
  rw [only_get] at hv
  split at hv
  · rename_i hi
    obtain ⟨u, h1, h2⟩ := closedS_get hc i hi
    rw [h1] at hv; cases hv
    obtain ⟨cv, k1, k2⟩ := ht.get i _ h1
    exact ⟨cv, k1, closed_rel h2 k2⟩
  · cases hv⟩
 have hr' : q.run (only T q.slots) .e b = .ok v t' nx' := by
  rw [← run_congr (T := T) (fun d hd => by rw [only_get, if_pos hd])]; exact hr
 obtain ⟨ρ', w', r, cv, h1, h2, h3, h4⟩ := op_sound hq h0 hT hr'
 obtain ⟨p, hp, hl, hkr⟩ := h3.heap.blk b k hb
 have nown : ∀ i, ¬ own (fun _ => none) .e i := fun i ⟨d, y, q, h, _⟩ => by simp [Bt.get_e] at h
 have hsz : w.heap.size ≤ p.blk := by
  rcases h3.pl b p hp with h | ⟨_, h | h⟩
  · cases h
  · exact h
  · exact absurd h (nown _)
 exact ⟨w', r, cv, p, h1, h2, ⟨h3.fr.os, h3.fr.tape, h3.fr.output, h3.fr.size, fun i hi _ => h3.fr.block i hi (nown i)⟩, hsz, hl, fun ρ1 h5 => ⟨isRef_rel hv h4 hp h5, closedB_rel hk hkr⟩⟩
end Go.Proofs.YtpjohgnhmjceiaaGreatDoor.AX
set_option linter.unusedVariables false
set_option linter.unusedSectionVars false
set_option linter.unusedSimpArgs false
namespace Go.Proofs.YtpjohgnhmjceiaaGreatDoor.AX
variable [Env]
variable [Env]
variable {P : Program}
theorem aeqC_eq {x y : AV} (h : aeqC x y = true) : x = y := by
 unfold aeqC at h
 split at h <;> first | rfl | (cases h; done) | skip
 · split at h
   · rename_i hk; rw [iEq_eq] at h; have := kN_eq hk; simp at h; subst h; rw [this]
   · cases h
 · rw [sEq_eq] at h; simp at h; rw [h]
 · split at h
   · rename_i hk; rw [Nat.beq_eq] at h hk; rw [h, hk]
   · cases h
 · split at h
   · rename_i h1 h2 h3 h4 h5; rw [Nat.beq_eq] at h1 h2 h3 h4 h5; rw [h1, h2, h3, h4, h5]
   · cases h
 · split at h
   · rename_i h1 h2 h3 h4 h5; rw [Nat.beq_eq] at h1 h2 h3 h4 h5; rw [h1, h2, h3, h4, h5]
   · cases h
 · rw [Nat.beq_eq] at h; rw [h]
theorem aeqL_eq : ∀ {x y : List AV}, aeqL x y = true → x = y
 | [], [], _ => rfl
 | [], _ :: _, h => by cases h
 | _ :: _, [], h => by cases h
 | x :: xs, y :: ys, h => by
   have h' : (match aeqC x y with | true => aeqL xs ys | false => false) = true := h
   split at h'
   · rename_i hc; rw [aeqC_eq hc, aeqL_eq h']
   · cases h'
theorem aeqM_eq {x y : AV} (h : aeqM x y = true) : x = y := by
 unfold aeqM at h
 split at h
 · rw [aeqL_eq h]
 · exact aeqC_eq h
theorem aeqT_eq : ∀ {x y : List AV}, aeqT x y = true → x = y
 | [], [], _ => rfl
 | [], _ :: _, h => by cases h
 | _ :: _, [], h => by cases h
 | x :: xs, y :: ys, h => by
   have h' : (match aeqM x y with | true => aeqT xs ys | false => false) = true := h
   split at h'
   · rename_i hc; rw [aeqM_eq hc, aeqT_eq h']
   · cases h'
theorem aeq_eq {x y : AV} (h : aeq x y = true) : x = y := by
 unfold aeq at h
 split at h
 · rw [aeqL_eq h]
 · rw [aeqT_eq h]
 · split at h
   · rename_i h1 h2 h3; rw [Nat.beq_eq] at h1; rw [h1, aeqL_eq h2, aeqL_eq h3]
   · cases h
 · split at h
   · rename_i h1; rw [Nat.beq_eq] at h1; rw [h1, aeqC_eq h]
   · cases h
 · exact aeqC_eq h
theorem want_congr {g : Option (Nat × Bool)} {T T' : TA} (h : ∀ d ∈ (match g with | some (s, _) => [s] | none => []), T.get d = T'.get d) : wantA g T = wantA g T' := by
 cases g with
 | none => rfl
 | some q => obtain ⟨s, b⟩ := q; unfold wantA; simp only; rw [h s (by simp)]
theorem what_congr {call : FuncId → List AV → TB → Nat → V1} {x : What} {T T' : TA} {t : TB} {nx : Nat} (h : ∀ d ∈ x.slots, T.get d = T'.get d) : x.run call T t nx = x.run call T' t nx := by
 cases x with
 | op o => exact run_congr h
 | callF f l => simp only [What.run, evs_congr l h]
 | callV y l => simp only [What.run, evs_congr l (fun d hd => h d (List.mem_append_right _ hd)), ev_congr (x := y) (fun d hd => h d (List.mem_append_left _ hd))]
 | callM tb y l => simp only [What.run, evs_congr l (fun d hd => h d (List.mem_append_right _ hd)), ev_congr (x := y) (fun d hd => h d (List.mem_append_left _ hd))]
theorem evalL_congr {i : Ins} {T T' : TA} {t : TB} {nx : Nat} (h : ∀ d ∈ i.rd, T.get d = T'.get d) : evalL i T t nx = evalL i T' t nx := by
 unfold evalL
 rw [want_congr (g := i.grd) (T := T) (T' := T') (fun d hd => h d (List.mem_append_left _ hd))]
 cases hw : i.what with
 | op o =>
   have : o.run T t nx = o.run T' t nx := run_congr (fun d hd => h d (List.mem_append_right _ (by rw [hw]; exact hd)))
   simp only [this]
 | callF f l => rfl
 | callV y l => rfl
 | callM tb y l => rfl
theorem putD_get (T : TA) (d : Option Nat) (v : AV) (j : Nat) : (putD T d v).get j = if d = some j then some v else T.get j := by
 cases d with
 | none => simp [putD]
 | some d =>
   show (T.put (some v) d).get j = _
   (first | rw [Bt.get_put] | rw [Bt.get_put])
   by_cases h : j = d
   · rw [if_pos h, if_pos (by rw [h])]
   · rw [if_neg h, if_neg (fun e => h (Option.some.inj e).symm)]
noncomputable def cut (T : TA) : List (Option Nat) → TA
 | [] => T
 | none :: l => cut T l
 | some d :: l => (cut T l).put none d
theorem cut_get (T : TA) : ∀ (l : List (Option Nat)) (j : Nat), (cut T l).get j = if some j ∈ l then none else T.get j
 | [], j => by simp [cut]
 | none :: l, j => by simp [cut, cut_get T l j]
 | some d :: l, j => by
   (first | rw [cut, Bt.get_put, cut_get T l j] | rw [cut, Bt.get_put, cut_get T l j])
   by_cases h : j = d
   · subst h; simp
   · rw [if_neg h]
     have : (some j ∈ some d :: l) ↔ some j ∈ l := by simp [h]
     simp only [this]
theorem nIn_iff {n : Nat} {l : List Nat} : nIn n l = true ↔ n ∈ l := by rw [nIn_eq]; simp
theorem nIn_false {n : Nat} {l : List Nat} : nIn n l = false ↔ n ∉ l := by
 rw [← Bool.not_eq_true, nIn_iff]
theorem dIn_false {d : Option Nat} {l : List Nat} (h : dIn d l = false) (x : Nat) (hx : d = some x) : x ∉ l := by subst hx; exact nIn_false.1 h
theorem dEq_false {a b : Option Nat} (h : dEq a b = false) (x : Nat) (hx : a = some x) : b ≠ some x := by
 subst hx
 intro e; subst e
 simp [dEq] at h
theorem undef_rel (ρ : Rho) : AV.undef.rel ρ undef := by simp [AV.undef, AV.rel, undef, rels]
theorem insOf_good {ts : List TypeId} {N : Nat} {ops : Array Oper} {o : Oper} : (∃ g, grdOf ops o = some g ∧ insOf P ts N ops o = ⟨o.dst, g, whatOf P ts o⟩ ∧ ∀ d, o.dst = some d → d < N) ∨ insOf P ts N ops o = ⟨none, none, .op .bad⟩ := by
 unfold insOf
 split
 · rename_i g hg hd; exact .inl ⟨g, hg, by rw [hd], fun d h => by rw [hd] at h; cases h⟩
 · rename_i g d hg hd
   split
   · rename_i hlt; exact .inl ⟨g, hg, by rw [hd], fun d' h => by rw [hd] at h; cases h; exact hlt⟩
   · exact .inr rfl
 · exact .inr rfl
section
variable {ts : List TypeId} {N : Nat} {ops : Array Oper} {call : FuncId → List AV → TB → Nat → V1}
theorem wpOp_light {j : Nat} {o : Oper} {ρ : Rho} {T : TA} {t : TB} {nx : Nat} {a : Act} {w : World} {r : AV} {K : Act → World → Prop} {Q : Exit → Act → World → Prop} (ho : ops[j]? = some o) (hh : HRel ρ t nx w) (ht : TRel ρ N T a) (he : evalL (insOf P ts N ops o) T t nx = some r)
  (hk : ∀ ρ1 w1 cv, Nxt ρ t nx w ρ1 t nx w1 → r.rel ρ1 cv → K (a.put o.dst cv) w1) : wpOp P ops Q j K a w := by
 unfold wpOp
 rw [ho]
 simp only
 rcases insOf_good (P := P) (ts := ts) (N := N) (ops := ops) (o := o) with ⟨g, hg, hi, hd⟩ | hi
 · rw [hi] at he
   unfold evalL at he
   simp only at he
   split at he
   · rename_i hw
     cases he
     rw [if_neg (by rw [wanted_eq ht hg hw]; decide)]
     exact hk ρ w _ (Nxt.refl hh) (undef_rel ρ)
   · rename_i hw
     rw [if_pos (wanted_eq ht hg hw)]
     split at he
     · rename_i q hq
       split at he
       · rename_i hl
         split at he
         · rename_i v t' n' hrun
           cases he
           obtain ⟨rfl, rfl⟩ := light_same hl hrun
           obtain ⟨ρ', w', r', cv, h1, h2, h3, h4⟩ := op_sound hq hh ht hrun
           exact .inl (upon_val h1 h2 (hk ρ' w' cv h3 h4))
         · cases he
       · cases he
     · cases he
   · cases he
 · rw [hi] at he
   cases he
theorem wpOp_heavy (hcall : CallOK P call) {j : Nat} {o : Oper} {ρ : Rho} {T : TA} {t t' : TB} {nx nx' : Nat} {a : Act} {w : World} {v : AV} {K : Act → World → Prop} {Q : Exit → Act → World → Prop} (ho : ops[j]? = some o) (hh : HRel ρ t nx w) (ht : TRel ρ N T a)
  (he : (match wantA (insOf P ts N ops o).grd T with
    | some true => (insOf P ts N ops o).what.run call T t nx
    | some false => .ok .undef t nx
    | none => .no [998]) = .ok v t' nx')
  (hk : ∀ ρ1 w1 cv, Nxt ρ t nx w ρ1 t' nx' w1 → v.rel ρ1 cv → K (a.put o.dst cv) w1) : wpOp P ops Q j K a w := by
 unfold wpOp
 rw [ho]
 simp only
 rcases insOf_good (P := P) (ts := ts) (N := N) (ops := ops) (o := o) with ⟨g, hg, hi, hd⟩ | hi
 · rw [hi] at he
   simp only at he
   split at he
   · rename_i hw
     rw [if_pos (wanted_eq ht hg hw)]
     exact .inl (what_sound hcall hh ht he hk)
   · rename_i hw
     cases he
     rw [if_neg (by rw [wanted_eq ht hg hw]; decide)]
     exact hk ρ w _ (Nxt.refl hh) (undef_rel ρ)
   · cases he
 · rw [hi] at he
   cases he
theorem wpOp_alloc {j : Nat} {o : Oper} {ρ : Rho} {T : TA} {a : Act} {w : World} {v : AV} {k : Blk} {b : Nat} {K : Act → World → Prop} {Q : Exit → Act → World → Prop} (ho : ops[j]? = some o) (ht : TRel ρ N T a) (he : allocE (insOf P ts N ops o) T b = some (v, k))
  (hk : ∀ w1 cv p, Fr (fun _ => False) w w1 → w.heap.size ≤ p.blk → p.blk < w1.heap.size → (∀ ρ1 : Rho, ρ1 b = some p → v.rel ρ1 cv ∧ k.rel ρ1 p w1) → K (a.put o.dst cv) w1) : wpOp P ops Q j K a w := by
 unfold wpOp
 rw [ho]
 simp only
 rcases insOf_good (P := P) (ts := ts) (N := N) (ops := ops) (o := o) with ⟨g, hg, hi, hd⟩ | hi
 · rw [hi] at he
   unfold allocE at he
   simp only at he
   cases g with
   | some g => cases he
   | none =>
     simp only at he
     rw [if_pos (wanted_eq ht hg rfl)]
     split at he
     · rename_i q hq
       split at he
       · rename_i hc
         split at he
         · rename_i v' t' nx' hrun
           split at he
           · rename_i hn
             split at he
             · rename_i hv
               split at he
               · rename_i k' hb
                 split at he
                 · rename_i hkc
                   cases he
                   obtain ⟨w1, r, cv, p, h1, h2, h3, h4, h5, h6⟩ := alloc_run hq ht hc hrun (Nat.eq_of_beq_eq_true hn) hv hb hkc
                   exact .inl (upon_val h1 h2 (hk w1 cv p h3 h4 h5 h6))
                 · cases he
               · cases he
             · cases he
           · cases he
         · cases he
       · cases he
     · cases he
 · rw [hi] at he
   cases he
theorem mem_drawOf {i : DIns} : i ∈ drawOf P ts N ops ↔ ∃ o, ops[i.ix]? = some o ∧ i.pre = preOf o ∧ i.ins = insOf P ts N ops o := by
 unfold drawOf
 rw [List.mem_map]
 constructor
 · rintro ⟨⟨o, j⟩, h1, rfl⟩
   rw [List.mem_zipIdx_iff_getElem?] at h1
   exact ⟨o, by simpa using h1, rfl, rfl⟩
 · rintro ⟨o, h1, h2, h3⟩
   refine ⟨(o, i.ix), ?_, ?_⟩
   · rw [List.mem_zipIdx_iff_getElem?]; simpa using h1
   · obtain ⟨ix, pre, ins⟩ := i; simp only at h1 h2 h3; subst h2; subst h3; rfl
theorem drawOf_uniq {i j : DIns} (hi : i ∈ drawOf P ts N ops) (hj : j ∈ drawOf P ts N ops) (h : i.ix = j.ix) : i = j := by
 obtain ⟨o, h1, h2, h3⟩ := mem_drawOf.1 hi
 obtain ⟨o', k1, k2, k3⟩ := mem_drawOf.1 hj
 rw [h, k1] at h1
 cases h1
 obtain ⟨ix, pre, ins⟩ := i
 obtain ⟨ix', pre', ins'⟩ := j
 simp only at h h2 h3 k2 k3
 subst h h2 h3 k2 k3
 rfl
theorem mem_preOf {o : Oper} {p : Nat} : p ∈ preOf o ↔ ∃ e ∈ o.after, Region.binds .any e = true ∧ e.on = p := by
 unfold preOf
 simp only [List.mem_map, List.mem_filter, Array.mem_toList_iff]
 constructor
 · rintro ⟨e, ⟨h1, h2⟩, h3⟩; exact ⟨e, h1, h2, h3⟩
 · rintro ⟨e, h1, h2, h3⟩; exact ⟨e, ⟨h1, h2⟩, h3⟩
theorem allocE_closed {i : Ins} {T : TA} {b : Nat} {v : AV} {k : Blk} (h : allocE i T b = some (v, k)) : closedB k = true := by
 unfold allocE at h
 split at h
 · cases h
 · split at h
   · split at h
     · split at h
       · split at h
         · split at h
           · split at h
             · split at h
               · rename_i hc; cases h; exact hc
               · cases h
             · cases h
           · cases h
         · cases h
       · cases h
     · cases h
   · cases h
structure DF (P : Program) (ts : List TypeId) (N : Nat) (ops : Array Oper) (L : List Nat) (F : List (DIns × AV)) (T : TA) : Prop where
 mem : ∀ (f : DIns) (r : AV), (f, r) ∈ F → f ∈ drawOf P ts N ops
 inL : ∀ (f : DIns) (r : AV), (f, r) ∈ F → f.ix ∈ L ∧ ∀ p ∈ f.pre, p ∈ L
 slot : ∀ (f : DIns) (r : AV), (f, r) ∈ F → ∀ d, f.ins.dst = some d → T.get d = some r
 raw : ∀ (f g : DIns) (r s : AV), (f, r) ∈ F → (g, s) ∈ F → ∀ d, g.ins.dst = some d → d ∈ f.ins.rd → g.ix ∈ f.pre
 out : ∀ (f g : DIns) (r s : AV), (f, r) ∈ F → (g, s) ∈ F → ∀ d, f.ins.dst = some d → g.ins.dst = some d → f.ix = g.ix
structure DS (P : Program) (ts : List TypeId) (N : Nat) (ops : Array Oper) (n0 : Nat) (L : List Nat) (F : List (DIns × AV)) (G : List GB) (T : TA) (t : TB) (nx : Nat) : Prop extends DF P ts N ops L F T where
 val : ∀ (f : DIns) (r : AV), (f, r) ∈ F → isG G f.ix = false → evalL f.ins T t nx = some r
 gal : ∀ g ∈ G, ∃ f r, (f, r) ∈ F ∧ f.ix = g.ix ∧ allocE f.ins T g.b = some (r, g.k)
 gnx : ∀ g ∈ G, n0 ≤ g.b ∧ g.b < nx ∧ t.get g.b = none
 gap : Apart G
 gix : G.Pairwise (fun g h => g.ix ≠ h.ix)
noncomputable def Ex (G : List GB) (U : List Nat) : List GB := G.filter (fun g => !nIn g.ix U)
structure DD (P : Program) (ts : List TypeId) (N : Nat) (ops : Array Oper) (ρ0 : Rho) (t0 : TB) (n0 : Nat) (w0 : World) (L : List Nat) (F : List (DIns × AV)) (G : List GB) (T : TA) (t : TB) (nx : Nat) (U : List Nat) (listed : Array Bool) (ρ : Rho) (a : Act) (w : World) : Prop where
 nxt : Nxt ρ0 t0 n0 w0 ρ (plusA t (Ex G U)) nx w
 pend : ∀ g ∈ G, g.ix ∈ U → ρ g.b = none
 size : a.tmps.size = N
 defers : a.defers = []
 slots : ∀ (d : Nat) (v : AV), T.get d = some v → (∃ f r, (f, r) ∈ F ∧ f.ix ∈ U ∧ f.ins.dst = some d) ∨ ∃ cv, a.tmps[d]? = some cv ∧ v.rel ρ cv
 sub : ∀ u ∈ U, ∃ f r, (f, r) ∈ F ∧ f.ix = u
 lsize : listed.size = ops.size
 list : ∀ j, j < ops.size → (listed.getD j true = true ↔ j ∈ L ∧ j ∉ U)
 down : ∀ i ∈ drawOf P ts N ops, listed.getD i.ix false = true → ∀ p ∈ i.pre, listed.getD p false = true
theorem DS.wr {P : Program} {ts : List TypeId} {N : Nat} {ops : Array Oper} {n0 : Nat} {L : List Nat} {F : List (DIns × AV)} {G : List GB} {T : TA} {t : TB} {nx : Nat} {U : List Nat} (hs : DS P ts N ops n0 L F G T t nx) : ∀ g ∈ Ex G U, g.k.mayWrite = true := fun g hg => by
 obtain ⟨f, r, _, _, h⟩ := hs.gal g (List.mem_filter.1 hg).1
 exact closedB_write (allocE_closed h)
theorem isG_iff {x : Nat} : ∀ {G : List GB}, isG G x = true ↔ ∃ g ∈ G, g.ix = x
 | [] => by simp [isG]
 | g :: G => by
   have e : isG (g :: G) x = @Bool.rec (fun _ => Bool) (isG G x) true (Nat.beq g.ix x) := rfl
   rw [e, brec]
   by_cases h : g.ix = x
   · simp [h, Nat.beq_eq]
   · have : ¬ (Nat.beq g.ix x = true) := by rw [Nat.beq_eq]; exact h
     rw [if_neg this, isG_iff (G := G)]
     simp [h]
theorem isG_false {x : Nat} {G : List GB} : isG G x = false ↔ ∀ g ∈ G, g.ix ≠ x := by
 rw [← Bool.not_eq_true, isG_iff]
 simp
theorem mem_Ex {g : GB} {G : List GB} {U : List Nat} : g ∈ Ex G U ↔ g ∈ G ∧ g.ix ∉ U := by
 unfold Ex
 rw [List.mem_filter, Bool.not_eq_true', nIn_false]
theorem Apart.ex {G : List GB} {U : List Nat} (h : Apart G) : Apart (Ex G U) := List.Pairwise.filter _ h
theorem apart_eq {G : List GB} {R : GB → GB → Prop} (h : G.Pairwise R) (hs : ∀ x y, R x y → R y x) {g x : GB} (hg : g ∈ G) (hx : x ∈ G) (hn : ¬ R g x) : g = x := by
 induction G with
 | nil => cases hg
 | cons y G ih =>
   obtain ⟨h1, h2⟩ := List.pairwise_cons.1 h
   rcases List.mem_cons.1 hg with rfl | hg'
   · rcases List.mem_cons.1 hx with rfl | hx'
     · rfl
     · exact absurd (h1 x hx') hn
   · rcases List.mem_cons.1 hx with rfl | hx'
     · exact absurd (hs _ _ (h1 g hg')) hn
     · exact ih h2 hg' hx'
theorem plus_iff {t : TB} {G : List GB} (h : Apart G) {c : Nat} {x : Blk} : (plusA t G).get c = some x ↔ (∃ g ∈ G, g.b = c ∧ g.k = x) ∨ (t.get c = some x ∧ ∀ g ∈ G, g.b ≠ c) := by
 constructor
 · exact plus_cases
 · rintro (⟨g, h1, rfl, rfl⟩ | ⟨h1, h2⟩)
   · exact plus_mem h h1
   · rw [plus_old h2]; exact h1
theorem sameF_get {F : List (DIns × AV)} {G : List GB} {T : TA} {t : TB} {nx : Nat} (h : sameF F G T t nx = true) {f : DIns} {r : AV} (hf : (f, r) ∈ F) (hg : isG G f.ix = false) : evalL f.ins T t nx = some r := by
 have := List.all_eq_true.1 h (f, r) hf
 simp only [hg] at this
 split at this
 · rename_i u hu; rw [hu, aeq_eq this]
 · cases this
section
variable {ρ0 : Rho} {t0 : TB} {n0 : Nat} {w0 : World}
theorem DD.trel {L : List Nat} {F : List (DIns × AV)} {G : List GB} {T : TA} {t : TB} {nx : Nat} {U : List Nat} {listed : Array Bool} {ρ : Rho} {a : Act} {w : World} (h : DD P ts N ops ρ0 t0 n0 w0 L F G T t nx U listed ρ a w) :
  TRel ρ N (cut T ((F.filter (fun f => nIn f.1.ix U)).map (fun f => f.1.ins.dst))) a := by
 refine ⟨h.size, h.defers, fun d v hv => ?_⟩
 rw [cut_get] at hv
 split at hv
 · cases hv
 · rename_i hn
   rcases h.slots d v hv with ⟨f, r, h1, h2, h3⟩ | h1
   · exact absurd (List.mem_map.2 ⟨(f, r), List.mem_filter.2 ⟨h1, nIn_iff.2 h2⟩, h3⟩) hn
   · exact h1
end
theorem getD_iff {l : Array Bool} {j : Nat} (h : j < l.size) (b : Bool) : l.getD j b = l[j] := by simp [h]
theorem getD_tf {l : Array Bool} {j : Nat} (h : j < l.size) : l.getD j true = l.getD j false := by simp [h]
theorem closeD_listed {listed : Array Bool} (hd : ∀ i ∈ drawOf P ts N ops, listed.getD i.ix false = true → ∀ p ∈ i.pre, listed.getD p false = true) : ∀ (n : Nat) (l : List Nat), (∀ x ∈ l, listed.getD x false = true) → ∀ x ∈ closeD (drawOf P ts N ops) n l, listed.getD x false = true
 | 0, l, h, x, hx => h x hx
 | n + 1, l, h, x, hx => by
   refine closeD_listed hd n _ (fun y hy => ?_) x hx
   rcases List.mem_append.1 hy with hy | hy
   · exact h y hy
   · obtain ⟨i, hi, hp⟩ := List.mem_flatMap.1 hy
     obtain ⟨h1, h2⟩ := List.mem_filter.1 hi
     exact hd i h1 (h _ (nIn_iff.1 h2)) y hp
theorem findF_some {L : List Nat} {F : List (DIns × AV)} {T : TA} {t : TB} {nx : Nat} : ∀ {l : List DIns} {i : DIns} {v : AV}, findF L F T t nx l = some (i, v) → i ∈ l ∧ readyD L i = true ∧ floatOK i F = true ∧ evalL i.ins T t nx = some v
 | [], i, v, h => by cases h
 | x :: l, i, v, h => by
   have h' : (match readyD L x with
    | true => (match floatOK x F with
      | true => (match evalL x.ins T t nx with
        | some v => some (x, v)
        | none => findF L F T t nx l)
      | false => findF L F T t nx l)
    | false => findF L F T t nx l) = some (i, v) := h
   have rest : findF L F T t nx l = some (i, v) → i ∈ x :: l ∧ readyD L i = true ∧ floatOK i F = true ∧ evalL i.ins T t nx = some v := fun hr =>
    let r := findF_some hr; ⟨List.mem_cons_of_mem _ r.1, r.2⟩
   split at h'
   · rename_i h1
     split at h'
     · rename_i h2
       split at h'
       · rename_i h3; cases h'; exact ⟨by simp, h1, h2, h3⟩
       · exact rest h'
     · exact rest h'
   · exact rest h'
theorem ready_iff {L : List Nat} {i : DIns} : readyD L i = true ↔ i.ix ∉ L ∧ ∀ p ∈ i.pre, p ∈ L := by
 unfold readyD
 rw [Bool.and_eq_true, Bool.not_eq_true', nIn_false, List.all_eq_true]
 simp only [nIn_iff]
theorem float_iff {i : DIns} {F : List (DIns × AV)} (h : floatOK i F = true) : (∀ d, i.ins.dst = some d → d ∉ i.ins.rd) ∧ ∀ (f : DIns) (r : AV), (f, r) ∈ F → (∀ d, f.ins.dst = some d → i.ins.dst ≠ some d) ∧ (∀ d, i.ins.dst = some d → d ∉ f.ins.rd) ∧ (∀ d, f.ins.dst = some d → d ∈ i.ins.rd → f.ix ∈ i.pre) := by
 unfold floatOK at h
 rw [Bool.and_eq_true, Bool.not_eq_true', List.all_eq_true] at h
 obtain ⟨h1, h2⟩ := h
 refine ⟨fun d hd => dIn_false h1 d hd, fun f r hf => ?_⟩
 have := h2 _ hf
 simp only [Bool.and_eq_true, Bool.not_eq_true', Bool.or_eq_true] at this
 obtain ⟨k1, k2, k3⟩ := this
 refine ⟨fun d hd => dEq_false k1 d hd, fun d hd => dIn_false k2 d hd, fun d hd hdi => ?_⟩
 rcases k3 with k3 | k3
 · exact absurd hdi (dIn_false k3 d hd)
 · exact nIn_iff.1 k3
theorem min_mem : ∀ (U : List Nat), U ≠ [] → ∃ u ∈ U, ∀ v ∈ U, u ≤ v
 | [], h => absurd rfl h
 | [u], _ => ⟨u, by simp, fun v hv => by simp at hv; omega⟩
 | u :: x :: U, _ => by
   obtain ⟨m, h1, h2⟩ := min_mem (x :: U) (by simp)
   by_cases h : u ≤ m
   · exact ⟨u, by simp, fun v hv => by
      rcases List.mem_cons.1 hv with rfl | hv
      · exact Nat.le_refl _
      · exact Nat.le_trans h (h2 v hv)⟩
   · exact ⟨m, List.mem_cons_of_mem _ h1, fun v hv => by
      rcases List.mem_cons.1 hv with rfl | hv
      · omega
      · exact h2 v hv⟩
theorem count_set {l : Array Bool} {j : Nat} (hj : j < l.size) (hf : l.getD j true = false) : (l.setIfInBounds j true).toList.count false + 1 = l.toList.count false := by
 have hlt : j < l.toList.length := by simpa using hj
 have hv : l.toList[j] = false := by rw [getD_iff hj] at hf; simpa using hf
 rw [Array.toList_setIfInBounds, List.count_set hlt]
 have hpos : 0 < l.toList.count false := List.count_pos_iff.2 (by rw [← hv]; exact List.getElem_mem hlt)
 have e1 : (l.toList[j] == false) = true := by rw [hv]; rfl
 rw [if_pos e1, if_neg (by decide)]
 omega
theorem DF.add {L : List Nat} {F : List (DIns × AV)} {T : TA} (hs : DF P ts N ops L F T) {i : DIns} {v : AV} (f1 : i ∈ drawOf P ts N ops) (r2 : ∀ p ∈ i.pre, p ∈ L) (f3 : floatOK i F = true) : DF P ts N ops (i.ix :: L) ((i, v) :: F) (putD T i.ins.dst v) := by
 obtain ⟨o1, o2⟩ := float_iff f3
 refine ⟨fun f r hf => ?_, fun f r hf => ?_, fun f r hf d hd => ?_, fun f g r s hf hg d hd hdr => ?_, fun f g r s hf hg d hd hdg => ?_⟩
 · rcases List.mem_cons.1 hf with h | h
   · cases h; exact f1
   · exact hs.mem f r h
 · rcases List.mem_cons.1 hf with h | h
   · cases h; exact ⟨by simp, fun p hp => List.mem_cons_of_mem _ (r2 p hp)⟩
   · exact ⟨List.mem_cons_of_mem _ (hs.inL f r h).1, fun p hp => List.mem_cons_of_mem _ ((hs.inL f r h).2 p hp)⟩
 · rw [putD_get]
   rcases List.mem_cons.1 hf with h | h
   · cases h; rw [if_pos hd]
   · rw [if_neg ((o2 f r h).1 d hd)]; exact hs.slot f r h d hd
 · rcases List.mem_cons.1 hf with h | h
   · cases h
     rcases List.mem_cons.1 hg with h2 | h2
     · cases h2; exact absurd hdr (o1 d hd)
     · exact (o2 g s h2).2.2 d hd hdr
   · rcases List.mem_cons.1 hg with h2 | h2
     · cases h2; exact absurd hdr ((o2 f r h).2.1 d hd)
     · exact hs.raw f g r s h h2 d hd hdr
 · rcases List.mem_cons.1 hf with h | h
   · cases h
     rcases List.mem_cons.1 hg with h2 | h2
     · cases h2; rfl
     · exact absurd hd ((o2 g s h2).1 d hdg)
   · rcases List.mem_cons.1 hg with h2 | h2
     · cases h2; exact absurd hdg ((o2 f r h).1 d hd)
     · exact hs.out f g r s h h2 d hd hdg
theorem DF.less {L : List Nat} {F F' : List (DIns × AV)} {T : TA} (hs : DF P ts N ops L F T) (h : ∀ x, x ∈ F' → x ∈ F) : DF P ts N ops L F' T :=
 ⟨fun f r hf => hs.mem f r (h _ hf), fun f r hf => hs.inL f r (h _ hf), fun f r hf => hs.slot f r (h _ hf), fun f g r s hf hg => hs.raw f g r s (h _ hf) (h _ hg), fun f g r s hf hg => hs.out f g r s (h _ hf) (h _ hg)⟩
theorem findG_some {F : List (DIns × AV)} {T : TA} {b : Nat} : ∀ {l : List DIns} {i : DIns} {v : AV} {k : Blk}, findG F T b l = some (i, v, k) → i ∈ l ∧ floatOK i F = true ∧ allocE i.ins T b = some (v, k)
 | [], i, v, k, h => by cases h
 | x :: l, i, v, k, h => by
   have h' : (match floatOK x F with
    | true => (match allocE x.ins T b with
      | some (v, k) => some (x, v, k)
      | none => findG F T b l)
    | false => findG F T b l) = some (i, v, k) := h
   have rest : findG F T b l = some (i, v, k) → i ∈ x :: l ∧ floatOK i F = true ∧ allocE i.ins T b = some (v, k) := fun hr =>
    let r := findG_some hr; ⟨List.mem_cons_of_mem _ r.1, r.2⟩
   split at h'
   · rename_i h1
     split at h'
     · rename_i h2; cases h'; exact ⟨by simp, h1, h2⟩
     · exact rest h'
   · exact rest h'
theorem findIn_some {c : List Nat} : ∀ {G : List GB} {g : GB}, findIn c G = some g → g ∈ G ∧ g.ix ∈ c
 | [], g, h => by cases h
 | x :: G, g, h => by
   have e : findIn c (x :: G) = @Bool.rec (fun _ => Option GB) (findIn c G) (some x) (nIn x.ix c) := rfl
   rw [e, brec] at h
   split at h
   · rename_i hc; cases h; exact ⟨by simp, nIn_iff.1 hc⟩
   · have := findIn_some h; exact ⟨List.mem_cons_of_mem _ this.1, this.2⟩
theorem findIn_none {c : List Nat} : ∀ {G : List GB}, findIn c G = none → ∀ g ∈ G, g.ix ∉ c
 | [], _, g, hg => by cases hg
 | x :: G, h, g, hg => by
   have e : findIn c (x :: G) = @Bool.rec (fun _ => Option GB) (findIn c G) (some x) (nIn x.ix c) := rfl
   rw [e, brec] at h
   split at h
   · cases h
   · rename_i hc
     rcases List.mem_cons.1 hg with rfl | hg
     · exact fun hm => hc (nIn_iff.2 hm)
     · exact findIn_none h g hg
section
variable {ρ0 : Rho} {t0 : TB} {n0 : Nat} {w0 : World}
theorem draw_pend (hpre : ∀ i ∈ drawOf P ts N ops, ∀ p ∈ i.pre, p < i.ix) {L : List Nat} {F : List (DIns × AV)} {G : List GB} {T : TA} {t : TB} {nx : Nat} (hs : DS P ts N ops n0 L F G T t nx)
  {U : List Nat} {listed : Array Bool} {ρ : Rho} {a : Act} {w : World} {Q : Exit → Act → World → Prop} (hd : DD P ts N ops ρ0 t0 n0 w0 L F G T t nx U listed ρ a w)
  (IU : ∀ u ∈ U, ∀ (fuel' : Nat) (listed' : Array Bool) (ρ' : Rho) (a' : Act) (w' : World), DD P ts N ops ρ0 t0 n0 w0 L F G T t nx (U.filter (fun x => !(x == u))) listed' ρ' a' w' → listed'.toList.count false ≤ fuel' → wpAny P .any ops Q fuel' listed' a' w')
  (fuel' : Nat) (hfu' : listed.toList.count false ≤ fuel' + 1) (k : Nat) (hk : k ∈ Region.ready .any ops listed) (hkU : k ∈ U) : wpOp P ops Q k (wpAny P .any ops Q fuel' (listed.setIfInBounds k true)) a w := by
 have hget : ∀ x, listed.getD x false = true → x < ops.size ∧ x ∈ L ∧ x ∉ U := fun x hx => by
  have hlt : x < listed.size := by
   rcases Nat.lt_or_ge x listed.size with h | h
   · exact h
   · simp [Array.getElem?_eq_none h] at hx
  have hlt' : x < ops.size := by rw [← hd.lsize]; exact hlt
  exact ⟨hlt', (hd.list x hlt').1 (by rw [getD_tf hlt]; exact hx)⟩
 obtain ⟨hk0, o, ho, hall⟩ := mem_ready.1 hk
 have hkn : k < ops.size := (Array.getElem?_eq_some_iff.1 ho).1
 have hkl : k < listed.size := by rw [hd.lsize]; exact hkn
 have hiD : (⟨k, preOf o, insOf P ts N ops o⟩ : DIns) ∈ drawOf P ts N ops := mem_drawOf.2 ⟨o, ho, rfl, rfl⟩
 have hpl : ∀ p ∈ preOf o, listed.getD p false = true := fun p hp => by
  obtain ⟨e, h1, h2, rfl⟩ := mem_preOf.1 hp
  exact hall e h1 h2
 have hcnt := count_set hkl hk0
 have hdown : ∀ i ∈ drawOf P ts N ops, (listed.setIfInBounds k true).getD i.ix false = true → ∀ p ∈ i.pre, (listed.setIfInBounds k true).getD p false = true := fun i hi h p hp => by
  by_cases hik : i.ix = k
  · have : i = ⟨k, preOf o, insOf P ts N ops o⟩ := drawOf_uniq hi hiD hik
    rw [this] at hp
    exact getD_set_true (hpl p hp)
  · rw [getD_set_ne false (Ne.symm hik)] at h
    exact getD_set_true (hd.down i hi h p hp)
 have hsz : (listed.setIfInBounds k true).size = ops.size := by rw [Array.size_setIfInBounds]; exact hd.lsize
 have hlk : (listed.setIfInBounds k true).getD k true = true := by simp [hkl]
 have hslot : ∀ (ρ1 : Rho) (w1 : World) (cv : Value) (d : Nat), ρ.le ρ1 → (∀ v, (∃ cu, a.tmps[d]? = some cu ∧ AV.rel ρ v cu) → o.dst ≠ some d → ∃ cu, (a.put o.dst cv).tmps[d]? = some cu ∧ v.rel ρ1 cu) := fun ρ1 w1 cv d hle v hv hne => by
  obtain ⟨cu, h1, h2⟩ := hv
  refine ⟨cu, ?_, AV.rel_mono hle _ _ h2⟩
  cases hdst : o.dst with
  | none => exact h1
  | some d' =>
    have hnd : d' ≠ d := fun h => hne (by rw [hdst, h])
    show (a.tmps.setIfInBounds d' cv)[d]? = _
    rw [Array.getElem?_setIfInBounds_ne hnd]; exact h1
 have hnew : ∀ (cv : Value) (d : Nat), o.dst = some d → d < N → (a.put o.dst cv).tmps[d]? = some cv := fun cv d hdst hlt => by
  rw [hdst]
  show (a.tmps.setIfInBounds d cv)[d]? = _
  rw [Array.getElem?_setIfInBounds_self_of_lt (by rw [hd.size]; exact hlt)]
 have hpsize : ∀ cv, (a.put o.dst cv).tmps.size = N := fun cv => by
  cases hdst : o.dst with
  | none => exact hd.size
  | some d' => show (a.tmps.setIfInBounds d' cv).size = N; rw [Array.size_setIfInBounds]; exact hd.size
 have hpdef : ∀ cv, (a.put o.dst cv).defers = [] := fun cv => by
  cases hdst : o.dst with
  | none => exact hd.defers
  | some d' => exact hd.defers
 obtain ⟨f, r0, hfF0, hfk⟩ := hd.sub k hkU
 have hfD := hs.mem f r0 hfF0
 obtain rfl : f = ⟨k, preOf o, insOf P ts N ops o⟩ := drawOf_uniq hfD hiD hfk
 have hcutget : ∀ d ∈ (insOf P ts N ops o).rd, T.get d = (cut T ((F.filter (fun f => nIn f.1.ix U)).map (fun f => f.1.ins.dst))).get d := fun d hdr => by
  rw [cut_get, if_neg (fun hm => ?_)]
  obtain ⟨⟨g, s⟩, h1, h2⟩ := List.mem_map.1 hm
  obtain ⟨h3, h4⟩ := List.mem_filter.1 h1
  have h5 := hs.raw _ g r0 s hfF0 h3 d h2 hdr
  exact (hget _ (hpl _ h5)).2.2 (nIn_iff.1 h4)
 have hgood : ∀ r, (⟨k, preOf o, insOf P ts N ops o⟩, r) ∈ F → (insOf P ts N ops o ≠ ⟨none, none, .op .bad⟩) → (insOf P ts N ops o).dst = o.dst ∧ ∀ d, o.dst = some d → d < N := fun r _ hne => by
  rcases insOf_good (P := P) (ts := ts) (N := N) (ops := ops) (o := o) with ⟨g, hg, hi, hdd⟩ | hi
  · exact ⟨by rw [hi], hdd⟩
  · exact absurd hi hne
 have hU' : ∀ j, j ≠ k → (j ∈ U.filter (fun x => !(x == k)) ↔ j ∈ U) := fun j hjk => by simp [List.mem_filter, hjk]
 have hlist : ∀ j, j < ops.size → ((listed.setIfInBounds k true).getD j true = true ↔ j ∈ L ∧ j ∉ U.filter (fun x => !(x == k))) := fun j hj => by
  by_cases hjk : j = k
  · subst hjk
    rw [hlk]
    simp only [true_iff]
    exact ⟨(hs.inL _ _ hfF0).1, fun hm => by have := (List.mem_filter.1 hm).2; simp at this⟩
  · rw [getD_set_ne true (Ne.symm hjk), hd.list j hj, hU' j hjk]
 have hslots : ∀ (r : AV) (ρ1 : Rho) (w1 : World) (cv : Value), (⟨k, preOf o, insOf P ts N ops o⟩, r) ∈ F → ((insOf P ts N ops o).dst = o.dst ∧ ∀ d, o.dst = some d → d < N) → ρ.le ρ1 → r.rel ρ1 cv →
   ∀ (d : Nat) (v : AV), T.get d = some v → (∃ f r, (f, r) ∈ F ∧ f.ix ∈ U.filter (fun x => !(x == k)) ∧ f.ins.dst = some d) ∨ ∃ cu, (a.put o.dst cv).tmps[d]? = some cu ∧ v.rel ρ1 cu := fun r ρ1 w1 cv hfF hg hle hr d v hv => by
  by_cases hdst : o.dst = some d
  · have hsl := hs.slot _ _ hfF d (by show (insOf P ts N ops o).dst = some d; rw [hg.1]; exact hdst)
    rw [hsl] at hv; cases hv
    exact .inr ⟨cv, hnew cv d hdst (hg.2 d hdst), hr⟩
  · rcases hd.slots d v hv with ⟨g, s, h1, h2, h3⟩ | h1
    · refine .inl ⟨g, s, h1, List.mem_filter.2 ⟨h2, ?_⟩, h3⟩
      have : g.ix ≠ k := fun hgk => by
       have := drawOf_uniq (hs.mem g s h1) hiD hgk
       rw [this] at h3
       exact hdst (by rw [← hg.1]; exact h3)
      simpa using this
    · exact .inr (hslot ρ1 w1 cv d hle v h1 hdst)
 have hfresh : ∀ g ∈ Ex G U, t.get g.b = none ∧ g.b < nx := fun g hg => ⟨(hs.gnx g (mem_Ex.1 hg).1).2.2, (hs.gnx g (mem_Ex.1 hg).1).2.1⟩
 by_cases hG : isG G k = true
 · -- one that makes a new block
   obtain ⟨g, hgG, hgk⟩ := isG_iff.1 hG
   obtain ⟨f', r, hfF, hf'k, hal⟩ := hs.gal g hgG
   obtain rfl : f' = ⟨k, preOf o, insOf P ts N ops o⟩ := drawOf_uniq (hs.mem _ _ hfF) hiD (hf'k.trans hgk)
   simp only at hal
   have hne : insOf P ts N ops o ≠ ⟨none, none, .op .bad⟩ := fun e => by
    rw [e] at hal
    have h2 : allocE ⟨none, none, .op .bad⟩ T g.b = none := rfl
    rw [h2] at hal; cases hal
   have hgd := hgood r hfF hne
   have hal' := (allocE_congr (b := g.b) hcutget).symm.trans hal
   have hgb : ρ g.b = none := hd.pend g hgG (by rw [hgk]; exact hkU)
   refine wpOp_alloc ho hd.trel hal' (fun w1 cv p q1 q2 q3 q4 => ?_)
   have hself : (ρ.upd g.b p) g.b = some p := by simp [Rho.upd]
   obtain ⟨q5, q6⟩ := q4 (ρ.upd g.b p) hself
   have hle : ρ.le (ρ.upd g.b p) := by
    intro c q hc
    unfold Rho.upd
    by_cases e : c = g.b
    · subst e; rw [hgb] at hc; cases hc
    · rw [if_neg e]; exact hc
   have hn1 := Nxt.place hd.nxt hgb (hs.gnx g hgG).1 (hs.gnx g hgG).2.1 q1 q2 q3 q6
   have hap : Apart (Ex G U) := hs.gap.ex
   have hap' : Apart (Ex G (U.filter (fun x => !(x == k)))) := hs.gap.ex
   have hgE : g ∈ Ex G (U.filter (fun x => !(x == k))) := mem_Ex.2 ⟨hgG, fun hm => by have := (List.mem_filter.1 hm).2; rw [hgk] at this; simp at this⟩
   have hsame : ∀ x ∈ G, x.ix = k → x = g := fun x hx e => (apart_eq hs.gix (fun _ _ h => h.symm) hgG hx (fun h => h (by rw [hgk, e]))).symm
   have hn2 : Nxt ρ0 t0 n0 w0 (ρ.upd g.b p) (plusA t (Ex G (U.filter (fun x => !(x == k))))) nx w1 := hn1.congr (fun c => by
    (first | rw [Bt.get_put] | rw [Bt.get_put])
    by_cases e : c = g.b
    · rw [if_pos e, e, plus_mem hap' hgE]
    · rw [if_neg e]
      refine Option.ext (fun x => ?_)
      rw [plus_iff hap, plus_iff hap']
      have h1 : ∀ y : GB, y.b = c → (y ∈ Ex G (U.filter (fun x => !(x == k))) ↔ y ∈ Ex G U) := fun y hy => by
       rw [mem_Ex, mem_Ex]
       by_cases hyk : y.ix = k
       · constructor
         · rintro ⟨h2, _⟩; exact absurd (by rw [← hy, hsame y h2 hyk]) e
         · rintro ⟨h2, _⟩; exact absurd (by rw [← hy, hsame y h2 hyk]) e
       · rw [hU' _ hyk]
      constructor
      · rintro (⟨y, k1, k2, k3⟩ | ⟨k1, k2⟩)
        · exact .inl ⟨y, (h1 y k2).1 k1, k2, k3⟩
        · exact .inr ⟨k1, fun y hy hc => k2 y ((h1 y hc).2 hy) hc⟩
      · rintro (⟨y, k1, k2, k3⟩ | ⟨k1, k2⟩)
        · exact .inl ⟨y, (h1 y k2).2 k1, k2, k3⟩
        · exact .inr ⟨k1, fun y hy hc => k2 y ((h1 y hc).1 hy) hc⟩)
   refine IU k hkU fuel' _ (ρ.upd g.b p) _ w1 ⟨hn2, fun x hx hxU => ?_, hpsize cv, hpdef cv, hslots r _ w1 cv hfF hgd hle q5, fun u hu => hd.sub u (List.mem_filter.1 hu).1, hsz, hlist, hdown⟩ (by omega)
   obtain ⟨h1, h2⟩ := List.mem_filter.1 hxU
   have hxk : x.ix ≠ k := by simpa using h2
   have hxb : x.b ≠ g.b := fun e => hxk (by rw [apart_eq hs.gap (fun _ _ h => h.symm) hx hgG (fun h => h e)]; exact hgk)
   unfold Rho.upd
   rw [if_neg hxb]
   exact hd.pend x hx h1
 · -- one that only looks
   have hG' : isG G k = false := by simpa using hG
   have hval := hs.val _ _ hfF0 hG'
   simp only at hval
   have hne : insOf P ts N ops o ≠ ⟨none, none, .op .bad⟩ := fun e => by rw [e] at hval; cases hval
   have hgd := hgood r0 hfF0 hne
   have hval' : evalL (insOf P ts N ops o) (cut T ((F.filter (fun f => nIn f.1.ix U)).map (fun f => f.1.ins.dst))) t nx = some r0 := by
    rw [← hval]
    exact (evalL_congr hcutget).symm
   have hh : HRel ρ t nx w := hd.nxt.heap.sub (plus_sub (fun g hg => (hfresh g hg).1))
   refine wpOp_light ho hh hd.trel hval' (fun ρ1 w1 cv hn hr => ?_)
   have hn1 := hd.nxt.trans (Nxt.beside hd.nxt.heap hn hs.gap.ex hfresh hs.wr)
   have hEx : Ex G (U.filter (fun x => !(x == k))) = Ex G U := by
    unfold Ex
    refine List.filter_congr (fun x hx => ?_)
    have hxk : x.ix ≠ k := isG_false.1 hG' x hx
    rw [Bool.eq_iff_iff, Bool.not_eq_true', Bool.not_eq_true', nIn_false, nIn_false, hU' _ hxk]
   refine IU k hkU fuel' _ ρ1 _ w1 ⟨by rw [hEx]; exact hn1, fun x hx hxU => ?_, hpsize cv, hpdef cv, hslots r0 ρ1 w1 cv hfF0 hgd hn.le hr, fun u hu => hd.sub u (List.mem_filter.1 hu).1, hsz, hlist, hdown⟩ (by omega)
   have h1 := hd.pend x hx (List.mem_filter.1 hxU).1
   cases hx1 : ρ1 x.b with
   | none => rfl
   | some p =>
     rcases hn.pl _ _ hx1 with h2 | ⟨h2, _⟩
     · rw [h1] at h2; cases h2
     · have := (hs.gnx x hx).2.1; omega
theorem draw_step (hcall : CallOK P call) (hpre : ∀ i ∈ drawOf P ts N ops, ∀ p ∈ i.pre, p < i.ix) (n : Nat) (L : List Nat) (F : List (DIns × AV)) (G : List GB) (T : TA) (t : TB) (nx : Nat) (hb : (drawA call (drawOf P ts N ops) (n + 1) L F G T t nx).isBad = false) (hs : DS P ts N ops n0 L F G T t nx) (hF : findF L F T t nx (drawOf P ts N ops) = none)
  (IH : ∀ {L' : List Nat} {F' : List (DIns × AV)} {G' : List GB} {T' : TA} {t' : TB} {nx' : Nat}, (drawA call (drawOf P ts N ops) n L' F' G' T' t' nx').isBad = false → DS P ts N ops n0 L' F' G' T' t' nx' →
    ∀ (m : Nat) (U : List Nat) (fuel : Nat) (listed : Array Bool) (ρ : Rho) (a : Act) (w : World) (Q : Exit → Act → World → Prop), U.length ≤ m → DD P ts N ops ρ0 t0 n0 w0 L' F' G' T' t' nx' U listed ρ a w → listed.toList.count false ≤ fuel →
     (∀ e a' w', Post N (drawA call (drawOf P ts N ops) n L' F' G' T' t' nx') ρ0 t0 n0 w0 e a' w' → Q e a' w') → wpAny P .any ops Q fuel listed a w)
  (U : List Nat) (fuel : Nat) (listed : Array Bool) (ρ : Rho) (a : Act) (w : World) (Q : Exit → Act → World → Prop) (hd : DD P ts N ops ρ0 t0 n0 w0 L F G T t nx U listed ρ a w) (hfu : listed.toList.count false ≤ fuel)
  (hq : ∀ e a' w', Post N (drawA call (drawOf P ts N ops) (n + 1) L F G T t nx) ρ0 t0 n0 w0 e a' w' → Q e a' w')
  (IU : ∀ u ∈ U, ∀ (fuel' : Nat) (listed' : Array Bool) (ρ' : Rho) (a' : Act) (w' : World), DD P ts N ops ρ0 t0 n0 w0 L F G T t nx (U.filter (fun x => !(x == u))) listed' ρ' a' w' → listed'.toList.count false ≤ fuel' → wpAny P .any ops Q fuel' listed' a' w') : wpAny P .any ops Q fuel listed a w := by
 have hget : ∀ x, listed.getD x false = true → x < ops.size ∧ x ∈ L ∧ x ∉ U := fun x hx => by
  have hlt : x < listed.size := by
   rcases Nat.lt_or_ge x listed.size with h | h
   · exact h
   · simp [Array.getElem?_eq_none h] at hx
  have hlt' : x < ops.size := by rw [← hd.lsize]; exact hlt
  exact ⟨hlt', (hd.list x hlt').1 (by rw [getD_tf hlt]; exact hx)⟩
 have hput : ∀ x, x < ops.size → x ∈ L → x ∉ U → listed.getD x false = true := fun x hx h1 h2 => by
  have hlt : x < listed.size := by rw [hd.lsize]; exact hx
  rw [← getD_tf hlt]
  exact (hd.list x hx).2 ⟨h1, h2⟩
 have hDlt : ∀ i ∈ drawOf P ts N ops, i.ix < ops.size := fun i hi => by
  obtain ⟨o, h1, _⟩ := mem_drawOf.1 hi
  exact (Array.getElem?_eq_some_iff.1 h1).1
 have hrdy : ∀ i ∈ drawOf P ts N ops, listed.getD i.ix true = false → (∀ p ∈ i.pre, listed.getD p false = true) → i.ix ∈ Region.ready .any ops listed := fun i hi h1 h2 => by
  obtain ⟨o, ho, hp, _⟩ := mem_drawOf.1 hi
  exact mem_ready.2 ⟨h1, o, ho, fun e he hbd => h2 _ (by rw [hp]; exact mem_preOf.2 ⟨e, he, hbd, rfl⟩)⟩
 have hunl : ∀ x, x < ops.size → ¬ (x ∈ L ∧ x ∉ U) → listed.getD x true = false := fun x hx h => by
  cases hv : listed.getD x true with
  | false => rfl
  | true => exact absurd ((hd.list x hx).1 hv) h
 have hplt : ∀ i ∈ drawOf P ts N ops, ∀ p ∈ i.pre, p < ops.size := fun i hi p hp => Nat.lt_trans (hpre i hi p hp) (hDlt i hi)
 have hfresh : ∀ g ∈ Ex G U, t.get g.b = none ∧ g.b < nx := fun g hg => ⟨(hs.gnx g (mem_Ex.1 hg).1).2.2, (hs.gnx g (mem_Ex.1 hg).1).2.1⟩
 have hh : HRel ρ t nx w := hd.nxt.heap.sub (plus_sub (fun g hg => (hfresh g hg).1))
 -- nothing is ready: nothing is left
 have hU0 : Region.ready .any ops listed = [] → U = [] := fun hr => by
  refine Classical.byContradiction (fun hne => ?_)
  obtain ⟨u, hu, hmin⟩ := min_mem U hne
  obtain ⟨f, r, h1, rfl⟩ := hd.sub u hu
  have hfD := hs.mem f r h1
  have := hrdy f hfD (hunl _ (hDlt f hfD) (fun h => h.2 hu)) (fun p hp => hput p (hplt f hfD p hp) ((hs.inL f r h1).2 p hp) (fun hpu => by have h3 := hmin p hpu; have h4 := hpre f hfD p hp; omega))
  rw [hr] at this; cases this
 have hR0 : Region.ready .any ops listed = [] → (drawOf P ts N ops).filter (readyD L) = [] := fun hr => by
  have hU := hU0 hr
  refine List.eq_nil_iff_forall_not_mem.2 (fun i hi => ?_)
  obtain ⟨h1, h2⟩ := List.mem_filter.1 hi
  obtain ⟨h3, h4⟩ := ready_iff.1 h2
  have := hrdy i h1 (hunl _ (hDlt i h1) (fun h => h3 h.1)) (fun p hp => hput p (hplt i h1 p hp) (h4 p hp) (by rw [hU]; simp))
  rw [hr] at this; cases this
 have close : (Region.ready .any ops listed = [] → Q .normal a w) → (∀ (fuel' : Nat), listed.toList.count false ≤ fuel' + 1 → ∀ k ∈ Region.ready .any ops listed, k ∉ U → wpOp P ops Q k (wpAny P .any ops Q fuel' (listed.setIfInBounds k true)) a w) → wpAny P .any ops Q fuel listed a w := fun hfin hst => by
  have hstep : ∀ (fuel' : Nat), listed.toList.count false ≤ fuel' + 1 → ∀ k ∈ Region.ready .any ops listed, wpOp P ops Q k (wpAny P .any ops Q fuel' (listed.setIfInBounds k true)) a w := fun fuel' h k hk => by
   by_cases hkU : k ∈ U
   · exact draw_pend hpre hs hd IU fuel' h k hk hkU
   · exact hst fuel' h k hk hkU
  cases fuel with
  | zero =>
    have hc0 : listed.toList.count false = 0 := by omega
    have hr : Region.ready .any ops listed = [] := by
     refine List.eq_nil_iff_forall_not_mem.2 (fun k hk => ?_)
     obtain ⟨hk0, o, ho, _⟩ := mem_ready.1 hk
     have hkl : k < listed.size := by rw [hd.lsize]; exact (Array.getElem?_eq_some_iff.1 ho).1
     have := count_set hkl hk0
     omega
    exact ⟨hr, hfin hr⟩
  | succ fuel' => exact ⟨hfin, hstep fuel' hfu⟩
 -- what else may be ready
 have hother : ∀ k ∈ Region.ready .any ops listed, k ∉ U → ∃ o, ops[k]? = some o ∧ (∀ p ∈ preOf o, listed.getD p false = true) ∧ (⟨k, preOf o, insOf P ts N ops o⟩ : DIns) ∈ (drawOf P ts N ops).filter (readyD L) := fun k hk hkU => by
  obtain ⟨hk0, o, ho, hall⟩ := mem_ready.1 hk
  have hkn : k < ops.size := (Array.getElem?_eq_some_iff.1 ho).1
  have hiD : (⟨k, preOf o, insOf P ts N ops o⟩ : DIns) ∈ drawOf P ts N ops := mem_drawOf.2 ⟨o, ho, rfl, rfl⟩
  have hpl : ∀ p ∈ preOf o, listed.getD p false = true := fun p hp => by
   obtain ⟨e, h1, h2, rfl⟩ := mem_preOf.1 hp
   exact hall e h1 h2
  have hkL : k ∉ L := fun h => by
   have := (hd.list k hkn).2 ⟨h, hkU⟩
   rw [hk0] at this; cases this
  exact ⟨o, ho, hpl, List.mem_filter.2 ⟨hiD, ready_iff.2 ⟨hkL, fun p hp => (hget p (hpl p hp)).2.1⟩⟩⟩
 match hR : (drawOf P ts N ops).filter (readyD L) with
 | [] =>
   have e : drawA call (drawOf P ts N ops) (n + 1) L F G T t nx = .ok T (plusA t G) nx := by
    simp only [drawA, hF, hR]
   refine close (fun hr => ?_) (fun fuel' _ k hk hkU => ?_)
   · have hU := hU0 hr
     refine hq _ _ _ ?_
     rw [e]
     have hEx : Ex G U = G := by
      rw [hU]; unfold Ex
      exact List.filter_eq_self.2 (fun x _ => rfl)
     refine ⟨rfl, ρ, by rw [← hEx]; exact hd.nxt, hd.size, hd.defers, fun d v hv => ?_⟩
     rcases hd.slots d v hv with ⟨f, r, _, h2, _⟩ | h1
     · rw [hU] at h2; cases h2
     · exact h1
   · obtain ⟨o, _, _, h⟩ := hother k hk hkU
     rw [hR] at h; cases h
 | [h] =>
   cases hI : findIn (closeD (drawOf P ts N ops) 3 h.pre) G with
   | some g =>
     obtain ⟨hgG, hgc⟩ := findIn_some hI
     by_cases hgU : g.ix ∈ U
     · -- the block is still to be made
       refine close (fun hr => by rw [hU0 hr] at hgU; cases hgU) (fun fuel' _ k hk hkU => ?_)
       obtain ⟨o, ho, hpl, hm⟩ := hother k hk hkU
       rw [hR, List.mem_singleton] at hm
       subst hm
       exact absurd hgU (hget _ (closeD_listed hd.down 3 _ hpl _ hgc)).2.2
     · have e : drawA call (drawOf P ts N ops) (n + 1) L F G T t nx = (match sameF (F.filter (fun f => Bool.not (Nat.beq f.1.ix g.ix))) (G.filter (fun x => Bool.not (Nat.beq x.ix g.ix))) T (t.put (some g.k) g.b) nx with
        | true => drawA call (drawOf P ts N ops) n L (F.filter (fun f => Bool.not (Nat.beq f.1.ix g.ix))) (G.filter (fun x => Bool.not (Nat.beq x.ix g.ix))) T (t.put (some g.k) g.b) nx
        | false => .bad [992]) := by
        simp only [drawA, hF, hR, hI]
        rfl
       rw [e] at hb hq
       split at hb
       · rename_i hsm
         rw [hsm] at hq
         simp only at hq
         have mF : ∀ x, x ∈ F.filter (fun f => Bool.not (Nat.beq f.1.ix g.ix)) ↔ x ∈ F ∧ x.1.ix ≠ g.ix := fun x => by
          rw [List.mem_filter, Bool.not_eq_true', ← Bool.not_eq_true, Nat.beq_eq]
         have mG : ∀ x, x ∈ G.filter (fun x => Bool.not (Nat.beq x.ix g.ix)) ↔ x ∈ G ∧ x.ix ≠ g.ix := fun x => by
          rw [List.mem_filter, Bool.not_eq_true', ← Bool.not_eq_true, Nat.beq_eq]
         generalize F.filter (fun f => Bool.not (Nat.beq f.1.ix g.ix)) = F' at hb hq hsm mF
         have hgap' : Apart (G.filter (fun x => Bool.not (Nat.beq x.ix g.ix))) := List.Pairwise.filter _ hs.gap
         have hgix' : (G.filter (fun x => Bool.not (Nat.beq x.ix g.ix))).Pairwise (fun g h => g.ix ≠ h.ix) := List.Pairwise.filter _ hs.gix
         generalize G.filter (fun x => Bool.not (Nat.beq x.ix g.ix)) = G' at hb hq hsm mG hgap' hgix'
         have hnum : ∀ x ∈ G, x.ix ≠ g.ix → x.b ≠ g.b := fun x hx hne e => hne (by rw [apart_eq hs.gap (fun _ _ h => h.symm) hx hgG (fun h => h e)])
         have hsame : ∀ x ∈ G, x.ix = g.ix → x = g := fun x hx e => apart_eq hs.gix (fun _ _ h => h.symm) hx hgG (fun h => h e)
         refine IH hb ⟨hs.toDF.less (fun x hx => ((mF x).1 hx).1), fun f r hf hg => sameF_get hsm hf hg, fun x hx => ?_, fun x hx => ?_, hgap', hgix'⟩ U.length U fuel listed ρ a w Q (Nat.le_refl _) ⟨?_, fun x hx => hd.pend x ((mG x).1 hx).1, hd.size, hd.defers, fun d v hv => ?_, fun u hu => ?_, hd.lsize, hd.list, hd.down⟩ hfu hq
         · obtain ⟨h1, h2⟩ := (mG x).1 hx
           obtain ⟨f, r, k1, k2, k3⟩ := hs.gal x h1
           exact ⟨f, r, (mF _).2 ⟨k1, by rw [k2]; exact h2⟩, k2, k3⟩
         · obtain ⟨h1, h2⟩ := (mG x).1 hx
           obtain ⟨k1, k2, k3⟩ := hs.gnx x h1
           exact ⟨k1, k2, by (first | rw [Bt.get_put, if_neg (hnum x h1 h2)] | rw [Bt.get_put, if_neg (hnum x h1 h2)]); exact k3⟩
         · refine hd.nxt.congr (fun c => Option.ext (fun x => ?_))
           have hap : Apart (Ex G U) := hs.gap.ex
           have hap' : Apart (Ex G' U) := Apart.ex hgap'
           have hgE : g ∈ Ex G U := mem_Ex.2 ⟨hgG, hgU⟩
           have hno : ∀ y ∈ Ex G' U, y.b ≠ g.b := fun y hy => by
            obtain ⟨h1, h2⟩ := mem_Ex.1 hy
            obtain ⟨h3, h4⟩ := (mG y).1 h1
            exact hnum y h3 h4
           by_cases e : c = g.b
           · (first | rw [e, plus_mem hap hgE, plus_old hno, Bt.get_put, if_pos rfl] | rw [e, plus_mem hap hgE, plus_old hno, Bt.get_put, if_pos rfl])
           · (first | rw [plus_iff hap, plus_iff hap', Bt.get_put, if_neg e] | rw [plus_iff hap, plus_iff hap', Bt.get_put, if_neg e])
             have h1 : ∀ y : GB, y.b = c → (y ∈ Ex G' U ↔ y ∈ Ex G U) := fun y hy => by
              rw [mem_Ex, mem_Ex, mG]
              constructor
              · rintro ⟨⟨k1, _⟩, k2⟩; exact ⟨k1, k2⟩
              · rintro ⟨k1, k2⟩
                exact ⟨⟨k1, fun h => e (by rw [← hy, hsame y k1 h])⟩, k2⟩
             constructor
             · rintro (⟨y, k1, k2, k3⟩ | ⟨k1, k2⟩)
               · exact .inl ⟨y, (h1 y k2).1 k1, k2, k3⟩
               · exact .inr ⟨k1, fun y hy hc => k2 y ((h1 y hc).2 hy) hc⟩
             · rintro (⟨y, k1, k2, k3⟩ | ⟨k1, k2⟩)
               · exact .inl ⟨y, (h1 y k2).2 k1, k2, k3⟩
               · exact .inr ⟨k1, fun y hy hc => k2 y ((h1 y hc).1 hy) hc⟩
         · rcases hd.slots d v hv with ⟨f, r, k1, k2, k3⟩ | k1
           · exact .inl ⟨f, r, (mF _).2 ⟨k1, fun h => hgU (by rw [← h]; exact k2)⟩, k2, k3⟩
           · exact .inr k1
         · obtain ⟨f, r, k1, k2⟩ := hd.sub u hu
           exact ⟨f, r, (mF _).2 ⟨k1, fun h => hgU (by rw [← h, k2]; exact hu)⟩, k2⟩
       · cases hb
   | none =>
     refine close (fun hr => by rw [hR0 hr] at hR; cases hR) (fun fuel' hfu' k hk hkU => ?_)
     obtain ⟨o, ho, hpl, hm⟩ := hother k hk hkU
     rw [hR, List.mem_singleton] at hm
     subst hm
     have hkn : k < ops.size := (Array.getElem?_eq_some_iff.1 ho).1
     have hkl : k < listed.size := by rw [hd.lsize]; exact hkn
     have hk0 : listed.getD k true = false := (mem_ready.1 hk).1
     have hiD : (⟨k, preOf o, insOf P ts N ops o⟩ : DIns) ∈ drawOf P ts N ops := mem_drawOf.2 ⟨o, ho, rfl, rfl⟩
     have hcnt := count_set hkl hk0
     have hdown : ∀ i ∈ drawOf P ts N ops, (listed.setIfInBounds k true).getD i.ix false = true → ∀ p ∈ i.pre, (listed.setIfInBounds k true).getD p false = true := fun i hi h p hp => by
      by_cases hik : i.ix = k
      · have : i = ⟨k, preOf o, insOf P ts N ops o⟩ := drawOf_uniq hi hiD hik
        rw [this] at hp
        exact getD_set_true (hpl p hp)
      · rw [getD_set_ne false (Ne.symm hik)] at h
        exact getD_set_true (hd.down i hi h p hp)
     have hsz : (listed.setIfInBounds k true).size = ops.size := by rw [Array.size_setIfInBounds]; exact hd.lsize
     have hlk : (listed.setIfInBounds k true).getD k true = true := by simp [hkl]
     have hslot : ∀ (ρ1 : Rho) (w1 : World) (cv : Value) (d : Nat), ρ.le ρ1 → (∀ v, (∃ cu, a.tmps[d]? = some cu ∧ AV.rel ρ v cu) → o.dst ≠ some d → ∃ cu, (a.put o.dst cv).tmps[d]? = some cu ∧ v.rel ρ1 cu) := fun ρ1 w1 cv d hle v hv hne => by
      obtain ⟨cu, h1, h2⟩ := hv
      refine ⟨cu, ?_, AV.rel_mono hle _ _ h2⟩
      cases hdst : o.dst with
      | none => exact h1
      | some d' =>
        have hnd : d' ≠ d := fun h => hne (by rw [hdst, h])
        show (a.tmps.setIfInBounds d' cv)[d]? = _
        rw [Array.getElem?_setIfInBounds_ne hnd]; exact h1
     have hnew : ∀ (cv : Value) (d : Nat), o.dst = some d → d < N → (a.put o.dst cv).tmps[d]? = some cv := fun cv d hdst hlt => by
      rw [hdst]
      show (a.tmps.setIfInBounds d cv)[d]? = _
      rw [Array.getElem?_setIfInBounds_self_of_lt (by rw [hd.size]; exact hlt)]
     have hpsize : ∀ cv, (a.put o.dst cv).tmps.size = N := fun cv => by
      cases hdst : o.dst with
      | none => exact hd.size
      | some d' => show (a.tmps.setIfInBounds d' cv).size = N; rw [Array.size_setIfInBounds]; exact hd.size
     have hpdef : ∀ cv, (a.put o.dst cv).defers = [] := fun cv => by
      cases hdst : o.dst with
      | none => exact hd.defers
      | some d' => exact hd.defers
     have e : drawA call (drawOf P ts N ops) (n + 1) L F G T t nx = (match F.filter (fun f => Bool.not (nIn f.1.ix (closeD (drawOf P ts N ops) 3 (preOf o)))) with
       | F' => (match F'.all (fun f => Bool.and (Bool.not (dEq f.1.ins.dst (insOf P ts N ops o).dst)) (Bool.and (Bool.not (dIn (insOf P ts N ops o).dst f.1.ins.rd)) (Bool.not (dIn f.1.ins.dst (insOf P ts N ops o).rd)))) with
         | false => .bad [993]
         | true => (match (match wantA (insOf P ts N ops o).grd T with
            | some true => (insOf P ts N ops o).what.run call T t nx
            | some false => .ok .undef t nx
            | none => .no [998]) with
           | .no l => .bad ((match (insOf P ts N ops o).dst with | some d => d | none => 999) :: l)
           | .ok v t' nx' => (match sameF F' G (putD T (insOf P ts N ops o).dst v) t' nx' with
             | true => drawA call (drawOf P ts N ops) n (k :: L) F' G (putD T (insOf P ts N ops o).dst v) t' nx'
             | false => .bad [992])))) := by
      simp only [drawA, hF, hR]
      rw [show findIn (closeD (drawOf P ts N ops) 3 (preOf o)) G = none from hI]
      rfl
     rw [e] at hb hq
     have hIn := findIn_none hI
     simp only at hIn
     generalize hF' : F.filter (fun f => Bool.not (nIn f.1.ix (closeD (drawOf P ts N ops) 3 (preOf o)))) = F' at hb hq
     have hsubF : ∀ x, x ∈ F' → x ∈ F := fun x hx => by rw [← hF'] at hx; exact (List.mem_filter.1 hx).1
     have hUF : ∀ x, x ∈ F → x.1.ix ∈ U → x ∈ F' := fun x hx hu => by
      rw [← hF']
      refine List.mem_filter.2 ⟨hx, ?_⟩
      rw [Bool.not_eq_true', nIn_false]
      intro hc
      exact (hget _ (closeD_listed hd.down 3 (preOf o) hpl _ hc)).2.2 hu
     have hGF : ∀ x ∈ F, ∀ g ∈ G, x.1.ix = g.ix → x ∈ F' := fun x hx g hg hxg => by
      rw [← hF']
      refine List.mem_filter.2 ⟨hx, ?_⟩
      rw [Bool.not_eq_true', nIn_false, hxg]
      exact hIn g hg
     simp only at hb hq
     split at hb
     · cases hb
     · rename_i hchk
       rw [hchk] at hq
       simp only at hq
       split at hb
       · cases hb
       · rename_i v t' nx' hrun
         rw [hrun] at hq
         simp only at hq
         split at hb
         · rename_i hvals
           rw [hvals] at hq
           simp only at hq
           have hc : ∀ x, x ∈ F' → (∀ d, x.1.ins.dst = some d → (insOf P ts N ops o).dst ≠ some d) ∧ (∀ d, (insOf P ts N ops o).dst = some d → d ∉ x.1.ins.rd) ∧ (∀ d, x.1.ins.dst = some d → d ∉ (insOf P ts N ops o).rd) := fun x hx => by
            have := List.all_eq_true.1 hchk x hx
            simp only [Bool.and_eq_true, Bool.not_eq_true'] at this
            exact ⟨fun d hdd => dEq_false this.1 d hdd, fun d hdd => dIn_false this.2.1 d hdd, fun d hdd => dIn_false this.2.2 d hdd⟩
           have hgood : (insOf P ts N ops o).dst = o.dst ∧ ∀ d, o.dst = some d → d < N := by
            rcases insOf_good (P := P) (ts := ts) (N := N) (ops := ops) (o := o) with ⟨g, hg, hi, hdd⟩ | hi
            · exact ⟨by rw [hi], hdd⟩
            · rw [hi] at hrun; cases hrun
           have hcg : ∀ d ∈ (insOf P ts N ops o).rd, T.get d = (cut T ((F.filter (fun f => nIn f.1.ix U)).map (fun f => f.1.ins.dst))).get d := fun d hdr => by
            rw [cut_get, if_neg (fun hm => ?_)]
            obtain ⟨⟨g, s⟩, h1, h2⟩ := List.mem_map.1 hm
            obtain ⟨h3, h4⟩ := List.mem_filter.1 h1
            exact (hc _ (hUF _ h3 (nIn_iff.1 h4))).2.2 d h2 hdr
           have htr : TRel ρ N (cut T ((F.filter (fun f => nIn f.1.ix U)).map (fun f => f.1.ins.dst))) a := hd.trel
           generalize cut T ((F.filter (fun f => nIn f.1.ix U)).map (fun f => f.1.ins.dst)) = T0 at hcg htr
           have hrun' : (match wantA (insOf P ts N ops o).grd T0 with
             | some true => (insOf P ts N ops o).what.run call T0 t nx
             | some false => .ok .undef t nx
             | none => .no [998]) = .ok v t' nx' := by
            rw [← want_congr (g := (insOf P ts N ops o).grd) (fun d hdd => hcg d (List.mem_append_left _ hdd)), ← what_congr (call := call) (x := (insOf P ts N ops o).what) (t := t) (nx := nx) (fun d hdd => hcg d (List.mem_append_right _ hdd))]
            exact hrun
           refine wpOp_heavy hcall ho hh htr hrun' (fun ρ1 w1 cv hn hr => ?_)
           have hn1 := hd.nxt.trans (Nxt.beside hd.nxt.heap hn hs.gap.ex hfresh hs.wr)
           refine IH hb ⟨⟨fun f r hf => hs.mem f r (hsubF _ hf), fun f r hf => ?_, fun f r hf d hdd => ?_, fun f g r s hf hg => hs.raw f g r s (hsubF _ hf) (hsubF _ hg), fun f g r s hf hg => hs.out f g r s (hsubF _ hf) (hsubF _ hg)⟩,
             fun f r hf hg => sameF_get hvals hf hg, fun g hg => ?_, fun g hg => ?_, hs.gap, hs.gix⟩ U.length U fuel' _ ρ1 _ w1 Q (Nat.le_refl _)
            ⟨hn1, fun x hx hxU => ?_, hpsize cv, hpdef cv, fun d u hu => ?_, fun u hu => ?_, hsz, fun j hj => ?_, hdown⟩ (by omega) hq
           · have := hs.inL f r (hsubF _ hf)
             exact ⟨List.mem_cons_of_mem _ this.1, fun p hp => List.mem_cons_of_mem _ (this.2 p hp)⟩
           · rw [putD_get, if_neg ((hc _ hf).1 d hdd)]
             exact hs.slot f r (hsubF _ hf) d hdd
           · obtain ⟨f, r, k1, k2, k3⟩ := hs.gal g hg
             have hfF' := hGF (f, r) k1 g hg k2
             refine ⟨f, r, hfF', k2, ?_⟩
             rw [← k3]
             exact allocE_congr (fun d hdr => by rw [putD_get, if_neg (fun e => (hc _ hfF').2.1 d e hdr)])
           · obtain ⟨k1, k2, k3⟩ := hs.gnx g hg
             refine ⟨k1, Nat.lt_of_lt_of_le k2 hn.nxle, ?_⟩
             cases hx : t'.get g.b with
             | none => rfl
             | some x =>
               rcases hn.dom _ _ hx with ⟨y, hy⟩ | hy
               · rw [k3] at hy; cases hy
               · omega
           · have h1 := hd.pend x hx hxU
             cases hx1 : ρ1 x.b with
             | none => rfl
             | some p =>
               rcases hn.pl _ _ hx1 with h2 | ⟨h2, _⟩
               · rw [h1] at h2; cases h2
               · have := (hs.gnx x hx).2.1; omega
           · rw [putD_get, hgood.1] at hu
             split at hu
             · rename_i hdst
               cases hu
               exact .inr ⟨cv, hnew cv d hdst (hgood.2 d hdst), hr⟩
             · rename_i hdst
               rcases hd.slots d u hu with ⟨g, s, h1, h2, h3⟩ | h1
               · exact .inl ⟨g, s, hUF _ h1 h2, h2, h3⟩
               · exact .inr (hslot ρ1 w1 cv d hn.le u h1 hdst)
           · obtain ⟨f, r, h1, h2⟩ := hd.sub u hu
             exact ⟨f, r, hUF _ h1 (by rw [h2]; exact hu), h2⟩
           · by_cases hjk : j = k
             · subst hjk
               rw [hlk]
               simp only [true_iff]
               exact ⟨by simp, hkU⟩
             · rw [getD_set_ne true (Ne.symm hjk), hd.list j hj]
               have : j ∈ k :: L ↔ j ∈ L := by simp [hjk]
               rw [this]
         · cases hb
 | x :: y :: rs =>
   cases hG : findG F T nx (x :: y :: rs) with
   | none =>
     have e : drawA call (drawOf P ts N ops) (n + 1) L F G T t nx = .bad [991] := by
      simp only [drawA, hF, hR, hG]
     rw [e] at hb; cases hb
   | some ivk =>
     obtain ⟨i, v, k⟩ := ivk
     obtain ⟨f1, f3, f4⟩ := findG_some hG
     rw [← hR] at f1
     obtain ⟨f1, f2⟩ := List.mem_filter.1 f1
     obtain ⟨r1, r2⟩ := ready_iff.1 f2
     obtain ⟨o1, o2⟩ := float_iff f3
     have e : drawA call (drawOf P ts N ops) (n + 1) L F G T t nx = (match sameF F G (putD T i.ins.dst v) t (Nat.succ nx) with
       | true => drawA call (drawOf P ts N ops) n (i.ix :: L) ((i, v) :: F) (⟨i.ix, nx, k⟩ :: G) (putD T i.ins.dst v) t (Nat.succ nx)
       | false => .bad [992]) := by
      simp only [drawA, hF, hR, hG]
      rfl
     rw [e] at hb hq
     split at hb
     · rename_i hsm
       rw [hsm] at hq
       simp only at hq
       have hgL : ∀ g ∈ G, g.ix ≠ i.ix := fun g hg he => by
        obtain ⟨f, r, k1, k2, k3⟩ := hs.gal g hg
        exact r1 (by rw [← he, ← k2]; exact (hs.inL f r k1).1)
       refine IH hb ⟨hs.toDF.add f1 r2 f3, fun f r hf hg => ?_, fun g hg => ?_, fun g hg => ?_, ?_, ?_⟩ (U.length + 1) (i.ix :: U) fuel listed ρ a w Q (Nat.le_refl _) ⟨?_, fun g hg hgU => ?_, hd.size, hd.defers, fun d u hu => ?_, fun u hu => ?_, hd.lsize, fun j hj => ?_, hd.down⟩ hfu hq
       · rcases List.mem_cons.1 hf with h | h
         · cases h
           exact absurd rfl (isG_false.1 hg ⟨i.ix, nx, k⟩ (by simp))
         · exact sameF_get hsm h (isG_false.2 (fun g hgG => isG_false.1 hg g (List.mem_cons_of_mem _ hgG)))
       · rcases List.mem_cons.1 hg with h | h
         · cases h
           refine ⟨i, v, by simp, rfl, ?_⟩
           rw [← f4]
           exact allocE_congr (fun d hdr => by rw [putD_get, if_neg (fun e => o1 d e hdr)])
         · obtain ⟨f, r, k1, k2, k3⟩ := hs.gal g h
           refine ⟨f, r, List.mem_cons_of_mem _ k1, k2, ?_⟩
           rw [← k3]
           exact allocE_congr (fun d hdr => by rw [putD_get, if_neg (fun e => (o2 f r k1).2.1 d e hdr)])
       · rcases List.mem_cons.1 hg with h | h
         · cases h
           refine ⟨hd.nxt.nxle, Nat.lt_succ_self _, ?_⟩
           cases hx : t.get nx with
           | none => rfl
           | some x =>
             obtain ⟨p, hp, _⟩ := hh.blk _ _ hx
             rw [hh.new nx (Nat.le_refl _)] at hp; cases hp
         · obtain ⟨k1, k2, k3⟩ := hs.gnx g h
           exact ⟨k1, Nat.lt_succ_of_lt k2, k3⟩
       · refine List.pairwise_cons.2 ⟨fun g hg => ?_, hs.gap⟩
         have := (hs.gnx g hg).2.1
         show nx ≠ g.b
         omega
       · exact List.pairwise_cons.2 ⟨fun g hg => (hgL g hg).symm, hs.gix⟩
       · have hEx : Ex (⟨i.ix, nx, k⟩ :: G) (i.ix :: U) = Ex G U := by
          unfold Ex
          rw [List.filter_cons_of_neg (by simp [nIn_iff])]
          refine List.filter_congr (fun g hg => ?_)
          have := hgL g hg
          rw [Bool.eq_iff_iff, Bool.not_eq_true', Bool.not_eq_true', nIn_false, nIn_false]
          simp [this]
         rw [hEx]
         exact ⟨hd.nxt.le, ⟨hd.nxt.heap.blk, hd.nxt.heap.inj, fun b hb => hd.nxt.heap.new b (by omega)⟩, hd.nxt.fr, hd.nxt.own, hd.nxt.pl, hd.nxt.dom, Nat.le_succ_of_le hd.nxt.nxle⟩
       · rcases List.mem_cons.1 hg with h | h
         · cases h
           exact hh.new nx (Nat.le_refl _)
         · rcases List.mem_cons.1 hgU with h2 | h2
           · exact absurd h2 (hgL g h)
           · exact hd.pend g h h2
       · rw [putD_get] at hu
         split at hu
         · rename_i hdd; exact .inl ⟨i, v, by simp, by simp, hdd⟩
         · rcases hd.slots d u hu with ⟨f, r, h1, h2, h3⟩ | h1
           · exact .inl ⟨f, r, List.mem_cons_of_mem _ h1, List.mem_cons_of_mem _ h2, h3⟩
           · exact .inr h1
       · rcases List.mem_cons.1 hu with rfl | hu
         · exact ⟨i, v, by simp, rfl⟩
         · obtain ⟨f, r, h1, h2⟩ := hd.sub u hu; exact ⟨f, r, List.mem_cons_of_mem _ h1, h2⟩
       · rw [hd.list j hj]
         simp only [List.mem_cons, not_or]
         constructor
         · rintro ⟨h1, h2⟩; exact ⟨.inr h1, fun e => r1 (e ▸ h1), h2⟩
         · rintro ⟨h1 | h1, h2, h3⟩
           · exact absurd h1 h2
           · exact ⟨h1, h3⟩
     · cases hb
theorem draw_sound (hcall : CallOK P call) (hpre : ∀ i ∈ drawOf P ts N ops, ∀ p ∈ i.pre, p < i.ix) : ∀ (n : Nat) (L : List Nat) (F : List (DIns × AV)) (G : List GB) (T : TA) (t : TB) (nx : Nat), (drawA call (drawOf P ts N ops) n L F G T t nx).isBad = false → DS P ts N ops n0 L F G T t nx →
  ∀ (m : Nat) (U : List Nat) (fuel : Nat) (listed : Array Bool) (ρ : Rho) (a : Act) (w : World) (Q : Exit → Act → World → Prop), U.length ≤ m → DD P ts N ops ρ0 t0 n0 w0 L F G T t nx U listed ρ a w → listed.toList.count false ≤ fuel →
   (∀ e a' w', Post N (drawA call (drawOf P ts N ops) n L F G T t nx) ρ0 t0 n0 w0 e a' w' → Q e a' w') → wpAny P .any ops Q fuel listed a w
 | 0, L, F, G, T, t, nx, hb, _ => by cases hb
 | n + 1, L, F, G, T, t, nx, hb, hs => by
   cases hF : findF L F T t nx (drawOf P ts N ops) with
   | some iv =>
     obtain ⟨i, v⟩ := iv
     obtain ⟨f1, f2, f3, f4⟩ := findF_some hF
     obtain ⟨r1, r2⟩ := ready_iff.1 f2
     obtain ⟨o1, o2⟩ := float_iff f3
     have e : drawA call (drawOf P ts N ops) (n + 1) L F G T t nx = drawA call (drawOf P ts N ops) n (i.ix :: L) ((i, v) :: F) G (putD T i.ins.dst v) t nx := by
      simp only [drawA, hF]
     rw [e] at hb
     have hgL : ∀ g ∈ G, g.ix ≠ i.ix := fun g hg he => by
      obtain ⟨f, r, k1, k2, k3⟩ := hs.gal g hg
      exact r1 (by rw [← he, ← k2]; exact (hs.inL f r k1).1)
     have hs' : DS P ts N ops n0 (i.ix :: L) ((i, v) :: F) G (putD T i.ins.dst v) t nx := by
      refine ⟨hs.toDF.add f1 r2 f3, fun f r hf hg => ?_, fun g hg => ?_, hs.gnx, hs.gap, hs.gix⟩
      · have key : ∀ (f : DIns), (∀ d, i.ins.dst = some d → d ∉ f.ins.rd) → evalL f.ins (putD T i.ins.dst v) t nx = evalL f.ins T t nx := fun f hno => evalL_congr (fun d hd => by
         rw [putD_get, if_neg (fun e => hno d e hd)])
        rcases List.mem_cons.1 hf with h | h
        · cases h; rw [key _ o1]; exact f4
        · rw [key f (o2 f r h).2.1]; exact hs.val f r h hg
      · obtain ⟨f, r, k1, k2, k3⟩ := hs.gal g hg
        refine ⟨f, r, List.mem_cons_of_mem _ k1, k2, ?_⟩
        rw [← k3]
        exact allocE_congr (fun d hdr => by rw [putD_get, if_neg (fun e => (o2 f r k1).2.1 d e hdr)])
     intro m U fuel listed ρ a w Q hm hd hfu hq
     rw [e] at hq
     refine draw_sound hcall hpre n _ _ _ _ t nx hb hs' (U.length + 1) (i.ix :: U) fuel listed ρ a w Q (Nat.le_refl _) ?_ hfu hq
     have hEx : Ex G (i.ix :: U) = Ex G U := by
      unfold Ex
      refine List.filter_congr (fun g hg => ?_)
      have := hgL g hg
      rw [Bool.eq_iff_iff, Bool.not_eq_true', Bool.not_eq_true', nIn_false, nIn_false]
      simp [this]
     refine ⟨by rw [hEx]; exact hd.nxt, fun g hg hgU => ?_, hd.size, hd.defers, fun d u hu => ?_, fun u hu => ?_, hd.lsize, fun j hj => ?_, hd.down⟩
     · rcases List.mem_cons.1 hgU with h2 | h2
       · exact absurd h2 (hgL g hg)
       · exact hd.pend g hg h2
     · rw [putD_get] at hu
       split at hu
       · rename_i hdd; exact .inl ⟨i, v, by simp, by simp, hdd⟩
       · rcases hd.slots d u hu with ⟨f, r, h1, h2, h3⟩ | h1
         · exact .inl ⟨f, r, List.mem_cons_of_mem _ h1, List.mem_cons_of_mem _ h2, h3⟩
         · exact .inr h1
     · rcases List.mem_cons.1 hu with rfl | hu
       · exact ⟨i, v, by simp, rfl⟩
       · obtain ⟨f, r, h1, h2⟩ := hd.sub u hu; exact ⟨f, r, List.mem_cons_of_mem _ h1, h2⟩
     · rw [hd.list j hj]
       simp only [List.mem_cons, not_or]
       constructor
       · rintro ⟨h1, h2⟩; exact ⟨.inr h1, fun e => r1 (e ▸ h1), h2⟩
       · rintro ⟨h1 | h1, h2, h3⟩
         · exact absurd h1 h2
         · exact ⟨h1, h3⟩
   | none =>
     -- what is ready and is no looking
     intro m
     induction m with
     | zero =>
       intro U fuel listed ρ a w Q hm hd hfu hq
       have hU : U = [] := List.eq_nil_of_length_eq_zero (by omega)
       exact draw_step hcall hpre n L F G T t nx hb hs hF (fun hb' hs' => draw_sound hcall hpre n _ _ _ _ _ _ hb' hs') U fuel listed ρ a w Q hd hfu hq (fun u hu => by rw [hU] at hu; cases hu)
     | succ m ih =>
       intro U fuel listed ρ a w Q hm hd hfu hq
       refine draw_step hcall hpre n L F G T t nx hb hs hF (fun hb' hs' => draw_sound hcall hpre n _ _ _ _ _ _ hb' hs') U fuel listed ρ a w Q hd hfu hq (fun u hu fuel' listed' ρ' a' w' hd' hfu' => ih (U.filter (fun x => !(x == u))) fuel' listed' ρ' a' w' Q ?_ hd' hfu' hq)
       have : (U.filter (fun x => !(x == u))).length < U.length := List.length_filter_lt_length_iff_exists.2 ⟨u, hu, by simp⟩
       omega
end
end
end Go.Proofs.YtpjohgnhmjceiaaGreatDoor.AX
set_option linter.unusedVariables false
set_option linter.unusedSectionVars false
set_option linter.unusedSimpArgs false
namespace Go.Proofs.YtpjohgnhmjceiaaGreatDoor.AX
variable [Env]
variable {P : Program}
def CodeOK' (P : Program) (N : Nat) (c : Code) (f : TA → TB → Nat → R) : Prop :=
 ∀ (T : TA) (t : TB) (nx : Nat), (f T t nx).isBad = false → ∀ (ρ : Rho) (a : Act) (w : World) (Q : Exit → Act → World → Prop), HRel ρ t nx w → TRel ρ N T a →
  (∀ e a' w', Post N (f T t nx) ρ t nx w e a' w' → Q e a' w') → c.wp P Q a w
theorem regA_cons (call : FuncId → List AV → TB → Nat → V1) (i : Ins) (l : List Ins) (T : TA) (t : TB) (nx : Nat) : regA call (i :: l) T t nx = (match wantA i.grd T with
 | some true => (match i.what.run call T t nx with
   | .ok v t nx => regA call l (putD T i.dst v) t nx
   | .no l => .bad ((match i.dst with | some d => d | none => 999) :: l))
 | some false => regA call l (putD T i.dst .undef) t nx
 | none => .bad [998]) := rfl
theorem reg_sound {call : FuncId → List AV → TB → Nat → V1} (hcall : CallOK P call) {ts : List TypeId} {N : Nat} (ops : Array Oper) : ∀ (l : List Oper) (T : TA) (t : TB) (nx : Nat), (regA call (l.map (insOf P ts N ops)) T t nx).isBad = false →
  ∀ (ρ : Rho) (a : Act) (w : World) (Q : Exit → Act → World → Prop), HRel ρ t nx w → TRel ρ N T a → (∀ e a' w', Post N (regA call (l.map (insOf P ts N ops)) T t nx) ρ t nx w e a' w' → Q e a' w') → wpList P ops Q l a w
 | [], T, t, nx, hb, ρ, a, w, Q, hh, ht, hq => hq _ _ _ ⟨rfl, ρ, Nxt.refl hh, ht⟩
 | o :: l, T, t, nx, hb, ρ, a, w, Q, hh, ht, hq => by
   rw [List.map_cons, regA_cons] at hb hq
   rcases insOf_good (P := P) (ts := ts) (N := N) (ops := ops) (o := o) with ⟨g, hg, hi, hd⟩ | hi
   · rw [hi] at hb hq
     simp only at hb hq
     cases hw : wantA g T with
     | none => rw [hw] at hb; cases hb
     | some b =>
       rw [hw] at hb hq
       have hwant := wanted_eq ht hg hw
       unfold wpList
       cases b with
       | true =>
         simp only at hb hq
         rw [if_pos hwant]
         cases hrun : (whatOf P ts o).run call T t nx with
         | no l => rw [hrun] at hb; cases hb
         | ok v t1 n1 =>
           rw [hrun] at hb hq
           simp only at hb hq
           refine .inl (what_sound hcall hh ht hrun (fun ρ1 w1 cv hn hv => ?_))
           exact reg_sound hcall ops l _ t1 n1 hb ρ1 _ w1 Q hn.heap ((ht.mono hn.le).put hd hv) (fun e a' w' hp => hq e a' w' (Post.trans hn hp))
       | false =>
         simp only at hb hq
         rw [if_neg (by rw [hwant]; decide)]
         exact reg_sound hcall ops l _ t nx hb ρ _ w Q hh (ht.put hd (undef_rel ρ)) hq
   · rw [hi] at hb
     have : (What.op .bad).run call T t nx = .no [] := rfl
     simp only [wantA, this] at hb
     cases hb
theorem Post_mono_seq {N : Nat} {r : R} {ρ : Rho} {t : TB} {nx : Nat} {w : World} {Q : Exit → Act → World → Prop} (hr : ∀ T t nx, r ≠ .ok T t nx) (hq : ∀ e a' w', Post N r ρ t nx w e a' w' → Q e a' w') (K : Act → World → Prop) (e : Exit) (a' : Act) (w' : World) (hp : Post N r ρ t nx w e a' w') : Exit.then K Q e a' w' := by
 have := hq e a' w' hp
 cases e <;> first | exact this | skip
 cases r with
 | bad l => exact hp.elim
 | ok T t nx => exact absurd rfl (hr T t nx)
 | ret T t nx => exact absurd hp.1 (by intro h; cases h)
 | exit id T t nx => exact absurd hp.1 (by intro h; cases h)
section
variable {tab : Nat → Option AFn} {ts : List TypeId} {N : Nat}
theorem code_sound {run : IC → TA → TB → Nat → R} (hcall : CallOK P (callA tab run))
  (hloop : ∀ (c : Code) (n : Nat) (T : TA) (t : TB) (nx : Nat), True → True) (k : Nat)
  (hl : ∀ (c : Code), CodeOK' P N c (codeA tab run (icOf P ts N c)) → ∀ (T : TA) (t : TB) (nx : Nat), (run (.loop (icOf P ts N c)) T t nx).isBad = false → ∀ (ρ : Rho) (a : Act) (w : World) (Q : Exit → Act → World → Prop), HRel ρ t nx w → TRel ρ N T a →
    (∀ e a' w', Post N (run (.loop (icOf P ts N c)) T t nx) ρ t nx w e a' w' → Q e a' w') → Code.rounds P c Q k a w) :
  ∀ (c : Code), CodeOK' P N c (codeA tab run (icOf P ts N c)) := by
 intro c
 induction c with
 | skip => intro T t nx hb ρ a w Q hh ht hq; exact wp_skip (hq _ _ _ ⟨rfl, ρ, Nxt.refl hh, ht⟩)
 | label l => intro T t nx hb ρ a w Q hh ht hq; exact wp_label (hq _ _ _ ⟨rfl, ρ, Nxt.refl hh, ht⟩)
 | region id ops draw =>
   intro T t nx hb ρ a w Q hh ht hq
   cases draw with
   | true =>
     by_cases hcnd : (P.follows .mixedOrders && (drawOf P ts N ops).all (fun i => i.pre.all (fun p => Nat.ble (Nat.succ p) i.ix))) = true
     · have ei : icOf P ts N (.region id ops true) = .draw (drawOf P ts N ops) := if_pos hcnd
       rw [ei] at hb hq
       rw [Bool.and_eq_true] at hcnd
       obtain ⟨hm, hpre⟩ := hcnd
       have hpre' : ∀ i ∈ drawOf P ts N ops, ∀ p ∈ i.pre, p < i.ix := fun i hi p hp => ble_succ (List.all_eq_true.1 (List.all_eq_true.1 hpre i hi) p hp)
       have hrep : ∀ (j : Nat), (Array.replicate ops.size false).getD j false = true → False := fun j h => by
        rcases Nat.lt_or_ge j ops.size with hj | hj
        · simp [hj] at h
        · simp [Array.getElem?_eq_none (show (Array.replicate ops.size false).size ≤ j by simpa using hj)] at h
       have hdr := nxt_drew hh
       refine wp_region_any hm (draw_sound (ρ0 := ρ) (t0 := t) (n0 := nx) (w0 := w) hcall hpre' 200 [] [] [] T t nx hb ⟨⟨(fun f r h => nomatch h), (fun f r h => nomatch h), (fun f r h => nomatch h), (fun f g r s h => nomatch h), (fun f g r s h => nomatch h)⟩, (fun f r h => nomatch h), (fun g h => nomatch h), (fun g h => nomatch h), List.Pairwise.nil, List.Pairwise.nil⟩ 0 [] ops.size _ ρ a w.drew Q (Nat.le_refl _)
        ⟨hdr, (fun g h => nomatch h), ht.size, ht.defers, fun d v hv => .inr (ht.get d v hv), (fun u hu => nomatch hu), (by simp), fun j hj => ?_, fun i hi h => (hrep _ h).elim⟩ ?_ hq)
       · constructor
         · intro h
           rw [getD_tf (by simpa using hj)] at h
           exact (hrep j h).elim
         · rintro ⟨h, _⟩; cases h
       · simp
     · have ei : icOf P ts N (.region id ops true) = .bad := if_neg hcnd
       rw [ei] at hb
       cases hb
   | false => exact wp_region_list (reg_sound hcall ops ops.toList T t nx hb ρ a w Q hh ht hq)
 | seq x y ihx ihy =>
   intro T t nx hb ρ a w Q hh ht hq
   have e : codeA tab run (icOf P ts N (.seq x y)) T t nx = (match codeA tab run (icOf P ts N x) T t nx with | .ok T t nx => codeA tab run (icOf P ts N y) T t nx | r => r) := rfl
   rw [e] at hb hq
   cases hx : codeA tab run (icOf P ts N x) T t nx with
   | bad l => rw [hx] at hb; cases hb
   | ok T1 t1 n1 =>
     rw [hx] at hb hq
     refine wp_seq (ihx T t nx (by rw [hx]; rfl) ρ a w _ hh ht (fun e a' w' hp => ?_))
     rw [hx] at hp
     obtain ⟨rfl, ρ1, hn, ht1⟩ := hp
     exact ihy T1 t1 n1 hb ρ1 a' w' Q hn.heap ht1 (fun e a'' w'' hp2 => hq e a'' w'' (Post.trans hn hp2))
   | ret T1 t1 n1 =>
     rw [hx] at hq
     refine wp_seq (ihx T t nx (by rw [hx]; rfl) ρ a w _ hh ht (fun e a' w' hp => ?_))
     rw [hx] at hp
     exact Post_mono_seq (by intro _ _ _ h; cases h) hq _ e a' w' hp
   | exit id T1 t1 n1 =>
     rw [hx] at hq
     refine wp_seq (ihx T t nx (by rw [hx]; rfl) ρ a w _ hh ht (fun e a' w' hp => ?_))
     rw [hx] at hp
     exact Post_mono_seq (by intro _ _ _ h; cases h) hq _ e a' w' hp
 | cond x y z ihy ihz =>
   intro T t nx hb ρ a w Q hh ht hq
   have e : codeA tab run (icOf P ts N (.cond x y z)) T t nx = (match (opd x).ev T with
    | some (.bool true) => codeA tab run (icOf P ts N y) T t nx
    | some (.bool false) => codeA tab run (icOf P ts N z) T t nx
    | _ => .bad [997]) := rfl
   rw [e] at hb hq
   split at hb
   · rename_i hx
     rw [hx] at hq
     exact wp_cond (t := true) (rel_bool (opd_rel ht hx)) (ihy T t nx hb ρ a w Q hh ht hq)
   · rename_i hx
     rw [hx] at hq
     exact wp_cond (t := false) (rel_bool (opd_rel ht hx)) (ihz T t nx hb ρ a w Q hh ht hq)
   · cases hb
 | block id c ih =>
   intro T t nx hb ρ a w Q hh ht hq
   have e : codeA tab run (icOf P ts N (.block id c)) T t nx = (match codeA tab run (icOf P ts N c) T t nx with
    | .exit j T t nx => (match Nat.beq j id with | true => .ok T t nx | false => .exit j T t nx)
    | r => r) := rfl
   rw [e] at hb hq
   cases hx : codeA tab run (icOf P ts N c) T t nx with
   | bad l => rw [hx] at hb; cases hb
   | ok T1 t1 n1 =>
     rw [hx] at hq
     refine wp_block (ih T t nx (by rw [hx]; rfl) ρ a w _ hh ht (fun e a' w' hp => ?_))
     rw [hx] at hp
     obtain ⟨rfl, hp⟩ := hp
     exact hq _ _ _ ⟨rfl, hp⟩
   | ret T1 t1 n1 =>
     rw [hx] at hq
     refine wp_block (ih T t nx (by rw [hx]; rfl) ρ a w _ hh ht (fun e a' w' hp => ?_))
     rw [hx] at hp
     obtain ⟨rfl, hp⟩ := hp
     exact hq _ _ _ ⟨rfl, hp⟩
   | exit j T1 t1 n1 =>
     rw [hx] at hq
     refine wp_block (ih T t nx (by rw [hx]; rfl) ρ a w _ hh ht (fun e a' w' hp => ?_))
     rw [hx] at hp
     obtain ⟨rfl, hp⟩ := hp
     show (if j = id then Q .normal a' w' else Q (.exit j) a' w')
     by_cases hj : j = id
     · rw [if_pos hj]
       have hj' : Nat.beq j id = true := by rw [Nat.beq_eq]; exact hj
       simp only [hj'] at hq
       exact hq _ _ _ ⟨rfl, hp⟩
     · rw [if_neg hj]
       have hj' : Nat.beq j id = false := by
        cases hx : Nat.beq j id with
        | false => rfl
        | true => rw [Nat.beq_eq] at hx; exact absurd hx hj
       simp only [hj'] at hq
       exact hq _ _ _ ⟨rfl, hp⟩
 | loop c ih =>
   intro T t nx hb ρ a w Q hh ht hq
   have e : codeA tab run (icOf P ts N (.loop c)) T t nx = (match codeA tab run (icOf P ts N c) T t nx with
    | .ok T t nx => run (.loop (icOf P ts N c)) T t nx
    | r => r) := rfl
   rw [e] at hb hq
   refine wp_loop_rounds (k + 1) ?_
   rw [rounds_succ]
   cases hx : codeA tab run (icOf P ts N c) T t nx with
   | bad l => rw [hx] at hb; cases hb
   | ok T1 t1 n1 =>
     rw [hx] at hb hq
     refine ih T t nx (by rw [hx]; rfl) ρ a w _ hh ht (fun e a' w' hp => ?_)
     rw [hx] at hp
     obtain ⟨rfl, ρ1, hn, ht1⟩ := hp
     exact hl c ih T1 t1 n1 hb ρ1 a' w' Q hn.heap ht1 (fun e a'' w'' hp2 => hq e a'' w'' (Post.trans hn hp2))
   | ret T1 t1 n1 =>
     rw [hx] at hq
     refine ih T t nx (by rw [hx]; rfl) ρ a w _ hh ht (fun e a' w' hp => ?_)
     rw [hx] at hp
     exact Post_mono_seq (by intro _ _ _ h; cases h) hq _ e a' w' hp
   | exit id T1 t1 n1 =>
     rw [hx] at hq
     refine ih T t nx (by rw [hx]; rfl) ρ a w _ hh ht (fun e a' w' hp => ?_)
     rw [hx] at hp
     exact Post_mono_seq (by intro _ _ _ h; cases h) hq _ e a' w' hp
 | exit id => intro T t nx hb ρ a w Q hh ht hq; exact wp_exit (hq _ _ _ ⟨rfl, ρ, Nxt.refl hh, ht⟩)
 | ret => intro T t nx hb ρ a w Q hh ht hq; exact wp_ret (hq _ _ _ ⟨rfl, ρ, Nxt.refl hh, ht⟩)
 | rangeFunc f ps x y ihx ihy => intro T t nx hb; cases hb
 | scope c ih => intro T t nx hb; cases hb
 | goto l => intro T t nx hb; cases hb
 | refuse s => intro T t nx hb; cases hb
end
def resV (a : Act) (r : ResultVar) : Sem Value := match r with
 | .tmp t => pure (a.tmps.getD t undef)
 | .cell b t => do loadVar t (← asAddr (a.tmps.getD b undef))
theorem results_resV (fn : Func) (a : Act) : results fn a.tmps = (fn.results.mapM (resV a)) >>= fun vs => pure (if h : vs.size = 1 then vs[0] else .tuple vs) := by
 unfold results
 have e : (fun r => match r with
  | ResultVar.tmp t => (pure (a.tmps.getD t undef) : Sem Value)
  | ResultVar.cell b t => do loadVar t (← asAddr (a.tmps.getD b undef))) = resV a := by
  funext r; cases r <;> rfl
 rw [← e]
 rfl
theorem results_eq {ρ : Rho} {N : Nat} {T : TA} {t : TB} {nx : Nat} {a : Act} {w : World} (hh : HRel ρ t nx w) (ht : TRel ρ N T a) : ∀ (rs : List ResultVar) (l : List Res) (vs : List AV), rs.mapM (resCOf P) = some l → resAll T t l = some vs →
  ∃ us : List Value, rels ρ vs us ∧ (rs.mapM (resV a)).run P w = .ok us w
 | [], l, vs, hl, hv => by
   simp at hl; subst hl
   have e : some [] = some vs := hv
   cases e
   exact ⟨[], by simp [rels], by simp⟩
 | r :: rs, l, vs, hl, hv => by
   rw [List.mapM_cons] at hl
   simp only [bind, Option.bind_eq_some_iff, pure, Option.some.injEq] at hl
   obtain ⟨q, hq, l', hl', rfl⟩ := hl
   have hv' : (match resOf T t q with
    | some v => (match resAll T t l' with | some vs => some (v :: vs) | none => none)
    | none => none) = some vs := hv
   split at hv'
   · rename_i v h1
     split at hv'
     · rename_i vs' h2
       cases hv'
       obtain ⟨us, u1, u2⟩ := results_eq hh ht rs l' vs' hl' h2
       have key : ∃ u, v.rel ρ u ∧ (resV a r).run P w = .ok u w := by
        unfold resCOf at hq
        split at hq
        · cases hq
          obtain ⟨cv, k1, k2⟩ := ht.get _ _ h1
          exact ⟨cv, k2, by simp [resV, k1]⟩
        · rename_i b ty
          split at hq
          · rename_i ag i hag hi
            cases hq
            simp only [resOf] at h1
            split at h1
            · rename_i bb o hx
              obtain ⟨cv, k1, k2⟩ := ht.get _ _ hx
              obtain ⟨p, hp, rfl⟩ := rel_ptr k2
              split at h1
              · rename_i c n wr hb
                cases ag with
                | true =>
                  simp only at h1
                  split at h1
                  · rename_i m hm
                    cases h1
                    obtain ⟨ws, m1, m2, m3⟩ := run_loadMany (P := P) hh hb hm hp
                    exact ⟨.agg ws.toArray, rel_agg m1, by simp [resV, k1, asAddr, loadVar, run_isAgg hag, run_size hi, m3]⟩
                  · cases h1
                | false =>
                  simp only at h1
                  obtain ⟨p2, hp2, hk⟩ := get_cells hh hb
                  rw [hp] at hp2; cases hp2
                  obtain ⟨cu, m1, m2⟩ := hk _ _ h1
                  exact ⟨cu, m2, by simp [resV, k1, asAddr, loadVar, run_isAgg hag, run_load, m1]⟩
              · cases h1
            · cases h1
          · cases hq
       obtain ⟨u, v1, v2⟩ := key
       refine ⟨u :: us, rels_cons.2 ⟨_, _, rfl, v1, u1⟩, ?_⟩
       rw [List.mapM_cons, Sem.run_bind]
       rw [v2]
       simp only [Result.andThen_ok, Sem.run_bind, u2]
       rfl
     · cases hv'
   · cases hv'
theorem answer_sound {fn : Func} {ρ : Rho} {N : Nat} {T : TA} {t t' : TB} {nx nx' : Nat} {a : Act} {w : World} {l : List Res} {v : AV} (hh : HRel ρ t nx w) (ht : TRel ρ N T a) (hl : fn.results.toList.mapM (resCOf P) = some l) (h : answer T t nx l = .ok v t' nx') :
  t' = t ∧ nx' = nx ∧ ∃ cv, (results fn a.tmps).run P w = .ok cv w ∧ v.rel ρ cv := by
 unfold answer at h
 cases hv : resAll T t l with
 | none => rw [hv] at h; cases h
 | some vs =>
   rw [hv] at h
   obtain ⟨us, u1, u2⟩ := results_eq hh ht _ l vs hl hv
   have hlen := rels_length u1
   have hrun : (results fn a.tmps).run P w = .ok (if hx : us.toArray.size = 1 then us.toArray[0] else .tuple us.toArray) w := by
    rw [results_resV, Sem.run_bind, Array.mapM_eq_mapM_toList]
    have : (List.toArray <$> fn.results.toList.mapM (resV a)).run P w = .ok us.toArray w := by
     rw [show (List.toArray <$> fn.results.toList.mapM (resV a)) = (fn.results.toList.mapM (resV a) >>= fun l => pure l.toArray) from (bind_pure_comp _ _).symm]
     rw [Sem.run_bind, u2]; rfl
    rw [this]
    rfl
   match vs, h, u1, hlen with
   | [v1], h, u1, hlen =>
     cases h
     refine ⟨rfl, rfl, ?_⟩
     obtain ⟨u, us', rfl, r1, r2⟩ := rels_cons.1 u1
     rw [rels_nil.1 r2] at hrun
     exact ⟨u, by simpa using hrun, r1⟩
   | [], h, u1, hlen =>
     cases h
     refine ⟨rfl, rfl, .tuple us.toArray, ?_, rel_tup u1⟩
     rw [hrun, dif_neg (by rw [List.size_toArray, hlen]; decide)]
   | v1 :: v2 :: vs', h, u1, hlen =>
     cases h
     refine ⟨rfl, rfl, .tuple us.toArray, ?_, rel_tup u1⟩
     rw [hrun, dif_neg (by rw [List.size_toArray, hlen]; simp)]
end Go.Proofs.YtpjohgnhmjceiaaGreatDoor.AX
set_option linter.unusedVariables false
set_option linter.unusedSectionVars false
set_option linter.unusedSimpArgs false
namespace Go.Proofs.YtpjohgnhmjceiaaGreatDoor.AX
variable [Env]
variable {P : Program} {tab : Nat → Option AFn} {ts : List TypeId}
theorem HRel.below {ρ : Rho} {t : TB} {nx : Nat} {w w' : World} (h : HRel ρ t nx w) (hb : RowKit.Below w.heap.size w w') : Nxt ρ t nx w ρ t nx w' :=
 ⟨Rho.le_refl _, ⟨fun b k hk => let ⟨p, hp, hl, r⟩ := h.blk b k hk; ⟨p, hp, Nat.lt_of_lt_of_le hl hb.size, Blk.rel_keep (Rho.le_refl _) r (hb.block _ hl)⟩, h.inj, h.new⟩,
   ⟨hb.os, hb.tape, hb.output, hb.size, fun k hk _ => hb.block k hk⟩, fun _ h => .inl h, fun _ _ h => .inl h, fun _ x h => .inl ⟨x, h⟩, Nat.le_refl _⟩
theorem slots_rel {ρ : Rho} {N : Nat} {args : List AV} {vs : List Value} (hr : rels ρ args vs) (hN : args.length ≤ N) : TRel ρ N (slots args) { tmps := vs.toArray ++ Array.replicate (N - vs.toArray.size) undef, defers := [] } := by
 have hl := rels_length hr
 refine ⟨by simp; omega, rfl, fun i v hv => ?_⟩
 unfold slots at hv
 rw [puts_get] at hv
 split at hv
 · obtain ⟨cv, h1, h2⟩ := rels_get hr i v (by simpa using hv)
   refine ⟨cv, ?_, h2⟩
   show (vs.toArray ++ Array.replicate (N - vs.toArray.size) undef)[i]? = _
   rw [Array.getElem?_append_left (by simpa using (List.getElem?_eq_some_iff.1 h1).1)]
   simpa using h1
 · simp [Bt.get_e] at hv
theorem call_ok (htab : TabOK P ts tab) {run : IC → TA → TB → Nat → R} (hA : ∀ (N : Nat) (c : Code), CodeOK' P N c (run (icOf P ts N c))) : CallOK P (callA tab run) := by
 intro f args t nx v t' nx' h ρ vs w hh hr
 unfold callA at h
 split at h
 · rename_i np nt body res htf
   have hfn := htab f _ htf
   simp only at hfn
   unfold fnOf at hfn
   split at hfn
   · cases hfn
   · rename_i fn hf
     split at hfn
     · cases hfn
     · rename_i c hb
       split at hfn
       · cases hfn
       · rename_i hcond
         simp only [not_or, Nat.not_lt] at hcond
         split at hfn
         · cases hfn
         · rename_i rs hrs
           cases hfn
           refine ⟨⟨fn, hf, by rw [hb]; rfl, hcond.1⟩, ?_⟩
           split at h
           · rename_i hlen
             rw [Nat.beq_eq, lLen_eq] at hlen
             have ht := slots_rel (N := fn.ntmps) hr (by omega)
             have fin : ∀ (T1 : TA) (t1 : TB) (n1 : Nat), answer T1 t1 n1 res = .ok v t' nx' → ∀ (e : Exit) (a' : Act) (w' : World), (e = .normal ∨ e = .ret) → (∃ ρ', Nxt ρ t nx w ρ' t1 n1 w' ∧ TRel ρ' fn.ntmps T1 a') → bodyPost P fn (CallPost v ρ t nx w t' nx') e a' w' := by
              intro T1 t1 n1 ha e a' w' he hp
              obtain ⟨ρ', hn, ht'⟩ := hp
              obtain ⟨rfl, rfl, cv, r1, r2⟩ := answer_sound (P := P) (fn := fn) hn.heap ht' hrs ha
              have : a'.defers = [] ∧ ∃ v0, (results fn a'.tmps).run P w' = .ok v0 w' ∧ CallPost v ρ t nx w t' nx' (.returned v0) w' := ⟨ht'.defers, cv, r1, ρ', cv, rfl, r2, hn⟩
              rcases he with rfl | rfl <;> exact this
             split at h
             · rename_i T1 t1 n1 hrun
               refine calls_of_wp hf hb (hA fn.ntmps c (slots args) t nx (by rw [hrun]; rfl) ρ _ w _ hh ht (fun e a' w' hp => ?_))
               rw [hrun] at hp
               exact fin T1 t1 n1 h e a' w' (.inl hp.1) hp.2
             · rename_i T1 t1 n1 hrun
               refine calls_of_wp hf hb (hA fn.ntmps c (slots args) t nx (by rw [hrun]; rfl) ρ _ w _ hh ht (fun e a' w' hp => ?_))
               rw [hrun] at hp
               exact fin T1 t1 n1 h e a' w' (.inr hp.1) hp.2
             · cases h
             · cases h
           · cases h
 · rename_i g htf
   obtain ⟨hg, hfn⟩ := htab f _ htf
   split at h
   · rename_i u hu
     cases h
     exact ⟨hfn, (hg args t nx _ hu ρ vs w hh hr).mono (fun e w' ⟨cv, h1, h2, h3⟩ => ⟨ρ, cv, h1, h2, hh.below h3⟩)⟩
   · cases h
 · cases h
theorem run_ok (htab : TabOK P ts tab) : ∀ (n : Nat), (∀ (N : Nat) (c : Code), CodeOK' P N c (runA tab n (icOf P ts N c))) ∧
  (∀ (N : Nat) (c : Code) (T : TA) (t : TB) (nx : Nat), (runA tab n (.loop (icOf P ts N c)) T t nx).isBad = false → ∀ (ρ : Rho) (a : Act) (w : World) (Q : Exit → Act → World → Prop), HRel ρ t nx w → TRel ρ N T a →
    (∀ e a' w', Post N (runA tab n (.loop (icOf P ts N c)) T t nx) ρ t nx w e a' w' → Q e a' w') → Code.rounds P c Q n a w)
 | 0 => ⟨(fun N c T t nx h => by cases h), (fun N c T t nx h => by cases h)⟩
 | n + 1 => by
   obtain ⟨hA, hL⟩ := run_ok htab n
   have hcall := call_ok htab hA
   have hA1 : ∀ (N : Nat) (c : Code), CodeOK' P N c (runA tab (n + 1) (icOf P ts N c)) := fun N c =>
    code_sound hcall (fun _ _ _ _ _ _ => trivial) n (fun c _ => hL N c) c
   refine ⟨hA1, fun N c T t nx hb ρ a w Q hh ht hq => ?_⟩
   have e : runA tab (n + 1) (.loop (icOf P ts N c)) T t nx = (match runA tab (n + 1) (icOf P ts N c) T t nx with
    | .ok T t nx => runA tab n (.loop (icOf P ts N c)) T t nx
    | r => r) := rfl
   rw [e] at hb hq
   rw [rounds_succ]
   cases hx : runA tab (n + 1) (icOf P ts N c) T t nx with
   | bad l => rw [hx] at hb; cases hb
   | ok T1 t1 n1 =>
     rw [hx] at hb hq
     refine hA1 N c T t nx (by rw [hx]; rfl) ρ a w _ hh ht (fun e a' w' hp => ?_)
     rw [hx] at hp
     obtain ⟨rfl, ρ1, hn, ht1⟩ := hp
     exact hL N c T1 t1 n1 hb ρ1 a' w' Q hn.heap ht1 (fun e a'' w'' hp2 => hq e a'' w'' (Post.trans hn hp2))
   | ret T1 t1 n1 =>
     rw [hx] at hq
     refine hA1 N c T t nx (by rw [hx]; rfl) ρ a w _ hh ht (fun e a' w' hp => ?_)
     rw [hx] at hp
     exact Post_mono_seq (by intro _ _ _ h; cases h) hq _ e a' w' hp
   | exit id T1 t1 n1 =>
     rw [hx] at hq
     refine hA1 N c T t nx (by rw [hx]; rfl) ρ a w _ hh ht (fun e a' w' hp => ?_)
     rw [hx] at hp
     exact Post_mono_seq (by intro _ _ _ h; cases h) hq _ e a' w' hp
theorem ax_call (htab : TabOK P ts tab) (n : Nat) : CallOK P (callA tab (runA tab n)) := call_ok htab (run_ok htab n).1
theorem HRel.none (w : World) : HRel (fun _ => none) .e 0 w := ⟨fun b k h => by simp [Bt.get_e] at h, fun b c k l p q h => by simp [Bt.get_e] at h, fun _ _ => rfl⟩
theorem ax_calls (htab : TabOK P ts tab) (n : Nat) {f : FuncId} {args : List AV} {v : AV} {t' : TB} {nx' : Nat} (h : callA tab (runA tab n) f args .e 0 = .ok v t' nx') (vs : List Value) (hv : rels (fun _ => none) args vs) (w : World) :
  Calls P f vs.toArray w fun e w' => ∃ ρ' cv, e = .returned cv ∧ v.rel ρ' cv ∧ RowKit.Below w.heap.size w w' :=
 (ax_call htab n f args .e 0 v t' nx' h _ vs w (HRel.none w) hv).2.mono (fun e w' ⟨ρ', cv, h1, h2, h3⟩ => ⟨ρ', cv, h1, h2,
   ⟨h3.fr.os, h3.fr.tape, h3.fr.output, h3.fr.size, fun k hk => h3.fr.block k hk (fun ⟨b, x, p, hx, _⟩ => by simp [Bt.get_e] at hx)⟩⟩)
end Go.Proofs.YtpjohgnhmjceiaaGreatDoor.AX
set_option linter.unusedVariables false
set_option linter.unusedSectionVars false
set_option linter.unusedSimpArgs false
namespace Go.Proofs.YtpjohgnhmjceiaaGreatDoor.AX
noncomputable section
def noV : V1 := .no []
def onPtr (v : AV) (f : Nat → Nat → V1) : V1 :=
 @AV.rec (fun _ => (Nat → Nat → V1) → V1) (fun _ => PUnit)
  (fun bX f_ => noV)
  (fun kX nX f_ => noV)
  (fun sX f_ => noV)
  (fun f_ => noV)
  (fun bX oX f_ => f_ bX oX)
  (fun f_ => noV)
  (fun bX oX nX cX szX exX f_ => noV)
  (fun f_ => noV)
  (fun bX f_ => noV)
  (fun fX aX cX _ _ f_ => noV)
  (fun f_ => noV)
  (fun tX vX _ f_ => noV)
  (fun f_ => noV)
  (fun csX _ f_ => noV)
  (fun vsX _ f_ => noV)
  (fun bX fX f_ => noV)
  ⟨⟩ (fun _ _ _ _ => ⟨⟩) v f
def onInt (v : AV) (f : IntKind → Int → V1) : V1 :=
 @AV.rec (fun _ => (IntKind → Int → V1) → V1) (fun _ => PUnit)
  (fun bX f_ => noV)
  (fun kX nX f_ => f_ kX nX)
  (fun sX f_ => noV)
  (fun f_ => noV)
  (fun bX oX f_ => noV)
  (fun f_ => noV)
  (fun bX oX nX cX szX exX f_ => noV)
  (fun f_ => noV)
  (fun bX f_ => noV)
  (fun fX aX cX _ _ f_ => noV)
  (fun f_ => noV)
  (fun tX vX _ f_ => noV)
  (fun f_ => noV)
  (fun csX _ f_ => noV)
  (fun vsX _ f_ => noV)
  (fun bX fX f_ => noV)
  ⟨⟩ (fun _ _ _ _ => ⟨⟩) v f
def onSlice (v : AV) (f : Nat → Nat → Nat → Nat → Nat → Bool → V1) : V1 :=
 @AV.rec (fun _ => (Nat → Nat → Nat → Nat → Nat → Bool → V1) → V1) (fun _ => PUnit)
  (fun bX f_ => noV)
  (fun kX nX f_ => noV)
  (fun sX f_ => noV)
  (fun f_ => noV)
  (fun bX oX f_ => noV)
  (fun f_ => noV)
  (fun bX oX nX cX szX exX f_ => f_ bX oX nX cX szX exX)
  (fun f_ => noV)
  (fun bX f_ => noV)
  (fun fX aX cX _ _ f_ => noV)
  (fun f_ => noV)
  (fun tX vX _ f_ => noV)
  (fun f_ => noV)
  (fun csX _ f_ => noV)
  (fun vsX _ f_ => noV)
  (fun bX fX f_ => noV)
  ⟨⟩ (fun _ _ _ _ => ⟨⟩) v f
def onBool (v : AV) (f : Bool → V1) : V1 :=
 @AV.rec (fun _ => (Bool → V1) → V1) (fun _ => PUnit)
  (fun bX f_ => f_ bX)
  (fun kX nX f_ => noV)
  (fun sX f_ => noV)
  (fun f_ => noV)
  (fun bX oX f_ => noV)
  (fun f_ => noV)
  (fun bX oX nX cX szX exX f_ => noV)
  (fun f_ => noV)
  (fun bX f_ => noV)
  (fun fX aX cX _ _ f_ => noV)
  (fun f_ => noV)
  (fun tX vX _ f_ => noV)
  (fun f_ => noV)
  (fun csX _ f_ => noV)
  (fun vsX _ f_ => noV)
  (fun bX fX f_ => noV)
  ⟨⟩ (fun _ _ _ _ => ⟨⟩) v f
def onTup (v : AV) (f : List AV → V1) : V1 :=
 @AV.rec (fun _ => (List AV → V1) → V1) (fun _ => PUnit)
  (fun bX f_ => noV)
  (fun kX nX f_ => noV)
  (fun sX f_ => noV)
  (fun f_ => noV)
  (fun bX oX f_ => noV)
  (fun f_ => noV)
  (fun bX oX nX cX szX exX f_ => noV)
  (fun f_ => noV)
  (fun bX f_ => noV)
  (fun fX aX cX _ _ f_ => noV)
  (fun f_ => noV)
  (fun tX vX _ f_ => noV)
  (fun f_ => noV)
  (fun csX _ f_ => noV)
  (fun vsX _ f_ => f_ vsX)
  (fun bX fX f_ => noV)
  ⟨⟩ (fun _ _ _ _ => ⟨⟩) v f
def onNat (v : AV) (f : Nat → V1) : V1 := onInt v (fun _ n => Int.rec (motive := fun _ => (Nat → V1) → V1) (fun m f => f m) (fun _ _ => noV) n f)
def getO (v : Option AV) (f : AV → V1) : V1 := Option.rec (motive := fun _ => (AV → V1) → V1) (fun _ => noV) (fun v f => f v) v f
def ev1 (x : Opd) (T : TA) (f : AV → V1) : V1 := Opd.rec (motive := fun _ => TA → (AV → V1) → V1) (fun i T f => getO (T.get i) f) (fun v _ f => f v) (fun _ _ => noV) x T f
theorem ev1_eq (x : Opd) (T : TA) (f : AV → V1) : ev1 x T f = match x.ev T with | some v => f v | none => .no [] := by
 cases x with
 | t i => show getO (T.get i) f = _; show _ = (match T.get i with | some v => f v | none => .no []); cases T.get i <;> rfl
 | c v => rfl
 | none_ => rfl
def ev2 (x y : Opd) (T : TA) (f : AV → AV → V1) : V1 := ev1 x T (fun a => ev1 y T (f a))
theorem ev2_eq (x y : Opd) (T : TA) (f : AV → AV → V1) : ev2 x y T f = match x.ev T, y.ev T with | some a, some b => f a b | _, _ => .no [] := by
 unfold ev2
 rw [ev1_eq]
 cases x.ev T with
 | none => rfl
 | some a => dsimp only; rw [ev1_eq]; cases y.ev T <;> rfl
def onCells (k : Option Blk) (f : TA → Nat → Bool → V1) : V1 :=
 Option.rec (motive := fun _ => (TA → Nat → Bool → V1) → V1) (fun _ => noV)
  (fun k f => Blk.rec (motive := fun _ => (TA → Nat → Bool → V1) → V1) (fun c n wr f => f c n wr) (fun _ _ _ => noV) (fun _ _ _ _ _ => noV) k f) k f
def natR (k : IntKind) (s : Nat) (t : TB) (nx : Nat) : V1 := fNat s (fun s => @Bool.rec (fun _ => V1) (fInt (wrapF k (.ofNat s)) (fun n => .ok (.int k n) t nx)) (.ok (.int k (.ofNat s)) t nx) (Nat.ble s (kMax k)))
theorem natR_eq (k : IntKind) (s : Nat) (t : TB) (nx : Nat) : natR k s t nx = retV (some (.int k (wrapF k (.ofNat s)))) t nx := by
 unfold natR retV
 dsimp only
 simp only [fNat_eq, fInt_eq, brec]
 split
 · rename_i h
   unfold wrapF
   dsimp only
   rw [h]
 · rfl
def retB (c : Bool) (t : TB) (nx : Nat) : V1 := @Bool.rec (fun _ => V1) (.ok (.bool false) t nx) (.ok (.bool true) t nx) c
def binG (op : BinOp) (a b : AV) (t : TB) (nx : Nat) : V1 := match a, b with
 | .int k a, .int k' b => (match op with
    | .shl => (match shlF k a b with | some n => fInt n (fun n => .ok (.int k n) t nx) | none => (.no []))
    | .shr => (match shrF k a b with | some n => fInt n (fun n => .ok (.int k n) t nx) | none => (.no []))
    | op => (match Nat.beq (kN k) (kN k') with
      | true => retV (intOp op k a b) t nx
      | false => (.no [])))
 | .str a, .str b => retV (strOp op a b) t nx
 | x, y => retV (opqOp op x y) t nx
def int2 (op : BinOp) (f : IntKind → Nat → Nat → TB → Nat → V1) (k : IntKind) (a : Int) (k' : IntKind) (b : Int) (t : TB) (nx : Nat) : V1 :=
 @Bool.rec (fun _ => V1) noV (Int.rec (motive := fun _ => V1)
  (fun m => Int.rec (motive := fun _ => V1) (fun m' => f k m m' t nx) (fun m' => binG op (.int k (.ofNat m)) (.int k' (.negSucc m')) t nx) b)
  (fun m => binG op (.int k (.negSucc m)) (.int k' b) t nx) a) (Nat.beq (kN k) (kN k'))
theorem int2_eq (op : BinOp) (f : IntKind → Nat → Nat → TB → Nat → V1) (h1 : op ≠ .shl) (h2 : op ≠ .shr) (hf : ∀ k m m' t nx, f k m m' t nx = retV (intOp op k (.ofNat m) (.ofNat m')) t nx) (k : IntKind) (a : Int) (k' : IntKind) (b : Int) (t : TB) (nx : Nat) :
  int2 op f k a k' b t nx = binG op (.int k a) (.int k' b) t nx := by
 have e : ∀ a b, binG op (.int k a) (.int k' b) t nx = match Nat.beq (kN k) (kN k') with | true => retV (intOp op k a b) t nx | false => .no [] := by
  intro a b; cases op <;> first | rfl | exact absurd rfl h1 | exact absurd rfl h2
 unfold int2
 rw [brec]
 by_cases hk : Nat.beq (kN k) (kN k') = true
 · rw [if_pos hk]
   cases a with
   | negSucc m => rfl
   | ofNat m => cases b with
     | negSucc m' => rfl
     | ofNat m' => show f k m m' t nx = _; rw [e, hk, hf]
 · rw [if_neg hk, e]
   cases hb : Nat.beq (kN k) (kN k') with
   | true => exact absurd hb hk
   | false => rfl
def fAdd (k : IntKind) (m m' : Nat) (t : TB) (nx : Nat) : V1 := natR k (Nat.add m m') t nx
def fSub (k : IntKind) (m m' : Nat) (t : TB) (nx : Nat) : V1 := @Bool.rec (fun _ => V1) (retV (intOp .sub k (.ofNat m) (.ofNat m')) t nx) (natR k (Nat.sub m m') t nx) (Nat.ble m' m)
def fMul (k : IntKind) (m m' : Nat) (t : TB) (nx : Nat) : V1 := natR k (Nat.mul m m') t nx
def fEql (k : IntKind) (m m' : Nat) (t : TB) (nx : Nat) : V1 := retB (Nat.beq m m') t nx
def fNeq (k : IntKind) (m m' : Nat) (t : TB) (nx : Nat) : V1 := retB (Bool.not (Nat.beq m m')) t nx
def fLss (k : IntKind) (m m' : Nat) (t : TB) (nx : Nat) : V1 := retB (Nat.ble (Nat.succ m) m') t nx
def fGtr (k : IntKind) (m m' : Nat) (t : TB) (nx : Nat) : V1 := retB (Nat.ble (Nat.succ m') m) t nx
def fLeq (k : IntKind) (m m' : Nat) (t : TB) (nx : Nat) : V1 := retB (Bool.not (Nat.ble (Nat.succ m') m)) t nx
def fGeq (k : IntKind) (m m' : Nat) (t : TB) (nx : Nat) : V1 := retB (Bool.not (Nat.ble (Nat.succ m) m')) t nx
theorem fAdd_eq (k m m' t nx) : fAdd k m m' t nx = retV (intOp .add k (.ofNat m) (.ofNat m')) t nx := natR_eq k _ t nx
theorem fMul_eq (k m m' t nx) : fMul k m m' t nx = retV (intOp .mul k (.ofNat m) (.ofNat m')) t nx := natR_eq k _ t nx
theorem fSub_eq (k m m' t nx) : fSub k m m' t nx = retV (intOp .sub k (.ofNat m) (.ofNat m')) t nx := by
 unfold fSub
 rw [brec]
 split
 · rename_i h
   rw [natR_eq]
   have e : Int.sub (.ofNat m) (.ofNat m') = Int.ofNat (Nat.sub m m') := by
    have h' : m' ≤ m := by simpa using h
    show (m : Int) - (m' : Int) = ((m - m' : Nat) : Int)
    omega
   show _ = retV (some (.int k (wrapF k (Int.sub (.ofNat m) (.ofNat m'))))) t nx
   rw [e]
 · rfl
def opI (op : BinOp) : IntKind → Int → IntKind → Int → TB → Nat → V1 :=
 BinOp.rec (motive := fun _ => IntKind → Int → IntKind → Int → TB → Nat → V1)
  (int2 .add fAdd) (int2 .sub fSub) (int2 .mul fMul)
  (fun k a k' b t nx => binG .quo (.int k a) (.int k' b) t nx)
  (fun k a k' b t nx => binG .rem (.int k a) (.int k' b) t nx)
  (fun k a k' b t nx => binG .and (.int k a) (.int k' b) t nx)
  (fun k a k' b t nx => binG .or (.int k a) (.int k' b) t nx)
  (fun k a k' b t nx => binG .xor (.int k a) (.int k' b) t nx)
  (fun k a k' b t nx => binG .shl (.int k a) (.int k' b) t nx)
  (fun k a k' b t nx => binG .shr (.int k a) (.int k' b) t nx)
  (fun k a k' b t nx => binG .andNot (.int k a) (.int k' b) t nx)
  (int2 .eql fEql) (int2 .neq fNeq) (int2 .lss fLss) (int2 .leq fLeq) (int2 .gtr fGtr) (int2 .geq fGeq) op
theorem opI_eq (op : BinOp) (k : IntKind) (a : Int) (k' : IntKind) (b : Int) (t : TB) (nx : Nat) : opI op k a k' b t nx = binG op (.int k a) (.int k' b) t nx := by
 cases op <;> first
  | exact int2_eq .add fAdd (by decide) (by decide) fAdd_eq k a k' b t nx
  | exact int2_eq .sub fSub (by decide) (by decide) fSub_eq k a k' b t nx
  | exact int2_eq .mul fMul (by decide) (by decide) fMul_eq k a k' b t nx
  | exact int2_eq .eql fEql (by decide) (by decide) (fun _ _ _ _ _ => rfl) k a k' b t nx
  | exact int2_eq .neq fNeq (by decide) (by decide) (fun _ _ _ _ _ => rfl) k a k' b t nx
  | exact int2_eq .lss fLss (by decide) (by decide) (fun _ _ _ _ _ => rfl) k a k' b t nx
  | exact int2_eq .gtr fGtr (by decide) (by decide) (fun _ _ _ _ _ => rfl) k a k' b t nx
  | exact int2_eq .leq fLeq (by decide) (by decide) (fun _ _ _ _ _ => rfl) k a k' b t nx
  | exact int2_eq .geq fGeq (by decide) (by decide) (fun _ _ _ _ _ => rfl) k a k' b t nx
  | rfl
def binV (op : BinOp) (a b : AV) (t : TB) (nx : Nat) : V1 :=
 @AV.rec (fun _ => (BinOp) → (AV) → (TB) → (Nat) → V1) (fun _ => PUnit)
  (fun bX op_ b_ t_ nx_ => binG op_ (AV.bool bX) b_ t_ nx_)
  (fun kX nX op_ b_ t_ nx_ => 
    (@AV.rec (fun _ => (BinOp) → (IntKind) → (Int) → (TB) → (Nat) → V1) (fun _ => PUnit)
  (fun bX op_ k1_ n1_ t_ nx_ => binG op_ (.int k1_ n1_) (AV.bool bX) t_ nx_)
  (fun kX nX op_ k1_ n1_ t_ nx_ => opI op_ k1_ n1_ kX nX t_ nx_)
  (fun sX op_ k1_ n1_ t_ nx_ => binG op_ (.int k1_ n1_) (AV.str sX) t_ nx_)
  (fun op_ k1_ n1_ t_ nx_ => binG op_ (.int k1_ n1_) AV.nil t_ nx_)
  (fun bX oX op_ k1_ n1_ t_ nx_ => binG op_ (.int k1_ n1_) (AV.ptr bX oX) t_ nx_)
  (fun op_ k1_ n1_ t_ nx_ => binG op_ (.int k1_ n1_) AV.nslice t_ nx_)
  (fun bX oX nX cX szX exX op_ k1_ n1_ t_ nx_ => binG op_ (.int k1_ n1_) (AV.slice bX oX nX cX szX exX) t_ nx_)
  (fun op_ k1_ n1_ t_ nx_ => binG op_ (.int k1_ n1_) AV.nmap t_ nx_)
  (fun bX op_ k1_ n1_ t_ nx_ => binG op_ (.int k1_ n1_) (AV.map bX) t_ nx_)
  (fun fX aX cX _ _ op_ k1_ n1_ t_ nx_ => binG op_ (.int k1_ n1_) (AV.func fX aX cX) t_ nx_)
  (fun op_ k1_ n1_ t_ nx_ => binG op_ (.int k1_ n1_) AV.nfunc t_ nx_)
  (fun tX vX _ op_ k1_ n1_ t_ nx_ => binG op_ (.int k1_ n1_) (AV.iface tX vX) t_ nx_)
  (fun op_ k1_ n1_ t_ nx_ => binG op_ (.int k1_ n1_) AV.niface t_ nx_)
  (fun csX _ op_ k1_ n1_ t_ nx_ => binG op_ (.int k1_ n1_) (AV.agg csX) t_ nx_)
  (fun vsX _ op_ k1_ n1_ t_ nx_ => binG op_ (.int k1_ n1_) (AV.tup vsX) t_ nx_)
  (fun bX fX op_ k1_ n1_ t_ nx_ => binG op_ (.int k1_ n1_) (AV.opq bX fX) t_ nx_)
  ⟨⟩ (fun _ _ _ _ => ⟨⟩) b_ op_ kX nX t_ nx_))
  (fun sX op_ b_ t_ nx_ => binG op_ (AV.str sX) b_ t_ nx_)
  (fun op_ b_ t_ nx_ => binG op_ AV.nil b_ t_ nx_)
  (fun bX oX op_ b_ t_ nx_ => binG op_ (AV.ptr bX oX) b_ t_ nx_)
  (fun op_ b_ t_ nx_ => binG op_ AV.nslice b_ t_ nx_)
  (fun bX oX nX cX szX exX op_ b_ t_ nx_ => binG op_ (AV.slice bX oX nX cX szX exX) b_ t_ nx_)
  (fun op_ b_ t_ nx_ => binG op_ AV.nmap b_ t_ nx_)
  (fun bX op_ b_ t_ nx_ => binG op_ (AV.map bX) b_ t_ nx_)
  (fun fX aX cX _ _ op_ b_ t_ nx_ => binG op_ (AV.func fX aX cX) b_ t_ nx_)
  (fun op_ b_ t_ nx_ => binG op_ AV.nfunc b_ t_ nx_)
  (fun tX vX _ op_ b_ t_ nx_ => binG op_ (AV.iface tX vX) b_ t_ nx_)
  (fun op_ b_ t_ nx_ => binG op_ AV.niface b_ t_ nx_)
  (fun csX _ op_ b_ t_ nx_ => binG op_ (AV.agg csX) b_ t_ nx_)
  (fun vsX _ op_ b_ t_ nx_ => binG op_ (AV.tup vsX) b_ t_ nx_)
  (fun bX fX op_ b_ t_ nx_ => binG op_ (AV.opq bX fX) b_ t_ nx_)
  ⟨⟩ (fun _ _ _ _ => ⟨⟩) a op b t nx
theorem binV_eq (op : BinOp) (a b : AV) (t : TB) (nx : Nat) : binV op a b t nx = binG op a b t nx := by
 cases a <;> first
  | rfl
  | (cases b <;> first | rfl | exact opI_eq _ _ _ _ _ _ _)
def isC1 (v : AV) (n : Nat) : Bool :=
 @AV.rec (fun _ => (Nat) → Bool) (fun _ => PUnit)
  (fun bX n_ => Nat.beq 1 n_)
  (fun kX nX n_ => Nat.beq 1 n_)
  (fun sX n_ => Nat.beq 1 n_)
  (fun n_ => Nat.beq 1 n_)
  (fun bX oX n_ => Nat.beq 1 n_)
  (fun n_ => Nat.beq 1 n_)
  (fun bX oX nX cX szX exX n_ => Nat.beq 1 n_)
  (fun n_ => Nat.beq 1 n_)
  (fun bX n_ => Nat.beq 1 n_)
  (fun fX aX cX _ _ n_ => Nat.beq 1 n_)
  (fun n_ => Nat.beq 1 n_)
  (fun tX vX _ n_ => Nat.beq 1 n_)
  (fun n_ => Nat.beq 1 n_)
  (fun csX _ n_ => false)
  (fun vsX _ n_ => false)
  (fun bX fX n_ => Nat.beq 1 n_)
  ⟨⟩ (fun _ _ _ _ => ⟨⟩) v n
def storeG (n b o : Nat) (v : AV) (t : TB) (nx : Nat) : V1 := (match Nat.beq (lLen v.cells) n with
 | true => (match storeAt v.cells b o t with
   | some t' => .ok .undef t' nx
   | none => (.no []))
 | false => (.no []))
def storeV (n b o : Nat) (v : AV) (t : TB) (nx : Nat) : V1 :=
 @Bool.rec (fun _ => V1) (storeG n b o v t nx) (onCells (t.get b) (fun c m wr => @Bool.rec (fun _ => V1) noV (@Bool.rec (fun _ => V1) noV (.ok .undef (t.put (some (.cells (c.put (some v) o) m true)) b) nx) (Nat.ble (Nat.add o 1) m)) wr)) (isC1 v n)
theorem isC1_is {v : AV} {n : Nat} (h : isC1 v n = true) : v.cells = [v] ∧ allCell [v] = true ∧ Nat.beq 1 n = true := by
 cases v <;> first | exact ⟨rfl, rfl, h⟩ | cases h
theorem storeV_eq (n b o : Nat) (v : AV) (t : TB) (nx : Nat) : storeV n b o v t nx = storeG n b o v t nx := by
 unfold storeV
 rw [brec]
 split
 · rename_i h
   obtain ⟨h1, h2, h3⟩ := isC1_is h
   unfold storeG storeAt
   rw [h1, show lLen [v] = 1 from rfl, h3, h2]
   cases t.get b with
   | none => rfl
   | some k => cases k with
     | cells c m wr =>
       cases wr with
       | false => rfl
       | true =>
         show @Bool.rec (fun _ => V1) noV _ (Nat.ble (Nat.add o 1) m) = _
         dsimp only
         cases Nat.ble (Nat.add o 1) m <;> rfl
     | map es clk => rfl
     | iter m s se la => rfl
 · rfl
def run_mov (x : Opd) (T : TA) (t : TB) (nx : Nat) : V1 := ev1 x T (fun v => .ok v t nx)
def run_pick (c : Opd) (a : Opd) (b : Opd) (T : TA) (t : TB) (nx : Nat) : V1 := (match c.ev T with
 | some (.bool true) => retV (a.ev T) t nx
 | some (.bool false) => retV (b.ev T) t nx
 | _ => (.no []))
def run_alloc (zs : List AV) (T : TA) (t : TB) (nx : Nat) : V1 := mk zs t nx (fun b => .ptr b 0)
def run_box (x : Opd) (T : TA) (t : TB) (nx : Nat) : V1 := (match x.ev T with
 | some v => mk v.cells t nx (fun b => .ptr b 0)
 | none => (.no []))
def run_build (zs : List AV) (ps : List (Nat × Nat × Opd)) (T : TA) (t : TB) (nx : Nat) : V1 := (match fillA ps T zs with
 | some cs => .ok (.agg cs) t nx
 | none => (.no []))
def run_bslice (sz : Nat) (n : Nat) (zs : List AV) (ps : List (Nat × Nat × Opd)) (T : TA) (t : TB) (nx : Nat) : V1 := (match fillA ps T (repl zs n) with
 | some cs => mk cs t nx (fun b => .slice b 0 n n sz true)
 | none => (.no []))
def run_load (x : Opd) (T : TA) (t : TB) (nx : Nat) : V1 := ev1 x T (fun v => onPtr v (fun b o => onCells (t.get b) (fun c _ _ => getO (c.get o) (fun v => .ok v t nx))))
def run_loadA (n : Nat) (x : Opd) (T : TA) (t : TB) (nx : Nat) : V1 := (match x.ev T with
 | some (.ptr b o) => (match t.get b with
   | some (.cells c _ _) => (match gets c n o with
     | some l => .ok (.agg l) t nx
     | none => (.no []))
   | _ => (.no []))
 | _ => (.no []))
def run_store (n : Nat) (x : Opd) (v : Opd) (T : TA) (t : TB) (nx : Nat) : V1 := ev2 x v T (fun p u => onPtr p (fun b o => storeV n b o u t nx))
def run_nilck (x : Opd) (T : TA) (t : TB) (nx : Nat) : V1 := (match x.ev T with
 | some .nil => (.no [])
 | some .niface => (.no [])
 | some .nfunc => (.no [])
 | some (.opq _ _) => (.no [])
 | some v => .ok v t nx
 | none => (.no []))
def run_bin (op : BinOp) (x : Opd) (y : Opd) (T : TA) (t : TB) (nx : Nat) : V1 := ev2 x y T (fun a b => binV op a b t nx)
def run_eqv (ng : Bool) (k : EK) (x : Opd) (y : Opd) (T : TA) (t : TB) (nx : Nat) : V1 := (match x.ev T, y.ev T with
 | some a, some b => (match eqA k a b with
   | some true => .ok (.bool (Bool.not ng)) t nx
   | some false => .ok (.bool ng) t nx
   | none => (.no []))
 | _, _ => (.no []))
def run_not (x : Opd) (T : TA) (t : TB) (nx : Nat) : V1 := ev1 x T (fun v => onBool v (fun b => @Bool.rec (fun _ => V1) (.ok (.bool true) t nx) (.ok (.bool false) t nx) b))
def run_neg (x : Opd) (T : TA) (t : TB) (nx : Nat) : V1 := (match x.ev T with
 | some (.int k n) => retV (some (.int k (wrapF k (Int.sub 0 n)))) t nx
 | _ => (.no []))
def run_conv (k : IntKind) (x : Opd) (T : TA) (t : TB) (nx : Nat) : V1 := (match x.ev T with
 | some (.int _ n) => retV (some (.int k (wrapF k n))) t nx
 | _ => (.no []))
def run_s2b (x : Opd) (T : TA) (t : TB) (nx : Nat) : V1 := (match x.ev T with
 | some (.str s) => (match Nat.ble (lLen s) 65536 with
   | true => fNat (lLen s) (fun n => mk (u8s s) t nx (fun b => .slice b 0 n n 1 false))
   | false => (.no []))
 | _ => (.no []))
def run_b2s (x : Opd) (T : TA) (t : TB) (nx : Nat) : V1 := (match x.ev T with
 | some .nslice => .ok (.str []) t nx
 | some (.slice b o n _ _ _) => (match t.get b with
   | some (.cells c _ _) => (match gets c n o with
     | some l => (match bytesOf l with | some s => .ok (.str s) t nx | none => (.no []))
     | none => (.no []))
   | _ => (.no []))
 | _ => (.no []))
def run_iface (ty : TypeId) (x : Opd) (T : TA) (t : TB) (nx : Nat) : V1 := (match x.ev T with
 | some v => .ok (.iface ty v) t nx
 | none => (.no []))
def run_mkfn (f : FuncId) (a : List Opd) (b : List Opd) (T : TA) (t : TB) (nx : Nat) : V1 := (match evs a T, evs b T with
 | some a, some b => .ok (.func f a b) t nx
 | _, _ => (.no []))
def run_mkmap  (T : TA) (t : TB) (nx : Nat) : V1 := fNat nx (fun nx => .ok (.map nx) (t.put (some (.map [] 0)) nx) (Nat.succ nx))
def run_mkslice (sz : Nat) (zs : List AV) (l : Opd) (c : Opd) (T : TA) (t : TB) (nx : Nat) : V1 := (match l.ev T, c.ev T with
 | some (.int _ (.ofNat l)), some (.int _ (.ofNat c)) => (match Nat.ble l c, Nat.ble (Nat.mul c sz) 65536, Nat.beq (lLen zs) sz with
   | true, true, true => fNat l (fun l => fNat c (fun c => mk (repl zs c) t nx (fun b => .slice b 0 l c sz true)))
   | _, _, _ => (.no []))
 | _, _ => (.no []))
def run_sslice (x : Opd) (lo : Option Opd) (hi : Option Opd) (T : TA) (t : TB) (nx : Nat) : V1 := (match x.ev T with
 | some (.str s) => (match bnds T (lLen s) (lLen s) lo hi none with
   | some (l, h, _) => lTake (lDrop s l) (Nat.sub h l) (fun r => .ok (.str r) t nx)
   | none => (.no []))
 | _ => (.no []))
def run_cslice (sz : Nat) (x : Opd) (lo : Option Opd) (hi : Option Opd) (mx : Option Opd) (T : TA) (t : TB) (nx : Nat) : V1 := (match x.ev T with
 | some (.slice b o n c sz' ex) => (match Nat.beq sz sz' with
   | false => (.no [])
   | true => match bnds T n c lo hi mx with
     | some (l, h, m) => fNat (Nat.add o (Nat.mul l sz)) (fun o' => fNat (Nat.sub h l) (fun n' => fNat (Nat.sub m l) (fun c' =>
        .ok (.slice b o' n' c' sz (match mx with | some _ => true | none => ex)) t nx)))
     | none => (.no []))
 | some .nslice => (match bnds T 0 0 lo hi mx with
   | some _ => .ok .nslice t nx
   | none => (.no []))
 | _ => (.no []))
def run_faddr (x : Opd) (off : Nat) (T : TA) (t : TB) (nx : Nat) : V1 := ev1 x T (fun v => onPtr v (fun b o => fNat (Nat.add o off) (fun o => .ok (.ptr b o) t nx)))
def run_fld (x : Opd) (off : Nat) (n : Nat) (ag : Bool) (T : TA) (t : TB) (nx : Nat) : V1 := (match x.ev T with
 | some (.agg cs) => (match ag with
   | true => (match Nat.ble (Nat.add off n) (lLen cs) with | true => lTake (lDrop cs off) n (fun r => .ok (.agg r) t nx) | false => (.no []))
   | false => (match lGet cs off with | some v => .ok v t nx | none => (.no [])))
 | _ => (.no []))
def run_iaddr (sz : Nat) (x : Opd) (i : Opd) (T : TA) (t : TB) (nx : Nat) : V1 := ev2 x i T (fun s v => onSlice s (fun b o n _ sz' _ => @Bool.rec (fun _ => V1) noV (onNat v (fun i => @Bool.rec (fun _ => V1) noV (fNat (Nat.add o (Nat.mul i sz)) (fun o => .ok (.ptr b o) t nx)) (Nat.ble (Nat.succ i) n))) (Nat.beq sz sz')))
def run_aaddr (ln : Nat) (sz : Nat) (x : Opd) (i : Opd) (T : TA) (t : TB) (nx : Nat) : V1 := (match x.ev T, i.ev T with
 | some (.ptr b o), some i => (match idx i with
   | some i => (match Nat.ble (Nat.succ i) ln with
     | true => fNat (Nat.add o (Nat.mul i sz)) (fun o => .ok (.ptr b o) t nx)
     | false => (.no []))
   | none => (.no []))
 | _, _ => (.no []))
def run_sidx (x : Opd) (i : Opd) (T : TA) (t : TB) (nx : Nat) : V1 := (match x.ev T, i.ev T with
 | some (.str s), some i => (match idx i with
   | some i => (match lGet s i with
     | some n => fNat n (fun n => .ok (.int .u8 (.ofNat n)) t nx)
     | none => (.no []))
   | none => (.no []))
 | _, _ => (.no []))
def run_aidx (ln : Nat) (sz : Nat) (ag : Bool) (x : Opd) (i : Opd) (T : TA) (t : TB) (nx : Nat) : V1 := (match x.ev T, i.ev T with
 | some (.agg cs), some i => (match idx i with
   | some i => (match Nat.ble (Nat.succ i) ln with
     | true => (match ag with
       | true => (match Nat.ble (Nat.add (Nat.mul i sz) sz) (lLen cs) with | true => lTake (lDrop cs (Nat.mul i sz)) sz (fun r => .ok (.agg r) t nx) | false => (.no []))
       | false => (match lGet cs (Nat.mul i sz) with | some v => .ok v t nx | none => (.no [])))
     | false => (.no []))
   | none => (.no []))
 | _, _ => (.no []))
def run_look (sk : SK) (z : AV) (x : Opd) (i : Opd) (ok : Bool) (T : TA) (t : TB) (nx : Nat) : V1 := (match x.ev T, i.ev T with
 | some .nmap, some _ => (match ok with | true => .ok (.tup [z, .bool false]) t nx | false => .ok z t nx)
 | some (.map b), some k => (match t.get b with
   | some (.map es _) => (match findK sk k es 0 with
     | some (some (_, v)) => (match ok with | true => .ok (.tup [v, .bool true]) t nx | false => .ok v t nx)
     | some none => (match ok with | true => .ok (.tup [z, .bool false]) t nx | false => .ok z t nx)
     | none => (.no []))
   | _ => (.no []))
 | _, _ => (.no []))
def run_mupd (sk : SK) (x : Opd) (k : Opd) (v : Opd) (T : TA) (t : TB) (nx : Nat) : V1 := (match x.ev T, k.ev T, v.ev T with
 | some (.map b), some k, some v => (match t.get b with
   | some (.map es clk) => (match findK sk k es 0 with
     | some (some (i, _)) => .ok .undef (t.put (some (.map (setVal es i k v) clk)) b) nx
     | some none => .ok .undef (t.put (some (.map (lApp es [(k, v, clk)] (fun r => r)) (Nat.succ clk))) b) nx
     | none => .no [])
   | _ => .no [])
 | _, _, _ => .no [])
def run_range (x : Opd) (T : TA) (t : TB) (nx : Nat) : V1 := (match x.ev T with
 | some .nmap => fNat nx (fun nx => .ok (.ptr nx 0) (t.put (some (.iter none 0 [] 0)) nx) (Nat.succ nx))
 | some (.map b) => (match t.get b with
   | some (.map _ clk) => fNat nx (fun nx => .ok (.ptr nx 0) (t.put (some (.iter (some b) clk [] clk)) nx) (Nat.succ nx))
   | _ => .no [])
 | _ => .no [])
def run_next (x : Opd) (T : TA) (t : TB) (nx : Nat) : V1 := (match x.ev T with
 | some (.ptr b 0) => (match t.get b with
   | some (.iter none _ _ _) => .ok (.tup [.bool false]) t nx
   | some (.iter (some m) since seen last) => (match t.get m with
     | some (.map es clk) => (match seen, es, anyOld es last with
       | _ :: _, _ :: _, false => .no []
       | _, _, _ => (match leftOf es seen with
         | [] => .ok (.tup [.bool false]) t nx
         | [e] => (match Nat.ble (Nat.succ e.2.2) since with
           | true => .ok (.tup [.bool true, e.1, e.2.1]) (t.put (some (.iter (some m) since (lApp seen [e.2.2] (fun r => r)) clk)) b) nx
           | false => .no [])
         | _ => .no []))
     | _ => .no [])
   | _ => .no [])
 | _ => .no [])
def run_entry (x : Opd) (T : TA) (t : TB) (nx : Nat) : V1 := (match x.ev T with
 | some (.ptr b 0) => (match t.get b with
   | some (.iter (some m) _ seen last) => (match t.get m with
     | some (.map es clk) => (match Nat.beq clk last, lGet seen (Nat.pred (lLen seen)) with
       | true, some s => (match findB es s with
         | some (k, v) => .ok (.tup [k, v]) t nx
         | none => .no [])
       | _, _ => .no [])
     | _ => .no [])
   | _ => .no [])
 | _ => .no [])
def run_tassert (ty : TypeId) (z : AV) (x : Opd) (ok : Bool) (T : TA) (t : TB) (nx : Nat) : V1 := (match x.ev T with
 | some (.iface ty' v) => (match Nat.beq ty ty' with
   | true => (match ok with | true => .ok (.tup [v, .bool true]) t nx | false => .ok v t nx)
   | false => (match ok with | true => .ok (.tup [z, .bool false]) t nx | false => (.no [])))
 | some .niface => (match ok with | true => .ok (.tup [z, .bool false]) t nx | false => (.no []))
 | _ => (.no []))
def run_extr (x : Opd) (i : Nat) (T : TA) (t : TB) (nx : Nat) : V1 := ev1 x T (fun v => onTup v (fun vs => getO (lGet vs i) (fun v => .ok v t nx)))
def run_len (k : LK) (x : Opd) (T : TA) (t : TB) (nx : Nat) : V1 := (match k, x.ev T with
 | .str, some (.str s) => retV (some (.int .i64 (.ofNat (lLen s)))) t nx
 | .slc, some .nslice => .ok (.int .i64 (.ofNat 0)) t nx
 | .slc, some (.slice _ _ n _ _ _) => .ok (.int .i64 (.ofNat n)) t nx
 | .mp, some .nmap => .ok (.int .i64 (.ofNat 0)) t nx
 | .mp, some (.map b) => (match t.get b with
   | some (.map es _) => retV (some (.int .i64 (.ofNat (lLen es)))) t nx
   | _ => .no [])
 | _, _ => .no [])
def run_cap (x : Opd) (T : TA) (t : TB) (nx : Nat) : V1 := (match x.ev T with
 | some .nslice => .ok (.int .i64 (.ofNat 0)) t nx
 | some (.slice _ _ _ c _ true) => .ok (.int .i64 (.ofNat c)) t nx
 | _ => (.no []))
def run_app (sz : Nat) (x : Opd) (y : Opd) (T : TA) (t : TB) (nx : Nat) : V1 := (match x.ev T, y.ev T with
 | some x, some y => appendA sz x y t nx
 | _, _ => (.no []))
def run_copy (sz : Nat) (x : Opd) (y : Opd) (T : TA) (t : TB) (nx : Nat) : V1 := (match x.ev T, y.ev T with
 | some .nslice, some y => (match srcLen y with | some _ => .ok (.int .i64 (.ofNat 0)) t nx | none => (.no []))
 | some (.slice b o n _ sz' _), some y => (match Nat.beq sz sz' with
   | false => (.no [])
   | true => match srcLen y with
     | none => (.no [])
     | some k => fNat (Nat.min k n) (fun m => match srcCells y m sz t with
       | none => (.no [])
       | some cs => (match storeAt cs b o t with
         | some t' => .ok (.int .i64 (.ofNat m)) t' nx
         | none => (.no []))))
 | _, _ => (.no []))
def run_clr (sz : Nat) (zs : List AV) (x : Opd) (T : TA) (t : TB) (nx : Nat) : V1 := (match x.ev T with
 | some .nslice => .ok .undef t nx
 | some (.slice b q n c sz' ex) => (match Nat.beq sz' sz with
   | false => (.no [])
   | true => match Nat.beq n 0 with
     | true => .ok .undef t nx
     | false => match Nat.beq (lLen zs) sz with
       | false => (.no [])
       | true => match storeAt (repl zs n) b q t with
         | some t' => .ok .undef t' nx
         | none => (.no []))
 | _ => (.no []))
def run_appz (sz : Nat) (zs : List AV) (x : Opd) (y : Opd) (T : TA) (t : TB) (nx : Nat) : V1 := (match x.ev T, y.ev T with
 | some .nslice, some (.int .i64 (.ofNat l)) => (match Nat.beq l 0 with
   | true => .ok .nslice t nx
   | false => (match Nat.ble (Nat.mul l sz) 65536 with
     | true => fNat l (fun l => mk (repl zs l) t nx (fun b => .slice b 0 l l sz false))
     | false => (.no [])))
 | _, _ => (.no []))
def run_looke (z : AV) (x : Opd) (i : Opd) (ok : Bool) (T : TA) (t : TB) (nx : Nat) : V1 := (match x.ev T, i.ev T with
 | some .nmap, some (.agg [.int _ _, .int _ _]) => (match ok with | true => .ok (.tup [z, .bool false]) t nx | false => .ok z t nx)
 | some (.map b), some (.agg [.int _ _, .int _ _]) => (match t.get b with
   | some (.map [] _) => (match ok with | true => .ok (.tup [z, .bool false]) t nx | false => .ok z t nx)
   | _ => (.no []))
 | _, _ => (.no []))
def run_mm (mx : Bool) (x : Opd) (y : Opd) (T : TA) (t : TB) (nx : Nat) : V1 := (match x.ev T, y.ev T with
 | some (.int k a), some (.int _ b) => (match mx with
   | true => (match iLt a b with | true => .ok (.int k b) t nx | false => .ok (.int k a) t nx)
   | false => (match iLt b a with | true => .ok (.int k b) t nx | false => .ok (.int k a) t nx))
 | _, _ => (.no []))
def run_bad  (T : TA) (t : TB) (nx : Nat) : V1 := (.no [])
def IOp.runF (o : IOp) (T : TA) (t : TB) (nx : Nat) : V1 := IOp.rec (motive := fun _ => TA → TB → Nat → V1) run_mov run_pick run_alloc run_box run_build run_bslice run_load run_loadA run_store run_nilck run_bin run_eqv run_not run_neg run_conv run_s2b run_b2s run_iface run_mkfn run_mkmap run_mkslice run_sslice run_cslice run_faddr run_fld run_iaddr run_aaddr run_sidx run_aidx run_look run_mupd run_range run_next run_entry run_tassert run_extr run_len run_cap run_app run_copy run_clr run_appz run_looke run_mm run_bad o T t nx
theorem retV_ok' (v : AV) (t : TB) (nx : Nat) : retV (some v) t nx = .ok v t nx := by
 cases v <;> first
  | rfl
  | (unfold retV; dsimp only; rw [fInt_eq])
  | (rename_i b; cases b <;> rfl)
theorem IOp.runF_eq (o : IOp) (T : TA) (t : TB) (nx : Nat) : o.runF T t nx = o.run T t nx := by
 cases o with
 | mov x =>
   show ev1 x T _ = _
   rw [ev1_eq]
   show _ = retV (x.ev T) t nx
   cases x.ev T with
   | none => rfl
   | some v => exact (retV_ok' v t nx).symm
 | load x =>
   show ev1 x T _ = _
   rw [ev1_eq]
   simp only [IOp.run]
   cases x.ev T with
   | none => rfl
   | some v =>
     cases v <;> first
      | rfl
      | (rename_i b o
         show onCells (t.get b) _ = _
         dsimp only
         cases t.get b with
         | none => rfl
         | some k => cases k with
           | cells c m wr => show getO (c.get o) _ = _; dsimp only; cases c.get o <;> rfl
           | map es clk => rfl
           | iter m s se la => rfl)
 | store n x y =>
   show ev2 x y T _ = _
   rw [ev2_eq]
   simp only [IOp.run]
   cases x.ev T with
   | none => rfl
   | some v => cases y.ev T with
     | none => cases v <;> rfl
     | some u =>
       cases v <;> first
        | rfl
        | exact storeV_eq _ _ _ _ _ _
 | bin op x y =>
   show ev2 x y T _ = _
   rw [ev2_eq]
   simp only [IOp.run, binV_eq]
   cases x.ev T with
   | none => rfl
   | some v => cases y.ev T with
     | none => cases v <;> rfl
     | some u => cases v <;> cases u <;> rfl
 | not x =>
   show ev1 x T _ = _
   rw [ev1_eq]
   simp only [IOp.run]
   cases x.ev T with
   | none => rfl
   | some v => cases v <;> first | rfl | (rename_i b; cases b <;> rfl)
 | faddr x off =>
   show ev1 x T _ = _
   rw [ev1_eq]
   simp only [IOp.run]
   cases x.ev T with
   | none => rfl
   | some v => cases v <;> rfl
 | iaddr sz x i =>
   show ev2 x i T _ = _
   rw [ev2_eq]
   simp only [IOp.run]
   cases x.ev T with
   | none => rfl
   | some v => cases i.ev T with
     | none => cases v <;> rfl
     | some u =>
       cases v <;> first
        | rfl
        | (rename_i b o n c sz' ex
           show @Bool.rec (fun _ => V1) noV _ (Nat.beq sz sz') = _
           dsimp only
           cases Nat.beq sz sz' with
           | false => rfl
           | true =>
             cases u <;> first
              | rfl
              | (rename_i k m
                 cases m with
                 | negSucc m => rfl
                 | ofNat m =>
                   show @Bool.rec (fun _ => V1) noV _ (Nat.ble (Nat.succ m) n) = _
                   simp only [idx]
                   cases Nat.ble (Nat.succ m) n <;> rfl))
 | extr x i =>
   show ev1 x T _ = _
   rw [ev1_eq]
   simp only [IOp.run]
   cases x.ev T with
   | none => rfl
   | some v =>
     cases v <;> first
      | rfl
      | (rename_i vs
         show getO (lGet vs i) _ = _
         dsimp only
         cases lGet vs i <;> rfl)
 | _ => rfl
def whatF (w : What) (call : FuncId → List AV → TB → Nat → V1) (T : TA) (t : TB) (nx : Nat) : V1 :=
 What.rec (motive := fun _ => (FuncId → List AV → TB → Nat → V1) → TA → TB → Nat → V1)
  (fun o _ T t nx => o.runF T t nx)
  (fun f args call T t nx => (What.callF f args).run call T t nx)
  (fun x args call T t nx => (What.callV x args).run call T t nx)
  (fun tab x args call T t nx => (What.callM tab x args).run call T t nx) w call T t nx
theorem whatF_eq (w : What) (call : FuncId → List AV → TB → Nat → V1) (T : TA) (t : TB) (nx : Nat) : whatF w call T t nx = w.run call T t nx := by
 cases w with
 | op o => exact IOp.runF_eq o T t nx
 | _ => rfl
def goF (r : V1) (d : Option Nat) (T : TA) (ih : TA → TB → Nat → R) : R :=
 V1.rec (motive := fun _ => Option Nat → TA → (TA → TB → Nat → R) → R)
  (fun l d _ _ => .bad ((match d with | some d => d | none => 999) :: l))
  (fun v t nx d T ih => ih (putD T d v) t nx) r d T ih
def insF (i : Ins) (call : FuncId → List AV → TB → Nat → V1) (ih : TA → TB → Nat → R) (T : TA) (t : TB) (nx : Nat) : R :=
 Ins.rec (motive := fun _ => (FuncId → List AV → TB → Nat → V1) → (TA → TB → Nat → R) → TA → TB → Nat → R)
  (fun d g w call ih T t nx => Option.rec (motive := fun _ => Option Nat → What → (FuncId → List AV → TB → Nat → V1) → (TA → TB → Nat → R) → TA → TB → Nat → R)
    (fun d w call ih T t nx => goF (whatF w call T t nx) d T ih)
    (fun g d w call ih T t nx => match wantA (some g) T with
      | some true => goF (whatF w call T t nx) d T ih
      | some false => ih (putD T d .undef) t nx
      | none => .bad [998]) g d w call ih T t nx) i call ih T t nx
def regF (call : FuncId → List AV → TB → Nat → V1) (l : List Ins) : TA → TB → Nat → R :=
 List.rec (motive := fun _ => TA → TB → Nat → R) (fun T t nx => .ok T t nx) (fun i _ ih T t nx => insF i call ih T t nx) l
theorem goF_eq (r : V1) (d : Option Nat) (T : TA) (ih : TA → TB → Nat → R) : goF r d T ih = match r with
 | .ok v t nx => ih (putD T d v) t nx
 | .no l => .bad ((match d with | some d => d | none => 999) :: l) := by cases r <;> rfl
theorem regF_eq (call : FuncId → List AV → TB → Nat → V1) : ∀ (l : List Ins) (T : TA) (t : TB) (nx : Nat), regF call l T t nx = regA call l T t nx
 | [], T, t, nx => rfl
 | ⟨d, g, w⟩ :: l, T, t, nx => by
   have ih := fun T t nx => regF_eq call l T t nx
   cases g with
   | none =>
     show goF (whatF w call T t nx) d T (regF call l) = (match w.run call T t nx with
      | .ok v t nx => regA call l (putD T d v) t nx
      | .no l => .bad ((match d with | some d => d | none => 999) :: l))
     rw [goF_eq, whatF_eq]
     cases w.run call T t nx with
     | no l => rfl
     | ok v t nx => exact ih _ _ _
   | some g =>
     show (match wantA (some g) T with
      | some true => goF (whatF w call T t nx) d T (regF call l)
      | some false => regF call l (putD T d .undef) t nx
      | none => .bad [998]) = (match wantA (some g) T with
      | some true => (match w.run call T t nx with
        | .ok v t nx => regA call l (putD T d v) t nx
        | .no l => .bad ((match d with | some d => d | none => 999) :: l))
      | some false => regA call l (putD T d .undef) t nx
      | none => .bad [998])
     cases wantA (some g) T with
     | none => rfl
     | some b => cases b with
       | false => exact ih _ _ _
       | true =>
         dsimp only
         rw [goF_eq, whatF_eq]
         cases w.run call T t nx with
         | no l => rfl
         | ok v t nx => exact ih _ _ _
def codeF (tab : Nat → Option AFn) (run : IC → TA → TB → Nat → R) (c : IC) : TA → TB → Nat → R :=
 IC.rec (motive := fun _ => TA → TB → Nat → R)
  (fun T t nx => .ok T t nx)
  (fun l => regF (callA tab run) l)
  (fun l => drawA (callA tab run) l 200 [] [] [])
  (fun _ _ iha ihb T t nx => match iha T t nx with | .ok T t nx => ihb T t nx | r => r)
  (fun x _ _ iha ihb T t nx => match x.ev T with
    | some (.bool true) => iha T t nx
    | some (.bool false) => ihb T t nx
    | _ => .bad [997])
  (fun id _ ih T t nx => match ih T t nx with
    | .exit j T t nx => (match Nat.beq j id with | true => .ok T t nx | false => .exit j T t nx)
    | r => r)
  (fun c ih T t nx => match ih T t nx with
    | .ok T t nx => run (.loop c) T t nx
    | r => r)
  (fun id T t nx => .exit id T t nx)
  (fun T t nx => .ret T t nx)
  (fun _ _ _ => .bad [996]) c
def runF (tab : Nat → Option AFn) (n : Nat) : IC → TA → TB → Nat → R :=
 Nat.rec (motive := fun _ => IC → TA → TB → Nat → R) (fun _ _ _ _ => .bad [995]) (fun _ ih c => codeF tab ih c) n
theorem codeF_eq (tab : Nat → Option AFn) (run : IC → TA → TB → Nat → R) : ∀ (c : IC), codeF tab run c = codeA tab run c
 | .skip => rfl
 | .reg l => by funext T t nx; exact regF_eq _ l T t nx
 | .draw l => rfl
 | .seq a b => by
   have e1 := codeF_eq tab run a
   have e2 := codeF_eq tab run b
   funext T t nx
   show (match codeF tab run a T t nx with | R.ok T t nx => codeF tab run b T t nx | r => r) = (match codeA tab run a T t nx with | R.ok T t nx => codeA tab run b T t nx | r => r)
   rw [e1, e2]
 | .cond x a b => by
   have e1 := codeF_eq tab run a
   have e2 := codeF_eq tab run b
   funext T t nx
   show (match x.ev T with
    | some (.bool true) => codeF tab run a T t nx
    | some (.bool false) => codeF tab run b T t nx
    | _ => R.bad [997]) = (match x.ev T with
    | some (.bool true) => codeA tab run a T t nx
    | some (.bool false) => codeA tab run b T t nx
    | _ => R.bad [997])
   rw [e1, e2]
 | .block id c => by
   have e1 := codeF_eq tab run c
   funext T t nx
   show (match codeF tab run c T t nx with
    | R.exit j T t nx => (match Nat.beq j id with | true => R.ok T t nx | false => R.exit j T t nx)
    | r => r) = (match codeA tab run c T t nx with
    | R.exit j T t nx => (match Nat.beq j id with | true => R.ok T t nx | false => R.exit j T t nx)
    | r => r)
   rw [e1]
 | .loop c => by
   have e1 := codeF_eq tab run c
   funext T t nx
   show (match codeF tab run c T t nx with
    | R.ok T t nx => run (.loop c) T t nx
    | r => r) = (match codeA tab run c T t nx with
    | R.ok T t nx => run (.loop c) T t nx
    | r => r)
   rw [e1]
 | .exit id => rfl
 | .ret => rfl
 | .bad => rfl
theorem runF_eq (tab : Nat → Option AFn) : ∀ (n : Nat), runF tab n = runA tab n
 | 0 => rfl
 | n + 1 => by
   funext c
   show codeF tab (runF tab n) c = codeA tab (runA tab n) c
   rw [runF_eq tab n, codeF_eq]
theorem callF_eq (tab : Nat → Option AFn) (n : Nat) : callA tab (runF tab n) = callA tab (runA tab n) := by rw [runF_eq]
end
end Go.Proofs.YtpjohgnhmjceiaaGreatDoor.AX
