/- A verified evaluator of the program's code, part 2 of 4: what it computes of a call is what the call does; rules for what it computes.
   Conditions: none; it speaks of every program. -/
import Derived.Test.YtpjohgnhmjceiaaGreatDoorAx1
import Derived.Laws.StructEq
import Derived.Laws.Small
import Derived.Great.BuildSlice
import Derived.Laws.IdiomStrings
import Derived.Laws.MakeOwn
import Derived.Laws.Tables
import Derived.Deep.Upon
set_option linter.unusedVariables false
set_option linter.unusedSectionVars false
set_option linter.unusedSimpArgs false
namespace Go.Proofs.YtpjohgnhmjceiaaGreatDoor.AX
variable [Env]
variable {P : Program} {a : Act} {w : World} {ρ : Rho} {N : Nat} {T : TA} {t t' : TB} {nx nx' : Nat} {v : AV}
theorem run_cellEq {k : SK} {ty : TypeId} {x y : AV} {u v : Value} {r : Bool} (hk : skOf P ty = some k) (hx : x.rel ρ u) (hy : y.rel ρ v) (h : cellEq k x y = some r) (d : Nat) : (Op.equalIn (d + 1) ty u v).run P w = .ok r w := by
 unfold cellEq at h
 unfold skOf at hk
 split at hk <;> first | (cases hk; done) | skip
 · rename_i hu
   cases hk
   split at h <;> simp_all
   rw [rel_bool hx, rel_bool hy, run_equalIn_bool _ _ _ _ _ hu]
   simp_all
 · rename_i q hu
   cases hk
   split at h <;> simp_all
   rename_i k1 m k2 n
   split at h
   · rename_i hh
     obtain rfl := kN_eq hh
     cases h
     rw [rel_int hx, rel_int hy, run_equalIn_int _ _ _ _ _ _ _ hu, iEq_eq]
     congr 1
   · cases h
 · rename_i hu
   cases hk
   split at h <;> simp_all
   rename_i s1 s2
   obtain ⟨e1, b1⟩ := rel_str hx
   obtain ⟨e2, b2⟩ := rel_str hy
   rw [e1, e2, run_equalIn_string _ _ _ _ _ hu, ByteArray.toList_eq, ByteArray.toList_eq, enc_data, enc_data, ← h, sEq_eq]
   congr 1
   rw [Bool.eq_iff_iff]
   simp only [beq_iff_eq, decide_eq_true_eq]
   exact ⟨fun h => enc_inj b1 b2 h, fun h => by rw [h]⟩
theorem run_aggEq {d : Nat} : ∀ (fs : List Field) (l : List (Nat × SK)) (x y : List AV) (u v : Array Value) (r : Bool), fs.mapM (fun f => if f.name = "_" then none else (skOf P f.type).map (fun k => (f.offset, k))) = some l →
  rels ρ x u.toList → rels ρ y v.toList → aggEq l x y = some r → (Op.eqFields (d + 1) u v fs).run P w = .ok r w
 | [], l, x, y, u, v, r, hl, hx, hy, h => by
   simp at hl; subst hl
   have h' : some true = some r := h
   cases h'; simp [Op.eqFields]
 | f :: fs, l, x, y, u, v, r, hl, hx, hy, h => by
   rw [List.mapM_cons] at hl
   simp only [bind, Option.bind_eq_some_iff, pure, Option.some.injEq] at hl
   obtain ⟨q, hq, l', hl', rfl⟩ := hl
   split at hq
   · cases hq
   · rename_i hn
     simp only [Option.map_eq_some_iff] at hq
     obtain ⟨k, hk, rfl⟩ := hq
     have h' : (match lGet x f.offset, lGet y f.offset with
      | some x', some y' => (match cellEq k x' y' with
        | some true => aggEq l' x y
        | some false => some false
        | none => none)
      | _, _ => none) = some r := h
     split at h'
     · rename_i x' y' hx' hy'
       rw [lGet_eq] at hx' hy'
       obtain ⟨cu, k1, k2⟩ := rels_get hx _ _ hx'
       obtain ⟨cv, k3, k4⟩ := rels_get hy _ _ hy'
       have hag : aggOf P f.type = some false := by
        unfold skOf at hk
        unfold aggOf
        split at hk <;> simp_all
       have p1 := run_part_cell (P := P) (w := w) hag (show u[f.offset]? = some cu by simpa using k1)
       have p2 := run_part_cell (P := P) (w := w) hag (show v[f.offset]? = some cv by simpa using k3)
       split at h'
       · rename_i hc
         have p3 := run_cellEq (P := P) (w := w) hk k2 k4 hc d
         have ih := run_aggEq (d := d) fs l' x y u v r hl' hx hy h'
         simp only [Op.eqFields, hn, ne_eq, not_false_eq_true, if_true, Sem.run_bind, p1, p2, p3, Result.andThen_ok]
         simpa using ih
       · rename_i hc
         cases h'
         have p3 := run_cellEq (P := P) (w := w) hk k2 k4 hc d
         simp only [Op.eqFields, hn, ne_eq, not_false_eq_true, if_true, Sem.run_bind, p1, p2, p3, Result.andThen_ok]
         simp
       · cases h'
     · cases h'
theorem binOp_eql {ty : TypeId} {x y : Value} (h : ∀ (k k' : IntKind) m n, x = .int k m → y = .int k' n → False) (h2 : ∀ m n, x = .string m → y = .string n → False) (h3 : ∀ (k k' : FloatKind) m n, x = .float k m → y = .float k' n → False) (h4 : ∀ (k k' : FloatKind) m n m' n', x = .complex k m m' → y = .complex k' n n' → False) :
  binOp .eql ty x y = (do pure (.bool (← Op.equal ty x y))) ∧ binOp .neq ty x y = (do pure (.bool (!(← Op.equal ty x y)))) := by
 cases x <;> cases y <;> first | exact ⟨rfl, rfl⟩ | exact (h _ _ _ _ rfl rfl).elim | exact (h2 _ _ rfl rfl).elim | exact (h3 _ _ _ _ rfl rfl).elim | exact (h4 _ _ _ _ _ _ rfl rfl).elim
theorem s_eq_of {o : Oper} {op : BinOp} {ty tz : TypeId} {x y : Operand} {r ng : Bool} (ho : o.op = .binOp op ty x y tz) (hop : (op = .eql ∧ ng = false) ∨ (op = .neq ∧ ng = true)) (hh : HRel ρ t nx w)
  (hg : (eqGuard op ty x y (a.eval x) (a.eval y)).run P w = .ok () w) (hb : binOp .eql ty (a.eval x) (a.eval y) = (do pure (.bool (← Op.equal ty (a.eval x) (a.eval y)))) ∧ binOp .neq ty (a.eval x) (a.eval y) = (do pure (.bool (!(← Op.equal ty (a.eval x) (a.eval y))))))
  (he : (Op.equal ty (a.eval x) (a.eval y)).run P w = .ok r w) (hv : v = .bool (r != ng) ∧ t' = t ∧ nx' = nx) : Sound P o a w ρ t nx v t' nx' := by
 obtain ⟨rfl, rfl, rfl⟩ := hv
 refine sound_val hh (cv := .bool (r != ng)) ?_ (by simp [AV.rel])
 rcases hop with ⟨rfl, rfl⟩ | ⟨rfl, rfl⟩
 · simp only [execOp, ho, Sem.run_bind, hg, Result.andThen_ok, hb.1, he]
   simp
 · simp only [execOp, ho, Sem.run_bind, hg, Result.andThen_ok, hb.2, he]
   simp
theorem eqGuard_pure {op : BinOp} {ty : TypeId} {x y : Operand} {u v : Value} (h1 : ¬ (u = .nilIface ∧ v = .nilIface)) (h2 : ∀ m n, u = .agg m → v = .agg n → False) : (eqGuard op ty x y u v).run P w = .ok () w := by
 cases op <;> cases u <;> cases v <;> first | rfl | exact (h1 ⟨rfl, rfl⟩).elim | exact (h2 _ _ rfl rfl).elim
section
variable {d : Nat} {ty e e' : TypeId}
theorem e_p1 (hu : P.underlying ty = some (.pointer e)) (q : Option Addr) : (Op.equalIn (d + 1) ty (.pointer none) (.pointer q)).run P w = .ok q.isNone w := by simp [Op.equalIn, run_underlying hu]
theorem e_p2 (hu : P.underlying ty = some (.pointer e)) (q : Addr) : (Op.equalIn (d + 1) ty (.pointer (some q)) (.pointer none)).run P w = .ok false w := by simp [Op.equalIn, run_underlying hu]
theorem e_p3 (hu : P.underlying ty = some (.pointer e)) {ti : TypeInfo} (hti : P.info? e = some ti) (hsz : ti.size ≠ 0) (b o q : Nat) : (Op.equalIn (d + 1) ty (.pointer (some ⟨b, o, none⟩)) (.pointer (some ⟨b, q, none⟩))).run P w = .ok (Nat.beq o q) w := by
 simp only [Op.equalIn, Sem.run_bind, run_underlying hu, Result.andThen_ok, run_size hti, hsz, ne_eq, not_false_eq_true, if_true, sameAddr, beq_self_eq_true]
 show Result.ok _ _ = _
 congr 1
 rw [Bool.eq_iff_iff]
 simp [Nat.beq_eq]
theorem e_s1 (hu : P.underlying ty = some (.slice e)) (m n : Nat) (q : Option Addr) (m' n' : Nat) : (Op.equalIn (d + 1) ty (.slice none m n) (.slice q m' n')).run P w = .ok q.isNone w := by simp [Op.equalIn, run_underlying hu]
theorem e_s2 (hu : P.underlying ty = some (.slice e)) (m n : Nat) (q : Addr) (m' n' : Nat) : (Op.equalIn (d + 1) ty (.slice (some q) m n) (.slice none m' n')).run P w = .ok false w := by simp [Op.equalIn, run_underlying hu]
theorem e_m1 (hu : P.underlying ty = some (.map e e')) (q : Option Nat) : (Op.equalIn (d + 1) ty (.map none) (.map q)).run P w = .ok q.isNone w := by simp [Op.equalIn, run_underlying hu]
theorem e_m2 (hu : P.underlying ty = some (.map e e')) (q : Nat) : (Op.equalIn (d + 1) ty (.map (some q)) (.map none)).run P w = .ok false w := by simp [Op.equalIn, run_underlying hu]
theorem e_f1 {ps rs : Array TypeId} {vv : Bool} (hu : P.underlying ty = some (.func ps rs vv)) : (Op.equalIn (d + 1) ty .nilFunc .nilFunc).run P w = .ok true w := by simp [Op.equalIn, run_underlying hu]
theorem e_f2 {ps rs : Array TypeId} {vv : Bool} (hu : P.underlying ty = some (.func ps rs vv)) (f : Fn) (x y : Array Value) : (Op.equalIn (d + 1) ty .nilFunc (.func f x y)).run P w = .ok false w := by simp [Op.equalIn, run_underlying hu]
theorem e_f3 {ps rs : Array TypeId} {vv : Bool} (hu : P.underlying ty = some (.func ps rs vv)) (f : Fn) (x y : Array Value) : (Op.equalIn (d + 1) ty (.func f x y) .nilFunc).run P w = .ok false w := by simp [Op.equalIn, run_underlying hu]
theorem e_i1 {ms : Array (String × TypeId)} (hu : P.underlying ty = some (.interface ms)) : (Op.equalIn (d + 1) ty .nilIface .nilIface).run P w = .ok true w := by simp [Op.equalIn, run_underlying hu]
theorem e_i2 {ms : Array (String × TypeId)} (hu : P.underlying ty = some (.interface ms)) (f : TypeId) (x : Value) : (Op.equalIn (d + 1) ty .nilIface (.iface f x)).run P w = .ok false w := by simp [Op.equalIn, run_underlying hu]
theorem e_i3 {ms : Array (String × TypeId)} (hu : P.underlying ty = some (.interface ms)) (f : TypeId) (x : Value) : (Op.equalIn (d + 1) ty (.iface f x) .nilIface).run P w = .ok false w := by simp [Op.equalIn, run_underlying hu]
end
theorem run_prog : Sem.run P (Sem.program Sem.pure) w = .ok P w := rfl
theorem s_eqv {o : Oper} {op : BinOp} {ty tz : TypeId} {x y : Operand} {ng : Bool} {k : EK} (ho : o.op = .binOp op ty x y tz) (hk : eqOf P op ty x y = .eqv ng k (opd x) (opd y)) (hh : HRel ρ t nx w) (ht : TRel ρ N T a) (h : (IOp.eqv ng k (opd x) (opd y)).run T t nx = .ok v t' nx') : Sound P o a w ρ t nx v t' nx' := by
 have hop : (op = .eql ∧ ng = false) ∨ (op = .neq ∧ ng = true) := by
  unfold eqOf at hk
  simp only at hk
  cases op <;> simp only at hk
  case eql =>
   left
   refine ⟨rfl, ?_⟩
   repeat' (split at hk)
   all_goals first | (cases hk; rfl) | (cases hk)
  case neq =>
   right
   refine ⟨rfl, ?_⟩
   repeat' (split at hk)
   all_goals first | (cases hk; rfl) | (cases hk)
  all_goals
   (repeat' (split at hk)) <;> (cases hk)
 have hk' : ∀ k', (match op with | .eql => IOp.eqv false k' (opd x) (opd y) | .neq => .eqv true k' (opd x) (opd y) | _ => .bad) = .eqv ng k (opd x) (opd y) → k' = k := by
  intro k' h
  rcases hop with ⟨rfl, rfl⟩ | ⟨rfl, rfl⟩ <;> (cases h; rfl)
 simp only [IOp.run] at h
 split at h
 · rename_i u z hx hy
   have rx := opd_rel ht hx
   have ry := opd_rel ht hy
   cases hr : eqA k u z with
   | none => rw [hr] at h; cases h
   | some r =>
     rw [hr] at h
     replace h : v = .bool (r != ng) ∧ t' = t ∧ nx' = nx := by cases r <;> cases ng <;> (cases h; exact ⟨rfl, rfl, rfl⟩)
     unfold eqOf at hk
     simp only at hk
     split at hk
     · rename_i hu
       obtain rfl := hk' _ hk
       have hr' : cellEq .bool u z = some r := hr
       have he : (Op.equal ty (a.eval x) (a.eval y)).run P w = .ok r w := run_cellEq (d := 9999) (by unfold skOf; rw [hu]) rx ry hr'
       have hs : ∃ p q, u = .bool p ∧ z = .bool q := by
        unfold cellEq at hr'
        split at hr' <;> first | exact ⟨_, _, rfl, rfl⟩ | simp_all
       obtain ⟨p, q, rfl, rfl⟩ := hs
       have e1 := rel_bool rx
       have e2 := rel_bool ry
       refine s_eq_of ho hop hh (eqGuard_pure (by simp [e1]) (by simp [e1])) (binOp_eql (by simp [e1]) (by simp [e1]) (by simp [e1]) (by simp [e1])) he h
     · rename_i e hu
       split at hk
       · rename_i ti hti
         split at hk
         · rename_i hsz
           obtain rfl := hk' _ hk
           have he : (∃ p q, a.eval x = .pointer p ∧ a.eval y = .pointer q) ∧ (Op.equal ty (a.eval x) (a.eval y)).run P w = .ok r w := by
            simp only [eqA] at hr
            split at hr
            · cases hr
              simp only [AV.rel] at rx ry
              rw [rx, ry]
              exact ⟨⟨_, _, rfl, rfl⟩, e_p1 (d := 9999) hu _⟩
            · cases hr
              simp only [AV.rel] at rx
              obtain ⟨q, _, ey⟩ := rel_ptr ry
              rw [rx, ey]
              exact ⟨⟨_, _, rfl, rfl⟩, e_p1 (d := 9999) hu _⟩
            · cases hr
              simp only [AV.rel] at ry
              obtain ⟨q, _, ex⟩ := rel_ptr rx
              rw [ex, ry]
              exact ⟨⟨_, _, rfl, rfl⟩, e_p2 (d := 9999) hu _⟩
            · rename_i b1 o1 b2 o2
              split at hr
              · rename_i hb
                rw [Nat.beq_eq] at hb
                subst hb
                cases hr
                obtain ⟨p, hp, ex⟩ := rel_ptr rx
                obtain ⟨q, hq, ey⟩ := rel_ptr ry
                rw [hp] at hq; cases hq
                rw [ex, ey]
                refine ⟨⟨_, _, rfl, rfl⟩, ?_⟩
                have e3 := e_p3 (P := P) (w := w) (d := 9999) hu hti hsz p.blk (p.d + o1) (p.d + o2)
                have e4 : Nat.beq (p.d + o1) (p.d + o2) = Nat.beq o1 o2 := by rw [Bool.eq_iff_iff]; simp [Nat.beq_eq]
                rw [e4] at e3
                exact e3
              · cases hr
            · cases hr
           obtain ⟨⟨p, q, ex, ey⟩, he⟩ := he
           refine s_eq_of ho hop hh (eqGuard_pure (by simp [ex]) (by simp [ex])) (binOp_eql (by simp [ex]) (by simp [ex]) (by simp [ex]) (by simp [ex])) he h
         · cases hk
       · cases hk
     · rename_i e hu
       obtain rfl := hk' _ hk
       have he : (∃ p m n, a.eval x = .slice p m n) ∧ (Op.equal ty (a.eval x) (a.eval y)).run P w = .ok r w := by
        simp only [eqA] at hr
        split at hr
        · cases hr
          rw [rel_nslice rx, rel_nslice ry]
          exact ⟨⟨_, _, _, rfl⟩, e_s1 (d := 9999) hu _ _ _ _ _⟩
        · cases hr
          obtain ⟨q, c', off, _, _, _, _, _, ey⟩ := rel_slice ry
          rw [rel_nslice rx, ey]
          exact ⟨⟨_, _, _, rfl⟩, e_s1 (d := 9999) hu _ _ _ _ _⟩
        · cases hr
          obtain ⟨q, c', off, _, _, _, _, _, ex⟩ := rel_slice rx
          rw [rel_nslice ry, ex]
          exact ⟨⟨_, _, _, rfl⟩, e_s2 (d := 9999) hu _ _ _ _ _⟩
        · cases hr
       obtain ⟨⟨p, m, n, ex⟩, he⟩ := he
       refine s_eq_of ho hop hh (eqGuard_pure (by simp [ex]) (by simp [ex])) (binOp_eql (by simp [ex]) (by simp [ex]) (by simp [ex]) (by simp [ex])) he h
     · rename_i e e' hu
       obtain rfl := hk' _ hk
       have he : (∃ p, a.eval x = .map p) ∧ (Op.equal ty (a.eval x) (a.eval y)).run P w = .ok r w := by
        simp only [eqA] at hr
        split at hr
        · cases hr
          rw [rel_nmap rx, rel_nmap ry]
          exact ⟨⟨_, rfl⟩, e_m1 (d := 9999) hu _⟩
        · cases hr
          obtain ⟨q, _, ey⟩ := rel_map ry
          rw [rel_nmap rx, ey]
          exact ⟨⟨_, rfl⟩, e_m1 (d := 9999) hu _⟩
        · cases hr
          obtain ⟨q, _, ex⟩ := rel_map rx
          rw [rel_nmap ry, ex]
          exact ⟨⟨_, rfl⟩, e_m2 (d := 9999) hu _⟩
        · cases hr
       obtain ⟨⟨p, ex⟩, he⟩ := he
       refine s_eq_of ho hop hh (eqGuard_pure (by simp [ex]) (by simp [ex])) (binOp_eql (by simp [ex]) (by simp [ex]) (by simp [ex]) (by simp [ex])) he h
     · rename_i e e' e'' hu
       obtain rfl := hk' _ hk
       have he : ((∃ p q s, a.eval x = .func p q s) ∨ a.eval x = .nilFunc) ∧ (Op.equal ty (a.eval x) (a.eval y)).run P w = .ok r w := by
        simp only [eqA] at hr
        split at hr
        · cases hr
          simp only [AV.rel] at rx ry
          rw [rx, ry]
          exact ⟨.inr rfl, e_f1 (d := 9999) hu⟩
        · cases hr
          simp only [AV.rel] at rx ry
          obtain ⟨_, _, ey, _⟩ := ry
          rw [rx, ey]
          exact ⟨.inr rfl, e_f2 (d := 9999) hu _ _ _⟩
        · cases hr
          simp only [AV.rel] at rx ry
          obtain ⟨_, _, ex, _⟩ := rx
          rw [ry, ex]
          exact ⟨.inl ⟨_, _, _, rfl⟩, e_f3 (d := 9999) hu _ _ _⟩
        · cases hr
       obtain ⟨ex, he⟩ := he
       rcases ex with ⟨p, q, s, ex⟩ | ex <;>
        exact s_eq_of ho hop hh (eqGuard_pure (by simp [ex]) (by simp [ex])) (binOp_eql (by simp [ex]) (by simp [ex]) (by simp [ex]) (by simp [ex])) he h
     · rename_i e hu
       split at hk
       · rename_i hc
         obtain rfl := hk' _ hk
         have hg2 : (eqGuard op ty x y .nilIface .nilIface).run P w = .ok () w := by
          rcases hop with ⟨rfl, rfl⟩ | ⟨rfl, rfl⟩ <;> cases x <;> cases y <;> simp [isConstO] at hc <;> simp [eqGuard]
         simp only [eqA] at hr
         split at hr
         · cases hr
           simp only [AV.rel] at rx ry
           refine s_eq_of ho hop hh (by rw [rx, ry]; exact hg2) (binOp_eql (by simp [rx]) (by simp [rx]) (by simp [rx]) (by simp [rx])) ?_ h
           rw [rx, ry]
           exact e_i1 (d := 9999) hu
         · cases hr
           simp only [AV.rel] at rx ry
           obtain ⟨_, ey, _⟩ := ry
           refine s_eq_of ho hop hh (eqGuard_pure (by simp [ey]) (by simp [ey])) (binOp_eql (by simp [rx]) (by simp [rx]) (by simp [rx]) (by simp [rx])) ?_ h
           rw [rx, ey]
           exact e_i2 (d := 9999) hu _ _
         · cases hr
           simp only [AV.rel] at rx ry
           obtain ⟨_, ex, _⟩ := rx
           refine s_eq_of ho hop hh (eqGuard_pure (by simp [ex]) (by simp [ex])) (binOp_eql (by simp [ex]) (by simp [ex]) (by simp [ex]) (by simp [ex])) ?_ h
           rw [ry, ex]
           exact e_i3 (d := 9999) hu _ _
         · cases hr
       · cases hk
     · rename_i fs hu
       split at hk
       · cases hk
       · rename_i hgs
         simp only [Bool.or_eq_true, not_or, Bool.not_eq_true] at hgs
         split at hk
         · rename_i l hl
           obtain rfl := hk' _ hk
           simp only [eqA] at hr
           split at hr
           · rename_i p q
             simp only [AV.rel] at rx ry
             obtain ⟨xs, ex, rx⟩ := rx
             obtain ⟨ys, ey, ry⟩ := ry
             have hf : (Op.eqFields 9999 xs ys fs.toList).run P w = .ok r w := run_aggEq (d := 9998) fs.toList l _ _ xs ys r hl rx ry hr
             have hft : P.underlying ty = some (.struct (P.fieldsOf ty)) := by rw [hu]; simp [Program.fieldsOf, hu]
             have hfs : P.fieldsOf ty = fs := by simp [Program.fieldsOf, hu]
             have he : (Op.equal ty (.agg xs) (.agg ys)).run P w = .ok r w := by
              have := run_equalIn_agg (P := P) w 9999 ty xs ys hft hgs.2
              rw [hfs] at this
              show (Op.equalIn (9999 + 1) ty (.agg xs) (.agg ys)).run P w = _
              rw [this]; exact hf
             have hg : (eqGuard op ty x y (.agg xs) (.agg ys)).run P w = .ok () w := by
              rcases hop with ⟨rfl, rfl⟩ | ⟨rfl, rfl⟩ <;> simp [eqGuard, program, run_prog, hgs.1]
             refine s_eq_of ho hop hh (by rw [ex, ey]; exact hg) (binOp_eql (by simp [ex]) (by simp [ex]) (by simp [ex]) (by simp [ex])) (by rw [ex, ey]; exact he) h
           · cases hr
         · cases hk
     · cases hk
 · cases h
end Go.Proofs.YtpjohgnhmjceiaaGreatDoor.AX
set_option linter.unusedVariables false
set_option linter.unusedSectionVars false
set_option linter.unusedSimpArgs false
namespace Go.Proofs.YtpjohgnhmjceiaaGreatDoor.AX
variable [Env]
variable {P : Program} {a : Act} {w : World} {ρ : Rho} {N : Nat} {T : TA} {t t' : TB} {nx nx' : Nat} {v : AV}
theorem setAt_eq (l : List AV) : ∀ (i : Nat) (v : AV), setAt l i v = l.set i v := by
 induction l with
 | nil => intro i v; simp [setAt]
 | cons x r ih =>
   intro i v
   show @Bool.rec (fun _ => List AV) (x :: setAt r (Nat.pred i) v) (v :: r) (Nat.beq i 0) = _
   rw [brec]
   cases i with
   | zero => rfl
   | succ i => rw [if_neg (by simp [Nat.beq_eq]), ih]; rfl
theorem setsAt_rel (off : Nat) : ∀ (cs : List AV) (vs : List Value) (k : Nat) (l : List AV) (cells : Array Value), rels ρ cs vs → rels ρ l cells.toList →
  rels ρ (setsAt cs (off + k) l) ((vs.zipIdx k).foldl (fun c p => c.setIfInBounds (off + p.2) p.1) cells).toList
 | [], vs, k, l, cells, h, hl => by rw [rels_nil.1 h]; exact hl
 | x :: cs, vs, k, l, cells, h, hl => by
   obtain ⟨v, vs', rfl, hv, r⟩ := rels_cons.1 h
   show rels ρ (setsAt cs (Nat.succ (off + k)) (setAt l (off + k) x)) _
   rw [List.zipIdx_cons, List.foldl_cons, setAt_eq]
   have := setsAt_rel off cs vs' (k + 1) (l.set (off + k) x) (cells.setIfInBounds (off + k) v) r (by simpa using rels_set hl (off + k) hv)
   rwa [show off + (k + 1) = Nat.succ (off + k) by omega] at this
theorem setAt_len (l : List AV) (i : Nat) (v : AV) : (setAt l i v).length = l.length := by rw [setAt_eq]; simp
theorem fill_rel {place : Nat → Option (Nat × Nat)} (ht : TRel ρ N T a) : ∀ (ps : List (Nat × Operand)) (pl : List (Nat × Nat × Opd)) (l l' : List AV) (cells : Array Value),
  pl.length = ps.length → (∀ (i : Nat) p q, ps[i]? = some p → pl[i]? = some q → place p.1 = some (q.1, q.2.1) ∧ q.2.2 = opd p.2) → rels ρ l cells.toList → fillA pl T l = some l' →
  ∃ cells', Instr.fill place cells (ps.map (fun p => (p.1, a.eval p.2))) = some cells' ∧ rels ρ l' cells'.toList
 | [], pl, l, l', cells, hl, hp, hr, h => by
   have : pl = [] := List.eq_nil_of_length_eq_zero hl
   subst this
   have e : some l = some l' := h
   cases e
   exact ⟨cells, rfl, hr⟩
 | p :: ps, [], l, l', cells, hl, hp, hr, h => by simp at hl
 | p :: ps, q :: pl, l, l', cells, hl, hp, hr, h => by
   obtain ⟨off, size, x⟩ := q
   obtain ⟨h1, h2⟩ := hp 0 p (off, size, x) (by simp) (by simp)
   simp only at h1 h2
   subst h2
   have h' : (match (opd p.2).ev T with
    | some v => (match Nat.beq (lLen v.cells) size with
      | true => (match Nat.ble (Nat.add off size) (lLen l) with | true => fillA pl T (setsAt v.cells off l) | false => none)
      | false => none)
    | none => none) = some l' := h
   split at h'
   · rename_i u hu
     split at h'
     · rename_i hs
       split at h'
       · rename_i hb
         have ru := rel_cells (opd_rel ht hu)
         have hlen := rels_length ru
         have hlen2 := rels_length hr
         rw [Nat.beq_eq, lLen_eq] at hs
         have hb' := Nat.le_of_ble_eq_true hb
         rw [lLen_eq] at hb'
         have hb2 : off + size ≤ l.length := hb'
         simp only [Array.length_toList] at hlen hlen2
         have hr2 := setsAt_rel off u.cells (a.eval p.2).cells.toList 0 l cells ru hr
         obtain ⟨c', e1, e2⟩ := fill_rel ht ps pl (setsAt u.cells off l) l' _ (by simpa using hl) (fun i p' q' k1 k2 => hp (i + 1) p' q' (by simpa using k1) (by simpa using k2)) hr2 h'
         refine ⟨c', ?_, e2⟩
         rw [List.map_cons]
         simp only [Instr.fill, h1]
         rw [if_neg (by simp; omega)]
         rw [← e1]
         congr 1
         rw [← Array.foldl_toList]
         simp
       · cases h'
     · cases h'
   · cases h'
theorem mapM_get {α β : Type} {f : α → Option β} : ∀ {l : List α} {r : List β}, l.mapM f = some r → r.length = l.length ∧ ∀ (i : Nat) x y, l[i]? = some x → r[i]? = some y → f x = some y
 | [], r, h => by simp at h; subst h; simp
 | x :: l, r, h => by
   rw [List.mapM_cons] at h
   simp only [bind, Option.bind_eq_some_iff, pure, Option.some.injEq] at h
   obtain ⟨y, hy, r', hr, rfl⟩ := h
   obtain ⟨h1, h2⟩ := mapM_get hr
   refine ⟨by simp [h1], fun i x' y' hx hy' => ?_⟩
   cases i with
   | zero => simp at hx hy'; subst hx; subst hy'; exact hy
   | succ i => exact h2 i x' y' (by simpa using hx) (by simpa using hy')
theorem s_build {o : Oper} {ty : TypeId} {ps : Array (Nat × Operand)} {i : Inf} {pl : List (Nat × Nat × Opd)} (ho : o.op = .build ty ps) (hi : infOf P ty = some i) (hp : placesOf P ty ps.toList = some pl)
  (hh : HRel ρ t nx w) (ht : TRel ρ N T a) (h : (IOp.build i.zero.cells pl).run T t nx = .ok v t' nx') : Sound P o a w ρ t nx v t' nx' := by
 simp only [IOp.run] at h
 split at h
 · rename_i cs hcs
   cases h
   obtain ⟨ti, z, h1, h2, h3, h4, h5⟩ := infOf_some hi
   have hz : rels ρ i.zero.cells z.cells.toList := rel_cells (ofVal_rel 3 z _ h3)
   have key : ∃ cells', P.built ty (ps.map fun (i, x) => (i, a.eval x)).toList = some cells' ∧ rels ρ cs cells'.toList := by
    have hmap : (ps.map fun (i, x) => (i, a.eval x)).toList = ps.toList.map (fun p => (p.1, a.eval p.2)) := by simp
    rw [hmap]
    unfold placesOf at hp
    unfold Program.built
    rw [h1]
    split at hp
    · rename_i fs hu
      rw [hu]
      split at hp
      · rename_i pls hpls
        simp only [h2, hpls]
        obtain ⟨k1, k2⟩ := mapM_get hp
        refine fill_rel ht ps.toList pl _ _ _ k1 (fun j p q hj hq => ?_) hz hcs
        have := k2 j p q hj hq
        simp only [Option.map_eq_some_iff] at this
        obtain ⟨r, hr, rfl⟩ := this
        exact ⟨by simpa using hr, rfl⟩
      · cases hp
    · rename_i n e hu
      rw [hu]
      split at hp
      · rename_i ie hie
        cases hp
        simp only [h2, hie]
        refine fill_rel ht ps.toList _ _ _ _ (by simp) (fun j p q hj hq => ?_) hz hcs
        simp [hj] at hq
        subst hq
        exact ⟨rfl, rfl⟩
      · cases hp
    · cases hp
   obtain ⟨cells', k1, k2⟩ := key
   refine sound_val hh (cv := .agg cells') ?_ (by simp only [AV.rel]; exact ⟨_, rfl, k2⟩)
   simp only [execOp, ho, Sem.run_bind, run_build w ty _ cells' k1, Result.andThen_ok]
   rfl
 · cases h
theorem repl_eq (zs : List AV) : ∀ n, repl zs n = (List.replicate n zs).flatten
 | 0 => rfl
 | n + 1 => by
   show lApp zs (repl zs n) (fun r => r) = _
   rw [lApp_eq, repl_eq zs n, List.replicate_succ, List.flatten_cons]
theorem repl_get {zs : List AV} {sz : Nat} (hz : zs.length = sz) (hp : 0 < sz) : ∀ (n i : Nat), i < n * sz → (repl zs n)[i]? = zs[i % sz]?
 | 0, i, h => by simp at h
 | n + 1, i, h => by
   have : repl zs (n + 1) = zs ++ repl zs n := by show lApp zs (repl zs n) (fun r => r) = _; rw [lApp_eq]
   rw [this]
   by_cases hi : i < sz
   · rw [List.getElem?_append_left (by omega), Nat.mod_eq_of_lt hi]
   · have h' : i < n * sz + sz := by rw [Nat.succ_mul] at h; exact h
     have e : i % sz = (i - sz) % sz := Nat.mod_eq_sub_mod (by omega)
     rw [List.getElem?_append_right (by omega), hz, repl_get hz hp n (i - sz) (by omega), e]
theorem repl_len {zs : List AV} {sz : Nat} (hz : zs.length = sz) (n : Nat) : (repl zs n).length = n * sz := by
 rw [repl_eq]; simp [hz]
theorem repl_rel {zs : List AV} {z : Array Value} {sz : Nat} (hr : rels ρ zs z.toList) (hz : zs.length = sz) (hp : 0 < sz) (n : Nat) : rels ρ (repl zs n) ((Array.range (n * sz)).map (z[· % z.size]!)).toList := by
 have hzs : z.size = sz := by have := rels_length hr; simp at this; omega
 refine rels_of_get (by simp [repl_len hz]) (fun i x u h1 h2 => ?_)
 have hi : i < n * sz := by rw [← repl_len hz n]; exact (List.getElem?_eq_some_iff.1 h1).1
 rw [repl_get hz hp n i hi] at h1
 obtain ⟨cv, k1, k2⟩ := rels_get hr _ _ h1
 have hm : i % z.size < z.size := by rw [hzs]; exact Nat.mod_lt _ hp
 simp [hi] at h2
 rw [getElem!_pos z _ hm] at h2
 subst h2
 simp [hzs] at k1
 rw [← hzs] at k1
 rw [Array.getElem?_eq_getElem hm] at k1
 cases k1
 exact k2
theorem rel_newSlice {ρ : Rho} {nx : Nat} {p : Pl} {m c c' sz : Nat} {ex : Bool} (hc : c ≤ c') (hm : m ≤ c') (hex : ex = true → c' = c) (he : c' * sz ≤ p.ext) (hd : p.d = 0) : (AV.slice nx 0 m c sz ex).rel (ρ.upd nx p) (.slice (some ⟨p.blk, 0, none⟩) m c') := by
 simp only [AV.rel]
 exact ⟨p, c', 0, by simp [Rho.upd], hc, hm, hex, fun _ => ⟨by omega, by omega⟩, rfl⟩
theorem s_bslice {o : Oper} {ty e : TypeId} {n : Nat} {ps : Array (Nat × Operand)} {i : Inf} (ho : o.op = .buildSlice ty n ps) (hu : P.underlying ty = some (.slice e)) (hi : infOf P e = some i) (hc : 0 < i.size ∧ n * i.size ≤ 65536 ∧ lLen i.zero.cells = i.size)
  (hh : HRel ρ t nx w) (ht : TRel ρ N T a) (h : (IOp.bslice i.size n i.zero.cells (ps.toList.map (fun p => (p.1 * i.size, i.size, opd p.2)))).run T t nx = .ok v t' nx') : Sound P o a w ρ t nx v t' nx' := by
 obtain ⟨c1, c2, c3⟩ := hc
 rw [lLen_eq] at c3
 simp only [IOp.run] at h
 split at h
 · rename_i cs hcs
   obtain ⟨rfl, rfl, rfl⟩ := mk_ok h
   obtain ⟨ti, z, h1, h2, h3, h4, h5⟩ := infOf_some hi
   have hz : rels ρ i.zero.cells z.cells.toList := rel_cells (ofVal_rel 3 z _ h3)
   have hrr := repl_rel hz c3 c1 n
   obtain ⟨cells', k1, k2⟩ := fill_rel (place := fun j => some (j * i.size, i.size)) ht ps.toList _ _ _ _ (by simp) (fun j p q hj hq => by simp [hj] at hq; subst hq; exact ⟨rfl, rfl⟩) hrr hcs
   have hmap : (ps.map fun (i, x) => (i, a.eval x)).toList = ps.toList.map (fun p => (p.1, a.eval p.2)) := by simp
   have hlen : cells'.size = n * i.size := by
    have e1 := rels_length k2
    have e2 : ∀ (pl : List (Nat × Nat × Opd)) (l l' : List AV), fillA pl T l = some l' → l'.length = l.length := by
     intro pl
     induction pl with
     | nil => intro l l' e; have e' : some l = some l' := e; cases e'; rfl
     | cons q pl ih =>
       intro l l' e
       obtain ⟨off, size, x⟩ := q
       have e' : (match x.ev T with
        | some v => (match Nat.beq (lLen v.cells) size with
          | true => (match Nat.ble (Nat.add off size) (lLen l) with | true => fillA pl T (setsAt v.cells off l) | false => none)
          | false => none)
        | none => none) = some l' := e
       split at e'
       · split at e'
         · split at e'
           · rw [ih _ _ e']
             have : ∀ (cs : List AV) (k : Nat) (l : List AV), (setsAt cs k l).length = l.length := by
              intro cs
              induction cs with
              | nil => intro k l; rfl
              | cons x cs ih2 => intro k l; show (setsAt cs (Nat.succ k) (setAt l k x)).length = _; rw [ih2, setAt_len]
             exact this _ _ _
           · cases e'
         · cases e'
       · cases e'
    have e3 := e2 _ _ _ hcs
    rw [repl_len c3] at e3
    simp at e1
    omega
   have hpos : ¬ n * ti.size > 2 ^ 24 := by rw [h4]; omega
   have hrun : (Instr.buildSlice ty n (ps.map fun (i, x) => (i, a.eval x))).run P w = .ok (.slice (some ⟨w.heap.size, 0, none⟩) n n) (w.alloc (.cells cells' e)) := by
    by_cases hn : n * ti.size = 0
    · have hn0 : n = 0 := by rw [h4] at hn; rcases Nat.mul_eq_zero.1 hn with h | h <;> omega
      subst hn0
      have k1' : Instr.fill (fun j => some (j * ti.size, ti.size)) #[] (ps.map fun (i, x) => (i, a.eval x)).toList = some cells' := by
       have e0 : (Array.range (0 * i.size)).map (z.cells[· % z.cells.size]!) = #[] := by rw [Nat.zero_mul]; exact Array.eq_empty_of_size_eq_zero (by simp)
       rw [e0] at k1
       rw [hmap, h4]; exact k1
      have e1 : ∀ (f : Nat → Value), (Array.range 0).map f = #[] := fun f => Array.eq_empty_of_size_eq_zero (by simp)
      simp only [Instr.buildSlice, Sem.run_bind, run_underlying hu, Result.andThen_ok, run_size h1, if_neg hpos, hn, if_true, Sem.run_pure, e1]
      simp only [k1', Go.newRow]
      simp
    · exact run_buildSlice w ty e n _ cells' ti z hu h1 h2 hpos hn (by rw [hmap, h4]; exact k1)
   refine ⟨_, w.alloc (.cells cells' e), .value (.slice (some ⟨w.heap.size, 0, none⟩) n n), _, ?_, .inl rfl, nxt_row0 hh k2 e, rel_newSlice (Nat.le_refl _) (Nat.le_refl _) (fun _ => rfl) (by show n * i.size ≤ cells'.size; omega) rfl⟩
   simp only [execOp, ho, Sem.run_bind, hrun, Result.andThen_ok]
   rfl
 · cases h
theorem s_mkslice {o : Oper} {ty e : TypeId} {x y : Operand} {i : Inf} (ho : o.op = .makeSlice ty x y) (hu : P.underlying ty = some (.slice e)) (hi : infOf P e = some i) (hc : 0 < i.size ∧ i.bytes ≤ 65536)
  (hh : HRel ρ t nx w) (ht : TRel ρ N T a) (h : (IOp.mkslice i.size i.zero.cells (opd x) (opd y)).run T t nx = .ok v t' nx') : Sound P o a w ρ t nx v t' nx' := by
 obtain ⟨c1, c2⟩ := hc
 simp only [IOp.run] at h
 split at h
 · rename_i k1 l k2 c hx hy
   split at h
   · rename_i b1 b2 b3
     rw [fNat_eq, fNat_eq] at h
     obtain ⟨rfl, rfl, rfl⟩ := mk_ok h
     obtain ⟨ti, z, h1, h2, h3, h4, h5⟩ := infOf_some hi
     have hz : rels ρ i.zero.cells z.cells.toList := rel_cells (ofVal_rel 3 z _ h3)
     rw [Nat.beq_eq, lLen_eq] at b3
     have b1' := Nat.le_of_ble_eq_true b1
     have b2' : c * i.size ≤ 65536 := Nat.le_of_ble_eq_true b2
     have hcb : c ≤ 65536 := Nat.le_trans (Nat.le_mul_of_pos_right c c1) b2'
     have hrr := repl_rel hz b3 c1 c
     have hx' := rel_int (opd_rel ht hx)
     have hy' := rel_int (opd_rel ht hy)
     have hbig : i.bytes * c ≤ 65536 * 65536 := Nat.mul_le_mul c2 hcb
     have hrun := run_makeSlice (P := P) w ty e ti z hu h1 h2 k1 k2 (l : Int) (c : Int) (by omega) (by omega) (by rw [h4]; simp; omega) (by rw [h5]; have : ((i.bytes * c : Nat) : Int) ≤ ((65536 * 65536 : Nat) : Int) := Int.ofNat_le.2 hbig; simp at this; omega) (by omega)
     refine ⟨_, w.alloc (.cells (madeCells z.cells (c * i.size)) e), .value (.slice (some ⟨w.heap.size, 0, none⟩) l c), _, ?_, .inl rfl, nxt_row0 hh (vs := madeCells z.cells (c * i.size)) hrr e, rel_newSlice (Nat.le_refl _) b1' (fun _ => rfl) (by show c * i.size ≤ (madeCells z.cells (c * i.size)).size; simp [madeCells]) rfl⟩
     simp only [execOp, ho, Sem.run_bind, hx', hy']
     have hrun' := hrun
     simp only [Int.toNat_natCast, h4] at hrun'
     show ((Instr.makeSlice ty (.int k1 (l : Int)) (.int k2 (c : Int))).run P w).andThen _ = _
     rw [hrun']; rfl
   · cases h
 · cases h
theorem u8s_rel : ∀ (s : List Nat), (∀ x ∈ s, x < 256) → rels ρ (u8s s) ((s.map UInt8.ofNat).map (fun b => Value.int .u8 (b.toNat : Int)))
 | [], _ => by show rels ρ [] _; simp [rels]
 | x :: s, h => by
   show rels ρ (.int .u8 (.ofNat x) :: u8s s) _
   rw [List.map_cons, List.map_cons]
   refine rels_cons.2 ⟨_, _, rfl, ?_, u8s_rel s (fun y hy => h y (List.mem_cons_of_mem _ hy))⟩
   have hx := h x (by simp)
   simp only [AV.rel]
   congr 1
   simp
   omega
theorem s_s2b {o : Oper} {sr ds e : TypeId} {x : Operand} (ho : o.op = .convert sr ds x) (h1 : P.underlying sr = some .string) (h2 : P.underlying ds = some (.slice e)) (h3 : P.underlying e = some (.int .u8))
  (hh : HRel ρ t nx w) (ht : TRel ρ N T a) (h : (IOp.s2b (opd x)).run T t nx = .ok v t' nx') : Sound P o a w ρ t nx v t' nx' := by
 simp only [IOp.run] at h
 split at h
 · rename_i s hx
   split at h
   · rename_i hs
     rw [fNat_eq, lLen_eq] at h
     obtain ⟨rfl, rfl, rfl⟩ := mk_ok h
     obtain ⟨ex, bx⟩ := rel_str (opd_rel ht hx)
     have hrun := run_bytes_of_string (P := P) w sr ds e (enc s) h1 h2 h3
     have hge := grownCap_ge w (enc s).size 0 e
     have hsz := enc_size s
     have hr := u8s_rel (ρ := ρ) s bx
     have hbr : bytesRow (enc s) (grownCap w (enc s).size 0 e) = (((s.map UInt8.ofNat).map (fun b => Value.int .u8 (b.toNat : Int))) ++ List.replicate (grownCap w (enc s).size 0 e - (enc s).size) (Value.int .u8 0)).toArray := by
      unfold bytesRow
      apply Array.ext'
      simp [enc]
     have hsize : (bytesRow (enc s) (grownCap w (enc s).size 0 e)).size = s.length + (grownCap w (enc s).size 0 e - (enc s).size) := by rw [hbr]; simp
     have hnx := (nxt_drew hh).trans (nxt_row hh.drew hr (List.replicate (grownCap w (enc s).size 0 e - (enc s).size) (Value.int .u8 0)) e ((bytesRow (enc s) (grownCap w (enc s).size 0 e)).size, (bytesRow (enc s) (grownCap w (enc s).size 0 e)).size + 1) (fun j hj => by rw [hsize]; simp at hj; omega))
     refine ⟨_, _, .value (.slice (some ⟨w.heap.size, 0, none⟩) (enc s).size (grownCap w (enc s).size 0 e)), _, ?_, .inl rfl, hnx, ?_⟩
     · simp only [execOp, ho, ex, Sem.run_bind, hrun, Result.andThen_ok]
       rw [hbr]; rfl
     · rw [hsz] at hge ⊢
       exact rel_newSlice hge hge (fun h => by cases h) (by simp; omega) rfl
   · cases h
 · cases h
theorem bytesOf_cons (x : AV) (l : List AV) : bytesOf (x :: l) = (match x with
 | .int .u8 (.ofNat n) => (match Nat.ble n 255 with
   | true => (match bytesOf l with | some r => some (n :: r) | none => none)
   | false => none)
 | _ => none) := rfl
theorem bytesOf_eq : ∀ {l : List AV} {s : List Nat} {vs : List Value}, bytesOf l = some s → rels ρ l vs → vs = (s.map UInt8.ofNat).map (fun b => Value.int .u8 (b.toNat : Int)) ∧ (∀ x ∈ s, x < 256) ∧ s.length = l.length
 | [], s, vs, h, hr => by
   have e : some [] = some s := h
   cases e; rw [rels_nil.1 hr]; simp
 | x :: l, s, vs, h, hr => by
   obtain ⟨v, vs', rfl, hv, r⟩ := rels_cons.1 hr
   rw [bytesOf_cons] at h
   split at h
   · rename_i n
     split at h
     · rename_i hn
       split at h
       · rename_i r' hr'
         cases h
         obtain ⟨i1, i2, i3⟩ := bytesOf_eq hr' r
         have hn' := Nat.le_of_ble_eq_true hn
         refine ⟨?_, fun y hy => ?_, by simp [i3]⟩
         · rw [rel_int hv, i1]
           simp
           omega
         · rcases List.mem_cons.1 hy with rfl | hy
           · omega
           · exact i2 y hy
       · cases h
     · cases h
   · cases h
theorem s_b2s {o : Oper} {sr ds e : TypeId} {x : Operand} (ho : o.op = .convert sr ds x) (h1 : P.underlying sr = some (.slice e)) (h2 : P.underlying ds = some .string) (h3 : P.underlying e = some (.int .u8))
  (hh : HRel ρ t nx w) (ht : TRel ρ N T a) (h : (IOp.b2s (opd x)).run T t nx = .ok v t' nx') : Sound P o a w ρ t nx v t' nx' := by
 simp only [IOp.run] at h
 split at h
 · rename_i hx
   cases h
   have ex := rel_nslice (opd_rel ht hx)
   refine sound_val hh (cv := .string .empty) ?_ (by simp only [AV.rel]; exact ⟨rfl, fun x hx => by cases hx⟩)
   simp [execOp, ho, ex, convert, run_underlying h1, run_underlying h2, run_underlying h3, Conv.bytesToString]
 · rename_i b q n c sz ex hx
   split at h
   · rename_i cl m wr hb
     split at h
     · rename_i l hl
       split at h
       · rename_i s hs
         cases h
         obtain ⟨p, c', off, hp, _, hnc, _, hoff, ey⟩ := rel_slice (opd_rel ht hx)
         obtain ⟨vs, k1, k2, k3⟩ := get_many hh hb hl hp
         obtain ⟨i1, i2, i3⟩ := bytesOf_eq hs k1
         have hlen := rels_length k1
         have hn : (s.map UInt8.ofNat).length = n := by simp; omega
         have hrun := run_convert_bytes_back (P := P) w sr ds e ⟨p.blk, off, none⟩ c' (s.map UInt8.ofNat) h1 h3 h2 (fun j hj => by
          rw [add_none, (hoff (by omega)).1]
          refine k3 j _ ?_
          rw [i1, List.getElem?_map, List.getElem?_eq_getElem hj]; rfl)
         rw [hn] at hrun
         refine sound_val hh (cv := .string (enc s)) ?_ (by simp only [AV.rel]; exact ⟨trivial, i2⟩)
         simp only [execOp, ho, ey, Sem.run_bind, hrun, Result.andThen_ok]
         rfl
       · cases h
     · cases h
   · cases h
 · cases h
end Go.Proofs.YtpjohgnhmjceiaaGreatDoor.AX
set_option linter.unusedVariables false
set_option linter.unusedSectionVars false
set_option linter.unusedSimpArgs false
namespace Go.Proofs.YtpjohgnhmjceiaaGreatDoor.AX
variable [Env]
variable {P : Program} {a : Act} {w : World} {ρ : Rho} {N : Nat} {T : TA} {t t' : TB} {nx nx' : Nat} {v : AV}
theorem bnd_run (ht : TRel ρ N T a) {x : Operand} {y y' n : Nat} {code : BoundsCode} (hy : y ≤ y') (h : bnd (opd x) T y = some n) : (Instr.sliceBound (a.eval x) y' code).run P w = .ok n w ∧ n ≤ y := by
 unfold bnd at h
 split at h
 · rename_i u hu
   split at h
   · rename_i m hm
     split at h
     · rename_i hle
       cases h
       obtain ⟨k, rfl⟩ := idx_some hm
       have e := rel_int (opd_rel ht hu)
       have hle' := Nat.le_of_ble_eq_true hle
       refine ⟨?_, hle'⟩
       rw [e]
       simp [Instr.sliceBound, asIntOf]
       omega
     · cases h
   · cases h
 · cases h
theorem bnds_run (ht : TRel ρ N T a) {lo hi mx : Option Operand} {isS : Bool} {n c c' l h m : Nat} (hc : c ≤ c') (hnc : n ≤ c') (hb : bnds T n c (lo.map opd) (hi.map opd) (mx.map opd) = some (l, h, m)) :
  ∃ m', (Instr.sliceBounds isS n c' (lo.map a.eval) (hi.map a.eval) (mx.map a.eval)).run P w = .ok (l, h, m') w ∧ l ≤ h ∧ h ≤ m' ∧ (mx.isSome = true → m' = m ∧ m ≤ c) ∧ (mx = none → m' = c' ∧ m = c) := by
 unfold bnds at hb
 cases mx with
 | some vm =>
   cases hi with
   | none => simp at hb; split at hb <;> simp_all
   | some vh =>
     simp only [Option.map_some] at hb
     split at hb
     · cases hb
     · rename_i m1 hm1
       obtain ⟨e1, b1⟩ := bnd_run (P := P) (w := w) (code := if isS then .slice3Acap else .slice3Alen) ht hc hm1
       split at hb
       · cases hb
       · rename_i h1 hh1
         obtain ⟨e2, b2⟩ := bnd_run (P := P) (w := w) (code := .slice3B) ht (Nat.le_refl m1) hh1
         cases lo with
         | none =>
           simp only [Option.map_none] at hb
           cases hb
           exact ⟨_, by simp [Instr.sliceBounds, e1, e2], by omega, b2, fun _ => ⟨rfl, b1⟩, (fun h => by cases h)⟩
         | some vl =>
           simp only [Option.map_some] at hb
           split at hb
           · cases hb
           · rename_i l1 hl1
             cases hb
             obtain ⟨e3, b3⟩ := bnd_run (P := P) (w := w) (code := .slice3C) ht (Nat.le_refl _) hl1
             exact ⟨_, by simp [Instr.sliceBounds, e1, e2, e3], b3, b2, fun _ => ⟨rfl, b1⟩, (fun h => by cases h)⟩
 | none =>
   cases hi with
   | none =>
     simp only [Option.map_none] at hb
     cases lo with
     | none =>
       simp only [Option.map_none] at hb
       cases hb
       exact ⟨c', by simp [Instr.sliceBounds], by omega, hnc, (fun h => by cases h), fun _ => ⟨rfl, rfl⟩⟩
     | some vl =>
       simp only [Option.map_some] at hb
       split at hb
       · cases hb
       · rename_i l1 hl1
         cases hb
         obtain ⟨e3, b3⟩ := bnd_run (P := P) (w := w) (code := .sliceB) ht (Nat.le_refl _) hl1
         exact ⟨c', by simp [Instr.sliceBounds, e3], b3, hnc, (fun h => by cases h), fun _ => ⟨rfl, rfl⟩⟩
   | some vh =>
     simp only [Option.map_none, Option.map_some] at hb
     split at hb
     · cases hb
     · rename_i h1 hh1
       obtain ⟨e2, b2⟩ := bnd_run (P := P) (w := w) (code := if isS then .sliceAcap else .sliceAlen) ht hc hh1
       cases lo with
       | none =>
         simp only [Option.map_none] at hb
         cases hb
         exact ⟨c', by simp [Instr.sliceBounds, e2], by omega, by omega, (fun h => by cases h), fun _ => ⟨rfl, rfl⟩⟩
       | some vl =>
         simp only [Option.map_some] at hb
         split at hb
         · cases hb
         · rename_i l1 hl1
           cases hb
           obtain ⟨e3, b3⟩ := bnd_run (P := P) (w := w) (code := .sliceB) ht (Nat.le_refl _) hl1
           exact ⟨c', by simp [Instr.sliceBounds, e2, e3], b3, by omega, (fun h => by cases h), fun _ => ⟨rfl, rfl⟩⟩
theorem enc_extract (s : List Nat) (l h : Nat) : (enc s).extract l h = enc ((s.drop l).take (h - l)) := by
 have e : ((enc s).extract l h).data = (enc ((s.drop l).take (h - l))).data := by
  rw [ByteArray.data_extract]
  apply Array.ext'
  show ((s.map UInt8.ofNat).toArray.extract l h).toList = _
  rw [Array.toList_extract, List.extract_eq_take_drop]
  simp [enc, List.map_take, List.map_drop]
 exact congrArg ByteArray.mk e
theorem s_sslice {o : Oper} {ty : TypeId} {x : Operand} {lo hi : Option Operand} (ho : o.op = .slice ty x lo hi none) (hu : P.underlying ty = some .string)
  (hh : HRel ρ t nx w) (ht : TRel ρ N T a) (h : (IOp.sslice (opd x) (lo.map opd) (hi.map opd)).run T t nx = .ok v t' nx') : Sound P o a w ρ t nx v t' nx' := by
 simp only [IOp.run] at h
 split at h
 · rename_i s hx
   split at h
   · rename_i l q m hb
     rw [lTake_eq, lDrop_eq] at h
     cases h
     obtain ⟨ex, bx⟩ := rel_str (opd_rel ht hx)
     rw [lLen_eq] at hb
     obtain ⟨m', e1, _, _, _, _⟩ := bnds_run (P := P) (w := w) (isS := false) (mx := none) ht (Nat.le_refl s.length) (Nat.le_refl _) hb
     refine sound_val hh (cv := .string ((enc s).extract l q)) ?_ (by simp only [AV.rel]; exact ⟨by rw [enc_extract]; rfl, fun y hy => bx y (List.mem_of_mem_drop (List.mem_of_mem_take hy))⟩)
     have e2 : (Instr.sliceBounds false (enc s).size (enc s).size (lo.map a.eval) (hi.map a.eval) none).run P w = .ok (l, q, m') w := by rw [enc_size]; exact e1
     simp [execOp, ho, Instr.sliceAt, run_underlying hu, Instr.slice, ex, e2]
   · cases h
 · cases h
theorem s_cslice {o : Oper} {ty e : TypeId} {x : Operand} {lo hi mx : Option Operand} {ti : TypeInfo} (ho : o.op = .slice ty x lo hi mx) (hu : P.underlying ty = some (.slice e)) (hi' : P.info? e = some ti)
  (hh : HRel ρ t nx w) (ht : TRel ρ N T a) (h : (IOp.cslice ti.size (opd x) (lo.map opd) (hi.map opd) (mx.map opd)).run T t nx = .ok v t' nx') : Sound P o a w ρ t nx v t' nx' := by
 simp only [IOp.run] at h
 split at h
 · rename_i b q n c sz ex hx
   split at h
   · cases h
   · rename_i hs
     rw [Nat.beq_eq] at hs
     subst hs
     split at h
     · rename_i l g m hb
       rw [fNat_eq, fNat_eq, fNat_eq] at h
       cases h
       obtain ⟨p, c', off, hp, hc, hnc, hex, hoff, ev⟩ := rel_slice (opd_rel ht hx)
       obtain ⟨m', e1, h1, h2, h3, h4⟩ := bnds_run (P := P) (w := w) (isS := true) ht hc hnc hb
       have hm' : m' ≤ c' := by
        cases mx with
        | none => rw [(h4 rfl).1]; exact Nat.le_refl _
        | some vm => obtain ⟨r1, r2⟩ := h3 rfl; omega
       refine sound_val hh (cv := .slice (some (if m' = l then ⟨p.blk, off, none⟩ else ⟨p.blk, off + l * ti.size, none⟩)) (g - l) (m' - l)) ?_ ?_
       · simp [execOp, ho, Instr.sliceAt, run_underlying hu, Instr.slice, ev, e1, run_size hi', add_none]
         split <;> simp
       · simp only [AV.rel]
         refine ⟨p, m' - l, if m' = l then off else off + l * ti.size, hp, ?_, by show g - l ≤ m' - l; omega, ?_, ?_, by split <;> rfl⟩
         · show m - l ≤ m' - l
           cases mx with
           | none => have := h4 rfl; omega
           | some vm => have := (h3 rfl).1; omega
         · intro hexx
           show m' - l = m - l
           cases mx with
           | none => have := h4 rfl; have := hex hexx; omega
           | some vm => have := (h3 rfl).1; omega
         · intro hpos
           have hne : ¬ m' = l := by omega
           obtain ⟨r1, r2⟩ := hoff (by omega)
           rw [if_neg hne]
           have hmul : l * ti.size + (m' - l) * ti.size ≤ c' * ti.size := by
            rw [← Nat.add_mul]
            exact Nat.mul_le_mul_right _ (by omega)
           have hxx : Nat.add q (Nat.mul l ti.size) = q + l * ti.size := rfl
           rw [hxx]
           omega
     · cases h
 · rename_i hx
   split at h
   · rename_i r hb
     obtain ⟨l, g, m⟩ := r
     cases h
     obtain ⟨m', e1, h1, h2, h3, h4⟩ := bnds_run (P := P) (w := w) (isS := true) ht (Nat.le_refl 0) (Nat.le_refl 0) hb
     have hm0 : m' = 0 := by
      cases mx with
      | none => exact (h4 rfl).1
      | some vm => have := h3 rfl; omega
     have hl0 : l = 0 := by omega
     have hg0 : g = 0 := by omega
     subst hm0; subst hl0; subst hg0
     have ev := rel_nslice (opd_rel ht hx)
     refine sound_val hh (cv := .slice none 0 0) ?_ (by simp [AV.rel])
     simp [execOp, ho, Instr.sliceAt, run_underlying hu, Instr.slice, ev, e1, run_size hi']
   · cases h
 · cases h
theorem run_builtin {o : Oper} {b : Builtin} {ats : Array TypeId} {xs : Array Operand} {r : Value} {w' : World} (ho : o.op = .call { callee := .builtin b, args := xs, argTypes := ats })
  (hb : (builtin b ats o.type (xs.map fun | .const _ => true | _ => false) (xs.map a.eval)).run P w = .ok (.value r) w') : (execOp a.eval o).run P w = .ok (.value r) w' := by
 simp only [execOp, ho, Sem.run_bind, resolve]
 simp only [Sem.run_pure, Result.andThen_ok, invoke]
 exact hb
def LK.fits (k : LK) (d : TypeDesc) : Bool := match k, d with | .str, .string => true | .slc, .slice _ => true | .mp, .map _ _ => true | _, _ => false
theorem s_len {o : Oper} {ty : TypeId} {ats : Array TypeId} {x : Operand} {xs : Array Operand} {d : TypeDesc} {k : LK} (ho : o.op = .call { callee := .builtin .len, args := xs, argTypes := ats }) (hx0 : xs[0]? = some x) (ha : ats[0]? = some ty) (hu : P.underlying ty = some d)
  (hk : k.fits d = true) (hh : HRel ρ t nx w) (ht : TRel ρ N T a) (h : (IOp.len k (opd x)).run T t nx = .ok v t' nx') : Sound P o a w ρ t nx v t' nx' := by
 have hxs : (xs.map a.eval)[0]? = some (a.eval x) := by simp [hx0]
 have hrun : ∀ (n : Nat), (Builtin.len_ ats o.type (xs.map a.eval)).run P w = .ok (goInt n) w → (execOp a.eval o).run P w = .ok (.value (goInt n)) w := by
  intro n hn
  refine run_builtin ho ?_
  simp only [builtin, Sem.run_bind, hn]
  rfl
 simp only [IOp.run] at h
 split at h
 · rename_i s hx
   obtain ⟨h1, rfl, rfl⟩ := retV_ok h
   cases h1
   obtain ⟨ex, _⟩ := rel_str (opd_rel ht hx)
   cases d <;> simp only [LK.fits] at hk <;> (try (cases hk; done))
   refine sound_val hh (cv := goInt (enc s).size) (hrun _ ?_) (by rw [enc_size, lLen_eq]; simp [AV.rel, goInt])
   simp [Builtin.len_, ha, hxs, run_underlying hu, ex]
 · rename_i hx
   cases h
   have ex := rel_nslice (opd_rel ht hx)
   cases d <;> simp only [LK.fits] at hk <;> (try (cases hk; done))
   refine sound_val hh (cv := goInt (0 : Nat)) (hrun _ ?_) (by simp [AV.rel, goInt])
   simp [Builtin.len_, ha, hxs, run_underlying hu, ex]
 · rename_i b q n c sz ex hx
   cases h
   obtain ⟨p, c', off, _, _, _, _, _, ex⟩ := rel_slice (opd_rel ht hx)
   cases d <;> simp only [LK.fits] at hk <;> (try (cases hk; done))
   refine sound_val hh (cv := goInt (n : Nat)) (hrun _ ?_) (by simp [AV.rel, goInt])
   simp [Builtin.len_, ha, hxs, run_underlying hu, ex]
 · rename_i hx
   cases h
   have ex := rel_nmap (opd_rel ht hx)
   cases d <;> simp only [LK.fits] at hk <;> (try (cases hk; done))
   refine sound_val hh (cv := goInt (0 : Nat)) (hrun _ ?_) (by simp [AV.rel, goInt])
   simp [Builtin.len_, ha, hxs, run_underlying hu, ex]
 · rename_i b hx
   split at h
   · rename_i es clk hb
     obtain ⟨h1, rfl, rfl⟩ := retV_ok h
     cases h1
     obtain ⟨p, hp, ex⟩ := rel_map (opd_rel ht hx)
     obtain ⟨p', hp', hl, ms, hm, hes⟩ := hh.blk b _ hb
     rw [hp] at hp'; cases hp'
     have hsz : ms.size = es.length := by have := hes.1; simp at this; omega
     cases d <;> simp only [LK.fits] at hk <;> (try (cases hk; done))
     refine sound_val hh (cv := goInt (es.length : Nat)) (hrun _ ?_) (by rw [lLen_eq]; simp [AV.rel, goInt])
     simp [Builtin.len_, ha, hxs, run_underlying hu, ex, getObj, Sem.run, hm, hsz]
   · cases h
 · cases h
theorem s_mm {o : Oper} {ats : Array TypeId} {x y : Operand} {xs : Array Operand} {mx : Bool} (ho : o.op = .call { callee := .builtin (if mx then .max else .min), args := xs, argTypes := ats }) (hxs : xs.toList = [x, y])
  (hh : HRel ρ t nx w) (ht : TRel ρ N T a) (h : (IOp.mm mx (opd x) (opd y)).run T t nx = .ok v t' nx') : Sound P o a w ρ t nx v t' nx' := by
 have hl : (xs.map a.eval).toList = [a.eval x, a.eval y] := by simp [hxs]
 simp only [IOp.run] at h
 split at h
 · rename_i k m k' n hx hy
   have ex := rel_int (opd_rel ht hx)
   have ey := rel_int (opd_rel ht hy)
   split at h
   · split at h
     · rename_i hlt
       cases h
       rw [iLt_eq] at hlt
       have hlt' : m < n := by simpa using hlt
       refine sound_val hh (cv := .int k n) (run_builtin (by simpa using ho) ?_) (by simp [AV.rel])
       simp [builtin, Builtin.max_, hxs, ex, ey, Builtin.max2, hlt']
     · rename_i hlt
       cases h
       rw [iLt_eq] at hlt
       have hlt' : ¬ m < n := by simpa using hlt
       refine sound_val hh (cv := .int k m) (run_builtin (by simpa using ho) ?_) (by simp [AV.rel])
       simp [builtin, Builtin.max_, hxs, ex, ey, Builtin.max2, hlt']
   · split at h
     · rename_i hlt
       cases h
       rw [iLt_eq] at hlt
       have hlt' : n < m := by simpa using hlt
       refine sound_val hh (cv := .int k n) (run_builtin (by simpa using ho) ?_) (by simp [AV.rel])
       simp [builtin, Builtin.min_, hxs, ex, ey, Builtin.min2, hlt']
     · rename_i hlt
       cases h
       rw [iLt_eq] at hlt
       have hlt' : ¬ n < m := by simpa using hlt
       refine sound_val hh (cv := .int k m) (run_builtin (by simpa using ho) ?_) (by simp [AV.rel])
       simp [builtin, Builtin.min_, hxs, ex, ey, Builtin.min2, hlt']
 · cases h
end Go.Proofs.YtpjohgnhmjceiaaGreatDoor.AX
set_option linter.unusedVariables false
set_option linter.unusedSectionVars false
set_option linter.unusedSimpArgs false
namespace Go.Proofs.YtpjohgnhmjceiaaGreatDoor.AX
variable [Env]
variable {P : Program} {a : Act} {w : World} {ρ : Rho} {N : Nat} {T : TA} {t t' : TB} {nx nx' : Nat} {v : AV}
theorem src_of {y : AV} {u : Value} {k sz : Nat} {cs : List AV} (hh : HRel ρ t nx w) (hy : y.rel ρ u) (hl : srcLen y = some k) (hc : srcCells y k sz t = some cs) (hcell : allCell cs = true) {tx : TypeId}
  (hk : (∃ e', P.underlying tx = some (.slice e')) ∨ P.underlying tx = some .string) : ∃ news, rels ρ cs news ∧ Src P sz tx u k news w := by
 unfold srcLen at hl
 unfold srcCells at hc
 cases y <;> simp only at hl hc <;> (try (cases hl; done))
 case nslice =>
  cases hl; cases hc
  refine ⟨[], by simp [rels], ⟨hk, fun w' => ?_, ?_, ?_, by simp, fun _ h => by cases h⟩⟩ <;> rw [rel_nslice hy] <;> rfl
 case slice b o n c sz' ex =>
  cases hl
  split at hc
  · rename_i cl m wr hb
    obtain ⟨p, c', off, hp, hcc, hnc, _, hoff, ev⟩ := rel_slice hy
    obtain ⟨vs, h1, h2, h3⟩ := get_many hh hb hc hp
    have hone := rels_cells h1 hcell
    have hget : ∀ j u, vs[j]? = some u → w.cell? ((⟨p.blk, off, none⟩ : Addr).add j) = some u := fun j u hu => by
     have hj : j < vs.length := (List.getElem?_eq_some_iff.1 hu).1
     have hj2 : j < k * sz := by have h2' : vs.length = k * sz := h2; omega
     have hn : 0 < k := Nat.pos_of_ne_zero (fun h => by rw [h] at hj2; omega)
     rw [add_none, (hoff (by omega)).1]
     exact h3 j u hu
    refine ⟨vs, h1, ⟨hk, fun w' => ?_, ?_, ?_, h2, hone⟩⟩
    · rw [ev]; rfl
    · rw [ev]; exact run_firstCells_some w sz k _ k c' vs h2 hget
    · rw [ev]; exact run_firstCells_some w.drew sz k _ k c' vs h2 (by simpa using hget)
  · cases hc
 case str s =>
  cases hl
  split at hc
  · rename_i h1
    rw [Nat.beq_eq] at h1
    subst h1
    rw [lTake_eq, lLen_eq] at hc
    cases hc
    obtain ⟨ev, bs⟩ := rel_str hy
    rw [List.take_length] at hcell ⊢
    have hr := u8s_rel (ρ := ρ) s bs
    refine ⟨_, hr, ⟨hk, fun w' => ?_, ?_, ?_, by simp [lLen_eq], rels_cells hr hcell⟩⟩
    · rw [ev, lLen_eq, ← enc_size]; rfl
    · rw [ev, lLen_eq, ← enc_size, firstCells_string]; rfl
    · rw [ev, lLen_eq, ← enc_size, firstCells_string]; rfl
  · cases hc
theorem nxt_inplace {w1 : World} (hh : HRel ρ t nx w) {b : Nat} {k0 k : Blk} {p q : Pl} (hb : t.get b = some k0) (hm : k0.mayWrite = true) (hp : ρ b = some p) (hs : w1.heap.size = w.heap.size) (ho : w1.os = w.os ∧ w1.tape = w.tape ∧ w1.output = w.output)
  (hoth : ∀ i, i ≠ p.blk → w1.heap[i]? = w.heap[i]?) (hq : q.blk = p.blk) (hk : k.rel (ρ.upd nx q) q w1) :
  Nxt ρ t nx w (ρ.upd nx q) ((t.put none b).put (some k) nx) (Nat.succ nx) w1 := by
 have hle : ρ.le (ρ.upd nx q) := Rho.le_upd hh.new
 obtain ⟨p0, hp0, hpl, _⟩ := hh.blk b _ hb
 rw [hp] at hp0; cases hp0
 have hg : ∀ c x, (t.put none b).get c = some x → c ≠ b ∧ t.get c = some x := fun c x hc => by
  (first | rw [Bt.get_put] at hc | rw [Bt.get_put] at hc)
  by_cases e : c = b
  · rw [if_pos e] at hc; cases hc
  · rw [if_neg e] at hc; exact ⟨e, hc⟩
 have hk1 : HRel ρ (t.put none b) nx w1 := by
  refine ⟨fun c x hc => ?_, fun c c' x y p1 q1 hc hc' hw => hh.inj c c' x y p1 q1 (hg c x hc).2 (hg c' y hc').2 hw, hh.new⟩
  obtain ⟨h1, h2⟩ := hg c x hc
  obtain ⟨r, hr, hl, hx⟩ := hh.blk c x h2
  exact ⟨r, hr, by omega, Blk.rel_keep (Rho.le_refl _) hx (hoth _ (fun e => h1 (hh.inj c b x k0 r p h2 hb (.inr hm) hr hp e)))⟩
 have hfin := nxt_again hk1 (p := q) k (by rw [hq]; omega) (fun c x r hc hr e => by
  obtain ⟨h1, h2⟩ := hg c x hc
  exact h1 (hh.inj c b x k0 r p h2 hb (.inr hm) hr hp (e.trans hq))) hk
 refine ⟨hle, hfin, ⟨ho.1, ho.2.1, ho.2.2, by omega, fun i _ hO => hoth i (fun e => hO ⟨b, k0, p, hb, hm, hp, e.symm⟩)⟩, fun i hi => ?_, fun c r hc => ?_, fun c x hc => ?_, Nat.le_succ _⟩
 · obtain ⟨c, x, r, hx, hw, hr, rfl⟩ := hi
   (first | rw [Bt.get_put] at hx | rw [Bt.get_put] at hx)
   by_cases e : c = nx
   · rw [e] at hr; simp [Rho.upd] at hr; subst hr
     exact .inl ⟨b, k0, p, hb, hm, hp, hq.symm⟩
   · rw [if_neg e] at hx
     obtain ⟨h1, h2⟩ := hg c x hx
     obtain ⟨r', hr', hl, _⟩ := hh.blk c x h2
     rw [hle _ _ hr'] at hr; cases hr
     exact .inl ⟨c, x, _, h2, hw, hr', rfl⟩
 · unfold Rho.upd at hc
   split at hc
   · rename_i e; cases hc; exact .inr ⟨Nat.le_of_eq e.symm, .inr ⟨b, k0, p, hb, hm, hp, hq.symm⟩⟩
   · exact .inl hc
 · (first | rw [Bt.get_put] at hc | rw [Bt.get_put] at hc)
   by_cases e : c = nx
   · exact .inr (by omega)
   · rw [if_neg e] at hc; exact .inl ⟨x, (hg c x hc).2⟩
theorem s_app {o : Oper} {ty tx e : TypeId} {ats : Array TypeId} {x y : Operand} {xs : Array Operand} {i : Inf} (ho : o.op = .call { callee := .builtin .append, args := xs, argTypes := ats })
  (hxs : ∃ r, xs.toList = x :: y :: r) (hats : ∃ r, ats.toList = ty :: tx :: r) (hu : P.underlying ty = some (.slice e)) (hk : (∃ e', P.underlying tx = some (.slice e')) ∨ P.underlying tx = some .string) (hi : infOf P e = some i)
  (hc : 0 < i.size ∧ i.bytes ≤ 65536 ∧ lLen i.zero.cells = i.size) (hh : HRel ρ t nx w) (ht : TRel ρ N T a) (h : (IOp.app i.size (opd x) (opd y)).run T t nx = .ok v t' nx') : Sound P o a w ρ t nx v t' nx' := by
 obtain ⟨c1, c2, c3⟩ := hc
 rw [lLen_eq] at c3
 obtain ⟨ti, z, h1, h2, h3, h4, h5⟩ := infOf_some hi
 have hz : rels ρ i.zero.cells z.cells.toList := rel_cells (ofVal_rel 3 z _ h3)
 have hzs : z.cells.size = i.size := by have := rels_length hz; simp at this; omega
 -- the call is that of two arguments
 have hap : ∀ (u u' : Value) (r : Value) (w' : World), a.eval x = u → a.eval y = u' → (Builtin.append_ #[ty, tx] o.type #[u, u']).run P w = .ok r w' → (execOp a.eval o).run P w = .ok (.value r) w' := by
  intro u u' r w' e1 e2 hr
  obtain ⟨rx, hrx⟩ := hxs
  obtain ⟨ra, hra⟩ := hats
  refine run_builtin ho ?_
  have g0 : ats[0]? = some ty := by rw [← Array.getElem?_toList, hra]; rfl
  have g1 : ats[1]? = some tx := by rw [← Array.getElem?_toList, hra]; rfl
  have g2 : (xs.map a.eval)[0]? = some u := by rw [← Array.getElem?_toList]; simp [hrx, e1]
  have g3 : (xs.map a.eval)[1]? = some u' := by rw [← Array.getElem?_toList]; simp [hrx, e2]
  have : Builtin.append_ ats o.type (xs.map a.eval) = Builtin.append_ #[ty, tx] o.type #[u, u'] := by
   unfold Builtin.append_
   simp only [g0, g1, g2, g3]
   rfl
  simp only [builtin, Sem.run_bind, this, hr]
  rfl
 simp only [IOp.run] at h
 split at h
 · rename_i X Y hx hy
   have rx := opd_rel ht hx
   have ry := opd_rel ht hy
   unfold appendA at h
   split at h
   · cases h
   · rename_i k hk1
     split at h
     · cases h
     · rename_i cs hcs
       split at h
       · cases h
       · rename_i hcell
         obtain ⟨news, rn, hsrc⟩ := src_of (P := P) hh ry hk1 hcs hcell hk
         have hlen : cs.length = k * i.size := by rw [← rels_length rn]; exact hsrc.newsLen
         split at h
         · -- a slice of nothing
           have ex := rel_nslice rx
           split at h
           · rename_i hk0
             cases h
             rw [Nat.beq_eq] at hk0
             subst hk0
             have hn0 : news = [] := List.eq_nil_of_length_eq_zero (by rw [hsrc.newsLen]; omega)
             subst hn0
             have hsrc' : Src P ti.size tx (a.eval y) 0 [] w := by rw [h4]; exact hsrc
             have hrun := run_append_nothing (P := P) w ty tx o.type e ti hu h1 none 0 0 (Nat.le_refl _) (a.eval y) hsrc'
             exact sound_val hh (cv := .slice none 0 0) (hap _ _ _ _ ex rfl hrun) (by simp [AV.rel])
           · rename_i hk0
             have hk0' : ¬ k = 0 := fun e => by subst e; exact absurd hk0 (by decide)
             split at h
             · rename_i hbnd
               obtain ⟨rfl, rfl, rfl⟩ := mk_ok h
               have hb' : k * i.size ≤ 65536 := Nat.le_of_ble_eq_true hbnd
               have hkb : k ≤ 65536 := Nat.le_trans (Nat.le_mul_of_pos_right k c1) hb'
               have hsrc' : Src P ti.size tx (a.eval y) k news w := by rw [h4]; exact hsrc
               have hfit : Builtin.nextslicecap (0 + k) 0 * ti.bytes ≤ 281474976710656 := growslice_fits (by omega) (by rw [h5]; exact Nat.le_trans (Nat.mul_le_mul (show 0 + k ≤ 65536 by omega) c2) (by decide))
               have hrun := run_append_grow_src (P := P) w ty tx o.type e ti z hu h1 h2 none 0 0 [] (by rw [h4]; exact run_firstCells_none w.drew _ 0 0 0) (a.eval y) k news hsrc' (by omega) (by omega) hfit
               have hge := grownCap_ge w (0 + k) 0 e
               have hobj : (([] : List Value) ++ news).toArray ++ Builtin.zeroCells z.cells (grownCap w (0 + k) 0 e - (0 + k)) = (news ++ (Builtin.zeroCells z.cells (grownCap w (0 + k) 0 e - (0 + k))).toList).toArray := by
                apply Array.ext'; simp
               rw [hobj] at hrun
               have hn := (nxt_drew hh).trans (nxt_row hh.drew rn (Builtin.zeroCells z.cells (grownCap w (0 + k) 0 e - (0 + k))).toList e (0, 0) (fun j hj => by omega))
               refine ⟨_, _, _, _, hap _ _ _ _ ex rfl hrun, .inl rfl, hn, ?_⟩
               rw [Nat.zero_add] at hge ⊢
               refine rel_newSlice hge hge (fun h => by cases h) ?_ rfl
               show grownCap w k 0 e * i.size ≤ news.length + (Builtin.zeroCells z.cells (grownCap w k 0 e - k)).toList.length
               have hzl : (Builtin.zeroCells z.cells (grownCap w k 0 e - k)).toList.length = (grownCap w k 0 e - k) * i.size := by rw [Array.length_toList, size_zeroCells, hzs]
               rw [hzl, hsrc.newsLen, ← Nat.add_mul]
               exact Nat.mul_le_mul_right _ (by omega)
             · cases h
         · -- a slice of something
           rename_i b q n c sz' ex
           obtain ⟨p, c', off, hp, hcc, hnc, hex, hoff, ev⟩ := rel_slice rx
           split at h
           · cases h
           · rename_i hsz
             rw [Nat.beq_eq] at hsz
             subst hsz
             split at h
             · -- there is room
               rename_i hroom
               have hroom' : n + k ≤ c := Nat.le_of_ble_eq_true hroom
               split at h
               · rename_i t2 hst
                 rw [fNat_eq] at h
                 cases h
                 obtain ⟨p2, hp2, s1, s2, s3, s4⟩ := nxt_store hh rn hst
                 rw [hp] at hp2; cases hp2
                 have hq : k = 0 ∨ off = p.d + q := by
                  by_cases h0 : 0 < c'
                  · exact .inr (hoff h0).1
                  · exact .inl (by omega)
                 have hsrc' : Src P ti.size tx (a.eval y) k news w := by rw [h4]; exact hsrc
                 have hpos : ∀ j, j < news.length → off + n * ti.size + j = p.d + Nat.add q (Nat.mul n i.size) + j := by
                  intro j hj
                  rcases hq with h0 | h0
                  · rw [hsrc.newsLen, h0] at hj; omega
                  · rw [h0, h4]; show p.d + q + n * i.size + j = p.d + (q + n * i.size) + j; omega
                 have hrun := run_append_room_src (P := P) w ty tx o.type e ti hu h1 p.blk off n c' (a.eval y) k news hsrc' (by omega) (fun j hj => by rw [hpos j hj]; exact s1 j hj) (fun j hj => by rw [hpos j hj]; exact s2 j hj)
                 have hw : w.setCells p.blk (off + n * ti.size) news = w.setCells p.blk (p.d + Nat.add q (Nat.mul n i.size)) news := by
                  rcases hq with h0 | h0
                  · have : news = [] := List.eq_nil_of_length_eq_zero (by rw [hsrc.newsLen, h0]; omega)
                    rw [this]; rfl
                  · rw [h0, h4]; congr 1; show p.d + q + n * i.size = p.d + (q + n * i.size); omega
                 rw [hw] at hrun
                 refine ⟨ρ, _, _, _, hap _ _ _ _ ev rfl hrun, .inl rfl, s4, ?_⟩
                 simp only [AV.rel]
                 exact ⟨p, c', off, hp, hcc, by show n + k ≤ c'; omega, hex, hoff, rfl⟩
               · cases h
             · -- there may be none
               rename_i hroom
               have hroom' : ¬ n + k ≤ c := fun hle => by
                have : Nat.ble (Nat.add n k) c = true := by rw [Nat.ble_eq]; exact hle
                rw [this] at hroom; cases hroom
               split at h
               · rename_i r m wr hb
                 split at h
                 · cases h
                 · rename_i hbnd
                   have hb' : (n + k) * i.size ≤ 65536 := Nat.le_of_ble_eq_true hbnd
                   have hnk : n + k ≤ 65536 := Nat.le_trans (Nat.le_mul_of_pos_right _ c1) hb'
                   split at h
                   · cases h
                   · rename_i old hold
                     rw [fNat_eq] at h
                     obtain ⟨vs, o1, o2, o3⟩ := get_many hh hb hold hp
                     have o2' : vs.length = n * i.size := o2
                     have hsrc' : Src P ti.size tx (a.eval y) k news w := by rw [h4]; exact hsrc
                     have ro : rels ρ (old ++ cs) (vs ++ news) := rels_app o1 rn
                     have hall : (vs ++ news).length = (n + k) * i.size := by rw [List.length_append, o2', hsrc.newsLen, Nat.add_mul]
                     -- the arm that grows
                     have grow : ∀ (t2 : TB), Nxt ρ t nx w ρ t2 nx w → c' < n + k → ∃ r' w', (Builtin.append_ #[ty, tx] o.type #[.slice (some ⟨p.blk, off, none⟩) n c', a.eval y]).run P w = .ok r' w' ∧
                       ∃ ρ', Nxt ρ t nx w ρ' (newRow (old ++ cs) t2 nx) (Nat.succ nx) w' ∧ (AV.slice nx 0 (n + k) (n + k) i.size false).rel ρ' r' := by
                      intro t2 hn2 hg
                      have hfit : Builtin.nextslicecap (n + k) c' * ti.bytes ≤ 281474976710656 := growslice_fits hg (by rw [h5]; exact Nat.le_trans (Nat.mul_le_mul hnk c2) (by decide))
                      have hold' : (Builtin.firstCells ti.size n (.slice (some ⟨p.blk, off, none⟩) n c')).run P w.drew = .ok vs.toArray w.drew := by
                       rw [h4]
                       refine run_firstCells_some w.drew i.size n _ n c' vs o2' (fun j u hu => ?_)
                       have hj : j < vs.length := (List.getElem?_eq_some_iff.1 hu).1
                       have hn : 0 < n := Nat.pos_of_ne_zero (fun h => by rw [o2', h] at hj; omega)
                       rw [add_none, (hoff (by omega)).1]
                       simpa using o3 j u hu
                      have hrun := run_append_grow_src (P := P) w ty tx o.type e ti z hu h1 h2 (some ⟨p.blk, off, none⟩) n c' vs hold' (a.eval y) k news hsrc' hg (by omega) hfit
                      have hge := grownCap_ge w (n + k) c' e
                      have hobj : (vs ++ news).toArray ++ Builtin.zeroCells z.cells (grownCap w (n + k) c' e - (n + k)) = ((vs ++ news) ++ (Builtin.zeroCells z.cells (grownCap w (n + k) c' e - (n + k))).toList).toArray := by
                       apply Array.ext'; simp
                      rw [hobj] at hrun
                      have hn := (hn2.trans (nxt_drew hn2.heap)).trans (nxt_row hn2.heap.drew ro (Builtin.zeroCells z.cells (grownCap w (n + k) c' e - (n + k))).toList e (0, 0) (fun j hj => by omega))
                      refine ⟨_, _, hrun, _, hn, rel_newSlice hge hge (fun h => by cases h) ?_ rfl⟩
                      show grownCap w (n + k) c' e * i.size ≤ (vs ++ news).length + (Builtin.zeroCells z.cells (grownCap w (n + k) c' e - (n + k))).toList.length
                      have hzl : (Builtin.zeroCells z.cells (grownCap w (n + k) c' e - (n + k))).toList.length = (grownCap w (n + k) c' e - (n + k)) * i.size := by rw [Array.length_toList, size_zeroCells, hzs]
                      rw [hzl, hall, ← Nat.add_mul]
                      exact Nat.mul_le_mul_right _ (by omega)
                     split at h
                     · -- a capacity that is known
                       rename_i hexx
                       rw [lApp_eq] at h
                       obtain ⟨rfl, rfl, rfl⟩ := mk_ok h
                       have := hex rfl
                       obtain ⟨r', w', g1, ρ', g2, g3⟩ := grow t (Nxt.refl hh) (by omega)
                       exact ⟨ρ', w', _, r', hap _ _ _ _ ev rfl g1, .inl rfl, g2, g3⟩
                     · split at h
                       · rw [lApp_eq] at h
                         obtain ⟨rfl, rfl, rfl⟩ := mk_ok h
                         by_cases hg : c' < n + k
                         · obtain ⟨r', w', g1, ρ', g2, g3⟩ := grow _ (nxt_kill hh b) hg
                           exact ⟨ρ', w', _, r', hap _ _ _ _ ev rfl g1, .inl rfl, g2, g3⟩
                         · -- in place
                           obtain ⟨rfl, hext⟩ := hoff (by omega)
                           obtain ⟨p3, hp3, hpl, hkk⟩ := hh.blk b _ hb
                           rw [hp] at hp3; cases hp3
                           obtain ⟨k1, k2, k3, k4⟩ := hkk
                           have hle2 : (n + k) * i.size ≤ c' * i.size := Nat.mul_le_mul_right _ (by omega)
                           have hadd : n * i.size + k * i.size = (n + k) * i.size := (Nat.add_mul _ _ _).symm
                           have hin : ∀ j, j < news.length → (w.cell? ⟨p.blk, p.d + q + n * ti.size + j, none⟩).isSome = true := fun j hj => k3 _ (by rw [hsrc.newsLen] at hj; rw [h4]; omega)
                           have hrun := run_append_room_src (P := P) w ty tx o.type e ti hu h1 p.blk (p.d + q) n c' (a.eval y) k news hsrc' (by omega) hin (fun j hj => k4 _ (by omega) (by rw [hsrc.newsLen] at hj; rw [h4]; omega))
                           have hrel : (Blk.cells (puts (old ++ cs) 0 .e) (lLen (old ++ cs)) true).rel (ρ.upd nx ⟨p.blk, p.d + q, p.ext⟩) ⟨p.blk, p.d + q, p.ext⟩ (w.setCells p.blk (p.d + q + n * ti.size) news) := by
                            refine ⟨?_, fun j u hu => ?_, fun j hj => ?_, fun j hj hj' => ?_⟩
                            · rw [lLen_eq, ← rels_length ro, hall]; show p.d + q + (n + k) * i.size ≤ p.ext; omega
                            · rw [puts_get] at hu
                              split at hu
                              · obtain ⟨cv, m1, m2⟩ := rels_get ro j u (by simpa using hu)
                                refine ⟨cv, ?_, AV.rel_mono (Rho.le_upd hh.new) _ _ m2⟩
                                show World.cell? _ ⟨p.blk, p.d + q + j, none⟩ = some cv
                                by_cases hjn : j < n * i.size
                                · rw [World.cell?_setCells_out]
                                  · rw [List.getElem?_append_left (by omega)] at m1
                                    exact o3 j cv m1
                                  · intro _ _
                                    show p.d + q + j < p.d + q + n * ti.size ∨ _
                                    left; rw [h4]; omega
                                · rw [List.getElem?_append_right (by omega), o2'] at m1
                                  have hlt := (List.getElem?_eq_some_iff.1 m1).1
                                  have := World.cell?_setCells_in p.blk news (p.d + q + n * ti.size) w hin (j - n * i.size) hlt
                                  rw [show p.d + q + n * ti.size + (j - n * i.size) = p.d + q + j by rw [h4]; omega] at this
                                  rw [this, ← m1, List.getElem?_eq_getElem hlt]
                              · simp [Bt.get_e] at hu
                            · show (World.cell? _ ⟨p.blk, j, none⟩).isSome = true
                              by_cases hj2 : p.d + q + n * ti.size ≤ j ∧ j < p.d + q + n * ti.size + news.length
                              · have := World.cell?_setCells_in p.blk news (p.d + q + n * ti.size) w hin (j - (p.d + q + n * ti.size)) (by omega)
                                rw [show p.d + q + n * ti.size + (j - (p.d + q + n * ti.size)) = j by omega] at this
                                rw [this]; rfl
                              · rw [World.cell?_setCells_out]
                                · exact k3 j hj
                                · intro _ _
                                  show j < p.d + q + n * ti.size ∨ p.d + q + n * ti.size + news.length ≤ j
                                  omega
                            · show World.frozen? _ ⟨p.blk, j, none⟩ = false
                              rw [World.frozen?_setCells]
                              exact k4 j (by have : p.d + q ≤ j := hj; omega) hj'
                           have hn := nxt_inplace hh (q := ⟨p.blk, p.d + q, p.ext⟩) hb rfl hp (heap_setCells_size _ _ _ _) (setCells_same _ _ _ _) (fun i hi => heap_setCells_other _ _ _ _ hi) rfl hrel
                           refine ⟨_, _, _, _, hap _ _ _ _ ev rfl hrun, .inl rfl, hn, ?_⟩
                           simp only [AV.rel]
                           refine ⟨⟨p.blk, p.d + q, p.ext⟩, c', p.d + q, by simp [Rho.upd], by show n + k ≤ c'; omega, by show n + k ≤ c'; omega, (fun h => by cases h), fun _ => ⟨rfl, ?_⟩, rfl⟩
                           show p.d + q + 0 + c' * i.size ≤ p.ext
                           omega
                       · cases h
               · cases h
         · cases h
 · cases h
end Go.Proofs.YtpjohgnhmjceiaaGreatDoor.AX
set_option linter.unusedVariables false
set_option linter.unusedSectionVars false
set_option linter.unusedSimpArgs false
namespace Go.Proofs.YtpjohgnhmjceiaaGreatDoor.AX
variable [Env]
variable {P : Program} {a : Act} {w : World} {ρ : Rho} {N : Nat} {T : TA} {t t' : TB} {nx nx' : Nat} {v : AV}
theorem s_cap {o : Oper} {ty e : TypeId} {ats : Array TypeId} {x : Operand} {xs : Array Operand} (ho : o.op = .call { callee := .builtin .cap, args := xs, argTypes := ats }) (hx0 : xs[0]? = some x) (ha : ats[0]? = some ty) (hu : P.underlying ty = some (.slice e))
  (hh : HRel ρ t nx w) (ht : TRel ρ N T a) (h : (IOp.cap (opd x)).run T t nx = .ok v t' nx') : Sound P o a w ρ t nx v t' nx' := by
 have hxs : (xs.map a.eval)[0]? = some (a.eval x) := by simp [hx0]
 simp only [IOp.run] at h
 split at h
 · rename_i hx
   cases h
   have ex := rel_nslice (opd_rel ht hx)
   refine sound_val hh (cv := goInt (0 : Nat)) (run_builtin ho ?_) (by simp [AV.rel, goInt])
   simp [builtin, Builtin.cap_, ha, hxs, run_underlying hu, ex]
 · rename_i b q n c sz hx
   cases h
   obtain ⟨p, c', off, _, _, _, hex, _, ex⟩ := rel_slice (opd_rel ht hx)
   have := hex rfl
   subst this
   refine sound_val hh (cv := goInt (c' : Nat)) (run_builtin ho ?_) (by simp [AV.rel, goInt])
   simp [builtin, Builtin.cap_, ha, hxs, run_underlying hu, ex]
 · cases h
theorem srcLen_run {y : AV} {u : Value} {k : Nat} (hy : y.rel ρ u) (hl : srcLen y = some k) : (Builtin.lenOf u).run P w = .ok k w := by
 unfold srcLen at hl
 cases y <;> simp only at hl <;> (try (cases hl; done))
 case nslice => cases hl; rw [rel_nslice hy]; rfl
 case slice => cases hl; obtain ⟨p, c', off, _, _, _, _, _, ev⟩ := rel_slice hy; rw [ev]; rfl
 case str s => cases hl; obtain ⟨ev, _⟩ := rel_str hy; rw [ev, lLen_eq, ← enc_size]; rfl
theorem src_first {y : AV} {u : Value} {k m sz : Nat} {cs : List AV} (hh : HRel ρ t nx w) (hy : y.rel ρ u) (hl : srcLen y = some k) (hm : m ≤ k) (hc : srcCells y m sz t = some cs) :
  ∃ news, rels ρ cs news ∧ (Builtin.firstCells sz m u).run P w = .ok news.toArray w := by
 unfold srcLen at hl
 unfold srcCells at hc
 cases y <;> simp only at hl hc <;> (try (cases hl; done))
 case nslice => cases hl; cases hc; exact ⟨[], by simp [rels], by rw [rel_nslice hy]; rfl⟩
 case slice b o n c sz' ex =>
  cases hl
  split at hc
  · rename_i cl q wr hb
    obtain ⟨p, c', off, hp, hcc, hnc, _, hoff, ev⟩ := rel_slice hy
    obtain ⟨vs, h1, h2, h3⟩ := get_many hh hb hc hp
    have h2' : vs.length = m * sz := h2
    refine ⟨vs, h1, ?_⟩
    rw [ev]
    refine run_firstCells_some w sz m _ k c' vs h2' (fun j u hu => ?_)
    have hj : j < vs.length := (List.getElem?_eq_some_iff.1 hu).1
    have hm0 : 0 < m := Nat.pos_of_ne_zero (fun h => by rw [h2', h] at hj; omega)
    rw [add_none, (hoff (by omega)).1]
    exact h3 j u hu
  · cases hc
 case str s =>
  cases hl
  split at hc
  · rw [lTake_eq] at hc
    cases hc
    obtain ⟨ev, bs⟩ := rel_str hy
    refine ⟨_, u8s_rel (s.take m) (fun x hx => bs x (List.mem_of_mem_take hx)), ?_⟩
    rw [ev]
    simp only [Builtin.firstCells]
    show Result.ok _ w = _
    congr 1
    have e : ((enc s).extract 0 m).data = (enc (s.take m)).data := by rw [enc_extract]; simp
    rw [e]
    apply Array.ext'
    simp [enc]
  · cases hc
theorem s_copy {o : Oper} {ty e : TypeId} {ats : Array TypeId} {x y : Operand} {xs : Array Operand} {ti : TypeInfo} (ho : o.op = .call { callee := .builtin .copy, args := xs, argTypes := ats }) (hx0 : xs[0]? = some x) (hx1 : xs[1]? = some y) (ha : ats[0]? = some ty) (hu : P.underlying ty = some (.slice e))
  (hi : P.info? e = some ti) (hh : HRel ρ t nx w) (ht : TRel ρ N T a) (h : (IOp.copy ti.size (opd x) (opd y)).run T t nx = .ok v t' nx') : Sound P o a w ρ t nx v t' nx' := by
 have hxs : (xs.map a.eval)[0]? = some (a.eval x) := by simp [hx0]
 have hys : (xs.map a.eval)[1]? = some (a.eval y) := by simp [hx1]
 simp only [IOp.run] at h
 split at h
 · rename_i Y hx hy
   split at h
   · rename_i k hk
     cases h
     have ex := rel_nslice (opd_rel ht hx)
     have ry := opd_rel ht hy
     have e1 := srcLen_run (P := P) (w := w) ry hk
     have e2 : ∃ cs : Array Value, (Builtin.firstCells ti.size 0 (a.eval y)).run P w = .ok cs w := by
      unfold srcLen at hk
      cases Y <;> simp only at hk <;> (try (cases hk; done))
      case nslice => rw [rel_nslice ry]; exact ⟨_, rfl⟩
      case slice =>
       obtain ⟨p, c', off, _, _, _, _, _, ev⟩ := rel_slice ry
       rw [ev]
       exact ⟨#[], by have := run_firstCells_some (P := P) w ti.size 0 ⟨p.blk, off, none⟩ k c' [] (by simp) (fun j u h => by simp at h); cases hk; simpa using this⟩
      case str => obtain ⟨ev, _⟩ := rel_str ry; rw [ev]; exact ⟨_, rfl⟩
     obtain ⟨cs, e2⟩ := e2
     refine sound_val hh (cv := goInt (0 : Nat)) (run_builtin ho ?_) (by simp [AV.rel, goInt])
     simp only [builtin, Sem.run_bind, Builtin.copy_, ha, hxs, hys, run_underlying hu, Result.andThen_ok, ex, e1, run_size hi]
     rw [show Nat.min k 0 = 0 from Nat.min_zero k, e2]
     rfl
   · cases h
 · rename_i b q n c sz ex Y hx hy
   split at h
   · cases h
   · rename_i hsz
     rw [Nat.beq_eq] at hsz
     subst hsz
     split at h
     · cases h
     · rename_i k hk
       rw [fNat_eq] at h
       split at h
       · cases h
       · rename_i cs hcs
         split at h
         · rename_i t2 hst
           cases h
           obtain ⟨p, c', off, hp, hcc, hnc, hex, hoff, ev⟩ := rel_slice (opd_rel ht hx)
           have ry := opd_rel ht hy
           have e1 := srcLen_run (P := P) (w := w) ry hk
           obtain ⟨news, r1, r2⟩ := src_first (P := P) hh ry hk (Nat.min_le_left _ _) hcs
           obtain ⟨p2, hp2, s1, s2, s3, s4⟩ := nxt_store hh r1 hst
           rw [hp] at hp2; cases hp2
           have hst2 : (storeCells ⟨p.blk, off, none⟩ news).run P w = .ok () (w.setCells p.blk (p.d + q) news) := by
            by_cases h0 : 0 < c'
            · obtain ⟨rfl, _⟩ := hoff h0
              have := run_storeCells_cells (P := P) p.blk (p.d + q) news 0 w (by simpa using s1) (by simpa using s2) s3
              simpa using this
            · have hn0 : news = [] := by
               have hm0 : Nat.min k n = 0 := by have : n = 0 := by omega
                                                subst this; exact Nat.min_zero k
               unfold srcCells at hcs
               rw [hm0] at hcs
               have hl0 : cs.length = 0 := by
                split at hcs
                · cases hcs; rfl
                · split at hcs
                  · obtain ⟨g1, _⟩ := gets_eq hcs
                    have : Nat.mul 0 ti.size = 0 := Nat.zero_mul _
                    omega
                  · cases hcs
                · split at hcs
                  · rw [lTake_eq] at hcs; cases hcs; rfl
                  · cases hcs
                · cases hcs
               have := rels_length r1
               exact List.eq_nil_of_length_eq_zero (by omega)
              subst hn0
              rfl
           refine ⟨ρ, _, .value (goInt (Nat.min k n : Nat)), _, run_builtin ho ?_, .inl rfl, s4, by simp [AV.rel, goInt]⟩
           simp only [builtin, Sem.run_bind, Builtin.copy_, ha, hxs, hys, run_underlying hu, Result.andThen_ok, ev, e1, run_size hi, r2]
           show ((((storeCells ⟨p.blk, off, none⟩ news).run P w).andThen _).andThen _) = _
           rw [hst2]; rfl
         · cases h
 · cases h
theorem s_clr {o : Oper} {ty e : TypeId} {ats : Array TypeId} {x : Operand} {xs : Array Operand} {i : Inf} (ho : o.op = .call { callee := .builtin .clear, args := xs, argTypes := ats }) (hx0 : xs[0]? = some x) (ha : ats[0]? = some ty) (hu : P.underlying ty = some (.slice e))
  (hi : infOf P e = some i) (hp0 : 0 < i.size) (hh : HRel ρ t nx w) (ht : TRel ρ N T a) (h : (IOp.clr i.size i.zero.cells (opd x)).run T t nx = .ok v t' nx') : Sound P o a w ρ t nx v t' nx' := by
 have hxs : (xs.map a.eval)[0]? = some (a.eval x) := by simp [hx0]
 have hundef : AV.undef.rel ρ (.tuple #[]) := by simp [AV.undef, AV.rel, rels]
 simp only [IOp.run] at h
 split at h
 · rename_i hx
   cases h
   have ex := rel_nslice (opd_rel ht hx)
   refine sound_val hh (cv := .tuple #[]) (run_builtin ho ?_) hundef
   simp only [builtin, Sem.run_bind, Builtin.clear_, ha, hxs, run_underlying hu, Result.andThen_ok, ex]
   rfl
 · rename_i b q n c sz ex hx
   obtain ⟨p, c', off, hp, hcc, hnc, hex, hoff, ev⟩ := rel_slice (opd_rel ht hx)
   split at h
   · cases h
   · rename_i hsz
     rw [Nat.beq_eq] at hsz
     subst hsz
     split at h
     · rename_i hn
       rw [Nat.beq_eq] at hn
       subst hn
       cases h
       refine sound_val hh (cv := .tuple #[]) (run_builtin ho ?_) hundef
       simp only [builtin, Sem.run_bind, Builtin.clear_, ha, hxs, run_underlying hu, Result.andThen_ok, ev]
       rfl
     · rename_i hn
       have hn0 : n ≠ 0 := fun e => by subst e; simp at hn
       split at h
       · cases h
       · rename_i hzl
         rw [Nat.beq_eq, lLen_eq] at hzl
         split at h
         · rename_i t2 hst
           cases h
           obtain ⟨ti, z, h1, h2, h3, h4, h5⟩ := infOf_some hi
           have hz : rels ρ i.zero.cells z.cells.toList := rel_cells (ofVal_rel 3 z _ h3)
           have hrr := repl_rel hz hzl hp0 n
           obtain ⟨p2, hp2, s1, s2, s3, s4⟩ := nxt_store hh hrr hst
           rw [hp] at hp2; cases hp2
           obtain ⟨rfl, _⟩ := hoff (by omega)
           have hzs : z.cells.size = i.size := by have := rels_length hz; simp at this; omega
           have hst2 : (storeCells ⟨p.blk, p.d + q, none⟩ (Builtin.zeroCells z.cells n).toList).run P w = .ok () (w.setCells p.blk (p.d + q) (Builtin.zeroCells z.cells n).toList) := by
            have e0 : (Builtin.zeroCells z.cells n).toList = ((Array.range (n * i.size)).map (z.cells[· % z.cells.size]!)).toList := by unfold Builtin.zeroCells; rw [hzs]
            have := run_storeCells_cells (P := P) p.blk (p.d + q) (Builtin.zeroCells z.cells n).toList 0 w (by rw [e0]; simpa using s1) (by rw [e0]; simpa using s2) (by rw [e0]; exact s3)
            simpa using this
           have e0 : (Builtin.zeroCells z.cells n).toList = ((Array.range (n * i.size)).map (z.cells[· % z.cells.size]!)).toList := by unfold Builtin.zeroCells; rw [hzs]
           rw [← e0] at s4
           have hzv : (zeroValue e).run P w = .ok z w := by simp [zeroValue, typeInfo, h1, h2]
           refine ⟨ρ, _, .value (.tuple #[]), _, run_builtin ho ?_, .inl rfl, s4, hundef⟩
           obtain ⟨m, rfl⟩ : ∃ m, n = m + 1 := ⟨n - 1, by omega⟩
           simp only [builtin, Sem.run_bind, Builtin.clear_, ha, hxs, run_underlying hu, Result.andThen_ok, ev, hzv]
           show ((((storeCells _ _).run P w).andThen _).andThen _) = _
           rw [hst2]; rfl
         · cases h
 · cases h
theorem run_append_zeros (t tx ty e : TypeId) (i : TypeInfo) (z : Value) (ht : P.underlying t = some (.slice e)) (hk : P.underlying tx = some (.int .i64)) (hi : P.info? e = some i) (hz : i.zero = some z) (n : Nat) (hn : 0 < n) (hs : 0 < i.size)
  (hb : n ≤ 65536) (hby : i.bytes ≤ 65536) (hfit : Builtin.nextslicecap (0 + n) 0 * i.bytes ≤ 281474976710656) :
  (Builtin.append_ #[t, tx] ty #[.slice none 0 0, .int .i64 (n : Int)]).run P w =
    .ok (.slice (some ⟨w.heap.size, 0, none⟩) n (grownCap w (0 + n) 0 e)) (w.drew.alloc (.cells (Builtin.zeroCells z.cells n ++ Builtin.zeroCells z.cells (grownCap w (0 + n) 0 e - n)) e)) := by
 have hw : IntKind.i64.wrap (n : Int) = (n : Int) := by
  rw [← wrapF_eq]
  show wrapF .i64 (.ofNat n) = .ofNat n
  unfold wrapF
  dsimp only
  rw [show Nat.ble n (kMax .i64) = true from by simp [kMax]; omega]
 have ha : ∀ w' : World, (asIntOf (.int .i64 (n : Int))).run P w' = .ok (.i64, (n : Int)) w' := fun _ => rfl
 have h1 : ¬ ((n : Int) < 0) := by omega
 have h2 : ¬ ((281474976710656 : Int) < (n : Int) * (i.bytes : Int)) := by
  have h3 : n * i.bytes ≤ 65536 * 65536 := Nat.mul_le_mul hb hby
  have h4 : ((n * i.bytes : Nat) : Int) = (n : Int) * (i.bytes : Int) := by simp
  omega
 have h3 : ¬ (n = 0) := by omega
 have h4 : ¬ (n * i.size = 0) := by
  intro e'
  rcases Nat.mul_eq_zero.1 e' with e' | e' <;> omega
 have h63 : ¬ ((9223372036854775807 : Int) < (n : Int)) := by omega
 have h48 : ¬ (281474976710656 < Builtin.nextslicecap n 0 * i.bytes) := by rw [Nat.zero_add] at hfit; omega
 simp [Builtin.append_, run_underlying ht, run_underlying hk, sizeOf, typeInfo, zeroValue, hi, hz, asInt, ha, hw, h1, h2, h3, h4, h63, h48, Question.forced, Go.newRow, grownCap, Builtin.firstCells]
theorem s_appz {o : Oper} {ty tx e : TypeId} {ats : Array TypeId} {x y : Operand} {xs : Array Operand} {i : Inf} (ho : o.op = .call { callee := .builtin .append, args := xs, argTypes := ats })
  (hxs : ∃ r, xs.toList = x :: y :: r) (hats : ∃ r, ats.toList = ty :: tx :: r) (hu : P.underlying ty = some (.slice e)) (hk : P.underlying tx = some (.int .i64)) (hi : infOf P e = some i)
  (hc : 0 < i.size ∧ i.bytes ≤ 65536 ∧ lLen i.zero.cells = i.size) (hh : HRel ρ t nx w) (ht : TRel ρ N T a) (h : (IOp.appz i.size i.zero.cells (opd x) (opd y)).run T t nx = .ok v t' nx') : Sound P o a w ρ t nx v t' nx' := by
 obtain ⟨c1, c2, c3⟩ := hc
 rw [lLen_eq] at c3
 obtain ⟨ti, z, h1, h2, h3, h4, h5⟩ := infOf_some hi
 have hz : rels ρ i.zero.cells z.cells.toList := rel_cells (ofVal_rel 3 z _ h3)
 have hzs : z.cells.size = i.size := by have := rels_length hz; simp at this; omega
 have hap : ∀ (u u' : Value) (r : Value) (w' : World), a.eval x = u → a.eval y = u' → (Builtin.append_ #[ty, tx] o.type #[u, u']).run P w = .ok r w' → (execOp a.eval o).run P w = .ok (.value r) w' := by
  intro u u' r w' e1 e2 hr
  obtain ⟨rx, hrx⟩ := hxs
  obtain ⟨ra, hra⟩ := hats
  refine run_builtin ho ?_
  have g0 : ats[0]? = some ty := by rw [← Array.getElem?_toList, hra]; rfl
  have g1 : ats[1]? = some tx := by rw [← Array.getElem?_toList, hra]; rfl
  have g2 : (xs.map a.eval)[0]? = some u := by rw [← Array.getElem?_toList]; simp [hrx, e1]
  have g3 : (xs.map a.eval)[1]? = some u' := by rw [← Array.getElem?_toList]; simp [hrx, e2]
  have : Builtin.append_ ats o.type (xs.map a.eval) = Builtin.append_ #[ty, tx] o.type #[u, u'] := by
   unfold Builtin.append_
   simp only [g0, g1, g2, g3]
   rfl
  simp only [builtin, Sem.run_bind, this, hr]
  rfl
 simp only [IOp.run] at h
 split at h
 · rename_i l hx hy
   have ex := rel_nslice (opd_rel ht hx)
   have ey := rel_int (opd_rel ht hy)
   split at h
   · rename_i hl
     rw [Nat.beq_eq] at hl
     subst hl
     cases h
     refine sound_val hh (cv := .slice none 0 0) (hap _ _ _ _ ex ey ?_) (by simp [AV.rel])
     have hw : IntKind.i64.wrap 0 = 0 := by decide
     have ha : ∀ w' : World, (asIntOf (.int .i64 0)).run P w' = .ok (.i64, 0) w' := fun _ => rfl
     show (Builtin.append_ #[ty, tx] o.type #[.slice none 0 0, .int .i64 0]).run P w = _
     simp [Builtin.append_, run_underlying hu, run_underlying hk, sizeOf, typeInfo, h1, asInt, ha, hw]
   · rename_i hl
     have hl' : 0 < l := Nat.pos_of_ne_zero (fun e => by subst e; exact absurd hl (by decide))
     split at h
     · rename_i hbnd
       rw [fNat_eq] at h
       obtain ⟨rfl, rfl, rfl⟩ := mk_ok h
       have hb' : l * i.size ≤ 65536 := Nat.le_of_ble_eq_true hbnd
       have hlb : l ≤ 65536 := Nat.le_trans (Nat.le_mul_of_pos_right l c1) hb'
       have hfit : Builtin.nextslicecap (0 + l) 0 * ti.bytes ≤ 281474976710656 := growslice_fits (by omega) (by rw [h5]; exact Nat.le_trans (Nat.mul_le_mul (show 0 + l ≤ 65536 by omega) c2) (by decide))
       have hrun := run_append_zeros (P := P) (w := w) ty tx o.type e ti z hu hk h1 h2 l hl' (by rw [h4]; exact c1) hlb (by rw [h5]; exact c2) hfit
       have hge := grownCap_ge w (0 + l) 0 e
       have hrr : rels ρ (repl i.zero.cells l) (Builtin.zeroCells z.cells l).toList := by
        have := repl_rel hz c3 c1 l
        unfold Builtin.zeroCells
        rw [hzs] at this ⊢
        exact this
       have hobj : Builtin.zeroCells z.cells l ++ Builtin.zeroCells z.cells (grownCap w (0 + l) 0 e - l) = ((Builtin.zeroCells z.cells l).toList ++ (Builtin.zeroCells z.cells (grownCap w (0 + l) 0 e - l)).toList).toArray := by
        apply Array.ext'; simp
       rw [hobj] at hrun
       have hn := (nxt_drew hh).trans (nxt_row hh.drew hrr (Builtin.zeroCells z.cells (grownCap w (0 + l) 0 e - l)).toList e (0, 0) (fun j hj => by omega))
       refine ⟨_, _, _, _, hap _ _ _ _ ex ey hrun, .inl rfl, hn, ?_⟩
       rw [Nat.zero_add] at hge ⊢
       refine rel_newSlice hge hge (fun h => by cases h) ?_ rfl
       show grownCap w l 0 e * i.size ≤ (Builtin.zeroCells z.cells l).toList.length + (Builtin.zeroCells z.cells (grownCap w l 0 e - l)).toList.length
       have hzl : ∀ m, (Builtin.zeroCells z.cells m).toList.length = m * i.size := fun m => by rw [Array.length_toList, size_zeroCells, hzs]
       rw [hzl, hzl, ← Nat.add_mul]
       exact Nat.mul_le_mul_right _ (by omega)
     · cases h
 · cases h
theorem checkKey_run {sk : SK} {kt : TypeId} {b : Bool} {n : Nat} {u : Value} (hs : skOf P kt = some sk) : (Instr.checkKey b (n + 1) kt u).run P w = .ok () w := by
 unfold skOf at hs
 split at hs <;> first | (cases hs; done) | skip
 all_goals
  rename_i hu
  cases u <;> simp [Instr.checkKey, run_underlying hu]
theorem sk_under {sk : SK} {kt : TypeId} (hs : skOf P kt = some sk) : ∃ d, P.underlying kt = some d ∧ (d = .bool ∧ sk = .bool ∨ (∃ k, d = .int k) ∧ sk = .int ∨ d = .string ∧ sk = .str) := by
 unfold skOf at hs
 split at hs
 · rename_i hu; cases hs; exact ⟨_, hu, .inl ⟨rfl, rfl⟩⟩
 · rename_i k hu; cases hs; exact ⟨_, hu, .inr (.inl ⟨⟨_, rfl⟩, rfl⟩)⟩
 · rename_i hu; cases hs; exact ⟨_, hu, .inr (.inr ⟨rfl, rfl⟩)⟩
 · cases hs
theorem enc_beq {a b : List Nat} (b1 : ∀ x ∈ a, x < 256) (b2 : ∀ x ∈ b, x < 256) : (enc a == enc b) = decide (a = b) := by
 rw [beq_toListBytes, ByteArray.toList_eq, ByteArray.toList_eq, enc_data, enc_data, Bool.eq_iff_iff]
 simp only [beq_iff_eq, decide_eq_true_eq]
 exact ⟨fun h => enc_inj b1 b2 h, fun h => by rw [h]⟩
theorem cellEq_now {sk : SK} {d : TypeDesc} {x y : AV} {u z : Value} {r : Bool} (hd : d = .bool ∧ sk = .bool ∨ (∃ k, d = .int k) ∧ sk = .int ∨ d = .string ∧ sk = .str) (hx : x.rel ρ u) (hy : y.rel ρ z) (h : cellEq sk x y = some r) :
  Instr.sameNow d u z = some r ∧ (r = true → u = z ∧ ∀ n, Instr.sameBits n z u = true) := by
 unfold cellEq at h
 rcases hd with ⟨rfl, rfl⟩ | ⟨⟨k, rfl⟩, rfl⟩ | ⟨rfl, rfl⟩
 · split at h <;> simp_all
   rename_i a b
   rw [rel_bool hx, rel_bool hy]
   refine ⟨by simp [Instr.sameNow, h], fun e => ?_⟩
   subst e
   simp at h; subst h
   exact ⟨rfl, fun n => by cases n <;> simp [Instr.sameBits]⟩
 · split at h <;> simp_all
   rename_i k1 m k2 n
   split at h
   · rename_i hk
     obtain rfl := kN_eq hk
     cases h
     rw [rel_int hx, rel_int hy, iEq_eq]
     refine ⟨by simp [Instr.sameNow]; rw [Bool.eq_iff_iff]; simp, fun e => ?_⟩
     have e' : m = n := by simpa using e
     subst e'
     exact ⟨rfl, fun n => by cases n <;> simp [Instr.sameBits]⟩
   · cases h
 · split at h <;> simp_all
   rename_i a b
   obtain ⟨e1, b1⟩ := rel_str hx
   obtain ⟨e2, b2⟩ := rel_str hy
   rw [e1, e2]
   rw [sEq_eq] at h
   refine ⟨by simp only [Instr.sameNow, enc_beq b1 b2, h], fun e => ?_⟩
   subst e
   have e' : a = b := by simpa using h
   subst e'
   exact ⟨rfl, fun n => by cases n <;> simp [Instr.sameBits, enc_beq b1 b1]⟩
theorem findK_now {sk : SK} {d : TypeDesc} {k : AV} {u : Value} (hd : d = .bool ∧ sk = .bool ∨ (∃ k, d = .int k) ∧ sk = .int ∨ d = .string ∧ sk = .str) (hk : k.rel ρ u) : ∀ (es : List (AV × AV × Nat)) (ms : List MapEntry) (i : Nat) (r : Option (Nat × AV)), entsRel ρ es ms → findK sk k es i = some r →
  (r = none ∧ Instr.findNow d u ms i = some none) ∨ ∃ j y m, r = some (j, y) ∧ i ≤ j ∧ ms[j - i]? = some m ∧ y.rel ρ m.val ∧ Instr.findNow d u ms i = some (some (j, m.val)) ∧ m.key = u ∧ ∀ n, Instr.sameBits n m.key u = true
 | [], ms, i, r, hes, h => by
   have : ms = [] := List.eq_nil_of_length_eq_zero (by have := hes.1; simp at this; omega)
   subst this
   have e : some none = some r := h
   cases e
   exact .inl ⟨rfl, rfl⟩
 | e :: es, [], i, r, hes, h => by have := hes.1; simp at this
 | e :: es, m :: ms, i, r, hes, h => by
   have he := hes.2 0 e m (by simp) (by simp)
   have hes' : entsRel ρ es ms := ⟨by have := hes.1; simpa using this, fun j x y hx hy => hes.2 (j + 1) x y (by simpa using hx) (by simpa using hy)⟩
   have h' : (match cellEq sk k e.1 with
    | some true => some (some (i, e.2.1))
    | some false => findK sk k es (Nat.succ i)
    | none => none) = some r := h
   split at h'
   · rename_i hc
     cases h'
     obtain ⟨s1, s2⟩ := cellEq_now hd hk he.1 hc
     obtain ⟨s3, s4⟩ := s2 rfl
     refine .inr ⟨i, e.2.1, m, rfl, Nat.le_refl _, by simp, he.2.1, ?_, s3.symm, s4⟩
     simp [Instr.findNow, s1]
   · rename_i hc
     obtain ⟨s1, _⟩ := cellEq_now hd hk he.1 hc
     rcases findK_now hd hk es ms (Nat.succ i) r hes' h' with ⟨rfl, q⟩ | ⟨j, y, m', rfl, q1, q2, q3, q4, q5, q6⟩
     · exact .inl ⟨rfl, by simp only [Instr.findNow, s1]; exact q⟩
     · refine .inr ⟨j, y, m', rfl, by omega, ?_, q3, by simp only [Instr.findNow, s1]; exact q4, q5, q6⟩
       rw [show j - i = (j - Nat.succ i) + 1 by omega]
       simpa using q2
   · cases h'
theorem getObj_map {b : Nat} {es : List (AV × AV × Nat)} {clk : Nat} {p : Pl} (hh : HRel ρ t nx w) (hb : t.get b = some (.map es clk)) (hp : ρ b = some p) : ∃ ms, (getObj p.blk).run P w = .ok (.map ms clk) w ∧ w.heap[p.blk]? = some (.map ms clk) ∧ entsRel ρ es ms.toList := by
 obtain ⟨p', hp', hl, ms, hm, hes⟩ := hh.blk b _ hb
 rw [hp] at hp'; cases hp'
 exact ⟨ms, by simp [getObj, Sem.run, hm], hm, hes⟩
theorem s_look {o : Oper} {ty kt e : TypeId} {x k : Operand} {ok : Bool} {sk : SK} {i : Inf} (ho : o.op = .lookup ty x k ok) (hu : P.underlying ty = some (.map kt e)) (hs : skOf P kt = some sk) (hi : infOf P e = some i)
  (hh : HRel ρ t nx w) (ht : TRel ρ N T a) (h : (IOp.look sk i.zero (opd x) (opd k) ok).run T t nx = .ok v t' nx') : Sound P o a w ρ t nx v t' nx' := by
 obtain ⟨ti, z, h1, h2, h3, h4, h5⟩ := infOf_some hi
 have hz : i.zero.rel ρ z := ofVal_rel 3 z _ h3
 obtain ⟨d, hd, hds⟩ := sk_under hs
 have fin : ∀ (y : AV) (cy : Value) (f : Bool), y.rel ρ cy → (match ok with | true => V1.ok (.tup [y, .bool f]) t nx | false => .ok y t nx) = .ok v t' nx' → (Instr.lookup ty (a.eval x) (a.eval k) ok).run P w = .ok (if ok then .tuple #[cy, .bool f] else cy) w → Sound P o a w ρ t nx v t' nx' := by
  intro y cy f hy hv hr
  cases ok
  · cases hv
    refine sound_val hh (cv := cy) ?_ hy
    simp only [execOp, ho, Sem.run_bind, hr, Result.andThen_ok]; rfl
  · cases hv
    refine sound_val hh (cv := .tuple #[cy, .bool f]) ?_ (by simp only [AV.rel]; exact ⟨_, rfl, rels_cons.2 ⟨_, _, rfl, hy, rels_cons.2 ⟨_, _, rfl, by simp [AV.rel], by simp [rels]⟩⟩⟩)
    simp only [execOp, ho, Sem.run_bind, hr, Result.andThen_ok]; rfl
 simp only [IOp.run] at h
 split at h
 · rename_i K hx hk
   have ex := rel_nmap (opd_rel ht hx)
   refine fin i.zero z false hz h ?_
   have hf : (Instr.findKey kt (a.eval k) []).run P w = .ok none w := by simp [Instr.findKey, run_underlying hd, Instr.findNow]
   simp [Instr.lookup, run_underlying hu, ex, checkKey_run (n := 9999) hs, hf, zeroValue, typeInfo, h1, h2]
 · rename_i b K hx hk
   obtain ⟨p, hp, ex⟩ := rel_map (opd_rel ht hx)
   have rk := opd_rel ht hk
   split at h
   · rename_i es clk hb
     obtain ⟨ms, g1, g2, g3⟩ := getObj_map (P := P) hh hb hp
     split at h
     · rename_i j y hf
       rcases findK_now hds rk es ms.toList 0 _ g3 hf with ⟨q, _⟩ | ⟨j', y', m', q0, q1, q2, q3, q4, q5, q6⟩
       · cases q
       · cases q0
         refine fin y m'.val true q3 h ?_
         have hf2 : (Instr.findKey kt (a.eval k) ms.toList).run P w = .ok (some (j, m'.val)) w := by simp [Instr.findKey, run_underlying hd, q4]
         simp [Instr.lookup, run_underlying hu, ex, g1, checkKey_run (n := 9999) hs, hf2]
     · rename_i hf
       rcases findK_now hds rk es ms.toList 0 _ g3 hf with ⟨_, q⟩ | ⟨j', y', m', q0, _⟩
       · refine fin i.zero z false hz h ?_
         have hf2 : (Instr.findKey kt (a.eval k) ms.toList).run P w = .ok none w := by simp [Instr.findKey, run_underlying hd, q]
         simp [Instr.lookup, run_underlying hu, ex, g1, checkKey_run (n := 9999) hs, hf2, zeroValue, typeInfo, h1, h2]
       · cases q0
     · cases h
   · cases h
 · cases h
theorem twoOf_some {kt : TypeId} (h : twoOf P kt = true) : ∃ e k i, P.underlying kt = some (.array 2 e) ∧ P.underlying e = some (.int k) ∧ P.info? e = some i ∧ i.size = 1 := by
 unfold twoOf at h
 split at h
 · rename_i e hu
   split at h
   · rename_i k i h1 h2
     exact ⟨e, k, i, hu, h1, h2, by simpa using h⟩
   · cases h
 · cases h
theorem checkKey_two {kt : TypeId} (hk : twoOf P kt = true) {k1 k2 : IntKind} {m n : Int} {b : Bool} (f : Nat) : (Instr.checkKey b (f + 2) kt (.agg #[.int k1 m, .int k2 n])).run P w = .ok () w := by
 obtain ⟨e, k, i, h1, h2, h3, h4⟩ := twoOf_some hk
 have hc : ∀ (u : Value), (Instr.checkKey b (f + 1) e u).run P w = .ok () w := fun u => by
  cases u <;> simp [Instr.checkKey, run_underlying h2]
 have hs : (sizeOf e).run P w = .ok 1 w := by simp [sizeOf, typeInfo, h3, h4]
 have hp : ∀ (cs : Array Value) (j : Nat) (u : Value), cs[j]? = some u → (part e cs j).run P w = .ok u w := fun cs j u hu => by simp [part, isAgg, run_underlying h2, hu]
 have p0 := hp #[.int k1 m, .int k2 n] 0 _ rfl
 have p1 := hp #[.int k1 m, .int k2 n] 1 _ rfl
 rw [Instr.checkKey]
 simp only [Sem.run_bind, run_underlying h1, Result.andThen_ok]
 simp [List.range', hs, p0, p1, hc]
theorem s_looke {o : Oper} {ty kt e : TypeId} {x k : Operand} {ok : Bool} {i : Inf} (ho : o.op = .lookup ty x k ok) (hu : P.underlying ty = some (.map kt e)) (hs : twoOf P kt = true) (hi : infOf P e = some i)
  (hh : HRel ρ t nx w) (ht : TRel ρ N T a) (h : (IOp.looke i.zero (opd x) (opd k) ok).run T t nx = .ok v t' nx') : Sound P o a w ρ t nx v t' nx' := by
 obtain ⟨ti, z, h1, h2, h3, h4, h5⟩ := infOf_some hi
 have hz : i.zero.rel ρ z := ofVal_rel 3 z _ h3
 obtain ⟨e', k', i', g1, -⟩ := twoOf_some hs
 have fin : (match ok with | true => V1.ok (.tup [i.zero, .bool false]) t nx | false => .ok i.zero t nx) = .ok v t' nx' → (Instr.lookup ty (a.eval x) (a.eval k) ok).run P w = .ok (if ok then .tuple #[z, .bool false] else z) w → Sound P o a w ρ t nx v t' nx' := by
  intro hv hr
  cases ok
  · cases hv
    refine sound_val hh (cv := z) ?_ hz
    simp only [execOp, ho, Sem.run_bind, hr, Result.andThen_ok]; rfl
  · cases hv
    refine sound_val hh (cv := .tuple #[z, .bool false]) ?_ (by simp only [AV.rel]; exact ⟨_, rfl, rels_cons.2 ⟨_, _, rfl, hz, rels_cons.2 ⟨_, _, rfl, by simp [AV.rel], by simp [rels]⟩⟩⟩)
    simp only [execOp, ho, Sem.run_bind, hr, Result.andThen_ok]; rfl
 have hf : (Instr.findKey kt (a.eval k) []).run P w = .ok none w := by simp [Instr.findKey, run_underlying g1, Instr.findNow]
 have key : ∀ (q1 q2 : IntKind) (m n : Int), (AV.agg [.int q1 m, .int q2 n]).rel ρ (a.eval k) → a.eval k = .agg #[.int q1 m, .int q2 n] := by
  intro q1 q2 m n hr
  simp only [AV.rel] at hr
  obtain ⟨cs, e1, e2⟩ := hr
  simp only [rels, AV.rel] at e2
  obtain ⟨v1, r1, e3, rfl, v2, r2, rfl, rfl, rfl⟩ := e2
  rw [e1]
  congr 1
  apply Array.ext'; rw [e3]
 simp only [IOp.run] at h
 split at h
 · rename_i q1 m q2 n hx hk
   have ex := rel_nmap (opd_rel ht hx)
   have ek := key _ _ _ _ (opd_rel ht hk)
   refine fin h ?_
   have hck := checkKey_two (P := P) (w := w) hs (k1 := q1) (k2 := q2) (m := m) (n := n) (b := true) 9998
   rw [ek] at hf ⊢
   simp [Instr.lookup, run_underlying hu, ex, hck, hf, zeroValue, typeInfo, h1, h2]
 · rename_i b q1 m q2 n hx hk
   obtain ⟨p, hp, ex⟩ := rel_map (opd_rel ht hx)
   have ek := key _ _ _ _ (opd_rel ht hk)
   split at h
   · rename_i clk hb
     obtain ⟨ms, g1, g2, g3⟩ := getObj_map (P := P) hh hb hp
     have hms : ms = #[] := by
      have := g3.1
      simp at this
      exact Array.eq_empty_of_size_eq_zero (by omega)
     subst hms
     refine fin h ?_
     have hck := checkKey_two (P := P) (w := w) hs (k1 := q1) (k2 := q2) (m := m) (n := n) (b := true) 9998
     rw [ek] at hf ⊢
     simp [Instr.lookup, run_underlying hu, ex, g1, hck, hf, zeroValue, typeInfo, h1, h2]
   · cases h
 · cases h
theorem setVal_eq (es : List (AV × AV × Nat)) : ∀ (i : Nat) (k v : AV), setVal es i k v = es.modify i (fun e => (k, v, e.2.2)) := by
 induction es with
 | nil => intro i k v; simp [setVal]
 | cons x r ih =>
   intro i k v
   show @Bool.rec (fun _ => List (AV × AV × Nat)) (x :: setVal r (Nat.pred i) k v) ((k, v, x.2.2) :: r) (Nat.beq i 0) = _
   rw [brec]
   cases i with
   | zero => rfl
   | succ i => rw [if_neg (by simp [Nat.beq_eq]), ih]; rfl
theorem nxt_setObj {b : Nat} {k k' : Blk} {p : Pl} {ob : Obj} (hh : HRel ρ t nx w) (hb : t.get b = some k) (hm : k.mayWrite = true) (hp : ρ b = some p) (hk : ∀ w' : World, w'.heap[p.blk]? = some ob → k'.rel ρ p w') :
  Nxt ρ t nx w ρ (t.put (some k') b) nx { w with heap := w.heap.setIfInBounds p.blk ob } := by
 obtain ⟨p', hp', hl, _⟩ := hh.blk b _ hb
 rw [hp] at hp'; cases hp'
 refine nxt_put hh hb hm hp (by simp) ⟨rfl, rfl, rfl⟩ (fun i hi => ?_) (hk _ ?_)
 · show (w.heap.setIfInBounds p.blk ob)[i]? = _
   rw [Array.getElem?_setIfInBounds_ne (Ne.symm hi)]
 · show (w.heap.setIfInBounds p.blk ob)[p.blk]? = _
   rw [Array.getElem?_setIfInBounds_self_of_lt hl]
theorem setObj_run {r : Nat} {ob ob0 : Obj} (h : w.heap[r]? = some ob0) (hn : ∀ c e f, ob0 ≠ .cells c e f) : (setObj r ob).run P w = .ok () { w with heap := w.heap.setIfInBounds r ob } := by
 unfold setObj
 cases ob0 <;> first | exact absurd rfl (hn _ _ _) | simp only [Sem.run, h]
theorem s_mupd {o : Oper} {ty kt e : TypeId} {x k y : Operand} {sk : SK} (ho : o.op = .mapUpdate ty x k y) (hu : P.underlying ty = some (.map kt e)) (hs : skOf P kt = some sk)
  (hh : HRel ρ t nx w) (ht : TRel ρ N T a) (h : (IOp.mupd sk (opd x) (opd k) (opd y)).run T t nx = .ok v t' nx') : Sound P o a w ρ t nx v t' nx' := by
 obtain ⟨d, hd, hds⟩ := sk_under hs
 have hund : AV.undef.rel ρ undef := by simp [AV.undef, AV.rel, undef, rels]
 simp only [IOp.run] at h
 split at h
 · rename_i b K Y hx hk hy
   obtain ⟨p, hp, ex⟩ := rel_map (opd_rel ht hx)
   have rk := opd_rel ht hk
   have ry := opd_rel ht hy
   split at h
   · rename_i es clk hb
     obtain ⟨ms, g1, g2, g3⟩ := getObj_map (P := P) hh hb hp
     split at h
     · rename_i j y0 hf
       cases h
       rcases findK_now hds rk es ms.toList 0 _ g3 hf with ⟨q, _⟩ | ⟨j', y', m', q0, q1, q2, q3, q4, q5, q6⟩
       · cases q
       · cases q0
         have hf2 : (Instr.findKey kt (a.eval k) ms.toList).run P w = .ok (some (j, m'.val)) w := by simp [Instr.findKey, run_underlying hd, q4]
         have hmj : ms[j]? = some m' := by simpa using q2
         have hkk : (Instr.keyThatStays m'.key (a.eval k)).run P w = .ok (a.eval k) w := by simp [Instr.keyThatStays, q6]
         have hset := setObj_run (P := P) (ob := .map (ms.modify j fun e => { e with key := a.eval k, val := a.eval y }) clk) g2 (fun _ _ _ h => by cases h)
         refine ⟨ρ, _, .skip, undef, ?_, .inr ⟨rfl, rfl⟩, nxt_setObj hh hb rfl hp (k' := .map (setVal es j K Y) clk) (ob := .map (ms.modify j fun e => { e with key := a.eval k, val := a.eval y }) clk) (fun w' hw' => ⟨_, hw', ?_⟩), hund⟩
         · simp only [execOp, ho, Sem.run_bind, Instr.mapUpdate, run_underlying hu, Result.andThen_ok, ex, g1, checkKey_run (n := 9999) hs, hf2, hmj, Option.map_some, Option.getD_some, hkk, hset]
           rfl
         · rw [setVal_eq, Array.toList_modify]
           refine ⟨by rw [List.length_modify, List.length_modify]; exact g3.1, fun i e m he hm => ?_⟩
           rw [List.getElem?_modify] at he hm
           by_cases hij : j = i
           · subst hij
             cases he' : es[j]? with
             | none => rw [he'] at he; simp at he
             | some e0 =>
               cases hm' : ms.toList[j]? with
               | none => rw [hm'] at hm; simp at hm
               | some m0 =>
                 rw [he'] at he; rw [hm'] at hm
                 simp at he hm
                 subst he; subst hm
                 exact ⟨rk, ry, (g3.2 j e0 m0 he' hm').2.2⟩
           · simp [hij] at he hm
             exact g3.2 i e m he (by simpa using hm)
     · rename_i hf
       rw [lApp_eq] at h
       cases h
       rcases findK_now hds rk es ms.toList 0 _ g3 hf with ⟨_, q⟩ | ⟨j', y', m', q0, _⟩
       · have hf2 : (Instr.findKey kt (a.eval k) ms.toList).run P w = .ok none w := by simp [Instr.findKey, run_underlying hd, q]
         have hset := setObj_run (P := P) (ob := .map (ms.push { key := a.eval k, val := a.eval y, born := clk }) (clk + 1)) g2 (fun _ _ _ h => by cases h)
         refine ⟨ρ, _, .skip, undef, ?_, .inr ⟨rfl, rfl⟩, nxt_setObj hh hb rfl hp (k' := .map (es ++ [(K, Y, clk)]) (Nat.succ clk)) (ob := .map (ms.push { key := a.eval k, val := a.eval y, born := clk }) (clk + 1)) (fun w' hw' => ⟨_, hw', ?_⟩), hund⟩
         · simp only [execOp, ho, Sem.run_bind, Instr.mapUpdate, run_underlying hu, Result.andThen_ok, ex, g1, checkKey_run (n := 9999) hs, hf2, hset]
           rfl
         · rw [Array.toList_push]
           refine ⟨by simp [g3.1], fun i e m he hm => ?_⟩
           by_cases hi : i < es.length
           · rw [List.getElem?_append_left hi] at he
             rw [List.getElem?_append_left (by rw [← g3.1]; exact hi)] at hm
             exact g3.2 i e m he hm
           · rw [List.getElem?_append_right (by omega)] at he
             rw [List.getElem?_append_right (by rw [← g3.1]; omega), ← g3.1] at hm
             cases hidx : i - es.length with
             | zero => rw [hidx] at he hm; simp at he hm; subst he; subst hm; exact ⟨rk, ry, rfl⟩
             | succ q => rw [hidx] at he; simp at he
       · cases q0
     · cases h
   · cases h
 · cases h
end Go.Proofs.YtpjohgnhmjceiaaGreatDoor.AX
