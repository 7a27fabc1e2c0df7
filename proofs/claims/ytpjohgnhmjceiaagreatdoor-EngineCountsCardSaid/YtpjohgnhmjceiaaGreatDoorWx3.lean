/- The program's functions in the evaluator's terms: logic: what each of them answers, whatever comes in.
   Conditions: those of each theorem. -/
import Derived.Test.YtpjohgnhmjceiaaGreatDoorWx2
set_option linter.all false
set_option linter.unusedVariables false
set_option linter.unusedSectionVars false
set_option maxRecDepth 100000
open Go Go.Proofs.YtpjohgnhmjceiaaGreatDoor.AX Go.Proofs
namespace Go.Proofs.YtpjohgnhmjceiaaGreatDoor.WX
section
variable [Env]
def strs (l : List (List Nat)) : List AV := l.map AV.str
theorem strs_len (l : List (List Nat)) : (strs l).length = l.length := by simp [strs]
theorem strs_get {l : List (List Nat)} {i : Nat} {s : List Nat} (h : l[i]? = some s) : (strs l)[i]? = some (.str s) := by simp [strs, h]
theorem strs_set (l : List (List Nat)) (i : Nat) (s : List Nat) : (strs l).set i (.str s) = strs (l.set i s) := by simp [strs, List.map_set]
theorem strs_all (l : List (List Nat)) : allCell (strs l) = true := by
 rw [allCell_iff]
 intro z hz
 simp only [strs, List.mem_map] at hz
 obtain ⟨s, -, rfl⟩ := hz
 rfl
theorem o_storeS {T : TA} {t : TB} {nx : Nat} {x y : Opd} {b o : Nat} {l : List (List Nat)} {s : List Nat} (h : x.ev T = some (.ptr b o)) (hy : y.ev T = some (.str s)) (hb : hv t b = some (.row (strs l) true)) (ho : o < l.length) :
   ∃ t', (IOp.store 1 x y).run T t nx = .ok .undef t' nx ∧ hv t' = upd (hv t) b (some (.row (strs (l.set o s)) true)) := by
 rw [← strs_set]
 exact o_storeC h hy rfl rfl hb (by rw [strs_len]; exact ho)
section
variable {T : TA} {t : TB} {nx : Nat} {x y z : Opd}
theorem o_eqlK {k : IntKind} {a b : Int} (hx : x.ev T = some (.int k a)) (hy : y.ev T = some (.int k b)) : (IOp.bin .eql x y).run T t nx = .ok (.bool (decide (a = b))) t nx := o_bin hx hy (by cases k <;> rfl) (by decide) (by decide) (by cases k <;> (show some (AV.bool (iEq a b)) = _; rw [iEq_eq]))
theorem o_neqK {k : IntKind} {a b : Int} (hx : x.ev T = some (.int k a)) (hy : y.ev T = some (.int k b)) : (IOp.bin .neq x y).run T t nx = .ok (.bool (!decide (a = b))) t nx := o_bin hx hy (by cases k <;> rfl) (by decide) (by decide) (by cases k <;> (show some (AV.bool (!iEq a b)) = _; rw [iEq_eq]))
theorem o_cat {a b : List Nat} (hx : x.ev T = some (.str a)) (hy : y.ev T = some (.str b)) (h : a.length + b.length ≤ 1073741824) : (IOp.bin .add x y).run T t nx = .ok (.str (a ++ b)) t nx := by
 simp only [IOp.run, hx, hy, strOp, lLen_eq]
 rw [show Nat.ble (Nat.add a.length b.length) 1073741824 = true from by simpa using h, lApp_eq]
 exact retV_ok' _ t nx
theorem bnd_at {k : IntKind} {m c : Nat} (hy : y.ev T = some (.int k (m : Int))) (hm : m ≤ c) : bnd y T c = some m := by
 have e : y.ev T = some (.int k (.ofNat m)) := hy
 unfold bnd
 rw [e]
 dsimp only [idx]
 rw [show Nat.ble m c = true from by simp; omega]
theorem o_ss_lo {k : IntKind} {s : List Nat} {m : Nat} (hx : x.ev T = some (.str s)) (hy : y.ev T = some (.int k (m : Int))) (hm : m ≤ s.length) : (IOp.sslice x (some y) none).run T t nx = .ok (.str (s.drop m)) t nx := by
 have hbs : bnds T s.length s.length (some y) none none = some (m, s.length, s.length) := by
   unfold bnds
   dsimp only
   rw [bnd_at hy hm]
 simp only [IOp.run, hx, lLen_eq, hbs, lTake_eq, lDrop_eq]
 rw [show (s.drop m).take (Nat.sub s.length m) = s.drop m from List.take_of_length_le (by rw [List.length_drop]; exact Nat.le_refl _)]
theorem o_ss_hi {k : IntKind} {s : List Nat} {m : Nat} (hx : x.ev T = some (.str s)) (hy : y.ev T = some (.int k (m : Int))) (hm : m ≤ s.length) : (IOp.sslice x none (some y)).run T t nx = .ok (.str (s.take m)) t nx := by
 have hbs : bnds T s.length s.length none (some y) none = some (0, m, s.length) := by
   unfold bnds
   dsimp only
   rw [bnd_at hy hm]
 simp only [IOp.run, hx, lLen_eq, hbs, lTake_eq, lDrop_eq]
 rfl
theorem o_ss_2 {k k' : IntKind} {s : List Nat} {m n : Nat} (hx : x.ev T = some (.str s)) (hy : y.ev T = some (.int k (m : Int))) (hz : z.ev T = some (.int k' (n : Int))) (hm : m ≤ n) (hn : n ≤ s.length) : (IOp.sslice x (some y) (some z)).run T t nx = .ok (.str ((s.drop m).take (n - m))) t nx := by
 have hbs : bnds T s.length s.length (some y) (some z) none = some (m, n, s.length) := by
   unfold bnds
   dsimp only
   rw [bnd_at hz hn]
   dsimp only
   rw [bnd_at hy hm]
 simp only [IOp.run, hx, lLen_eq, hbs, lTake_eq, lDrop_eq]
 rfl
theorem wrap8 {a : Nat} (h : a < 256) : wrapF .u8 (a : Int) = (a : Int) := by
 show wrapF .u8 (.ofNat a) = .ofNat a
 unfold wrapF; dsimp only; rw [show Nat.ble a (kMax .u8) = true from by simp [kMax]; omega]
theorem o_sub8 {a b : Nat} (hx : x.ev T = some (.int .u8 (a : Int))) (hy : y.ev T = some (.int .u8 (b : Int))) (h : b ≤ a) (h2 : a < 256) : (IOp.bin .sub x y).run T t nx = .ok (.int .u8 ((a - b : Nat) : Int)) t nx := by
 refine o_bin hx hy rfl (by decide) (by decide) ?_
 show some (AV.int .u8 (wrapF .u8 ((a : Int) - (b : Int)))) = _
 rw [show (a : Int) - (b : Int) = ((a - b : Nat) : Int) by omega, wrap8 (by omega)]
theorem o_add8 {a b : Nat} (hx : x.ev T = some (.int .u8 (a : Int))) (hy : y.ev T = some (.int .u8 (b : Int))) (h : a + b < 256) : (IOp.bin .add x y).run T t nx = .ok (.int .u8 ((a + b : Nat) : Int)) t nx := by
 refine o_bin hx hy rfl (by decide) (by decide) ?_
 show some (AV.int .u8 (wrapF .u8 ((a : Int) + (b : Int)))) = _
 rw [show (a : Int) + (b : Int) = ((a + b : Nat) : Int) by omega, wrap8 h]
theorem o_and8 {a : Nat} (hx : x.ev T = some (.int .u8 (a : Int))) (h : a < 256) : (IOp.bin .and x (.c (.int .u8 1))).run T t nx = .ok (.int .u8 ((a % 2 : Nat) : Int)) t nx := by
 refine o_bin hx (y := .c (.int .u8 1)) (k' := .u8) (b := 1) rfl rfl (by decide) (by decide) ?_
 show (bitsF .and .u8 (.ofNat a) (.ofNat 1)).map (AV.int .u8) = _
 have e : bitsF .and .u8 (.ofNat a) (.ofNat 1) = some (.ofNat (Nat.land a 1)) := by
   show (match Nat.ble a (kMax .u8), Nat.ble 1 (kMax .u8) with
     | true, true => some (Int.ofNat (Nat.land a 1))
     | _, _ => bitsG .and .u8 (.ofNat a) (.ofNat 1)) = _
   rw [show Nat.ble a (kMax .u8) = true from by simp [kMax]; omega]
   rfl
 rw [e, show Nat.land a 1 = a % 2 from Nat.and_one_is_mod a]
 rfl
theorem o_half8 {a : Nat} (hx : x.ev T = some (.int .u8 (a : Int))) : (IOp.bin .shr x (.c (.int .u64 1))).run T t nx = .ok (.int .u8 ((a / 2 : Nat) : Int)) t nx := by
 have e : x.ev T = some (.int .u8 (.ofNat a)) := hx
 have e2 : (Opd.c (.int .u64 1)).ev T = some (.int .u64 (.ofNat 1)) := rfl
 have h : shrF .u8 (.ofNat a) (.ofNat 1) = some (.ofNat (a / 2)) := rfl
 simp only [IOp.run, e, e2, h, fInt_eq]; rfl
theorem o_minN2 {a b : Nat} (hx : x.ev T = some (.int .i64 (a : Int))) (hy : y.ev T = some (.int .i64 (b : Int))) : (IOp.mm false x y).run T t nx = .ok (.int .i64 ((min a b : Nat) : Int)) t nx := by
 simp only [IOp.run, hx, hy, iLt_eq]
 by_cases h : (b : Int) < (a : Int)
 · rw [decide_eq_true h, show min a b = b by omega]
 · rw [decide_eq_false h, show min a b = a by omega]
theorem o_maxN2 {a b : Nat} (hx : x.ev T = some (.int .i64 (a : Int))) (hy : y.ev T = some (.int .i64 (b : Int))) : (IOp.mm true x y).run T t nx = .ok (.int .i64 ((max a b : Nat) : Int)) t nx := by
 simp only [IOp.run, hx, hy, iLt_eq]
 by_cases h : (a : Int) < (b : Int)
 · rw [decide_eq_true h, show max a b = b by omega]
 · rw [decide_eq_false h, show max a b = a by omega]
theorem o_notn {p : Prop} [Decidable p] (h : x.ev T = some (.bool (!decide p))) : (IOp.not x).run T t nx = .ok (.bool (decide p)) t nx := by rw [o_not h, Bool.not_not]
end
def truthL (v : List Nat) : Nat := if has1 v = true then 49 else if hasXZ v = true then 120 else 48
def notB (a : Nat) : Nat := if a = 48 then 49 else if a = 49 then 48 else 120
def andB (a b : Nat) : Nat := if a = 48 ∨ b = 48 then 48 else if a = 49 ∧ b = 49 then 49 else 120
def orB (a b : Nat) : Nat := if a = 49 ∨ b = 49 then 49 else if a = 48 ∧ b = 48 then 48 else 120
def xorB (a b : Nat) : Nat := if notB a = 120 ∨ notB b = 120 then 120 else if a = b then 48 else 49
def condB (a b : Nat) : Nat := if a = b ∧ notB a ≠ 120 then a else 120
def fitL (v : List Nat) (w : Nat) : List Nat := if v.length < w then List.replicate (w - v.length) 48 ++ v else v.drop (v.length - w)
def numL (v : List Nat) (most : Nat) : Nat := v.foldl (fun n b => min (2 * n + (b - 48)) most) 0
def sumR : List Nat → List Nat → Nat → List Nat × Nat
 | a :: u, b :: v, c => let r := sumR u v c; let n := a - 48 + (b - 48) + r.2; ((48 + n % 2) :: r.1, n / 2)
 | _, _, c => ([], c)
def sumL (a b : List Nat) (c : Nat) : List Nat := (sumR a b c).1
def turnL (a : List Nat) : List Nat := a.map notB
def shiftL (op : Int) (a b : List Nat) : List Nat :=
 if hasXZ b = true then List.replicate a.length 120
 else if op = 15 then a.drop (numL b a.length) ++ List.replicate (numL b a.length) 48
 else List.replicate (numL b a.length) 48 ++ a.take (a.length - numL b a.length)
def isL (p : Prop) [Decidable p] : List Nat := if p then [49] else [48]
def compL (op : Int) (a b : List Nat) : List Nat :=
 if hasXZ a = true ∨ hasXZ b = true then [120]
 else if op = 17 then isL (cmpL a b < 0) else if op = 18 then isL (cmpL a b ≤ 0) else if op = 19 then isL (0 < cmpL a b) else if op = 20 then isL (0 ≤ cmpL a b) else if op = 21 then isL (cmpL a b = 0) else isL (cmpL a b ≠ 0)
def unL (op : Int) (a : List Nat) : List Nat :=
 if op = 7 then turnL a else if op = 8 then [notB (truthL a)] else if op = 10 then [a.foldl andB 49] else if op = 11 then [a.foldl orB 48] else if op = 12 then [a.foldl xorB 48]
 else if hasXZ a = true then List.replicate a.length 120 else sumL (turnL a) (List.replicate a.length 48) 1
def binL2 (op : Int) (a b : List Nat) (w : Nat) : List Nat :=
 if op = 23 then List.zipWith andB a b else if op = 25 then List.zipWith orB a b else if op = 24 then List.zipWith xorB a b
 else if op = 13 ∨ op = 14 then (if hasXZ a = true ∨ hasXZ b = true then List.replicate w 120 else if op = 13 then sumL a b 0 else sumL a (turnL b) 1)
 else compL op a b
def binL (op : Int) (a b : List Nat) : List Nat :=
 if op = 15 ∨ op = 16 then shiftL op a b else if op = 26 then [andB (truthL a) (truthL b)] else if op = 27 then [orB (truthL a) (truthL b)]
 else binL2 op (fitL a (max a.length b.length)) (fitL b (max a.length b.length)) (max a.length b.length)
def condL (c a b : List Nat) : List Nat := if truthL c = 49 then a else if truthL c = 48 then b else List.zipWith condB a b
def bitL (v at_ : List Nat) : List Nat := if hasXZ at_ = true then [120] else if numL at_ v.length = v.length then [120] else (v.drop (v.length - 1 - numL at_ v.length)).take 1
def partL (v : List Nat) (hi lo : Nat) : List Nat := (v.drop (v.length - 1 - hi)).take (v.length - lo - (v.length - 1 - hi))
def riseL (a b : List Nat) : Bool := match a.getLast?, b.getLast? with
 | some x, some y => if x = 48 then decide (y ≠ 48) else if x = 49 then false else decide (y = 49)
 | _, _ => false
def B4 (s : List Nat) : Prop := ∀ c ∈ s, bitC c
theorem bitC_iff {c : Nat} : bitC c ↔ c = 48 ∨ c = 49 ∨ c = 120 ∨ c = 122 := by unfold bitC; exact Iff.rfl
theorem B4.lt {s : List Nat} (h : B4 s) : ∀ c ∈ s, c < 128 := fun c hc => by have := bitC_iff.1 (h c hc); omega
theorem B4.app {a b : List Nat} (h : B4 a) (k : B4 b) : B4 (a ++ b) := fun c hc => by rcases List.mem_append.1 hc with hc | hc; exact h c hc; exact k c hc
theorem B4.rep {n c : Nat} (h : bitC c) : B4 (List.replicate n c) := fun d hd => by rw [List.eq_of_mem_replicate hd]; exact h
theorem B4.drop {a : List Nat} (h : B4 a) (n : Nat) : B4 (a.drop n) := fun c hc => h c (List.mem_of_mem_drop hc)
theorem B4.take {a : List Nat} (h : B4 a) (n : Nat) : B4 (a.take n) := fun c hc => h c (List.mem_of_mem_take hc)
theorem bitC48 : bitC 48 := bitC_iff.2 (.inl rfl)
theorem bitC49 : bitC 49 := bitC_iff.2 (.inr (.inl rfl))
theorem bitCx : bitC 120 := bitC_iff.2 (.inr (.inr (.inl rfl)))
theorem B4.one {c : Nat} (h : bitC c) : B4 [c] := fun d hd => by rw [List.mem_singleton.1 hd]; exact h
theorem notB_bit (a : Nat) : bitC (notB a) := by unfold notB; (repeat' split) <;> first | exact bitC48 | exact bitC49 | exact bitCx
theorem andB_bit (a b : Nat) : bitC (andB a b) := by unfold andB; (repeat' split) <;> first | exact bitC48 | exact bitC49 | exact bitCx
theorem orB_bit (a b : Nat) : bitC (orB a b) := by unfold orB; (repeat' split) <;> first | exact bitC48 | exact bitC49 | exact bitCx
theorem xorB_bit (a b : Nat) : bitC (xorB a b) := by unfold xorB; (repeat' split) <;> first | exact bitC48 | exact bitC49 | exact bitCx
theorem condB_bit {a : Nat} (h : bitC a) (b : Nat) : bitC (condB a b) := by unfold condB; split; exact h; exact bitCx
theorem fold_bit {f : Nat → Nat → Nat} (hf : ∀ a b, bitC (f a b)) : ∀ (l : List Nat) {c : Nat}, bitC c → bitC (l.foldl f c)
 | [], c, h => h
 | x :: l, c, h => fold_bit hf l (hf c x)
theorem zip_bit {f : Nat → Nat → Nat} : ∀ {a b : List Nat}, (∀ x ∈ a, ∀ y, bitC (f x y)) → B4 (List.zipWith f a b)
 | [], _, _ => by intro c hc; simp at hc
 | _ :: _, [], _ => by intro c hc; simp at hc
 | x :: a, y :: b, h => by
   intro c hc
   rw [List.zipWith_cons_cons] at hc
   rcases List.mem_cons.1 hc with rfl | hc
   · exact h x (by simp) y
   · exact zip_bit (fun z hz => h z (by simp [hz])) c hc
theorem turnL_bit (a : List Nat) : B4 (turnL a) := fun c hc => by unfold turnL at hc; obtain ⟨x, -, rfl⟩ := List.mem_map.1 hc; exact notB_bit x
theorem turnL_len (a : List Nat) : (turnL a).length = a.length := by simp [turnL]
theorem sumR_len : ∀ (a b : List Nat) (c : Nat), (sumR a b c).1.length = min a.length b.length
 | [], b, c => by simp [sumR]
 | _ :: _, [], c => by simp [sumR]
 | a :: u, b :: v, c => by
   have ih := sumR_len u v c
   simp only [sumR, List.length_cons, ih]
   omega
theorem sumR_bit : ∀ (a b : List Nat) (c : Nat), B4 (sumR a b c).1
 | [], b, c => by intro d hd; simp [sumR] at hd
 | _ :: _, [], c => by intro d hd; simp [sumR] at hd
 | a :: u, b :: v, c => by
   have ih := sumR_bit u v c
   intro d hd
   simp only [sumR] at hd
   rcases List.mem_cons.1 hd with rfl | hd
   · rcases Nat.mod_two_eq_zero_or_one (a - 48 + (b - 48) + (sumR u v c).2) with e | e <;> rw [e]
     · exact bitC48
     · exact bitC49
   · exact ih d hd
theorem fitL_len (v : List Nat) {w : Nat} : (fitL v w).length = w := by
 unfold fitL
 split
 · simp; omega
 · simp; omega
theorem fitL_bit {v : List Nat} (h : B4 v) (w : Nat) : B4 (fitL v w) := by
 unfold fitL
 split
 · exact (B4.rep bitC48).app h
 · exact h.drop _
theorem isL_bit (p : Prop) [Decidable p] : B4 (isL p) ∧ (isL p).length = 1 := by
 unfold isL
 split
 · exact ⟨.one bitC49, rfl⟩
 · exact ⟨.one bitC48, rfl⟩
theorem compL_bit (op : Int) (a b : List Nat) : B4 (compL op a b) ∧ (compL op a b).length = 1 := by
 unfold compL
 split
 · exact ⟨.one bitCx, rfl⟩
 · (repeat' split) <;> first | exact isL_bit _
theorem numL_le (v : List Nat) (m : Nat) : numL v m ≤ m := by
 unfold numL
 have : ∀ (l : List Nat) (n : Nat), n ≤ m → l.foldl (fun n b => min (2 * n + (b - 48)) m) n ≤ m := by
   intro l
   induction l with
   | nil => intro n h; exact h
   | cons x l ih => intro n h; exact ih _ (Nat.min_le_right _ _)
 exact this v 0 (Nat.zero_le _)
theorem shiftL_bit (op : Int) {a : List Nat} (h : B4 a) (b : List Nat) : B4 (shiftL op a b) ∧ (shiftL op a b).length = a.length := by
 have hn := numL_le b a.length
 unfold shiftL
 split
 · exact ⟨.rep bitCx, by simp⟩
 · split
   · exact ⟨(h.drop _).app (.rep bitC48), by simp; omega⟩
   · exact ⟨(B4.rep bitC48).app (h.take _), by simp; omega⟩
theorem unL_bit (op : Int) (a : List Nat) : B4 (unL op a) ∧ (unL op a).length = (if op = 8 ∨ op = 10 ∨ op = 11 ∨ op = 12 then 1 else a.length) := by
 unfold unL
 split
 · rename_i h; subst h; exact ⟨turnL_bit _, by rw [turnL_len]; rfl⟩
 split
 · rename_i h; subst h; exact ⟨.one (notB_bit _), rfl⟩
 split
 · rename_i h; subst h; exact ⟨.one (fold_bit andB_bit _ bitC49), rfl⟩
 split
 · rename_i h; subst h; exact ⟨.one (fold_bit orB_bit _ bitC48), rfl⟩
 split
 · rename_i h; subst h; exact ⟨.one (fold_bit xorB_bit _ bitC48), rfl⟩
 rw [if_neg (show ¬ (op = 8 ∨ op = 10 ∨ op = 11 ∨ op = 12) by omega)]
 split
 · exact ⟨.rep bitCx, by simp⟩
 · exact ⟨sumR_bit _ _ _, by unfold sumL; rw [sumR_len, turnL_len]; simp⟩
theorem binL_bit (op : Int) {a b : List Nat} (h : B4 a) (k : B4 b) : B4 (binL op a b) ∧ (binL op a b).length = (if op = 15 ∨ op = 16 then a.length else if op = 23 ∨ op = 25 ∨ op = 24 ∨ op = 13 ∨ op = 14 then max a.length b.length else 1) := by
 unfold binL
 split
 · exact shiftL_bit op h b
 split
 · rename_i e; subst e; exact ⟨.one (andB_bit _ _), rfl⟩
 split
 · rename_i e; subst e; exact ⟨.one (orB_bit _ _), rfl⟩
 unfold binL2
 split
 · rename_i e; subst e; exact ⟨zip_bit (fun x _ y => andB_bit x y), by simp [fitL_len]⟩
 split
 · rename_i e; subst e; exact ⟨zip_bit (fun x _ y => orB_bit x y), by simp [fitL_len]⟩
 split
 · rename_i e; subst e; exact ⟨zip_bit (fun x _ y => xorB_bit x y), by simp [fitL_len]⟩
 split
 · rename_i e
   rw [if_pos (show op = 23 ∨ op = 25 ∨ op = 24 ∨ op = 13 ∨ op = 14 by omega)]
   split
   · exact ⟨.rep bitCx, by simp⟩
   split
   · exact ⟨sumR_bit _ _ _, by unfold sumL; rw [sumR_len]; simp [fitL_len]⟩
   · exact ⟨sumR_bit _ _ _, by unfold sumL; rw [sumR_len, turnL_len]; simp [fitL_len]⟩
 · rw [if_neg (show ¬ (op = 23 ∨ op = 25 ∨ op = 24 ∨ op = 13 ∨ op = 14) by omega)]; exact compL_bit _ _ _
theorem condL_bit (c : List Nat) {a b : List Nat} (h : B4 a) (k : B4 b) (e : a.length = b.length) : B4 (condL c a b) ∧ (condL c a b).length = a.length := by
 unfold condL
 split
 · exact ⟨h, rfl⟩
 split
 · exact ⟨k, e.symm⟩
 · exact ⟨zip_bit (fun x hx y => condB_bit (h x hx) y), by simp [e]⟩
theorem bitL_bit {v : List Nat} (h : B4 v) (at_ : List Nat) : B4 (bitL v at_) ∧ (bitL v at_).length = 1 := by
 have hn := numL_le at_ v.length
 unfold bitL
 split
 · exact ⟨.one bitCx, rfl⟩
 split
 · exact ⟨.one bitCx, rfl⟩
 · exact ⟨(h.drop _).take _, by simp; omega⟩
theorem partL_bit {v : List Nat} (h : B4 v) {hi lo : Nat} (h1 : lo ≤ hi) (h2 : hi < v.length) : B4 (partL v hi lo) ∧ (partL v hi lo).length = hi + 1 - lo := ⟨(h.drop _).take _, by unfold partL; simp; omega⟩
def ZU (z s : List Nat) (i : Nat) : Prop := ∀ j, j < i → s[j]? = z[j]?
theorem ZU.set {z s : List Nat} {i c : Nat} (h : ZU z s i) (hz : z[i]? = some c) (hi : i < s.length) : ZU z (s.set i c) (i + 1) := by
 intro j hj
 by_cases e : i = j
 · subst e; rw [List.getElem?_set_self hi, hz]
 · rw [List.getElem?_set_ne e]; exact h j (by omega)
theorem ZU.all {z s : List Nat} {i : Nat} (h : ZU z s i) (hl : s.length = z.length) (hi : z.length ≤ i) : s = z := by
 apply List.ext_getElem?
 intro j
 by_cases hj : j < i
 · exact h j hj
 · rw [List.getElem?_eq_none (by omega), List.getElem?_eq_none (by omega)]
theorem zip_at {f : Nat → Nat → Nat} {a b : List Nat} {i x y : Nat} (ha : a[i]? = some x) (hb : b[i]? = some y) : (List.zipWith f a b)[i]? = some (f x y) := by simp [List.getElem?_zipWith, ha, hb]
theorem zip_self {f : Nat → Nat} : ∀ (a : List Nat), List.zipWith (fun x _ => f x) a a = a.map f
 | [] => rfl
 | x :: a => by rw [List.zipWith_cons_cons, zip_self a]; rfl
theorem take_fold {f : Nat → Nat → Nat} {a : List Nat} {c i x : Nat} (h : a[i]? = some x) : (a.take (i + 1)).foldl f c = f ((a.take i).foldl f c) x := by
 rw [List.take_succ, h]; simp
theorem kn_bit {v : List Nat} (h : B4 v) (hx : ¬ hasXZ v = true) {c : Nat} (hc : c ∈ v) : c = 48 ∨ c = 49 := by
 have h1 := bitC_iff.1 (h c hc)
 have : ¬ (c = 120 ∨ c = 122) := fun e => hx (by unfold hasXZ; rw [List.any_eq_true]; exact ⟨c, hc, by rcases e with rfl | rfl <;> rfl⟩)
 omega
theorem sum_step {a b : List Nat} {q x y c : Nat} (ha : a[q]? = some x) (hb : b[q]? = some y) : sumR (a.drop q) (b.drop q) c = ((48 + (x - 48 + (y - 48) + (sumR (a.drop (q + 1)) (b.drop (q + 1)) c).2) % 2) :: (sumR (a.drop (q + 1)) (b.drop (q + 1)) c).1, (x - 48 + (y - 48) + (sumR (a.drop (q + 1)) (b.drop (q + 1)) c).2) / 2) := by
 obtain ⟨h1, rfl⟩ := List.getElem?_eq_some_iff.1 ha
 obtain ⟨h2, rfl⟩ := List.getElem?_eq_some_iff.1 hb
 rw [List.drop_eq_getElem_cons h1, List.drop_eq_getElem_cons h2]
 rfl
theorem sum_end {a b : List Nat} {q c : Nat} (ha : a.length ≤ q) : sumR (a.drop q) (b.drop q) c = ([], c) := by
 rw [List.drop_eq_nil_of_le ha]; simp [sumR]
theorem set_drop {s l : List Nat} {q c : Nat} (h : s.drop (q + 1) = l) (hq : q < s.length) : (s.set q c).drop q = c :: l := by
 rw [List.drop_eq_getElem_cons (by rw [List.length_set]; exact hq)]
 congr 1
 · simp
 · rw [List.drop_set_of_lt (by omega)]; exact h
theorem last_at {v : List Nat} (h : 1 ≤ v.length) : ∃ c, v[v.length - 1]? = some c ∧ v.getLast? = some c := by
 obtain ⟨c, hc⟩ := some_at (l := v) (i := v.length - 1) (by omega)
 exact ⟨c, hc, by rw [List.getLast?_eq_getElem?]; exact hc⟩
theorem rep_ok {t : TB} {nx : Nat} {c n : Nat} (hc : c < 256) (hn : n ≤ 65536) : WF tb 62 [.str [c], .int .i64 ((n : Nat) : Int)] t nx (fun v t' nx' => v = .str (List.replicate n c) ∧ nx ≤ nx' ∧ Keep t t' nx (fun _ => False)) := k_prim rep_tab (by unfold pRep; exact if_pos ⟨hc, hn⟩) ⟨rfl, Nat.le_refl _, kR⟩
theorem any_ok {t : TB} {nx : Nat} {s : List Nat} (h : B4 s) (hl : s.length ≤ 256) : WF tb 242 [.str s, .str [120, 122]] t nx (fun v t' nx' => v = .bool (decide (hasXZ s = true)) ∧ nx ≤ nx' ∧ Keep t t' nx (fun _ => False)) := k_prim any_tab (by unfold pAny; exact (if_pos ⟨h.lt, by omega, rfl⟩).trans (by simp)) ⟨rfl, Nat.le_refl _, kR⟩
theorem con_ok {t : TB} {nx : Nat} {s : List Nat} (h : B4 s) : WF tb 241 [.str s, .str [49]] t nx (fun v t' nx' => v = .bool (decide (has1 s = true)) ∧ nx ≤ nx' ∧ Keep t t' nx (fun _ => False)) := k_prim con_tab (by unfold pCon; exact (if_pos ⟨h.lt, rfl⟩).trans (by simp)) ⟨rfl, Nat.le_refl _, kR⟩
theorem cmp_ok {t : TB} {nx : Nat} {a b : List Nat} (h : B4 a) (k : B4 b) : WF tb 244 [.str a, .str b] t nx (fun v t' nx' => v = .int .i64 (cmpL a b) ∧ nx ≤ nx' ∧ Keep t t' nx (fun _ => False)) := k_prim cmp_tab (by unfold pCmp; exact if_pos ⟨h.lt, k.lt⟩) ⟨rfl, Nat.le_refl _, kR⟩
def notB_r0 : LI := [.o 2 (.mov (.c (.int .u8 0)))]
def notB_r1 : LI := [.mv 3 0]
def notB_r2 : LI := [.o 5 (.bin .eql (.t 3) (.c (.int .u8 48))),
 .mv 4 5]
def notB_r3 : LI := [.o 2 (.mov (.c (.int .u8 49)))]
def notB_r4 : LI := [.o 7 (.bin .eql (.t 3) (.c (.int .u8 49))),
 .mv 6 7]
def notB_r5 : LI := [.o 2 (.mov (.c (.int .u8 48)))]
def notB_r6 : LI := [.o 2 (.mov (.c (.int .u8 120)))]
def notB_c : IC := (.seq (.reg notB_r0) (.seq (.seq (.reg notB_r1) (.block 0 (.seq (.reg notB_r2) (.cond (.t 4) (.seq (.reg notB_r3) .ret) (.seq (.reg notB_r4) (.cond (.t 6) (.seq (.reg notB_r5) .ret) .skip)))))) (.seq (.reg notB_r6) .ret)))
theorem notB_tab : tb 209 = some (.code 1 8 notB_c [.tmp 2]) := by kernel_rfl
theorem notB_ok {t : TB} {nx : Nat} {a : Nat} : WF tb 209 [(.int .u8 ((a : Nat) : Int))] t nx (fun v t' nx' => v = .int .u8 ((notB a : Nat) : Int) ∧ nx ≤ nx' ∧ Keep t t' nx (fun _ => False)) := by
 refine k_fun notB_tab rfl ?_
 unfold notB_c
 change WC _ _ (Bt.put (some _) Bt.e 0) _ _ _
 refine k_seq (k_reg (rO (o_mov ev_c) (r_nil (k_seq (k_seq (k_reg (m1 (z1 get_same) (r_nil (k_block (k_seq (k_reg (rO (o_eqlK eZ ev_c) (m1 ds (r_nil ?_))))))))))))))
 refine k_if eZ (fun hc1 => ?_) (fun hc1 => ?_)
 · refine k_seq (k_reg (rO (o_mov ev_c) (r_nil (k_ret ?_))))
   have h_ : notB a = 49 := by unfold notB; first | rfl | ((repeat' split) <;> first | rfl | omega | (exfalso; omega))
   exact ⟨_, ans_tmp ds, by rw [h_]; try rfl, by omega, kR⟩
 refine k_seq (k_reg (rO (o_eqlK (eV (z2 ds)) ev_c) (m1 ds (r_nil ?_))))
 refine k_if eZ (fun hc2 => ?_) (fun hc2 => ?_)
 · refine k_seq (k_reg (rO (o_mov ev_c) (r_nil (k_ret ?_))))
   have h_ : notB a = 48 := by unfold notB; first | rfl | ((repeat' split) <;> first | rfl | omega | (exfalso; omega))
   exact ⟨_, ans_tmp ds, by rw [h_]; try rfl, by omega, kR⟩
 refine k_skip (k_seq (k_reg (rO (o_mov ev_c) (r_nil (k_ret ?_)))))
 have h_ : notB a = 120 := by unfold notB; first | rfl | ((repeat' split) <;> first | rfl | omega | (exfalso; omega))
 exact ⟨_, ans_tmp ds, by rw [h_]; try rfl, by omega, kR⟩
def andB_r0 : LI := [.o 4 (.mov (.c (.int .u8 0)))]
def andB_r1 : LI := [.mv 6 0,
 .o 7 (.bin .eql (.t 6) (.c (.int .u8 48))),
 .mv 8 7,
 .g 9 8 false (.mov (.t 1)),
 .g 10 8 false (.bin .eql (.t 9) (.c (.int .u8 48))),
 .o 11 (.pick (.t 8) (.c (.bool true)) (.t 10)),
 .mv 5 11]
def andB_r2 : LI := [.o 4 (.mov (.c (.int .u8 48)))]
def andB_r3 : LI := [.mv 13 0,
 .o 14 (.bin .eql (.t 13) (.c (.int .u8 49))),
 .mv 15 14,
 .g 16 15 true (.mov (.t 1)),
 .g 17 15 true (.bin .eql (.t 16) (.c (.int .u8 49))),
 .o 18 (.pick (.t 15) (.t 17) (.c (.bool false))),
 .mv 12 18]
def andB_r4 : LI := [.o 4 (.mov (.c (.int .u8 49)))]
def andB_r5 : LI := [.o 4 (.mov (.c (.int .u8 120)))]
def andB_c : IC := (.seq (.reg andB_r0) (.seq (.block 0 (.seq (.reg andB_r1) (.cond (.t 5) (.seq (.reg andB_r2) .ret) (.seq (.reg andB_r3) (.cond (.t 12) (.seq (.reg andB_r4) .ret) .skip))))) (.seq (.reg andB_r5) .ret)))
theorem andB_tab : tb 214 = some (.code 2 19 andB_c [.tmp 4]) := by kernel_rfl
theorem andB_ok {t : TB} {nx : Nat} {a : Nat} {b : Nat} : WF tb 214 [(.int .u8 ((a : Nat) : Int)), (.int .u8 ((b : Nat) : Int))] t nx (fun v t' nx' => v = .int .u8 ((andB a b : Nat) : Int) ∧ nx ≤ nx' ∧ Keep t t' nx (fun _ => False)) := by
 refine k_fun andB_tab rfl ?_
 unfold andB_c
 change WC _ _ (Bt.put (some _) (Bt.put (some _) Bt.e 0) 1) _ _ _
 refine k_seq (k_reg (rO (o_mov ev_c) (r_nil (k_seq (k_block (k_seq (k_reg (m1 (z1 (get_other rfl get_same)) ?_))))))))
 by_cases hs1 : (((a : Nat) : Int) = 48)
 · refine rO (dec_t (o_eqlK eZ ev_c) hs1) (m1 ds (r_off (wN ds) (r_off (wN (z1 ds)) (rO (o_pick_t (eV (z2 ds)) ev_c) (m1 ds (r_nil (k_cond_t eZ (k_seq (k_reg (rO (o_mov ev_c) (r_nil (k_ret ?_))))))))))))
   have h_ : andB a b = 48 := by unfold andB; first | rfl | ((repeat' split) <;> first | rfl | omega | (exfalso; omega))
   exact ⟨_, ans_tmp ds, by rw [h_]; try rfl, by omega, kR⟩
 refine rO (dec_f (o_eqlK eZ ev_c) hs1) (m1 ds (r_op (o_mov (eV (z4 get_same))) (want_on ds) (r_op (o_eqlK eZ ev_c) (want_on (z1 ds)) (rO (o_pick_f (eV (z2 ds)) eZ) (m1 ds (r_nil ?_))))))
 refine k_if eZ (fun hc2 => ?_) (fun hc2 => ?_)
 · refine k_seq (k_reg (rO (o_mov ev_c) (r_nil (k_ret ?_))))
   have h_ : andB a b = 48 := by unfold andB; first | rfl | ((repeat' split) <;> first | rfl | omega | (exfalso; omega))
   exact ⟨_, ans_tmp ds, by rw [h_]; try rfl, by omega, kR⟩
 refine k_seq (k_reg (m1 (z8 (get_other rfl get_same)) ?_))
 by_cases hs3 : (((a : Nat) : Int) = 49)
 · refine rO (dec_t (o_eqlK eZ ev_c) hs3) (m1 ds (r_op (o_mov (eV (z1 (z2 (z8 get_same))))) (want_on ds) (r_op (o_eqlK eZ ev_c) (want_on (z1 ds)) (rO (o_pick_t (eV (z2 ds)) eZ) (m1 ds (r_nil ?_))))))
   refine k_if eZ (fun hc4 => ?_) (fun hc4 => ?_)
   · refine k_seq (k_reg (rO (o_mov ev_c) (r_nil (k_ret ?_))))
     have h_ : andB a b = 49 := by unfold andB; first | rfl | ((repeat' split) <;> first | rfl | omega | (exfalso; omega))
     exact ⟨_, ans_tmp ds, by rw [h_]; try rfl, by omega, kR⟩
   refine k_skip (k_seq (k_reg (rO (o_mov ev_c) (r_nil (k_ret ?_)))))
   have h_ : andB a b = 120 := by unfold andB; first | rfl | ((repeat' split) <;> first | rfl | omega | (exfalso; omega))
   exact ⟨_, ans_tmp ds, by rw [h_]; try rfl, by omega, kR⟩
 refine rO (dec_f (o_eqlK eZ ev_c) hs3) (m1 ds (r_off (wN ds) (r_off (wN (z1 ds)) (rO (o_pick_f (eV (z2 ds)) ev_c) (m1 ds (r_nil (k_cond_f eZ (k_skip (k_seq (k_reg (rO (o_mov ev_c) (r_nil (k_ret ?_)))))))))))))
 have h_ : andB a b = 120 := by unfold andB; first | rfl | ((repeat' split) <;> first | rfl | omega | (exfalso; omega))
 exact ⟨_, ans_tmp ds, by rw [h_]; try rfl, by omega, kR⟩
def orB_r0 : LI := [.o 4 (.mov (.c (.int .u8 0)))]
def orB_r1 : LI := [.mv 6 0,
 .o 7 (.bin .eql (.t 6) (.c (.int .u8 49))),
 .mv 8 7,
 .g 9 8 false (.mov (.t 1)),
 .g 10 8 false (.bin .eql (.t 9) (.c (.int .u8 49))),
 .o 11 (.pick (.t 8) (.c (.bool true)) (.t 10)),
 .mv 5 11]
def orB_r2 : LI := [.o 4 (.mov (.c (.int .u8 49)))]
def orB_r3 : LI := [.mv 13 0,
 .o 14 (.bin .eql (.t 13) (.c (.int .u8 48))),
 .mv 15 14,
 .g 16 15 true (.mov (.t 1)),
 .g 17 15 true (.bin .eql (.t 16) (.c (.int .u8 48))),
 .o 18 (.pick (.t 15) (.t 17) (.c (.bool false))),
 .mv 12 18]
def orB_r4 : LI := [.o 4 (.mov (.c (.int .u8 48)))]
def orB_r5 : LI := [.o 4 (.mov (.c (.int .u8 120)))]
def orB_c : IC := (.seq (.reg orB_r0) (.seq (.block 0 (.seq (.reg orB_r1) (.cond (.t 5) (.seq (.reg orB_r2) .ret) (.seq (.reg orB_r3) (.cond (.t 12) (.seq (.reg orB_r4) .ret) .skip))))) (.seq (.reg orB_r5) .ret)))
theorem orB_tab : tb 215 = some (.code 2 19 orB_c [.tmp 4]) := by kernel_rfl
theorem orB_ok {t : TB} {nx : Nat} {a : Nat} {b : Nat} : WF tb 215 [(.int .u8 ((a : Nat) : Int)), (.int .u8 ((b : Nat) : Int))] t nx (fun v t' nx' => v = .int .u8 ((orB a b : Nat) : Int) ∧ nx ≤ nx' ∧ Keep t t' nx (fun _ => False)) := by
 refine k_fun orB_tab rfl ?_
 unfold orB_c
 change WC _ _ (Bt.put (some _) (Bt.put (some _) Bt.e 0) 1) _ _ _
 refine k_seq (k_reg (rO (o_mov ev_c) (r_nil (k_seq (k_block (k_seq (k_reg (m1 (z1 (get_other rfl get_same)) ?_))))))))
 by_cases hs1 : (((a : Nat) : Int) = 49)
 · refine rO (dec_t (o_eqlK eZ ev_c) hs1) (m1 ds (r_off (wN ds) (r_off (wN (z1 ds)) (rO (o_pick_t (eV (z2 ds)) ev_c) (m1 ds (r_nil (k_cond_t eZ (k_seq (k_reg (rO (o_mov ev_c) (r_nil (k_ret ?_))))))))))))
   have h_ : orB a b = 49 := by unfold orB; first | rfl | ((repeat' split) <;> first | rfl | omega | (exfalso; omega))
   exact ⟨_, ans_tmp ds, by rw [h_]; try rfl, by omega, kR⟩
 refine rO (dec_f (o_eqlK eZ ev_c) hs1) (m1 ds (r_op (o_mov (eV (z4 get_same))) (want_on ds) (r_op (o_eqlK eZ ev_c) (want_on (z1 ds)) (rO (o_pick_f (eV (z2 ds)) eZ) (m1 ds (r_nil ?_))))))
 refine k_if eZ (fun hc2 => ?_) (fun hc2 => ?_)
 · refine k_seq (k_reg (rO (o_mov ev_c) (r_nil (k_ret ?_))))
   have h_ : orB a b = 49 := by unfold orB; first | rfl | ((repeat' split) <;> first | rfl | omega | (exfalso; omega))
   exact ⟨_, ans_tmp ds, by rw [h_]; try rfl, by omega, kR⟩
 refine k_seq (k_reg (m1 (z8 (get_other rfl get_same)) ?_))
 by_cases hs3 : (((a : Nat) : Int) = 48)
 · refine rO (dec_t (o_eqlK eZ ev_c) hs3) (m1 ds (r_op (o_mov (eV (z1 (z2 (z8 get_same))))) (want_on ds) (r_op (o_eqlK eZ ev_c) (want_on (z1 ds)) (rO (o_pick_t (eV (z2 ds)) eZ) (m1 ds (r_nil ?_))))))
   refine k_if eZ (fun hc4 => ?_) (fun hc4 => ?_)
   · refine k_seq (k_reg (rO (o_mov ev_c) (r_nil (k_ret ?_))))
     have h_ : orB a b = 48 := by unfold orB; first | rfl | ((repeat' split) <;> first | rfl | omega | (exfalso; omega))
     exact ⟨_, ans_tmp ds, by rw [h_]; try rfl, by omega, kR⟩
   refine k_skip (k_seq (k_reg (rO (o_mov ev_c) (r_nil (k_ret ?_)))))
   have h_ : orB a b = 120 := by unfold orB; first | rfl | ((repeat' split) <;> first | rfl | omega | (exfalso; omega))
   exact ⟨_, ans_tmp ds, by rw [h_]; try rfl, by omega, kR⟩
 refine rO (dec_f (o_eqlK eZ ev_c) hs3) (m1 ds (r_off (wN ds) (r_off (wN (z1 ds)) (rO (o_pick_f (eV (z2 ds)) ev_c) (m1 ds (r_nil (k_cond_f eZ (k_skip (k_seq (k_reg (rO (o_mov ev_c) (r_nil (k_ret ?_)))))))))))))
 have h_ : orB a b = 120 := by unfold orB; first | rfl | ((repeat' split) <;> first | rfl | omega | (exfalso; omega))
 exact ⟨_, ans_tmp ds, by rw [h_]; try rfl, by omega, kR⟩
def xorB_r0 : LI := [.o 4 (.mov (.c (.int .u8 0)))]
def xorB_r1 : LI := [.mv 6 0,
 .f 7 209 [(.t 6)],
 .o 8 (.bin .eql (.t 7) (.c (.int .u8 120))),
 .mv 9 8,
 .g 10 9 false (.mov (.t 1)),
 ⟨(some 11), (some (9, false)), (.callF 209 [(.t 10)])⟩,
 .g 12 9 false (.bin .eql (.t 11) (.c (.int .u8 120))),
 .o 13 (.pick (.t 9) (.c (.bool true)) (.t 12)),
 .mv 5 13]
def xorB_r2 : LI := [.o 4 (.mov (.c (.int .u8 120)))]
def xorB_r3 : LI := [.mv 15 0,
 .mv 16 1,
 .o 17 (.bin .eql (.t 15) (.t 16)),
 .mv 14 17]
def xorB_r4 : LI := [.o 4 (.mov (.c (.int .u8 48)))]
def xorB_r5 : LI := [.o 4 (.mov (.c (.int .u8 49)))]
def xorB_c : IC := (.seq (.reg xorB_r0) (.seq (.block 0 (.seq (.reg xorB_r1) (.cond (.t 5) (.seq (.reg xorB_r2) .ret) (.seq (.reg xorB_r3) (.cond (.t 14) (.seq (.reg xorB_r4) .ret) .skip))))) (.seq (.reg xorB_r5) .ret)))
theorem xorB_tab : tb 216 = some (.code 2 18 xorB_c [.tmp 4]) := by kernel_rfl
theorem xorB_ok {t : TB} {nx : Nat} {a : Nat} {b : Nat} : WF tb 216 [(.int .u8 ((a : Nat) : Int)), (.int .u8 ((b : Nat) : Int))] t nx (fun v t' nx' => v = .int .u8 ((xorB a b : Nat) : Int) ∧ nx ≤ nx' ∧ Keep t t' nx (fun _ => False)) := by
 refine k_fun xorB_tab rfl ?_
 unfold xorB_c
 change WC _ _ (Bt.put (some _) (Bt.put (some _) Bt.e 0) 1) _ _ _
 refine k_seq (k_reg (rO (o_mov ev_c) (r_nil (k_seq (k_block (k_seq (k_reg (m1 (z1 (get_other rfl get_same)) (r_call (w_callF (evs_cons eZ evs_nil)) rfl (WF.mono (notB_ok) ?_))))))))))
 rintro _ t2 n3 ⟨rfl, hna1, hka1⟩
 by_cases hs4 : ((((notB a) : Nat) : Int) = 120)
 · refine rO (dec_t (o_eqlK eZ ev_c) hs4) (m1 ds (r_off (wN ds) (r_off (wN (z1 ds)) (r_off (wN (z2 ds)) (rO (o_pick_t (eV (z1 (z2 ds))) ev_c) (m1 ds (r_nil (k_cond_t eZ (k_seq (k_reg (rO (o_mov ev_c) (r_nil (k_ret ?_)))))))))))))
   have h_ : xorB a b = 120 := by unfold xorB; first | rfl | ((repeat' split) <;> first | rfl | omega | (exfalso; omega))
   exact ⟨_, ans_tmp ds, by rw [h_]; try rfl, by omega, Keep.trans kR hka1 (by omega) (fun d _ h => h)⟩
 refine rO (dec_f (o_eqlK eZ ev_c) hs4) (m1 ds (r_op (o_mov (eV (z1 (z4 get_same)))) (want_on ds) (r_call (w_callF (evs_cons eZ evs_nil)) (want_on (z1 ds)) (WF.mono (notB_ok) ?_))))
 rintro _ t6 n7 ⟨rfl, hna5, hka5⟩
 refine r_op (o_eqlK eZ ev_c) (want_on (z2 ds)) (rO (o_pick_f (eV (z1 (z2 ds))) eZ) (m1 ds (r_nil ?_)))
 refine k_if eZ (fun hc8 => ?_) (fun hc8 => ?_)
 · refine k_seq (k_reg (rO (o_mov ev_c) (r_nil (k_ret ?_))))
   have h_ : xorB a b = 120 := by unfold xorB; first | rfl | ((repeat' split) <;> first | rfl | omega | (exfalso; omega))
   exact ⟨_, ans_tmp ds, by rw [h_]; try rfl, by omega, Keep.trans (Keep.trans kR hka1 (by omega) (fun d _ h => h)) hka5 (by omega) (fun d _ h => h)⟩
 refine k_seq (k_reg (m1 (z2 (z8 (get_other rfl get_same))) (m1 (z1 (z2 (z8 get_same))) (rO (o_eqlK (eV (z1 ds)) eZ) (m1 ds (r_nil ?_))))))
 refine k_if eZ (fun hc9 => ?_) (fun hc9 => ?_)
 · refine k_seq (k_reg (rO (o_mov ev_c) (r_nil (k_ret ?_))))
   have h_ : xorB a b = 48 := by unfold xorB; first | rfl | ((repeat' split) <;> first | rfl | omega | (exfalso; omega))
   exact ⟨_, ans_tmp ds, by rw [h_]; try rfl, by omega, Keep.trans (Keep.trans kR hka1 (by omega) (fun d _ h => h)) hka5 (by omega) (fun d _ h => h)⟩
 refine k_skip (k_seq (k_reg (rO (o_mov ev_c) (r_nil (k_ret ?_)))))
 have h_ : xorB a b = 49 := by unfold xorB; first | rfl | ((repeat' split) <;> first | rfl | omega | (exfalso; omega))
 exact ⟨_, ans_tmp ds, by rw [h_]; try rfl, by omega, Keep.trans (Keep.trans kR hka1 (by omega) (fun d _ h => h)) hka5 (by omega) (fun d _ h => h)⟩
def turn1_r0 : LI := [.o 4 (.mov (.c (.int .u8 0)))]
def turn1_r1 : LI := [.mv 5 0,
 .f 6 209 [(.t 5)],
 .mv 4 6]
def turn1_c : IC := (.seq (.reg turn1_r0) (.seq (.reg turn1_r1) .ret))
theorem turn1_tab : tb 243 = some (.code 2 7 turn1_c [.tmp 4]) := by kernel_rfl
theorem turn1_ok {t : TB} {nx : Nat} {a : Nat} {b : Nat} : WF tb 243 [(.int .u8 ((a : Nat) : Int)), (.int .u8 ((b : Nat) : Int))] t nx (fun v t' nx' => v = .int .u8 ((notB a : Nat) : Int) ∧ nx ≤ nx' ∧ Keep t t' nx (fun _ => False)) := by
 refine k_fun turn1_tab rfl ?_
 unfold turn1_c
 change WC _ _ (Bt.put (some _) (Bt.put (some _) Bt.e 0) 1) _ _ _
 refine k_seq (k_reg (rO (o_mov ev_c) (r_nil (k_seq (k_reg (m1 (z1 (get_other rfl get_same)) (r_call (w_callF (evs_cons eZ evs_nil)) rfl (WF.mono (notB_ok) ?_))))))))
 rintro _ t2 n3 ⟨rfl, hna1, hka1⟩
 refine m1 ds (r_nil (k_ret ?_))
 have h_ : notB a = (notB a) := by unfold notB; first | rfl | ((repeat' split) <;> first | rfl | omega | (exfalso; omega))
 exact ⟨_, ans_tmp ds, by rw [h_]; try rfl, by omega, Keep.trans kR hka1 (by omega) (fun d _ h => h)⟩
def condB_r0 : LI := [.o 4 (.mov (.c (.int .u8 0)))]
def condB_r1 : LI := [.mv 5 0,
 .mv 6 1,
 .o 7 (.bin .eql (.t 5) (.t 6)),
 .mv 8 7,
 .g 9 8 true (.mov (.t 0)),
 ⟨(some 10), (some (8, true)), (.callF 209 [(.t 9)])⟩,
 .g 11 8 true (.bin .neq (.t 10) (.c (.int .u8 120))),
 .o 12 (.pick (.t 8) (.t 11) (.c (.bool false)))]
def condB_r2 : LI := [.mv 13 0,
 .mv 4 13]
def condB_r3 : LI := [.o 4 (.mov (.c (.int .u8 120)))]
def condB_c : IC := (.seq (.reg condB_r0) (.seq (.seq (.reg condB_r1) (.cond (.t 12) (.seq (.reg condB_r2) .ret) .skip)) (.seq (.reg condB_r3) .ret)))
theorem condB_tab : tb 208 = some (.code 2 14 condB_c [.tmp 4]) := by kernel_rfl
theorem condB_ok {t : TB} {nx : Nat} {a : Nat} {b : Nat} : WF tb 208 [(.int .u8 ((a : Nat) : Int)), (.int .u8 ((b : Nat) : Int))] t nx (fun v t' nx' => v = .int .u8 ((condB a b : Nat) : Int) ∧ nx ≤ nx' ∧ Keep t t' nx (fun _ => False)) := by
 refine k_fun condB_tab rfl ?_
 unfold condB_c
 change WC _ _ (Bt.put (some _) (Bt.put (some _) Bt.e 0) 1) _ _ _
 refine k_seq (k_reg (rO (o_mov ev_c) (r_nil (k_seq (k_seq (k_reg (m1 (z1 (get_other rfl get_same)) (m1 (z2 get_same) ?_))))))))
 by_cases hs1 : (((a : Nat) : Int) = ((b : Nat) : Int))
 · refine rO (dec_t (o_eqlK (eV (z1 ds)) eZ) hs1) (m1 ds (r_op (o_mov (eV (z1 (z4 (get_other rfl get_same))))) (want_on ds) (r_call (w_callF (evs_cons eZ evs_nil)) (want_on (z1 ds)) (WF.mono (notB_ok) ?_))))
   rintro _ t3 n4 ⟨rfl, hna2, hka2⟩
   refine r_op (o_neqK eZ ev_c) (want_on (z2 ds)) (rO (o_pick_t (eV (z1 (z2 ds))) eZ) (r_nil ?_))
   refine k_in eZ (fun hc5 => ?_) (fun hc5 => ?_)
   · refine k_seq (k_reg (m1 (z1 (z8 (get_other rfl get_same))) (m1 ds (r_nil (k_ret ?_)))))
     have h_ : condB a b = a := by unfold condB; first | rfl | ((repeat' split) <;> first | rfl | omega | (exfalso; omega))
     exact ⟨_, ans_tmp ds, by rw [h_]; try rfl, by omega, Keep.trans kR hka2 (by omega) (fun d _ h => h)⟩
   refine k_skip (k_seq (k_reg (rO (o_mov ev_c) (r_nil (k_ret ?_)))))
   have h_ : condB a b = 120 := by unfold condB; first | rfl | ((repeat' split) <;> first | rfl | omega | (exfalso; omega))
   exact ⟨_, ans_tmp ds, by rw [h_]; try rfl, by omega, Keep.trans kR hka2 (by omega) (fun d _ h => h)⟩
 refine rO (dec_f (o_eqlK (eV (z1 ds)) eZ) hs1) (m1 ds (r_off (wN ds) (r_off (wN (z1 ds)) (r_off (wN (z2 ds)) (rO (o_pick_f (eV (z1 (z2 ds))) ev_c) (r_nil (k_cond_f eZ (k_skip (k_seq (k_reg (rO (o_mov ev_c) (r_nil (k_ret ?_)))))))))))))
 have h_ : condB a b = 120 := by unfold condB; first | rfl | ((repeat' split) <;> first | rfl | omega | (exfalso; omega))
 exact ⟨_, ans_tmp ds, by rw [h_]; try rfl, by omega, kR⟩
def lis_r0 : LI := [.o 2 (.mov (.c (.str [])))]
def lis_r1 : LI := [.mv 3 0]
def lis_r2 : LI := [.o 2 (.mov (.c (.str [49])))]
def lis_r3 : LI := [.o 2 (.mov (.c (.str [48])))]
def lis_c : IC := (.seq (.reg lis_r0) (.seq (.seq (.reg lis_r1) (.cond (.t 3) (.seq (.reg lis_r2) .ret) .skip)) (.seq (.reg lis_r3) .ret)))
theorem lis_tab : tb 245 = some (.code 1 4 lis_c [.tmp 2]) := by kernel_rfl
theorem lis_ok {t : TB} {nx : Nat} {p : Prop} [Decidable p] : WF tb 245 [(.bool (decide p))] t nx (fun v t' nx' => v = .str (isL p) ∧ nx ≤ nx' ∧ Keep t t' nx (fun _ => False)) := by
 refine k_fun lis_tab rfl ?_
 unfold lis_c
 change WC _ _ (Bt.put (some _) Bt.e 0) _ _ _
 refine k_seq (k_reg (rO (o_mov ev_c) (r_nil (k_seq (k_seq (k_reg (m1 (z1 get_same) (r_nil ?_))))))))
 refine k_if eZ (fun hc1 => ?_) (fun hc1 => ?_)
 · refine k_seq (k_reg (rO (o_mov ev_c) (r_nil (k_ret ?_))))
   exact ⟨_, ans_tmp ds, by rw [show isL p = [49] from if_pos (by assumption)], by omega, kR⟩
 refine k_skip (k_seq (k_reg (rO (o_mov ev_c) (r_nil (k_ret ?_)))))
 exact ⟨_, ans_tmp ds, by rw [show isL p = [48] from if_neg (by assumption)], by omega, kR⟩
def kn_r0 : LI := [.o 2 (.mov (.c (.bool false)))]
def kn_r1 : LI := [.mv 3 0,
 .f 4 242 [(.t 3), (.c (.str [120, 122]))],
 .o 5 (.not (.t 4)),
 .mv 2 5]
def kn_c : IC := (.seq (.reg kn_r0) (.seq (.reg kn_r1) .ret))
theorem kn_tab : tb 210 = some (.code 1 6 kn_c [.tmp 2]) := by kernel_rfl
theorem kn_ok {t : TB} {nx : Nat} {s : List Nat} (h : B4 s) (hl : s.length ≤ 256) : WF tb 210 [(.str s)] t nx (fun v t' nx' => v = .bool (!decide (hasXZ s = true)) ∧ nx ≤ nx' ∧ Keep t t' nx (fun _ => False)) := by
 refine k_fun kn_tab rfl ?_
 unfold kn_c
 change WC _ _ (Bt.put (some _) Bt.e 0) _ _ _
 refine k_seq (k_reg (rO (o_mov ev_c) (r_nil (k_seq (k_reg (m1 (z1 get_same) (r_call (w_callF (evs_cons eZ (evs_cons ev_c evs_nil))) rfl (WF.mono (any_ok h hl) ?_))))))))
 rintro _ t2 n3 ⟨rfl, hna1, hka1⟩
 refine rO (o_not eZ) (m1 ds (r_nil (k_ret ?_)))
 exact ⟨_, ans_tmp ds, rfl, by omega, Keep.trans kR hka1 (by omega) (fun d _ h => h)⟩
def all_r0 : LI := [.o 4 (.mov (.c (.str [])))]
def all_r1 : LI := [.mv 5 0,
 .mv 6 1,
 .f 7 62 [(.t 5), (.t 6)],
 .mv 4 7]
def all_c : IC := (.seq (.reg all_r0) (.seq (.reg all_r1) .ret))
theorem all_tab : tb 217 = some (.code 2 8 all_c [.tmp 4]) := by kernel_rfl
theorem all_ok {t : TB} {nx : Nat} {c n : Nat} (hc : c < 256) (hn : n ≤ 65536) : WF tb 217 [(.str [c]), (.int .i64 ((n : Nat) : Int))] t nx (fun v t' nx' => v = .str (List.replicate n c) ∧ nx ≤ nx' ∧ Keep t t' nx (fun _ => False)) := by
 refine k_fun all_tab rfl ?_
 unfold all_c
 change WC _ _ (Bt.put (some _) (Bt.put (some _) Bt.e 0) 1) _ _ _
 refine k_seq (k_reg (rO (o_mov ev_c) (r_nil (k_seq (k_reg (m1 (z1 (get_other rfl get_same)) (m1 (z2 get_same) (r_call (w_callF (evs_cons (eV (z1 ds)) (evs_cons eZ evs_nil))) rfl (WF.mono (rep_ok hc hn) ?_)))))))))
 rintro _ t2 n3 ⟨rfl, hna1, hka1⟩
 refine m1 ds (r_nil (k_ret ?_))
 exact ⟨_, ans_tmp ds, rfl, by omega, Keep.trans kR hka1 (by omega) (fun d _ h => h)⟩
def fit__r0 : LI := [.o 4 (.mov (.c (.str [])))]
def fit__r1 : LI := [.mv 5 0,
 .o 6 (.len .str (.t 5)),
 .mv 7 1,
 .o 8 (.bin .lss (.t 6) (.t 7))]
def fit__r2 : LI := [.mv 9 1,
 .mv 10 0,
 .o 11 (.len .str (.t 10)),
 .o 12 (.bin .sub (.t 9) (.t 11)),
 .f 13 217 [(.c (.str [48])), (.t 12)],
 .mv 14 0,
 .o 15 (.bin .add (.t 13) (.t 14)),
 .mv 4 15]
def fit__r3 : LI := [.mv 16 0,
 .mv 17 0,
 .o 18 (.len .str (.t 17)),
 .mv 19 1,
 .o 20 (.bin .sub (.t 18) (.t 19)),
 .o 21 (.sslice (.t 16) (some (.t 20)) none),
 .mv 4 21]
def fit__c : IC := (.seq (.reg fit__r0) (.seq (.seq (.reg fit__r1) (.cond (.t 8) (.seq (.reg fit__r2) .ret) .skip)) (.seq (.reg fit__r3) .ret)))
theorem fit__tab : tb 206 = some (.code 2 22 fit__c [.tmp 4]) := by kernel_rfl
theorem lfit_ok {t : TB} {nx : Nat} {s : List Nat} {w : Nat} (hl : s.length ≤ 256) (hw : w ≤ 256) : WF tb 206 [(.str s), (.int .i64 ((w : Nat) : Int))] t nx (fun v t' nx' => v = .str (fitL s w) ∧ nx ≤ nx' ∧ Keep t t' nx (fun _ => False)) := by
 refine k_fun fit__tab rfl ?_
 unfold fit__c
 change WC _ _ (Bt.put (some _) (Bt.put (some _) Bt.e 0) 1) _ _ _
 refine k_seq (k_reg (rO (o_mov ev_c) (r_nil (k_seq (k_seq (k_reg (m1 (z1 (get_other rfl get_same)) (rO (o_len_str eZ) (m1 (z1 (z2 get_same)) (rO (o_lss (eV (z1 ds)) eZ) (r_nil ?_)))))))))))
 refine k_if eZ (fun hc1 => ?_) (fun hc1 => ?_)
 · refine k_seq (k_reg (m1 (z1 (z4 get_same)) (m1 (z2 (z4 (get_other rfl get_same))) (rO (o_len_str eZ) (rO (o_subN (a := w) (b := s.length) (eV (z2 ds)) eZ (by omega) (by omega)) (r_call (w_callF (evs_cons ev_c (evs_cons eZ evs_nil))) rfl (WF.mono (all_ok (c := 48) (by decide) (by omega)) ?_)))))))
   rintro _ t3 n4 ⟨rfl, hna2, hka2⟩
   refine m1 (z2 (z8 (get_other rfl get_same))) ?_
   refine rO (o_cat (eV (z1 ds)) eZ (by simp only [List.length_replicate, List.length_drop, List.length_take]; omega)) ?_
   refine m1 ds (r_nil (k_ret ?_))
   exact ⟨_, ans_tmp ds, by rw [show fitL s w = ((List.replicate (w - s.length) 48) ++ s) from (if_pos (by omega))], by omega, Keep.trans kR hka2 (by omega) (fun d _ h => h)⟩
 refine k_skip (k_seq (k_reg (m1 (z1 (z4 (get_other rfl get_same))) (m1 (z2 (z4 (get_other rfl get_same))) (rO (o_len_str eZ) (m1 (z8 get_same) (rO (o_subN (a := s.length) (b := w) (eV (z1 ds)) eZ (by omega) (by omega)) (rO (o_ss_lo (m := (s.length - w)) (eV (z4 ds)) eZ (by omega)) (m1 ds (r_nil (k_ret ?_)))))))))))
 exact ⟨_, ans_tmp ds, by rw [show fitL s w = (s.drop (s.length - w)) from (if_neg (by omega))], by omega, kR⟩
def truth__r0 : LI := [.o 2 (.mov (.c (.int .u8 0)))]
def truth__r1 : LI := [.mv 4 0,
 .f 5 241 [(.t 4), (.c (.str [49]))],
 .mv 3 5]
def truth__r2 : LI := [.o 2 (.mov (.c (.int .u8 49)))]
def truth__r3 : LI := [.mv 7 0,
 .f 8 210 [(.t 7)],
 .mv 6 8]
def truth__r4 : LI := [.o 2 (.mov (.c (.int .u8 48)))]
def truth__r5 : LI := [.o 2 (.mov (.c (.int .u8 120)))]
def truth__c : IC := (.seq (.reg truth__r0) (.seq (.block 0 (.seq (.reg truth__r1) (.cond (.t 3) (.seq (.reg truth__r2) .ret) (.seq (.reg truth__r3) (.cond (.t 6) (.seq (.reg truth__r4) .ret) .skip))))) (.seq (.reg truth__r5) .ret)))
theorem truth__tab : tb 205 = some (.code 1 9 truth__c [.tmp 2]) := by kernel_rfl
theorem truth_ok {t : TB} {nx : Nat} {s : List Nat} (h : B4 s) (hl : s.length ≤ 256) : WF tb 205 [(.str s)] t nx (fun v t' nx' => v = .int .u8 ((truthL s : Nat) : Int) ∧ nx ≤ nx' ∧ Keep t t' nx (fun _ => False)) := by
 refine k_fun truth__tab rfl ?_
 unfold truth__c
 change WC _ _ (Bt.put (some _) Bt.e 0) _ _ _
 refine k_seq (k_reg (rO (o_mov ev_c) (r_nil (k_seq (k_block (k_seq (k_reg (m1 (z1 get_same) (r_call (w_callF (evs_cons eZ (evs_cons ev_c evs_nil))) rfl (WF.mono (con_ok h) ?_))))))))))
 rintro _ t2 n3 ⟨rfl, hna1, hka1⟩
 refine m1 ds (r_nil ?_)
 refine k_if eZ (fun hc4 => ?_) (fun hc4 => ?_)
 · refine k_seq (k_reg (rO (o_mov ev_c) (r_nil (k_ret ?_))))
   exact ⟨_, ans_tmp ds, by rw [show truthL s = 49 from by unfold truthL; simp [*]]; try rfl, by omega, Keep.trans kR hka1 (by omega) (fun d _ h => h)⟩
 refine k_seq (k_reg (m1 (z4 get_same) (r_call (w_callF (evs_cons eZ evs_nil)) rfl (WF.mono (kn_ok h hl) ?_))))
 rintro _ t6 n7 ⟨rfl, hnb5, hkb5⟩
 refine m1 ds (r_nil ?_)
 refine k_in eZ (fun hc8 => ?_) (fun hc8 => ?_)
 · refine k_seq (k_reg (rO (o_mov ev_c) (r_nil (k_ret ?_))))
   exact ⟨_, ans_tmp ds, by rw [show truthL s = 48 from by unfold truthL; simp [*]]; try rfl, by omega, Keep.trans (Keep.trans kR hka1 (by omega) (fun d _ h => h)) hkb5 (by omega) (fun d _ h => h)⟩
 refine k_skip (k_seq (k_reg (rO (o_mov ev_c) (r_nil (k_ret ?_)))))
 exact ⟨_, ans_tmp ds, by rw [show truthL s = 120 from by unfold truthL; simp [*]]; try rfl, by omega, Keep.trans (Keep.trans kR hka1 (by omega) (fun d _ h => h)) hkb5 (by omega) (fun d _ h => h)⟩
theorem lchk_ok {t : TB} {nx : Nat} {s : List Nat} (h : isV s) : WF tb 49 [.str s] t nx (fun v t' nx' => v = .int .i64 0 ∧ nx ≤ nx' ∧ Keep t t' nx (fun _ => False)) := (lcheck_ok s (fun c hc => by have := bitC_iff.1 (h.2.2 c hc); omega) (by have := h.2.1; omega)).mono (fun v t' nx' ⟨r, e, hr, h2⟩ => ⟨by rcases hr with ⟨rfl, -⟩ | ⟨-, h3⟩; exact e; exact absurd h h3, h2⟩)
def chks_r0 : LI := [.o 2 (.mov (kI 0))]
def chks_r1 : LI := [.mv 6 0,
 .o 7 (.len .slc (.t 6)),
 .o 8 (.mov (kI 0))]
def chks_r2 : LI := [.o 9 (.bin .lss (.t 8) (.t 7))]
def chks_r3 : LI := [.o 10 (.iaddr 1 (.t 6) (.t 8)),
 .o 11 (.load (.t 10)),
 .mv 4 11]
def chks_r4 : LI := [.mv 12 4,
 .f 13 49 [(.t 12)],
 .mv 5 13]
def chks_r5 : LI := [.mv 14 5,
 .o 15 (.bin .neq (.t 14) (kI 0))]
def chks_r6 : LI := [.mv 16 5,
 .mv 2 16]
def chks_r7 : LI := [.o 17 (.bin .add (.t 8) (kI 1)),
 .mv 8 17]
def chks_r8 : LI := [.o 2 (.mov (kI 0))]
def chks_c : IC := (.seq (.reg chks_r0) (.seq (.seq (.reg chks_r1) (.block 0 (.loop (.seq (.reg chks_r2) (.seq (.cond (.t 9) .skip (.exit 0)) (.seq (.block 1 (.seq (.reg chks_r3) (.seq (.reg chks_r4) (.seq (.reg chks_r5) (.cond (.t 15) (.seq (.reg chks_r6) .ret) .skip))))) (.reg chks_r7))))))) (.seq (.reg chks_r8) .ret)))
theorem chks_tab : tb 160 = some (.code 1 18 chks_c [.tmp 2]) := by kernel_rfl
theorem chks_ok {t : TB} {nx : Nat} {d : Nat} {l : List (List Nat)} (hd : d < nx) (hr : hv t d = some (.row (strs l) true)) (hl : l.length ≤ 3) (h : ∀ s ∈ l, isV s) : WF tb 160 [(.slice d 0 l.length l.length 1 true)] t nx (fun v t' nx' => v = .int .i64 0 ∧ nx ≤ nx' ∧ Keep t t' nx (fun _ => False)) := by
 refine k_fun chks_tab rfl ?_
 unfold chks_c
 change WC _ _ (Bt.put (some _) Bt.e 0) _ _ _
 refine k_seq (k_reg (rO (o_mov ev_c) (r_nil (k_seq (k_seq (k_reg (m1 (z1 get_same) (rO (o_len_slice eZ) (rO (o_mov ev_c) (r_nil (k_block (k_loop (fun mm Tv tv nv => ∃ (i : Nat), (i ≤ l.length) ∧ (hv tv d = some (.row (strs l) true)) ∧ (Tv.get 6 = some (.slice d 0 l.length l.length 1 true) ∧ Tv.get 7 = some (.int .i64 ((l.length : Nat) : Int)) ∧ Tv.get 8 = some (.int .i64 ((i : Nat) : Int))) ∧ nx ≤ nv ∧ Keep t tv nx (fun _ => False) ∧ mm + i = l.length) (fun mm Tv tv nv hI => ?_) (l.length) ⟨0, by omega, hr, ⟨(z2 ds), (z1 ds), ds⟩, by omega, kR, by omega⟩))))))))))))
 obtain ⟨i, hi, hrv, ⟨qv6, qv7, qv8⟩, hnv, hkv, hmm⟩ := hI
 refine k_seq (k_reg (rO (o_lss (eV qv8) (eV qv7)) (r_nil (k_seq ?_))))
 refine k_if eZ (fun hc1 => ?_) (fun hc1 => ?_)
 · refine k_skip (k_seq (k_block (k_seq ?_)))
   obtain ⟨s, hs0⟩ := some_at (l := l) (i := i) (by omega)
   have hs : (strs l)[0 + i * 1]? = some (.str s) := by rw [show 0 + i * 1 = i by omega]; exact strs_get hs0
   have hV := h s (List.mem_of_getElem? hs0)
   refine k_reg (rO (o_iaddr (i := i) (eV (z1 qv6)) (eV (z1 qv8)) (by omega)) (rO (o_load eZ hrv hs) (m1 ds (r_nil (k_seq (k_reg (m1 ds (r_call (w_callF (evs_cons eZ evs_nil)) rfl (WF.mono (lchk_ok hV) ?_)))))))))
   rintro _ t3 n4 ⟨rfl, hna2, hka2⟩
   refine m1 ds (r_nil (k_seq (k_reg (m1 ds (rO (ndec_f (o_neq eZ ev_c) (by simp)) (r_nil (k_cond_f eZ (k_skip (k_reg (rO (o_addN (a := i) (b := 1) (eV (z1 (z8 qv8))) ev_c (by omega)) (m1 ds (r_nil ?_))))))))))))
   exact ⟨l.length - (i + 1), by omega, i + 1, by omega, (Keep.look hka2 (by omega) id hrv), ⟨(z1 (z2 (z8 qv6))), (z1 (z2 (z8 qv7))), ds⟩, by omega, Keep.trans (hkv) hka2 (by omega) (fun d _ h => h), by omega⟩
 refine k_exit (exK_same (k_seq (k_reg (rO (o_mov ev_c) (r_nil (k_ret ?_))))))
 exact ⟨_, ans_tmp ds, rfl, by omega, hkv⟩
end
section
variable [Env]
/-- A function value of two bytes. -/
def DoOK (fv : AV) (f : Nat → Nat → Nat) : Prop := ∃ g a b, fv = .func g a b ∧ ∀ (x y : Nat) (t : TB) (nx : Nat), bitC x → bitC y → WF tb g (a ++ ([.int .u8 (x : Int), .int .u8 (y : Int)] ++ b)) t nx (fun v t' nx' => v = .int .u8 ((f x y : Nat) : Int) ∧ nx ≤ nx' ∧ Keep t t' nx (fun _ => False))
theorem do_and : DoOK (.func 214 [] []) andB := ⟨_, _, _, rfl, fun x y t nx _ _ => andB_ok⟩
theorem do_or : DoOK (.func 215 [] []) orB := ⟨_, _, _, rfl, fun x y t nx _ _ => orB_ok⟩
theorem do_xor : DoOK (.func 216 [] []) xorB := ⟨_, _, _, rfl, fun x y t nx _ _ => xorB_ok⟩
theorem do_turn : DoOK (.func 243 [] []) (fun x _ => notB x) := ⟨_, _, _, rfl, fun x y t nx _ _ => turn1_ok⟩
theorem do_cond : DoOK (.func 208 [] []) condB := ⟨_, _, _, rfl, fun x y t nx _ _ => condB_ok⟩
def each_r0 : LI := [.o 6 (.mov (.c (.str [])))]
def each_r1 : LI := [.mv 9 0,
 .o 10 (.len .str (.t 9)),
 .o 11 (.mkslice 1 [(.int .u8 0)] (.t 10) (.t 10)),
 .mv 7 11]
def each_r2 : LI := [.mv 12 0,
 .o 13 (.len .str (.t 12)),
 .o 14 (.mov (kI 0))]
def each_r3 : LI := [.o 15 (.bin .lss (.t 14) (.t 13))]
def each_r4 : LI := [.mv 16 14,
 .mv 8 16]
def each_r5 : List DIns := [⟨0, [], .mv 17 7⟩,
 ⟨1, [], .mv 18 8⟩,
 ⟨2, [], .mv 19 2⟩,
 ⟨3, [], .mv 20 0⟩,
 ⟨4, [], .mv 21 8⟩,
 ⟨5, [3, 4], .o 22 (.sidx (.t 20) (.t 21))⟩,
 ⟨6, [], .mv 23 1⟩,
 ⟨7, [], .mv 24 8⟩,
 ⟨8, [6, 7], .o 25 (.sidx (.t 23) (.t 24))⟩,
 ⟨9, [2, 5, 8], ⟨(some 26), none, (.callV (.t 19) [(.t 22), (.t 25)])⟩⟩,
 ⟨10, [0, 1, 0, 1, 2, 3, 4, 5, 6, 7, 8, 9], .o 27 (.iaddr 1 (.t 17) (.t 18))⟩,
 ⟨11, [10, 9, 9, 0, 1, 2, 3, 4, 5, 6, 7, 8, 9], .x (.store 1 (.t 27) (.t 26))⟩]
def each_r6 : LI := [.o 28 (.bin .add (.t 14) (kI 1)),
 .mv 14 28]
def each_r7 : LI := [.mv 29 7,
 .o 30 (.b2s (.t 29)),
 .mv 6 30]
def each_c : IC := (.seq (.reg each_r0) (.seq (.reg each_r1) (.seq (.seq (.reg each_r2) (.block 0 (.loop (.seq (.reg each_r3) (.seq (.cond (.t 15) .skip (.exit 0)) (.seq (.block 1 (.seq (.reg each_r4) (.draw each_r5))) (.reg each_r6))))))) (.seq (.reg each_r7) .ret))))
theorem each_tab : tb 207 = some (.code 3 31 each_c [.tmp 6]) := by kernel_rfl
set_option maxHeartbeats 1000000 in
theorem each_ok {t : TB} {nx : Nat} {a b : List Nat} {fv : AV} {f : Nat → Nat → Nat} (ha : B4 a) (hb : B4 b) (hl : b.length = a.length) (h2 : a.length ≤ 256) (hf : DoOK fv f) (hfb : ∀ x y, bitC x → bitC y → bitC (f x y)) : WF tb 207 [.str a, .str b, fv] t nx (fun v t' nx' => v = .str (List.zipWith f a b) ∧ nx ≤ nx' ∧ Keep t t' nx (fun _ => False)) := by
 obtain ⟨fg, fa, fb, rfl, hff⟩ := hf
 refine k_fun each_tab rfl ?_
 unfold each_c
 change WC _ _ (Bt.put (some _) (Bt.put (some _) (Bt.put (some _) Bt.e 0) 1) 2) _ _ _
 refine k_seq (k_reg (rO (o_mov ev_c) (r_nil (k_seq (k_reg (m1 (z1 (get_other rfl (get_other rfl get_same))) (rO (o_len_str eZ) (r_heap (o_mkslice_u8 (w := a.length) eZ eZ (by omega)) rfl (fun t1 (hh2 : hv t1 = upd (hv t) nx (some (.row (u8s (List.replicate a.length 0)) true))) => m1 ds (r_nil (k_seq (k_seq (k_reg (m1 (z1 (z4 (get_other rfl (get_other rfl get_same)))) (rO (o_len_str eZ) (rO (o_mov ev_c) (r_nil (k_block ?_))))))))))))))))))
 refine k_loop (fun mm Tv tv nv => ∃ (i : Nat) (s : List Nat), (i ≤ a.length) ∧ (nx < nv) ∧ (s.length = a.length) ∧ (∀ c ∈ s, c ≤ 255) ∧ (ZU (List.zipWith f a b) s i) ∧ (hv tv nx = some (.row (u8s s) true)) ∧ (Tv.get 0 = some (.str a) ∧ Tv.get 1 = some (.str b) ∧ Tv.get 2 = some (.func fg fa fb) ∧ Tv.get 7 = some (.slice nx 0 a.length a.length 1 true) ∧ Tv.get 13 = some (.int .i64 ((a.length : Nat) : Int)) ∧ Tv.get 14 = some (.int .i64 ((i : Nat) : Int))) ∧ nx ≤ nv ∧ Keep t tv nx (fun _ => False) ∧ mm + i = a.length) (fun mm Tv tv nv hI => ?_) (a.length) ⟨0, List.replicate a.length 0, by omega, by omega, by simp, (by intro c hc; rw [List.mem_replicate] at hc; omega), (fun j hj => by omega), (lS hh2), ⟨(z8 (get_other rfl (get_other rfl get_same))), (z8 (get_other rfl get_same)), (z8 get_same), (z1 (z2 ds)), (z1 ds), ds⟩, by omega, kU kR hh2, by omega⟩
 obtain ⟨i, s, hi, hnx, hsl, h255, hz, hrs, ⟨qv0, qv1, qv2, qv7, qv13, qv14⟩, hnv, hkv, hmm⟩ := hI
 refine k_seq (k_reg (rO (o_lss (eV qv14) (eV qv13)) (r_nil (k_seq ?_))))
 refine k_if eZ (fun hc3 => ?_) (fun hc3 => ?_)
 · refine k_skip (k_seq (k_block (k_seq (k_reg (m1 (z1 qv14) (m1 ds (r_nil ?_)))))))
   obtain ⟨x, hx⟩ := some_at (l := a) (i := i) (by omega)
   obtain ⟨y, hy⟩ := some_at (l := b) (i := i) (by omega)
   have hxb := ha x (List.mem_of_getElem? hx)
   have hyb := hb y (List.mem_of_getElem? hy)
   have hxyb := bitC_iff.1 (hfb x y hxb hyb)
   refine k_draw (eO 0 rfl (o_mov (eV (z1 (z2 qv7)))) (eO 1 rfl (o_mov (eV (z1 ds))) (eO 2 rfl (o_mov (eV (z1 (z4 qv2)))) (eO 3 rfl (o_mov (eV (z2 (z4 qv0)))) (eO 4 rfl (o_mov (eV (z4 ds))) (eO 5 rfl (o_sidx (eV (z1 ds)) eZ hx) (eO 6 rfl (o_mov (eV (z1 (z8 qv1)))) (eO 7 rfl (o_mov (eV (z1 (z2 (z4 ds))))) (eO 8 rfl (o_sidx (eV (z1 ds)) eZ hy) (d_call (ix := 9) (pr := [2, 5, 8]) (d := (some 26)) (g := none) (F' := [(⟨1, [], .mv 18 8⟩, (.int .i64 ((i : Nat) : Int))), (⟨0, [], .mv 17 7⟩, (.slice nx 0 a.length a.length 1 true))]) (w_callV (eV (z2 (z4 ds))) (evs_cons (eV (z1 (z2 ds))) (evs_cons eZ evs_nil))) rfl (by kernel_rfl) (by kernel_rfl) (by kernel_rfl) (by kernel_rfl) (WF.mono (hff x y _ _ hxb hyb) ?_)))))))))))
   rintro _ t5 n6 ⟨rfl, hna4, hka4⟩
   refine ⟨?_, ?_⟩
   · exact (all_cons_ (still_op rfl rfl (o_mov (eV (z2 (z8 ds)))) (aeq_flat rfl)) (all_cons_ (still_op rfl rfl (o_mov (eV (z1 (z4 (z8 qv7))))) (aeq_flat rfl)) all_nil_))
   refine eO 10 rfl (o_iaddr (i := i) (eV (z1 (z8 ds))) (eV (z8 ds)) (by omega)) ?_
   refine d_heap (ix := 11) (pr := [10, 9, 9, 0, 1, 2, 3, 4, 5, 6, 7, 8, 9]) (d := none) (g := none) (F' := []) (o := (.store 1 (.t 27) (.t 26))) (o_store_u8 (i := i) (c := (f x y)) eZ (eV (z1 ds)) (Keep.look hka4 (by omega) id hrs) (by omega) (by omega)) rfl (by kernel_rfl) (by kernel_rfl) (by kernel_rfl) (by kernel_rfl) (fun t7 (hh8 : hv t7 = upd (hv t5) nx (some (.row (u8s (s.set i ((f x y)))) true))) => ⟨?_, ?_⟩)
   · exact all_nil_
   refine e_done (k_reg (rO (o_addN (a := i) (b := 1) (eV (z1 (z2 (z4 (z8 qv14))))) ev_c (by omega)) (m1 ds (r_nil ?_))))
   exact ⟨a.length - (i + 1), by omega, i + 1, s.set i (f x y), by omega, by omega, by rw [List.length_set]; exact hsl, set_all h255 (by omega), hz.set (zip_at hx hy) (by omega), (lS hh8), ⟨(z1 (z16 qv0)), (z1 (z16 qv1)), (z1 (z16 qv2)), (z1 (z16 qv7)), (z1 (z16 qv13)), ds⟩, by omega, kU (Keep.trans (hkv) hka4 (by omega) (fun d _ h => h)) hh8, by omega⟩
 refine k_exit (exK_same (k_seq (k_reg (m1 (z1 qv7) (rO (o_b2s (s := s) eZ hrs hsl h255) (m1 ds (r_nil (k_ret ?_))))))))
 exact ⟨_, ans_tmp ds, by rw [hz.all (by simp; omega) (by simp; omega)], by omega, hkv⟩
def turned_r0 : LI := [.o 2 (.mov (.c (.str [])))]
def turned_r1 : LI := [.mv 3 0,
 .mv 4 0,
 .f 5 207 [(.t 3), (.t 4), (.c (.func 243 [] []))],
 .mv 2 5]
def turned_c : IC := (.seq (.reg turned_r0) (.seq (.reg turned_r1) .ret))
theorem turned_tab : tb 212 = some (.code 1 6 turned_c [.tmp 2]) := by kernel_rfl
theorem turned_ok {t : TB} {nx : Nat} {a : List Nat} (ha : B4 a) (h2 : a.length ≤ 256) : WF tb 212 [(.str a)] t nx (fun v t' nx' => v = .str (turnL a) ∧ nx ≤ nx' ∧ Keep t t' nx (fun _ => False)) := by
 refine k_fun turned_tab rfl ?_
 unfold turned_c
 change WC _ _ (Bt.put (some _) Bt.e 0) _ _ _
 refine k_seq (k_reg (rO (o_mov ev_c) (r_nil (k_seq (k_reg (m1 (z1 get_same) (m1 (z2 get_same) (r_call (w_callF (evs_cons (eV (z1 ds)) (evs_cons eZ (evs_cons ev_c evs_nil)))) rfl (WF.mono (each_ok ha ha rfl h2 do_turn (fun x _ _ _ => notB_bit x)) ?_)))))))))
 rintro _ t2 n3 ⟨rfl, hna1, hka1⟩
 refine m1 ds (r_nil (k_ret ?_))
 exact ⟨_, ans_tmp ds, by rw [zip_self]; rfl, by omega, Keep.trans kR hka1 (by omega) (fun d _ h => h)⟩
def folded_r0 : LI := [.o 6 (.mov (.c (.str [])))]
def folded_r1 : LI := [.mv 8 1,
 .o 9 (.len .str (.t 8)),
 .o 10 (.mov (kI 0))]
def folded_r2 : LI := [.o 11 (.bin .lss (.t 10) (.t 9))]
def folded_r3 : LI := [.mv 12 10,
 .mv 7 12]
def folded_r4 : LI := [.mv 13 2,
 .mv 14 0,
 .mv 15 1,
 .mv 16 7,
 .o 17 (.sidx (.t 15) (.t 16)),
 ⟨(some 18), none, (.callV (.t 13) [(.t 14), (.t 17)])⟩,
 .mv 0 18]
def folded_r5 : LI := [.o 19 (.bin .add (.t 10) (kI 1)),
 .mv 10 19]
def folded_r6 : LI := [.mv 20 0,
 .o 21 (.bslice 1 1 [(.int .u8 0)] [(0, 1, (.t 20))]),
 .o 22 (.b2s (.t 21)),
 .mv 6 22]
def folded_c : IC := (.seq (.reg folded_r0) (.seq (.seq (.reg folded_r1) (.block 0 (.loop (.seq (.reg folded_r2) (.seq (.cond (.t 11) .skip (.exit 0)) (.seq (.block 1 (.seq (.reg folded_r3) (.reg folded_r4))) (.reg folded_r5))))))) (.seq (.reg folded_r6) .ret)))
theorem folded_tab : tb 213 = some (.code 3 23 folded_c [.tmp 6]) := by kernel_rfl
set_option maxHeartbeats 1000000 in
theorem folded_ok {t : TB} {nx : Nat} {c : Nat} {a : List Nat} {fv : AV} {f : Nat → Nat → Nat} (hc : bitC c) (ha : B4 a) (hf : DoOK fv f) (h2 : a.length ≤ 256) (hfb : ∀ x y, bitC (f x y)) : WF tb 213 [(.int .u8 ((c : Nat) : Int)), (.str a), fv] t nx (fun v t' nx' => v = .str [a.foldl f c] ∧ nx ≤ nx' ∧ Keep t t' nx (fun _ => False)) := by
 obtain ⟨fg, fa, fb, rfl, hff⟩ := hf
 refine k_fun folded_tab rfl ?_
 unfold folded_c
 change WC _ _ (Bt.put (some _) (Bt.put (some _) (Bt.put (some _) Bt.e 0) 1) 2) _ _ _
 refine k_seq (k_reg (rO (o_mov ev_c) (r_nil (k_seq (k_seq (k_reg (m1 (z1 (get_other rfl get_same)) (rO (o_len_str eZ) (rO (o_mov ev_c) (r_nil (k_block (k_loop (fun mm Tv tv nv => ∃ (i z : Nat), i ≤ a.length ∧ z = (a.take i).foldl f c ∧ (Tv.get 0 = some (.int .u8 ((z : Nat) : Int)) ∧ Tv.get 1 = some (.str a) ∧ Tv.get 2 = some (.func fg fa fb) ∧ Tv.get 9 = some (.int .i64 ((a.length : Nat) : Int)) ∧ Tv.get 10 = some (.int .i64 ((i : Nat) : Int))) ∧ nx ≤ nv ∧ Keep t tv nx (fun _ => False) ∧ mm + i = a.length) (fun mm Tv tv nv hI => ?_) (a.length) ⟨0, c, by omega, rfl, ⟨(z4 (get_other rfl (get_other rfl get_same))), (z4 (get_other rfl get_same)), (z4 get_same), (z1 ds), ds⟩, by omega, kR, by omega⟩))))))))))))
 obtain ⟨i, z, hi, hz, ⟨q0, q1, q2, q9, q10⟩, hnv, hkv, hmm⟩ := hI
 refine k_seq (k_reg (rO (o_lss (eV q10) (eV q9)) (r_nil (k_seq ?_))))
 refine k_if eZ (fun hc1 => ?_) (fun hc1 => ?_)
 · refine k_skip (k_seq (k_block (k_seq (k_reg (m1 (z1 q10) (m1 ds (r_nil ?_)))))))
   obtain ⟨x, hx⟩ := some_at (l := a) (i := i) (by omega)
   have hxb := ha x (List.mem_of_getElem? hx)
   have hzb : bitC z := by rw [hz]; exact fold_bit hfb _ hc
   refine k_reg (m1 (z1 (z2 q2)) (m1 (z4 q0) (m1 (z1 (z4 q1)) (m1 (z1 (z2 ds)) (rO (o_sidx (eV (z1 ds)) eZ hx) (r_call (w_callV (eV (z4 ds)) (evs_cons (eV (z1 (z2 ds))) (evs_cons eZ evs_nil))) rfl (WF.mono (hff z x _ _ hzb hxb) ?_)))))))
   rintro _ t3 n4 ⟨rfl, hna2, hka2⟩
   refine m1 ds (r_nil (k_reg (rO (o_addN (a := i) (b := 1) (eV (z2 (z8 q10))) ev_c (by omega)) (m1 ds (r_nil ?_)))))
   exact ⟨a.length - (i + 1), by omega, i + 1, f z x, by omega, by rw [take_fold hx, hz], ⟨(z2 ds), (z4 (z8 q1)), (z4 (z8 q2)), (z4 (z8 q9)), ds⟩, by omega, Keep.trans (hkv) hka2 (by omega) (fun d _ h => h), by omega⟩
 refine k_exit (exK_same (k_seq ?_))
 have hzb := bitC_iff.1 (show bitC z by rw [hz]; exact fold_bit hfb _ hc)
 refine k_reg (m1 (z1 q0) (r_heap (o_bslice (fill_cons eZ rfl rfl fill_nil)) rfl (fun t5 (hh6 : hv t5 = upd (hv tv) nv (some (.row [(.int .u8 ((z : Nat) : Int))] true))) => ?_)))
 refine rO (o_b2s (s := [z]) eZ (by exact (lS hh6)) rfl (by intro c_ hc_; rw [List.mem_singleton] at hc_; omega)) ?_
 refine m1 ds (r_nil (k_ret ?_))
 exact ⟨_, ans_tmp ds, by rw [hz, List.take_of_length_le (by omega)], by omega, kU (hkv) hh6⟩
def number_r0 : LI := [.o 4 (.mov (kI 0))]
def number_r1 : LI := [.o 5 (.mov (kI 0))]
def number_r2 : LI := [.mv 7 0,
 .o 8 (.len .str (.t 7)),
 .o 9 (.mov (kI 0))]
def number_r3 : LI := [.o 10 (.bin .lss (.t 9) (.t 8))]
def number_r4 : LI := [.mv 11 9,
 .mv 6 11]
def number_r5 : LI := [.mv 12 5,
 .o 13 (.bin .mul (kI 2) (.t 12)),
 .mv 14 0,
 .mv 15 6,
 .o 16 (.sidx (.t 14) (.t 15)),
 .o 17 (.bin .sub (.t 16) (.c (.int .u8 48))),
 .o 18 (.conv .i64 (.t 17)),
 .o 19 (.bin .add (.t 13) (.t 18)),
 .mv 20 1,
 .o 21 (.mm false (.t 19) (.t 20)),
 .mv 5 21]
def number_r6 : LI := [.o 22 (.bin .add (.t 9) (kI 1)),
 .mv 9 22]
def number_r7 : LI := [.mv 23 5,
 .mv 4 23]
def number_c : IC := (.seq (.reg number_r0) (.seq (.reg number_r1) (.seq (.seq (.reg number_r2) (.block 0 (.loop (.seq (.reg number_r3) (.seq (.cond (.t 10) .skip (.exit 0)) (.seq (.block 1 (.seq (.reg number_r4) (.reg number_r5))) (.reg number_r6))))))) (.seq (.reg number_r7) .ret))))
theorem number_tab : tb 211 = some (.code 2 24 number_c [.tmp 4]) := by kernel_rfl
set_option maxHeartbeats 1000000 in
theorem number_ok {t : TB} {nx : Nat} {a : List Nat} {m : Nat} (ha : ∀ c ∈ a, c = 48 ∨ c = 49) (h2 : a.length ≤ 256) (hm : m ≤ 65536) : WF tb 211 [(.str a), (.int .i64 ((m : Nat) : Int))] t nx (fun v t' nx' => v = .int .i64 ((numL a m : Nat) : Int) ∧ nx ≤ nx' ∧ Keep t t' nx (fun _ => False)) := by
 refine k_fun number_tab rfl ?_
 unfold number_c
 change WC _ _ (Bt.put (some _) (Bt.put (some _) Bt.e 0) 1) _ _ _
 refine k_seq (k_reg (rO (o_mov ev_c) (r_nil (k_seq (k_reg (rO (o_mov ev_c) (r_nil (k_seq (k_seq (k_reg (m1 (z2 (get_other rfl get_same)) (rO (o_len_str eZ) (rO (o_mov ev_c) (r_nil (k_block (k_loop (fun mm Tv tv nv => ∃ (i z : Nat), i ≤ a.length ∧ z = numL (a.take i) m ∧ (Tv.get 0 = some (.str a) ∧ Tv.get 1 = some (.int .i64 ((m : Nat) : Int)) ∧ Tv.get 5 = some (.int .i64 ((z : Nat) : Int)) ∧ Tv.get 8 = some (.int .i64 ((a.length : Nat) : Int)) ∧ Tv.get 9 = some (.int .i64 ((i : Nat) : Int))) ∧ nx ≤ nv ∧ Keep t tv nx (fun _ => False) ∧ mm + i = a.length) (fun mm Tv tv nv hI => ?_) (a.length) ⟨0, 0, by omega, rfl, ⟨(z1 (z4 (get_other rfl get_same))), (z1 (z4 get_same)), (z1 (z2 ds)), (z1 ds), ds⟩, by omega, kR, by omega⟩))))))))))))))))
 obtain ⟨i, z, hi, hz, ⟨q0, q1, q5, q8, q9⟩, hnv, hkv, hmm⟩ := hI
 refine k_seq (k_reg (rO (o_lss (eV q9) (eV q8)) (r_nil (k_seq ?_))))
 refine k_if eZ (fun hc1 => ?_) (fun hc1 => ?_)
 · refine k_skip (k_seq (k_block (k_seq (k_reg (m1 (z1 q9) (m1 ds (r_nil ?_)))))))
   obtain ⟨x, hx⟩ := some_at (l := a) (i := i) (by omega)
   have hxb := ha x (List.mem_of_getElem? hx)
   have hzm : z ≤ m := by rw [hz]; exact numL_le _ _
   refine k_reg (m1 (z1 (z2 q5)) (rO (o_mulN (a := 2) (b := z) ev_c eZ (by omega)) (m1 (z1 (z4 q0)) (m1 (z1 (z2 ds)) (rO (o_sidx (eV (z1 ds)) eZ hx) (rO (o_sub8 (a := x) (b := 48) eZ ev_c (by omega) (by omega)) (rO (o_convN (k' := .i64) (a := (x - 48)) eZ (by omega) (by decide)) (rO (o_addN (a := (2 * z)) (b := (x - 48)) (eV (z1 (z4 ds))) eZ (by omega)) (m1 (z1 (z2 (z8 q1))) (rO (o_minN2 (a := ((2 * z) + (x - 48))) (b := m) (eV (z1 ds)) eZ) (m1 ds (r_nil (k_reg (rO (o_addN (a := i) (b := 1) (eV (z2 (z4 (z8 q9)))) ev_c (by omega)) (m1 ds (r_nil ?_))))))))))))))))
   exact ⟨a.length - (i + 1), by omega, i + 1, _, by omega, (by unfold numL at hz ⊢; rw [take_fold (f := fun n b => min (2 * n + (b - 48)) m) hx, ← hz]), ⟨(z16 q0), (z16 q1), (z2 ds), (z16 q8), ds⟩, by omega, hkv, by omega⟩
 refine k_exit (exK_same (k_seq (k_reg (m1 (z1 q5) (m1 ds (r_nil (k_ret ?_)))))))
 exact ⟨_, ans_tmp ds, by rw [hz, List.take_of_length_le (by omega)], by omega, hkv⟩
def sum__r0 : LI := [.o 6 (.mov (.c (.str [])))]
def sum__r1 : LI := [.mv 10 0,
 .o 11 (.len .str (.t 10)),
 .o 12 (.mkslice 1 [(.int .u8 0)] (.t 11) (.t 11)),
 .mv 7 12]
def sum__r2 : LI := [.mv 13 0,
 .o 14 (.len .str (.t 13)),
 .o 15 (.bin .sub (.t 14) (kI 1)),
 .mv 8 15]
def sum__r3 : LI := [.mv 16 8,
 .o 17 (.bin .geq (.t 16) (kI 0))]
def sum__r4 : List DIns := [⟨0, [], .mv 20 0⟩,
 ⟨1, [], .mv 21 8⟩,
 ⟨2, [0, 1], .o 22 (.sidx (.t 20) (.t 21))⟩,
 ⟨3, [2], .o 23 (.bin .sub (.t 22) (.c (.int .u8 48)))⟩,
 ⟨4, [], .mv 24 1⟩,
 ⟨5, [], .mv 25 8⟩,
 ⟨6, [4, 5], .o 26 (.sidx (.t 24) (.t 25))⟩,
 ⟨7, [3, 6], .o 27 (.bin .add (.t 23) (.t 26))⟩,
 ⟨8, [7], .o 28 (.bin .sub (.t 27) (.c (.int .u8 48)))⟩,
 ⟨9, [], .mv 29 2⟩,
 ⟨10, [8, 9], .o 30 (.bin .add (.t 28) (.t 29))⟩,
 ⟨11, [10, 0, 1, 2, 3, 4, 5, 6, 7, 8, 9, 10], .mv 9 30⟩]
def sum__r5 : LI := [.mv 31 7,
 .mv 32 8,
 .mv 33 9,
 .o 34 (.bin .and (.t 33) (.c (.int .u8 1))),
 .o 35 (.bin .add (.c (.int .u8 48)) (.t 34)),
 .o 36 (.iaddr 1 (.t 31) (.t 32)),
 .x (.store 1 (.t 36) (.t 35))]
def sum__r6 : LI := [.mv 37 9,
 .o 38 (.bin .shr (.t 37) (.c (.int .u64 1))),
 .mv 2 38]
def sum__r7 : LI := [.mv 18 8,
 .o 19 (.bin .sub (.t 18) (kI 1)),
 .mv 8 19]
def sum__r8 : LI := [.mv 39 7,
 .o 40 (.b2s (.t 39)),
 .mv 6 40]
def sum__c : IC := (.seq (.reg sum__r0) (.seq (.reg sum__r1) (.seq (.seq (.reg sum__r2) (.block 0 (.loop (.seq (.seq (.reg sum__r3) (.cond (.t 17) .skip (.exit 0))) (.seq (.block 1 (.seq (.draw sum__r4) (.seq (.reg sum__r5) (.reg sum__r6)))) (.reg sum__r7)))))) (.seq (.reg sum__r8) .ret))))
theorem sum__tab : tb 218 = some (.code 3 41 sum__c [.tmp 6]) := by kernel_rfl
set_option maxHeartbeats 1000000 in
theorem lsum_ok {t : TB} {nx : Nat} {a b : List Nat} {c : Nat} (ha : ∀ x ∈ a, x = 48 ∨ x = 49) (hb : ∀ x ∈ b, x = 48 ∨ x = 49) (hl : b.length = a.length) (h2 : a.length ≤ 256) (hc : c ≤ 1) : WF tb 218 [(.str a), (.str b), (.int .u8 ((c : Nat) : Int))] t nx (fun v t' nx' => v = .str (sumL a b c) ∧ nx ≤ nx' ∧ Keep t t' nx (fun _ => False)) := by
 refine k_fun sum__tab rfl ?_
 unfold sum__c
 change WC _ _ (Bt.put (some _) (Bt.put (some _) (Bt.put (some _) Bt.e 0) 1) 2) _ _ _
 refine k_seq (k_reg (rO (o_mov ev_c) (r_nil (k_seq (k_reg (m1 (z1 (get_other rfl (get_other rfl get_same))) (rO (o_len_str eZ) (r_heap (o_mkslice_u8 (w := a.length) eZ eZ (by omega)) rfl (fun t1 (hh2 : hv t1 = upd (hv t) nx (some (.row (u8s (List.replicate a.length 0)) true))) => m1 ds (r_nil (k_seq (k_seq (k_reg (m1 (z1 (z4 (get_other rfl (get_other rfl get_same)))) (rO (o_len_str eZ) (rO (o_sub eZ ev_c (by omega) (by omega)) (m1 ds (r_nil (k_block ?_)))))))))))))))))))
 refine k_loop (fun mm Tv tv nv => ∃ (k : Nat) (s : List Nat), k ≤ a.length ∧ s.length = a.length ∧ (∀ c ∈ s, c ≤ 255) ∧ s.drop k = (sumR (a.drop k) (b.drop k) c).1 ∧ (sumR (a.drop k) (b.drop k) c).2 ≤ 1 ∧ hv tv nx = some (.row (u8s s) true) ∧ (Tv.get 0 = some (.str a) ∧ Tv.get 1 = some (.str b) ∧ Tv.get 2 = some (.int .u8 (((sumR (a.drop k) (b.drop k) c).2 : Nat) : Int)) ∧ Tv.get 7 = some (.slice nx 0 a.length a.length 1 true) ∧ Tv.get 8 = some (.int .i64 (((k : Nat) : Int) - 1))) ∧ nx < nv ∧ Keep t tv nx (fun _ => False) ∧ mm = k) (fun mm Tv tv nv hI => ?_) (a.length) ⟨a.length, List.replicate a.length 0, by omega, by simp, (by intro c hc; rw [List.mem_replicate] at hc; omega), by rw [sum_end (Nat.le_refl _)]; simp, by rw [sum_end (Nat.le_refl _)]; exact hc, (lS hh2), ⟨(z1 (z8 (get_other rfl (get_other rfl get_same)))), (z1 (z8 (get_other rfl get_same))), by rw [sum_end (Nat.le_refl _)]; exact (z1 (z8 get_same)), (z4 ds), ds⟩, by omega, kU kR hh2, rfl⟩
 obtain ⟨k, s, hi, hsl, h255, hs, hcr, hrs, ⟨q0, q1, q2, q7, q8⟩, hnv, hkv, hmm⟩ := hI
 refine k_seq (k_seq (k_reg (m1 q8 (rO (o_geq eZ ev_c) (r_nil ?_)))))
 refine k_in eZ (fun hc3 => ?_) (fun hc3 => ?_)
 · refine k_skip (k_seq (k_block (k_seq ?_)))
   obtain ⟨q, rfl⟩ : ∃ q, k = q + 1 := ⟨k - 1, by omega⟩
   obtain ⟨x, hx⟩ := some_at (l := a) (i := q) (by omega)
   obtain ⟨y, hy⟩ := some_at (l := b) (i := q) (by omega)
   have hxb := ha x (List.mem_of_getElem? hx)
   have hyb := hb y (List.mem_of_getElem? hy)
   have hst := sum_step (c := c) hx hy
   generalize hcz : (sumR (a.drop (q + 1)) (b.drop (q + 1)) c).2 = z at *
   have he : x - 48 + y - 48 + z = x - 48 + (y - 48) + z := by omega
   rw [← he] at hst
   refine k_draw (eO 0 rfl (o_mov (eV (z2 q0))) (eO 1 rfl (o_mov (eV (z1 (z2 (q8.trans (congrArg (fun z => some (AV.int .i64 z)) (show (((q + 1 : Nat) : Int) - 1) = ((q : Nat) : Int) by omega))))))) (eO 2 rfl (o_sidx (eV (z1 ds)) eZ hx) (eO 3 rfl (o_sub8 (a := x) (b := 48) eZ ev_c (by omega) (by omega)) (eO 4 rfl (o_mov (eV (z2 (z4 q1)))) (eO 5 rfl (o_mov (eV (z1 (z2 (z4 (q8.trans (congrArg (fun z => some (AV.int .i64 z)) (show (((q + 1 : Nat) : Int) - 1) = ((q : Nat) : Int) by omega)))))))) (eO 6 rfl (o_sidx (eV (z1 ds)) eZ hy) (eO 7 rfl (o_add8 (a := (x - 48)) (b := y) (eV (z1 (z2 ds))) eZ (by omega)) (eO 8 rfl (o_sub8 (a := ((x - 48) + y)) (b := 48) eZ ev_c (by omega) (by omega)) (eO 9 rfl (o_mov (eV (z1 (z2 (z8 q2))))) (eO 10 rfl (o_add8 (a := (((x - 48) + y) - 48)) (b := z) (eV (z1 ds)) eZ (by omega)) (eO 11 rfl (o_mov eZ) (e_done (k_seq (k_reg (m1 (z2 (z4 (z8 q7))) (rO (o_mov (eV (z1 (z2 (z4 (z8 (q8.trans (congrArg (fun z => some (AV.int .i64 z)) (show (((q + 1 : Nat) : Int) - 1) = ((q : Nat) : Int) by omega))))))))) (m1 (z2 ds) (rO (o_and8 (a := ((((x - 48) + y) - 48) + z)) eZ (by omega)) (rO (o_add8 (a := 48) (b := (((((x - 48) + y) - 48) + z) % 2)) ev_c eZ (by omega)) (rO (o_iaddr (i := q) (eV (z4 ds)) (eV (z1 (z2 ds))) (by omega)) (r_heap (o_store_u8 (i := q) (c := (48 + (((((x - 48) + y) - 48) + z) % 2))) eZ (eV (z1 ds)) hrs (by omega) (by omega)) rfl (fun t4 (hh5 : hv t4 = upd (hv tv) nx (some (.row (u8s (s.set q ((48 + (((((x - 48) + y) - 48) + z) % 2))))) true))) => ?_)))))))))))))))))))))))
   refine r_nil (k_reg (m1 (z1 (z2 (z4 ds))) (rO (o_half8 (a := ((((x - 48) + y) - 48) + z)) eZ) (m1 ds (r_nil (k_reg (rO (o_mov (eV (z8 (z16 (q8.trans (congrArg (fun z => some (AV.int .i64 z)) (show (((q + 1 : Nat) : Int) - 1) = ((q : Nat) : Int) by omega))))))) (rO (o_sub eZ ev_c (by omega) (by omega)) (m1 ds (r_nil ?_))))))))))
   exact ⟨q, by omega, q, _, by omega, by rw [List.length_set]; exact hsl, set_all h255 (by omega), by rw [hst]; exact set_drop hs (by omega), by rw [hst]; show _ / 2 ≤ 1; omega, (lS hh5), ⟨(z1 (z2 (z8 (z16 q0)))), (z1 (z2 (z8 (z16 q1)))), by rw [hst]; exact (z1 (z2 ds)), (z1 (z2 (z8 (z16 q7)))), ds⟩, by omega, kU (hkv) hh5, rfl⟩
 refine k_exit (exK_same (k_seq (k_reg (m1 (z2 q7) (rO (o_b2s (s := s) eZ hrs hsl h255) (m1 ds (r_nil (k_ret ?_))))))))
 exact ⟨_, ans_tmp ds, by rw [show k = 0 by omega] at hs; simp only [List.drop_zero] at hs; rw [hs]; rfl, by omega, hkv⟩
end
section
variable [Env]
theorem lisn_ok {t : TB} {nx : Nat} {p : Prop} [Decidable p] : WF tb 245 [.bool (!decide p)] t nx (fun v t' nx' => v = .str (isL (¬ p)) ∧ nx ≤ nx' ∧ Keep t t' nx (fun _ => False)) := by rw [← decide_not]; exact lis_ok
theorem isL_iff {p q : Prop} [Decidable p] [Decidable q] (h : p ↔ q) : isL p = isL q := by unfold isL; by_cases hp : p <;> simp [hp, ← h]
theorem turn_kn {a : List Nat} (h : ∀ c ∈ a, c = 48 ∨ c = 49) : ∀ c ∈ turnL a, c = 48 ∨ c = 49 := fun c hc => by
 unfold turnL at hc
 obtain ⟨x, hx, rfl⟩ := List.mem_map.1 hc
 rcases h x hx with rfl | rfl <;> simp [notB]
theorem rep_kn {n : Nat} : ∀ c ∈ List.replicate n 48, c = 48 ∨ c = 49 := fun c hc => .inl (List.eq_of_mem_replicate hc)
theorem isV.b {s : List Nat} (h : isV s) : B4 s := h.2.2
def shift__r0 : LI := [.o 6 (.mov (.c (.str [])))]
def shift__r1 : LI := [.mv 8 2,
 .f 9 210 [(.t 8)],
 .o 10 (.not (.t 9))]
def shift__r2 : LI := [.mv 11 1,
 .o 12 (.len .str (.t 11)),
 .f 13 217 [(.c (.str [120])), (.t 12)],
 .mv 6 13]
def shift__r3 : LI := [.mv 14 2,
 .mv 15 1,
 .o 16 (.len .str (.t 15)),
 .f 17 211 [(.t 14), (.t 16)],
 .mv 7 17]
def shift__r4 : LI := [.mv 18 0,
 .o 19 (.bin .eql (.t 18) (kI 15))]
def shift__r5 : List DIns := [⟨0, [], .mv 20 1⟩,
 ⟨1, [], .mv 21 7⟩,
 ⟨2, [0, 1], .o 22 (.sslice (.t 20) (some (.t 21)) none)⟩,
 ⟨3, [], .mv 23 7⟩,
 ⟨4, [3], .f 24 217 [(.c (.str [48])), (.t 23)]⟩,
 ⟨5, [2, 4], .o 25 (.bin .add (.t 22) (.t 24))⟩,
 ⟨6, [5, 4, 0, 1, 2, 3, 4, 5], .mv 6 25⟩]
def shift__r6 : List DIns := [⟨0, [], .mv 26 7⟩,
 ⟨1, [0], .f 27 217 [(.c (.str [48])), (.t 26)]⟩,
 ⟨2, [], .mv 28 1⟩,
 ⟨3, [], .mv 29 1⟩,
 ⟨4, [3], .o 30 (.len .str (.t 29))⟩,
 ⟨5, [], .mv 31 7⟩,
 ⟨6, [4, 5], .o 32 (.bin .sub (.t 30) (.t 31))⟩,
 ⟨7, [2, 6], .o 33 (.sslice (.t 28) none (some (.t 32)))⟩,
 ⟨8, [1, 7], .o 34 (.bin .add (.t 27) (.t 33))⟩,
 ⟨9, [8, 1, 0, 1, 2, 3, 4, 5, 6, 7, 8], .mv 6 34⟩]
def shift__c : IC := (.seq (.reg shift__r0) (.seq (.seq (.reg shift__r1) (.cond (.t 10) (.seq (.reg shift__r2) .ret) .skip)) (.seq (.reg shift__r3) (.seq (.seq (.reg shift__r4) (.cond (.t 19) (.seq (.draw shift__r5) .ret) .skip)) (.seq (.draw shift__r6) .ret)))))
theorem shift__tab : tb 219 = some (.code 3 35 shift__c [.tmp 6]) := by kernel_rfl
set_option maxHeartbeats 1000000 in
theorem lshift_ok {t : TB} {nx : Nat} {op : Int} {a b : List Nat} (hb : B4 b) (h1 : a.length ≤ 256) (h2 : b.length ≤ 256) : WF tb 219 [(.int .i64 op), (.str a), (.str b)] t nx (fun v t' nx' => v = .str (shiftL op a b) ∧ nx ≤ nx' ∧ Keep t t' nx (fun _ => False)) := by
 have hnm := numL_le b a.length
 refine k_fun shift__tab rfl ?_
 unfold shift__c
 change WC _ _ (Bt.put (some _) (Bt.put (some _) (Bt.put (some _) Bt.e 0) 1) 2) _ _ _
 refine k_seq (k_reg (rO (o_mov ev_c) (r_nil (k_seq (k_seq (k_reg (m1 (z1 get_same) (r_call (w_callF (evs_cons eZ evs_nil)) rfl (WF.mono (kn_ok hb h2) ?_)))))))))
 rintro _ t2 n3 ⟨rfl, hnk1, hkk1⟩
 refine rO (o_notn eZ) (r_nil ?_)
 refine k_if eZ (fun hc4 => ?_) (fun hc4 => ?_)
 · refine k_seq (k_reg (m1 (z4 (get_other rfl get_same)) (rO (o_len_str eZ) (r_call (w_callF (evs_cons ev_c (evs_cons eZ evs_nil))) rfl (WF.mono (all_ok (c := 120) (by decide) (by omega)) ?_)))))
   rintro _ t6 n7 ⟨rfl, hnl5, hkl5⟩
   refine m1 ds (r_nil (k_ret ?_))
   have h_ : shiftL op a b = (List.replicate a.length 120) := by unfold shiftL; (repeat first | rw [if_pos (by first | assumption | omega)] | rw [if_neg (by first | assumption | omega)])
   exact ⟨_, ans_tmp ds, by rw [h_], by omega, Keep.trans (Keep.trans kR hkk1 (by omega) (fun d _ h => h)) hkl5 (by omega) (fun d _ h => h)⟩
 refine k_skip (k_seq (k_reg (m1 (z4 get_same) (m1 (z1 (z4 (get_other rfl get_same))) (rO (o_len_str eZ) (r_call (w_callF (evs_cons (eV (z2 ds)) (evs_cons eZ evs_nil))) rfl (WF.mono (number_ok (fun c hc => kn_bit hb (by assumption) hc) h2 (by omega)) ?_)))))))
 rintro _ t9 n10 ⟨rfl, hnn8, hkn8⟩
 refine m1 ds (r_nil (k_seq (k_seq (k_reg (m1 (z1 (z8 (get_other rfl (get_other rfl get_same)))) (rO (o_eql eZ ev_c) (r_nil ?_)))))))
 refine k_if eZ (fun hc11 => ?_) (fun hc11 => ?_)
 · refine k_seq (k_draw (eO 0 rfl (o_mov (eV (z1 (z2 (z8 (get_other rfl get_same)))))) (eO 1 rfl (o_mov (eV (z1 (z2 ds)))) (eO 2 rfl (o_ss_lo (m := (numL b a.length)) (eV (z1 ds)) eZ (by omega)) (eO 3 rfl (o_mov (eV (z1 (z4 ds)))) (d_call (ix := 4) (pr := [3]) (d := (some 24)) (g := none) (F' := [(⟨2, [0, 1], .o 22 (.sslice (.t 20) (some (.t 21)) none)⟩, (.str (a.drop (numL b a.length)))), (⟨1, [], .mv 21 7⟩, (.int .i64 (((numL b a.length) : Nat) : Int))), (⟨0, [], .mv 20 1⟩, (.str a))]) (w_callF (evs_cons ev_c (evs_cons eZ evs_nil))) rfl (by kernel_rfl) (by kernel_rfl) (by kernel_rfl) (by kernel_rfl) (WF.mono (all_ok (c := 48) (by decide) (by omega)) ?_)))))))
   rintro _ t13 n14 ⟨rfl, hnl12, hkl12⟩
   refine ⟨?_, ?_⟩
   · exact (all_cons_ (still_op rfl rfl (o_ss_lo (m := (numL b a.length)) (eV (z4 ds)) (eV (z1 (z2 ds))) (by omega)) (aeq_flat rfl)) (all_cons_ (still_op rfl rfl (o_mov (eV (z1 (z2 (z4 ds))))) (aeq_flat rfl)) (all_cons_ (still_op rfl rfl (o_mov (eV (z16 (get_other rfl get_same)))) (aeq_flat rfl)) all_nil_)))
   refine eO 5 rfl (o_cat (eV (z2 ds)) eZ (by simp only [List.length_replicate, List.length_drop, List.length_take]; omega)) ?_
   refine eO 6 rfl (o_mov eZ) (e_done (k_ret ?_))
   have h_ : shiftL op a b = ((a.drop (numL b a.length)) ++ (List.replicate (numL b a.length) 48)) := by unfold shiftL; (repeat first | rw [if_pos (by first | assumption | omega)] | rw [if_neg (by first | assumption | omega)])
   exact ⟨_, ans_tmp ds, by rw [h_], by omega, Keep.trans (Keep.trans (Keep.trans kR hkk1 (by omega) (fun d _ h => h)) hkn8 (by omega) (fun d _ h => h)) hkl12 (by omega) (fun d _ h => h)⟩
 refine k_skip (k_seq (k_draw (eO 0 rfl (o_mov (eV (z2 ds))) (eO 2 rfl (o_mov (eV (z4 (z8 (get_other rfl get_same))))) (eO 3 rfl (o_mov (eV (z1 (z4 (z8 (get_other rfl get_same)))))) (eO 4 rfl (o_len_str eZ) (eO 5 rfl (o_mov (eV (z2 (z4 ds)))) (eO 6 rfl (o_subN (a := a.length) (b := (numL b a.length)) (eV (z1 ds)) eZ (by omega) (by omega)) (eO 7 rfl (o_ss_hi (m := (a.length - (numL b a.length))) (eV (z4 ds)) eZ (by omega)) (d_call (ix := 1) (pr := [0]) (d := (some 27)) (g := none) (F' := [(⟨7, [2, 6], .o 33 (.sslice (.t 28) none (some (.t 32)))⟩, (.str (a.take (a.length - (numL b a.length))))), (⟨6, [4, 5], .o 32 (.bin .sub (.t 30) (.t 31))⟩, (.int .i64 ((a.length - (numL b a.length) : Nat) : Int))), (⟨5, [], .mv 31 7⟩, (.int .i64 (((numL b a.length) : Nat) : Int))), (⟨4, [3], .o 30 (.len .str (.t 29))⟩, (.int .i64 ((a.length : Nat) : Int))), (⟨3, [], .mv 29 1⟩, (.str a)), (⟨2, [], .mv 28 1⟩, (.str a))]) (w_callF (evs_cons ev_c (evs_cons (eV (z2 (z4 ds))) evs_nil))) rfl (by kernel_rfl) (by kernel_rfl) (by kernel_rfl) (by kernel_rfl) (WF.mono (all_ok (c := 48) (by decide) (by omega)) ?_)))))))))))
 rintro _ t16 n17 ⟨rfl, hnl15, hkl15⟩
 refine ⟨?_, ?_⟩
 · exact (all_cons_ (still_op rfl rfl (o_ss_hi (m := (a.length - (numL b a.length))) (eV (z2 (z4 ds))) (eV (z2 ds)) (by omega)) (aeq_flat rfl)) (all_cons_ (still_op rfl rfl (o_subN (a := a.length) (b := (numL b a.length)) (eV (z4 ds)) (eV (z1 (z2 ds))) (by omega) (by omega)) (aeq_flat rfl)) (all_cons_ (still_op rfl rfl (o_mov (eV (z2 (z8 ds)))) (aeq_flat rfl)) (all_cons_ (still_op rfl rfl (o_len_str (eV (z1 (z4 ds)))) (aeq_flat rfl)) (all_cons_ (still_op rfl rfl (o_mov (eV (z1 (z2 (z16 (get_other rfl get_same)))))) (aeq_flat rfl)) (all_cons_ (still_op rfl rfl (o_mov (eV (z1 (z2 (z16 (get_other rfl get_same)))))) (aeq_flat rfl)) all_nil_))))))
 refine eO 8 rfl (o_cat eZ (eV (z1 ds)) (by simp only [List.length_replicate, List.length_drop, List.length_take]; omega)) ?_
 refine eO 9 rfl (o_mov eZ) (e_done (k_ret ?_))
 have h_ : shiftL op a b = ((List.replicate (numL b a.length) 48) ++ (a.take (a.length - (numL b a.length)))) := by unfold shiftL; (repeat first | rw [if_pos (by first | assumption | omega)] | rw [if_neg (by first | assumption | omega)])
 exact ⟨_, ans_tmp ds, by rw [h_], by omega, Keep.trans (Keep.trans (Keep.trans kR hkk1 (by omega) (fun d _ h => h)) hkn8 (by omega) (fun d _ h => h)) hkl15 (by omega) (fun d _ h => h)⟩
def compd_r0 : LI := [.o 6 (.mov (.c (.str [])))]
def compd_r1 : LI := [.mv 8 1,
 .f 9 210 [(.t 8)],
 .o 10 (.not (.t 9)),
 .mv 11 10,
 .g 12 11 false (.mov (.t 2)),
 ⟨(some 13), (some (11, false)), (.callF 210 [(.t 12)])⟩,
 .g 14 11 false (.not (.t 13)),
 .o 15 (.pick (.t 11) (.c (.bool true)) (.t 14))]
def compd_r2 : LI := [.o 6 (.mov (.c (.str [120])))]
def compd_r3 : LI := [.mv 16 1,
 .mv 17 2,
 .f 18 244 [(.t 16), (.t 17)],
 .mv 7 18]
def compd_r4 : LI := [.mv 19 0]
def compd_r5 : LI := [.o 21 (.bin .eql (.t 19) (kI 17)),
 .mv 20 21]
def compd_r6 : LI := [.mv 22 7,
 .o 23 (.bin .lss (.t 22) (kI 0)),
 .f 24 245 [(.t 23)],
 .mv 6 24]
def compd_r7 : LI := [.o 26 (.bin .eql (.t 19) (kI 18)),
 .mv 25 26]
def compd_r8 : LI := [.mv 27 7,
 .o 28 (.bin .leq (.t 27) (kI 0)),
 .f 29 245 [(.t 28)],
 .mv 6 29]
def compd_r9 : LI := [.o 31 (.bin .eql (.t 19) (kI 19)),
 .mv 30 31]
def compd_r10 : LI := [.mv 32 7,
 .o 33 (.bin .gtr (.t 32) (kI 0)),
 .f 34 245 [(.t 33)],
 .mv 6 34]
def compd_r11 : LI := [.o 36 (.bin .eql (.t 19) (kI 20)),
 .mv 35 36]
def compd_r12 : LI := [.mv 37 7,
 .o 38 (.bin .geq (.t 37) (kI 0)),
 .f 39 245 [(.t 38)],
 .mv 6 39]
def compd_r13 : LI := [.o 41 (.bin .eql (.t 19) (kI 21)),
 .mv 40 41]
def compd_r14 : LI := [.mv 42 7,
 .o 43 (.bin .eql (.t 42) (kI 0)),
 .f 44 245 [(.t 43)],
 .mv 6 44]
def compd_r15 : LI := [.mv 45 7,
 .o 46 (.bin .neq (.t 45) (kI 0)),
 .f 47 245 [(.t 46)],
 .mv 6 47]
def compd_c : IC := (.seq (.reg compd_r0) (.seq (.seq (.reg compd_r1) (.cond (.t 15) (.seq (.reg compd_r2) .ret) .skip)) (.seq (.reg compd_r3) (.seq (.seq (.reg compd_r4) (.block 0 (.seq (.reg compd_r5) (.cond (.t 20) (.seq (.reg compd_r6) .ret) (.seq (.reg compd_r7) (.cond (.t 25) (.seq (.reg compd_r8) .ret) (.seq (.reg compd_r9) (.cond (.t 30) (.seq (.reg compd_r10) .ret) (.seq (.reg compd_r11) (.cond (.t 35) (.seq (.reg compd_r12) .ret) (.seq (.reg compd_r13) (.cond (.t 40) (.seq (.reg compd_r14) .ret) .skip)))))))))))) (.seq (.reg compd_r15) .ret)))))
theorem compd_tab : tb 220 = some (.code 3 48 compd_c [.tmp 6]) := by kernel_rfl
set_option maxHeartbeats 1000000 in
theorem lcomp_ok {t : TB} {nx : Nat} {op : Int} {a b : List Nat} (ha : B4 a) (hb : B4 b) (h1 : a.length ≤ 256) (h2 : b.length ≤ 256) : WF tb 220 [(.int .i64 op), (.str a), (.str b)] t nx (fun v t' nx' => v = .str (compL op a b) ∧ nx ≤ nx' ∧ Keep t t' nx (fun _ => False)) := by
 refine k_fun compd_tab rfl ?_
 unfold compd_c
 change WC _ _ (Bt.put (some _) (Bt.put (some _) (Bt.put (some _) Bt.e 0) 1) 2) _ _ _
 refine k_seq (k_reg (rO (o_mov ev_c) (r_nil (k_seq (k_seq (k_reg (m1 (z1 (get_other rfl get_same)) (r_call (w_callF (evs_cons eZ evs_nil)) rfl (WF.mono (kn_ok ha h1) ?_)))))))))
 rintro _ t2 n3 ⟨rfl, hnk1, hkk1⟩
 by_cases hs4 : (hasXZ a = true)
 · refine rO (dec_t (o_notn eZ) hs4) (m1 ds (r_off (wN ds) (r_off (wN (z1 ds)) (r_off (wN (z2 ds)) (rO (o_pick_t (eV (z1 (z2 ds))) ev_c) (r_nil (k_cond_t eZ (k_seq (k_reg (rO (o_mov ev_c) (r_nil (k_ret ?_))))))))))))
   have h_ : compL op a b = [120] := by unfold compL; exact if_pos (by simp [*])
   exact ⟨_, ans_tmp ds, by rw [h_], by omega, Keep.trans kR hkk1 (by omega) (fun d _ h => h)⟩
 refine rO (dec_f (o_notn eZ) hs4) (m1 ds (r_op (o_mov (eV (z1 (z4 get_same)))) (want_on ds) (r_call (w_callF (evs_cons eZ evs_nil)) (want_on (z1 ds)) (WF.mono (kn_ok hb h2) ?_))))
 rintro _ t6 n7 ⟨rfl, hnk5, hkk5⟩
 refine r_op (o_notn eZ) (want_on (z2 ds)) (rO (o_pick_f (eV (z1 (z2 ds))) eZ) (r_nil ?_))
 refine k_if eZ (fun hc8 => ?_) (fun hc8 => ?_)
 · refine k_seq (k_reg (rO (o_mov ev_c) (r_nil (k_ret ?_))))
   have h_ : compL op a b = [120] := by unfold compL; exact if_pos (by simp [*])
   exact ⟨_, ans_tmp ds, by rw [h_], by omega, Keep.trans (Keep.trans kR hkk1 (by omega) (fun d _ h => h)) hkk5 (by omega) (fun d _ h => h)⟩
 refine k_skip (k_seq (k_reg (m1 (z1 (z8 (get_other rfl get_same))) (m1 (z2 (z8 get_same)) (r_call (w_callF (evs_cons (eV (z1 ds)) (evs_cons eZ evs_nil))) rfl (WF.mono (cmp_ok ha hb) ?_))))))
 rintro _ t10 n11 ⟨rfl, hnm9, hkm9⟩
 refine m1 ds (r_nil (k_seq (k_seq (k_reg (m1 (z1 (z4 (z8 (get_other rfl (get_other rfl get_same))))) (r_nil (k_block (k_seq (k_reg (rO (o_eql eZ ev_c) (m1 ds (r_nil ?_))))))))))))
 refine k_if eZ (fun hc12 => ?_) (fun hc12 => ?_)
 · refine k_seq (k_reg (m1 (z1 (z2 ds)) (rO (o_lss eZ ev_c) (r_call (w_callF (evs_cons eZ evs_nil)) rfl (WF.mono (lis_ok) ?_)))))
   rintro _ t14 n15 ⟨rfl, hni13, hki13⟩
   refine m1 ds (r_nil (k_ret ?_))
   have h_ : compL op a b = (isL ((cmpL a b) < 0)) := by unfold compL; rw [if_neg (show ¬ (hasXZ a = true ∨ hasXZ b = true) by simp [*])]; (repeat first | rw [if_pos (by first | assumption | omega)] | rw [if_neg (by first | assumption | omega)]); try exact isL_iff (by omega)
   exact ⟨_, ans_tmp ds, by rw [h_], by omega, Keep.trans (Keep.trans (Keep.trans (Keep.trans kR hkk1 (by omega) (fun d _ h => h)) hkk5 (by omega) (fun d _ h => h)) hkm9 (by omega) (fun d _ h => h)) hki13 (by omega) (fun d _ h => h)⟩
 refine k_seq (k_reg (rO (o_eql (eV (z2 ds)) ev_c) (m1 ds (r_nil ?_))))
 refine k_if eZ (fun hc16 => ?_) (fun hc16 => ?_)
 · refine k_seq (k_reg (m1 (z1 (z4 ds)) (rO (o_leq eZ ev_c) (r_call (w_callF (evs_cons eZ evs_nil)) rfl (WF.mono (lisn_ok) ?_)))))
   rintro _ t18 n19 ⟨rfl, hni17, hki17⟩
   refine m1 ds (r_nil (k_ret ?_))
   have h_ : compL op a b = (isL (¬ (0 < (cmpL a b)))) := by unfold compL; rw [if_neg (show ¬ (hasXZ a = true ∨ hasXZ b = true) by simp [*])]; (repeat first | rw [if_pos (by first | assumption | omega)] | rw [if_neg (by first | assumption | omega)]); try exact isL_iff (by omega)
   exact ⟨_, ans_tmp ds, by rw [h_], by omega, Keep.trans (Keep.trans (Keep.trans (Keep.trans kR hkk1 (by omega) (fun d _ h => h)) hkk5 (by omega) (fun d _ h => h)) hkm9 (by omega) (fun d _ h => h)) hki17 (by omega) (fun d _ h => h)⟩
 refine k_seq (k_reg (rO (o_eql (eV (z4 ds)) ev_c) (m1 ds (r_nil ?_))))
 refine k_if eZ (fun hc20 => ?_) (fun hc20 => ?_)
 · refine k_seq (k_reg (m1 (z1 (z2 (z4 ds))) (rO (o_gtr eZ ev_c) (r_call (w_callF (evs_cons eZ evs_nil)) rfl (WF.mono (lis_ok) ?_)))))
   rintro _ t22 n23 ⟨rfl, hni21, hki21⟩
   refine m1 ds (r_nil (k_ret ?_))
   have h_ : compL op a b = (isL (0 < (cmpL a b))) := by unfold compL; rw [if_neg (show ¬ (hasXZ a = true ∨ hasXZ b = true) by simp [*])]; (repeat first | rw [if_pos (by first | assumption | omega)] | rw [if_neg (by first | assumption | omega)]); try exact isL_iff (by omega)
   exact ⟨_, ans_tmp ds, by rw [h_], by omega, Keep.trans (Keep.trans (Keep.trans (Keep.trans kR hkk1 (by omega) (fun d _ h => h)) hkk5 (by omega) (fun d _ h => h)) hkm9 (by omega) (fun d _ h => h)) hki21 (by omega) (fun d _ h => h)⟩
 refine k_seq (k_reg (rO (o_eql (eV (z2 (z4 ds))) ev_c) (m1 ds (r_nil ?_))))
 refine k_if eZ (fun hc24 => ?_) (fun hc24 => ?_)
 · refine k_seq (k_reg (m1 (z1 (z8 ds)) (rO (o_geq eZ ev_c) (r_call (w_callF (evs_cons eZ evs_nil)) rfl (WF.mono (lisn_ok) ?_)))))
   rintro _ t26 n27 ⟨rfl, hni25, hki25⟩
   refine m1 ds (r_nil (k_ret ?_))
   have h_ : compL op a b = (isL (¬ ((cmpL a b) < 0))) := by unfold compL; rw [if_neg (show ¬ (hasXZ a = true ∨ hasXZ b = true) by simp [*])]; (repeat first | rw [if_pos (by first | assumption | omega)] | rw [if_neg (by first | assumption | omega)]); try exact isL_iff (by omega)
   exact ⟨_, ans_tmp ds, by rw [h_], by omega, Keep.trans (Keep.trans (Keep.trans (Keep.trans kR hkk1 (by omega) (fun d _ h => h)) hkk5 (by omega) (fun d _ h => h)) hkm9 (by omega) (fun d _ h => h)) hki25 (by omega) (fun d _ h => h)⟩
 refine k_seq (k_reg (rO (o_eql (eV (z8 ds)) ev_c) (m1 ds (r_nil ?_))))
 refine k_if eZ (fun hc28 => ?_) (fun hc28 => ?_)
 · refine k_seq (k_reg (m1 (z1 (z2 (z8 ds))) (rO (o_eql eZ ev_c) (r_call (w_callF (evs_cons eZ evs_nil)) rfl (WF.mono (lis_ok) ?_)))))
   rintro _ t30 n31 ⟨rfl, hni29, hki29⟩
   refine m1 ds (r_nil (k_ret ?_))
   have h_ : compL op a b = (isL ((cmpL a b) = 0)) := by unfold compL; rw [if_neg (show ¬ (hasXZ a = true ∨ hasXZ b = true) by simp [*])]; (repeat first | rw [if_pos (by first | assumption | omega)] | rw [if_neg (by first | assumption | omega)]); try exact isL_iff (by omega)
   exact ⟨_, ans_tmp ds, by rw [h_], by omega, Keep.trans (Keep.trans (Keep.trans (Keep.trans kR hkk1 (by omega) (fun d _ h => h)) hkk5 (by omega) (fun d _ h => h)) hkm9 (by omega) (fun d _ h => h)) hki29 (by omega) (fun d _ h => h)⟩
 refine k_skip (k_seq (k_reg (m1 (z1 (z2 (z8 ds))) (rO (o_neq eZ ev_c) (r_call (w_callF (evs_cons eZ evs_nil)) rfl (WF.mono (lisn_ok) ?_))))))
 rintro _ t33 n34 ⟨rfl, hni32, hki32⟩
 refine m1 ds (r_nil (k_ret ?_))
 have h_ : compL op a b = (isL (¬ ((cmpL a b) = 0))) := by unfold compL; rw [if_neg (show ¬ (hasXZ a = true ∨ hasXZ b = true) by simp [*])]; (repeat first | rw [if_pos (by first | assumption | omega)] | rw [if_neg (by first | assumption | omega)]); try exact isL_iff (by omega)
 exact ⟨_, ans_tmp ds, by rw [h_], by omega, Keep.trans (Keep.trans (Keep.trans (Keep.trans kR hkk1 (by omega) (fun d _ h => h)) hkk5 (by omega) (fun d _ h => h)) hkm9 (by omega) (fun d _ h => h)) hki32 (by omega) (fun d _ h => h)⟩
def Fit__r0 : LI := [.o 4 (.mov (.c (.str []))),
 .o 5 (.mov (kI 0))]
def Fit__r1 : LI := [.mv 7 1,
 .o 8 (.bin .lss (.t 7) (kI 1)),
 .mv 9 8,
 .g 10 9 false (.mov (.t 1)),
 .g 11 9 false (.bin .gtr (.t 10) (kI 256)),
 .o 12 (.pick (.t 9) (.c (.bool true)) (.t 11))]
def Fit__r2 : LI := [.o 4 (.mov (.c (.str []))),
 .o 5 (.mov (kI 1))]
def Fit__r3 : LI := [.mv 13 0,
 .f 14 49 [(.t 13)],
 .mv 6 14]
def Fit__r4 : LI := [.mv 15 6,
 .o 16 (.bin .neq (.t 15) (kI 0))]
def Fit__r5 : LI := [.mv 17 6,
 .o 4 (.mov (.c (.str []))),
 .mv 5 17]
def Fit__r6 : LI := [.mv 18 0,
 .mv 19 1,
 .f 20 206 [(.t 18), (.t 19)],
 .mv 4 20,
 .o 5 (.mov (kI 0))]
def Fit__c : IC := (.seq (.reg Fit__r0) (.seq (.seq (.reg Fit__r1) (.cond (.t 12) (.seq (.reg Fit__r2) .ret) .skip)) (.seq (.seq (.reg Fit__r3) (.seq (.reg Fit__r4) (.cond (.t 16) (.seq (.reg Fit__r5) .ret) .skip))) (.seq (.reg Fit__r6) .ret))))
theorem Fit__tab : tb 170 = some (.code 2 21 Fit__c [.tmp 4, .tmp 5]) := by kernel_rfl
theorem Fit_ok {t : TB} {nx : Nat} {s : List Nat} {w : Nat} (hs : isV s) (h1 : 1 ≤ w) (h2 : w ≤ 256) : WF tb 170 [(.str s), (.int .i64 ((w : Nat) : Int))] t nx (fun v t' nx' => v = .tup [.str (fitL s w), .int .i64 0] ∧ nx ≤ nx' ∧ Keep t t' nx (fun _ => False)) := by
 have hsl := hs.2.1
 refine k_fun Fit__tab rfl ?_
 unfold Fit__c
 change WC _ _ (Bt.put (some _) (Bt.put (some _) Bt.e 0) 1) _ _ _
 refine k_seq (k_reg (rO (o_mov ev_c) (rO (o_mov ev_c) (r_nil (k_seq (k_seq (k_reg (m1 (z2 get_same) ?_))))))))
 by_cases hs1 : (((w : Nat) : Int) < 1)
 · refine rO (dec_t (o_lss eZ ev_c) hs1) (m1 ds (r_off (wN ds) (r_off (wN (z1 ds)) (rO (o_pick_t (eV (z2 ds)) ev_c) (r_nil (k_cond_t eZ (k_seq (k_reg (rO (o_mov ev_c) (rO (o_mov ev_c) (r_nil (k_ret ?_))))))))))))
   exfalso; omega
 refine rO (dec_f (o_lss eZ ev_c) hs1) (m1 ds (r_op (o_mov (eV (z1 (z4 get_same)))) (want_on ds) (r_op (o_gtr eZ ev_c) (want_on (z1 ds)) (rO (o_pick_f (eV (z2 ds)) eZ) (r_nil ?_)))))
 refine k_if eZ (fun hc2 => ?_) (fun hc2 => ?_)
 · refine k_seq (k_reg (rO (o_mov ev_c) (rO (o_mov ev_c) (r_nil (k_ret ?_)))))
   exfalso; omega
 refine k_skip (k_seq (k_seq (k_reg (m1 (z8 (get_other rfl get_same)) (r_call (w_callF (evs_cons eZ evs_nil)) rfl (WF.mono (lchk_ok hs) ?_))))))
 rintro _ t4 n5 ⟨rfl, hnc3, hkc3⟩
 refine m1 ds (r_nil (k_seq (k_reg (m1 ds (rO (ndec_f (o_neq eZ ev_c) (by simp)) (r_nil (k_cond_f eZ (k_skip (k_seq (k_reg (m1 (z1 (z4 (z8 (get_other rfl get_same)))) (m1 (z2 (z4 (z8 get_same))) (r_call (w_callF (evs_cons (eV (z1 ds)) (evs_cons eZ evs_nil))) rfl (WF.mono (lfit_ok hsl h2) ?_))))))))))))))
 rintro _ t7 n8 ⟨rfl, hnf6, hkf6⟩
 refine m1 ds (rO (o_mov ev_c) (r_nil (k_ret ?_)))
 have h_ : fitL s w = (fitL s w) := rfl
 exact ⟨_, ans_two (res_tmp (z1 ds) (res_tmp ds res_nil)), by rw [h_], by omega, Keep.trans (Keep.trans kR hkc3 (by omega) (fun d _ h => h)) hkf6 (by omega) (fun d _ h => h)⟩
def Truth__r0 : LI := [.o 2 (.mov (.c (.int .u8 0))),
 .o 3 (.mov (kI 0))]
def Truth__r1 : LI := [.mv 5 0,
 .f 6 49 [(.t 5)],
 .mv 4 6]
def Truth__r2 : LI := [.mv 7 4,
 .o 8 (.bin .neq (.t 7) (kI 0))]
def Truth__r3 : LI := [.mv 9 4,
 .o 2 (.mov (.c (.int .u8 0))),
 .mv 3 9]
def Truth__r4 : LI := [.mv 10 0,
 .f 11 205 [(.t 10)],
 .mv 2 11,
 .o 3 (.mov (kI 0))]
def Truth__c : IC := (.seq (.reg Truth__r0) (.seq (.seq (.reg Truth__r1) (.seq (.reg Truth__r2) (.cond (.t 8) (.seq (.reg Truth__r3) .ret) .skip))) (.seq (.reg Truth__r4) .ret)))
theorem Truth__tab : tb 169 = some (.code 1 12 Truth__c [.tmp 2, .tmp 3]) := by kernel_rfl
theorem Truth_ok {t : TB} {nx : Nat} {s : List Nat} (hs : isV s) : WF tb 169 [(.str s)] t nx (fun v t' nx' => v = .tup [.int .u8 ((truthL s : Nat) : Int), .int .i64 0] ∧ nx ≤ nx' ∧ Keep t t' nx (fun _ => False)) := by
 refine k_fun Truth__tab rfl ?_
 unfold Truth__c
 change WC _ _ (Bt.put (some _) Bt.e 0) _ _ _
 refine k_seq (k_reg (rO (o_mov ev_c) (rO (o_mov ev_c) (r_nil (k_seq (k_seq (k_reg (m1 (z2 get_same) (r_call (w_callF (evs_cons eZ evs_nil)) rfl (WF.mono (lchk_ok hs) ?_))))))))))
 rintro _ t2 n3 ⟨rfl, hnc1, hkc1⟩
 refine m1 ds (r_nil (k_seq (k_reg (m1 ds (rO (ndec_f (o_neq eZ ev_c) (by simp)) (r_nil (k_cond_f eZ (k_skip (k_seq (k_reg (m1 (z1 (z2 (z4 get_same))) (r_call (w_callF (evs_cons eZ evs_nil)) rfl (WF.mono (truth_ok hs.b hs.2.1) ?_)))))))))))))
 rintro _ t5 n6 ⟨rfl, hnf4, hkf4⟩
 refine m1 ds (rO (o_mov ev_c) (r_nil (k_ret ?_)))
 exact ⟨_, ans_two (res_tmp (z1 ds) (res_tmp ds res_nil)), rfl, by omega, Keep.trans (Keep.trans kR hkc1 (by omega) (fun d _ h => h)) hkf4 (by omega) (fun d _ h => h)⟩
def Cond__r0 : LI := [.o 6 (.mov (.c (.str []))),
 .o 7 (.mov (kI 0))]
def Cond__r1 : LI := [.mv 9 0,
 .mv 10 1,
 .mv 11 2,
 .o 12 (.bslice 1 3 [(.str [])] [(0, 1, (.t 9)), (1, 1, (.t 10)), (2, 1, (.t 11))]),
 .f 13 160 [(.t 12)],
 .mv 8 13]
def Cond__r2 : LI := [.mv 14 8,
 .o 15 (.bin .neq (.t 14) (kI 0))]
def Cond__r3 : LI := [.mv 16 8,
 .o 6 (.mov (.c (.str []))),
 .mv 7 16]
def Cond__r4 : LI := [.mv 17 1,
 .o 18 (.len .str (.t 17)),
 .mv 19 2,
 .o 20 (.len .str (.t 19)),
 .o 21 (.bin .neq (.t 18) (.t 20))]
def Cond__r5 : LI := [.o 6 (.mov (.c (.str []))),
 .o 7 (.mov (kI 1))]
def Cond__r6 : LI := [.mv 22 0,
 .f 23 205 [(.t 22)]]
def Cond__r7 : LI := [.o 25 (.bin .eql (.t 23) (.c (.int .u8 49))),
 .mv 24 25]
def Cond__r8 : LI := [.mv 26 1,
 .mv 6 26,
 .o 7 (.mov (kI 0))]
def Cond__r9 : LI := [.o 28 (.bin .eql (.t 23) (.c (.int .u8 48))),
 .mv 27 28]
def Cond__r10 : LI := [.mv 29 2,
 .mv 6 29,
 .o 7 (.mov (kI 0))]
def Cond__r11 : LI := [.mv 30 1,
 .mv 31 2,
 .f 32 207 [(.t 30), (.t 31), (.c (.func 208 [] []))],
 .mv 6 32,
 .o 7 (.mov (kI 0))]
def Cond__c : IC := (.seq (.reg Cond__r0) (.seq (.seq (.reg Cond__r1) (.seq (.reg Cond__r2) (.cond (.t 15) (.seq (.reg Cond__r3) .ret) .skip))) (.seq (.seq (.reg Cond__r4) (.cond (.t 21) (.seq (.reg Cond__r5) .ret) .skip)) (.seq (.seq (.reg Cond__r6) (.block 0 (.seq (.reg Cond__r7) (.cond (.t 24) (.seq (.reg Cond__r8) .ret) (.seq (.reg Cond__r9) (.cond (.t 27) (.seq (.reg Cond__r10) .ret) .skip)))))) (.seq (.reg Cond__r11) .ret)))))
theorem Cond__tab : tb 171 = some (.code 3 33 Cond__c [.tmp 6, .tmp 7]) := by kernel_rfl
theorem Cond_ok {t : TB} {nx : Nat} {c a b : List Nat} (hc : isV c) (ha : isV a) (hb : isV b) (hl : a.length = b.length) : WF tb 171 [(.str c), (.str a), (.str b)] t nx (fun v t' nx' => v = .tup [.str (condL c a b), .int .i64 0] ∧ nx ≤ nx' ∧ Keep t t' nx (fun _ => False)) := by
 refine k_fun Cond__tab rfl ?_
 unfold Cond__c
 change WC _ _ (Bt.put (some _) (Bt.put (some _) (Bt.put (some _) Bt.e 0) 1) 2) _ _ _
 refine k_seq (k_reg (rO (o_mov ev_c) (rO (o_mov ev_c) (r_nil (k_seq (k_seq (k_reg (m1 (z2 (get_other rfl (get_other rfl get_same))) (m1 (z1 (z2 (get_other rfl get_same))) (m1 (z4 get_same) (r_heap (o_bslice (fill_cons (eV (z2 ds)) rfl rfl (fill_cons (eV (z1 ds)) rfl rfl (fill_cons eZ rfl rfl fill_nil)))) rfl (fun t1 (hh2 : hv t1 = upd (hv t) nx (some (.row [(.str c), (.str a), (.str b)] true))) => ?_))))))))))))
 refine r_call (w_callF (evs_cons eZ evs_nil)) rfl (WF.mono (chks_ok (d := nx) (l := [c, a, b]) (by omega) (lS hh2) (by simp) (by intro s_ hs_; simp only [List.mem_cons, List.not_mem_nil, or_false] at hs_; rcases hs_ with rfl | rfl | rfl; exact hc; exact ha; exact hb)) ?_)
 rintro _ t4 n5 ⟨rfl, hnc3, hkc3⟩
 refine m1 ds (r_nil (k_seq (k_reg (m1 ds (rO (ndec_f (o_neq eZ ev_c) (by simp)) (r_nil (k_cond_f eZ (k_skip (k_seq (k_seq (k_reg (m1 (z2 (z8 (get_other rfl get_same))) (rO (o_len_str eZ) (m1 (z4 (z8 get_same)) (rO (o_len_str eZ) (rO (o_neq (eV (z2 ds)) eZ) (r_nil ?_)))))))))))))))))
 refine k_in eZ (fun hc6 => ?_) (fun hc6 => ?_)
 · refine k_seq (k_reg (rO (o_mov ev_c) (rO (o_mov ev_c) (r_nil (k_ret ?_)))))
   exfalso; omega
 refine k_skip (k_seq (k_seq (k_reg (rO (o_mov (eV (z1 (z2 (z4 (z8 (get_other rfl (get_other rfl get_same)))))))) (r_call (w_callF (evs_cons eZ evs_nil)) rfl (WF.mono (truth_ok hc.b hc.2.1) ?_))))))
 rintro _ t8 n9 ⟨rfl, hnf7, hkf7⟩
 refine r_nil (k_block (k_seq (k_reg (rO (o_eqlK eZ ev_c) (m1 ds (r_nil ?_))))))
 refine k_if eZ (fun hc10 => ?_) (fun hc10 => ?_)
 · refine k_seq (k_reg (m1 (z1 (z2 (z16 (get_other rfl get_same)))) (m1 ds (rO (o_mov ev_c) (r_nil (k_ret ?_))))))
   have h_ : condL c a b = a := by unfold condL; (repeat first | rw [if_pos (by first | assumption | omega)] | rw [if_neg (by first | assumption | omega)])
   exact ⟨_, ans_two (res_tmp (z1 ds) (res_tmp ds res_nil)), by rw [h_], by omega, Keep.trans (Keep.trans (kU kR hh2) hkc3 (by omega) (fun d _ h => h)) hkf7 (by omega) (fun d _ h => h)⟩
 refine k_seq (k_reg (rO (o_eqlK (eV (z2 ds)) ev_c) (m1 ds (r_nil ?_))))
 refine k_if eZ (fun hc11 => ?_) (fun hc11 => ?_)
 · refine k_seq (k_reg (m1 (z1 (z4 (z16 get_same))) (m1 ds (rO (o_mov ev_c) (r_nil (k_ret ?_))))))
   have h_ : condL c a b = b := by unfold condL; (repeat first | rw [if_pos (by first | assumption | omega)] | rw [if_neg (by first | assumption | omega)])
   exact ⟨_, ans_two (res_tmp (z1 ds) (res_tmp ds res_nil)), by rw [h_], by omega, Keep.trans (Keep.trans (kU kR hh2) hkc3 (by omega) (fun d _ h => h)) hkf7 (by omega) (fun d _ h => h)⟩
 refine k_skip (k_seq (k_reg (m1 (z1 (z4 (z16 (get_other rfl get_same)))) (m1 (z2 (z4 (z16 get_same))) (r_call (w_callF (evs_cons (eV (z1 ds)) (evs_cons eZ (evs_cons ev_c evs_nil)))) rfl (WF.mono (each_ok ha.b hb.b hl.symm ha.2.1 do_cond (fun x _ hx _ => condB_bit hx _)) ?_))))))
 rintro _ t13 n14 ⟨rfl, hne12, hke12⟩
 refine m1 ds (rO (o_mov ev_c) (r_nil (k_ret ?_)))
 have h_ : condL c a b = (List.zipWith condB a b) := by unfold condL; (repeat first | rw [if_pos (by first | assumption | omega)] | rw [if_neg (by first | assumption | omega)])
 exact ⟨_, ans_two (res_tmp (z1 ds) (res_tmp ds res_nil)), by rw [h_], by omega, Keep.trans (Keep.trans (Keep.trans (kU kR hh2) hkc3 (by omega) (fun d _ h => h)) hkf7 (by omega) (fun d _ h => h)) hke12 (by omega) (fun d _ h => h)⟩
def Bit__r0 : LI := [.o 4 (.mov (.c (.str []))),
 .o 5 (.mov (kI 0))]
def Bit__r1 : LI := [.mv 8 0,
 .mv 9 1,
 .o 10 (.bslice 1 2 [(.str [])] [(0, 1, (.t 8)), (1, 1, (.t 9))]),
 .f 11 160 [(.t 10)],
 .mv 6 11]
def Bit__r2 : LI := [.mv 12 6,
 .o 13 (.bin .neq (.t 12) (kI 0))]
def Bit__r3 : LI := [.mv 14 6,
 .o 4 (.mov (.c (.str []))),
 .mv 5 14]
def Bit__r4 : LI := [.mv 15 1,
 .f 16 210 [(.t 15)],
 .o 17 (.not (.t 16))]
def Bit__r5 : LI := [.o 4 (.mov (.c (.str [120]))),
 .o 5 (.mov (kI 0))]
def Bit__r6 : LI := [.mv 18 1,
 .mv 19 0,
 .o 20 (.len .str (.t 19)),
 .f 21 211 [(.t 18), (.t 20)],
 .mv 7 21]
def Bit__r7 : LI := [.mv 22 7,
 .mv 23 0,
 .o 24 (.len .str (.t 23)),
 .o 25 (.bin .eql (.t 22) (.t 24))]
def Bit__r8 : LI := [.o 4 (.mov (.c (.str [120]))),
 .o 5 (.mov (kI 0))]
def Bit__r9 : LI := [.mv 26 0,
 .mv 27 0,
 .o 28 (.len .str (.t 27)),
 .o 29 (.bin .sub (.t 28) (kI 1)),
 .mv 30 7,
 .o 31 (.bin .sub (.t 29) (.t 30)),
 .mv 32 0,
 .o 33 (.len .str (.t 32)),
 .mv 34 7,
 .o 35 (.bin .sub (.t 33) (.t 34)),
 .o 36 (.sslice (.t 26) (some (.t 31)) (some (.t 35))),
 .mv 4 36,
 .o 5 (.mov (kI 0))]
def Bit__c : IC := (.seq (.reg Bit__r0) (.seq (.seq (.reg Bit__r1) (.seq (.reg Bit__r2) (.cond (.t 13) (.seq (.reg Bit__r3) .ret) .skip))) (.seq (.seq (.reg Bit__r4) (.cond (.t 17) (.seq (.reg Bit__r5) .ret) .skip)) (.seq (.reg Bit__r6) (.seq (.seq (.reg Bit__r7) (.cond (.t 25) (.seq (.reg Bit__r8) .ret) .skip)) (.seq (.reg Bit__r9) .ret))))))
theorem Bit__tab : tb 172 = some (.code 2 37 Bit__c [.tmp 4, .tmp 5]) := by kernel_rfl
theorem Bit_ok {t : TB} {nx : Nat} {a b : List Nat} (ha : isV a) (hb : isV b) : WF tb 172 [(.str a), (.str b)] t nx (fun v t' nx' => v = .tup [.str (bitL a b), .int .i64 0] ∧ nx ≤ nx' ∧ Keep t t' nx (fun _ => False)) := by
 have hnm := numL_le b a.length
 have h1 := ha.1
 have h2 := ha.2.1
 refine k_fun Bit__tab rfl ?_
 unfold Bit__c
 change WC _ _ (Bt.put (some _) (Bt.put (some _) Bt.e 0) 1) _ _ _
 refine k_seq (k_reg (rO (o_mov ev_c) (rO (o_mov ev_c) (r_nil (k_seq (k_seq (k_reg (m1 (z2 (get_other rfl get_same)) (m1 (z1 (z2 get_same)) (r_heap (o_bslice (fill_cons (eV (z1 ds)) rfl rfl (fill_cons eZ rfl rfl fill_nil))) rfl (fun t1 (hh2 : hv t1 = upd (hv t) nx (some (.row [(.str a), (.str b)] true))) => ?_)))))))))))
 refine r_call (w_callF (evs_cons eZ evs_nil)) rfl (WF.mono (chks_ok (d := nx) (l := [a, b]) (by omega) (lS hh2) (by simp) (by intro s_ hs_; simp only [List.mem_cons, List.not_mem_nil, or_false] at hs_; rcases hs_ with rfl | rfl; exact ha; exact hb)) ?_)
 rintro _ t4 n5 ⟨rfl, hnc3, hkc3⟩
 refine m1 ds (r_nil (k_seq (k_reg (m1 ds (rO (ndec_f (o_neq eZ ev_c) (by simp)) (r_nil (k_cond_f eZ (k_skip (k_seq (k_seq (k_reg (m1 (z1 (z8 get_same)) (r_call (w_callF (evs_cons eZ evs_nil)) rfl (WF.mono (kn_ok hb.b hb.2.1) ?_))))))))))))))
 rintro _ t7 n8 ⟨rfl, hnk6, hkk6⟩
 refine rO (o_notn eZ) (r_nil ?_)
 refine k_if eZ (fun hc9 => ?_) (fun hc9 => ?_)
 · refine k_seq (k_reg (rO (o_mov ev_c) (rO (o_mov ev_c) (r_nil (k_ret ?_)))))
   have h_ : bitL a b = [120] := by unfold bitL; (repeat first | rw [if_pos (by first | assumption | omega)] | rw [if_neg (by first | assumption | omega)])
   exact ⟨_, ans_two (res_tmp (z1 ds) (res_tmp ds res_nil)), by rw [h_], by omega, Keep.trans (Keep.trans (kU kR hh2) hkc3 (by omega) (fun d _ h => h)) hkk6 (by omega) (fun d _ h => h)⟩
 refine k_skip (k_seq (k_reg (m1 (z4 (z8 get_same)) (m1 (z1 (z4 (z8 (get_other rfl get_same)))) (rO (o_len_str eZ) (r_call (w_callF (evs_cons (eV (z2 ds)) (evs_cons eZ evs_nil))) rfl (WF.mono (number_ok (fun c hc => kn_bit hb.b (by assumption) hc) hb.2.1 (by omega)) ?_)))))))
 rintro _ t11 n12 ⟨rfl, hnn10, hkn10⟩
 refine m1 ds (r_nil (k_seq (k_seq (k_reg (m1 ds (m1 (z2 (z16 (get_other rfl get_same))) (rO (o_len_str eZ) (rO (o_eql (eV (z2 ds)) eZ) (r_nil ?_)))))))))
 refine k_if eZ (fun hc13 => ?_) (fun hc13 => ?_)
 · refine k_seq (k_reg (rO (o_mov ev_c) (rO (o_mov ev_c) (r_nil (k_ret ?_)))))
   have h_ : bitL a b = [120] := by unfold bitL; (repeat first | rw [if_pos (by first | assumption | omega)] | rw [if_neg (by first | assumption | omega)])
   exact ⟨_, ans_two (res_tmp (z1 ds) (res_tmp ds res_nil)), by rw [h_], by omega, Keep.trans (Keep.trans (Keep.trans (kU kR hh2) hkc3 (by omega) (fun d _ h => h)) hkk6 (by omega) (fun d _ h => h)) hkn10 (by omega) (fun d _ h => h)⟩
 refine k_skip (k_seq (k_reg (m1 (z1 (z4 (z16 (get_other rfl get_same)))) (m1 (z2 (z4 (z16 (get_other rfl get_same)))) (rO (o_len_str eZ) (rO (o_subN (a := a.length) (b := 1) eZ ev_c (by omega) (by omega)) (m1 (z8 ds) (rO (o_subN (a := (a.length - 1)) (b := (numL b a.length)) (eV (z1 ds)) eZ (by omega) (by omega)) (m1 (z1 (z2 (z8 (z16 (get_other rfl get_same))))) (rO (o_len_str eZ) (m1 (z4 (z8 ds)) (rO (o_subN (a := a.length) (b := (numL b a.length)) (eV (z1 ds)) eZ (by omega) (by omega)) (rO (o_ss_2 (m := ((a.length - 1) - (numL b a.length))) (n := (a.length - (numL b a.length))) (eV (z1 (z8 ds))) (eV (z4 ds)) eZ (by omega) (by omega)) (m1 ds (rO (o_mov ev_c) (r_nil (k_ret ?_)))))))))))))))))
 have h_ : bitL a b = ((a.drop ((a.length - 1) - (numL b a.length))).take ((a.length - (numL b a.length)) - ((a.length - 1) - (numL b a.length)))) := by unfold bitL; rw [if_neg (by assumption), if_neg (by omega)]; congr 1; omega
 exact ⟨_, ans_two (res_tmp (z1 ds) (res_tmp ds res_nil)), by rw [h_], by omega, Keep.trans (Keep.trans (Keep.trans (kU kR hh2) hkc3 (by omega) (fun d _ h => h)) hkk6 (by omega) (fun d _ h => h)) hkn10 (by omega) (fun d _ h => h)⟩
def Part__r0 : LI := [.o 6 (.mov (.c (.str []))),
 .o 7 (.mov (kI 0))]
def Part__r1 : LI := [.mv 9 0,
 .f 10 49 [(.t 9)],
 .mv 8 10]
def Part__r2 : LI := [.mv 11 8,
 .o 12 (.bin .neq (.t 11) (kI 0))]
def Part__r3 : LI := [.mv 13 8,
 .o 6 (.mov (.c (.str []))),
 .mv 7 13]
def Part__r4 : LI := [.mv 14 2,
 .o 15 (.bin .lss (.t 14) (kI 0)),
 .mv 16 15,
 .g 17 16 false (.mov (.t 1)),
 .g 18 16 false (.mov (.t 2)),
 .g 19 16 false (.bin .lss (.t 17) (.t 18)),
 .o 20 (.pick (.t 16) (.c (.bool true)) (.t 19)),
 .mv 21 20,
 .g 22 21 false (.mov (.t 1)),
 .g 23 21 false (.mov (.t 0)),
 .g 24 21 false (.len .str (.t 23)),
 .g 25 21 false (.bin .geq (.t 22) (.t 24)),
 .o 26 (.pick (.t 21) (.c (.bool true)) (.t 25))]
def Part__r5 : LI := [.o 6 (.mov (.c (.str []))),
 .o 7 (.mov (kI 1))]
def Part__r6 : LI := [.mv 27 0,
 .mv 28 0,
 .o 29 (.len .str (.t 28)),
 .o 30 (.bin .sub (.t 29) (kI 1)),
 .mv 31 1,
 .o 32 (.bin .sub (.t 30) (.t 31)),
 .mv 33 0,
 .o 34 (.len .str (.t 33)),
 .mv 35 2,
 .o 36 (.bin .sub (.t 34) (.t 35)),
 .o 37 (.sslice (.t 27) (some (.t 32)) (some (.t 36))),
 .mv 6 37,
 .o 7 (.mov (kI 0))]
def Part__c : IC := (.seq (.reg Part__r0) (.seq (.seq (.reg Part__r1) (.seq (.reg Part__r2) (.cond (.t 12) (.seq (.reg Part__r3) .ret) .skip))) (.seq (.seq (.reg Part__r4) (.cond (.t 26) (.seq (.reg Part__r5) .ret) .skip)) (.seq (.reg Part__r6) .ret))))
theorem Part__tab : tb 173 = some (.code 3 38 Part__c [.tmp 6, .tmp 7]) := by kernel_rfl
theorem Part_ok {t : TB} {nx : Nat} {a : List Nat} {hi lo : Nat} (ha : isV a) (h1 : lo ≤ hi) (h2 : hi < a.length) : WF tb 173 [(.str a), (.int .i64 ((hi : Nat) : Int)), (.int .i64 ((lo : Nat) : Int))] t nx (fun v t' nx' => v = .tup [.str (partL a hi lo), .int .i64 0] ∧ nx ≤ nx' ∧ Keep t t' nx (fun _ => False)) := by
 have h3 := ha.2.1
 refine k_fun Part__tab rfl ?_
 unfold Part__c
 change WC _ _ (Bt.put (some _) (Bt.put (some _) (Bt.put (some _) Bt.e 0) 1) 2) _ _ _
 refine k_seq (k_reg (rO (o_mov ev_c) (rO (o_mov ev_c) (r_nil (k_seq (k_seq (k_reg (m1 (z2 (get_other rfl (get_other rfl get_same))) (r_call (w_callF (evs_cons eZ evs_nil)) rfl (WF.mono (lchk_ok ha) ?_))))))))))
 rintro _ t2 n3 ⟨rfl, hnc1, hkc1⟩
 refine m1 ds (r_nil (k_seq (k_reg (m1 ds (rO (ndec_f (o_neq eZ ev_c) (by simp)) (r_nil (k_cond_f eZ (k_skip (k_seq (k_seq (k_reg (m1 (z1 (z2 (z4 get_same))) ?_))))))))))))
 by_cases hs4 : (((lo : Nat) : Int) < 0)
 · refine rO (dec_t (o_lss eZ ev_c) hs4) (m1 ds (r_off (wN ds) (r_off (wN (z1 ds)) (r_off (wN (z2 ds)) (rO (o_pick_t (eV (z1 (z2 ds))) ev_c) (m1 ds (r_off (wN ds) (r_off (wN (z1 ds)) (r_off (wN (z2 ds)) (r_off (wN (z1 (z2 ds))) (rO (o_pick_t (eV (z4 ds)) ev_c) (r_nil (k_cond_t eZ (k_seq (k_reg (rO (o_mov ev_c) (rO (o_mov ev_c) (r_nil (k_ret ?_)))))))))))))))))))
   exfalso; omega
 refine rO (dec_f (o_lss eZ ev_c) hs4) (m1 ds (r_op (o_mov (eV (z2 (z8 (get_other rfl get_same))))) (want_on ds) (r_op (o_mov (eV (z1 (z2 (z8 get_same))))) (want_on (z1 ds)) ?_)))
 by_cases hs5 : (((hi : Nat) : Int) < ((lo : Nat) : Int))
 · refine r_op (dec_t (o_lss (eV (z1 ds)) eZ) hs5) (want_on (z2 ds)) (rO (o_pick_f (eV (z1 (z2 ds))) eZ) (m1 ds (r_off (wN ds) (r_off (wN (z1 ds)) (r_off (wN (z2 ds)) (r_off (wN (z1 (z2 ds))) (rO (o_pick_t (eV (z4 ds)) ev_c) (r_nil (k_cond_t eZ (k_seq (k_reg (rO (o_mov ev_c) (rO (o_mov ev_c) (r_nil (k_ret ?_)))))))))))))))
   exfalso; omega
 refine r_op (dec_f (o_lss (eV (z1 ds)) eZ) hs5) (want_on (z2 ds)) (rO (o_pick_f (eV (z1 (z2 ds))) eZ) (m1 ds (r_op (o_mov (eV (z1 (z2 (z4 (z8 (get_other rfl get_same))))))) (want_on ds) (r_op (o_mov (eV (z16 (get_other rfl (get_other rfl get_same))))) (want_on (z1 ds)) (r_op (o_len_str eZ) (want_on (z2 ds)) (r_op (o_geq (eV (z2 ds)) eZ) (want_on (z1 (z2 ds))) (rO (o_pick_f (eV (z4 ds)) eZ) (r_nil ?_))))))))
 refine k_in eZ (fun hc6 => ?_) (fun hc6 => ?_)
 · refine k_seq (k_reg (rO (o_mov ev_c) (rO (o_mov ev_c) (r_nil (k_ret ?_)))))
   exfalso; omega
 refine k_skip (k_seq (k_reg (m1 (z4 (z16 (get_other rfl (get_other rfl get_same)))) (m1 (z1 (z4 (z16 (get_other rfl (get_other rfl get_same))))) (rO (o_len_str eZ) (rO (o_subN (a := a.length) (b := 1) eZ ev_c (by omega) (by omega)) (m1 (z8 (z16 (get_other rfl get_same))) (rO (o_subN (a := (a.length - 1)) (b := hi) (eV (z1 ds)) eZ (by omega) (by omega)) (m1 (z2 (z8 (z16 (get_other rfl (get_other rfl get_same))))) (rO (o_len_str eZ) (m1 (z4 (z8 (z16 get_same))) (rO (o_subN (a := a.length) (b := lo) (eV (z1 ds)) eZ (by omega) (by omega)) (rO (o_ss_2 (m := ((a.length - 1) - hi)) (n := (a.length - lo)) (eV (z1 (z8 ds))) (eV (z4 ds)) eZ (by omega) (by omega)) (m1 ds (rO (o_mov ev_c) (r_nil (k_ret ?_)))))))))))))))))
 have h_ : partL a hi lo = ((a.drop ((a.length - 1) - hi)).take ((a.length - lo) - ((a.length - 1) - hi))) := rfl
 exact ⟨_, ans_two (res_tmp (z1 ds) (res_tmp ds res_nil)), by rw [h_], by omega, Keep.trans kR hkc1 (by omega) (fun d _ h => h)⟩
def Unary__r0 : LI := [.o 4 (.mov (.c (.str []))),
 .o 5 (.mov (kI 0))]
def Unary__r1 : LI := [.mv 7 0,
 .o 8 (.bin .lss (.t 7) (kI 7)),
 .mv 9 8,
 .g 10 9 false (.mov (.t 0)),
 .g 11 9 false (.bin .gtr (.t 10) (kI 12)),
 .o 12 (.pick (.t 9) (.c (.bool true)) (.t 11))]
def Unary__r2 : LI := [.o 4 (.mov (.c (.str []))),
 .o 5 (.mov (kI 1))]
def Unary__r3 : LI := [.mv 13 1,
 .f 14 49 [(.t 13)],
 .mv 6 14]
def Unary__r4 : LI := [.mv 15 6,
 .o 16 (.bin .neq (.t 15) (kI 0))]
def Unary__r5 : LI := [.mv 17 6,
 .o 4 (.mov (.c (.str []))),
 .mv 5 17]
def Unary__r6 : LI := [.mv 18 0]
def Unary__r7 : LI := [.o 20 (.bin .eql (.t 18) (kI 7)),
 .mv 19 20]
def Unary__r8 : LI := [.mv 21 1,
 .f 22 212 [(.t 21)],
 .mv 4 22,
 .o 5 (.mov (kI 0))]
def Unary__r9 : LI := [.o 24 (.bin .eql (.t 18) (kI 8)),
 .mv 23 24]
def Unary__r10 : LI := [.mv 25 1,
 .f 26 205 [(.t 25)],
 .f 27 209 [(.t 26)],
 .o 28 (.bslice 1 1 [(.int .u8 0)] [(0, 1, (.t 27))]),
 .o 29 (.b2s (.t 28)),
 .mv 4 29,
 .o 5 (.mov (kI 0))]
def Unary__r11 : LI := [.o 31 (.bin .eql (.t 18) (kI 10)),
 .mv 30 31]
def Unary__r12 : LI := [.mv 32 1,
 .f 33 213 [(.c (.int .u8 49)), (.t 32), (.c (.func 214 [] []))],
 .mv 4 33,
 .o 5 (.mov (kI 0))]
def Unary__r13 : LI := [.o 35 (.bin .eql (.t 18) (kI 11)),
 .mv 34 35]
def Unary__r14 : LI := [.mv 36 1,
 .f 37 213 [(.c (.int .u8 48)), (.t 36), (.c (.func 215 [] []))],
 .mv 4 37,
 .o 5 (.mov (kI 0))]
def Unary__r15 : LI := [.o 39 (.bin .eql (.t 18) (kI 12)),
 .mv 38 39]
def Unary__r16 : LI := [.mv 40 1,
 .f 41 213 [(.c (.int .u8 48)), (.t 40), (.c (.func 216 [] []))],
 .mv 4 41,
 .o 5 (.mov (kI 0))]
def Unary__r17 : LI := [.mv 42 1,
 .f 43 210 [(.t 42)],
 .o 44 (.not (.t 43))]
def Unary__r18 : LI := [.mv 45 1,
 .o 46 (.len .str (.t 45)),
 .f 47 217 [(.c (.str [120])), (.t 46)],
 .mv 4 47,
 .o 5 (.mov (kI 0))]
def Unary__r19 : LI := [.mv 48 1,
 .f 49 212 [(.t 48)],
 .mv 50 1,
 .o 51 (.len .str (.t 50)),
 .f 52 217 [(.c (.str [48])), (.t 51)],
 .f 53 218 [(.t 49), (.t 52), (.c (.int .u8 1))],
 .mv 4 53,
 .o 5 (.mov (kI 0))]
def Unary__c : IC := (.seq (.reg Unary__r0) (.seq (.seq (.reg Unary__r1) (.cond (.t 12) (.seq (.reg Unary__r2) .ret) .skip)) (.seq (.seq (.reg Unary__r3) (.seq (.reg Unary__r4) (.cond (.t 16) (.seq (.reg Unary__r5) .ret) .skip))) (.seq (.seq (.reg Unary__r6) (.block 0 (.seq (.reg Unary__r7) (.cond (.t 19) (.seq (.reg Unary__r8) .ret) (.seq (.reg Unary__r9) (.cond (.t 23) (.seq (.reg Unary__r10) .ret) (.seq (.reg Unary__r11) (.cond (.t 30) (.seq (.reg Unary__r12) .ret) (.seq (.reg Unary__r13) (.cond (.t 34) (.seq (.reg Unary__r14) .ret) (.seq (.reg Unary__r15) (.cond (.t 38) (.seq (.reg Unary__r16) .ret) .skip)))))))))))) (.seq (.seq (.reg Unary__r17) (.cond (.t 44) (.seq (.reg Unary__r18) .ret) .skip)) (.seq (.reg Unary__r19) .ret))))))
theorem Unary__tab : tb 175 = some (.code 2 54 Unary__c [.tmp 4, .tmp 5]) := by kernel_rfl
set_option maxHeartbeats 1000000 in
theorem Unary_ok {t : TB} {nx : Nat} {op : Int} {a : List Nat} (ha : isV a) (h1 : 7 ≤ op) (h2 : op ≤ 12) : WF tb 175 [(.int .i64 op), (.str a)] t nx (fun v t' nx' => v = .tup [.str (unL op a), .int .i64 0] ∧ nx ≤ nx' ∧ Keep t t' nx (fun _ => False)) := by
 have h3 := ha.2.1
 refine k_fun Unary__tab rfl ?_
 unfold Unary__c
 change WC _ _ (Bt.put (some _) (Bt.put (some _) Bt.e 0) 1) _ _ _
 refine k_seq (k_reg (rO (o_mov ev_c) (rO (o_mov ev_c) (r_nil (k_seq (k_seq (k_reg (m1 (z2 (get_other rfl get_same)) ?_))))))))
 by_cases hs1 : (op < 7)
 · refine rO (dec_t (o_lss eZ ev_c) hs1) (m1 ds (r_off (wN ds) (r_off (wN (z1 ds)) (rO (o_pick_t (eV (z2 ds)) ev_c) (r_nil (k_cond_t eZ (k_seq (k_reg (rO (o_mov ev_c) (rO (o_mov ev_c) (r_nil (k_ret ?_))))))))))))
   exfalso; omega
 refine rO (dec_f (o_lss eZ ev_c) hs1) (m1 ds (r_op (o_mov (eV (z1 (z4 (get_other rfl get_same))))) (want_on ds) (r_op (o_gtr eZ ev_c) (want_on (z1 ds)) (rO (o_pick_f (eV (z2 ds)) eZ) (r_nil ?_)))))
 refine k_if eZ (fun hc2 => ?_) (fun hc2 => ?_)
 · refine k_seq (k_reg (rO (o_mov ev_c) (rO (o_mov ev_c) (r_nil (k_ret ?_)))))
   exfalso; omega
 refine k_skip (k_seq (k_seq (k_reg (m1 (z8 get_same) (r_call (w_callF (evs_cons eZ evs_nil)) rfl (WF.mono (lchk_ok ha) ?_))))))
 rintro _ t4 n5 ⟨rfl, hnc3, hkc3⟩
 refine m1 ds (r_nil (k_seq (k_reg (m1 ds (rO (ndec_f (o_neq eZ ev_c) (by simp)) (r_nil (k_cond_f eZ (k_skip (k_seq (k_seq (k_reg (m1 (z1 (z4 (z8 (get_other rfl get_same)))) (r_nil (k_block (k_seq (k_reg (rO (o_eql eZ ev_c) (m1 ds (r_nil ?_)))))))))))))))))))
 refine k_if eZ (fun hc6 => ?_) (fun hc6 => ?_)
 · refine k_seq (k_reg (m1 (z16 get_same) (r_call (w_callF (evs_cons eZ evs_nil)) rfl (WF.mono (turned_ok ha.b h3) ?_))))
   rintro _ t8 n9 ⟨rfl, hnt7, hkt7⟩
   refine m1 ds (rO (o_mov ev_c) (r_nil (k_ret ?_)))
   have h_ : unL op a = (turnL a) := by unfold unL; (repeat first | rw [if_pos (by first | assumption | omega)] | rw [if_neg (by first | assumption | omega)])
   exact ⟨_, ans_two (res_tmp (z1 ds) (res_tmp ds res_nil)), by rw [h_], by omega, Keep.trans (Keep.trans kR hkc3 (by omega) (fun d _ h => h)) hkt7 (by omega) (fun d _ h => h)⟩
 refine k_seq (k_reg (rO (o_eql (eV (z2 ds)) ev_c) (m1 ds (r_nil ?_))))
 refine k_if eZ (fun hc10 => ?_) (fun hc10 => ?_)
 · refine k_seq ?_
   have hnb := bitC_iff.1 (notB_bit (truthL a))
   refine k_reg (m1 (z2 (z16 get_same)) (r_call (w_callF (evs_cons eZ evs_nil)) rfl (WF.mono (truth_ok ha.b h3) ?_)))
   rintro _ t12 n13 ⟨rfl, hnu11, hku11⟩
   refine r_call (w_callF (evs_cons eZ evs_nil)) rfl (WF.mono (notB_ok) ?_)
   rintro _ t15 n16 ⟨rfl, hna14, hka14⟩
   refine r_heap (o_bslice (fill_cons eZ rfl rfl fill_nil)) rfl (fun t17 (hh18 : hv t17 = upd (hv t15) n16 (some (.row [(.int .u8 (((notB (truthL a)) : Nat) : Int))] true))) => ?_)
   refine rO (o_b2s (s := [((notB (truthL a)))]) eZ (by exact (lS hh18)) rfl (by intro c_ hc_; rw [List.mem_singleton] at hc_; omega)) ?_
   refine m1 ds (rO (o_mov ev_c) (r_nil (k_ret ?_)))
   have h_ : unL op a = [((notB (truthL a)))] := by unfold unL; (repeat first | rw [if_pos (by first | assumption | omega)] | rw [if_neg (by first | assumption | omega)])
   exact ⟨_, ans_two (res_tmp (z1 ds) (res_tmp ds res_nil)), by rw [h_], by omega, kU (Keep.trans (Keep.trans (Keep.trans kR hkc3 (by omega) (fun d _ h => h)) hku11 (by omega) (fun d _ h => h)) hka14 (by omega) (fun d _ h => h)) hh18⟩
 refine k_seq (k_reg (rO (o_eql (eV (z4 ds)) ev_c) (m1 ds (r_nil ?_))))
 refine k_if eZ (fun hc19 => ?_) (fun hc19 => ?_)
 · refine k_seq (k_reg (m1 (z4 (z16 get_same)) ?_))
   refine r_call (w_callF (evs_cons ev_c (evs_cons eZ (evs_cons ev_c evs_nil)))) rfl (WF.mono (folded_ok (c := 49) (by unfold bitC; decide) ha.b do_and h3 andB_bit) ?_)
   rintro _ t21 n22 ⟨rfl, hnf20, hkf20⟩
   refine m1 ds (rO (o_mov ev_c) (r_nil (k_ret ?_)))
   have h_ : unL op a = [a.foldl andB 49] := by unfold unL; (repeat first | rw [if_pos (by first | assumption | omega)] | rw [if_neg (by first | assumption | omega)])
   exact ⟨_, ans_two (res_tmp (z1 ds) (res_tmp ds res_nil)), by rw [h_], by omega, Keep.trans (Keep.trans kR hkc3 (by omega) (fun d _ h => h)) hkf20 (by omega) (fun d _ h => h)⟩
 refine k_seq (k_reg (rO (o_eql (eV (z2 (z4 ds))) ev_c) (m1 ds (r_nil ?_))))
 refine k_if eZ (fun hc23 => ?_) (fun hc23 => ?_)
 · refine k_seq (k_reg (m1 (z2 (z4 (z16 get_same))) ?_))
   refine r_call (w_callF (evs_cons ev_c (evs_cons eZ (evs_cons ev_c evs_nil)))) rfl (WF.mono (folded_ok (c := 48) (by unfold bitC; decide) ha.b do_or h3 orB_bit) ?_)
   rintro _ t25 n26 ⟨rfl, hnf24, hkf24⟩
   refine m1 ds (rO (o_mov ev_c) (r_nil (k_ret ?_)))
   have h_ : unL op a = [a.foldl orB 48] := by unfold unL; (repeat first | rw [if_pos (by first | assumption | omega)] | rw [if_neg (by first | assumption | omega)])
   exact ⟨_, ans_two (res_tmp (z1 ds) (res_tmp ds res_nil)), by rw [h_], by omega, Keep.trans (Keep.trans kR hkc3 (by omega) (fun d _ h => h)) hkf24 (by omega) (fun d _ h => h)⟩
 refine k_seq (k_reg (rO (o_eql (eV (z8 ds)) ev_c) (m1 ds (r_nil ?_))))
 refine k_if eZ (fun hc27 => ?_) (fun hc27 => ?_)
 · refine k_seq (k_reg (m1 (z8 (z16 get_same)) ?_))
   refine r_call (w_callF (evs_cons ev_c (evs_cons eZ (evs_cons ev_c evs_nil)))) rfl (WF.mono (folded_ok (c := 48) (by unfold bitC; decide) ha.b do_xor h3 xorB_bit) ?_)
   rintro _ t29 n30 ⟨rfl, hnf28, hkf28⟩
   refine m1 ds (rO (o_mov ev_c) (r_nil (k_ret ?_)))
   have h_ : unL op a = [a.foldl xorB 48] := by unfold unL; (repeat first | rw [if_pos (by first | assumption | omega)] | rw [if_neg (by first | assumption | omega)])
   exact ⟨_, ans_two (res_tmp (z1 ds) (res_tmp ds res_nil)), by rw [h_], by omega, Keep.trans (Keep.trans kR hkc3 (by omega) (fun d _ h => h)) hkf28 (by omega) (fun d _ h => h)⟩
 refine k_skip (k_seq (k_seq (k_reg (m1 (z8 (z16 get_same)) (r_call (w_callF (evs_cons eZ evs_nil)) rfl (WF.mono (kn_ok ha.b h3) ?_))))))
 rintro _ t32 n33 ⟨rfl, hnk31, hkk31⟩
 refine rO (o_notn eZ) (r_nil ?_)
 refine k_if eZ (fun hc34 => ?_) (fun hc34 => ?_)
 · refine k_seq (k_reg (m1 (z1 (z2 (z8 (z16 get_same)))) (rO (o_len_str eZ) (r_call (w_callF (evs_cons ev_c (evs_cons eZ evs_nil))) rfl (WF.mono (all_ok (c := 120) (by decide) (by omega)) ?_)))))
   rintro _ t36 n37 ⟨rfl, hnl35, hkl35⟩
   refine m1 ds (rO (o_mov ev_c) (r_nil (k_ret ?_)))
   have h_ : unL op a = (List.replicate a.length 120) := by unfold unL; (repeat first | rw [if_pos (by first | assumption | omega)] | rw [if_neg (by first | assumption | omega)])
   exact ⟨_, ans_two (res_tmp (z1 ds) (res_tmp ds res_nil)), by rw [h_], by omega, Keep.trans (Keep.trans (Keep.trans kR hkc3 (by omega) (fun d _ h => h)) hkk31 (by omega) (fun d _ h => h)) hkl35 (by omega) (fun d _ h => h)⟩
 refine k_skip (k_seq (k_reg (m1 (z1 (z2 (z8 (z16 get_same)))) (r_call (w_callF (evs_cons eZ evs_nil)) rfl (WF.mono (turned_ok ha.b h3) ?_)))))
 rintro _ t39 n40 ⟨rfl, hnt38, hkt38⟩
 refine m1 (z1 (z4 (z8 (z16 get_same)))) (rO (o_len_str eZ) (r_call (w_callF (evs_cons ev_c (evs_cons eZ evs_nil))) rfl (WF.mono (all_ok (c := 48) (by decide) (by omega)) ?_)))
 rintro _ t42 n43 ⟨rfl, hnl41, hkl41⟩
 refine r_call (w_callF (evs_cons (eV (z1 (z2 ds))) (evs_cons eZ (evs_cons ev_c evs_nil)))) rfl (WF.mono (lsum_ok (turn_kn (fun c hc => kn_bit ha.b (by assumption) hc)) rep_kn (by simp [turnL_len]) (by rw [turnL_len]; exact h3) (by decide)) ?_)
 rintro _ t45 n46 ⟨rfl, hns44, hks44⟩
 refine m1 ds (rO (o_mov ev_c) (r_nil (k_ret ?_)))
 have h_ : unL op a = (sumL (turnL a) (List.replicate a.length 48) 1) := by unfold unL; (repeat first | rw [if_pos (by first | assumption | omega)] | rw [if_neg (by first | assumption | omega)])
 exact ⟨_, ans_two (res_tmp (z1 ds) (res_tmp ds res_nil)), by rw [h_], by omega, Keep.trans (Keep.trans (Keep.trans (Keep.trans (Keep.trans kR hkc3 (by omega) (fun d _ h => h)) hkk31 (by omega) (fun d _ h => h)) hkt38 (by omega) (fun d _ h => h)) hkl41 (by omega) (fun d _ h => h)) hks44 (by omega) (fun d _ h => h)⟩
def Binary__r0 : LI := [.o 6 (.mov (.c (.str []))),
 .o 7 (.mov (kI 0))]
def Binary__r1 : LI := [.mv 10 0,
 .o 11 (.bin .lss (.t 10) (kI 13)),
 .mv 12 11,
 .g 13 12 false (.mov (.t 0)),
 .g 14 12 false (.bin .gtr (.t 13) (kI 27)),
 .o 15 (.pick (.t 12) (.c (.bool true)) (.t 14))]
def Binary__r2 : LI := [.o 6 (.mov (.c (.str []))),
 .o 7 (.mov (kI 1))]
def Binary__r3 : LI := [.mv 16 1,
 .mv 17 2,
 .o 18 (.bslice 1 2 [(.str [])] [(0, 1, (.t 16)), (1, 1, (.t 17))]),
 .f 19 160 [(.t 18)],
 .mv 8 19]
def Binary__r4 : LI := [.mv 20 8,
 .o 21 (.bin .neq (.t 20) (kI 0))]
def Binary__r5 : LI := [.mv 22 8,
 .o 6 (.mov (.c (.str []))),
 .mv 7 22]
def Binary__r6 : LI := [.mv 23 0]
def Binary__r7 : LI := [.o 25 (.bin .eql (.t 23) (kI 15)),
 .mv 24 25]
def Binary__r8 : LI := [.o 26 (.bin .eql (.t 23) (kI 16)),
 .mv 24 26]
def Binary__r9 : LI := [.mv 27 0,
 .mv 28 1,
 .mv 29 2,
 .f 30 219 [(.t 27), (.t 28), (.t 29)],
 .mv 6 30,
 .o 7 (.mov (kI 0))]
def Binary__r10 : LI := [.o 32 (.bin .eql (.t 23) (kI 26)),
 .mv 31 32]
def Binary__r11 : LI := [.mv 33 1,
 .f 34 205 [(.t 33)],
 .mv 35 2,
 .f 36 205 [(.t 35)],
 .f 37 214 [(.t 34), (.t 36)],
 .o 38 (.bslice 1 1 [(.int .u8 0)] [(0, 1, (.t 37))]),
 .o 39 (.b2s (.t 38)),
 .mv 6 39,
 .o 7 (.mov (kI 0))]
def Binary__r12 : LI := [.o 41 (.bin .eql (.t 23) (kI 27)),
 .mv 40 41]
def Binary__r13 : LI := [.mv 42 1,
 .f 43 205 [(.t 42)],
 .mv 44 2,
 .f 45 205 [(.t 44)],
 .f 46 215 [(.t 43), (.t 45)],
 .o 47 (.bslice 1 1 [(.int .u8 0)] [(0, 1, (.t 46))]),
 .o 48 (.b2s (.t 47)),
 .mv 6 48,
 .o 7 (.mov (kI 0))]
def Binary__r14 : LI := [.mv 49 1,
 .o 50 (.len .str (.t 49)),
 .mv 51 2,
 .o 52 (.len .str (.t 51)),
 .o 53 (.mm true (.t 50) (.t 52)),
 .mv 9 53]
def Binary__r15 : LI := [.mv 54 1,
 .mv 55 9,
 .f 56 206 [(.t 54), (.t 55)],
 .mv 57 2,
 .mv 58 9,
 .f 59 206 [(.t 57), (.t 58)],
 .mv 1 56,
 .mv 2 59]
def Binary__r16 : LI := [.mv 60 0]
def Binary__r17 : LI := [.o 62 (.bin .eql (.t 60) (kI 23)),
 .mv 61 62]
def Binary__r18 : LI := [.mv 63 1,
 .mv 64 2,
 .f 65 207 [(.t 63), (.t 64), (.c (.func 214 [] []))],
 .mv 6 65,
 .o 7 (.mov (kI 0))]
def Binary__r19 : LI := [.o 67 (.bin .eql (.t 60) (kI 25)),
 .mv 66 67]
def Binary__r20 : LI := [.mv 68 1,
 .mv 69 2,
 .f 70 207 [(.t 68), (.t 69), (.c (.func 215 [] []))],
 .mv 6 70,
 .o 7 (.mov (kI 0))]
def Binary__r21 : LI := [.o 72 (.bin .eql (.t 60) (kI 24)),
 .mv 71 72]
def Binary__r22 : LI := [.mv 73 1,
 .mv 74 2,
 .f 75 207 [(.t 73), (.t 74), (.c (.func 216 [] []))],
 .mv 6 75,
 .o 7 (.mov (kI 0))]
def Binary__r23 : LI := [.o 77 (.bin .eql (.t 60) (kI 13)),
 .mv 76 77]
def Binary__r24 : LI := [.o 78 (.bin .eql (.t 60) (kI 14)),
 .mv 76 78]
def Binary__r25 : LI := [.mv 80 1,
 .f 81 210 [(.t 80)],
 .o 82 (.not (.t 81)),
 .mv 83 82,
 .g 84 83 false (.mov (.t 2)),
 ⟨(some 85), (some (83, false)), (.callF 210 [(.t 84)])⟩,
 .g 86 83 false (.not (.t 85)),
 .o 87 (.pick (.t 83) (.c (.bool true)) (.t 86)),
 .mv 79 87]
def Binary__r26 : LI := [.mv 88 9,
 .f 89 217 [(.c (.str [120])), (.t 88)],
 .mv 6 89,
 .o 7 (.mov (kI 0))]
def Binary__r27 : LI := [.mv 91 0,
 .o 92 (.bin .eql (.t 91) (kI 13)),
 .mv 90 92]
def Binary__r28 : LI := [.mv 93 1,
 .mv 94 2,
 .f 95 218 [(.t 93), (.t 94), (.c (.int .u8 0))],
 .mv 6 95,
 .o 7 (.mov (kI 0))]
def Binary__r29 : LI := [.mv 96 1,
 .mv 97 2,
 .f 98 212 [(.t 97)],
 .f 99 218 [(.t 96), (.t 98), (.c (.int .u8 1))],
 .mv 6 99,
 .o 7 (.mov (kI 0))]
def Binary__r30 : LI := [.mv 100 0,
 .mv 101 1,
 .mv 102 2,
 .f 103 220 [(.t 100), (.t 101), (.t 102)],
 .mv 6 103,
 .o 7 (.mov (kI 0))]
def Binary__c : IC := (.seq (.reg Binary__r0) (.seq (.seq (.reg Binary__r1) (.cond (.t 15) (.seq (.reg Binary__r2) .ret) .skip)) (.seq (.seq (.reg Binary__r3) (.seq (.reg Binary__r4) (.cond (.t 21) (.seq (.reg Binary__r5) .ret) .skip))) (.seq (.seq (.reg Binary__r6) (.block 0 (.seq (.seq (.reg Binary__r7) (.cond (.t 24) .skip (.reg Binary__r8))) (.cond (.t 24) (.seq (.reg Binary__r9) .ret) (.seq (.reg Binary__r10) (.cond (.t 31) (.seq (.reg Binary__r11) .ret) (.seq (.reg Binary__r12) (.cond (.t 40) (.seq (.reg Binary__r13) .ret) .skip)))))))) (.seq (.reg Binary__r14) (.seq (.reg Binary__r15) (.seq (.seq (.reg Binary__r16) (.block 1 (.seq (.reg Binary__r17) (.cond (.t 61) (.seq (.reg Binary__r18) .ret) (.seq (.reg Binary__r19) (.cond (.t 66) (.seq (.reg Binary__r20) .ret) (.seq (.reg Binary__r21) (.cond (.t 71) (.seq (.reg Binary__r22) .ret) (.seq (.seq (.reg Binary__r23) (.cond (.t 76) .skip (.reg Binary__r24))) (.cond (.t 76) (.seq (.block 2 (.seq (.reg Binary__r25) (.cond (.t 79) (.seq (.reg Binary__r26) .ret) (.seq (.reg Binary__r27) (.cond (.t 90) (.seq (.reg Binary__r28) .ret) .skip))))) (.seq (.reg Binary__r29) .ret)) .skip)))))))))) (.seq (.reg Binary__r30) .ret))))))))
theorem Binary__tab : tb 176 = some (.code 3 104 Binary__c [.tmp 6, .tmp 7]) := by kernel_rfl
set_option maxHeartbeats 2000000 in
theorem Binary_ok {t : TB} {nx : Nat} {op : Int} {a b : List Nat} (ha : isV a) (hb : isV b) (h1 : 13 ≤ op) (h2 : op ≤ 27) : WF tb 176 [(.int .i64 op), (.str a), (.str b)] t nx (fun v t' nx' => v = .tup [.str (binL op a b), .int .i64 0] ∧ nx ≤ nx' ∧ Keep t t' nx (fun _ => False)) := by
 have h3 := ha.2.1
 have h4 := hb.2.1
 refine k_fun Binary__tab rfl ?_
 unfold Binary__c
 change WC _ _ (Bt.put (some _) (Bt.put (some _) (Bt.put (some _) Bt.e 0) 1) 2) _ _ _
 refine k_seq (k_reg (rO (o_mov ev_c) (rO (o_mov ev_c) (r_nil (k_seq (k_seq (k_reg (m1 (z2 (get_other rfl (get_other rfl get_same))) ?_))))))))
 by_cases hs1 : (op < 13)
 · refine rO (dec_t (o_lss eZ ev_c) hs1) (m1 ds (r_off (wN ds) (r_off (wN (z1 ds)) (rO (o_pick_t (eV (z2 ds)) ev_c) (r_nil (k_cond_t eZ (k_seq (k_reg (rO (o_mov ev_c) (rO (o_mov ev_c) (r_nil (k_ret ?_))))))))))))
   exfalso; omega
 refine rO (dec_f (o_lss eZ ev_c) hs1) (m1 ds (r_op (o_mov (eV (z1 (z4 (get_other rfl (get_other rfl get_same)))))) (want_on ds) (r_op (o_gtr eZ ev_c) (want_on (z1 ds)) (rO (o_pick_f (eV (z2 ds)) eZ) (r_nil ?_)))))
 refine k_if eZ (fun hc2 => ?_) (fun hc2 => ?_)
 · refine k_seq (k_reg (rO (o_mov ev_c) (rO (o_mov ev_c) (r_nil (k_ret ?_)))))
   exfalso; omega
 refine k_skip (k_seq (k_seq (k_reg (m1 (z8 (get_other rfl get_same)) (m1 (z1 (z8 get_same)) (r_heap (o_bslice (fill_cons (eV (z1 ds)) rfl rfl (fill_cons eZ rfl rfl fill_nil))) rfl (fun t3 (hh4 : hv t3 = upd (hv t) nx (some (.row [(.str a), (.str b)] true))) => ?_)))))))
 refine r_call (w_callF (evs_cons eZ evs_nil)) rfl (WF.mono (chks_ok (d := nx) (l := [a, b]) (by omega) (lS hh4) (by simp) (by intro s_ hs_; simp only [List.mem_cons, List.not_mem_nil, or_false] at hs_; rcases hs_ with rfl | rfl; exact ha; exact hb)) ?_)
 rintro _ t6 n7 ⟨rfl, hnc5, hkc5⟩
 refine m1 ds (r_nil (k_seq (k_reg (m1 ds (rO (ndec_f (o_neq eZ ev_c) (by simp)) (r_nil (k_cond_f eZ (k_skip (k_seq (k_seq (k_reg (rO (o_mov (eV (z1 (z2 (z4 (z8 (get_other rfl (get_other rfl get_same)))))))) (r_nil (k_block (k_seq (k_seq (k_reg (rO (o_eql eZ ev_c) (m1 ds (r_nil ?_))))))))))))))))))))
 refine k_if eZ (fun hc8 => ?_) (fun hc8 => ?_)
 · refine k_skip (k_cond eZ (fun _ => k_seq (k_reg (m1 (z2 (z16 (get_other rfl (get_other rfl get_same)))) (m1 (z1 (z2 (z16 (get_other rfl get_same)))) (m1 (z4 (z16 get_same)) (r_call (w_callF (evs_cons (eV (z2 ds)) (evs_cons (eV (z1 ds)) (evs_cons eZ evs_nil)))) rfl (WF.mono (lshift_ok hb.b h3 h4) ?_))))))) (fun hz => absurd hc8 (of_decide_eq_false hz)))
   rintro _ t10 n11 ⟨rfl, hns9, hks9⟩
   refine m1 ds (rO (o_mov ev_c) (r_nil (k_ret ?_)))
   have h_ : binL op a b = (shiftL op a b) := by unfold binL; first | ((repeat first | rw [if_pos (by first | assumption | omega)] | rw [if_neg (by first | assumption | omega)]); done) | (rw [if_neg (by omega), if_neg (by omega), if_neg (by omega), ← hW]; unfold binL2; first | ((repeat first | rw [if_pos (by first | assumption | omega)] | rw [if_neg (by first | assumption | omega)]); done) | (rw [if_neg (by omega), if_neg (by omega), if_neg (by omega), if_pos (by omega)]; first | exact if_pos (by first | exact .inl (by assumption) | exact .inr (by assumption)) | (rw [if_neg (show ¬ (hasXZ (fitL a W) = true ∨ hasXZ (fitL b W) = true) from fun h_ => h_.elim (by assumption) (by assumption))]; (repeat first | rw [if_pos (by first | assumption | omega)] | rw [if_neg (by first | assumption | omega)]))))
   exact ⟨_, ans_two (res_tmp (z1 ds) (res_tmp ds res_nil)), by rw [h_], by omega, Keep.trans (Keep.trans (kU kR hh4) hkc5 (by omega) (fun d _ h => h)) hks9 (by omega) (fun d _ h => h)⟩
 refine k_reg (rO (o_eql (eV (z2 ds)) ev_c) (m1 ds (r_nil ?_)))
 refine k_if eZ (fun hc12 => ?_) (fun hc12 => ?_)
 · refine k_seq (k_reg (m1 (z4 (z16 (get_other rfl (get_other rfl get_same)))) (m1 (z1 (z4 (z16 (get_other rfl get_same)))) (m1 (z2 (z4 (z16 get_same))) (r_call (w_callF (evs_cons (eV (z2 ds)) (evs_cons (eV (z1 ds)) (evs_cons eZ evs_nil)))) rfl (WF.mono (lshift_ok hb.b h3 h4) ?_))))))
   rintro _ t14 n15 ⟨rfl, hns13, hks13⟩
   refine m1 ds (rO (o_mov ev_c) (r_nil (k_ret ?_)))
   have h_ : binL op a b = (shiftL op a b) := by unfold binL; first | ((repeat first | rw [if_pos (by first | assumption | omega)] | rw [if_neg (by first | assumption | omega)]); done) | (rw [if_neg (by omega), if_neg (by omega), if_neg (by omega), ← hW]; unfold binL2; first | ((repeat first | rw [if_pos (by first | assumption | omega)] | rw [if_neg (by first | assumption | omega)]); done) | (rw [if_neg (by omega), if_neg (by omega), if_neg (by omega), if_pos (by omega)]; first | exact if_pos (by first | exact .inl (by assumption) | exact .inr (by assumption)) | (rw [if_neg (show ¬ (hasXZ (fitL a W) = true ∨ hasXZ (fitL b W) = true) from fun h_ => h_.elim (by assumption) (by assumption))]; (repeat first | rw [if_pos (by first | assumption | omega)] | rw [if_neg (by first | assumption | omega)]))))
   exact ⟨_, ans_two (res_tmp (z1 ds) (res_tmp ds res_nil)), by rw [h_], by omega, Keep.trans (Keep.trans (kU kR hh4) hkc5 (by omega) (fun d _ h => h)) hks13 (by omega) (fun d _ h => h)⟩
 refine k_seq (k_reg (rO (o_eql (eV (z4 ds)) ev_c) (m1 ds (r_nil ?_))))
 refine k_if eZ (fun hc16 => ?_) (fun hc16 => ?_)
 · refine k_seq ?_
   have hnb := bitC_iff.1 (andB_bit (truthL a) (truthL b))
   refine k_reg (m1 (z2 (z4 (z16 (get_other rfl get_same)))) (r_call (w_callF (evs_cons eZ evs_nil)) rfl (WF.mono (truth_ok ha.b ha.2.1) ?_)))
   rintro _ t18 n19 ⟨rfl, hnu17, hku17⟩
   refine m1 (z8 (z16 get_same)) (r_call (w_callF (evs_cons eZ evs_nil)) rfl (WF.mono (truth_ok hb.b hb.2.1) ?_))
   rintro _ t21 n22 ⟨rfl, hnu20, hku20⟩
   refine r_call (w_callF (evs_cons (eV (z2 ds)) (evs_cons eZ evs_nil))) rfl (WF.mono (andB_ok) ?_)
   rintro _ t24 n25 ⟨rfl, hna23, hka23⟩
   refine r_heap (o_bslice (fill_cons eZ rfl rfl fill_nil)) rfl (fun t26 (hh27 : hv t26 = upd (hv t24) n25 (some (.row [(.int .u8 (((andB (truthL a) (truthL b)) : Nat) : Int))] true))) => ?_)
   refine rO (o_b2s (s := [((andB (truthL a) (truthL b)))]) eZ (by exact (lS hh27)) rfl (by intro c_ hc_; rw [List.mem_singleton] at hc_; omega)) ?_
   refine m1 ds (rO (o_mov ev_c) (r_nil (k_ret ?_)))
   have h_ : binL op a b = [((andB (truthL a) (truthL b)))] := by unfold binL; first | ((repeat first | rw [if_pos (by first | assumption | omega)] | rw [if_neg (by first | assumption | omega)]); done) | (rw [if_neg (by omega), if_neg (by omega), if_neg (by omega), ← hW]; unfold binL2; first | ((repeat first | rw [if_pos (by first | assumption | omega)] | rw [if_neg (by first | assumption | omega)]); done) | (rw [if_neg (by omega), if_neg (by omega), if_neg (by omega), if_pos (by omega)]; first | exact if_pos (by first | exact .inl (by assumption) | exact .inr (by assumption)) | (rw [if_neg (show ¬ (hasXZ (fitL a W) = true ∨ hasXZ (fitL b W) = true) from fun h_ => h_.elim (by assumption) (by assumption))]; (repeat first | rw [if_pos (by first | assumption | omega)] | rw [if_neg (by first | assumption | omega)]))))
   exact ⟨_, ans_two (res_tmp (z1 ds) (res_tmp ds res_nil)), by rw [h_], by omega, kU (Keep.trans (Keep.trans (Keep.trans (Keep.trans (kU kR hh4) hkc5 (by omega) (fun d _ h => h)) hku17 (by omega) (fun d _ h => h)) hku20 (by omega) (fun d _ h => h)) hka23 (by omega) (fun d _ h => h)) hh27⟩
 refine k_seq (k_reg (rO (o_eql (eV (z2 (z4 ds))) ev_c) (m1 ds (r_nil ?_))))
 refine k_if eZ (fun hc28 => ?_) (fun hc28 => ?_)
 · refine k_seq ?_
   have hnb := bitC_iff.1 (orB_bit (truthL a) (truthL b))
   refine k_reg (m1 (z8 (z16 (get_other rfl get_same))) (r_call (w_callF (evs_cons eZ evs_nil)) rfl (WF.mono (truth_ok ha.b ha.2.1) ?_)))
   rintro _ t30 n31 ⟨rfl, hnu29, hku29⟩
   refine m1 (z2 (z8 (z16 get_same))) (r_call (w_callF (evs_cons eZ evs_nil)) rfl (WF.mono (truth_ok hb.b hb.2.1) ?_))
   rintro _ t33 n34 ⟨rfl, hnu32, hku32⟩
   refine r_call (w_callF (evs_cons (eV (z2 ds)) (evs_cons eZ evs_nil))) rfl (WF.mono (orB_ok) ?_)
   rintro _ t36 n37 ⟨rfl, hna35, hka35⟩
   refine r_heap (o_bslice (fill_cons eZ rfl rfl fill_nil)) rfl (fun t38 (hh39 : hv t38 = upd (hv t36) n37 (some (.row [(.int .u8 (((orB (truthL a) (truthL b)) : Nat) : Int))] true))) => ?_)
   refine rO (o_b2s (s := [((orB (truthL a) (truthL b)))]) eZ (by exact (lS hh39)) rfl (by intro c_ hc_; rw [List.mem_singleton] at hc_; omega)) ?_
   refine m1 ds (rO (o_mov ev_c) (r_nil (k_ret ?_)))
   have h_ : binL op a b = [((orB (truthL a) (truthL b)))] := by unfold binL; first | ((repeat first | rw [if_pos (by first | assumption | omega)] | rw [if_neg (by first | assumption | omega)]); done) | (rw [if_neg (by omega), if_neg (by omega), if_neg (by omega), ← hW]; unfold binL2; first | ((repeat first | rw [if_pos (by first | assumption | omega)] | rw [if_neg (by first | assumption | omega)]); done) | (rw [if_neg (by omega), if_neg (by omega), if_neg (by omega), if_pos (by omega)]; first | exact if_pos (by first | exact .inl (by assumption) | exact .inr (by assumption)) | (rw [if_neg (show ¬ (hasXZ (fitL a W) = true ∨ hasXZ (fitL b W) = true) from fun h_ => h_.elim (by assumption) (by assumption))]; (repeat first | rw [if_pos (by first | assumption | omega)] | rw [if_neg (by first | assumption | omega)]))))
   exact ⟨_, ans_two (res_tmp (z1 ds) (res_tmp ds res_nil)), by rw [h_], by omega, kU (Keep.trans (Keep.trans (Keep.trans (Keep.trans (kU kR hh4) hkc5 (by omega) (fun d _ h => h)) hku29 (by omega) (fun d _ h => h)) hku32 (by omega) (fun d _ h => h)) hka35 (by omega) (fun d _ h => h)) hh39⟩
 refine k_skip (k_seq (k_reg (m1 (z8 (z16 (get_other rfl get_same))) (rO (o_len_str eZ) (m1 (z2 (z8 (z16 get_same))) (rO (o_len_str eZ) (rO (o_maxN2 (a := a.length) (b := b.length) (eV (z2 ds)) eZ) (m1 ds (r_nil (k_seq ?_))))))))))
 obtain ⟨W, hW⟩ : ∃ W, W = (max a.length b.length) := ⟨_, rfl⟩
 have hWl : W ≤ 256 := by omega
 have hA := fitL_bit ha.b W
 have hB := fitL_bit hb.b W
 have hAl : (fitL a W).length = W := fitL_len _
 have hBl : (fitL b W).length = W := fitL_len _
 rw [← hW]
 refine k_reg (m1 (z2 (z4 (z8 (z16 (get_other rfl get_same))))) (m1 (z1 ds) (r_call (w_callF (evs_cons (eV (z1 ds)) (evs_cons eZ evs_nil))) rfl (WF.mono (lfit_ok h3 hWl) ?_))))
 rintro _ t41 n42 ⟨rfl, hnf40, hkf40⟩
 refine m1 (z1 (z16 (z16 get_same))) (m1 (z4 ds) (r_call (w_callF (evs_cons (eV (z1 ds)) (evs_cons eZ evs_nil))) rfl (WF.mono (lfit_ok h4 hWl) ?_)))
 rintro _ t44 n45 ⟨rfl, hnf43, hkf43⟩
 refine m1 (z1 (z2 ds)) (m1 (z1 ds) (r_nil (k_seq (k_seq (k_reg (rO (o_mov (eV (z2 (z4 (z16 (z16 (get_other rfl (get_other rfl get_same)))))))) (r_nil (k_block (k_seq (k_reg (rO (o_eql eZ ev_c) (m1 ds (r_nil ?_)))))))))))))
 refine k_if eZ (fun hc46 => ?_) (fun hc46 => ?_)
 · refine k_seq (k_reg (m1 (z4 ds) (m1 (z4 ds) (r_call (w_callF (evs_cons (eV (z1 ds)) (evs_cons eZ (evs_cons ev_c evs_nil)))) rfl (WF.mono (each_ok hA hB (by omega) (by omega) do_and (fun x y _ _ => andB_bit x y)) ?_)))))
   rintro _ t48 n49 ⟨rfl, hne47, hke47⟩
   refine m1 ds (rO (o_mov ev_c) (r_nil (k_ret ?_)))
   have h_ : binL op a b = (List.zipWith andB (fitL a W) (fitL b W)) := by unfold binL; first | ((repeat first | rw [if_pos (by first | assumption | omega)] | rw [if_neg (by first | assumption | omega)]); done) | (rw [if_neg (by omega), if_neg (by omega), if_neg (by omega), ← hW]; unfold binL2; first | ((repeat first | rw [if_pos (by first | assumption | omega)] | rw [if_neg (by first | assumption | omega)]); done) | (rw [if_neg (by omega), if_neg (by omega), if_neg (by omega), if_pos (by omega)]; first | exact if_pos (by first | exact .inl (by assumption) | exact .inr (by assumption)) | (rw [if_neg (show ¬ (hasXZ (fitL a W) = true ∨ hasXZ (fitL b W) = true) from fun h_ => h_.elim (by assumption) (by assumption))]; (repeat first | rw [if_pos (by first | assumption | omega)] | rw [if_neg (by first | assumption | omega)]))))
   exact ⟨_, ans_two (res_tmp (z1 ds) (res_tmp ds res_nil)), by rw [h_], by omega, Keep.trans (Keep.trans (Keep.trans (Keep.trans (kU kR hh4) hkc5 (by omega) (fun d _ h => h)) hkf40 (by omega) (fun d _ h => h)) hkf43 (by omega) (fun d _ h => h)) hke47 (by omega) (fun d _ h => h)⟩
 refine k_seq (k_reg (rO (o_eql (eV (z2 ds)) ev_c) (m1 ds (r_nil ?_))))
 refine k_if eZ (fun hc50 => ?_) (fun hc50 => ?_)
 · refine k_seq (k_reg (m1 (z2 (z4 ds)) (m1 (z2 (z4 ds)) (r_call (w_callF (evs_cons (eV (z1 ds)) (evs_cons eZ (evs_cons ev_c evs_nil)))) rfl (WF.mono (each_ok hA hB (by omega) (by omega) do_or (fun x y _ _ => orB_bit x y)) ?_)))))
   rintro _ t52 n53 ⟨rfl, hne51, hke51⟩
   refine m1 ds (rO (o_mov ev_c) (r_nil (k_ret ?_)))
   have h_ : binL op a b = (List.zipWith orB (fitL a W) (fitL b W)) := by unfold binL; first | ((repeat first | rw [if_pos (by first | assumption | omega)] | rw [if_neg (by first | assumption | omega)]); done) | (rw [if_neg (by omega), if_neg (by omega), if_neg (by omega), ← hW]; unfold binL2; first | ((repeat first | rw [if_pos (by first | assumption | omega)] | rw [if_neg (by first | assumption | omega)]); done) | (rw [if_neg (by omega), if_neg (by omega), if_neg (by omega), if_pos (by omega)]; first | exact if_pos (by first | exact .inl (by assumption) | exact .inr (by assumption)) | (rw [if_neg (show ¬ (hasXZ (fitL a W) = true ∨ hasXZ (fitL b W) = true) from fun h_ => h_.elim (by assumption) (by assumption))]; (repeat first | rw [if_pos (by first | assumption | omega)] | rw [if_neg (by first | assumption | omega)]))))
   exact ⟨_, ans_two (res_tmp (z1 ds) (res_tmp ds res_nil)), by rw [h_], by omega, Keep.trans (Keep.trans (Keep.trans (Keep.trans (kU kR hh4) hkc5 (by omega) (fun d _ h => h)) hkf40 (by omega) (fun d _ h => h)) hkf43 (by omega) (fun d _ h => h)) hke51 (by omega) (fun d _ h => h)⟩
 refine k_seq (k_reg (rO (o_eql (eV (z4 ds)) ev_c) (m1 ds (r_nil ?_))))
 refine k_if eZ (fun hc54 => ?_) (fun hc54 => ?_)
 · refine k_seq (k_reg (m1 (z8 ds) (m1 (z8 ds) (r_call (w_callF (evs_cons (eV (z1 ds)) (evs_cons eZ (evs_cons ev_c evs_nil)))) rfl (WF.mono (each_ok hA hB (by omega) (by omega) do_xor (fun x y _ _ => xorB_bit x y)) ?_)))))
   rintro _ t56 n57 ⟨rfl, hne55, hke55⟩
   refine m1 ds (rO (o_mov ev_c) (r_nil (k_ret ?_)))
   have h_ : binL op a b = (List.zipWith xorB (fitL a W) (fitL b W)) := by unfold binL; first | ((repeat first | rw [if_pos (by first | assumption | omega)] | rw [if_neg (by first | assumption | omega)]); done) | (rw [if_neg (by omega), if_neg (by omega), if_neg (by omega), ← hW]; unfold binL2; first | ((repeat first | rw [if_pos (by first | assumption | omega)] | rw [if_neg (by first | assumption | omega)]); done) | (rw [if_neg (by omega), if_neg (by omega), if_neg (by omega), if_pos (by omega)]; first | exact if_pos (by first | exact .inl (by assumption) | exact .inr (by assumption)) | (rw [if_neg (show ¬ (hasXZ (fitL a W) = true ∨ hasXZ (fitL b W) = true) from fun h_ => h_.elim (by assumption) (by assumption))]; (repeat first | rw [if_pos (by first | assumption | omega)] | rw [if_neg (by first | assumption | omega)]))))
   exact ⟨_, ans_two (res_tmp (z1 ds) (res_tmp ds res_nil)), by rw [h_], by omega, Keep.trans (Keep.trans (Keep.trans (Keep.trans (kU kR hh4) hkc5 (by omega) (fun d _ h => h)) hkf40 (by omega) (fun d _ h => h)) hkf43 (by omega) (fun d _ h => h)) hke55 (by omega) (fun d _ h => h)⟩
 refine k_seq (k_seq (k_reg (rO (o_eql (eV (z2 (z4 ds))) ev_c) (m1 ds (r_nil ?_)))))
 refine k_if eZ (fun hc58 => ?_) (fun hc58 => ?_)
 · refine k_skip (k_cond eZ (fun _ => k_seq (k_block (k_seq (k_reg (m1 (z2 (z8 ds)) (r_call (w_callF (evs_cons eZ evs_nil)) rfl (WF.mono (kn_ok hA (by omega)) ?_))))))) (fun hz => absurd hc58 (of_decide_eq_false hz)))
   rintro _ t60 n61 ⟨rfl, hnk59, hkk59⟩
   by_cases hs62 : (hasXZ (fitL a W) = true)
   · refine rO (dec_t (o_notn eZ) hs62) (m1 ds (r_off (wN ds) (r_off (wN (z1 ds)) (r_off (wN (z2 ds)) (rO (o_pick_t (eV (z1 (z2 ds))) ev_c) (m1 ds (r_nil (k_cond_t eZ (k_seq (k_reg (m1 (z2 (z8 (z16 ds))) (r_call (w_callF (evs_cons ev_c (evs_cons eZ evs_nil))) rfl (WF.mono (all_ok (c := 120) (by decide) (by omega)) ?_)))))))))))))
     rintro _ t64 n65 ⟨rfl, hnl63, hkl63⟩
     refine m1 ds (rO (o_mov ev_c) (r_nil (k_ret ?_)))
     have h_ : binL op a b = (List.replicate W 120) := by unfold binL; first | ((repeat first | rw [if_pos (by first | assumption | omega)] | rw [if_neg (by first | assumption | omega)]); done) | (rw [if_neg (by omega), if_neg (by omega), if_neg (by omega), ← hW]; unfold binL2; first | ((repeat first | rw [if_pos (by first | assumption | omega)] | rw [if_neg (by first | assumption | omega)]); done) | (rw [if_neg (by omega), if_neg (by omega), if_neg (by omega), if_pos (by omega)]; first | exact if_pos (by first | exact .inl (by assumption) | exact .inr (by assumption)) | (rw [if_neg (show ¬ (hasXZ (fitL a W) = true ∨ hasXZ (fitL b W) = true) from fun h_ => h_.elim (by assumption) (by assumption))]; (repeat first | rw [if_pos (by first | assumption | omega)] | rw [if_neg (by first | assumption | omega)]))))
     exact ⟨_, ans_two (res_tmp (z1 ds) (res_tmp ds res_nil)), by rw [h_], by omega, Keep.trans (Keep.trans (Keep.trans (Keep.trans (Keep.trans (kU kR hh4) hkc5 (by omega) (fun d _ h => h)) hkf40 (by omega) (fun d _ h => h)) hkf43 (by omega) (fun d _ h => h)) hkk59 (by omega) (fun d _ h => h)) hkl63 (by omega) (fun d _ h => h)⟩
   refine rO (dec_f (o_notn eZ) hs62) (m1 ds (r_op (o_mov (eV (z1 (z4 (z8 ds))))) (want_on ds) (r_call (w_callF (evs_cons eZ evs_nil)) (want_on (z1 ds)) (WF.mono (kn_ok hB (by omega)) ?_))))
   rintro _ t67 n68 ⟨rfl, hnk66, hkk66⟩
   refine r_op (o_notn eZ) (want_on (z2 ds)) (rO (o_pick_f (eV (z1 (z2 ds))) eZ) (m1 ds (r_nil ?_)))
   refine k_if eZ (fun hc69 => ?_) (fun hc69 => ?_)
   · refine k_seq (k_reg (m1 (z2 (z8 (z16 ds))) (r_call (w_callF (evs_cons ev_c (evs_cons eZ evs_nil))) rfl (WF.mono (all_ok (c := 120) (by decide) (by omega)) ?_))))
     rintro _ t71 n72 ⟨rfl, hnl70, hkl70⟩
     refine m1 ds (rO (o_mov ev_c) (r_nil (k_ret ?_)))
     have h_ : binL op a b = (List.replicate W 120) := by unfold binL; first | ((repeat first | rw [if_pos (by first | assumption | omega)] | rw [if_neg (by first | assumption | omega)]); done) | (rw [if_neg (by omega), if_neg (by omega), if_neg (by omega), ← hW]; unfold binL2; first | ((repeat first | rw [if_pos (by first | assumption | omega)] | rw [if_neg (by first | assumption | omega)]); done) | (rw [if_neg (by omega), if_neg (by omega), if_neg (by omega), if_pos (by omega)]; first | exact if_pos (by first | exact .inl (by assumption) | exact .inr (by assumption)) | (rw [if_neg (show ¬ (hasXZ (fitL a W) = true ∨ hasXZ (fitL b W) = true) from fun h_ => h_.elim (by assumption) (by assumption))]; (repeat first | rw [if_pos (by first | assumption | omega)] | rw [if_neg (by first | assumption | omega)]))))
     exact ⟨_, ans_two (res_tmp (z1 ds) (res_tmp ds res_nil)), by rw [h_], by omega, Keep.trans (Keep.trans (Keep.trans (Keep.trans (Keep.trans (Keep.trans (kU kR hh4) hkc5 (by omega) (fun d _ h => h)) hkf40 (by omega) (fun d _ h => h)) hkf43 (by omega) (fun d _ h => h)) hkk59 (by omega) (fun d _ h => h)) hkk66 (by omega) (fun d _ h => h)) hkl70 (by omega) (fun d _ h => h)⟩
   refine k_seq (k_reg (rO (o_mov (eV (z8 (z16 (z16 (z16 (get_other rfl (get_other rfl get_same)))))))) (rO (o_eql eZ ev_c) (m1 ds (r_nil (k_cond eZ (fun _ => k_seq (k_reg (m1 (z2 (z4 (z16 ds))) (m1 (z2 (z4 (z16 ds))) (r_call (w_callF (evs_cons (eV (z1 ds)) (evs_cons eZ (evs_cons ev_c evs_nil)))) rfl (WF.mono (lsum_ok (fun c hc => kn_bit hA (by assumption) hc) (fun c hc => kn_bit hB (by assumption) hc) (by omega) (by omega) (by decide)) ?_)))))) (fun hz => absurd hc58 (of_decide_eq_false hz))))))))
   rintro _ t74 n75 ⟨rfl, hns73, hks73⟩
   refine m1 ds (rO (o_mov ev_c) (r_nil (k_ret ?_)))
   have h_ : binL op a b = (sumL (fitL a W) (fitL b W) 0) := by unfold binL; first | ((repeat first | rw [if_pos (by first | assumption | omega)] | rw [if_neg (by first | assumption | omega)]); done) | (rw [if_neg (by omega), if_neg (by omega), if_neg (by omega), ← hW]; unfold binL2; first | ((repeat first | rw [if_pos (by first | assumption | omega)] | rw [if_neg (by first | assumption | omega)]); done) | (rw [if_neg (by omega), if_neg (by omega), if_neg (by omega), if_pos (by omega)]; first | exact if_pos (by first | exact .inl (by assumption) | exact .inr (by assumption)) | (rw [if_neg (show ¬ (hasXZ (fitL a W) = true ∨ hasXZ (fitL b W) = true) from fun h_ => h_.elim (by assumption) (by assumption))]; (repeat first | rw [if_pos (by first | assumption | omega)] | rw [if_neg (by first | assumption | omega)]))))
   exact ⟨_, ans_two (res_tmp (z1 ds) (res_tmp ds res_nil)), by rw [h_], by omega, Keep.trans (Keep.trans (Keep.trans (Keep.trans (Keep.trans (Keep.trans (kU kR hh4) hkc5 (by omega) (fun d _ h => h)) hkf40 (by omega) (fun d _ h => h)) hkf43 (by omega) (fun d _ h => h)) hkk59 (by omega) (fun d _ h => h)) hkk66 (by omega) (fun d _ h => h)) hks73 (by omega) (fun d _ h => h)⟩
 refine k_reg (rO (o_eql (eV (z8 ds)) ev_c) (m1 ds (r_nil ?_)))
 refine k_if eZ (fun hc76 => ?_) (fun hc76 => ?_)
 · refine k_seq (k_block (k_seq (k_reg (m1 (z4 (z8 ds)) (r_call (w_callF (evs_cons eZ evs_nil)) rfl (WF.mono (kn_ok hA (by omega)) ?_))))))
   rintro _ t78 n79 ⟨rfl, hnk77, hkk77⟩
   by_cases hs80 : (hasXZ (fitL a W) = true)
   · refine rO (dec_t (o_notn eZ) hs80) (m1 ds (r_off (wN ds) (r_off (wN (z1 ds)) (r_off (wN (z2 ds)) (rO (o_pick_t (eV (z1 (z2 ds))) ev_c) (m1 ds (r_nil (k_cond_t eZ (k_seq (k_reg (m1 (z4 (z8 (z16 ds))) (r_call (w_callF (evs_cons ev_c (evs_cons eZ evs_nil))) rfl (WF.mono (all_ok (c := 120) (by decide) (by omega)) ?_)))))))))))))
     rintro _ t82 n83 ⟨rfl, hnl81, hkl81⟩
     refine m1 ds (rO (o_mov ev_c) (r_nil (k_ret ?_)))
     have h_ : binL op a b = (List.replicate W 120) := by unfold binL; first | ((repeat first | rw [if_pos (by first | assumption | omega)] | rw [if_neg (by first | assumption | omega)]); done) | (rw [if_neg (by omega), if_neg (by omega), if_neg (by omega), ← hW]; unfold binL2; first | ((repeat first | rw [if_pos (by first | assumption | omega)] | rw [if_neg (by first | assumption | omega)]); done) | (rw [if_neg (by omega), if_neg (by omega), if_neg (by omega), if_pos (by omega)]; first | exact if_pos (by first | exact .inl (by assumption) | exact .inr (by assumption)) | (rw [if_neg (show ¬ (hasXZ (fitL a W) = true ∨ hasXZ (fitL b W) = true) from fun h_ => h_.elim (by assumption) (by assumption))]; (repeat first | rw [if_pos (by first | assumption | omega)] | rw [if_neg (by first | assumption | omega)]))))
     exact ⟨_, ans_two (res_tmp (z1 ds) (res_tmp ds res_nil)), by rw [h_], by omega, Keep.trans (Keep.trans (Keep.trans (Keep.trans (Keep.trans (kU kR hh4) hkc5 (by omega) (fun d _ h => h)) hkf40 (by omega) (fun d _ h => h)) hkf43 (by omega) (fun d _ h => h)) hkk77 (by omega) (fun d _ h => h)) hkl81 (by omega) (fun d _ h => h)⟩
   refine rO (dec_f (o_notn eZ) hs80) (m1 ds (r_op (o_mov (eV (z1 (z2 (z4 (z8 ds)))))) (want_on ds) (r_call (w_callF (evs_cons eZ evs_nil)) (want_on (z1 ds)) (WF.mono (kn_ok hB (by omega)) ?_))))
   rintro _ t85 n86 ⟨rfl, hnk84, hkk84⟩
   refine r_op (o_notn eZ) (want_on (z2 ds)) (rO (o_pick_f (eV (z1 (z2 ds))) eZ) (m1 ds (r_nil ?_)))
   refine k_if eZ (fun hc87 => ?_) (fun hc87 => ?_)
   · refine k_seq (k_reg (m1 (z4 (z8 (z16 ds))) (r_call (w_callF (evs_cons ev_c (evs_cons eZ evs_nil))) rfl (WF.mono (all_ok (c := 120) (by decide) (by omega)) ?_))))
     rintro _ t89 n90 ⟨rfl, hnl88, hkl88⟩
     refine m1 ds (rO (o_mov ev_c) (r_nil (k_ret ?_)))
     have h_ : binL op a b = (List.replicate W 120) := by unfold binL; first | ((repeat first | rw [if_pos (by first | assumption | omega)] | rw [if_neg (by first | assumption | omega)]); done) | (rw [if_neg (by omega), if_neg (by omega), if_neg (by omega), ← hW]; unfold binL2; first | ((repeat first | rw [if_pos (by first | assumption | omega)] | rw [if_neg (by first | assumption | omega)]); done) | (rw [if_neg (by omega), if_neg (by omega), if_neg (by omega), if_pos (by omega)]; first | exact if_pos (by first | exact .inl (by assumption) | exact .inr (by assumption)) | (rw [if_neg (show ¬ (hasXZ (fitL a W) = true ∨ hasXZ (fitL b W) = true) from fun h_ => h_.elim (by assumption) (by assumption))]; (repeat first | rw [if_pos (by first | assumption | omega)] | rw [if_neg (by first | assumption | omega)]))))
     exact ⟨_, ans_two (res_tmp (z1 ds) (res_tmp ds res_nil)), by rw [h_], by omega, Keep.trans (Keep.trans (Keep.trans (Keep.trans (Keep.trans (Keep.trans (kU kR hh4) hkc5 (by omega) (fun d _ h => h)) hkf40 (by omega) (fun d _ h => h)) hkf43 (by omega) (fun d _ h => h)) hkk77 (by omega) (fun d _ h => h)) hkk84 (by omega) (fun d _ h => h)) hkl88 (by omega) (fun d _ h => h)⟩
   refine k_seq (k_reg (rO (o_mov (eV (z2 (z8 (z16 (z16 (z16 (get_other rfl (get_other rfl get_same))))))))) (rO (o_eql eZ ev_c) (m1 ds (r_nil (k_cond eZ (fun hz => absurd (of_decide_eq_true hz) hc58) (fun _ => k_skip (k_seq (k_reg (m1 (z8 (z16 ds)) (m1 (z8 (z16 ds)) (r_call (w_callF (evs_cons eZ evs_nil)) rfl (WF.mono (turned_ok hB (by omega)) ?_)))))))))))))
   rintro _ t92 n93 ⟨rfl, hnt91, hkt91⟩
   refine r_call (w_callF (evs_cons (eV (z2 ds)) (evs_cons eZ (evs_cons ev_c evs_nil)))) rfl (WF.mono (lsum_ok (fun c hc => kn_bit hA (by assumption) hc) (turn_kn (fun c hc => kn_bit hB (by assumption) hc)) (by rw [turnL_len]; omega) (by omega) (by decide)) ?_)
   rintro _ t95 n96 ⟨rfl, hns94, hks94⟩
   refine m1 ds (rO (o_mov ev_c) (r_nil (k_ret ?_)))
   have h_ : binL op a b = (sumL (fitL a W) (turnL (fitL b W)) 1) := by unfold binL; first | ((repeat first | rw [if_pos (by first | assumption | omega)] | rw [if_neg (by first | assumption | omega)]); done) | (rw [if_neg (by omega), if_neg (by omega), if_neg (by omega), ← hW]; unfold binL2; first | ((repeat first | rw [if_pos (by first | assumption | omega)] | rw [if_neg (by first | assumption | omega)]); done) | (rw [if_neg (by omega), if_neg (by omega), if_neg (by omega), if_pos (by omega)]; first | exact if_pos (by first | exact .inl (by assumption) | exact .inr (by assumption)) | (rw [if_neg (show ¬ (hasXZ (fitL a W) = true ∨ hasXZ (fitL b W) = true) from fun h_ => h_.elim (by assumption) (by assumption))]; (repeat first | rw [if_pos (by first | assumption | omega)] | rw [if_neg (by first | assumption | omega)]))))
   exact ⟨_, ans_two (res_tmp (z1 ds) (res_tmp ds res_nil)), by rw [h_], by omega, Keep.trans (Keep.trans (Keep.trans (Keep.trans (Keep.trans (Keep.trans (Keep.trans (kU kR hh4) hkc5 (by omega) (fun d _ h => h)) hkf40 (by omega) (fun d _ h => h)) hkf43 (by omega) (fun d _ h => h)) hkk77 (by omega) (fun d _ h => h)) hkk84 (by omega) (fun d _ h => h)) hkt91 (by omega) (fun d _ h => h)) hks94 (by omega) (fun d _ h => h)⟩
 refine k_skip (k_seq (k_reg (rO (o_mov (eV (z1 (z16 (z16 (z16 (get_other rfl (get_other rfl get_same)))))))) (m1 (z1 (z4 (z8 ds))) (m1 (z1 (z4 (z8 ds))) (r_call (w_callF (evs_cons (eV (z2 ds)) (evs_cons (eV (z1 ds)) (evs_cons eZ evs_nil)))) rfl (WF.mono (lcomp_ok hA hB (by omega) (by omega)) ?_)))))))
 rintro _ t98 n99 ⟨rfl, hnp97, hkp97⟩
 refine m1 ds (rO (o_mov ev_c) (r_nil (k_ret ?_)))
 have h_ : binL op a b = (compL op (fitL a W) (fitL b W)) := by unfold binL; first | ((repeat first | rw [if_pos (by first | assumption | omega)] | rw [if_neg (by first | assumption | omega)]); done) | (rw [if_neg (by omega), if_neg (by omega), if_neg (by omega), ← hW]; unfold binL2; first | ((repeat first | rw [if_pos (by first | assumption | omega)] | rw [if_neg (by first | assumption | omega)]); done) | (rw [if_neg (by omega), if_neg (by omega), if_neg (by omega), if_pos (by omega)]; first | exact if_pos (by first | exact .inl (by assumption) | exact .inr (by assumption)) | (rw [if_neg (show ¬ (hasXZ (fitL a W) = true ∨ hasXZ (fitL b W) = true) from fun h_ => h_.elim (by assumption) (by assumption))]; (repeat first | rw [if_pos (by first | assumption | omega)] | rw [if_neg (by first | assumption | omega)]))))
 exact ⟨_, ans_two (res_tmp (z1 ds) (res_tmp ds res_nil)), by rw [h_], by omega, Keep.trans (Keep.trans (Keep.trans (Keep.trans (kU kR hh4) hkc5 (by omega) (fun d _ h => h)) hkf40 (by omega) (fun d _ h => h)) hkf43 (by omega) (fun d _ h => h)) hkp97 (by omega) (fun d _ h => h)⟩
def Rise__r0 : LI := [.o 4 (.mov (.c (.bool false)))]
def Rise__r1 : LI := [.mv 7 0,
 .mv 8 1,
 .o 9 (.bslice 1 2 [(.str [])] [(0, 1, (.t 7)), (1, 1, (.t 8))]),
 .f 10 160 [(.t 9)],
 .o 11 (.bin .neq (.t 10) (kI 0))]
def Rise__r2 : LI := [.o 4 (.mov (.c (.bool false)))]
def Rise__r3 : List DIns := [⟨0, [], .mv 12 0⟩,
 ⟨1, [], .mv 13 0⟩,
 ⟨2, [1], .o 14 (.len .str (.t 13))⟩,
 ⟨3, [2], .o 15 (.bin .sub (.t 14) (kI 1))⟩,
 ⟨4, [0, 3], .o 16 (.sidx (.t 12) (.t 15))⟩,
 ⟨5, [], .mv 17 1⟩,
 ⟨6, [], .mv 18 1⟩,
 ⟨7, [6], .o 19 (.len .str (.t 18))⟩,
 ⟨8, [7], .o 20 (.bin .sub (.t 19) (kI 1))⟩,
 ⟨9, [5, 8], .o 21 (.sidx (.t 17) (.t 20))⟩,
 ⟨10, [4, 0, 1, 2, 3, 4], .mv 5 16⟩,
 ⟨11, [9, 10, 0, 1, 2, 3, 4, 5, 6, 7, 8, 9, 10], .mv 6 21⟩]
def Rise__r4 : LI := [.mv 22 5]
def Rise__r5 : LI := [.o 24 (.bin .eql (.t 22) (.c (.int .u8 48))),
 .mv 23 24]
def Rise__r6 : LI := [.mv 25 6,
 .o 26 (.bin .neq (.t 25) (.c (.int .u8 48))),
 .mv 4 26]
def Rise__r7 : LI := [.o 28 (.bin .eql (.t 22) (.c (.int .u8 49))),
 .mv 27 28]
def Rise__r8 : LI := [.o 4 (.mov (.c (.bool false)))]
def Rise__r9 : LI := [.mv 29 6,
 .o 30 (.bin .eql (.t 29) (.c (.int .u8 49))),
 .mv 4 30]
def Rise__c : IC := (.seq (.reg Rise__r0) (.seq (.seq (.reg Rise__r1) (.cond (.t 11) (.seq (.reg Rise__r2) .ret) .skip)) (.seq (.draw Rise__r3) (.seq (.seq (.reg Rise__r4) (.block 0 (.seq (.reg Rise__r5) (.cond (.t 23) (.seq (.reg Rise__r6) .ret) (.seq (.reg Rise__r7) (.cond (.t 27) (.seq (.reg Rise__r8) .ret) .skip)))))) (.seq (.reg Rise__r9) .ret)))))
theorem Rise__tab : tb 110 = some (.code 2 31 Rise__c [.tmp 4]) := by kernel_rfl
theorem Rise_ok {t : TB} {nx : Nat} {a b : List Nat} (ha : isV a) (hb : isV b) : WF tb 110 [(.str a), (.str b)] t nx (fun v t' nx' => v = .bool (riseL a b) ∧ nx ≤ nx' ∧ Keep t t' nx (fun _ => False)) := by
 have h1 := ha.1
 have h2 := ha.2.1
 have h3 := hb.1
 have h4 := hb.2.1
 obtain ⟨x, hx, hxl⟩ := last_at ha.1
 obtain ⟨y, hy, hyl⟩ := last_at hb.1
 refine k_fun Rise__tab rfl ?_
 unfold Rise__c
 change WC _ _ (Bt.put (some _) (Bt.put (some _) Bt.e 0) 1) _ _ _
 refine k_seq (k_reg (rO (o_mov ev_c) (r_nil (k_seq (k_seq (k_reg (m1 (z1 (get_other rfl get_same)) (m1 (z2 get_same) (r_heap (o_bslice (fill_cons (eV (z1 ds)) rfl rfl (fill_cons eZ rfl rfl fill_nil))) rfl (fun t1 (hh2 : hv t1 = upd (hv t) nx (some (.row [(.str a), (.str b)] true))) => ?_))))))))))
 refine r_call (w_callF (evs_cons eZ evs_nil)) rfl (WF.mono (chks_ok (d := nx) (l := [a, b]) (by omega) (lS hh2) (by simp) (by intro s_ hs_; simp only [List.mem_cons, List.not_mem_nil, or_false] at hs_; rcases hs_ with rfl | rfl; exact ha; exact hb)) ?_)
 rintro _ t4 n5 ⟨rfl, hnc3, hkc3⟩
 refine rO (ndec_f (o_neq eZ ev_c) (by simp)) (r_nil (k_cond_f eZ (k_skip (k_seq (k_draw (eO 0 rfl (o_mov (eV (z2 (z4 (get_other rfl get_same))))) (eO 1 rfl (o_mov (eV (z1 (z2 (z4 (get_other rfl get_same)))))) (eO 2 rfl (o_len_str eZ) (eO 3 rfl (o_subN (a := a.length) (b := 1) eZ ev_c (by omega) (by omega)) (eO 4 rfl (o_sidx (eV (z1 (z2 ds))) eZ hx) (eO 5 rfl (o_mov (eV (z1 (z2 (z8 get_same))))) (eO 6 rfl (o_mov (eV (z4 (z8 get_same)))) (eO 7 rfl (o_len_str eZ) (eO 8 rfl (o_subN (a := b.length) (b := 1) eZ ev_c (by omega) (by omega)) (eO 9 rfl (o_sidx (eV (z1 (z2 ds))) eZ hy) (eO 10 rfl (o_mov (eV (z1 (z4 ds)))) (eO 11 rfl (o_mov (eV (z1 ds))) (e_done (k_seq (k_seq (k_reg (m1 (z1 ds) (r_nil (k_block (k_seq (k_reg (rO (o_eqlK eZ ev_c) (m1 ds (r_nil ?_)))))))))))))))))))))))))))))
 refine k_if eZ (fun hc6 => ?_) (fun hc6 => ?_)
 · refine k_seq (k_reg (m1 (z1 (z2 ds)) (rO (o_neqK eZ ev_c) (m1 ds (r_nil (k_ret ?_))))))
   have h_ : riseL a b = (!decide (((y : Nat) : Int) = 48)) := by unfold riseL; rw [hxl, hyl]; dsimp only; first | ((repeat first | rw [if_pos (by first | assumption | omega)] | rw [if_neg (by first | assumption | omega)]); done) | ((repeat first | rw [if_pos (by first | assumption | omega)] | rw [if_neg (by first | assumption | omega)]); simp; omega) | ((repeat first | rw [if_pos (by first | assumption | omega)] | rw [if_neg (by first | assumption | omega)]); congr 1; exact propext (by omega))
   exact ⟨_, ans_tmp ds, by rw [h_], by omega, Keep.trans (kU kR hh2) hkc3 (by omega) (fun d _ h => h)⟩
 refine k_seq (k_reg (rO (o_eqlK (eV (z2 ds)) ev_c) (m1 ds (r_nil ?_))))
 refine k_if eZ (fun hc7 => ?_) (fun hc7 => ?_)
 · refine k_seq (k_reg (rO (o_mov ev_c) (r_nil (k_ret ?_))))
   have h_ : riseL a b = false := by unfold riseL; rw [hxl, hyl]; dsimp only; first | ((repeat first | rw [if_pos (by first | assumption | omega)] | rw [if_neg (by first | assumption | omega)]); done) | ((repeat first | rw [if_pos (by first | assumption | omega)] | rw [if_neg (by first | assumption | omega)]); simp; omega) | ((repeat first | rw [if_pos (by first | assumption | omega)] | rw [if_neg (by first | assumption | omega)]); congr 1; exact propext (by omega))
   exact ⟨_, ans_tmp ds, by rw [h_], by omega, Keep.trans (kU kR hh2) hkc3 (by omega) (fun d _ h => h)⟩
 refine k_skip (k_seq (k_reg (m1 (z1 (z4 ds)) (rO (o_eqlK eZ ev_c) (m1 ds (r_nil (k_ret ?_)))))))
 have h_ : riseL a b = (decide (((y : Nat) : Int) = 49)) := by unfold riseL; rw [hxl, hyl]; dsimp only; first | ((repeat first | rw [if_pos (by first | assumption | omega)] | rw [if_neg (by first | assumption | omega)]); done) | ((repeat first | rw [if_pos (by first | assumption | omega)] | rw [if_neg (by first | assumption | omega)]); simp; omega) | ((repeat first | rw [if_pos (by first | assumption | omega)] | rw [if_neg (by first | assumption | omega)]); congr 1; exact propext (by omega))
 exact ⟨_, ans_tmp ds, by rw [h_], by omega, Keep.trans (kU kR hh2) hkc3 (by omega) (fun d _ h => h)⟩
end
end Go.Proofs.YtpjohgnhmjceiaaGreatDoor.WX
