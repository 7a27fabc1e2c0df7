/- The program's functions in the evaluator's terms: level.Run, engine.Check: what each of them answers, whatever comes in.
   Conditions: those of each theorem. -/
import Derived.Test.YtpjohgnhmjceiaaGreatDoorWx1
set_option linter.all false
set_option linter.unusedVariables false
set_option linter.unusedSectionVars false
set_option maxRecDepth 100000
open Go Go.Proofs.YtpjohgnhmjceiaaGreatDoor.AX Go.Proofs
namespace Go.Proofs.YtpjohgnhmjceiaaGreatDoor.WX
section
def hangs__r0 : LI := [.o 1 (.box (.t 0)),
 .o 2 (.mov (.c .nslice))]
def hangs__r1 : LI := [.o 3 (.faddr (.t 1) 0),
 .o 4 (.load (.t 3))]
def hangs__r2 : LI := [.o 6 (.bin .eql (.t 4) (kI 8)),
 .mv 5 6]
def hangs__r3 : LI := [.o 2 (.mov (.c .nslice))]
def hangs__r4 : LI := [.o 8 (.bin .eql (.t 4) (kI 7)),
 .mv 7 8]
def hangs__r5 : LI := [.o 9 (.faddr (.t 1) 3),
 .o 10 (.load (.t 9)),
 .o 11 (.cslice 1 (.t 10) none (some (kI 1)) none),
 .mv 2 11]
def hangs__r6 : LI := [.o 12 (.faddr (.t 1) 3),
 .o 13 (.load (.t 12)),
 .mv 2 13]
def hangs__c : IC := (.seq (.reg hangs__r0) (.seq (.seq (.reg hangs__r1) (.block 0 (.seq (.reg hangs__r2) (.cond (.t 5) (.seq (.reg hangs__r3) .ret) (.seq (.reg hangs__r4) (.cond (.t 7) (.seq (.reg hangs__r5) .ret) .skip)))))) (.seq (.reg hangs__r6) .ret)))
theorem hangs__tab : tb 158 = some (.code 1 14 hangs__c [.tmp 2]) := by kernel_rfl
def levels_r0 : LI := [.o 1 (.box (.t 0)),
 .o 2 (.mov (.c .nslice)),
 .o 3 (.mov (.c .nslice)),
 .o 4 (.mov (kI 0))]
def levels_r1 : LI := [.o 19 (.faddr (.t 1) 0),
 .o 20 (.load (.t 19)),
 .o 21 (.len .slc (.t 20)),
 .o 22 (.mkslice 1 [(.int .i64 0)] (.t 21) (.t 21)),
 .mv 5 22]
def levels_r2 : LI := [.o 23 (.faddr (.t 1) 0),
 .o 24 (.load (.t 23)),
 .o 25 (.len .slc (.t 24)),
 .o 26 (.mkslice 1 [(.int .i64 0)] (.t 25) (.t 25)),
 .mv 6 26]
def levels_r3 : LI := [.o 27 (.faddr (.t 1) 0),
 .o 28 (.load (.t 27)),
 .o 29 (.len .slc (.t 28)),
 .o 30 (.mkslice 1 [(.bool false)] (.t 29) (.t 29)),
 .mv 7 30]
def levels_r4 : LI := [.o 31 (.faddr (.t 1) 0),
 .o 32 (.load (.t 31)),
 .o 33 (.len .slc (.t 32)),
 .o 34 (.mkslice 1 [.nslice] (.t 33) (.t 33)),
 .mv 8 34]
def levels_r5 : LI := [.o 9 (.mov (.c .nslice))]
def levels_r6 : LI := [.o 35 (.faddr (.t 1) 0),
 .o 36 (.load (.t 35)),
 .o 37 (.len .slc (.t 36)),
 .o 38 (.mov (kI 0))]
def levels_r7 : LI := [.o 39 (.bin .lss (.t 38) (.t 37))]
def levels_r8 : LI := [.mv 40 38,
 .o 41 (.iaddr 8 (.t 36) (.t 38)),
 .o 42 (.loadA 8 (.t 41)),
 .o 11 (.alloc [(.int .i64 0), (.int .i64 0), (.int .i64 0), .nslice, (.str []), (.int .i64 0), (.int .i64 0), (.int .i64 0)]),
 .mv 10 40,
 .x (.store 8 (.t 11) (.t 42))]
def levels_r9 : LI := [.o 43 (.loadA 8 (.t 11)),
 .f 44 158 [(.t 43)],
 .mv 12 44]
def levels_r10 : LI := [.mv 45 6,
 .mv 46 10,
 .mv 47 12,
 .o 48 (.len .slc (.t 47)),
 .o 49 (.iaddr 1 (.t 45) (.t 46)),
 .x (.store 1 (.t 49) (.t 48))]
def levels_r11 : LI := [.mv 50 12,
 .o 51 (.len .slc (.t 50)),
 .o 52 (.mov (kI 0))]
def levels_r12 : LI := [.o 53 (.bin .lss (.t 52) (.t 51))]
def levels_r13 : LI := [.o 54 (.iaddr 1 (.t 50) (.t 52)),
 .o 55 (.load (.t 54)),
 .mv 14 55]
def levels_r14 : LI := [.mv 56 8,
 .mv 57 14,
 .mv 58 8,
 .mv 59 14,
 .o 60 (.iaddr 1 (.t 58) (.t 59)),
 .o 61 (.load (.t 60)),
 .mv 62 10,
 .o 63 (.bslice 1 1 [(.int .i64 0)] [(0, 1, (.t 62))]),
 .o 64 (.app 1 (.t 61) (.t 63)),
 .o 65 (.iaddr 1 (.t 56) (.t 57)),
 .x (.store 1 (.t 65) (.t 64))]
def levels_r15 : LI := [.o 66 (.bin .add (.t 52) (kI 1)),
 .mv 52 66]
def levels_r16 : LI := [.mv 67 12,
 .o 68 (.len .slc (.t 67)),
 .o 69 (.bin .eql (.t 68) (kI 0))]
def levels_r17 : LI := [.mv 70 9,
 .mv 71 10,
 .o 72 (.bslice 1 1 [(.int .i64 0)] [(0, 1, (.t 71))]),
 .o 73 (.app 1 (.t 70) (.t 72)),
 .mv 9 73]
def levels_r18 : LI := [.o 74 (.bin .add (.t 38) (kI 1)),
 .mv 38 74]
def levels_r19 : LI := [.o 15 (.mov (kI 0))]
def levels_r20 : LI := [.mv 75 9,
 .o 76 (.len .slc (.t 75)),
 .o 77 (.bin .gtr (.t 76) (kI 0))]
def levels_r21 : LI := [.mv 78 9,
 .mv 79 9,
 .o 80 (.len .slc (.t 79)),
 .o 81 (.bin .sub (.t 80) (kI 1)),
 .o 82 (.iaddr 1 (.t 78) (.t 81)),
 .o 83 (.load (.t 82)),
 .mv 16 83]
def levels_r22 : LI := [.mv 84 9,
 .mv 85 9,
 .o 86 (.len .slc (.t 85)),
 .o 87 (.bin .sub (.t 86) (kI 1)),
 .o 88 (.cslice 1 (.t 84) none (some (.t 87)) none),
 .mv 9 88]
def levels_r23 : LI := [.mv 89 7,
 .mv 90 16,
 .o 91 (.iaddr 1 (.t 89) (.t 90)),
 .x (.store 1 (.t 91) (.c (.bool true)))]
def levels_r24 : LI := [.mv 92 15,
 .o 93 (.bin .add (.t 92) (kI 1)),
 .mv 15 93]
def levels_r25 : LI := [.mv 94 8,
 .mv 95 16,
 .o 96 (.iaddr 1 (.t 94) (.t 95)),
 .o 97 (.load (.t 96)),
 .o 98 (.len .slc (.t 97)),
 .o 99 (.mov (kI 0))]
def levels_r26 : LI := [.o 100 (.bin .lss (.t 99) (.t 98))]
def levels_r27 : LI := [.o 101 (.iaddr 1 (.t 97) (.t 99)),
 .o 102 (.load (.t 101)),
 .mv 18 102]
def levels_r28 : List DIns := [⟨0, [], .mv 103 5⟩,
 ⟨1, [], .mv 104 18⟩,
 ⟨2, [], .mv 105 5⟩,
 ⟨3, [], .mv 106 18⟩,
 ⟨4, [2, 3], .o 107 (.iaddr 1 (.t 105) (.t 106))⟩,
 ⟨5, [4], .o 108 (.load (.t 107))⟩,
 ⟨6, [], .mv 109 5⟩,
 ⟨7, [], .mv 110 16⟩,
 ⟨8, [6, 7], .o 111 (.iaddr 1 (.t 109) (.t 110))⟩,
 ⟨9, [8], .o 112 (.load (.t 111))⟩,
 ⟨10, [9], .o 113 (.bin .add (.t 112) (kI 1))⟩,
 ⟨11, [5, 10], .o 114 (.mm true (.t 108) (.t 113))⟩,
 ⟨12, [0, 1, 0, 1, 2, 3, 4, 5, 6, 7, 8, 9, 10, 11], .o 115 (.iaddr 1 (.t 103) (.t 104))⟩,
 ⟨13, [12, 11, 0, 1, 2, 3, 4, 5, 6, 7, 8, 9, 10, 11], .x (.store 1 (.t 115) (.t 114))⟩]
def levels_r29 : LI := [.mv 116 6,
 .mv 117 18,
 .o 118 (.iaddr 1 (.t 116) (.t 117)),
 .o 119 (.load (.t 118)),
 .o 120 (.bin .sub (.t 119) (kI 1)),
 .o 121 (.iaddr 1 (.t 116) (.t 117)),
 .x (.store 1 (.t 121) (.t 120))]
def levels_r30 : LI := [.mv 122 6,
 .mv 123 18,
 .o 124 (.iaddr 1 (.t 122) (.t 123)),
 .o 125 (.load (.t 124)),
 .o 126 (.bin .eql (.t 125) (kI 0))]
def levels_r31 : LI := [.mv 127 9,
 .mv 128 18,
 .o 129 (.bslice 1 1 [(.int .i64 0)] [(0, 1, (.t 128))]),
 .o 130 (.app 1 (.t 127) (.t 129)),
 .mv 9 130]
def levels_r32 : LI := [.o 131 (.bin .add (.t 99) (kI 1)),
 .mv 99 131]
def levels_r33 : LI := [.mv 132 5,
 .mv 133 7,
 .mv 134 15,
 .mv 2 132,
 .mv 3 133,
 .mv 4 134]
def levels_c : IC := (.seq (.reg levels_r0) (.seq (.reg levels_r1) (.seq (.reg levels_r2) (.seq (.reg levels_r3) (.seq (.reg levels_r4) (.seq (.reg levels_r5) (.seq (.seq (.reg levels_r6) (.block 0 (.loop (.seq (.reg levels_r7) (.seq (.cond (.t 39) .skip (.exit 0)) (.seq (.block 1 (.seq (.reg levels_r8) (.seq (.reg levels_r9) (.seq (.reg levels_r10) (.seq (.seq (.reg levels_r11) (.block 2 (.loop (.seq (.reg levels_r12) (.seq (.cond (.t 53) .skip (.exit 2)) (.seq (.block 3 (.seq (.reg levels_r13) (.reg levels_r14))) (.reg levels_r15))))))) (.seq (.reg levels_r16) (.cond (.t 69) (.reg levels_r17) .skip))))))) (.reg levels_r18))))))) (.seq (.reg levels_r19) (.seq (.block 4 (.loop (.seq (.seq (.reg levels_r20) (.cond (.t 77) .skip (.exit 4))) (.block 5 (.seq (.reg levels_r21) (.seq (.reg levels_r22) (.seq (.reg levels_r23) (.seq (.reg levels_r24) (.seq (.reg levels_r25) (.block 6 (.loop (.seq (.reg levels_r26) (.seq (.cond (.t 100) .skip (.exit 6)) (.seq (.block 7 (.seq (.reg levels_r27) (.seq (.draw levels_r28) (.seq (.reg levels_r29) (.seq (.reg levels_r30) (.cond (.t 126) (.reg levels_r31) .skip)))))) (.reg levels_r32))))))))))))))) (.seq (.reg levels_r33) .ret))))))))))
theorem levels_tab : tb 106 = some (.code 1 135 levels_c [.tmp 2, .tmp 3, .tmp 4]) := by kernel_rfl
def lrun__r0 : LI := [.o 1 (.box (.t 0)),
 .o 2 (.mov (.c .nslice)),
 .o 3 (.mov (kI 0))]
def lrun__r1 : LI := [.o 7 (.loadA 3 (.t 1)),
 .f 8 48 [(.t 7)],
 .o 9 (.bin .neq (.t 8) (kI 0))]
def lrun__r2 : LI := [.o 2 (.mov (.c .nslice)),
 .o 3 (.mov (kI 1))]
def lrun__r3 : LI := [.o 11 (.loadA 3 (.t 1)),
 .f 12 106 [(.t 11)],
 .mv 10 12,
 .o 13 (.extr (.t 10) 0),
 .o 14 (.extr (.t 10) 1),
 .o 15 (.extr (.t 10) 2),
 .mv 4 13,
 .mv 5 14,
 .mv 6 15]
def lrun__r4 : LI := [.mv 16 6,
 .o 17 (.faddr (.t 1) 0),
 .o 18 (.load (.t 17)),
 .o 19 (.len .slc (.t 18)),
 .o 20 (.bin .lss (.t 16) (.t 19))]
def lrun__r5 : LI := [.o 2 (.mov (.c .nslice)),
 .o 3 (.mov (kI 110))]
def lrun__r6 : LI := [.mv 21 4,
 .mv 2 21,
 .o 3 (.mov (kI 0))]
def lrun__c : IC := (.seq (.reg lrun__r0) (.seq (.seq (.reg lrun__r1) (.cond (.t 9) (.seq (.reg lrun__r2) .ret) .skip)) (.seq (.reg lrun__r3) (.seq (.seq (.reg lrun__r4) (.cond (.t 20) (.seq (.reg lrun__r5) .ret) .skip)) (.seq (.reg lrun__r6) .ret)))))
theorem lrun__tab : tb 52 = some (.code 1 22 lrun__c [.tmp 2, .tmp 3]) := by kernel_rfl
variable [Env]
theorem o_iaddrE {T : TA} {t : TB} {nx : Nat} {sz : Nat} {x y : Opd} {w : AV} {b o n c i : Nat} {ex : Bool} {k : IntKind} (hx : x.ev T = some w) (hw : w = .slice b o n c sz ex) (hy : y.ev T = some (.int k (i : Int))) (hi : i < n) : (IOp.iaddr sz x y).run T t nx = .ok (.ptr b (o + i * sz)) t nx := o_iaddr (hx.trans (by rw [hw])) hy hi
theorem o_cslice_hi {T : TA} {t : TB} {nx : Nat} {sz : Nat} {x y : Opd} {w : AV} {b o n c m : Nat} {ex : Bool} {k : IntKind} (hx : x.ev T = some w) (hw : w = .slice b o n c sz ex) (hy : y.ev T = some (.int k (m : Int))) (hm : m ≤ c) : (IOp.cslice sz x none (some y) none).run T t nx = .ok (.slice b o m c sz ex) t nx := by
 subst hw
 have e : y.ev T = some (.int k (.ofNat m)) := hy
 have hbd : bnd y T c = some m := by
   unfold bnd
   rw [e]
   dsimp only [idx]
   rw [show Nat.ble m c = true from by simp; omega]
 have hbs : bnds T n c none (some y) none = some (0, m, c) := by
   unfold bnds
   dsimp only
   rw [hbd]
 simp only [IOp.run, hx, hbs]
 rw [show Nat.beq sz sz = true from by simp]
 simp only [fNat_eq]
 show V1.ok (AV.slice b (Nat.add o (Nat.mul 0 sz)) (Nat.sub m 0) (Nat.sub c 0) sz ex) t nx = _
 rw [show Nat.mul 0 sz = 0 from Nat.zero_mul sz]
 rfl
theorem ints_get {l : List Int} {i : Nat} {a : Int} (h : l[i]? = some a) : (ints l)[i]? = some (.int .i64 a) := by simp [ints, i64, h]
theorem ints_set (l : List Int) (i : Nat) (a : Int) : (ints l).set i (.int .i64 a) = ints (l.set i a) := by simp [ints, i64, List.map_set]
theorem o_storeC {T : TA} {t : TB} {nx : Nat} {x y : Opd} {b o : Nat} {l : List AV} {v : AV} (h : x.ev T = some (.ptr b o)) (hy : y.ev T = some v) (hv1 : v.cells = [v]) (hc : isCell v = true) (hb : hv t b = some (.row l true)) (ho : o < l.length) :
   ∃ t', (IOp.store 1 x y).run T t nx = .ok .undef t' nx ∧ hv t' = upd (hv t) b (some (.row (l.set o v) true)) := by
 obtain ⟨t', h1, h2⟩ := o_store (n := 1) h hy hb (by rw [hv1]; rfl) (by rw [hv1]; simp [allCell, hc]) (by omega)
 refine ⟨t', h1, ?_⟩
 rw [h2, hv1, splice_one _ _ _ ho]
theorem o_storeI {T : TA} {t : TB} {nx : Nat} {x y : Opd} {b o : Nat} {l : List Int} {a : Int} (h : x.ev T = some (.ptr b o)) (hy : y.ev T = some (.int .i64 a)) (hb : hv t b = some (.row (ints l) true)) (ho : o < l.length) :
   ∃ t', (IOp.store 1 x y).run T t nx = .ok .undef t' nx ∧ hv t' = upd (hv t) b (some (.row (ints (l.set o a)) true)) := by
 rw [← ints_set]
 exact o_storeC h hy rfl rfl hb (by rw [ints_len]; exact ho)
theorem repl_one (v : AV) (n : Nat) : repl [v] n = List.replicate n v := by
 rw [repl_eq]
 induction n with
 | zero => rfl
 | succ n ih => rw [List.replicate_succ, List.flatten_cons, ih]; rfl
theorem o_mkrow {T : TA} {t : TB} {nx : Nat} {x y : Opd} {w : Nat} {v : AV} (hx : x.ev T = some (.int .i64 (w : Int))) (hy : y.ev T = some (.int .i64 (w : Int))) (h : w ≤ 65536) :
   ∃ t', (IOp.mkslice 1 [v] x y).run T t nx = .ok (.slice nx 0 w w 1 true) t' (nx + 1) ∧ hv t' = upd (hv t) nx (some (.row (List.replicate w v) true)) := by
 rw [← repl_one]; exact o_mkslice hx hy (Nat.le_refl _) (by omega) rfl
theorem nodup_len : ∀ (n : Nat) (l : List Nat), l.Nodup → (∀ a ∈ l, a < n) → l.length ≤ n
 | 0, [], _, _ => Nat.le_refl _
 | 0, a :: l, _, h => by have := h a (by simp); omega
 | n + 1, l, hn, h => by
   by_cases hm : n ∈ l
   · have h1 := nodup_len n (l.erase n) (hn.erase n) (fun a ha => by
       have h2 := h a (List.mem_of_mem_erase ha)
       have h3 : a ≠ n := by intro e; subst e; exact hn.not_mem_erase ha
       omega)
     rw [List.length_erase_of_mem hm] at h1
     omega
   · have h1 := nodup_len n l hn (fun a ha => by
       have h2 := h a ha
       have h3 : a ≠ n := by intro e; subst e; exact hm ha
       omega)
     omega
theorem all_len : ∀ (n : Nat) (l : List Nat), (∀ a, a < n → a ∈ l) → n ≤ l.length
 | 0, l, _ => Nat.zero_le _
 | n + 1, l, h => by
   have hm := h n (by omega)
   have h1 := all_len n (l.erase n) (fun a ha => (List.mem_erase_of_ne (by omega)).2 (h a (by omega)))
   rw [List.length_erase_of_mem hm] at h1
   have : 0 < l.length := List.length_pos_of_mem hm
   omega
/-- How many of a list's numbers are not done. -/
def left (E : Nat → List Nat) (D : List Nat) (i : Nat) : Nat := (E i).countP (fun k => decide (k ∉ D))
theorem left_cons {E : Nat → List Nat} {D : List Nat} {d : Nat} (hd : d ∉ D) (i : Nat) : left E D i = left E (d :: D) i + (E i).count d := by
 unfold left
 induction E i with
 | nil => rfl
 | cons k l ih =>
   rw [List.countP_cons, List.countP_cons, List.count_cons, ih]
   by_cases e : k = d
   · subst e; simp [hd]; omega
   · by_cases e2 : k ∈ D
     · simp [e2, e]
     · simp [e2, e]; omega
theorem left_zero {E : Nat → List Nat} {D : List Nat} {i : Nat} (h : ∀ k ∈ E i, k ∈ D) : left E D i = 0 := by
 unfold left
 rw [List.countP_eq_zero]
 intro k hk
 simp [h k hk]
/-- All is done where nothing waits that could go on. -/
theorem all_done {E : Nat → List Nat} {n : Nat} {D : List Nat} (hE : ∀ i, i < n → ∀ k ∈ E i, k < i) (h : ∀ i, i < n → (i ∈ D ↔ left E D i = 0)) : n ≤ D.length := by
 apply all_len
 intro i
 induction i using Nat.strongRecOn with
 | ind i ih =>
   intro hi
   exact (h i hi).2 (left_zero (fun k hk => ih k (hE i hi k hk) (by have := hE i hi k hk; omega)))
/-- How the walk stands: done, ready, fans, what is left of the fan at hand. -/
structure Lv (E : Nat → List Nat) (n : Nat) (F : Nat → List Nat) (D S : List Nat) (Wt : List Int) (rest : List Nat) : Prop where
 dup : (S ++ D).Nodup
 lt : ∀ a ∈ S ++ D, a < n
 wl : Wt.length = n
 w : ∀ i, i < n → Wt[i]? = some ((left E D i + rest.count i : Nat) : Int)
 zero : ∀ i, i < n → (i ∈ S ++ D ↔ left E D i + rest.count i = 0)
theorem Lv.pop {E : Nat → List Nat} {n : Nat} {F : Nat → List Nat} {D S : List Nat} {Wt : List Int} {d : Nat} (h : Lv E n F D (S ++ [d]) Wt []) (hF : ∀ i, i < n → (F d).count i = (E i).count d) : Lv E n F (d :: D) S Wt (F d) := by
 have e : S ++ [d] ++ D = S ++ d :: D := by simp
 have hd : d ∉ D := by
   have := h.dup
   rw [e, List.nodup_append] at this
   exact (List.nodup_cons.1 this.2.1).1
 refine ⟨by rw [← e]; exact h.dup, by rw [← e]; exact h.lt, h.wl, fun i hi => ?_, fun i hi => ?_⟩
 · rw [h.w i hi, left_cons hd, hF i hi]; simp
 · rw [← e, h.zero i hi, left_cons hd, hF i hi]; simp
theorem Lv.dec {E : Nat → List Nat} {n : Nat} {F : Nat → List Nat} {D S : List Nat} {Wt : List Int} {a : Nat} {rest : List Nat} {u : Int} (h : Lv E n F D S Wt (a :: rest)) (ha : a < n) (hu : Wt[a]? = some u) :
   1 ≤ u ∧ u ≤ Int.ofNat (left E D a + (a :: rest).count a) ∧ (u - 1 = 0 → Lv E n F D (S ++ [a]) (Wt.set a (u - 1)) rest) ∧ (u - 1 ≠ 0 → Lv E n F D S (Wt.set a (u - 1)) rest) := by
 have h1 := h.w a ha
 rw [hu] at h1
 have hu1 : u = ((left E D a + (a :: rest).count a : Nat) : Int) := by simpa using h1
 have hc : (a :: rest).count a = rest.count a + 1 := List.count_cons_self
 have hw : ∀ i, i < n → (Wt.set a (u - 1))[i]? = some ((left E D i + rest.count i : Nat) : Int) := by
   intro i hi
   rw [List.getElem?_set]
   by_cases e : a = i
   · subst e
     rw [if_pos rfl, if_pos (by rw [h.wl]; exact ha), hu1, hc]
     congr 1; omega
   · rw [if_neg e, h.w i hi, List.count_cons_of_ne e]
 have hna : a ∉ S ++ D := fun hm => by
   have := (h.zero a ha).1 hm
   omega
 refine ⟨by omega, by rw [hu1]; exact Int.le_refl _, fun h0 => ?_, fun h0 => ?_⟩
 · have hp : (S ++ [a] ++ D).Perm (a :: (S ++ D)) := by
     rw [List.append_assoc]
     exact List.perm_middle
   refine ⟨hp.nodup_iff.2 (List.nodup_cons.2 ⟨hna, h.dup⟩), fun b hb => ?_, by rw [List.length_set]; exact h.wl, hw, fun i hi => ?_⟩
   · rcases List.mem_cons.1 (hp.mem_iff.1 hb) with rfl | hb
     · exact ha
     · exact h.lt b hb
   · rw [hp.mem_iff, List.mem_cons]
     have hz := h.zero i hi
     by_cases e : i = a
     · subst e
       exact ⟨fun _ => by omega, fun _ => .inl rfl⟩
     · rw [List.count_cons_of_ne (fun e' => e e'.symm)] at hz
       rw [← hz]
       exact ⟨fun h => h.resolve_left e, .inr⟩
 · refine ⟨h.dup, h.lt, by rw [List.length_set]; exact h.wl, hw, fun i hi => ?_⟩
   have hz := h.zero i hi
   by_cases e : i = a
   · subst e
     refine ⟨fun hm => absurd hm hna, fun h2 => ?_⟩
     exfalso; omega
   · rw [List.count_cons_of_ne (fun e' => e e'.symm)] at hz
     exact hz
theorem Lv.few {E : Nat → List Nat} {n : Nat} {F : Nat → List Nat} {D S : List Nat} {Wt : List Int} {rest : List Nat} (h : Lv E n F D S Wt rest) : S.length + D.length ≤ n := by
 have := nodup_len n _ h.dup h.lt
 simpa using this
theorem rowI_one {t : TB} {bd di oi ci : Nat} {exi wri : Bool} {ri : List AV} {l : List Int} (hs : (ri.drop oi).take l.length = ints l) (hd : di < bd) (hr : hv t di = some (.row ri wri)) (hl : oi + l.length ≤ ri.length ∧ l.length ≤ ci) (h1 : 1 ≤ l.length) : RowI t bd (.slice di oi 1 (max ci 1) 1 exi) (l.take 1) := by
 have e : (l.take 1).length = 1 := by rw [List.length_take]; omega
 refine .inr ⟨di, oi, max ci 1, exi, wri, ri, by rw [e], hd, hr, by omega, ?_⟩
 rw [e]
 have h2 := congrArg (List.take 1) hs
 rw [List.take_take, Nat.min_eq_left h1] at h2
 rw [h2]; unfold ints; rw [← List.map_take]
theorem o_cslice_lo {T : TA} {t : TB} {nx : Nat} {x : Opd} {w : AV} {b o n c : Nat} {ex : Bool} (hx : x.ev T = some w) (hw : w = .slice b o n c 1 ex) (hm : 1 ≤ c) : (IOp.cslice 1 x none (some (kI 1)) none).run T t nx = .ok (.slice b o 1 (max c 1) 1 ex) t nx := by
 rw [Nat.max_eq_left hm]
 exact o_cslice_hi (m := 1) hx hw rfl hm
def nints (l : List Nat) : List Int := l.map (fun (k : Nat) => (k : Int))
theorem nints_len (l : List Nat) : (nints l).length = l.length := by simp [nints]
theorem nints_get {l : List Nat} {i k : Nat} (h : l[i]? = some k) : (nints l)[i]? = some (k : Int) := by simp [nints, h]
def fanV (l : List Nat) (d : Nat) : AV := match l with | [] => .nslice | _ => .slice d 0 l.length l.length 1 false
def fansR (n : Nat) (F : Nat → List Nat) (dF : Nat → Nat) : List AV := (List.range n).map (fun k => fanV (F k) (dF k))
theorem fansR_len (n : Nat) (F : Nat → List Nat) (dF : Nat → Nat) : (fansR n F dF).length = n := by simp [fansR]
theorem fansR_get {n : Nat} {F : Nat → List Nat} {dF : Nat → Nat} {k : Nat} (h : k < n) : (fansR n F dF)[k]? = some (fanV (F k) (dF k)) := by simp [fansR, h]
def fset {α : Type} (f : Nat → α) (k : Nat) (v : α) : Nat → α := fun i => if i = k then v else f i
theorem fansR_set {n : Nat} {F : Nat → List Nat} {dF : Nat → Nat} {k : Nat} (h : k < n) (l : List Nat) (d : Nat) : (fansR n F dF).set k (fanV l d) = fansR n (fset F k l) (fset dF k d) := by
 apply List.ext_getElem?
 intro i
 rw [List.getElem?_set]
 by_cases hi : i < n
 · rw [fansR_get hi, fansR_get hi, fansR_len]
   by_cases e : k = i
   · subst e; rw [if_pos rfl, if_pos h]; simp [fset]
   · rw [if_neg e]
     have e' : ¬ i = k := fun x => e x.symm
     simp [fset, e']
 · have h1 : (fansR n F dF)[i]? = none := List.getElem?_eq_none (by rw [fansR_len]; omega)
   have h2 : (fansR n (fset F k l) (fset dF k d))[i]? = none := List.getElem?_eq_none (by rw [fansR_len]; omega)
   rw [h1, h2, fansR_len]
   by_cases e : k = i
   · omega
   · rw [if_neg e]
/-- The fans' own blocks: all different, from lo on, below hi, and not x. -/
structure Fans (t : TB) (lo hi x b : Nat) (n : Nat) (F : Nat → List Nat) (dF : Nat → Nat) : Prop where
 row : hv t b = some (.row (fansR n F dF) true)
 at_ : ∀ k, k < n → F k ≠ [] → hv t (dF k) = some (.row (ints (nints (F k))) true) ∧ lo ≤ dF k ∧ dF k < hi ∧ dF k ≠ x
 ne : ∀ j k, j < n → k < n → F j ≠ [] → F k ≠ [] → j ≠ k → dF j ≠ dF k
theorem Fans.keep {t t' : TB} {lo hi hi' x x' b n : Nat} {F : Nat → List Nat} {dF : Nat → Nat} (h : Fans t lo hi x b n F dF) (hb : b < lo) (hh : hi ≤ hi') (k : ∀ d, d < hi → (d = b ∨ (lo ≤ d ∧ d ≠ x)) → hv t' d = hv t d) (hx : x' = x ∨ hi ≤ x') (hlo : lo ≤ hi) : Fans t' lo hi' x' b n F dF := by
 refine ⟨(k b (by omega) (.inl rfl)).trans h.row, fun j hj hn => ?_, h.ne⟩
 obtain ⟨h1, h2, h3, h4⟩ := h.at_ j hj hn
 exact ⟨(k _ h3 (.inr ⟨h2, h4⟩)).trans h1, h2, by omega, by omega⟩
/-- Fan k grows. -/
theorem Fans.grow {t t' : TB} {lo hi x b n k i d : Nat} {F : Nat → List Nat} {dF : Nat → Nat} (h : Fans t lo hi x b n F dF) (hk : k < n) (hb : b < lo) (hlo : lo ≤ hi) (hd : hi ≤ d) (hx : x < hi)
   (hrow : hv t' b = some (.row (fansR n (fset F k (F k ++ [i])) (fset dF k d)) true)) (hnew : hv t' d = some (.row (ints (nints (F k ++ [i]))) true)) (hkeep : ∀ e, e < hi → e ≠ b → lo ≤ e → (F k ≠ [] → e ≠ dF k) → e ≠ x → hv t' e = hv t e) :
   Fans t' lo (d + 1) x b n (fset F k (F k ++ [i])) (fset dF k d) := by
 refine ⟨hrow, fun j hj hn => ?_, fun j l hj hl hjn hln hjl => ?_⟩
 · by_cases e : j = k
   · subst e
     simp only [fset, if_pos]
     exact ⟨hnew, by omega, by omega, by omega⟩
   · simp only [fset, if_neg e] at hn ⊢
     obtain ⟨h1, h2, h3, h4⟩ := h.at_ j hj hn
     exact ⟨(hkeep _ h3 (by omega) h2 (fun hkn => h.ne j k hj hk hn hkn e) h4).trans h1, h2, by omega, h4⟩
 · by_cases e : j = k
   · subst e
     have e2 : l ≠ j := fun e' => hjl e'.symm
     simp only [fset, if_neg e2, if_pos] at hln ⊢
     have := (h.at_ l hl hln).2.2.1
     omega
   · by_cases e2 : l = k
     · subst e2
       simp only [fset, if_neg e, if_pos] at hjn ⊢
       have := (h.at_ j hj hjn).2.2.1
       omega
     · simp only [fset, if_neg e, if_neg e2] at hjn hln ⊢
       exact h.ne j l hj hl hjn hln hjl
/-- The ready list. -/
def Rdy (t : TB) (d : Nat) (v : AV) (S : List Nat) : Prop :=
 (v = .nslice ∧ S = []) ∨ ∃ (c : Nat) (r : List AV), v = .slice d 0 S.length c 1 false ∧ hv t d = some (.row r true) ∧ S.length ≤ c ∧ c ≤ r.length ∧ r.take S.length = ints (nints S)
theorem nints_snoc (S : List Nat) (i : Nat) : ints (nints (S ++ [i])) = ints (nints S) ++ [.int .i64 (i : Int)] := by simp [nints, ints, i64]
theorem Rdy.nil {t : TB} {d i : Nat} (h : hv t d = some (.row [.int .i64 (i : Int)] true)) : Rdy t d (.slice d 0 1 1 1 false) ([] ++ [i]) :=
 .inr ⟨1, _, rfl, h, by simp, by simp, rfl⟩
theorem Rdy.full {t : TB} {d i : Nat} {S : List Nat} {r : List AV} (h1 : r.take S.length = ints (nints S)) (h : hv t d = some (.row ((r.drop 0).take (S.length * 1) ++ [.int .i64 (i : Int)]) true)) : Rdy t d (.slice d 0 (S.length + 1) (S.length + 1) 1 false) (S ++ [i]) := by
 rw [Nat.mul_one, List.drop_zero, h1, ← nints_snoc] at h
 exact .inr ⟨S.length + 1, _, by simp, h, by simp, by rw [ints_len, nints_len]; simp, List.take_of_length_le (by rw [ints_len, nints_len]; simp)⟩
theorem Rdy.room {t : TB} {d i c : Nat} {S : List Nat} {r : List AV} (h1 : r.take S.length = ints (nints S)) (hc : S.length + 1 ≤ c) (hr : c ≤ r.length) (h : hv t d = some (.row (splice r (0 + S.length * 1) [.int .i64 (i : Int)]) true)) : Rdy t d (.slice d 0 (S.length + 1) c 1 false) (S ++ [i]) := by
 have e : splice r (0 + S.length * 1) [.int .i64 (i : Int)] = ints (nints (S ++ [i])) ++ r.drop (S.length + 1) := by
   unfold splice
   rw [Nat.zero_add, Nat.mul_one, h1, nints_snoc]
   simp
 rw [e] at h
 refine .inr ⟨c, _, by simp, h, by simp; omega, ?_, ?_⟩
 · rw [List.length_append, ints_len, nints_len, List.length_drop]; simp; omega
 · rw [List.take_append_of_le_length (by rw [ints_len, nints_len]; exact Nat.le_refl _)]
   exact List.take_of_length_le (by rw [ints_len, nints_len]; exact Nat.le_refl _)
theorem Rdy.last {t : TB} {d : Nat} {v : AV} {S : List Nat} (h : Rdy t d v S) (hn : 0 < S.length) : ∃ (S' : List Nat) (a c : Nat) (r : List AV), S = S' ++ [a] ∧ v = .slice d 0 S.length c 1 false ∧ hv t d = some (.row r true) ∧ S.length ≤ c ∧ c ≤ r.length ∧ r[S'.length]? = some (.int .i64 (a : Int)) ∧ Rdy t d (.slice d 0 S'.length c 1 false) S' := by
 rcases h with ⟨-, rfl⟩ | ⟨c, r, h1, h2, h3, h4, h5⟩
 · simp at hn
 · have hne : S ≠ [] := by intro e; subst e; simp at hn
   have e := List.dropLast_concat_getLast hne
   have hl : S.length = S.dropLast.length + 1 := by rw [List.length_dropLast]; omega
   have h6 : r.take S.length = ints (nints (S.dropLast ++ [S.getLast hne])) := by rw [e]; exact h5
   rw [nints_snoc, hl] at h6
   refine ⟨S.dropLast, S.getLast hne, c, r, e.symm, h1, h2, h3, h4, ?_, .inr ⟨c, r, rfl, h2, by omega, h4, ?_⟩⟩
   · have h7 := congrArg (fun m => m[S.dropLast.length]?) h6
     simp only [List.getElem?_take] at h7
     rw [if_pos (by omega)] at h7
     rw [h7, List.getElem?_append_right (by rw [ints_len, nints_len]; exact Nat.le_refl _), ints_len, nints_len]
     simp
   · have h7 := congrArg (List.take S.dropLast.length) h6
     rw [List.take_take, Nat.min_eq_left (by omega), List.take_append_of_le_length (by rw [ints_len, nints_len]; exact Nat.le_refl _), List.take_of_length_le (l := ints _) (by rw [ints_len, nints_len]; exact Nat.le_refl _)] at h7
     exact h7
theorem Rdy.keep {t t' : TB} {d : Nat} {v : AV} {S : List Nat} (h : Rdy t d v S) (k : hv t' d = hv t d) : Rdy t' d v S := by
 rcases h with h | ⟨c, r, h1, h2, h3⟩
 · exact .inl h
 · exact .inr ⟨c, r, h1, k.trans h2, h3⟩
theorem o_len_R {T : TA} {t t0 : TB} {nx d : Nat} {v : AV} {S : List Nat} {x : Opd} (h : Rdy t0 d v S) (hx : x.ev T = some v) : (IOp.len .slc x).run T t nx = .ok (.int .i64 (S.length : Int)) t nx := by
 rcases h with ⟨rfl, rfl⟩ | ⟨c, r, rfl, -⟩
 · exact o_len_nslice hx
 · exact o_len_slice hx
def eOf (ns : List Nd) (i : Nat) : List Nat := match ns[i]? with | some x => (hangs x).map Int.toNat | none => []
structure LvN (ns : List Nd) : Prop where
 few : ns.length ≤ 4096
 hang : ∀ (i : Nat) (x : Nd), ns[i]? = some x → (∀ k ∈ hangs x, 0 ≤ k ∧ k < (i : Int)) ∧ x.ins.length ≤ 3 ∧ (x.kind = 7 → 1 ≤ x.ins.length)
theorem hangs_len (x : Nd) : (hangs x).length ≤ x.ins.length := by
 unfold hangs
 split
 · simp
 · split
   · rw [List.length_take]; omega
   · exact Nat.le_refl _
theorem eOf_at {ns : List Nd} {i : Nat} {x : Nd} (h : ns[i]? = some x) : eOf ns i = (hangs x).map Int.toNat := by unfold eOf; rw [h]
structure P1 (ns : List Nd) (i m : Nat) (F : Nat → List Nat) : Prop where
 cnt : ∀ k, k < ns.length → ∀ j, (F k).count j = if j < i then (eOf ns j).count k else if j = i then ((eOf ns i).take m).count k else 0
 len : ∀ k, k < ns.length → (F k).length ≤ 3 * i + m
 lt : ∀ k, k < ns.length → ∀ a ∈ F k, a < ns.length
theorem P1.zero (ns : List Nd) : P1 ns 0 0 (fun _ => []) := ⟨fun k hk j => by simp, fun k hk => by simp, fun k hk a ha => by cases ha⟩
theorem P1.next {ns : List Nd} {i m : Nat} {F : Nat → List Nat} (h : P1 ns i m F) (hm : (eOf ns i).length ≤ m) (h3 : m ≤ 3) : P1 ns (i + 1) 0 F := by
 refine ⟨fun k hk j => ?_, fun k hk => by have := h.len k hk; omega, h.lt⟩
 rw [h.cnt k hk j]
 by_cases e : j < i
 · rw [if_pos e, if_pos (by omega)]
 · rw [if_neg e]
   by_cases e2 : j = i
   · subst e2; rw [if_pos rfl, if_pos (by omega), List.take_of_length_le hm]
   · rw [if_neg e2, if_neg (by omega)]
     split <;> simp
theorem P1.step {ns : List Nd} {i m k0 : Nat} {F : Nat → List Nat} (h : P1 ns i m F) (hi : i < ns.length) (hk : (eOf ns i)[m]? = some k0) (h0 : k0 < ns.length) : P1 ns i (m + 1) (fset F k0 (F k0 ++ [i])) := by
 have ht : (eOf ns i).take (m + 1) = (eOf ns i).take m ++ [k0] := by rw [List.take_succ, hk]; rfl
 refine ⟨fun k hkn j => ?_, fun k hkn => ?_, fun k hkn a ha => ?_⟩
 · have hc := h.cnt k hkn j
   by_cases e : k = k0
   · subst e
     simp only [fset, if_pos]
     rw [List.count_append, hc, ht, List.count_append]
     by_cases e1 : j < i
     · rw [if_pos e1, if_pos e1, List.count_eq_zero.2 (show j ∉ [i] by simp; omega)]; rfl
     · rw [if_neg e1, if_neg e1]
       by_cases e2 : j = i
       · subst e2; simp
       · rw [if_neg e2, if_neg e2, List.count_eq_zero.2 (show j ∉ [i] by simp; omega)]
   · simp only [fset, if_neg e]
     rw [hc, ht, List.count_append, List.count_eq_zero.2 (show k ∉ [k0] by simp [e])]
     simp
 · have := h.len k hkn
   by_cases e : k = k0
   · subst e; simp only [fset, if_pos]; rw [List.length_append]; simp; omega
   · simp only [fset, if_neg e]; omega
 · by_cases e : k = k0
   · subst e
     simp only [fset, if_pos] at ha
     rcases List.mem_append.1 ha with ha | ha
     · exact h.lt k hkn a ha
     · simp at ha; omega
   · simp only [fset, if_neg e] at ha
     exact h.lt k hkn a ha
/-- Waits and ready nodes behind the first i. -/
structure Q1 (ns : List Nd) (i : Nat) (Wt : List Int) (S : List Nat) : Prop where
 wl : Wt.length = ns.length
 w : ∀ j, j < ns.length → Wt[j]? = some (if j < i then ((eOf ns j).length : Int) else 0)
 dup : S.Nodup
 rdy : ∀ a, a ∈ S ↔ a < i ∧ eOf ns a = []
theorem Q1.zero (ns : List Nd) : Q1 ns 0 (List.replicate ns.length 0) [] := ⟨by simp, fun j hj => by simp [hj], by simp, fun a => by simp⟩
theorem Q1.next {ns : List Nd} {i : Nat} {Wt : List Int} {S : List Nat} (h : Q1 ns i Wt S) (hi : i < ns.length) :
   (eOf ns i = [] → Q1 ns (i + 1) (Wt.set i ((eOf ns i).length : Int)) (S ++ [i])) ∧ (eOf ns i ≠ [] → Q1 ns (i + 1) (Wt.set i ((eOf ns i).length : Int)) S) := by
 have hw : ∀ j, j < ns.length → (Wt.set i ((eOf ns i).length : Int))[j]? = some (if j < i + 1 then ((eOf ns j).length : Int) else 0) := by
   intro j hj
   rw [List.getElem?_set]
   by_cases e : i = j
   · subst e; rw [if_pos rfl, if_pos (by rw [h.wl]; exact hi), if_pos (by omega)]
   · rw [if_neg e, h.w j hj]
     by_cases e2 : j < i
     · rw [if_pos e2, if_pos (by omega)]
     · rw [if_neg e2, if_neg (by omega)]
 refine ⟨fun h0 => ⟨by rw [List.length_set]; exact h.wl, hw, ?_, fun a => ?_⟩, fun h0 => ⟨by rw [List.length_set]; exact h.wl, hw, h.dup, fun a => ?_⟩⟩
 · rw [List.nodup_append]
   refine ⟨h.dup, by simp, fun a ha b hb => ?_⟩
   simp at hb; subst hb
   intro e; subst e
   have := (h.rdy a).1 ha
   omega
 · rw [List.mem_append, h.rdy a, List.mem_singleton]
   constructor
   · rintro (h1 | rfl)
     · exact ⟨by omega, h1.2⟩
     · exact ⟨by omega, h0⟩
   · rintro ⟨h1, h2⟩
     by_cases e : a = i
     · exact .inr e
     · exact .inl ⟨by omega, h2⟩
 · rw [h.rdy a]
   refine ⟨fun h1 => ⟨by omega, h1.2⟩, fun h1 => ⟨?_, h1.2⟩⟩
   have : a ≠ i := by intro e; subst e; exact h0 h1.2
   omega
/-- The second part can begin. -/
theorem start2 {ns : List Nd} {F : Nat → List Nat} {Wt : List Int} {S : List Nat} (h : P1 ns ns.length 0 F) (q : Q1 ns ns.length Wt S) : Lv (eOf ns) ns.length F [] S Wt [] ∧ ∀ k, k < ns.length → ∀ i, i < ns.length → (F k).count i = (eOf ns i).count k := by
 refine ⟨⟨by simpa using q.dup, fun a ha => ?_, q.wl, fun i hi => ?_, fun i hi => ?_⟩, fun k hk i hi => ?_⟩
 · rw [List.append_nil, q.rdy a] at ha; exact ha.1
 · rw [q.w i hi, if_pos hi]
   have : left (eOf ns) [] i = (eOf ns i).length := by unfold left; simp
   rw [this]; simp
 · rw [List.append_nil, q.rdy i]
   have : left (eOf ns) [] i = (eOf ns i).length := by unfold left; simp
   rw [this]
   simp [hi]
 · rw [h.cnt k hk i, if_pos hi]
theorem o_iaddr1 {T : TA} {t : TB} {nx : Nat} {x y : Opd} {b n c i : Nat} {ex : Bool} {k : IntKind} (hx : x.ev T = some (.slice b 0 n c 1 ex)) (hy : y.ev T = some (.int k (i : Int))) (hi : i < n) : (IOp.iaddr 1 x y).run T t nx = .ok (.ptr b i) t nx := by
 rw [o_iaddr hx hy hi, Nat.zero_add, Nat.mul_one]
theorem fanV_nil {l : List Nat} (h : l = []) (d : Nat) : fanV l d = .nslice := by subst h; rfl
theorem fanV_ne {l : List Nat} (h : l ≠ []) (d : Nat) : fanV l d = .slice d 0 l.length l.length 1 false := by
 cases l with
 | nil => exact absurd rfl h
 | cons a l => rfl
theorem fanV_snoc (l : List Nat) (i d : Nat) : fanV (l ++ [i]) d = .slice d 0 (l.length + 1) (l.length + 1) 1 false := by
 rw [fanV_ne (by simp)]; simp
theorem Q1.few {ns : List Nd} {i : Nat} {Wt : List Int} {S : List Nat} (h : Q1 ns i Wt S) : S.length ≤ i := nodup_len i S h.dup (fun a ha => ((h.rdy a).1 ha).1)
def mxI (a b : Int) : Int := if a < b then b else a
theorem mxI_or (a b : Int) : mxI a b = a ∨ mxI a b = b := by unfold mxI; split <;> simp
theorem o_maxD {T : TA} {t : TB} {nx : Nat} {x y : Opd} {a b : Int} (hx : x.ev T = some (.int .i64 a)) (hy : y.ev T = some (.int .i64 b)) : (IOp.mm true x y).run T t nx = .ok (.int .i64 (mxI a b)) t nx := by
 simp only [IOp.run, hx, hy, iLt_eq]
 unfold mxI
 by_cases h : a < b
 · rw [decide_eq_true h, if_pos h]
 · rw [decide_eq_false h, if_neg h]
theorem set_bd {L : List Int} {a : Nat} {v B B' : Int} (h : ∀ x ∈ L, 0 ≤ x ∧ x ≤ B) (hb : B ≤ B') (hv : 0 ≤ v ∧ v ≤ B') : ∀ x ∈ L.set a v, 0 ≤ x ∧ x ≤ B' := by
 intro x hx
 rcases List.mem_or_eq_of_mem_set hx with hx | rfl
 · have := h x hx; omega
 · exact hv
theorem eOf_lt {ns : List Nd} (hG : LvN ns) {i k : Nat} (hi : i < ns.length) (hk : k ∈ eOf ns i) : k < i := by
 obtain ⟨x, hx⟩ := some_at (l := ns) (i := i) hi
 rw [eOf_at hx, List.mem_map] at hk
 obtain ⟨a, ha, rfl⟩ := hk
 have := (hG.hang i x hx).1 a ha
 omega
theorem o_len_fan {T : TA} {t : TB} {nx d : Nat} {l : List Nat} {x : Opd} (hx : x.ev T = some (fanV l d)) : (IOp.len .slc x).run T t nx = .ok (.int .i64 (l.length : Int)) t nx := by
 by_cases h : l = []
 · rw [fanV_nil h] at hx; rw [h]; exact o_len_nslice hx
 · rw [fanV_ne h] at hx; exact o_len_slice hx
theorem drop_at {l : List Nat} {m b : Nat} (h : l[m]? = some b) : l.drop m = b :: l.drop (m + 1) := by
 obtain ⟨hi, rfl⟩ := List.getElem?_eq_some_iff.1 h
 exact List.drop_eq_getElem_cons hi
theorem u_bound {ns : List Nd} (hG : LvN ns) {D rest : List Nat} {b : Nat} {u : Int} (hb : b < ns.length) (hu : u ≤ Int.ofNat (left (eOf ns) D b + rest.count b)) (hr : rest.length ≤ 12288) : u < 100000000 := by
 obtain ⟨x, hx⟩ := some_at (l := ns) (i := b) hb
 have h1 : left (eOf ns) D b ≤ (eOf ns b).length := List.countP_le_length
 have h2 : (eOf ns b).length = (hangs x).length := by rw [eOf_at hx]; simp
 have h3 := hangs_len x
 have h4 := (hG.hang b x hx).2.1
 have h5 : rest.count b ≤ rest.length := List.count_le_length
 have h6 : u ≤ ((left (eOf ns) D b + rest.count b : Nat) : Int) := hu
 omega
theorem all_in {E : Nat → List Nat} {n : Nat} {D : List Nat} (hE : ∀ i, i < n → ∀ k ∈ E i, k < i) (h : ∀ i, i < n → (i ∈ D ↔ left E D i = 0)) (i : Nat) : i < n → i ∈ D := by
 induction i using Nat.strongRecOn with
 | ind i ih =>
   intro hi
   exact (h i hi).2 (left_zero (fun k hk => ih k (hE i hi k hk) (by have := hE i hi k hk; omega)))
theorem Lv.notin {E : Nat → List Nat} {n : Nat} {F : Nat → List Nat} {D S : List Nat} {Wt : List Int} {rest : List Nat} {b : Nat} (h : Lv E n F D S Wt (b :: rest)) (hb : b < n) : b ∉ D := fun hm => by
 have := (h.zero b hb).1 (by simp [hm])
 simp at this
def LMono (F : Nat → List Nat) (D : List Nat) (L : List Int) : Prop := ∀ (k : Nat), k ∈ D → ∀ (u : Nat), u ∈ F k → ∀ x y : Int, L[k]? = some x → L[u]? = some y → x < y
def LMin (F : Nat → List Nat) (D : List Nat) (a m : Nat) (L : List Int) : Prop := LMono F D L ∧ ∀ (u : Nat), u ∈ (F a).take m → ∀ x y : Int, L[a]? = some x → L[u]? = some y → x < y
theorem LMin.start {F : Nat → List Nat} {D : List Nat} {a : Nat} {L : List Int} (h : LMono F D L) : LMin F D a 0 L := ⟨h, fun u hu => by simp at hu⟩
theorem LMin.step {F : Nat → List Nat} {D : List Nat} {a m b : Nat} {L : List Int} {la lb : Int} (h : LMin F D a m L) (hb : (F a)[m]? = some b) (hn : b ∉ a :: D) (hla : L[a]? = some la) (hlb : L[b]? = some lb) : LMin F D a (m + 1) (L.set b (mxI lb (la + 1))) := by
 have hm : lb ≤ mxI lb (la + 1) ∧ la < mxI lb (la + 1) := by unfold mxI; split <;> omega
 have hbl : b < L.length := (List.getElem?_eq_some_iff.1 hlb).1
 have up : ∀ k : Nat, k ∈ a :: D → ∀ u : Nat, (∀ x y : Int, L[k]? = some x → L[u]? = some y → x < y) → ∀ x y : Int, (L.set b (mxI lb (la + 1)))[k]? = some x → (L.set b (mxI lb (la + 1)))[u]? = some y → x < y := by
   intro k hk u hu x y h1 h2
   rw [List.getElem?_set_ne (by rintro rfl; exact hn hk)] at h1
   by_cases e : b = u
   · subst e
     rw [List.getElem?_set_self hbl] at h2
     cases h2
     have := hu x lb h1 hlb
     omega
   · rw [List.getElem?_set_ne e] at h2
     exact hu x y h1 h2
 refine ⟨fun k hk u hu => up k (by simp [hk]) u (h.1 k hk u hu), fun u hu => ?_⟩
 rw [List.take_succ, hb] at hu
 rcases List.mem_append.1 hu with hu | hu
 · exact up a (by simp) u (h.2 u hu)
 · simp at hu
   subst hu
   intro x y h1 h2
   rw [List.getElem?_set_ne (by rintro rfl; exact hn (by simp)), hla] at h1
   rw [List.getElem?_set_self hbl] at h2
   cases h1; cases h2
   exact hm.2
theorem LMin.done {F : Nat → List Nat} {D : List Nat} {a m : Nat} {L : List Int} (h : LMin F D a m L) (hm : (F a).length ≤ m) : LMono F (a :: D) L := by
 intro k hk
 rcases List.mem_cons.1 hk with rfl | hk
 · have := h.2; rw [List.take_of_length_le hm] at this; exact this
 · exact h.1 k hk
/-- Levels: what hangs on a node stands higher. -/
def LvUp (ns : List Nd) (L : List Int) : Prop := L.length = ns.length ∧ ∀ (i : Nat) (x : Nd), ns[i]? = some x → ∀ k ∈ hangs x, ∀ a b : Int, L[k.toNat]? = some a → L[i]? = some b → a < b
theorem LvUp.of {ns : List Nd} {F : Nat → List Nat} {D : List Nat} {L : List Int} (hl : L.length = ns.length) (h : LMono F D L) (hall : ∀ k, k < ns.length → k ∈ D) (hc : ∀ k, k < ns.length → ∀ i, i < ns.length → (F k).count i = (eOf ns i).count k) (h0 : ∀ (i : Nat) (x : Nd), ns[i]? = some x → ∀ k ∈ hangs x, 0 ≤ k ∧ k < (i : Int)) : LvUp ns L := by
 refine ⟨hl, fun i x hx k hk a b ha hb => ?_⟩
 have hi : i < ns.length := (List.getElem?_eq_some_iff.1 hx).1
 have hk0 := h0 i x hx k hk
 have he : k.toNat ∈ eOf ns i := by rw [eOf_at hx, List.mem_map]; exact ⟨k, hk, rfl⟩
 have hf : i ∈ F k.toNat := by
   rw [← List.count_pos_iff, hc k.toNat (by omega) i hi]
   exact List.count_pos_iff.2 he
 exact h k.toNat (hall _ (by omega)) i hf a b ha hb
theorem hangs_ok {t : TB} {nx bd : Nat} (x : Nd) (iv : AV) (hI : RowI t bd iv x.ins) (hb : bd ≤ nx) (h7 : x.kind = 7 → 1 ≤ x.ins.length) : WF tb 158 [.agg (ncells x iv)] t nx (fun v t' nx' => ∃ u, u = v ∧ RowI t' bd u (hangs x) ∧ nx ≤ nx' ∧ Keep t t' nx (fun _ => False)) := by
 have hic := hI.cell
 unfold ncells
 refine k_fun hangs__tab rfl ?_
 unfold hangs__c
 change WC _ _ (Bt.put (some _) Bt.e 0) _ _ _
 refine k_seq (k_reg (r_heap (o_box (eV get_same)) rfl (fun t1 (hh2 : hv t1 = upd (hv t) nx (some (.row [(.int .i64 x.kind), (.int .i64 x.op), (.int .i64 x.wide), iv, (.str x.value), (.int .i64 x.hi), (.int .i64 x.lo), (.int .i64 x.time)] true))) => rO (o_mov ev_c) (r_nil (k_seq (k_seq (k_reg (rO (o_faddr (off := 0) (eV (z1 ds))) (rO (o_load eZ (lS hh2) rfl) (r_nil (k_block (k_seq (k_reg (rO (o_eql eZ ev_c) (m1 ds (r_nil ?_))))))))))))))))
 refine k_if eZ (fun hc3 => ?_) (fun hc3 => ?_)
 · refine k_seq (k_reg (rO (o_mov ev_c) (r_nil (k_ret ?_))))
   exact ⟨_, ans_tmp ds, _, rfl, .inl ⟨rfl, by unfold hangs; rw [if_pos (by assumption)]⟩, by omega, kU kR hh2⟩
 refine k_seq (k_reg (rO (o_eql (eV (z2 ds)) ev_c) (m1 ds (r_nil ?_))))
 refine k_if eZ (fun hc4 => ?_) (fun hc4 => ?_)
 · refine k_seq ?_
   rcases hI with ⟨-, h0⟩ | ⟨di, oi, ci, exi, wri, ri, hie, hdi, hri, hrli, hsegi⟩
   · exfalso; have h_ := congrArg List.length h0; simp only [List.length_nil] at h_; have := h7 (by assumption); omega
   refine k_reg (rO (o_faddr (off := 3) (eV (z1 (z2 (z4 ds))))) (rO (o_load eZ (lS hh2) rfl) ?_))
   refine rO (o_cslice_lo eZ hie (by have := h7 (by assumption); omega)) ?_
   refine m1 ds (r_nil (k_ret ?_))
   exact ⟨_, ans_tmp ds, _, rfl, (by unfold hangs; rw [if_neg (by assumption), if_pos (by assumption)]; exact RowI.keep (rowI_one hsegi hdi hri hrli (h7 (by assumption))) (fun d hd hw => (show Keep t t1 nx (fun _ => False) from kU kR hh2) d (by omega) hw) (Nat.le_refl bd)), by omega, kU kR hh2⟩
 refine k_skip (k_seq (k_reg (rO (o_faddr (off := 3) (eV (z1 (z2 (z4 ds))))) (rO (o_load eZ (lS hh2) rfl) (m1 ds (r_nil (k_ret ?_)))))))
 exact ⟨_, ans_tmp ds, _, rfl, (by unfold hangs; rw [if_neg (by assumption), if_neg (by assumption)]; exact hI.keep (fun d hd hw => (show Keep t t1 nx (fun _ => False) from kU kR hh2) d (by omega) hw) (Nat.le_refl bd)), by omega, kU kR hh2⟩
end
section
variable [Env]
set_option maxHeartbeats 8000000 in
theorem levels_ok {t : TB} {nx bd : Nat} {vn vt : AV} {p : Int} {ns : List Nd} (hN : RowN t bd vn ns) (hct : isCell vt = true) (hb : bd ≤ nx) (hG : LvN ns) : WF tb 106 [.agg [vn, vt, .int .i64 p]] t nx (fun v t' nx' => ∃ (d : Nat) (L : List Int) (u2 : AV) (q : Int), v = .tup [.slice d 0 ns.length ns.length 1 true, u2, .int .i64 q] ∧ nx ≤ d ∧ d < nx' ∧ hv t' d = some (.row (ints L) true) ∧ LvUp ns L ∧ (ns.length : Int) ≤ q ∧ nx ≤ nx' ∧ Keep t t' nx (fun _ => False)) := by
 have hcn := hN.cell
 have hfew := hG.few
 refine k_fun levels_tab rfl ?_
 unfold levels_c
 change WC _ _ (Bt.put (some _) Bt.e 0) _ _ _
 refine k_seq (k_reg (r_heap (o_box (eV get_same)) rfl (fun t1 (hh2 : hv t1 = upd (hv t) nx (some (.row [vn, vt, (.int .i64 p)] true))) => rO (o_mov ev_c) (rO (o_mov ev_c) (rO (o_mov ev_c) (r_nil (k_seq (k_reg (rO (o_faddr (off := 0) (eV (z1 (z2 ds)))) (rO (o_load eZ (lS hh2) rfl) (rO (o_len_N hN eZ) (r_heap (o_mkrow (w := ns.length) (v := .int .i64 0) eZ eZ (by omega)) rfl (fun t3 (hh4 : hv t3 = upd (hv t1) (nx + 1) (some (.row (List.replicate ns.length (.int .i64 0)) true))) => m1 ds (r_nil (k_seq (k_reg (rO (o_faddr (off := 0) (eV (z8 ds))) (rO (o_load eZ (lN hh4 (lS hh2)) rfl) (rO (o_len_N hN eZ) (r_heap (o_mkrow (w := ns.length) (v := .int .i64 0) eZ eZ (by omega)) rfl (fun t5 (hh6 : hv t5 = upd (hv t3) ((nx + 1) + 1) (some (.row (List.replicate ns.length (.int .i64 0)) true))) => m1 ds (r_nil (k_seq (k_reg (rO (o_faddr (off := 0) (eV (z1 (z4 (z8 ds))))) (rO (o_load eZ (lN hh6 (lN hh4 (lS hh2))) rfl) (rO (o_len_N hN eZ) (r_heap (o_mkrow (w := ns.length) (v := .bool false) eZ eZ (by omega)) rfl (fun t7 (hh8 : hv t7 = upd (hv t5) (((nx + 1) + 1) + 1) (some (.row (List.replicate ns.length (.bool false)) true))) => m1 ds (r_nil (k_seq (k_reg (rO (o_faddr (off := 0) (eV (z2 (z16 ds)))) (rO (o_load eZ (lN hh8 (lN hh6 (lN hh4 (lS hh2)))) rfl) ?_))))))))))))))))))))))))))))))))))
 refine rO (o_len_N hN eZ) (r_heap (o_mkrow (w := ns.length) (v := .nslice) eZ eZ (by omega)) rfl (fun t9 (hh10 : hv t9 = upd (hv t7) ((((nx + 1) + 1) + 1) + 1) (some (.row (List.replicate ns.length (.nslice)) true))) => m1 ds (r_nil (k_seq (k_reg (rO (o_mov ev_c) (r_nil (k_seq (k_seq (k_reg (rO (o_faddr (off := 0) (eV (z8 (z16 ds)))) (rO (o_load eZ (lN hh10 (lN hh8 (lN hh6 (lN hh4 (lS hh2))))) rfl) (rO (o_len_N hN eZ) (rO (o_mov ev_c) (r_nil (k_block ?_))))))))))))))))
 have hfr : List.replicate ns.length AV.nslice = fansR ns.length (fun _ => []) (fun _ => 0) := by unfold fansR fanV; rw [List.map_const', List.length_range]
 refine k_loop (fun mm Tv tv nv => ∃ (i : Nat) (F : Nat → List Nat) (dF : Nat → Nat) (Wt : List Int) (S : List Nat) (v9 : AV) (d9 : Nat), i ≤ ns.length ∧ P1 ns i 0 F ∧ Q1 ns i Wt S ∧ Fans tv (((((nx + 1) + 1) + 1) + 1) + 1) nv d9 ((((nx + 1) + 1) + 1) + 1) ns.length F dF ∧ Rdy tv d9 v9 S ∧ (v9 = .nslice ∨ (((((nx + 1) + 1) + 1) + 1) + 1) ≤ d9) ∧ (d9 = nx ∨ (((((nx + 1) + 1) + 1) + 1) + 1) ≤ d9) ∧ d9 < nv ∧ (hv tv nx = some (.row [vn, vt, .int .i64 p] true) ∧ hv tv (nx + 1) = some (.row (List.replicate ns.length (AV.int .i64 0)) true) ∧ hv tv ((nx + 1) + 1) = some (.row (ints Wt) true) ∧ hv tv (((nx + 1) + 1) + 1) = some (.row (List.replicate ns.length (AV.bool false)) true)) ∧ (Tv.get 1 = some (.ptr nx 0) ∧ Tv.get 5 = some (.slice (nx + 1) 0 ns.length ns.length 1 true) ∧ Tv.get 6 = some (.slice ((nx + 1) + 1) 0 ns.length ns.length 1 true) ∧ Tv.get 7 = some (.slice (((nx + 1) + 1) + 1) 0 ns.length ns.length 1 true) ∧ Tv.get 8 = some (.slice ((((nx + 1) + 1) + 1) + 1) 0 ns.length ns.length 1 true) ∧ Tv.get 9 = some v9 ∧ Tv.get 36 = some vn ∧ Tv.get 37 = some (.int .i64 ((ns.length : Nat) : Int)) ∧ Tv.get 38 = some (.int .i64 ((i : Nat) : Int))) ∧ (((((nx + 1) + 1) + 1) + 1) + 1) ≤ nv ∧ Keep t tv nx (fun _ => False) ∧ mm + i = ns.length) (fun mm Tv tv nv hI => ?_) (ns.length) ⟨0, fun _ => [], fun _ => 0, List.replicate ns.length 0, [], .nslice, nx, by omega, P1.zero ns, Q1.zero ns, ⟨by rw [← hfr]; exact (lS hh10), fun k _ h => absurd rfl h, fun j k _ _ h => absurd rfl h⟩, .inl ⟨rfl, rfl⟩, .inl rfl, by omega, by omega, ⟨(lN hh10 (lN hh8 (lN hh6 (lN hh4 (lS hh2))))), (lN hh10 (lN hh8 (lN hh6 (lS hh4)))), (by unfold ints; rw [List.map_replicate]; exact (lN hh10 (lN hh8 (lS hh6)))), (lN hh10 (lS hh8))⟩, ⟨(z4 (z8 (z16 ds))), (z4 (z16 ds)), (z1 (z2 (z4 (z8 ds)))), (z2 (z8 ds)), (z1 (z4 ds)), (z4 ds), (z2 ds), (z1 ds), ds⟩, by omega, kU (kU (kU (kU (kU kR hh2) hh4) hh6) hh8) hh10, by omega⟩
 obtain ⟨i, F, dF, Wt, S, v9, d9, hi, hP, hQ, hfan, hrd, hv9, hd9, hd9b, ⟨hr0, hr1, hr2, hr3⟩, ⟨q1, q5, q6, q7, q8, q9, q36, q37, q38⟩, hnv, hkp, hmm⟩ := hI
 refine k_seq (k_reg (rO (o_lss (eV q38) (eV q37)) (r_nil (k_seq ?_))))
 refine k_if eZ (fun hc11 => ?_) (fun hc11 => ?_)
 · refine k_skip (k_seq (k_block (k_seq ?_)))
   rcases hN with ⟨-, h0⟩ | ⟨dN, on, cn, exn, wrn, rn, ivs, hne, hdn, hrn, hrln, hsegn, hivl, hivr⟩
   · have h_ := congrArg List.length h0; simp only [List.length_nil] at h_; omega
   have hN : RowN t bd vn ns := .inr ⟨dN, on, cn, exn, wrn, rn, ivs, hne, hdn, hrn, hrln, hsegn, hivl, hivr⟩
   obtain ⟨x, hx⟩ := some_at (l := ns) (i := i) (by omega)
   obtain ⟨iv, hiv⟩ := some_at (l := ivs) (i := i) (by omega)
   have hI := hivr i x iv hx hiv
   have hic := hI.cell
   have hgx := hG.hang i x hx
   have hrn1 := hkp.look (by omega) id hrn
   have hgl := hangs_len x
   have hel : (eOf ns i).length = (hangs x).length := by rw [eOf_at hx]; simp
   have hwl := hQ.wl
   refine k_reg (m1 (z1 q38) (rO (o_iaddrE (i := i) (eV (z2 q36)) hne (eV (z2 q38)) (by omega)) (rO (o_loadA (n := 8) eZ hrn1 (by omega) (nodeN_all hsegn hivl hx hiv)) (r_heap (o_alloc) rfl (fun t12 (hh13 : hv t12 = upd (hv tv) nv (some (.row [(.int .i64 0), (.int .i64 0), (.int .i64 0), .nslice, (.str []), (.int .i64 0), (.int .i64 0), (.int .i64 0)] true))) => m1 (z1 (z2 ds)) (r_heap (o_store (n := 8) (eV (z1 ds)) (eV (z2 ds)) (lS hh13) rfl (ncells_cell x hic) (leb rfl)) rfl (fun t14 (hh15 : hv t14 = upd (hv t12) nv (some (.row [(.int .i64 x.kind), (.int .i64 x.op), (.int .i64 x.wide), iv, (.str x.value), (.int .i64 x.hi), (.int .i64 x.lo), (.int .i64 x.time)] true))) => r_nil (k_seq (k_reg (rO (o_loadA (n := 8) (eV (z2 ds)) (lS hh15) (leb rfl) rfl) (r_call (w_callF (evs_cons eZ evs_nil)) rfl (WF.mono (hangs_ok x iv (hI.keep (fun d hd hw => (kU (kU (hkp) hh13) hh15) d (by omega) hw) (Nat.le_refl bd)) (by omega) (fun e => hgx.2.2 e)) ?_))))))))))))
   rintro _ t16 n17 ⟨hgv, rfl, hR, hn_h, hk_h⟩
   refine m1 ds (r_nil (k_seq (k_reg (m1 (z2 (z8 q6)) (m1 (z1 (z4 ds)) (m1 (z2 ds) (rO (o_len_I hR eZ) (rO (o_iaddr1 (i := i) (eV (z1 (z2 ds))) (eV (z2 ds)) (by omega)) (r_heap (o_storeI (l := Wt) eZ (eV (z1 ds)) (Keep.look hk_h (by omega) id (lN hh15 (lN hh13 hr2))) (by omega)) rfl (fun t18 (hh19 : hv t18 = upd (hv t16) ((nx + 1) + 1) (some (.row (ints (Wt.set i (((hangs x).length : Nat) : Int))) true))) => r_nil (k_seq (k_seq (k_reg (m1 (z2 (z4 ds)) (rO (o_len_I hR eZ) (rO (o_mov ev_c) (r_nil (k_block (k_loop (fun mm Tu tu nu => ∃ (m : Nat) (F : Nat → List Nat) (dF : Nat → Nat), m ≤ (hangs x).length ∧ P1 ns i m F ∧ Fans tu (((((nx + 1) + 1) + 1) + 1) + 1) nu d9 ((((nx + 1) + 1) + 1) + 1) ns.length F dF ∧ Rdy tu d9 v9 S ∧ RowI tu bd hgv (hangs x) ∧ (hv tu nx = some (.row [vn, vt, .int .i64 p] true) ∧ hv tu (nx + 1) = some (.row (List.replicate ns.length (AV.int .i64 0)) true) ∧ hv tu ((nx + 1) + 1) = some (.row (ints (Wt.set i (((hangs x).length : Nat) : Int))) true) ∧ hv tu (((nx + 1) + 1) + 1) = some (.row (List.replicate ns.length (AV.bool false)) true)) ∧ (Tu.get 1 = some (.ptr nx 0) ∧ Tu.get 5 = some (.slice (nx + 1) 0 ns.length ns.length 1 true) ∧ Tu.get 6 = some (.slice ((nx + 1) + 1) 0 ns.length ns.length 1 true) ∧ Tu.get 7 = some (.slice (((nx + 1) + 1) + 1) 0 ns.length ns.length 1 true) ∧ Tu.get 8 = some (.slice ((((nx + 1) + 1) + 1) + 1) 0 ns.length ns.length 1 true) ∧ Tu.get 9 = some v9 ∧ Tu.get 36 = some vn ∧ Tu.get 37 = some (.int .i64 ((ns.length : Nat) : Int)) ∧ Tu.get 38 = some (.int .i64 ((i : Nat) : Int)) ∧ Tu.get 10 = some (.int .i64 ((i : Nat) : Int)) ∧ Tu.get 12 = some hgv ∧ Tu.get 50 = some hgv ∧ Tu.get 51 = some (.int .i64 (((hangs x).length : Nat) : Int)) ∧ Tu.get 52 = some (.int .i64 ((m : Nat) : Int))) ∧ nv + 1 ≤ nu ∧ Keep t tu nx (fun _ => False) ∧ mm + m = (hangs x).length) (fun mm Tu tu nu hI => ?_) ((hangs x).length) ⟨0, F, dF, by omega, hP, hfan.keep (by omega) (by omega) (fun d hd hq => (((((congrFun hh19 d).trans (upd_ne _ _ _ _ (by omega))).trans (hk_h _ (by omega) id)).trans ((congrFun hh15 d).trans (upd_ne _ _ _ _ (by omega)))).trans ((congrFun hh13 d).trans (upd_ne _ _ _ _ (by omega))))) (.inl rfl) (by omega), hrd.keep (((((congrFun hh19 d9).trans (upd_ne _ _ _ _ (by omega))).trans (hk_h _ (by omega) id)).trans ((congrFun hh15 d9).trans (upd_ne _ _ _ _ (by omega)))).trans ((congrFun hh13 d9).trans (upd_ne _ _ _ _ (by omega)))), hR.keep (fun d hd hw => ((congrFun hh19 d).trans (upd_ne _ _ _ _ (by omega)))) (Nat.le_refl bd), ⟨(lN hh19 (Keep.look hk_h (by omega) id (lN hh15 (lN hh13 hr0)))), (lN hh19 (Keep.look hk_h (by omega) id (lN hh15 (lN hh13 hr1)))), (lS hh19), (lN hh19 (Keep.look hk_h (by omega) id (lN hh15 (lN hh13 hr3))))⟩, ⟨(z1 (z2 (z16 q1))), (z1 (z2 (z16 q5))), (z1 (z2 (z16 q6))), (z1 (z2 (z16 q7))), (z1 (z2 (z16 q8))), (z1 (z2 (z16 q9))), (z1 (z2 (z16 q36))), (z1 (z2 (z16 q37))), (z1 (z2 (z16 q38))), (z1 (z4 (z8 ds))), (z1 (z8 ds)), (z2 ds), (z1 ds), ds⟩, by omega, kU (Keep.trans (kU (kU (hkp) hh13) hh15) hk_h (by omega) (fun d _ h => h)) hh19, by omega⟩)))))))))))))))))))
   obtain ⟨m, F, dF, hm, hP, hfan, hrd, hR, ⟨hr0, hr1, hr2, hr3⟩, ⟨q1, q5, q6, q7, q8, q9, q36, q37, q38, q10, q12, q50, q51, q52⟩, hnu, hkp, hmm⟩ := hI
   refine k_seq (k_reg (rO (o_lss (eV q52) (eV q51)) (r_nil (k_seq ?_))))
   refine k_if eZ (fun hc20 => ?_) (fun hc20 => ?_)
   · refine k_skip (k_seq (k_block (k_seq ?_)))
     rcases hR with ⟨-, h0⟩ | ⟨di, oi, ci, exi, wri, ri, hie, hdi, hri, hrli, hsegi⟩
     · have h_ := congrArg List.length h0; simp only [List.length_nil] at h_; omega
     have hR : RowI tu bd hgv (hangs x) := .inr ⟨di, oi, ci, exi, wri, ri, hie, hdi, hri, hrli, hsegi⟩
     obtain ⟨k, hk⟩ := some_at (l := hangs x) (i := m) (by omega)
     have hkr := hgx.1 k (List.mem_of_getElem? hk)
     have hek : (eOf ns i)[m]? = some k.toNat := by rw [eOf_at hx]; simp [hk]
     have hfg := fansR_get (n := ns.length) (F := F) (dF := dF) (k := k.toNat) (by omega)
     have hFl := hP.len k.toNat (by omega)
     by_cases hFk : F k.toNat = []
     · rw [fanV_nil hFk] at hfg
       refine k_reg (rO (o_iaddrE (i := m) (eV (z1 q50)) hie (eV (z1 q52)) (by omega)) ?_)
       refine rO (o_load eZ hri (by rw [Nat.mul_one]; exact rowI_get (i := m) hsegi hk)) ?_
       refine m1 ds (r_nil (k_reg (m1 (z4 q8) (m1 (z1 ds) (m1 (z2 (z4 q8)) (m1 (z1 (z2 ds)) (rO (o_iaddr1 (i := (k).toNat) (eV (z1 ds)) (ev_cast eZ (by omega)) (by omega)) (rO (o_load eZ hfan.row hfg) (m1 (z2 (z8 q10)) (r_heap (o_bslice (fill_cons eZ rfl rfl fill_nil)) rfl (fun t21 (hh22 : hv t21 = upd (hv tu) nu (some (.row [(.int .i64 ((i : Nat) : Int))] true))) => r_heap (o_appE (eV (z2 ds)) eZ (app_nil (cs := [.int .i64 (i : Int)]) rfl (src_row (k := 1) (lS hh22) (leb rfl)) rfl (by decide) (by decide))) rfl (fun tq (hq : hv tq = upd (hv t21) (nu + 1) (some (.row [.int .i64 (i : Int)] true))) => rO (o_iaddr1 (i := (k).toNat) (eV (z8 ds)) (ev_cast (eV (z1 (z2 (z4 ds)))) (by omega)) (by omega)) ?_))))))))))))
       refine r_heap (o_store1 eZ (eV (z1 ds)) (lN hq (lN hh22 hfan.row)) (by rw [fansR_len]; omega)) rfl (fun t23 (hh24 : hv t23 = upd (hv tq) ((((nx + 1) + 1) + 1) + 1) (some (.row ((fansR ns.length F dF).set (k).toNat (.slice (nu + 1) 0 1 1 1 false)) true))) => ?_)
       refine r_nil (k_reg (rO (o_add (eV (z1 (z2 (z4 (z8 q52))))) ev_c (by omega) (by omega)) (m1 ds (r_nil ?_))))
       exact ⟨mm - 1, by omega, m + 1, _, _, by omega, hP.step (by omega) hek (by omega), hfan.grow (k := k.toNat) (i := i) (d := (nu + 1)) (by omega) (by omega) (by omega) (by omega) (by omega) (by rw [← fansR_set (by omega), fanV_snoc, hFk]; exact (lS hh24)) (by rw [hFk]; exact (lN hh24 (lS hq))) (by intro e he1 he2 he3 he4 he5; exact ((((congrFun hh24 e).trans (upd_ne _ _ _ _ (by omega))).trans ((congrFun hq e).trans (upd_ne _ _ _ _ (by omega)))).trans ((congrFun hh22 e).trans (upd_ne _ _ _ _ (by omega))))), hrd.keep ((((congrFun hh24 d9).trans (upd_ne _ _ _ _ (by omega))).trans ((congrFun hq d9).trans (upd_ne _ _ _ _ (by omega)))).trans ((congrFun hh22 d9).trans (upd_ne _ _ _ _ (by omega)))), hR.keep (fun d hd hw => ((((congrFun hh24 d).trans (upd_ne _ _ _ _ (by omega))).trans ((congrFun hq d).trans (upd_ne _ _ _ _ (by omega)))).trans ((congrFun hh22 d).trans (upd_ne _ _ _ _ (by omega))))) (Nat.le_refl bd), ⟨(lN hh24 (lN hq (lN hh22 hr0))), (lN hh24 (lN hq (lN hh22 hr1))), (lN hh24 (lN hq (lN hh22 hr2))), (lN hh24 (lN hq (lN hh22 hr3)))⟩, ⟨(z1 (z16 q1)), (z1 (z16 q5)), (z1 (z16 q6)), (z1 (z16 q7)), (z1 (z16 q8)), (z1 (z16 q9)), (z1 (z16 q36)), (z1 (z16 q37)), (z1 (z16 q38)), (z1 (z16 q10)), (z1 (z16 q12)), (z1 (z16 q50)), (z1 (z16 q51)), ds⟩, by omega, kU (kU (kU (hkp) hh22) hq) hh24, by omega⟩
     rw [fanV_ne hFk] at hfg
     obtain ⟨hfr, hfl, hfh, hfx⟩ := hfan.at_ k.toNat (by omega) hFk
     refine k_reg (rO (o_iaddrE (i := m) (eV (z1 q50)) hie (eV (z1 q52)) (by omega)) ?_)
     refine rO (o_load eZ hri (by rw [Nat.mul_one]; exact rowI_get (i := m) hsegi hk)) ?_
     refine m1 ds (r_nil (k_reg (m1 (z4 q8) (m1 (z1 ds) (m1 (z2 (z4 q8)) (m1 (z1 (z2 ds)) (rO (o_iaddr1 (i := (k).toNat) (eV (z1 ds)) (ev_cast eZ (by omega)) (by omega)) (rO (o_load eZ hfan.row hfg) (m1 (z2 (z8 q10)) (r_heap (o_bslice (fill_cons eZ rfl rfl fill_nil)) rfl (fun t25 (hh26 : hv t25 = upd (hv tu) nu (some (.row [(.int .i64 ((i : Nat) : Int))] true))) => ?_)))))))))))
     refine r_heap (o_appE (eV (z2 ds)) eZ (app_new_f (k := 1) (cs := [.int .i64 (i : Int)]) rfl (src_row (k := 1) (lS hh26) (leb rfl)) rfl (lN hh26 hfr) (by rw [ints_len, nints_len]; omega) (by omega) (by omega))) rfl (fun tq ⟨tp, hp, hq⟩ => ?_)
     refine rO (o_iaddr1 (i := (k).toNat) (eV (z8 ds)) (ev_cast (eV (z1 (z2 (z4 ds)))) (by omega)) (by omega)) ?_
     refine r_heap (o_store1 eZ (eV (z1 ds)) (lN hq (lN hp (lN hh26 hfan.row))) (by rw [fansR_len]; omega)) rfl (fun t27 (hh28 : hv t27 = upd (hv tq) ((((nx + 1) + 1) + 1) + 1) (some (.row ((fansR ns.length F dF).set (k).toNat (.slice (nu + 1) 0 ((F k.toNat).length + 1) ((F k.toNat).length + 1) 1 false)) true))) => ?_)
     refine r_nil (k_reg (rO (o_add (eV (z1 (z2 (z4 (z8 q52))))) ev_c (by omega) (by omega)) (m1 ds (r_nil ?_))))
     exact ⟨mm - 1, by omega, m + 1, _, _, by omega, hP.step (by omega) hek (by omega), hfan.grow (k := k.toNat) (i := i) (d := (nu + 1)) (by omega) (by omega) (by omega) (by omega) (by omega) (by rw [← fansR_set (by omega), fanV_snoc]; exact (lS hh28)) (by have h_ := (lN hh28 (lS hq)); rw [Nat.mul_one, whole (by rw [ints_len, nints_len]), ← nints_snoc] at h_; exact h_) (by intro e he1 he2 he3 he4 he5; have he6 := he4 hFk; exact (((((congrFun hh28 e).trans (upd_ne _ _ _ _ (by omega))).trans ((congrFun hq e).trans (upd_ne _ _ _ _ (by omega)))).trans ((congrFun hp e).trans (upd_ne _ _ _ _ (by omega)))).trans ((congrFun hh26 e).trans (upd_ne _ _ _ _ (by omega))))), hrd.keep (((((congrFun hh28 d9).trans (upd_ne _ _ _ _ (by omega))).trans ((congrFun hq d9).trans (upd_ne _ _ _ _ (by omega)))).trans ((congrFun hp d9).trans (upd_ne _ _ _ _ (by omega)))).trans ((congrFun hh26 d9).trans (upd_ne _ _ _ _ (by omega)))), hR.keep (fun d hd hw => (((((congrFun hh28 d).trans (upd_ne _ _ _ _ (by omega))).trans ((congrFun hq d).trans (upd_ne _ _ _ _ (by omega)))).trans ((congrFun hp d).trans (upd_ne _ _ _ _ (by omega)))).trans ((congrFun hh26 d).trans (upd_ne _ _ _ _ (by omega))))) (Nat.le_refl bd), ⟨(lN hh28 (lN hq (lN hp (lN hh26 hr0)))), (lN hh28 (lN hq (lN hp (lN hh26 hr1)))), (lN hh28 (lN hq (lN hp (lN hh26 hr2)))), (lN hh28 (lN hq (lN hp (lN hh26 hr3))))⟩, ⟨(z1 (z16 q1)), (z1 (z16 q5)), (z1 (z16 q6)), (z1 (z16 q7)), (z1 (z16 q8)), (z1 (z16 q9)), (z1 (z16 q36)), (z1 (z16 q37)), (z1 (z16 q38)), (z1 (z16 q10)), (z1 (z16 q12)), (z1 (z16 q50)), (z1 (z16 q51)), ds⟩, by omega, kU (kU (kU (kU (hkp) hh26) hp) hq) hh28, by omega⟩
   refine k_exit (exK_same (k_seq (k_reg (m1 (z1 q12) (rO (o_len_I hR eZ) (rO (o_eql eZ ev_c) (r_nil ?_)))))))
   refine k_if eZ (fun hc29 => ?_) (fun hc29 => ?_)
   · have hSl := hQ.few
     rcases hrd with ⟨hv9e, hSe⟩ | ⟨c9, r9, hv9e, hr9, hc9a, hc9b, hr9t⟩
     · refine k_reg (m1 (z4 q9) (m1 (z1 (z4 q10)) (r_heap (o_bslice (fill_cons eZ rfl rfl fill_nil)) rfl (fun t30 (hh31 : hv t30 = upd (hv tu) nu (some (.row [(.int .i64 ((i : Nat) : Int))] true))) => r_heap (o_appE ((eV (z2 ds)).trans (congrArg some hv9e)) eZ (app_nil (cs := [.int .i64 (i : Int)]) rfl (src_row (k := 1) (lS hh31) (leb rfl)) rfl (by decide) (by decide))) rfl (fun tq (hq : hv tq = upd (hv t30) (nu + 1) (some (.row [.int .i64 (i : Int)] true))) => m1 ds (r_nil (k_reg (rO (o_add (eV (z1 (z8 q38))) ev_c (by omega) (by omega)) (m1 ds (r_nil ?_))))))))))
       have hq1 := hQ.next (by omega)
       rw [hel] at hq1
       exact ⟨ns.length - (i + 1), by omega, i + 1, F, dF, Wt.set i (((hangs x).length : Nat) : Int), S ++ [i], (.slice (nu + 1) 0 1 1 1 false), (nu + 1), by omega, hP.next (by omega) (by omega), hq1.1 (List.eq_nil_of_length_eq_zero (by omega)), hfan.keep (by omega) (by omega) (fun d hd hdq => (((congrFun hq d).trans (upd_ne _ _ _ _ (by omega))).trans ((congrFun hh31 d).trans (upd_ne _ _ _ _ (by omega))))) (.inr (by omega)) (by omega), by rw [hSe]; exact Rdy.nil (lS hq), .inr (by omega), by omega, by omega, ⟨(lN hq (lN hh31 hr0)), (lN hq (lN hh31 hr1)), (lN hq (lN hh31 hr2)), (lN hq (lN hh31 hr3))⟩, ⟨(z1 (z2 (z8 q1))), (z1 (z2 (z8 q5))), (z1 (z2 (z8 q6))), (z1 (z2 (z8 q7))), (z1 (z2 (z8 q8))), (z2 ds), (z1 (z2 (z8 q36))), (z1 (z2 (z8 q37))), ds⟩, by omega, kU (kU (hkp) hh31) hq, by omega⟩
     have hd9l : (((((nx + 1) + 1) + 1) + 1) + 1) ≤ d9 := hv9.elim (fun e => by rw [e] at hv9e; cases hv9e) id
     by_cases hroom : S.length + 1 ≤ c9
     · refine k_reg (m1 (z4 q9) (m1 (z1 (z4 q10)) (r_heap (o_bslice (fill_cons eZ rfl rfl fill_nil)) rfl (fun t32 (hh33 : hv t32 = upd (hv tu) nu (some (.row [(.int .i64 ((i : Nat) : Int))] true))) => ?_))))
       refine r_heap (o_appE ((eV (z2 ds)).trans (congrArg some hv9e)) eZ (app_in (k := 1) (cs := [.int .i64 (i : Int)]) rfl (src_row (k := 1) (lS hh33) (leb rfl)) rfl (lN hh33 hr9) (by omega) (by show 0 + S.length * 1 + 1 ≤ _; omega))) rfl (fun tq (hq : hv tq = upd (hv t32) d9 (some (.row (splice r9 (0 + S.length * 1) [.int .i64 (i : Int)]) true))) => ?_)
       refine m1 ds (r_nil (k_reg (rO (o_add (eV (z1 (z8 q38))) ev_c (by omega) (by omega)) (m1 ds (r_nil ?_)))))
       have hq1 := hQ.next (by omega)
       rw [hel] at hq1
       exact ⟨ns.length - (i + 1), by omega, i + 1, F, dF, Wt.set i (((hangs x).length : Nat) : Int), S ++ [i], (.slice d9 0 (S.length + 1) c9 1 false), d9, by omega, hP.next (by omega) (by omega), hq1.1 (List.eq_nil_of_length_eq_zero (by omega)), hfan.keep (by omega) (by omega) (fun d hd hdq => (((congrFun hq d).trans (upd_ne _ _ _ _ (by omega))).trans ((congrFun hh33 d).trans (upd_ne _ _ _ _ (by omega))))) (.inl rfl) (by omega), Rdy.room hr9t hroom hc9b (lS hq), .inr (by omega), by omega, by omega, ⟨(lN hq (lN hh33 hr0)), (lN hq (lN hh33 hr1)), (lN hq (lN hh33 hr2)), (lN hq (lN hh33 hr3))⟩, ⟨(z1 (z2 (z8 q1))), (z1 (z2 (z8 q5))), (z1 (z2 (z8 q6))), (z1 (z2 (z8 q7))), (z1 (z2 (z8 q8))), (z2 ds), (z1 (z2 (z8 q36))), (z1 (z2 (z8 q37))), ds⟩, by omega, kU (kU (hkp) hh33) hq, by omega⟩
     refine k_reg (m1 (z4 q9) (m1 (z1 (z4 q10)) (r_heap (o_bslice (fill_cons eZ rfl rfl fill_nil)) rfl (fun t34 (hh35 : hv t34 = upd (hv tu) nu (some (.row [(.int .i64 ((i : Nat) : Int))] true))) => ?_))))
     refine r_heap (o_appE ((eV (z2 ds)).trans (congrArg some hv9e)) eZ (app_new_f (k := 1) (cs := [.int .i64 (i : Int)]) rfl (src_row (k := 1) (lS hh35) (leb rfl)) rfl (lN hh35 hr9) (by omega) (by omega) (by have := hSl; omega))) rfl (fun tq ⟨tp, hp, hq⟩ => ?_)
     refine m1 ds (r_nil (k_reg (rO (o_add (eV (z1 (z8 q38))) ev_c (by omega) (by omega)) (m1 ds (r_nil ?_)))))
     have hq1 := hQ.next (by omega)
     rw [hel] at hq1
     exact ⟨ns.length - (i + 1), by omega, i + 1, F, dF, Wt.set i (((hangs x).length : Nat) : Int), S ++ [i], (.slice (nu + 1) 0 (S.length + 1) (S.length + 1) 1 false), (nu + 1), by omega, hP.next (by omega) (by omega), hq1.1 (List.eq_nil_of_length_eq_zero (by omega)), hfan.keep (by omega) (by omega) (fun d hd hdq => ((((congrFun hq d).trans (upd_ne _ _ _ _ (by omega))).trans ((congrFun hp d).trans (upd_ne _ _ _ _ (by omega)))).trans ((congrFun hh35 d).trans (upd_ne _ _ _ _ (by omega))))) (.inr (by omega)) (by omega), Rdy.full hr9t (lS hq), .inr (by omega), by omega, by omega, ⟨(lN hq (lN hp (lN hh35 hr0))), (lN hq (lN hp (lN hh35 hr1))), (lN hq (lN hp (lN hh35 hr2))), (lN hq (lN hp (lN hh35 hr3)))⟩, ⟨(z1 (z2 (z8 q1))), (z1 (z2 (z8 q5))), (z1 (z2 (z8 q6))), (z1 (z2 (z8 q7))), (z1 (z2 (z8 q8))), (z2 ds), (z1 (z2 (z8 q36))), (z1 (z2 (z8 q37))), ds⟩, by omega, kU (kU (kU (hkp) hh35) hp) hq, by omega⟩
   refine k_skip (k_reg (rO (o_add (eV (z4 q38)) ev_c (by omega) (by omega)) (m1 ds (r_nil ?_))))
   have hq1 := hQ.next (by omega)
   rw [hel] at hq1
   exact ⟨ns.length - (i + 1), by omega, i + 1, F, dF, Wt.set i (((hangs x).length : Nat) : Int), S, v9, d9, by omega, hP.next (by omega) (by omega), hq1.2 (fun e => by rw [e] at hel; simp only [List.length_nil] at hel; omega), hfan.keep (by omega) (by omega) (fun d hd hdq => rfl) (.inl rfl) (by omega), hrd.keep rfl, hv9, by omega, by omega, ⟨hr0, hr1, hr2, hr3⟩, ⟨(z2 (z4 q1)), (z2 (z4 q5)), (z2 (z4 q6)), (z2 (z4 q7)), (z2 (z4 q8)), (z2 (z4 q9)), (z2 (z4 q36)), (z2 (z4 q37)), ds⟩, by omega, hkp, by omega⟩
 refine k_exit (exK_same (k_seq (k_reg (rO (o_mov ev_c) (r_nil (k_seq (k_block ?_)))))))
 have hin : i = ns.length := by omega
 rw [hin] at hP hQ
 obtain ⟨hLv, hcnt⟩ := start2 hP hQ
 have hFlt := hP.lt
 have hFl : ∀ k, k < ns.length → (F k).length ≤ 12288 := fun k hk => by have := hP.len k hk; omega
 have hzero : List.replicate ns.length (AV.int .i64 0) = ints (List.replicate ns.length 0) := by unfold ints; rw [List.map_replicate]; rfl
 refine k_loop (fun mm Tz tz nz => ∃ (D S : List Nat) (Wt L : List Int) (B : List AV) (v9 : AV) (d9 : Nat), Lv (eOf ns) ns.length F D S Wt [] ∧ LMono F D L ∧ (Fans tz (((((nx + 1) + 1) + 1) + 1) + 1) nz d9 ((((nx + 1) + 1) + 1) + 1) ns.length F dF ∧ Rdy tz d9 v9 S ∧ (v9 = .nslice ∨ (((((nx + 1) + 1) + 1) + 1) + 1) ≤ d9) ∧ (d9 = nx ∨ (((((nx + 1) + 1) + 1) + 1) + 1) ≤ d9) ∧ d9 < nz ∧ L.length = ns.length ∧ (∀ x ∈ L, 0 ≤ x ∧ x ≤ ((D.length * 12288 : Nat) : Int)) ∧ B.length = ns.length ∧ (hv tz nx = some (.row [vn, vt, .int .i64 p] true) ∧ hv tz (nx + 1) = some (.row (ints L) true) ∧ hv tz ((nx + 1) + 1) = some (.row (ints Wt) true) ∧ hv tz (((nx + 1) + 1) + 1) = some (.row B true)) ∧ (((((nx + 1) + 1) + 1) + 1) + 1) ≤ nz ∧ Keep t tz nx (fun _ => False)) ∧ (Tz.get 5 = some (.slice (nx + 1) 0 ns.length ns.length 1 true) ∧ Tz.get 6 = some (.slice ((nx + 1) + 1) 0 ns.length ns.length 1 true) ∧ Tz.get 7 = some (.slice (((nx + 1) + 1) + 1) 0 ns.length ns.length 1 true) ∧ Tz.get 8 = some (.slice ((((nx + 1) + 1) + 1) + 1) 0 ns.length ns.length 1 true) ∧ Tz.get 9 = some v9 ∧ Tz.get 15 = some (.int .i64 ((D.length : Nat) : Int))) ∧ mm + D.length = ns.length) (fun mm Tz tz nz hI => ?_) (ns.length) ⟨[], S, Wt, List.replicate ns.length 0, List.replicate ns.length (AV.bool false), v9, d9, hLv, (fun k hk => by cases hk), ⟨hfan, hrd, hv9, hd9, hd9b, by simp, (fun x hx => by have := List.eq_of_mem_replicate hx; subst this; simp), by simp, ⟨hr0, by rw [← hzero]; exact hr1, hr2, hr3⟩, hnv, hkp⟩, ⟨(z2 q5), (z2 q6), (z2 q7), (z2 q8), (z2 q9), ds⟩, by simp⟩
 obtain ⟨D, S, Wt, L, B, v9, d9, hLv, hLM, ⟨hfan, hrd, hv9, hd9, hd9b, hLl, hLb, hBl, ⟨hr0, hr1, hr2, hr3⟩, hnz, hkp⟩, ⟨q5, q6, q7, q8, q9, q15⟩, hmm⟩ := hI
 refine k_seq (k_seq (k_reg (m1 q9 (rO (o_len_R hrd eZ) (rO (o_gtr eZ ev_c) (r_nil ?_))))))
 refine k_if eZ (fun hc36 => ?_) (fun hc36 => ?_)
 · refine k_skip (k_block (k_seq ?_))
   obtain ⟨S', a, c9, r9, hSe, hv9e, hr9, hc9a, hc9b, hga, hrd2⟩ := hrd.last (by omega)
   have hSl : S.length = S'.length + 1 := by rw [hSe]; simp
   rw [hSe] at hLv
   have han : a < ns.length := hLv.lt a (by simp)
   have hd9l : (((((nx + 1) + 1) + 1) + 1) + 1) ≤ d9 := hv9.elim (fun e => by rw [e] at hv9e; cases hv9e) id
   have hpop := hLv.pop (fun i hi => hcnt a han i hi)
   have hD := hpop.few
   have hfa := hFl a han
   refine k_reg (m1 (z1 (z2 q9)) (m1 (z4 q9) (rO (o_len_R hrd eZ) (rO (o_sub eZ ev_c (by omega) (by omega)) (rO (o_iaddrE (i := S'.length) (eV (z1 (z2 ds))) hv9e (ev_cast eZ (by omega)) (by omega)) ?_)))))
   refine rO (o_load eZ hr9 (by rw [Nat.zero_add, Nat.mul_one]; exact hga)) ?_
   refine m1 ds (r_nil (k_seq (k_reg (m1 (z2 (z8 q9)) (m1 (z1 (z2 (z8 q9))) (rO (o_len_R hrd eZ) (rO (o_sub eZ ev_c (by omega) (by omega)) (rO (o_cslice_hi (m := S'.length) (eV (z1 (z2 ds))) hv9e (ev_cast eZ (by omega)) (by omega)) (m1 ds (r_nil (k_seq (k_reg (m1 (z16 q7) (m1 (z1 (z2 (z4 ds))) (rO (o_iaddr1 (i := a) (eV (z1 ds)) eZ (by omega)) (r_heap (o_storeC eZ ev_c rfl rfl hr3 (by omega)) rfl (fun t37 (hh38 : hv t37 = upd (hv tz) (((nx + 1) + 1) + 1) (some (.row (B.set a (AV.bool true)) true))) => r_nil (k_seq (k_reg (m1 (z4 (z16 q15)) (rO (o_add eZ ev_c (by omega) (by omega)) (m1 ds (r_nil (k_seq (k_reg (m1 (z1 (z2 (z4 (z16 q8)))) (m1 (z2 (z4 (z8 ds))) (rO (o_iaddr1 (i := a) (eV (z1 ds)) eZ (by omega)) (rO (o_load eZ (lN hh38 hfan.row) (fansR_get han)) (rO (o_len_fan eZ) (rO (o_mov ev_c) (r_nil (k_block ?_)))))))))))))))))))))))))))))))))
   refine k_loop (fun mm Ty ty ny => ∃ (m : Nat) (S : List Nat) (Wt L : List Int) (B : List AV) (v9 : AV) (d9 : Nat), m ≤ (F a).length ∧ Lv (eOf ns) ns.length F (a :: D) S Wt ((F a).drop m) ∧ LMin F D a m L ∧ (Fans ty (((((nx + 1) + 1) + 1) + 1) + 1) ny d9 ((((nx + 1) + 1) + 1) + 1) ns.length F dF ∧ Rdy ty d9 v9 S ∧ (v9 = .nslice ∨ (((((nx + 1) + 1) + 1) + 1) + 1) ≤ d9) ∧ (d9 = nx ∨ (((((nx + 1) + 1) + 1) + 1) + 1) ≤ d9) ∧ d9 < ny ∧ L.length = ns.length ∧ (∀ x ∈ L, 0 ≤ x ∧ x ≤ ((D.length * 12288 + m : Nat) : Int)) ∧ B.length = ns.length ∧ (hv ty nx = some (.row [vn, vt, .int .i64 p] true) ∧ hv ty (nx + 1) = some (.row (ints L) true) ∧ hv ty ((nx + 1) + 1) = some (.row (ints Wt) true) ∧ hv ty (((nx + 1) + 1) + 1) = some (.row B true)) ∧ (((((nx + 1) + 1) + 1) + 1) + 1) ≤ ny ∧ Keep t ty nx (fun _ => False)) ∧ (Ty.get 5 = some (.slice (nx + 1) 0 ns.length ns.length 1 true) ∧ Ty.get 6 = some (.slice ((nx + 1) + 1) 0 ns.length ns.length 1 true) ∧ Ty.get 7 = some (.slice (((nx + 1) + 1) + 1) 0 ns.length ns.length 1 true) ∧ Ty.get 8 = some (.slice ((((nx + 1) + 1) + 1) + 1) 0 ns.length ns.length 1 true) ∧ Ty.get 9 = some v9 ∧ Ty.get 15 = some (.int .i64 (((D.length : Nat) : Int) + 1)) ∧ Ty.get 16 = some (.int .i64 ((a : Nat) : Int)) ∧ Ty.get 97 = some (fanV (F a) (dF a)) ∧ Ty.get 98 = some (.int .i64 (((F a).length : Nat) : Int)) ∧ Ty.get 99 = some (.int .i64 ((m : Nat) : Int))) ∧ mm + m = (F a).length) (fun mm Ty ty ny hI => ?_) ((F a).length) ⟨0, S', Wt, L, B.set a (AV.bool true), .slice d9 0 S'.length c9 1 false, d9, by omega, hpop, LMin.start hLM, ⟨hfan.keep (by omega) (by omega) (fun d hd hdq => ((congrFun hh38 d).trans (upd_ne _ _ _ _ (by omega)))) (.inl rfl) (by omega), hrd2.keep ((congrFun hh38 d9).trans (upd_ne _ _ _ _ (by omega))), .inr hd9l, .inr hd9l, by omega, hLl, hLb, by rw [List.length_set]; exact hBl, ⟨(lN hh38 hr0), (lN hh38 hr1), (lN hh38 hr2), (lS hh38)⟩, by omega, kU (hkp) hh38⟩, ⟨(z1 (z4 (z8 (z16 q5)))), (z1 (z4 (z8 (z16 q6)))), (z1 (z4 (z8 (z16 q7)))), (z1 (z4 (z8 (z16 q8)))), (z1 (z4 (z8 ds))), (z2 (z4 ds)), (z1 (z2 (z16 ds))), (z2 ds), (z1 ds), ds⟩, by omega⟩
   obtain ⟨m, S, Wt, L, B, v9, d9, hm, hLv, hLM, ⟨hfan, hrd, hv9, hd9, hd9b, hLl, hLb, hBl, ⟨hr0, hr1, hr2, hr3⟩, hnz, hkp⟩, ⟨q5, q6, q7, q8, q9, q15, q16, q97, q98, q99⟩, hmm⟩ := hI
   refine k_seq (k_reg (rO (o_lss (eV q99) (eV q98)) (r_nil (k_seq ?_))))
   refine k_if eZ (fun hc39 => ?_) (fun hc39 => ?_)
   · refine k_skip (k_seq (k_block (k_seq ?_)))
     obtain ⟨b, hbk⟩ := some_at (l := F a) (i := m) (by omega)
     have hbn := hFlt a han b (List.mem_of_getElem? hbk)
     have hFa : F a ≠ [] := by intro e; rw [e] at hbk; simp at hbk
     have hfv := fanV_ne hFa (dF a)
     obtain ⟨hfr, hfl, hfh, hfx⟩ := hfan.at_ a han hFa
     have hwl := hLv.wl
     obtain ⟨lb, hlb⟩ := some_at (l := L) (i := b) (by omega)
     obtain ⟨la, hla⟩ := some_at (l := L) (i := a) (by omega)
     obtain ⟨u, hu⟩ := some_at (l := Wt) (i := b) (by omega)
     have hlb2 := hLb lb (List.mem_of_getElem? hlb)
     have hla2 := hLb la (List.mem_of_getElem? hla)
     rw [drop_at hbk] at hLv
     have hnb := hLv.notin hbn
     have hdec := hLv.dec hbn hu
     have hmx := mxI_or lb (la + 1)
     have hD3 := hLv.few
     rw [List.length_cons] at hD3
     have hub := u_bound hG hbn hdec.2.1 (by rw [← drop_at hbk, List.length_drop]; omega)
     refine k_reg (rO (o_iaddrE (i := m) (eV (z1 q97)) hfv (eV (z1 q99)) (by omega)) ?_)
     refine rO (o_load eZ hfr (by rw [Nat.zero_add, Nat.mul_one]; exact ints_get (nints_get hbk))) ?_
     refine m1 ds (r_nil (k_seq (k_draw (eO 0 rfl (o_mov (eV (z4 q5))) (eO 1 rfl (o_mov (eV (z1 ds))) (eO 2 rfl (o_mov (eV (z2 (z4 q5)))) (eO 3 rfl (o_mov (eV (z1 (z2 ds)))) (eO 4 rfl (o_iaddr1 (i := b) (eV (z1 ds)) eZ (by omega)) (eO 5 rfl (o_load eZ hr1 (ints_get hlb)) (eO 6 rfl (o_mov (eV (z2 (z8 q5)))) (eO 7 rfl (o_mov (eV (z1 (z2 (z8 q16))))) (eO 8 rfl (o_iaddr1 (i := a) (eV (z1 ds)) eZ (by omega)) (eO 9 rfl (o_load eZ hr1 (ints_get hla)) (eO 10 rfl (o_add eZ ev_c (by omega) (by omega)) (eO 11 rfl (o_maxD (eV (z1 (z4 ds))) eZ) (eO 12 rfl (o_iaddr1 (i := b) (eV (z1 (z2 (z8 ds)))) (eV (z2 (z8 ds))) (by omega)) ?_))))))))))))))))
     refine d_heap (ix := 13) (pr := [12, 11, 0, 1, 2, 3, 4, 5, 6, 7, 8, 9, 10, 11]) (d := none) (g := none) (F' := []) (o := (.store 1 (.t 115) (.t 114))) (o_storeI (l := L) eZ (eV (z1 ds)) hr1 (by omega)) rfl (by kernel_rfl) (by kernel_rfl) (by kernel_rfl) (by kernel_rfl) (fun t40 (hh41 : hv t40 = upd (hv ty) (nx + 1) (some (.row (ints (L.set b (mxI lb (la + 1)))) true))) => ⟨?_, ?_⟩)
     · exact all_nil_
     refine e_done (k_seq (k_reg (m1 (z2 (z16 q6)) (m1 (z1 (z2 (z4 (z8 ds)))) (rO (o_iaddr1 (i := b) (eV (z1 ds)) eZ (by omega)) (rO (o_load eZ (lN hh41 hr2) (ints_get hu)) (rO (o_sub eZ ev_c (by omega) (by omega)) (rO (o_iaddr1 (i := b) (eV (z4 ds)) (eV (z1 (z2 ds))) (by omega)) (r_heap (o_storeI (l := Wt) eZ (eV (z1 ds)) (lN hh41 hr2) (by omega)) rfl (fun t42 (hh43 : hv t42 = upd (hv t40) ((nx + 1) + 1) (some (.row (ints (Wt.set b (u - 1))) true))) => r_nil (k_seq (k_reg (m1 (z1 (z8 (z16 q6))) (m1 (z2 (z4 (z16 ds))) (rO (o_iaddr1 (i := b) (eV (z1 ds)) eZ (by omega)) ?_)))))))))))))))
     refine rO (o_load eZ (lS hh43) (ints_get (by rw [List.getElem?_set_self (by omega)]))) ?_
     refine rO (o_eql eZ ev_c) (r_nil ?_)
     refine k_if eZ (fun hc44 => ?_) (fun hc44 => ?_)
     · have hSl2 := hD3
       rcases hrd with ⟨hv9e, hSe⟩ | ⟨c9, r9, hv9e, hr9, hc9a, hc9b, hr9t⟩
       · refine k_reg (m1 (z2 (z4 (z8 (z16 q9)))) (m1 (z1 (z2 (z8 (z16 ds)))) (r_heap (o_bslice (fill_cons eZ rfl rfl fill_nil)) rfl (fun t45 (hh46 : hv t45 = upd (hv t42) ny (some (.row [(.int .i64 ((b : Nat) : Int))] true))) => r_heap (o_appE ((eV (z2 ds)).trans (congrArg some hv9e)) eZ (app_nil (cs := [.int .i64 ((b : Nat) : Int)]) rfl (src_row (k := 1) (lS hh46) (leb rfl)) rfl (by decide) (by decide))) rfl (fun tq (hq : hv tq = upd (hv t45) (ny + 1) (some (.row [.int .i64 ((b : Nat) : Int)] true))) => m1 ds (r_nil (k_reg (rO (o_add (eV (z1 (z2 (z16 (z16 q99))))) ev_c (by omega) (by omega)) (m1 ds (r_nil ?_))))))))))
         exact ⟨(F a).length - (m + 1), by omega, m + 1, S ++ [b], Wt.set b (u - 1), L.set b (mxI lb (la + 1)), B, (.slice (ny + 1) 0 1 1 1 false), (ny + 1), by omega, hdec.2.2.1 (by omega), hLM.step hbk hnb hla hlb, ⟨hfan.keep (by omega) (by omega) (fun d hd hdq => (((((congrFun hq d).trans (upd_ne _ _ _ _ (by omega))).trans ((congrFun hh46 d).trans (upd_ne _ _ _ _ (by omega)))).trans ((congrFun hh43 d).trans (upd_ne _ _ _ _ (by omega)))).trans ((congrFun hh41 d).trans (upd_ne _ _ _ _ (by omega))))) (.inr (by omega)) (by omega), by rw [hSe]; exact Rdy.nil (lS hq), .inr (by omega), by omega, by omega, by rw [List.length_set]; exact hLl, set_bd hLb (by omega) (by omega), hBl, ⟨(lN hq (lN hh46 (lN hh43 (lN hh41 hr0)))), (lN hq (lN hh46 (lN hh43 (lS hh41)))), (lN hq (lN hh46 (lS hh43))), (lN hq (lN hh46 (lN hh43 (lN hh41 hr3))))⟩, by omega, kU (kU (kU (kU (hkp) hh41) hh43) hh46) hq⟩, ⟨(z1 (z4 (z16 (z16 q5)))), (z1 (z4 (z16 (z16 q6)))), (z1 (z4 (z16 (z16 q7)))), (z1 (z4 (z16 (z16 q8)))), (z2 ds), (z1 (z4 (z16 (z16 q15)))), (z1 (z4 (z16 (z16 q16)))), (z1 (z4 (z16 (z16 q97)))), (z1 (z4 (z16 (z16 q98)))), ds⟩, by omega⟩
       have hd9l : (((((nx + 1) + 1) + 1) + 1) + 1) ≤ d9 := hv9.elim (fun e => by rw [e] at hv9e; cases hv9e) id
       by_cases hroom : S.length + 1 ≤ c9
       · refine k_reg (m1 (z2 (z4 (z8 (z16 q9)))) (m1 (z1 (z2 (z8 (z16 ds)))) (r_heap (o_bslice (fill_cons eZ rfl rfl fill_nil)) rfl (fun t47 (hh48 : hv t47 = upd (hv t42) ny (some (.row [(.int .i64 ((b : Nat) : Int))] true))) => ?_))))
         refine r_heap (o_appE ((eV (z2 ds)).trans (congrArg some hv9e)) eZ (app_in (k := 1) (cs := [.int .i64 ((b : Nat) : Int)]) rfl (src_row (k := 1) (lS hh48) (leb rfl)) rfl (lN hh48 (lN hh43 (lN hh41 hr9))) (by omega) (by show 0 + S.length * 1 + 1 ≤ _; omega))) rfl (fun tq (hq : hv tq = upd (hv t47) d9 (some (.row (splice r9 (0 + S.length * 1) [.int .i64 ((b : Nat) : Int)]) true))) => ?_)
         refine m1 ds (r_nil (k_reg (rO (o_add (eV (z1 (z2 (z16 (z16 q99))))) ev_c (by omega) (by omega)) (m1 ds (r_nil ?_)))))
         exact ⟨(F a).length - (m + 1), by omega, m + 1, S ++ [b], Wt.set b (u - 1), L.set b (mxI lb (la + 1)), B, (.slice d9 0 (S.length + 1) c9 1 false), d9, by omega, hdec.2.2.1 (by omega), hLM.step hbk hnb hla hlb, ⟨hfan.keep (by omega) (by omega) (fun d hd hdq => (((((congrFun hq d).trans (upd_ne _ _ _ _ (by omega))).trans ((congrFun hh48 d).trans (upd_ne _ _ _ _ (by omega)))).trans ((congrFun hh43 d).trans (upd_ne _ _ _ _ (by omega)))).trans ((congrFun hh41 d).trans (upd_ne _ _ _ _ (by omega))))) (.inl rfl) (by omega), Rdy.room hr9t hroom hc9b (lS hq), .inr (by omega), by omega, by omega, by rw [List.length_set]; exact hLl, set_bd hLb (by omega) (by omega), hBl, ⟨(lN hq (lN hh48 (lN hh43 (lN hh41 hr0)))), (lN hq (lN hh48 (lN hh43 (lS hh41)))), (lN hq (lN hh48 (lS hh43))), (lN hq (lN hh48 (lN hh43 (lN hh41 hr3))))⟩, by omega, kU (kU (kU (kU (hkp) hh41) hh43) hh48) hq⟩, ⟨(z1 (z4 (z16 (z16 q5)))), (z1 (z4 (z16 (z16 q6)))), (z1 (z4 (z16 (z16 q7)))), (z1 (z4 (z16 (z16 q8)))), (z2 ds), (z1 (z4 (z16 (z16 q15)))), (z1 (z4 (z16 (z16 q16)))), (z1 (z4 (z16 (z16 q97)))), (z1 (z4 (z16 (z16 q98)))), ds⟩, by omega⟩
       refine k_reg (m1 (z2 (z4 (z8 (z16 q9)))) (m1 (z1 (z2 (z8 (z16 ds)))) (r_heap (o_bslice (fill_cons eZ rfl rfl fill_nil)) rfl (fun t49 (hh50 : hv t49 = upd (hv t42) ny (some (.row [(.int .i64 ((b : Nat) : Int))] true))) => ?_))))
       refine r_heap (o_appE ((eV (z2 ds)).trans (congrArg some hv9e)) eZ (app_new_f (k := 1) (cs := [.int .i64 ((b : Nat) : Int)]) rfl (src_row (k := 1) (lS hh50) (leb rfl)) rfl (lN hh50 (lN hh43 (lN hh41 hr9))) (by omega) (by omega) (by have := hSl2; omega))) rfl (fun tq ⟨tp, hp, hq⟩ => ?_)
       refine m1 ds (r_nil (k_reg (rO (o_add (eV (z1 (z2 (z16 (z16 q99))))) ev_c (by omega) (by omega)) (m1 ds (r_nil ?_)))))
       exact ⟨(F a).length - (m + 1), by omega, m + 1, S ++ [b], Wt.set b (u - 1), L.set b (mxI lb (la + 1)), B, (.slice (ny + 1) 0 (S.length + 1) (S.length + 1) 1 false), (ny + 1), by omega, hdec.2.2.1 (by omega), hLM.step hbk hnb hla hlb, ⟨hfan.keep (by omega) (by omega) (fun d hd hdq => ((((((congrFun hq d).trans (upd_ne _ _ _ _ (by omega))).trans ((congrFun hp d).trans (upd_ne _ _ _ _ (by omega)))).trans ((congrFun hh50 d).trans (upd_ne _ _ _ _ (by omega)))).trans ((congrFun hh43 d).trans (upd_ne _ _ _ _ (by omega)))).trans ((congrFun hh41 d).trans (upd_ne _ _ _ _ (by omega))))) (.inr (by omega)) (by omega), Rdy.full hr9t (lS hq), .inr (by omega), by omega, by omega, by rw [List.length_set]; exact hLl, set_bd hLb (by omega) (by omega), hBl, ⟨(lN hq (lN hp (lN hh50 (lN hh43 (lN hh41 hr0))))), (lN hq (lN hp (lN hh50 (lN hh43 (lS hh41))))), (lN hq (lN hp (lN hh50 (lS hh43)))), (lN hq (lN hp (lN hh50 (lN hh43 (lN hh41 hr3)))))⟩, by omega, kU (kU (kU (kU (kU (hkp) hh41) hh43) hh50) hp) hq⟩, ⟨(z1 (z4 (z16 (z16 q5)))), (z1 (z4 (z16 (z16 q6)))), (z1 (z4 (z16 (z16 q7)))), (z1 (z4 (z16 (z16 q8)))), (z2 ds), (z1 (z4 (z16 (z16 q15)))), (z1 (z4 (z16 (z16 q16)))), (z1 (z4 (z16 (z16 q97)))), (z1 (z4 (z16 (z16 q98)))), ds⟩, by omega⟩
     refine k_skip (k_reg (rO (o_add (eV (z2 (z4 (z8 (z16 q99))))) ev_c (by omega) (by omega)) (m1 ds (r_nil ?_))))
     exact ⟨(F a).length - (m + 1), by omega, m + 1, S, Wt.set b (u - 1), L.set b (mxI lb (la + 1)), B, v9, d9, by omega, hdec.2.2.2 (by omega), hLM.step hbk hnb hla hlb, ⟨hfan.keep (by omega) (by omega) (fun d hd hdq => (((congrFun hh43 d).trans (upd_ne _ _ _ _ (by omega))).trans ((congrFun hh41 d).trans (upd_ne _ _ _ _ (by omega))))) (.inl rfl) (by omega), hrd.keep (((congrFun hh43 d9).trans (upd_ne _ _ _ _ (by omega))).trans ((congrFun hh41 d9).trans (upd_ne _ _ _ _ (by omega)))), hv9, by omega, by omega, by rw [List.length_set]; exact hLl, set_bd hLb (by omega) (by omega), hBl, ⟨(lN hh43 (lN hh41 hr0)), (lN hh43 (lS hh41)), (lS hh43), (lN hh43 (lN hh41 hr3))⟩, by omega, kU (kU (hkp) hh41) hh43⟩, ⟨(z16 (z16 q5)), (z16 (z16 q6)), (z16 (z16 q7)), (z16 (z16 q8)), (z16 (z16 q9)), (z16 (z16 q15)), (z16 (z16 q16)), (z16 (z16 q97)), (z16 (z16 q98)), ds⟩, by omega⟩
   refine k_exit (exK_same ?_)
   have hdr : (F a).drop m = [] := List.drop_eq_nil_of_le (by omega)
   rw [hdr] at hLv
   have hD2 := hLv.few
   rw [List.length_cons] at hD2
   exact ⟨ns.length - (D.length + 1), by omega, a :: D, S, Wt, L, B, v9, d9, hLv, hLM.done (by omega), ⟨hfan, hrd, hv9, hd9, hd9b, hLl, (fun x hx => by have := hLb x hx; rw [List.length_cons]; omega), hBl, ⟨hr0, hr1, hr2, hr3⟩, hnz, hkp⟩, ⟨(z1 q5), (z1 q6), (z1 q7), (z1 q8), (z1 q9), by rw [show (((a :: D).length : Nat) : Int) = ((D.length : Nat) : Int) + 1 from by simp]; exact (z1 q15)⟩, by rw [List.length_cons]; omega⟩
 refine k_exit (exK_same (k_seq (k_reg (m1 (z1 (z2 q5)) (m1 (z4 q7) (m1 (z1 (z4 q15)) (m1 (z2 ds) (m1 (z2 ds) (m1 (z2 ds) (r_nil (k_ret ?_)))))))))))
 have hS0 : S = [] := List.eq_nil_of_length_eq_zero (by omega)
 subst hS0
 have hall := all_done (E := eOf ns) (n := ns.length) (D := D) (fun i hi k hk => eOf_lt hG hi hk) (fun i hi => by have := hLv.zero i hi; simpa using this)
 have hup := LvUp.of hLl hLM (fun k hk => all_in (E := eOf ns) (n := ns.length) (D := D) (fun i hi k hk => eOf_lt hG hi hk) (fun i hi => by have := hLv.zero i hi; simpa using this) k hk) hcnt (fun i x hx k hk => ((hG.hang i x hx).1 k hk))
 exact ⟨_, ans_two (res_tmp (z2 ds) (res_tmp (z1 ds) (res_tmp ds res_nil))), _, L, _, _, rfl, by omega, by omega, hr1, hup, by omega, by omega, hkp⟩
end
section
variable [Env]
theorem ndOK.k7 {ns : List Nd} {x : Nd} (h : ndOK (x.ins.map (wdN ns)) x) (hk : x.kind = 7) : 1 ≤ x.ins.length := by
 have e : (x.ins.map (wdN ns)).length = x.ins.length := by simp
 rw [← e]
 obtain ⟨a, ha⟩ := (nodeP7 hk).1 h.2
 rw [ha]; simp
theorem LvN.of {ns : List Nd} (hg : NetG ns) (hf : ns.length ≤ 4096) (h0 : ∀ (i : Nat) (x : Nd), ns[i]? = some x → ∀ k ∈ hangs x, 0 ≤ k) : LvN ns :=
 ⟨hf, fun i x hx => ⟨fun k hk => ⟨h0 i x hx k hk, (hg i x hx).hang k hk⟩, (hg i x hx).few, (hg i x hx).ok.k7⟩⟩
theorem lrunL_ok {t : TB} {nx bd : Nat} {vn vt : AV} {p : Int} {ns : List Nd} {ts : List Int} (hN : RowN t bd vn ns) (hT : RowI t bd vt ts) (hb : bd ≤ nx) (hG : LvN ns) (hM : MayP ns ts p) (htl : ts.length < 9223372036854775808) (hlong : ∀ x ∈ ns, x.ins.length < 60000 ∧ (∀ c ∈ x.value, c < 256) ∧ x.value.length ≤ 9223372036854775807) :
   WF tb 52 [.agg [vn, vt, .int .i64 p]] t nx (fun v t' nx' => ∃ (d : Nat) (L : List Int), v = .tup [.slice d 0 ns.length ns.length 1 true, .int .i64 0] ∧ nx ≤ d ∧ d < nx' ∧ hv t' d = some (.row (ints L) true) ∧ LvUp ns L ∧ nx ≤ nx' ∧ Keep t t' nx (fun _ => False)) := by
 have hcn := hN.cell
 have hct := hT.cell
 have hfew := hG.few
 refine k_fun lrun__tab rfl ?_
 unfold lrun__c
 change WC _ _ (Bt.put (some _) Bt.e 0) _ _ _
 refine k_seq (k_reg (r_heap (o_box (eV get_same)) rfl (fun t1 (hh2 : hv t1 = upd (hv t) nx (some (.row [vn, vt, (.int .i64 p)] true))) => rO (o_mov ev_c) (rO (o_mov ev_c) (r_nil (k_seq (k_seq (k_reg (rO (o_loadA (n := 3) (eV (z2 ds)) (lS hh2) (leb rfl) rfl) (r_call (w_callF (evs_cons eZ evs_nil)) rfl (WF.mono (check_ok (hN.keep (fun d hd hw => (show Keep t t1 nx (fun _ => False) from kU kR hh2) d (by omega) hw) (Nat.le_refl bd)) (hT.keep (fun d hd hw => (show Keep t t1 nx (fun _ => False) from kU kR hh2) d (by omega) hw) (Nat.le_refl bd)) (by omega) (by omega) htl hlong) ?_)))))))))))
 rintro _ t3 n4 ⟨rk, rfl, hrk1, hrk2, hn_c, hk_c⟩
 have hrk0 := hrk2.2 hM
 by_cases hs5 : (rk = 0)
 · refine rO (ndec_f (o_neq eZ ev_c) hs5) (r_nil (k_cond_f eZ (k_skip (k_seq (k_reg (rO (o_loadA (n := 3) (eV (z1 (z4 ds))) (Keep.look hk_c (by omega) id (lS hh2)) (leb rfl) rfl) (r_call (w_callF (evs_cons eZ evs_nil)) rfl (WF.mono (levels_ok (hN.keep (fun d hd hw => (show Keep t t3 nx (fun _ => False) from Keep.trans (kU kR hh2) hk_c (by omega) (fun d _ h => h)) d (by omega) hw) (Nat.le_refl bd)) hct (by omega) hG) ?_))))))))
   rintro _ t6 n7 ⟨dl, L, u2, q, rfl, hdl1, hdl2, hrl, hup, hq_, hn_l, hk_l⟩
   refine m1 ds (rO (o_extr eZ rfl) (rO (o_extr (eV (z1 ds)) rfl) (rO (o_extr (eV (z2 ds)) rfl) (m1 (z2 ds) (m1 (z2 ds) (m1 (z2 ds) (r_nil (k_seq (k_seq (k_reg (m1 ds (rO (o_faddr (off := 0) (eV (z1 (z2 (z4 (z8 ds)))))) (rO (o_load eZ (Keep.look hk_l (by omega) id (Keep.look hk_c (by omega) id (lS hh2))) rfl) (rO (o_len_N hN eZ) ?_))))))))))))))
   by_cases hs8 : (q < ((ns.length : Nat) : Int))
   · refine rO (dec_t (o_lss (eV (z1 (z2 ds))) eZ) hs8) (r_nil (k_cond_t eZ (k_seq (k_reg (rO (o_mov ev_c) (rO (o_mov ev_c) (r_nil (k_ret ?_))))))))
     exfalso; omega
   refine rO (dec_f (o_lss (eV (z1 (z2 ds))) eZ) hs8) (r_nil (k_cond_f eZ (k_skip (k_seq (k_reg (m1 (z1 (z2 (z4 ds))) (m1 ds (rO (o_mov ev_c) (r_nil (k_ret ?_))))))))))
   exact ⟨_, ans_two (res_tmp (z1 ds) (res_tmp ds res_nil)), dl, L, rfl, by omega, by omega, hrl, hup, by omega, Keep.trans (Keep.trans (kU kR hh2) hk_c (by omega) (fun d _ h => h)) hk_l (by omega) (fun d _ h => h)⟩
 refine rO (ndec_t (o_neq eZ ev_c) hs5) (r_nil (k_cond_t eZ (k_seq (k_reg (rO (o_mov ev_c) (rO (o_mov ev_c) (r_nil (k_ret ?_))))))))
 exfalso; omega
theorem lrun_ok {t : TB} {nx bd : Nat} {vn vt : AV} {p : Int} {ns : List Nd} {ts : List Int} (hN : RowN t bd vn ns) (hT : RowI t bd vt ts) (hb : bd ≤ nx) (hG : LvN ns) (hM : MayP ns ts p) (htl : ts.length < 9223372036854775808) (hlong : ∀ x ∈ ns, x.ins.length < 60000 ∧ (∀ c ∈ x.value, c < 256) ∧ x.value.length ≤ 9223372036854775807) :
   WF tb 52 [.agg [vn, vt, .int .i64 p]] t nx (fun v t' nx' => ∃ lv, v = .tup [lv, .int .i64 0] ∧ nx ≤ nx' ∧ Keep t t' nx (fun _ => False)) := (lrunL_ok hN hT hb hG hM htl hlong).mono (fun v t' nx' ⟨d, L, h1, _, _, _, _, h2⟩ => ⟨_, h1, h2⟩)
end
section
variable [Env]
theorem o_subN {T : TA} {t : TB} {nx : Nat} {x y : Opd} {a b : Nat} (hx : x.ev T = some (.int .i64 (a : Int))) (hy : y.ev T = some (.int .i64 (b : Int))) (h : b ≤ a) (h2 : a < 9223372036854775808) : (IOp.bin .sub x y).run T t nx = .ok (.int .i64 ((a - b : Nat) : Int)) t nx := by
 rw [o_sub hx hy (by omega) (by omega)]; congr 2; omega
theorem o_mulN {T : TA} {t : TB} {nx : Nat} {x y : Opd} {a b : Nat} (hx : x.ev T = some (.int .i64 (a : Int))) (hy : y.ev T = some (.int .i64 (b : Int))) (h : a * b < 9223372036854775808) : (IOp.bin .mul x y).run T t nx = .ok (.int .i64 ((a * b : Nat) : Int)) t nx := by
 have e : (a : Int) * (b : Int) = ((a * b : Nat) : Int) := by simp
 rw [o_mul hx hy (by rw [e]; omega) (by rw [e]; omega), e]
theorem o_convN {T : TA} {t : TB} {nx : Nat} {x : Opd} {k k' : IntKind} {a : Nat} (hx : x.ev T = some (.int k (a : Int))) (h : a ≤ 9223372036854775807) (hk : 9223372036854775807 ≤ kMax k') : (IOp.conv k' x).run T t nx = .ok (.int k' (a : Int)) t nx := by
 have e : x.ev T = some (.int k (.ofNat a)) := hx
 simp only [IOp.run, e]
 rw [show wrapF k' (.ofNat a) = Int.ofNat a from by
   unfold wrapF; dsimp only; rw [show Nat.ble a (kMax k') = true from by simp; omega]]
 exact retV_ok' _ t nx
def g (l : List Int) (i : Nat) : Int := l.getD i 0
theorem g_set (l : List Int) (i j : Nat) (v : Int) : g (l.set i v) j = if i = j ∧ i < l.length then v else g l j := by
 unfold g
 rw [List.getD_eq_getElem?_getD, List.getD_eq_getElem?_getD, List.getElem?_set]
 by_cases h : i = j
 · subst h
   by_cases h2 : i < l.length
   · simp [h2]
   · simp [h2]
 · simp [h]
theorem g_at {l : List Int} {i : Nat} (h : i < l.length) : l[i]? = some (g l i) := by
 unfold g; rw [List.getD_eq_getElem?_getD, List.getElem?_eq_getElem h]; rfl
theorem g_ints {l : List Int} {i o n : Nat} (hl : l.length = n) (e : o = i) (h : i < n) : (ints l)[o]? = some (.int .i64 (g l i)) := by
 subst e; unfold ints; rw [List.getElem?_map, g_at (by omega)]; rfl
theorem g_mem {l : List Int} {i : Nat} (h : i < l.length) : g l i ∈ l := List.mem_of_getElem? (g_at h)
def sw (l : List Int) (i j : Nat) : List Int := (l.set i (g l j)).set j (g l i)
theorem sw_len (l : List Int) (i j : Nat) : (sw l i j).length = l.length := by simp [sw]
theorem g_sw {l : List Int} {i j : Nat} (hi : i < l.length) (hj : j < l.length) (m : Nat) : g (sw l i j) m = if m = j then g l i else if m = i then g l j else g l m := by
 unfold sw
 rw [g_set, g_set]
 by_cases h1 : m = j
 · subst h1; simp [hj]
 · rw [if_neg h1, if_neg (fun e => h1 e.1.symm)]
   by_cases h2 : m = i
   · subst h2; simp [hi]
   · rw [if_neg h2, if_neg (fun e => h2 e.1.symm)]
theorem sw_perm {l : List Int} {i j : Nat} (hi : i < l.length) (hj : j < l.length) : (sw l i j).Perm l := by
 have h := Array.swap_perm (xs := l.toArray) (i := i) (j := j) (by simpa using hi) (by simpa using hj)
 have e : (l.toArray.swap i j (by simpa using hi) (by simpa using hj)).toList = sw l i j := by
   unfold sw g
   simp [List.getD_eq_getElem?_getD, hi, hj]
 have := h.toList
 rw [e] at this
 simpa using this
/-- A list whose part from a up to b was turned about. -/
structure SegP (a b : Nat) (l l' : List Int) : Prop where
 len : l'.length = l.length
 out : ∀ i, i < a ∨ b ≤ i → g l' i = g l i
 from_ : ∀ i, a ≤ i → i < b → ∃ j, a ≤ j ∧ j < b ∧ g l' i = g l j
 perm : l'.Perm l
theorem SegP.refl (a b : Nat) (l : List Int) : SegP a b l l := ⟨rfl, fun _ _ => rfl, fun i h1 h2 => ⟨i, h1, h2, rfl⟩, List.Perm.refl _⟩
theorem SegP.trans {a b : Nat} {l l' l'' : List Int} (h : SegP a b l l') (k : SegP a b l' l'') : SegP a b l l'' :=
 ⟨k.len.trans h.len, fun i hi => (k.out i hi).trans (h.out i hi), fun i h1 h2 => by
   obtain ⟨j, h3, h4, h5⟩ := k.from_ i h1 h2
   obtain ⟨m, h6, h7, h8⟩ := h.from_ j h3 h4
   exact ⟨m, h6, h7, h5.trans h8⟩, k.perm.trans h.perm⟩
theorem SegP.wide {a b a' b' : Nat} {l l' : List Int} (h : SegP a b l l') (ha : a' ≤ a) (hb : b ≤ b') : SegP a' b' l l' :=
 ⟨h.len, fun i hi => h.out i (by omega), fun i h1 h2 => by
   by_cases hc : a ≤ i ∧ i < b
   · obtain ⟨j, h3, h4, h5⟩ := h.from_ i hc.1 hc.2
     exact ⟨j, by omega, by omega, h5⟩
   · exact ⟨i, h1, h2, h.out i (by omega)⟩, h.perm⟩
theorem SegP.sw {a b i j : Nat} {l : List Int} (hi : i < l.length) (hj : j < l.length) (h1 : a ≤ i) (h2 : i < b) (h3 : a ≤ j) (h4 : j < b) : SegP a b l (sw l i j) :=
 ⟨sw_len _ _ _, fun m hm => by rw [g_sw hi hj, if_neg (by omega), if_neg (by omega)], fun m h5 h6 => by
   rw [g_sw hi hj]
   split
   · exact ⟨i, h1, h2, rfl⟩
   · split
     · exact ⟨j, h3, h4, rfl⟩
     · exact ⟨m, h5, h6, rfl⟩, sw_perm hi hj⟩
theorem SegP.mem {a b : Nat} {l l' : List Int} (h : SegP a b l l') {D : Int → Prop} (hd : ∀ x ∈ l, D x) : ∀ x ∈ l', D x := fun x hx => hd x (h.perm.mem_iff.1 hx)
section
variable (k : Int → Int)
def Srt (l : List Int) (a b : Nat) : Prop := ∀ i j, a ≤ i → i < j → j < b → k (g l i) ≤ k (g l j)
end
variable {k : Int → Int}
theorem Srt.sub {l : List Int} {a b a' b' : Nat} (h : Srt k l a b) (h1 : a ≤ a') (h2 : b' ≤ b) : Srt k l a' b' := fun i j h3 h4 h5 => h i j (by omega) h4 (by omega)
theorem Srt.small {l : List Int} {a b : Nat} (h : b ≤ a + 1) : Srt k l a b := fun i j h3 h4 h5 => by omega
theorem Srt.out {l l' : List Int} {a b x y : Nat} (h : Srt k l x y) (hs : SegP a b l l') (hd : y ≤ a ∨ b ≤ x) : Srt k l' x y := fun i j h3 h4 h5 => by
 rw [hs.out i (by omega), hs.out j (by omega)]; exact h i j h3 h4 h5
/-- Sorted up to i, but that what stands at j may be less than what stands ahead of it. -/
def InsO (k : Int → Int) (l : List Int) (a j i : Nat) : Prop := ∀ p q, a ≤ p → p < q → q ≤ i → q ≠ j → k (g l p) ≤ k (g l q)
theorem InsO.start {l : List Int} {a i : Nat} (h : Srt k l a i) : InsO k l a i i := fun p q h1 h2 h3 h4 => h p q h1 h2 (by omega)
theorem InsO.step {l : List Int} {a j i : Nat} (h : InsO k l a j i) (h1 : a < j) (h2 : j ≤ i) (h3 : i < l.length) (hk : k (g l j) < k (g l (j - 1))) : InsO k (sw l j (j - 1)) a (j - 1) i := by
 intro p q hp hpq hq hne
 rw [g_sw (by omega) (by omega), g_sw (by omega) (by omega)]
 by_cases e1 : q = j
 · subst e1
   rw [if_neg (show ¬ q = q - 1 by omega), if_pos rfl]
   by_cases e2 : p = q - 1
   · rw [if_pos e2]; omega
   · rw [if_neg e2, if_neg (by omega)]
     exact h p (q - 1) hp (by omega) (by omega) (by omega)
 · rw [if_neg hne, if_neg e1]
   by_cases e2 : p = j - 1
   · rw [if_pos e2]; exact h j q (by omega) (by omega) hq (by omega)
   · rw [if_neg e2]
     by_cases e3 : p = j
     · rw [if_pos e3]; exact h (j - 1) q (by omega) (by omega) hq (by omega)
     · rw [if_neg e3]; exact h p q hp hpq hq e1
theorem InsO.done {l : List Int} {a j i : Nat} (h : InsO k l a j i) (hj : j ≤ a ∨ ¬ k (g l j) < k (g l (j - 1))) : Srt k l a (i + 1) := by
 intro p q hp hpq hq
 by_cases e : q = j
 · subst e
   rcases hj with hj | hj
   · omega
   · by_cases e2 : p = q - 1
     · rw [e2]; omega
     · have := h p (q - 1) hp (by omega) (by omega) (by omega); omega
 · exact h p q hp hpq (by omega) e
def swR (l : List Int) (p q c i : Nat) : Int := if p ≤ i ∧ i < p + c then g l (i - p + q) else if q ≤ i ∧ i < q + c then g l (i - q + p) else g l i
def rotA (l : List Int) (x m y i : Nat) : Int := if x ≤ i ∧ i < x + (y - m) then g l (i + (m - x)) else if x + (y - m) ≤ i ∧ i < y then g l (i - (y - m)) else g l i
def IsSw (l l' : List Int) (p q c : Nat) : Prop := ∀ i, g l' i = swR l p q c i
def IsRot (l l' : List Int) (x m y : Nat) : Prop := ∀ i, g l' i = rotA l x m y i
theorem IsSw.zero (l : List Int) (p q : Nat) : IsSw l l p q 0 := fun i => by unfold swR; rw [if_neg (by omega), if_neg (by omega)]
theorem IsSw.step {l l' : List Int} {p q c : Nat} (h : IsSw l l' p q c) (hp : p + c < l'.length) (hq : q + c < l'.length) (hd : p + c < q) : IsSw l (sw l' (p + c) (q + c)) p q (c + 1) := by
 intro i
 rw [g_sw hp hq, h, h, h]
 unfold swR
 repeat' split
 all_goals first | rfl | (exfalso; omega) | (congr 1; omega)
theorem IsRot.more {l l2 l' : List Int} {m i j : Nat} (h : IsSw l l2 (m - i) (m + j - i) i) (hr : IsRot l2 l' (m - i) m (m + (j - i))) (hi : i ≤ m) (hij : i < j) : IsRot l l' (m - i) m (m + j) := by
 intro q
 rw [hr q]
 unfold rotA
 rw [h, h, h]
 unfold swR
 repeat' split
 all_goals first | rfl | (exfalso; omega) | (congr 1; omega)
/-- Sorted blocks of a size: from the front up to a place; from a place on. -/
inductive Pre (k : Int → Int) (l : List Int) (bs : Nat) : Nat → Prop where
 | zero : Pre k l bs 0
 | step {a : Nat} : Pre k l bs a → Srt k l a (a + bs) → Pre k l bs (a + bs)
inductive Suf (k : Int → Int) (l : List Int) (bs n : Nat) : Nat → Prop where
 | last {a : Nat} : n ≤ a + bs → Srt k l a n → Suf k l bs n a
 | more {a : Nat} : Srt k l a (a + bs) → Suf k l bs n (a + bs) → Suf k l bs n a
theorem Pre.keep {l l' : List Int} {bs x y a : Nat} (h : Pre k l bs a) (hs : SegP x y l l') (ha : a ≤ x) : Pre k l' bs a := by
 induction h with
 | zero => exact .zero
 | step h1 h2 ih => exact .step (ih (by omega)) (h2.out hs (.inl ha))
theorem Suf.keep {l l' : List Int} {bs n x y a : Nat} (h : Suf k l bs n a) (hs : SegP x y l l') (ha : y ≤ a) : Suf k l' bs n a := by
 induction h with
 | last h1 h2 => exact .last h1 (h2.out hs (.inr ha))
 | more h1 h2 ih => exact .more (h1.out hs (.inr ha)) (ih (by omega))
theorem Pre.suf {l : List Int} {bs n a : Nat} (h : Pre k l bs a) (hs : Suf k l bs n a) : Suf k l bs n 0 := by
 induction h with
 | zero => exact hs
 | step h1 h2 ih => exact ih (.more h2 hs)
theorem Suf.one {l : List Int} {bs n a : Nat} (h : Suf k l bs n a) (ha : n ≤ a + 2 * bs) : Srt k l a (min (a + bs) n) ∧ Srt k l (a + bs) n := by
 cases h with
 | last h1 h2 => exact ⟨h2.sub (Nat.le_refl _) (by omega), Srt.small (by omega)⟩
 | more h1 h2 =>
   cases h2 with
   | last h3 h4 => exact ⟨h1.sub (Nat.le_refl _) (by omega), h4⟩
   | more h3 h4 => exact ⟨h1.sub (Nat.le_refl _) (by omega), h3.sub (Nat.le_refl _) (by omega)⟩
theorem Suf.all {l : List Int} {bs n : Nat} (h : Suf k l bs n 0) (hb : n ≤ bs) : Srt k l 0 n := by
 have := h.one (by omega)
 exact this.1.sub (Nat.le_refl _) (by omega)
/-- A comparison that tells which key is less, and leaves all but new memory as it is; while only the row d is turned. -/
def CmpOK (t0 : TB) (n0 d : Nat) (D : Int → Prop) (k : Int → Int) (cv : AV) : Prop := ∃ f a b, cv = .func f a b ∧ ∀ (x y : Int) (t : TB) (nx : Nat), D x → D y → n0 ≤ nx → Keep t0 t n0 (fun e => e = d) → WF tb f (a ++ ([.int .i64 x, .int .i64 y] ++ b)) t nx (fun v t' nx' => ∃ r : Int, v = .int .i64 r ∧ (r < 0 ↔ k x < k y) ∧ nx ≤ nx' ∧ Keep t t' nx (fun _ => False))
def isnan_r0 : LI := [.o 2 (.mov (.c (.bool false)))]
def isnan_r1 : LI := [.mv 3 0,
 .mv 4 0,
 .o 5 (.bin .neq (.t 3) (.t 4)),
 .mv 2 5]
def isnan_c : IC := (.seq (.reg isnan_r0) (.seq (.reg isnan_r1) .ret))
theorem isnan_tab : tb 105 = some (.code 1 6 isnan_c [.tmp 2]) := by kernel_rfl
def compare_r0 : LI := [.o 4 (.mov (kI 0))]
def compare_r1 : LI := [.mv 7 0,
 .f 8 105 [(.t 7)],
 .mv 5 8]
def compare_r2 : LI := [.mv 9 1,
 .f 10 105 [(.t 9)],
 .mv 6 10]
def compare_r3 : LI := [.mv 11 5]
def compare_r4 : LI := [.mv 12 6]
def compare_r5 : LI := [.o 4 (.mov (kI 0))]
def compare_r6 : LI := [.o 4 (.mov (kI (-1)))]
def compare_r7 : LI := [.mv 13 6]
def compare_r8 : LI := [.o 4 (.mov (kI 1))]
def compare_r9 : LI := [.mv 14 0,
 .mv 15 1,
 .o 16 (.bin .lss (.t 14) (.t 15))]
def compare_r10 : LI := [.o 4 (.mov (kI (-1)))]
def compare_r11 : LI := [.mv 17 0,
 .mv 18 1,
 .o 19 (.bin .gtr (.t 17) (.t 18))]
def compare_r12 : LI := [.o 4 (.mov (kI 1))]
def compare_r13 : LI := [.o 4 (.mov (kI 0))]
def compare_c : IC := (.seq (.reg compare_r0) (.seq (.reg compare_r1) (.seq (.reg compare_r2) (.seq (.seq (.reg compare_r3) (.cond (.t 11) (.seq (.seq (.reg compare_r4) (.cond (.t 12) (.seq (.reg compare_r5) .ret) .skip)) (.seq (.reg compare_r6) .ret)) .skip)) (.seq (.seq (.reg compare_r7) (.cond (.t 13) (.seq (.reg compare_r8) .ret) .skip)) (.seq (.seq (.reg compare_r9) (.cond (.t 16) (.seq (.reg compare_r10) .ret) .skip)) (.seq (.seq (.reg compare_r11) (.cond (.t 19) (.seq (.reg compare_r12) .ret) .skip)) (.seq (.reg compare_r13) .ret))))))))
theorem compare_tab : tb 51 = some (.code 2 20 compare_c [.tmp 4]) := by kernel_rfl
theorem isnan_ok {t : TB} {nx : Nat} (a : Int) : WF tb 105 [.int .i64 a] t nx (fun v t' nx' => v = .bool false ∧ nx ≤ nx' ∧ Keep t t' nx (fun _ => False)) := by
 refine k_fun isnan_tab rfl ?_
 unfold isnan_c
 change WC _ _ (Bt.put (some _) Bt.e 0) _ _ _
 refine k_seq (k_reg (rO (o_mov ev_c) (r_nil (k_seq (k_reg (m1 (z1 get_same) (m1 (z2 get_same) ?_)))))))
 by_cases hs1 : (a = a)
 · refine rO (ndec_f (o_neq (eV (z1 ds)) eZ) hs1) (m1 ds (r_nil (k_ret ?_)))
   exact ⟨_, ans_tmp ds, rfl, by omega, kR⟩
 refine rO (ndec_t (o_neq (eV (z1 ds)) eZ) hs1) (m1 ds (r_nil (k_ret ?_)))
 exact absurd rfl (by assumption)
theorem compare_ok {t : TB} {nx : Nat} (a b : Int) : WF tb 51 [.int .i64 a, .int .i64 b] t nx (fun v t' nx' => ∃ r : Int, v = .int .i64 r ∧ (a < b ∧ r = -1 ∨ a = b ∧ r = 0 ∨ b < a ∧ r = 1) ∧ nx ≤ nx' ∧ Keep t t' nx (fun _ => False)) := by
 refine k_fun compare_tab rfl ?_
 unfold compare_c
 change WC _ _ (Bt.put (some _) (Bt.put (some _) Bt.e 0) 1) _ _ _
 refine k_seq (k_reg (rO (o_mov ev_c) (r_nil (k_seq (k_reg (m1 (z1 (get_other rfl get_same)) (r_call (w_callF (evs_cons eZ evs_nil)) rfl (WF.mono (isnan_ok a) ?_))))))))
 rintro _ t1 n2 ⟨rfl, hn1, hk1⟩
 refine m1 ds (r_nil (k_seq (k_reg (m1 (z4 get_same) (r_call (w_callF (evs_cons eZ evs_nil)) rfl (WF.mono (isnan_ok b) ?_))))))
 rintro _ t3 n4 ⟨rfl, hn2, hk2⟩
 refine m1 ds (r_nil (k_seq (k_seq (k_reg (m1 (z1 (z2 ds)) (r_nil (k_cond_f eZ (k_skip (k_seq (k_seq (k_reg (m1 (z1 ds) (r_nil (k_cond_f eZ (k_skip (k_seq (k_seq (k_reg (m1 (z1 (z8 (get_other rfl get_same))) (m1 (z2 (z8 get_same)) (rO (o_lss (eV (z1 ds)) eZ) (r_nil ?_))))))))))))))))))))))
 refine k_if eZ (fun hc5 => ?_) (fun hc5 => ?_)
 · refine k_seq (k_reg (rO (o_mov ev_c) (r_nil (k_ret ?_))))
   exact ⟨_, ans_tmp ds, _, rfl, by omega, by omega, Keep.trans (Keep.trans kR hk1 (by omega) (fun d _ h => h)) hk2 (by omega) (fun d _ h => h)⟩
 refine k_skip (k_seq (k_seq (k_reg (m1 (z4 (z8 (get_other rfl get_same))) (m1 (z1 (z4 (z8 get_same))) (rO (o_gtr (eV (z1 ds)) eZ) (r_nil ?_)))))))
 refine k_if eZ (fun hc6 => ?_) (fun hc6 => ?_)
 · refine k_seq (k_reg (rO (o_mov ev_c) (r_nil (k_ret ?_))))
   exact ⟨_, ans_tmp ds, _, rfl, by omega, by omega, Keep.trans (Keep.trans kR hk1 (by omega) (fun d _ h => h)) hk2 (by omega) (fun d _ h => h)⟩
 refine k_skip (k_seq (k_reg (rO (o_mov ev_c) (r_nil (k_ret ?_)))))
 exact ⟨_, ans_tmp ds, _, rfl, by omega, by omega, Keep.trans (Keep.trans kR hk1 (by omega) (fun d _ h => h)) hk2 (by omega) (fun d _ h => h)⟩
def ins_r0 : LI := [.mv 10 1,
 .o 11 (.bin .add (.t 10) (kI 1)),
 .mv 8 11]
def ins_r1 : LI := [.mv 12 8,
 .mv 13 2,
 .o 14 (.bin .lss (.t 12) (.t 13))]
def ins_r2 : LI := [.mv 17 8,
 .mv 9 17]
def ins_r3 : List DIns := [⟨0, [], .mv 18 9⟩,
 ⟨1, [], .mv 19 1⟩,
 ⟨2, [0, 1], .o 20 (.bin .gtr (.t 18) (.t 19))⟩,
 ⟨3, [2], .mv 21 20⟩,
 ⟨4, [3], .g 22 21 true (.mov (.t 3))⟩,
 ⟨5, [3], .g 23 21 true (.mov (.t 0))⟩,
 ⟨6, [3], .g 24 21 true (.mov (.t 9))⟩,
 ⟨7, [5, 6, 3], .g 25 21 true (.iaddr 1 (.t 23) (.t 24))⟩,
 ⟨8, [7, 3], .g 26 21 true (.load (.t 25))⟩,
 ⟨9, [3], .g 27 21 true (.mov (.t 0))⟩,
 ⟨10, [3], .g 28 21 true (.mov (.t 9))⟩,
 ⟨11, [10, 3], .g 29 21 true (.bin .sub (.t 28) (kI 1))⟩,
 ⟨12, [9, 11, 3], .g 30 21 true (.iaddr 1 (.t 27) (.t 29))⟩,
 ⟨13, [12, 3], .g 31 21 true (.load (.t 30))⟩,
 ⟨14, [4, 8, 13, 3, 3], ⟨(some 32), (some (21, true)), (.callV (.t 22) [(.t 26), (.t 31)])⟩⟩,
 ⟨15, [14, 3], .g 33 21 true (.bin .lss (.t 32) (kI 0))⟩,
 ⟨16, [3, 15], .o 34 (.pick (.t 21) (.t 33) (.c (.bool false)))⟩]
def ins_r4 : List DIns := [⟨0, [], .mv 37 0⟩,
 ⟨1, [], .mv 38 9⟩,
 ⟨2, [], .mv 39 0⟩,
 ⟨3, [], .mv 40 9⟩,
 ⟨4, [3], .o 41 (.bin .sub (.t 40) (kI 1))⟩,
 ⟨5, [], .mv 42 0⟩,
 ⟨6, [], .mv 43 9⟩,
 ⟨7, [6], .o 44 (.bin .sub (.t 43) (kI 1))⟩,
 ⟨8, [5, 7], .o 45 (.iaddr 1 (.t 42) (.t 44))⟩,
 ⟨9, [8], .o 46 (.load (.t 45))⟩,
 ⟨10, [], .mv 47 0⟩,
 ⟨11, [], .mv 48 9⟩,
 ⟨12, [10, 11], .o 49 (.iaddr 1 (.t 47) (.t 48))⟩,
 ⟨13, [12], .o 50 (.load (.t 49))⟩,
 ⟨14, [0, 1, 0, 1, 5, 6, 7, 8, 9, 13], .o 51 (.iaddr 1 (.t 37) (.t 38))⟩,
 ⟨15, [14, 9, 0, 1, 5, 6, 7, 8, 9, 13], .x (.store 1 (.t 51) (.t 46))⟩,
 ⟨16, [2, 4, 0, 1, 2, 3, 4, 5, 6, 7, 8, 9, 10, 11, 12, 13, 14, 15], .o 52 (.iaddr 1 (.t 39) (.t 41))⟩,
 ⟨17, [16, 13, 15, 0, 1, 2, 3, 4, 5, 6, 7, 8, 9, 10, 11, 12, 13, 14, 15], .x (.store 1 (.t 52) (.t 50))⟩]
def ins_r5 : LI := [.mv 35 9,
 .o 36 (.bin .sub (.t 35) (kI 1)),
 .mv 9 36]
def ins_r6 : LI := [.mv 15 8,
 .o 16 (.bin .add (.t 15) (kI 1)),
 .mv 8 16]
def ins_c : IC := (.seq (.reg ins_r0) (.block 0 (.loop (.seq (.seq (.reg ins_r1) (.cond (.t 14) .skip (.exit 0))) (.seq (.block 1 (.seq (.reg ins_r2) (.block 2 (.loop (.seq (.seq (.draw ins_r3) (.cond (.t 34) .skip (.exit 2))) (.seq (.block 3 (.draw ins_r4)) (.reg ins_r5))))))) (.reg ins_r6))))))
theorem ins_tab : tb 167 = some (.code 4 53 ins_c []) := by kernel_rfl
set_option maxHeartbeats 4000000 in
theorem ins_ok {t : TB} {nx d n c : Nat} {ex : Bool} {l : List Int} (hl : l.length = n) (hr : hv t d = some (.row (ints l) true)) (hd : d < nx) (hn : n < 1152921504606846976) {t0 : TB} {n0 : Nat} {D : Int → Prop} {k : Int → Int} {cv : AV} (hcm : CmpOK t0 n0 d D k cv) (hn0 : n0 ≤ nx) (hd0 : d < n0) (hk0 : Keep t0 t n0 (fun e => e = d)) (hD : ∀ x ∈ l, D x) {a b : Nat} (hab : a ≤ b) (hbn : b ≤ n) : WF tb 167 [.slice d 0 n c 1 ex, .int .i64 (a : Int), .int .i64 (b : Int), cv] t nx (fun v t' nx' => ∃ l' : List Int, v = .tup [] ∧ l'.length = n ∧ hv t' d = some (.row (ints l') true) ∧ SegP a b l l' ∧ Srt k l' a b ∧ nx ≤ nx' ∧ Keep t t' nx (fun e => e = d)) := by
 obtain ⟨cf, ca, cb, rfl, hcf⟩ := hcm
 refine k_fun ins_tab rfl ?_
 unfold ins_c
 change WC _ _ (Bt.put (some _) (Bt.put (some _) (Bt.put (some _) (Bt.put (some _) Bt.e 0) 1) 2) 3) _ _ _
 refine k_seq (k_reg (m1 (get_other rfl (get_other rfl get_same)) (rO (o_addN (a := a) (b := 1) eZ ev_c (by omega)) (m1 ds (r_nil (k_block (k_loop (fun mm Tv tv nv => ∃ (i : Nat) (l1 : List Int), a + 1 ≤ i ∧ (i ≤ b ∨ i = a + 1) ∧ Srt k l1 a i ∧ SegP a b l l1 ∧ l1.length = n ∧ hv tv d = some (.row (ints l1) true) ∧ (Tv.get 0 = some (.slice d 0 n c 1 ex) ∧ Tv.get 1 = some (.int .i64 ((a : Nat) : Int)) ∧ Tv.get 2 = some (.int .i64 ((b : Nat) : Int)) ∧ Tv.get 3 = some (.func cf ca cb) ∧ Tv.get 8 = some (.int .i64 ((i : Nat) : Int))) ∧ nx ≤ nv ∧ Keep t tv nx (fun e => e = d) ∧ mm + i = b + 1) (fun mm Tv tv nv hI => ?_) ((b - a)) ⟨a + 1, l, by omega, by omega, Srt.small (by omega), SegP.refl _ _ _, hl, hr, ⟨(z1 (z2 (get_other rfl (get_other rfl (get_other rfl get_same))))), (z1 (z2 (get_other rfl (get_other rfl get_same)))), (z1 (z2 (get_other rfl get_same))), (z1 (z2 get_same)), ds⟩, by omega, kR, by omega⟩)))))))
 obtain ⟨i, l1, hi1, hi2, hsv, hsgv, hlv, hrv, ⟨qv0, qv1, qv2, qv3, qv8⟩, hnv, hkv, hmm⟩ := hI
 refine k_seq (k_seq (k_reg (m1 qv8 (m1 (z1 qv2) (rO (o_lss (eV (z1 ds)) eZ) (r_nil ?_))))))
 refine k_if eZ (fun hc1 => ?_) (fun hc1 => ?_)
 · refine k_skip (k_seq (k_block (k_seq (k_reg (m1 (z1 (z2 qv8)) (m1 ds (r_nil (k_block (k_loop (fun mm Tu tu nu => ∃ (j : Nat) (l2 : List Int), a ≤ j ∧ j ≤ i ∧ InsO k l2 a j i ∧ SegP a b l l2 ∧ l2.length = n ∧ hv tu d = some (.row (ints l2) true) ∧ (Tu.get 0 = some (.slice d 0 n c 1 ex) ∧ Tu.get 1 = some (.int .i64 ((a : Nat) : Int)) ∧ Tu.get 2 = some (.int .i64 ((b : Nat) : Int)) ∧ Tu.get 3 = some (.func cf ca cb) ∧ Tu.get 8 = some (.int .i64 ((i : Nat) : Int)) ∧ Tu.get 9 = some (.int .i64 ((j : Nat) : Int))) ∧ nx ≤ nu ∧ Keep t tu nx (fun e => e = d) ∧ mm + a = j) (fun mm Tu tu nu hI => ?_) ((i - a)) ⟨i, l1, by omega, by omega, InsO.start hsv, hsgv, hlv, hrv, ⟨(z1 (z4 qv0)), (z1 (z4 qv1)), (z1 (z4 qv2)), (z1 (z4 qv3)), (z1 (z4 qv8)), ds⟩, by omega, hkv, by omega⟩)))))))))
   obtain ⟨j, l2, hj1, hj2, hins, hsgu, hlu, hru, ⟨qu0, qu1, qu2, qu3, qu8, qu9⟩, hnu, hku, hmm⟩ := hI
   refine k_seq (k_seq (k_draw (e_opT (on := []) gon_nil 0 rfl (o_mov (eV qu9)) rfl (e_opT (on := []) gon_nil 1 rfl (o_mov (eV (z1 qu1))) rfl ?_))))
   by_cases hs2 : (((a : Nat) : Int) < ((j : Nat) : Int))
   · refine e_opT (on := []) gon_nil 2 rfl (dec_t (o_gtr (eV (z1 ds)) eZ) hs2) rfl (e_opT (on := []) gon_nil 3 rfl (o_mov eZ) rfl (e_opT (on := [(21, true)]) (gon_cons (want_on ds) gon_nil) 4 rfl (o_mov (eV (z4 qu3))) (want_on ds) (e_opT (on := [(21, true)]) (gon_cons (want_on (z1 ds)) gon_nil) 5 rfl (o_mov (eV (z1 (z4 qu0)))) (want_on (z1 ds)) (e_opT (on := [(21, true)]) (gon_cons (want_on (z2 ds)) gon_nil) 6 rfl (o_mov (eV (z2 (z4 qu9)))) (want_on (z2 ds)) (e_opT (on := [(21, true)]) (gon_cons (want_on (z1 (z2 ds))) gon_nil) 7 rfl (o_iaddr1 (i := j) (eV (z1 ds)) eZ (by omega)) (want_on (z1 (z2 ds))) (e_opT (on := [(21, true)]) (gon_cons (want_on (z4 ds)) gon_nil) 8 rfl (o_load eZ hru (g_ints hlu rfl (by omega))) (want_on (z4 ds)) (e_opT (on := [(21, true)]) (gon_cons (want_on (z1 (z4 ds))) gon_nil) 9 rfl (o_mov (eV (z1 (z8 qu0)))) (want_on (z1 (z4 ds))) (e_opT (on := [(21, true)]) (gon_cons (want_on (z2 (z4 ds))) gon_nil) 10 rfl (o_mov (eV (z2 (z8 qu9)))) (want_on (z2 (z4 ds))) (e_opT (on := [(21, true)]) (gon_cons (want_on (z1 (z2 (z4 ds)))) gon_nil) 11 rfl (o_subN (a := j) (b := 1) eZ ev_c (by omega) (by omega)) (want_on (z1 (z2 (z4 ds)))) (e_opT (on := [(21, true)]) (gon_cons (want_on (z8 ds)) gon_nil) 12 rfl (o_iaddr1 (i := (j - 1)) (eV (z2 ds)) eZ (by omega)) (want_on (z8 ds)) (e_opT (on := [(21, true)]) (gon_cons (want_on (z1 (z8 ds))) gon_nil) 13 rfl (o_load eZ hru (g_ints hlu rfl (by omega))) (want_on (z1 (z8 ds))) ?_)))))))))))
     refine d_callT (on := [(21, true)]) (gon_cons (want_on (z2 (z8 ds))) gon_nil) (ix := 14) (pr := [4, 8, 13, 3, 3]) (d := (some 32)) (g := (some (21, true))) (F' := []) (w_callV (eV (z1 (z8 ds))) (evs_cons (eV (z1 (z4 ds))) (evs_cons eZ evs_nil))) (want_on (z2 (z8 ds))) (by kernel_rfl) (by kernel_rfl) (by kernel_rfl) (by kernel_rfl) (WF.mono (hcf (g l2 j) (g l2 (j - 1)) _ _ (hsgu.mem hD _ (g_mem (by rw [hlu]; omega))) (hsgu.mem hD _ (g_mem (by rw [hlu]; omega))) (by omega) (Keep.trans hk0 (hku) (by omega) (fun _ _ h => h))) ?_)
     rintro _ t3 n4 ⟨rcc, rfl, hrkc, hn_cc, hk_cc⟩
     refine ⟨?_, ?_⟩
     · exact all_nil_
     refine e_opT (on := [(21, true)]) (gon_cons (want_on (z1 (z2 (z8 ds)))) gon_nil) 15 rfl (o_lss eZ ev_c) (want_on (z1 (z2 (z8 ds)))) (e_opT (on := [(21, true)]) (gon_cons (want_on (z4 (z8 ds))) gon_nil) 16 rfl (o_pick_t (eV (z4 (z8 ds))) eZ) rfl (e_done ?_))
     refine k_if eZ (fun hc5 => ?_) (fun hc5 => ?_)
     · refine k_skip (k_seq (k_block (k_draw (eO 0 rfl (o_mov (eV (z1 (z16 qu0)))) (eO 1 rfl (o_mov (eV (z2 (z16 qu9)))) (eO 2 rfl (o_mov (eV (z1 (z2 (z16 qu0))))) (eO 3 rfl (o_mov (eV (z4 (z16 qu9)))) (eO 4 rfl (o_subN (a := j) (b := 1) eZ ev_c (by omega) (by omega)) (eO 5 rfl (o_mov (eV (z2 (z4 (z16 qu0))))) (eO 6 rfl (o_mov (eV (z1 (z2 (z4 (z16 qu9)))))) (eO 7 rfl (o_subN (a := j) (b := 1) eZ ev_c (by omega) (by omega)) (eO 8 rfl (o_iaddr1 (i := (j - 1)) (eV (z2 ds)) eZ (by omega)) (eO 9 rfl (o_load eZ (Keep.look hk_cc (by omega) id hru) (g_ints hlu rfl (by omega))) (eO 10 rfl (o_mov (eV (z1 (z2 (z8 (z16 qu0)))))) (eO 11 rfl (o_mov (eV (z4 (z8 (z16 qu9))))) (eO 12 rfl (o_iaddr1 (i := j) (eV (z1 ds)) eZ (by omega)) (eO 13 rfl (o_load eZ (Keep.look hk_cc (by omega) id hru) (g_ints hlu rfl (by omega))) (eO 14 rfl (o_iaddr1 (i := j) (eV (z1 (z4 (z8 ds)))) (eV (z4 (z8 ds))) (by omega)) ?_))))))))))))))))))
       refine d_heap (ix := 15) (pr := [14, 9, 0, 1, 5, 6, 7, 8, 9, 13]) (d := none) (g := none) (F' := [(⟨4, [3], .o 41 (.bin .sub (.t 40) (kI 1))⟩, (.int .i64 ((j - 1 : Nat) : Int))), (⟨3, [], .mv 40 9⟩, (.int .i64 ((j : Nat) : Int))), (⟨2, [], .mv 39 0⟩, (.slice d 0 n c 1 ex))]) (o := (.store 1 (.t 51) (.t 46))) (o_storeI (l := l2) eZ (eV (z1 (z4 ds))) (Keep.look hk_cc (by omega) id hru) (by (try simp only [List.length_set]); omega)) rfl (by kernel_rfl) (by kernel_rfl) (by kernel_rfl) (by kernel_rfl) (fun t6 (hh7 : hv t6 = upd (hv t3) d (some (.row (ints (l2.set j (g l2 (j - 1)))) true))) => ⟨?_, ?_⟩)
       · exact (all_cons_ (still_op rfl rfl (o_subN (a := j) (b := 1) (eV (z4 (z8 ds))) ev_c (by omega) (by omega)) (aeq_flat rfl)) (all_cons_ (still_op rfl rfl (o_mov (eV (z1 (z16 (z16 qu9))))) (aeq_flat rfl)) (all_cons_ (still_op rfl rfl (o_mov (eV (z1 (z16 (z16 qu0))))) (aeq_flat rfl)) all_nil_)))
       refine eO 16 rfl (o_iaddr1 (i := (j - 1)) (eV (z1 (z4 (z8 ds)))) (eV (z1 (z2 (z8 ds)))) (by omega)) ?_
       refine d_heap (ix := 17) (pr := [16, 13, 15, 0, 1, 2, 3, 4, 5, 6, 7, 8, 9, 10, 11, 12, 13, 14, 15]) (d := none) (g := none) (F' := []) (o := (.store 1 (.t 52) (.t 50))) (o_storeI (l := (l2.set j (g l2 (j - 1)))) eZ (eV (z1 (z2 ds))) (lS hh7) (by (try simp only [List.length_set]); omega)) rfl (by kernel_rfl) (by kernel_rfl) (by kernel_rfl) (by kernel_rfl) (fun t8 (hh9 : hv t8 = upd (hv t6) d (some (.row (ints ((l2.set j (g l2 (j - 1))).set (j - 1) (g l2 j))) true))) => ⟨?_, ?_⟩)
       · exact all_nil_
       refine e_done (k_reg (m1 (z1 (z2 (z16 (z16 qu9)))) (rO (o_subN (a := j) (b := 1) eZ ev_c (by omega) (by omega)) (m1 ds (r_nil ?_)))))
       exact ⟨mm - 1, by omega, j - 1, sw l2 j (j - 1), by omega, by omega, hins.step (by omega) (by omega) (by omega) (hrkc.1 (by assumption)), hsgu.trans (SegP.sw (by omega) (by omega) (by omega) (by omega) (by omega) (by omega)), by rw [sw_len]; exact hlu, (lS hh9), ⟨(z2 (z4 (z16 (z16 qu0)))), (z2 (z4 (z16 (z16 qu1)))), (z2 (z4 (z16 (z16 qu2)))), (z2 (z4 (z16 (z16 qu3)))), (z2 (z4 (z16 (z16 qu8)))), ds⟩, by omega, Keep.upd (Keep.upd (Keep.trans (hku) hk_cc (by omega) (fun _ _ h => h.elim)) hh7 (.inr rfl)) hh9 (.inr rfl), by omega⟩
     refine k_exit (exK_same (k_reg (m1 (z1 (z16 qu8)) (rO (o_addN (a := i) (b := 1) eZ ev_c (by omega)) (m1 ds (r_nil ?_))))))
     have hso : Srt k l2 a (i + 1) := by first | exact hins.done (.inl (by omega)) | exact hins.done (.inr (fun h_ => by have := hrkc.2 h_; omega))
     exact ⟨b - i, by omega, i + 1, l2, by omega, by omega, hso, hsgu, hlu, (Keep.look hk_cc (by omega) id hru), ⟨(z4 (z16 qu0)), (z4 (z16 qu1)), (z4 (z16 qu2)), (z4 (z16 qu3)), ds⟩, by omega, Keep.trans (hku) hk_cc (by omega) (fun _ _ h => h.elim), by omega⟩
   refine e_opT (on := []) gon_nil 2 rfl (dec_f (o_gtr (eV (z1 ds)) eZ) hs2) rfl (e_opT (on := []) gon_nil 3 rfl (o_mov eZ) rfl (e_offT (on := []) gon_nil 4 rfl (wN ds) (e_offT (on := []) gon_nil 5 rfl (wN (z1 ds)) (e_offT (on := []) gon_nil 6 rfl (wN (z2 ds)) (e_offT (on := []) gon_nil 7 rfl (wN (z1 (z2 ds))) (e_offT (on := []) gon_nil 8 rfl (wN (z4 ds)) (e_offT (on := []) gon_nil 9 rfl (wN (z1 (z4 ds))) (e_offT (on := []) gon_nil 10 rfl (wN (z2 (z4 ds))) (e_offT (on := []) gon_nil 11 rfl (wN (z1 (z2 (z4 ds)))) (e_offT (on := []) gon_nil 12 rfl (wN (z8 ds)) (e_offT (on := []) gon_nil 13 rfl (wN (z1 (z8 ds))) (e_offT (on := []) gon_nil 14 rfl (wN (z2 (z8 ds))) (e_offT (on := []) gon_nil 15 rfl (wN (z1 (z2 (z8 ds)))) (e_opT (on := []) gon_nil 16 rfl (o_pick_f (eV (z4 (z8 ds))) ev_c) rfl (e_done (k_cond_f eZ (k_exit (exK_same (k_reg (m1 (z1 (z16 qu8)) (rO (o_addN (a := i) (b := 1) eZ ev_c (by omega)) (m1 ds (r_nil ?_)))))))))))))))))))))))
   have hso : Srt k l2 a (i + 1) := by first | exact hins.done (.inl (by omega)) | exact hins.done (.inr (fun h_ => by have := hrkc.2 h_; omega))
   exact ⟨b - i, by omega, i + 1, l2, by omega, by omega, hso, hsgu, hlu, hru, ⟨(z4 (z16 qu0)), (z4 (z16 qu1)), (z4 (z16 qu2)), (z4 (z16 qu3)), ds⟩, by omega, hku, by omega⟩
 refine k_exit (exK_same ?_)
 exact ⟨_, ans_none, l1, rfl, hlv, hrv, hsgv, hsv.sub (Nat.le_refl _) (by omega), by omega, hkv⟩
def stb_r0 : LI := [.o 6 (.mov (kI 20))]
def stb_r1 : LI := [.mv 10 6,
 .o 7 (.mov (kI 0)),
 .mv 8 10]
def stb_r2 : LI := [.mv 11 8,
 .mv 12 1,
 .o 13 (.bin .leq (.t 11) (.t 12))]
def stb_r3 : LI := [.mv 14 0,
 .mv 15 7,
 .mv 16 8,
 .mv 17 2,
 .f 18 167 [(.t 14), (.t 15), (.t 16), (.t 17)]]
def stb_r4 : LI := [.mv 19 8,
 .mv 7 19]
def stb_r5 : LI := [.mv 20 8,
 .mv 21 6,
 .o 22 (.bin .add (.t 20) (.t 21)),
 .mv 8 22]
def stb_r6 : LI := [.mv 23 0,
 .mv 24 7,
 .mv 25 1,
 .mv 26 2,
 .f 27 167 [(.t 23), (.t 24), (.t 25), (.t 26)]]
def stb_r7 : LI := [.mv 28 6,
 .mv 29 1,
 .o 30 (.bin .lss (.t 28) (.t 29))]
def stb_r8 : LI := [.mv 31 6,
 .o 32 (.bin .mul (kI 2) (.t 31)),
 .o 7 (.mov (kI 0)),
 .mv 8 32]
def stb_r9 : LI := [.mv 33 8,
 .mv 34 1,
 .o 35 (.bin .leq (.t 33) (.t 34))]
def stb_r10 : LI := [.mv 36 0,
 .mv 37 7,
 .mv 38 7,
 .mv 39 6,
 .o 40 (.bin .add (.t 38) (.t 39)),
 .mv 41 8,
 .mv 42 2,
 .f 43 168 [(.t 36), (.t 37), (.t 40), (.t 41), (.t 42)]]
def stb_r11 : LI := [.mv 44 8,
 .mv 7 44]
def stb_r12 : LI := [.mv 45 8,
 .mv 46 6,
 .o 47 (.bin .mul (kI 2) (.t 46)),
 .o 48 (.bin .add (.t 45) (.t 47)),
 .mv 8 48]
def stb_r13 : LI := [.mv 49 7,
 .mv 50 6,
 .o 51 (.bin .add (.t 49) (.t 50)),
 .mv 9 51]
def stb_r14 : LI := [.mv 52 9,
 .mv 53 1,
 .o 54 (.bin .lss (.t 52) (.t 53))]
def stb_r15 : LI := [.mv 55 0,
 .mv 56 7,
 .mv 57 9,
 .mv 58 1,
 .mv 59 2,
 .f 60 168 [(.t 55), (.t 56), (.t 57), (.t 58), (.t 59)]]
def stb_r16 : LI := [.mv 61 6,
 .o 62 (.bin .mul (.t 61) (kI 2)),
 .mv 6 62]
def stb_c : IC := (.seq (.reg stb_r0) (.seq (.reg stb_r1) (.seq (.block 0 (.loop (.seq (.seq (.reg stb_r2) (.cond (.t 13) .skip (.exit 0))) (.block 1 (.seq (.reg stb_r3) (.seq (.reg stb_r4) (.reg stb_r5))))))) (.seq (.reg stb_r6) (.block 2 (.loop (.seq (.seq (.reg stb_r7) (.cond (.t 30) .skip (.exit 2))) (.block 3 (.seq (.reg stb_r8) (.seq (.block 4 (.loop (.seq (.seq (.reg stb_r9) (.cond (.t 35) .skip (.exit 4))) (.block 5 (.seq (.reg stb_r10) (.seq (.reg stb_r11) (.reg stb_r12))))))) (.seq (.seq (.reg stb_r13) (.seq (.reg stb_r14) (.cond (.t 54) (.reg stb_r15) .skip))) (.reg stb_r16))))))))))))
theorem stb_tab : tb 118 = some (.code 3 63 stb_c []) := by kernel_rfl
set_option maxHeartbeats 4000000 in
theorem stb_ok {t : TB} {nx d n c : Nat} {ex : Bool} {l : List Int} (hl : l.length = n) (hr : hv t d = some (.row (ints l) true)) (hd : d < nx) (hn : n < 1152921504606846976) {t0 : TB} {n0 : Nat} {D : Int → Prop} {k : Int → Int} {cv : AV} (hcm : CmpOK t0 n0 d D k cv) (hn0 : n0 ≤ nx) (hd0 : d < n0) (hk0 : Keep t0 t n0 (fun e => e = d)) (hD : ∀ x ∈ l, D x) (hsm : n < 20) : WF tb 118 [.slice d 0 n c 1 ex, .int .i64 (n : Int), cv] t nx (fun v t' nx' => ∃ l' : List Int, v = .tup [] ∧ l'.length = n ∧ hv t' d = some (.row (ints l') true) ∧ SegP 0 n l l' ∧ Srt k l' 0 n ∧ nx ≤ nx' ∧ Keep t t' nx (fun e => e = d)) := by
 refine k_fun stb_tab rfl ?_
 unfold stb_c
 change WC _ _ (Bt.put (some _) (Bt.put (some _) (Bt.put (some _) Bt.e 0) 1) 2) _ _ _
 refine k_seq (k_reg (rO (o_mov ev_c) (r_nil (k_seq (k_reg (m1 ds (rO (o_mov ev_c) (m1 (z1 ds) (r_nil (k_seq (k_block (k_loop (fun mm Tv tv nv => ∃ (a : Nat) (l1 : List Int), a ≤ n ∧ Pre k l1 20 a ∧ SegP 0 n l l1 ∧ l1.length = n ∧ hv tv d = some (.row (ints l1) true) ∧ (Tv.get 0 = some (.slice d 0 n c 1 ex) ∧ Tv.get 1 = some (.int .i64 ((n : Nat) : Int)) ∧ Tv.get 2 = some cv ∧ Tv.get 6 = some (.int .i64 20) ∧ Tv.get 7 = some (.int .i64 ((a : Nat) : Int)) ∧ Tv.get 8 = some (.int .i64 (((a + 20) : Nat) : Int))) ∧ nx ≤ nv ∧ Keep t tv nx (fun e => e = d) ∧ mm + a = n) (fun mm Tv tv nv hI => ?_) (n) ⟨0, l, by omega, .zero, SegP.refl _ _ _, hl, hr, ⟨(z4 (get_other rfl (get_other rfl get_same))), (z4 (get_other rfl get_same)), (z4 get_same), (z1 (z2 ds)), (z1 ds), ds⟩, by omega, kR, by omega⟩))))))))))))
 obtain ⟨a, l1, han, hpre, hsgv, hlv, hrv, ⟨qv0, qv1, qv2, qv6, qv7, qv8⟩, hnv, hkv, hmm⟩ := hI
 refine k_seq (k_seq (k_reg (m1 qv8 (m1 (z1 qv1) (rO (o_leq (eV (z1 ds)) eZ) (r_nil ?_))))))
 refine k_in eZ (fun hc1 => ?_) (fun hc1 => ?_)
 · refine k_skip (k_block (k_seq ?_))
   exfalso; omega
 refine k_exit (exK_same (k_seq (k_reg (m1 (z1 (z2 qv0)) (m1 (z4 qv7) (m1 (z1 (z4 qv1)) (m1 (z2 (z4 qv2)) (r_call (w_callF (evs_cons (eV (z1 (z2 ds))) (evs_cons (eV (z2 ds)) (evs_cons (eV (z1 ds)) (evs_cons eZ evs_nil))))) rfl (WF.mono (ins_ok (a := a) (b := n) hlv hrv (by omega) hn hcm (by omega) hd0 (Keep.trans hk0 (hkv) (by omega) (fun _ _ h => h)) (SegP.mem hsgv hD) (by omega) (by omega)) ?_)))))))))
 rintro _ t2 n3 ⟨l2, rfl, hl_e, hr_e, hsg_e, hso_e, hn_e, hk_e⟩
 refine r_nil (k_block (k_loop (fun mm Tu tu nu => ∃ (bs : Nat) (l3 : List Int), 20 ≤ bs ∧ (bs ≤ 20 ∨ bs ≤ 2 * n) ∧ Suf k l3 bs n 0 ∧ SegP 0 n l l3 ∧ l3.length = n ∧ hv tu d = some (.row (ints l3) true) ∧ (Tu.get 0 = some (.slice d 0 n c 1 ex) ∧ Tu.get 1 = some (.int .i64 ((n : Nat) : Int)) ∧ Tu.get 2 = some cv ∧ Tu.get 6 = some (.int .i64 ((bs : Nat) : Int))) ∧ nx ≤ nu ∧ Keep t tu nx (fun e => e = d) ∧ (mm = 2 * n - bs)) (fun mm Tu tu nu hI => ?_) ((2 * n - 20)) ⟨20, l2, by omega, by omega, (hpre.keep hsg_e (Nat.le_refl _)).suf (.last (by omega) hso_e), hsgv.trans (hsg_e.wide (by omega) (by omega)), hl_e, hr_e, ⟨(z8 qv0), (z8 qv1), (z8 qv2), (z8 qv6)⟩, by omega, Keep.trans (hkv) hk_e (by omega) (fun _ _ h => h), by omega⟩))
 obtain ⟨bs, l3, hbs, hbn, hsuf, hsgu, hlu, hru, ⟨qu0, qu1, qu2, qu6⟩, hnu, hku, hmm⟩ := hI
 refine k_seq (k_seq (k_reg (m1 qu6 (m1 (z1 qu1) (rO (o_lss (eV (z1 ds)) eZ) (r_nil ?_))))))
 refine k_if eZ (fun hc4 => ?_) (fun hc4 => ?_)
 · refine k_skip (k_block (k_seq ?_))
   exfalso; omega
 refine k_exit (exK_same ?_)
 exact ⟨_, ans_none, l3, rfl, hlu, hru, hsgu, hsuf.all (by omega), by omega, hku⟩
def ssf_r0 : LI := [.mv 4 0,
 .mv 5 0,
 .o 6 (.len .slc (.t 5)),
 .mv 7 1,
 .f 8 118 [(.t 4), (.t 6), (.t 7)]]
def ssf_c : IC := (.reg ssf_r0)
theorem ssf_tab : tb 64 = some (.code 2 9 ssf_c []) := by kernel_rfl
theorem ssf_ok {t : TB} {nx d n c : Nat} {ex : Bool} {l : List Int} (hl : l.length = n) (hr : hv t d = some (.row (ints l) true)) (hd : d < nx) (hn : n < 1152921504606846976) {t0 : TB} {n0 : Nat} {D : Int → Prop} {k : Int → Int} {cv : AV} (hcm : CmpOK t0 n0 d D k cv) (hn0 : n0 ≤ nx) (hd0 : d < n0) (hk0 : Keep t0 t n0 (fun e => e = d)) (hD : ∀ x ∈ l, D x) (hsm : n < 20) : WF tb 64 [.slice d 0 n c 1 ex, cv] t nx (fun v t' nx' => ∃ l' : List Int, v = .tup [] ∧ l'.length = n ∧ hv t' d = some (.row (ints l') true) ∧ SegP 0 n l l' ∧ Srt k l' 0 n ∧ nx ≤ nx' ∧ Keep t t' nx (fun e => e = d)) := by
 refine k_fun ssf_tab rfl ?_
 unfold ssf_c
 change WC _ _ (Bt.put (some _) (Bt.put (some _) Bt.e 0) 1) _ _ _
 refine k_reg (m1 (get_other rfl get_same) (m1 (z1 (get_other rfl get_same)) (rO (o_len_slice eZ) (m1 (z1 (z2 get_same)) (r_call (w_callF (evs_cons (eV (z1 (z2 ds))) (evs_cons (eV (z1 ds)) (evs_cons eZ evs_nil)))) rfl (WF.mono (stb_ok hl hr (by omega) hn hcm (by omega) hd0 (Keep.trans hk0 kR (by omega) (fun _ _ h => h)) hD hsm) ?_))))))
 rintro _ t1 n2 ⟨l2, rfl, hl2, hr2, hsg2, hso2, hn_c, hk_c⟩
 refine r_nil ?_
 exact ⟨_, ans_none, l2, rfl, hl2, hr2, hsg2, hso2, by omega, Keep.trans kR hk_c (by omega) (fun _ _ h => h)⟩
end
section
def or__r0 : LI := [.o 2 (.mov (kI 0))]
def or__r1 : LI := [.o 3 (.mov (kI 0))]
def or__r2 : LI := [.mv 6 0,
 .o 7 (.len .slc (.t 6)),
 .o 8 (.mov (kI 0))]
def or__r3 : LI := [.o 9 (.bin .lss (.t 8) (.t 7))]
def or__r4 : LI := [.o 10 (.iaddr 1 (.t 6) (.t 8)),
 .o 11 (.load (.t 10)),
 .mv 5 11]
def or__r5 : LI := [.mv 12 5,
 .mv 13 3,
 .o 14 (.bin .neq (.t 12) (.t 13))]
def or__r6 : LI := [.mv 15 5,
 .mv 2 15]
def or__r7 : LI := [.o 16 (.bin .add (.t 8) (kI 1)),
 .mv 8 16]
def or__r8 : LI := [.mv 17 3,
 .mv 2 17]
def or__c : IC := (.seq (.reg or__r0) (.seq (.reg or__r1) (.seq (.seq (.reg or__r2) (.block 0 (.loop (.seq (.reg or__r3) (.seq (.cond (.t 9) .skip (.exit 0)) (.seq (.block 1 (.seq (.reg or__r4) (.seq (.reg or__r5) (.cond (.t 14) (.seq (.reg or__r6) .ret) .skip)))) (.reg or__r7))))))) (.seq (.reg or__r8) .ret))))
theorem or__tab : tb 50 = some (.code 1 18 or__c [.tmp 2]) := by kernel_rfl
def echeck_r0 : LI := [.o 3 (.box (.t 0)),
 .o 6 (.mov (kI 0))]
def echeck_r1 : LI := [.o 12 (.loadA 3 (.t 3)),
 .f 13 48 [(.t 12)],
 .o 14 (.bin .neq (.t 13) (kI 0)),
 .mv 15 14,
 .g 16 15 false (.mov (.t 2)),
 .g 17 15 false (.bin .lss (.t 16) (kI 0)),
 .o 18 (.pick (.t 15) (.c (.bool true)) (.t 17)),
 .mv 19 18,
 .g 20 19 false (.mov (.t 2)),
 .g 21 19 false (.bin .gtr (.t 20) (kI 4611686018427387903)),
 .o 22 (.pick (.t 19) (.c (.bool true)) (.t 21))]
def echeck_r2 : LI := [.o 6 (.mov (kI 1))]
def echeck_r3 : LI := [.mv 23 1,
 .o 24 (.len .slc (.t 23)),
 .o 25 (.mov (kI 0))]
def echeck_r4 : LI := [.o 26 (.bin .lss (.t 25) (.t 24))]
def echeck_r5 : LI := [.mv 27 25,
 .o 28 (.iaddr 3 (.t 23) (.t 25)),
 .o 29 (.loadA 3 (.t 28)),
 .o 8 (.alloc [(.int .i64 0), (.int .i64 0), (.str [])]),
 .mv 7 27,
 .x (.store 3 (.t 8) (.t 29))]
def echeck_r6 : LI := [.o 30 (.faddr (.t 8) 0),
 .o 31 (.load (.t 30)),
 .o 32 (.bin .lss (.t 31) (kI 0)),
 .mv 33 32,
 .g 34 33 false (.faddr (.t 8) 0),
 .g 35 33 false (.load (.t 34)),
 .g 36 33 false (.bin .gtr (.t 35) (kI 4611686018427387903)),
 .o 37 (.pick (.t 33) (.c (.bool true)) (.t 36)),
 .mv 38 37,
 .g 39 38 false (.faddr (.t 8) 1),
 .g 40 38 false (.load (.t 39)),
 .g 41 38 false (.bin .lss (.t 40) (kI 0)),
 .o 42 (.pick (.t 38) (.c (.bool true)) (.t 41)),
 .mv 43 42,
 .g 44 43 false (.faddr (.t 8) 1),
 .g 45 43 false (.load (.t 44)),
 .g 46 43 false (.faddr (.t 3) 1),
 .g 47 43 false (.load (.t 46)),
 .g 48 43 false (.len .slc (.t 47)),
 .g 49 43 false (.bin .geq (.t 45) (.t 48)),
 .o 50 (.pick (.t 43) (.c (.bool true)) (.t 49)),
 .mv 51 50,
 .g 52 51 false (.faddr (.t 8) 2),
 .g 53 51 false (.load (.t 52)),
 ⟨(some 54), (some (51, false)), (.callF 49 [(.t 53)])⟩,
 .g 55 51 false (.bin .neq (.t 54) (kI 0)),
 .o 56 (.pick (.t 51) (.c (.bool true)) (.t 55))]
def echeck_r7 : LI := [.o 6 (.mov (kI 1))]
def echeck_r8 : List DIns := [⟨0, [], .o 57 (.faddr (.t 3) 0)⟩,
 ⟨1, [0], .o 58 (.load (.t 57))⟩,
 ⟨2, [], .o 59 (.faddr (.t 3) 1)⟩,
 ⟨3, [2], .o 60 (.load (.t 59))⟩,
 ⟨4, [], .o 61 (.faddr (.t 8) 1)⟩,
 ⟨5, [4], .o 62 (.load (.t 61))⟩,
 ⟨6, [3, 5], .o 63 (.iaddr 1 (.t 60) (.t 62))⟩,
 ⟨7, [6], .o 64 (.load (.t 63))⟩,
 ⟨8, [1, 7], .o 65 (.iaddr 8 (.t 58) (.t 64))⟩,
 ⟨9, [8], .o 66 (.loadA 8 (.t 65))⟩,
 ⟨10, [], .o 9 (.alloc [(.int .i64 0), (.int .i64 0), (.int .i64 0), .nslice, (.str []), (.int .i64 0), (.int .i64 0), (.int .i64 0)])⟩,
 ⟨11, [10, 9, 0, 1, 2, 3, 4, 5, 6, 7, 8, 9, 10], .x (.store 8 (.t 9) (.t 66))⟩]
def echeck_r9 : LI := [.o 67 (.faddr (.t 9) 0),
 .o 68 (.load (.t 67)),
 .o 69 (.bin .neq (.t 68) (kI 2)),
 .mv 70 69,
 .g 71 70 false (.faddr (.t 9) 2),
 .g 72 70 false (.load (.t 71)),
 .g 73 70 false (.faddr (.t 8) 2),
 .g 74 70 false (.load (.t 73)),
 .g 75 70 false (.len .str (.t 74)),
 .g 76 70 false (.bin .neq (.t 72) (.t 75)),
 .o 77 (.pick (.t 70) (.c (.bool true)) (.t 76))]
def echeck_r10 : LI := [.o 6 (.mov (kI 1))]
def echeck_r11 : List DIns := [⟨0, [], .mv 78 7⟩,
 ⟨1, [0], .o 79 (.bin .gtr (.t 78) (kI 0))⟩,
 ⟨2, [1], .mv 80 79⟩,
 ⟨3, [2], .g 81 80 true (.mov (.t 1))⟩,
 ⟨4, [2], .g 82 80 true (.mov (.t 7))⟩,
 ⟨5, [4, 2], .g 83 80 true (.bin .sub (.t 82) (kI 1))⟩,
 ⟨6, [3, 5, 2], .g 84 80 true (.iaddr 3 (.t 81) (.t 83))⟩,
 ⟨7, [6, 2], .g 85 80 true (.faddr (.t 84) 0)⟩,
 ⟨8, [7, 2], .g 86 80 true (.load (.t 85))⟩,
 ⟨9, [2], .g 87 80 true (.faddr (.t 8) 0)⟩,
 ⟨10, [9, 2], .g 88 80 true (.load (.t 87))⟩,
 ⟨11, [8, 10, 2, 2], ⟨(some 89), (some (80, true)), (.callF 51 [(.t 86), (.t 88)])⟩⟩,
 ⟨12, [2], .g 90 80 true (.mov (.t 1))⟩,
 ⟨13, [2], .g 91 80 true (.mov (.t 7))⟩,
 ⟨14, [13, 2], .g 92 80 true (.bin .sub (.t 91) (kI 1))⟩,
 ⟨15, [12, 14, 2], .g 93 80 true (.iaddr 3 (.t 90) (.t 92))⟩,
 ⟨16, [15, 2], .g 94 80 true (.faddr (.t 93) 1)⟩,
 ⟨17, [16, 2], .g 95 80 true (.load (.t 94))⟩,
 ⟨18, [2], .g 96 80 true (.faddr (.t 8) 1)⟩,
 ⟨19, [18, 2], .g 97 80 true (.load (.t 96))⟩,
 ⟨20, [17, 19, 11, 2], ⟨(some 98), (some (80, true)), (.callF 51 [(.t 95), (.t 97)])⟩⟩,
 ⟨21, [11, 20, 2], .g 99 80 true (.bslice 1 2 [(.int .i64 0)] [(0, 1, (.t 89)), (1, 1, (.t 98))])⟩,
 ⟨22, [21, 20, 2], ⟨(some 100), (some (80, true)), (.callF 50 [(.t 99)])⟩⟩,
 ⟨23, [22, 2], .g 101 80 true (.bin .geq (.t 100) (kI 0))⟩,
 ⟨24, [2, 23], .o 102 (.pick (.t 80) (.t 101) (.c (.bool false)))⟩]
def echeck_r12 : LI := [.o 6 (.mov (kI 1))]
def echeck_r13 : LI := [.o 103 (.bin .add (.t 25) (kI 1)),
 .mv 25 103]
def echeck_r14 : LI := [.o 105 (.loadA 3 (.t 3)),
 .f 106 52 [(.t 105)],
 .mv 104 106,
 .o 107 (.extr (.t 104) 0),
 .o 108 (.extr (.t 104) 1),
 .mv 10 107,
 .mv 11 108]
def echeck_r15 : LI := [.mv 109 11,
 .mv 6 109]
def echeck_c : IC := (.seq (.reg echeck_r0) (.seq (.seq (.reg echeck_r1) (.cond (.t 22) (.seq (.reg echeck_r2) .ret) .skip)) (.seq (.seq (.reg echeck_r3) (.block 0 (.loop (.seq (.reg echeck_r4) (.seq (.cond (.t 26) .skip (.exit 0)) (.seq (.block 1 (.seq (.reg echeck_r5) (.seq (.seq (.reg echeck_r6) (.cond (.t 56) (.seq (.reg echeck_r7) .ret) .skip)) (.seq (.seq (.draw echeck_r8) (.seq (.reg echeck_r9) (.cond (.t 77) (.seq (.reg echeck_r10) .ret) .skip))) (.seq (.draw echeck_r11) (.cond (.t 102) (.seq (.reg echeck_r12) .ret) .skip)))))) (.reg echeck_r13))))))) (.seq (.reg echeck_r14) (.seq (.reg echeck_r15) .ret)))))
theorem echeck_tab : tb 14 = some (.code 3 110 echeck_c [.tmp 6]) := by kernel_rfl
variable [Env]
theorem o_sidx {T : TA} {t : TB} {nx : Nat} {x y : Opd} {s : List Nat} {i c : Nat} {k : IntKind} (hx : x.ev T = some (.str s)) (hy : y.ev T = some (.int k (i : Int))) (hi : s[i]? = some c) : (IOp.sidx x y).run T t nx = .ok (.int .u8 (c : Int)) t nx := by
 have e : y.ev T = some (.int k (.ofNat i)) := hy
 simp only [IOp.run, hx, e, idx, lGet_eq, hi, fNat_eq]
 rfl
/-- The first number that is not 0. -/
def orL : List Int → Int
 | [] => 0
 | a :: l => if a = 0 then orL l else a
theorem orL_at {l : List Int} {i : Nat} {k : Int} (h : l[i]? = some k) : orL (l.drop i) = if k = 0 then orL (l.drop (i + 1)) else k := by
 obtain ⟨hi, rfl⟩ := List.getElem?_eq_some_iff.1 h
 rw [List.drop_eq_getElem_cons hi]
 rfl
/-- A change of an input. -/
structure Chg where
 at_ : Int
 net : Int
 val : List Nat
def ccells (c : Chg) : List AV := [.int .i64 c.at_, .int .i64 c.net, .str c.val]
def flatC3 (cs : List Chg) : List AV := cs.flatMap ccells
def RowC (t : TB) (bd : Nat) (v : AV) (cs : List Chg) : Prop :=
 (v = .nslice ∧ cs = []) ∨ ∃ (d o c : Nat) (ex wr : Bool) (r : List AV), v = .slice d o cs.length c 3 ex ∧ d < bd ∧ hv t d = some (.row r wr) ∧ o + cs.length * 3 ≤ r.length ∧ (r.drop o).take (cs.length * 3) = flatC3 cs
theorem RowC.keep {t t' : TB} {bd bd' : Nat} {v : AV} {l : List Chg} (h : RowC t bd v l) (k : Keep t t' bd (fun _ => False)) (hb : bd ≤ bd') : RowC t' bd' v l := by
 rcases h with h | ⟨d, o, c, ex, wr, r, h1, h2, h3, h4⟩
 · exact .inl h
 · exact .inr ⟨d, o, c, ex, wr, r, h1, by omega, (k d h2 id).trans h3, h4⟩
theorem o_len_C {T : TA} {t t0 : TB} {nx bd : Nat} {v : AV} {cs : List Chg} {x : Opd} (h : RowC t0 bd v cs) (hx : x.ev T = some v) : (IOp.len .slc x).run T t nx = .ok (.int .i64 (cs.length : Int)) t nx := by
 rcases h with ⟨rfl, rfl⟩ | ⟨d, o, c, ex, wr, r, rfl, -⟩
 · exact o_len_nslice hx
 · exact o_len_slice hx
theorem flatC3_get : ∀ {cs : List Chg} {i j : Nat} {c : Chg}, cs[i]? = some c → j < 3 → (flatC3 cs)[i * 3 + j]? = (ccells c)[j]?
 | [], i, j, c, h, _ => by simp at h
 | d :: cs, 0, j, c, h, hj => by
   simp at h; subst h
   show (ccells d ++ flatC3 cs)[0 * 3 + j]? = _
   rw [Nat.zero_mul, Nat.zero_add, List.getElem?_append_left (by show j < 3; omega)]
 | d :: cs, i + 1, j, c, h, hj => by
   show (ccells d ++ flatC3 cs)[(i + 1) * 3 + j]? = _
   rw [List.getElem?_append_right (by show 3 ≤ _; omega), show (i + 1) * 3 + j - (ccells d).length = i * 3 + j from by show _ - 3 = _; omega]
   exact flatC3_get (by simpa using h) hj
theorem rowC_get {r : List AV} {o i j q : Nat} {cs : List Chg} {c : Chg} {v : AV} (h : (r.drop o).take (cs.length * 3) = flatC3 cs) (hx : cs[i]? = some c) (hj : j < 3) (e : q = o + i * 3 + j) (hc : (ccells c)[j]? = some v) : r[q]? = some v := by
 subst e
 have hi : i < cs.length := (List.getElem?_eq_some_iff.1 hx).1
 have e := congrArg (fun m => m[i * 3 + j]?) h
 simp only [List.getElem?_take, List.getElem?_drop] at e
 rw [if_pos (by omega), flatC3_get hx hj, hc] at e
 rw [Nat.add_assoc]; exact e
theorem rowC_all {r : List AV} {o i : Nat} {cs : List Chg} {c : Chg} (h : (r.drop o).take (cs.length * 3) = flatC3 cs) (hx : cs[i]? = some c) : (r.drop (o + i * 3)).take 3 = ccells c := by
 apply List.ext_getElem?
 intro j
 rw [List.getElem?_take, List.getElem?_drop]
 by_cases hj : j < 3
 · rw [if_pos hj]
   have : ∃ v, (ccells c)[j]? = some v := some_at (by show j < 3; omega)
   obtain ⟨v, hv⟩ := this
   rw [hv]; exact rowC_get h hx hj rfl hv
 · rw [if_neg hj]; rw [List.getElem?_eq_none (by show 3 ≤ j; omega)]
/-- A change that may be: when, where, what. -/
def chgOK (ns : List Nd) (ts : List Int) (c : Chg) : Prop :=
 (0 ≤ c.at_ ∧ c.at_ ≤ 4611686018427387903) ∧ (0 ≤ c.net ∧ c.net < (ts.length : Int)) ∧ isV c.val ∧ ∃ (k : Int) (x : Nd), ts[c.net.toNat]? = some k ∧ ns[k.toNat]? = some x ∧ x.kind = 2 ∧ x.wide = (c.val.length : Int)
def chgLt (a b : Chg) : Prop := a.at_ < b.at_ ∨ (a.at_ = b.at_ ∧ a.net < b.net)
structure StimP (ns : List Nd) (ts : List Int) (cs : List Chg) (b : Int) : Prop where
 upto : 0 ≤ b ∧ b ≤ 4611686018427387903
 each : ∀ c ∈ cs, chgOK ns ts c
 rise : ∀ (i : Nat) (a c : Chg), cs[i]? = some a → cs[i + 1]? = some c → chgLt a c
theorem RowI.flat {t : TB} {bd : Nat} {v : AV} {l : List Int} (h : RowI t bd v l) : flatC v = true := by
 rcases h with ⟨rfl, -⟩ | ⟨d, o, c, ex, wr, r, rfl, -⟩ <;> rfl
theorem ncells_flat (x : Nd) {iv : AV} (h : flatC iv = true) : ∀ v ∈ ncells x iv, flatC v = true := by
 intro v hv
 unfold ncells at hv
 simp only [List.mem_cons, List.not_mem_nil, or_false] at hv
 rcases hv with rfl | rfl | rfl | rfl | rfl | rfl | rfl | rfl <;> first | rfl | exact h
theorem orL2 (a b : Int) : (a ≠ 0 ∧ orL [a, b] = a) ∨ (a = 0 ∧ orL [a, b] = b) := by
 by_cases h : a = 0
 · subst h
   refine .inr ⟨rfl, ?_⟩
   show (if b = 0 then 0 else b) = b
   split <;> omega
 · exact .inl ⟨h, if_neg h⟩
theorem or_ok {t : TB} {nx bd : Nat} {sv : AV} {l : List Int} (hI : RowI t bd sv l) (hb : bd ≤ nx) (hl : l.length < 9223372036854775808) : WF tb 50 [sv] t nx (fun v t' nx' => v = .int .i64 (orL l) ∧ nx ≤ nx' ∧ Keep t t' nx (fun _ => False)) := by
 refine k_fun or__tab rfl ?_
 unfold or__c
 change WC _ _ (Bt.put (some _) Bt.e 0) _ _ _
 refine k_seq (k_reg (rO (o_mov ev_c) (r_nil (k_seq (k_reg (rO (o_mov ev_c) (r_nil (k_seq (k_seq (k_reg (m1 (z2 get_same) (rO (o_len_I hI eZ) (rO (o_mov ev_c) (r_nil (k_block (k_loop (fun mm Tv tv nv => ∃ i : Nat, i ≤ l.length ∧ orL l = orL (l.drop i) ∧ Tv.get 3 = some (.int .i64 0) ∧ Tv.get 6 = some sv ∧ Tv.get 7 = some (.int .i64 ((l.length : Nat) : Int)) ∧ Tv.get 8 = some (.int .i64 (i : Int)) ∧ nx ≤ nv ∧ Keep t tv nx (fun _ => False) ∧ mm + i = l.length) (fun mm Tv tv nv hI => ?_) (l.length) ⟨0, by omega, rfl, (z1 (z2 ds)), (z2 ds), (z1 ds), ds, by omega, kR, by omega⟩))))))))))))))))
 obtain ⟨i, hi, hor, q3, q6, q7, q8, hnv, hkp, hmm⟩ := hI
 refine k_seq (k_reg (rO (o_lss (eV q8) (eV q7)) (r_nil (k_seq ?_))))
 refine k_if eZ (fun hc1 => ?_) (fun hc1 => ?_)
 · refine k_skip (k_seq (k_block (k_seq ?_)))
   rcases hI with ⟨-, h0⟩ | ⟨di, oi, ci, exi, wri, ri, hie, hdi, hri, hrli, hsegi⟩
   · have h_ := congrArg List.length h0; simp only [List.length_nil] at h_; omega
   obtain ⟨k, hk⟩ := some_at (l := l) (i := i) (by omega)
   have hri1 := hkp.look (by omega) id hri
   refine k_reg (rO (o_iaddrE (i := i) (eV (z1 q6)) hie (eV (z1 q8)) (by omega)) ?_)
   refine rO (o_load eZ hri1 (by rw [Nat.mul_one]; exact rowI_get (i := i) hsegi hk)) ?_
   refine m1 ds (r_nil (k_seq (k_reg (m1 ds (m1 (z1 (z4 q3)) (rO (o_neq (eV (z1 ds)) eZ) (r_nil ?_)))))))
   refine k_in eZ (fun hc2 => ?_) (fun hc2 => ?_)
   · refine k_seq (k_reg (m1 (z1 (z2 ds)) (m1 ds (r_nil (k_ret ?_)))))
     exact ⟨_, ans_tmp ds, by rw [hor, orL_at hk, if_neg (by assumption)], by omega, hkp⟩
   refine k_skip (k_reg (rO (o_add (eV (z1 (z2 (z4 q8)))) ev_c (by omega) (by omega)) (m1 ds (r_nil ?_))))
   exact ⟨mm - 1, by omega, i + 1, by omega, by rw [hor, orL_at hk, if_pos (by assumption)], (z1 (z8 q3)), (z1 (z8 q6)), (z1 (z8 q7)), ds, by omega, hkp, by omega⟩
 refine k_exit (exK_same (k_seq (k_reg (m1 (z1 q3) (m1 ds (r_nil (k_ret ?_)))))))
 exact ⟨_, ans_tmp ds, by rw [hor, List.drop_eq_nil_of_le (by omega)]; rfl, by omega, hkp⟩
end
section
variable [Env]
end
section
variable [Env]
set_option maxHeartbeats 8000000 in
theorem echeck_ok {t : TB} {nx bd : Nat} {vn vt cv : AV} {p b : Int} {ns : List Nd} {ts : List Int} {cs : List Chg} (hN : RowN t bd vn ns) (hT : RowI t bd vt ts) (hC : RowC t bd cv cs) (hb : bd ≤ nx) (hnl : ns.length < 9223372036854775808) (htl : ts.length < 9223372036854775808) (hcl : cs.length < 9223372036854775808)
   (hnets : ∀ k ∈ ts, 0 ≤ k ∧ k < (ns.length : Int)) (hcv : ∀ c ∈ cs, (∀ b ∈ c.val, b < 256) ∧ c.val.length < 9223372036854775808) (hM : MayP ns ts p) (hlong : ∀ x ∈ ns, x.ins.length < 60000 ∧ (∀ c ∈ x.value, c < 256) ∧ x.value.length ≤ 9223372036854775807)
   (hlr : ∀ t2 nx2, Keep t t2 nx (fun _ => False) → nx ≤ nx2 → WF tb 52 [.agg [vn, vt, .int .i64 p]] t2 nx2 (fun v t' nx' => ∃ lv, v = .tup [lv, .int .i64 0] ∧ nx2 ≤ nx' ∧ Keep t2 t' nx2 (fun _ => False))) :
   WF tb 14 [.agg [vn, vt, .int .i64 p], cv, .int .i64 b] t nx (fun v t' nx' => ∃ r : Int, v = .int .i64 r ∧ (r = 0 ∨ r = 1) ∧ (r = 0 ↔ StimP ns ts cs b) ∧ nx ≤ nx' ∧ Keep t t' nx (fun _ => False)) := by
 have hcn := hN.cell
 have hct := hT.cell
 refine k_fun echeck_tab rfl ?_
 unfold echeck_c
 change WC _ _ (Bt.put (some _) (Bt.put (some _) (Bt.put (some _) Bt.e 0) 1) 2) _ _ _
 refine k_seq (k_reg (r_heap (o_box (eV (get_other rfl (get_other rfl get_same)))) rfl (fun t1 (hh2 : hv t1 = upd (hv t) nx (some (.row [vn, vt, (.int .i64 p)] true))) => rO (o_mov ev_c) (r_nil (k_seq (k_seq (k_reg (rO (o_loadA (n := 3) (eV (z1 ds)) (lS hh2) (leb rfl) rfl) (r_call (w_callF (evs_cons eZ evs_nil)) rfl (WF.mono (check_ok (hN.keep (fun d hd hw => (show Keep t t1 nx (fun _ => False) from kU kR hh2) d (by omega) hw) (Nat.le_refl bd)) (hT.keep (fun d hd hw => (show Keep t t1 nx (fun _ => False) from kU kR hh2) d (by omega) hw) (Nat.le_refl bd)) (by omega) hnl htl hlong) ?_))))))))))
 rintro _ t3 n4 ⟨rk, rfl, hrk1, hrk2, hn_c, hk_c⟩
 have hrk0 := hrk2.2 hM
 by_cases hs5 : (rk = 0)
 · refine rO (ndec_f (o_neq eZ ev_c) hs5) (m1 ds (r_op (o_mov (eV (z2 (z4 get_same)))) (want_on ds) ?_))
   by_cases hs6 : (b < 0)
   · refine r_op (dec_t (o_lss eZ ev_c) hs6) (want_on (z1 ds)) (rO (o_pick_f (eV (z2 ds)) eZ) (m1 ds (r_off (wN ds) (r_off (wN (z1 ds)) (rO (o_pick_t (eV (z2 ds)) ev_c) (r_nil (k_cond_t eZ (k_seq (k_reg (rO (o_mov ev_c) (r_nil (k_ret ?_))))))))))))
     have hno : ¬ StimP ns ts cs b := by
       intro h
       have h1 := h.upto; omega
     exact ⟨_, ans_tmp ds, _, rfl, by omega, ⟨fun h => by omega, fun h => absurd h hno⟩, by omega, Keep.trans (kU kR hh2) hk_c (by omega) (fun d _ h => h)⟩
   refine r_op (dec_f (o_lss eZ ev_c) hs6) (want_on (z1 ds)) (rO (o_pick_f (eV (z2 ds)) eZ) (m1 ds (r_op (o_mov (eV (z2 (z8 get_same)))) (want_on ds) ?_)))
   by_cases hs7 : (4611686018427387903 < b)
   · refine r_op (dec_t (o_gtr eZ ev_c) hs7) (want_on (z1 ds)) (rO (o_pick_f (eV (z2 ds)) eZ) (r_nil (k_cond_t eZ (k_seq (k_reg (rO (o_mov ev_c) (r_nil (k_ret ?_))))))))
     have hno : ¬ StimP ns ts cs b := by
       intro h
       have h1 := h.upto; omega
     exact ⟨_, ans_tmp ds, _, rfl, by omega, ⟨fun h => by omega, fun h => absurd h hno⟩, by omega, Keep.trans (kU kR hh2) hk_c (by omega) (fun d _ h => h)⟩
   refine r_op (dec_f (o_gtr eZ ev_c) hs7) (want_on (z1 ds)) (rO (o_pick_f (eV (z2 ds)) eZ) (r_nil (k_cond_f eZ (k_skip (k_seq (k_seq (k_reg (m1 (z1 (z4 (z8 (get_other rfl get_same)))) (rO (o_len_C hC eZ) (rO (o_mov ev_c) (r_nil (k_block (k_loop (fun mm Tv tv nv => ∃ i : Nat, i ≤ cs.length ∧ (∀ j, j < i → ∀ c, cs[j]? = some c → chgOK ns ts c) ∧ (∀ j, j + 1 < i → ∀ a c, cs[j]? = some a → cs[j + 1]? = some c → chgLt a c) ∧ Tv.get 3 = some (.ptr nx 0) ∧ Tv.get 1 = some cv ∧ Tv.get 25 = some (.int .i64 ((i : Nat) : Int)) ∧ Tv.get 23 = some cv ∧ Tv.get 24 = some (.int .i64 ((cs.length : Nat) : Int)) ∧ hv tv nx = some (.row [vn, vt, .int .i64 p] true) ∧ nx + 1 ≤ nv ∧ Keep t tv nx (fun _ => False) ∧ mm + i = cs.length) (fun mm Tv tv nv hI => ?_) (cs.length) ⟨0, by omega, (fun j hj => by omega), (fun j hj => by omega), (z1 (z2 (z4 (z8 ds)))), (z16 (get_other rfl get_same)), ds, (z2 ds), (z1 ds), (Keep.look hk_c (by omega) id (lS hh2)), by omega, Keep.trans (kU kR hh2) hk_c (by omega) (fun d _ h => h), by omega⟩)))))))))))))
   obtain ⟨i, hi, hok, hri, q3, q1, q25, q23, q24, hr1, hnv, hkp, hmm⟩ := hI
   refine k_seq (k_reg (rO (o_lss (eV q25) (eV q24)) (r_nil (k_seq ?_))))
   refine k_if eZ (fun hc8 => ?_) (fun hc8 => ?_)
   · refine k_skip (k_seq (k_block (k_seq ?_)))
     rcases hC with ⟨-, h0⟩ | ⟨dc, oc, cc, exc, wrc, rc, hce, hdc, hrc, hrlc, hsegc⟩
     · have h_ := congrArg List.length h0; simp only [List.length_nil] at h_; omega
     obtain ⟨c, hc⟩ := some_at (l := cs) (i := i) (by omega)
     have hcm := List.mem_of_getElem? hc
     have hcb := hcv c hcm
     have hrc1 := hkp.look (by omega) id hrc
     refine k_reg (m1 (z1 q25) (rO (o_iaddrE (i := i) (eV (z2 q23)) hce (eV (z2 q25)) (by omega)) (rO (o_loadA (n := 3) eZ hrc1 (by omega) (rowC_all hsegc hc)) (r_heap (o_alloc) rfl (fun t9 (hh10 : hv t9 = upd (hv tv) nv (some (.row [(.int .i64 0), (.int .i64 0), (.str [])] true))) => m1 (z1 (z2 ds)) (r_heap (o_store (n := 3) (eV (z1 ds)) (eV (z2 ds)) (lS hh10) rfl rfl (leb rfl)) rfl (fun t11 (hh12 : hv t11 = upd (hv t9) nv (some (.row [(.int .i64 c.at_), (.int .i64 c.net), (.str c.val)] true))) => r_nil (k_seq (k_seq (k_reg (rO (o_faddr (off := 0) (eV (z2 ds))) (rO (o_load eZ (lS hh12) rfl) ?_))))))))))))
     by_cases hs13 : (c.at_ < 0)
     · refine rO (dec_t (o_lss eZ ev_c) hs13) (m1 ds (r_off (wN ds) (r_off (wN (z1 ds)) (r_off (wN (z2 ds)) (rO (o_pick_t (eV (z1 (z2 ds))) ev_c) (m1 ds (r_off (wN ds) (r_off (wN (z1 ds)) (r_off (wN (z2 ds)) (rO (o_pick_t (eV (z1 (z2 ds))) ev_c) (m1 ds (r_off (wN ds) (r_off (wN (z1 ds)) (r_off (wN (z2 ds)) (r_off (wN (z1 (z2 ds))) (r_off (wN (z4 ds)) (r_off (wN (z1 (z4 ds))) (rO (o_pick_t (eV (z2 (z4 ds))) ev_c) (m1 ds (r_off (wN ds) (r_off (wN (z1 ds)) (r_off (wN (z2 ds)) (r_off (wN (z1 (z2 ds))) (rO (o_pick_t (eV (z4 ds)) ev_c) (r_nil (k_cond_t eZ (k_seq (k_reg (rO (o_mov ev_c) (r_nil (k_ret ?_)))))))))))))))))))))))))))))))
       have hno : ¬ StimP ns ts cs b := by
         intro h
         obtain ⟨h1, h2, h3, k_, x_, h4, h5, h6, h7⟩ := h.each c hcm
         first | omega | exact hr_.elim (fun e => by exfalso; omega) (fun e => e.2 h3)
       exact ⟨_, ans_tmp ds, _, rfl, by omega, ⟨fun h => by omega, fun h => absurd h hno⟩, by omega, kU (kU (hkp) hh10) hh12⟩
     refine rO (dec_f (o_lss eZ ev_c) hs13) (m1 ds (r_op (o_faddr (off := 0) (eV (z2 (z4 ds)))) (want_on ds) (r_op (o_load eZ (lS hh12) rfl) (want_on (z1 ds)) ?_)))
     by_cases hs14 : (4611686018427387903 < c.at_)
     · refine r_op (dec_t (o_gtr eZ ev_c) hs14) (want_on (z2 ds)) (rO (o_pick_f (eV (z1 (z2 ds))) eZ) (m1 ds (r_off (wN ds) (r_off (wN (z1 ds)) (r_off (wN (z2 ds)) (rO (o_pick_t (eV (z1 (z2 ds))) ev_c) (m1 ds (r_off (wN ds) (r_off (wN (z1 ds)) (r_off (wN (z2 ds)) (r_off (wN (z1 (z2 ds))) (r_off (wN (z4 ds)) (r_off (wN (z1 (z4 ds))) (rO (o_pick_t (eV (z2 (z4 ds))) ev_c) (m1 ds (r_off (wN ds) (r_off (wN (z1 ds)) (r_off (wN (z2 ds)) (r_off (wN (z1 (z2 ds))) (rO (o_pick_t (eV (z4 ds)) ev_c) (r_nil (k_cond_t eZ (k_seq (k_reg (rO (o_mov ev_c) (r_nil (k_ret ?_)))))))))))))))))))))))))))
       have hno : ¬ StimP ns ts cs b := by
         intro h
         obtain ⟨h1, h2, h3, k_, x_, h4, h5, h6, h7⟩ := h.each c hcm
         first | omega | exact hr_.elim (fun e => by exfalso; omega) (fun e => e.2 h3)
       exact ⟨_, ans_tmp ds, _, rfl, by omega, ⟨fun h => by omega, fun h => absurd h hno⟩, by omega, kU (kU (hkp) hh10) hh12⟩
     refine r_op (dec_f (o_gtr eZ ev_c) hs14) (want_on (z2 ds)) (rO (o_pick_f (eV (z1 (z2 ds))) eZ) (m1 ds (r_op (o_faddr (off := 1) (eV (z1 (z2 (z8 ds))))) (want_on ds) (r_op (o_load eZ (lS hh12) rfl) (want_on (z1 ds)) ?_))))
     by_cases hs15 : (c.net < 0)
     · refine r_op (dec_t (o_lss eZ ev_c) hs15) (want_on (z2 ds)) (rO (o_pick_f (eV (z1 (z2 ds))) eZ) (m1 ds (r_off (wN ds) (r_off (wN (z1 ds)) (r_off (wN (z2 ds)) (r_off (wN (z1 (z2 ds))) (r_off (wN (z4 ds)) (r_off (wN (z1 (z4 ds))) (rO (o_pick_t (eV (z2 (z4 ds))) ev_c) (m1 ds (r_off (wN ds) (r_off (wN (z1 ds)) (r_off (wN (z2 ds)) (r_off (wN (z1 (z2 ds))) (rO (o_pick_t (eV (z4 ds)) ev_c) (r_nil (k_cond_t eZ (k_seq (k_reg (rO (o_mov ev_c) (r_nil (k_ret ?_))))))))))))))))))))))
       have hno : ¬ StimP ns ts cs b := by
         intro h
         obtain ⟨h1, h2, h3, k_, x_, h4, h5, h6, h7⟩ := h.each c hcm
         first | omega | exact hr_.elim (fun e => by exfalso; omega) (fun e => e.2 h3)
       exact ⟨_, ans_tmp ds, _, rfl, by omega, ⟨fun h => by omega, fun h => absurd h hno⟩, by omega, kU (kU (hkp) hh10) hh12⟩
     refine r_op (dec_f (o_lss eZ ev_c) hs15) (want_on (z2 ds)) (rO (o_pick_f (eV (z1 (z2 ds))) eZ) (m1 ds (r_op (o_faddr (off := 1) (eV (z16 ds))) (want_on ds) (r_op (o_load eZ (lS hh12) rfl) (want_on (z1 ds)) (r_op (o_faddr (off := 1) (eV (z1 (z2 (z4 (z16 q3)))))) (want_on (z2 ds)) (r_op (o_load eZ (lN hh12 (lN hh10 hr1)) rfl) (want_on (z1 (z2 ds))) (r_op (o_len_I hT eZ) (want_on (z4 ds)) ?_)))))))
     by_cases hs16 : (c.net < ((ts.length : Nat) : Int))
     · refine r_op (ndec_f (o_geq (eV (z1 (z2 ds))) eZ) hs16) (want_on (z1 (z4 ds))) (rO (o_pick_f (eV (z2 (z4 ds))) eZ) (m1 ds (r_op (o_faddr (off := 2) (eV (z8 (z16 ds)))) (want_on ds) (r_op (o_load eZ (lS hh12) rfl) (want_on (z1 ds)) (r_call (w_callF (evs_cons eZ evs_nil)) (want_on (z2 ds)) (WF.mono (lcheck_ok c.val hcb.1 (by omega)) ?_))))))
       rintro _ t17 n18 ⟨r_, rfl, hr_, hn_b, hk_b⟩
       by_cases hs19 : (r_ = 0)
       · refine r_op (ndec_f (o_neq eZ ev_c) hs19) (want_on (z1 (z2 ds))) (rO (o_pick_f (eV (z4 ds)) eZ) (r_nil (k_cond_f eZ (k_skip (k_seq (k_seq ?_))))))
         rcases hT with ⟨-, h0⟩ | ⟨di, oi, ci, exi, wri, ri, hie, hdi, hri_, hrli, hsegi⟩
         · have h_ := congrArg List.length h0; simp only [List.length_nil] at h_; omega
         obtain ⟨k, hk⟩ := some_at (l := ts) (i := c.net.toNat) (by omega)
         have hkr := hnets k (List.mem_of_getElem? hk)
         rcases hN with ⟨-, h0⟩ | ⟨dN, on, cn, exn, wrn, rn, ivs, hne, hdn, hrn, hrln, hsegn, hivl, hivr⟩
         · have h_ := congrArg List.length h0; simp only [List.length_nil] at h_; omega
         obtain ⟨x, hx⟩ := some_at (l := ns) (i := k.toNat) (by omega)
         obtain ⟨iv, hiv⟩ := some_at (l := ivs) (i := k.toNat) (by omega)
         have hic := (hivr _ x iv hx hiv).cell
         have hri1 := hkp.look (by omega) id hri_
         have hrn1 := hkp.look (by omega) id hrn
         have hfi := (hivr _ x iv hx hiv).flat
         have hfn : flatC vn = true := by rw [hne]; rfl
         have hft : flatC vt = true := by rw [hie]; rfl
         have hfc : flatC cv = true := by rw [hce]; rfl
         refine k_draw (eO 0 rfl (o_faddr (off := 0) (eV (z2 (z16 (z16 q3))))) (eO 1 rfl (o_load eZ (Keep.look hk_b (by omega) id (lN hh12 (lN hh10 hr1))) rfl) (eO 2 rfl (o_faddr (off := 1) (eV (z4 (z16 (z16 q3))))) (eO 3 rfl (o_load eZ (Keep.look hk_b (by omega) id (lN hh12 (lN hh10 hr1))) rfl) (eO 4 rfl (o_faddr (off := 1) (eV (z1 (z16 (z16 ds))))) (eO 5 rfl (o_load eZ (Keep.look hk_b (by omega) id (lS hh12)) rfl) (eO 6 rfl (o_iaddrE (i := (c.net).toNat) (eV (z2 ds)) hie (ev_cast eZ (by omega)) (by omega)) ?_)))))))
         refine eO 7 rfl (o_load eZ (Keep.look hk_b (by omega) id (lN hh12 (lN hh10 hri1))) (by rw [Nat.mul_one]; exact rowI_get (i := c.net.toNat) hsegi hk)) ?_
         refine eO 8 rfl (o_iaddrE (i := (k).toNat) (eV (z2 (z4 ds))) hne (ev_cast eZ (by omega)) (by omega)) (eO 9 rfl (o_loadA (n := 8) eZ (Keep.look hk_b (by omega) id (lN hh12 (lN hh10 hrn1))) (by omega) (nodeN_all hsegn hivl hx hiv)) ?_)
         refine d_heap (ix := 10) (pr := []) (d := (some 9)) (g := none) (F' := [(⟨9, [8], .o 66 (.loadA 8 (.t 65))⟩, (.agg [(.int .i64 x.kind), (.int .i64 x.op), (.int .i64 x.wide), iv, (.str x.value), (.int .i64 x.hi), (.int .i64 x.lo), (.int .i64 x.time)])), (⟨8, [1, 7], .o 65 (.iaddr 8 (.t 58) (.t 64))⟩, (.ptr dN (on + (k).toNat * 8))), (⟨7, [6], .o 64 (.load (.t 63))⟩, (.int .i64 k)), (⟨6, [3, 5], .o 63 (.iaddr 1 (.t 60) (.t 62))⟩, (.ptr di (oi + (c.net).toNat * 1))), (⟨5, [4], .o 62 (.load (.t 61))⟩, (.int .i64 c.net)), (⟨4, [], .o 61 (.faddr (.t 8) 1)⟩, (.ptr nv 1)), (⟨3, [2], .o 60 (.load (.t 59))⟩, vt), (⟨2, [], .o 59 (.faddr (.t 3) 1)⟩, (.ptr nx 1)), (⟨1, [0], .o 58 (.load (.t 57))⟩, vn), (⟨0, [], .o 57 (.faddr (.t 3) 0)⟩, (.ptr nx 0))]) (o := (.alloc [(.int .i64 0), (.int .i64 0), (.int .i64 0), .nslice, (.str []), (.int .i64 0), (.int .i64 0), (.int .i64 0)])) (o_alloc) rfl (by kernel_rfl) (by kernel_rfl) (by kernel_rfl) (by kernel_rfl) (fun t20 (hh21 : hv t20 = upd (hv t17) n18 (some (.row [(.int .i64 0), (.int .i64 0), (.int .i64 0), .nslice, (.str []), (.int .i64 0), (.int .i64 0), (.int .i64 0)] true))) => ⟨?_, ?_⟩)
         · exact (all_cons_ (still_op rfl rfl (o_loadA (n := 8) (eV (z2 ds)) (lN hh21 (Keep.look hk_b (by omega) id (lN hh12 (lN hh10 hrn1)))) (by omega) (nodeN_all hsegn hivl hx hiv)) (aeq_agg (ncells_flat x hfi))) (all_cons_ (still_op rfl rfl (o_iaddrE (i := (k).toNat) (eV (z1 (z8 ds))) hne (ev_cast (eV (z1 (z2 ds))) (by omega)) (by omega)) (aeq_flat rfl)) (all_cons_ (still_op rfl rfl (o_load (eV (z4 ds)) (lN hh21 (Keep.look hk_b (by omega) id (lN hh12 (lN hh10 hri1)))) (by rw [Nat.mul_one]; exact rowI_get (i := c.net.toNat) hsegi hk)) (aeq_flat rfl)) (all_cons_ (still_op rfl rfl (o_iaddrE (i := (c.net).toNat) (eV (z1 (z2 (z4 ds)))) hie (ev_cast (eV (z1 (z4 ds))) (by omega)) (by omega)) (aeq_flat rfl)) (all_cons_ (still_op rfl rfl (o_load (eV (z2 (z4 ds))) (lN hh21 (Keep.look hk_b (by omega) id (lS hh12))) rfl) (aeq_flat rfl)) (all_cons_ (still_op rfl rfl (o_faddr (off := 1) (eV (z8 (z16 (z16 ds))))) (aeq_flat rfl)) (all_cons_ (still_op rfl rfl (o_load (eV (z8 ds)) (lN hh21 (Keep.look hk_b (by omega) id (lN hh12 (lN hh10 hr1)))) rfl) (aeq_flat hft)) (all_cons_ (still_op rfl rfl (o_faddr (off := 1) (eV (z1 (z4 (z8 (z16 (z16 q3))))))) (aeq_flat rfl)) (all_cons_ (still_op rfl rfl (o_load (eV (z2 (z8 ds))) (lN hh21 (Keep.look hk_b (by omega) id (lN hh12 (lN hh10 hr1)))) rfl) (aeq_flat hfn)) (all_cons_ (still_op rfl rfl (o_faddr (off := 0) (eV (z1 (z4 (z8 (z16 (z16 q3))))))) (aeq_flat rfl)) all_nil_))))))))))
         refine d_heap (ix := 11) (pr := [10, 9, 0, 1, 2, 3, 4, 5, 6, 7, 8, 9, 10]) (d := none) (g := none) (F' := []) (o := (.store 8 (.t 9) (.t 66))) (o_store (n := 8) eZ (eV (z1 ds)) (lS hh21) rfl (ncells_cell x hic) (leb rfl)) rfl (by kernel_rfl) (by kernel_rfl) (by kernel_rfl) (by kernel_rfl) (fun t22 (hh23 : hv t22 = upd (hv t20) n18 (some (.row [(.int .i64 x.kind), (.int .i64 x.op), (.int .i64 x.wide), iv, (.str x.value), (.int .i64 x.hi), (.int .i64 x.lo), (.int .i64 x.time)] true))) => ⟨?_, ?_⟩)
         · exact all_nil_
         refine e_done (k_seq (k_reg (rO (o_faddr (off := 0) (eV (z1 ds))) (rO (o_load eZ (lS hh23) rfl) ?_))))
         by_cases hs24 : (x.kind = 2)
         · refine rO (ndec_f (o_neq eZ ev_c) hs24) (m1 ds (r_op (o_faddr (off := 2) (eV (z1 (z4 ds)))) (want_on ds) (r_op (o_load eZ (lS hh23) rfl) (want_on (z1 ds)) (r_op (o_faddr (off := 2) (eV (z1 (z2 (z4 (z8 (z16 (z16 ds)))))))) (want_on (z2 ds)) (r_op (o_load eZ (lN hh23 (lN hh21 (Keep.look hk_b (by omega) id (lS hh12)))) rfl) (want_on (z1 (z2 ds))) (r_op (o_len_str eZ) (want_on (z4 ds)) ?_))))))
           by_cases hs25 : (x.wide = ((c.val.length : Nat) : Int))
           · refine r_op (ndec_f (o_neq (eV (z1 (z2 ds))) eZ) hs25) (want_on (z1 (z4 ds))) (rO (o_pick_f (eV (z2 (z4 ds))) eZ) (r_nil (k_cond_f eZ (k_skip (k_seq ?_)))))
             rcases Nat.eq_zero_or_pos i with hi0 | hi0
             · have hz_ : ¬ ((0 : Int) < ((i : Nat) : Int)) := by omega
               refine k_draw (e_opT (on := []) gon_nil 0 rfl (o_mov (eV (z1 (z2 (z16 (z16 (z16 ds))))))) rfl (e_opT (on := []) gon_nil 1 rfl (dec_f (o_gtr eZ ev_c) hz_) rfl (e_opT (on := []) gon_nil 2 rfl (o_mov eZ) rfl (e_offT (on := []) gon_nil 3 rfl (wN ds) (e_offT (on := []) gon_nil 4 rfl (wN (z1 ds)) (e_offT (on := []) gon_nil 5 rfl (wN (z2 ds)) (e_offT (on := []) gon_nil 6 rfl (wN (z1 (z2 ds))) (e_offT (on := []) gon_nil 7 rfl (wN (z4 ds)) (e_offT (on := []) gon_nil 8 rfl (wN (z1 (z4 ds))) (e_offT (on := []) gon_nil 9 rfl (wN (z2 (z4 ds))) (e_offT (on := []) gon_nil 10 rfl (wN (z1 (z2 (z4 ds)))) (e_offT (on := []) gon_nil 11 rfl (wN (z8 ds)) (e_offT (on := []) gon_nil 12 rfl (wN (z1 (z8 ds))) (e_offT (on := []) gon_nil 13 rfl (wN (z2 (z8 ds))) (e_offT (on := []) gon_nil 14 rfl (wN (z1 (z2 (z8 ds)))) (e_offT (on := []) gon_nil 15 rfl (wN (z4 (z8 ds))) (e_offT (on := []) gon_nil 16 rfl (wN (z1 (z4 (z8 ds)))) (e_offT (on := []) gon_nil 17 rfl (wN (z2 (z4 (z8 ds)))) (e_offT (on := []) gon_nil 18 rfl (wN (z1 (z2 (z4 (z8 ds))))) (e_offT (on := []) gon_nil 19 rfl (wN (z16 ds)) (e_offT (on := []) gon_nil 20 rfl (wN (z1 (z16 ds))) (e_offT (on := []) gon_nil 21 rfl (wN (z2 (z16 ds))) (e_offT (on := []) gon_nil 22 rfl (wN (z1 (z2 (z16 ds)))) (e_offT (on := []) gon_nil 23 rfl (wN (z4 (z16 ds))) ?_))))))))))))))))))))))))
               refine e_opT (on := []) gon_nil 24 rfl (o_pick_f (eV (z1 (z4 (z16 ds)))) ev_c) rfl (e_done (k_cond_f eZ (k_skip (k_reg (rO (o_add (eV (z2 (z16 (z16 (z16 (z16 (z16 q25))))))) ev_c (by omega) (by omega)) (m1 ds (r_nil ?_)))))))
               refine ⟨mm - 1, by omega, i + 1, by omega, (fun j hj c_ hc_ => ?_), (fun j hj a_ c_ ha_ hc_ => ?_), (z4 (z16 (z16 (z16 (z16 (z16 q3)))))), (z4 (z16 (z16 (z16 (z16 (z16 q1)))))), ds, (z4 (z16 (z16 (z16 (z16 (z16 q23)))))), (z4 (z16 (z16 (z16 (z16 (z16 q24)))))), (lN hh23 (lN hh21 (Keep.look hk_b (by omega) id (lN hh12 (lN hh10 hr1))))), by omega, kU (kU (Keep.trans (kU (kU (hkp) hh10) hh12) hk_b (by omega) (fun d _ h => h)) hh21) hh23, by omega⟩
               · rcases (show j < i ∨ j = i by omega) with hj | rfl
                 · exact hok j hj c_ hc_
                 rw [hc] at hc_; cases hc_; exact ⟨by omega, by omega, hr_.elim (fun e => e.2) (fun e => by exfalso; omega), k, x, hk, hx, by omega, by omega⟩
               rcases (show j + 1 < i ∨ j + 1 = i by omega) with hj | hj
               · exact hri j hj a_ c_ ha_ hc_
               omega
             have hz_ :  ((0 : Int) < ((i : Nat) : Int)) := by omega
             obtain ⟨a, ha⟩ := some_at (l := cs) (i := i - 1) (by omega)
             refine k_draw (e_opT (on := []) gon_nil 0 rfl (o_mov (eV (z1 (z2 (z16 (z16 (z16 ds))))))) rfl (e_opT (on := []) gon_nil 1 rfl (dec_t (o_gtr eZ ev_c) hz_) rfl (e_opT (on := []) gon_nil 2 rfl (o_mov eZ) rfl (e_opT (on := [(80, true)]) (gon_cons (want_on ds) gon_nil) 3 rfl (o_mov (eV (z4 (z8 (z16 (z16 (z16 q1))))))) (want_on ds) (e_opT (on := [(80, true)]) (gon_cons (want_on (z1 ds)) gon_nil) 4 rfl (o_mov (eV (z1 (z2 (z4 (z16 (z16 (z16 ds)))))))) (want_on (z1 ds)) (e_opT (on := [(80, true)]) (gon_cons (want_on (z2 ds)) gon_nil) 5 rfl (o_sub eZ ev_c (by omega) (by omega)) (want_on (z2 ds)) (e_opT (on := [(80, true)]) (gon_cons (want_on (z1 (z2 ds))) gon_nil) 6 rfl (o_iaddrE (i := ((((i : Nat) : Int) - 1)).toNat) (eV (z2 ds)) hce (ev_cast eZ (by omega)) (by omega)) (want_on (z1 (z2 ds))) (e_opT (on := [(80, true)]) (gon_cons (want_on (z4 ds)) gon_nil) 7 rfl (o_faddr (off := 0) eZ) (want_on (z4 ds)) (e_opT (on := [(80, true)]) (gon_cons (want_on (z1 (z4 ds))) gon_nil) 8 rfl (o_load eZ (lN hh23 (lN hh21 (Keep.look hk_b (by omega) id (lN hh12 (lN hh10 hrc1))))) (rowC_get (j := 0) hsegc ha (by decide) (by omega) rfl)) (want_on (z1 (z4 ds))) (e_opT (on := [(80, true)]) (gon_cons (want_on (z2 (z4 ds))) gon_nil) 9 rfl (o_faddr (off := 0) (eV (z1 (z4 (z8 (z16 (z16 (z16 ds)))))))) (want_on (z2 (z4 ds))) (e_opT (on := [(80, true)]) (gon_cons (want_on (z1 (z2 (z4 ds)))) gon_nil) 10 rfl (o_load eZ (lN hh23 (lN hh21 (Keep.look hk_b (by omega) id (lS hh12)))) rfl) (want_on (z1 (z2 (z4 ds)))) ?_)))))))))))
             refine e_opT (on := [(80, true)]) (gon_cons (want_on (z8 ds)) gon_nil) 12 rfl (o_mov (eV (z4 (z16 (z16 (z16 (z16 q1))))))) (want_on (z8 ds)) (e_opT (on := [(80, true)]) (gon_cons (want_on (z1 (z8 ds))) gon_nil) 13 rfl (o_mov (eV (z1 (z2 (z4 (z8 (z16 (z16 (z16 ds))))))))) (want_on (z1 (z8 ds))) (e_opT (on := [(80, true)]) (gon_cons (want_on (z2 (z8 ds))) gon_nil) 14 rfl (o_sub eZ ev_c (by omega) (by omega)) (want_on (z2 (z8 ds))) (e_opT (on := [(80, true)]) (gon_cons (want_on (z1 (z2 (z8 ds)))) gon_nil) 15 rfl (o_iaddrE (i := ((((i : Nat) : Int) - 1)).toNat) (eV (z2 ds)) hce (ev_cast eZ (by omega)) (by omega)) (want_on (z1 (z2 (z8 ds)))) (e_opT (on := [(80, true)]) (gon_cons (want_on (z4 (z8 ds))) gon_nil) 16 rfl (o_faddr (off := 1) eZ) (want_on (z4 (z8 ds))) (e_opT (on := [(80, true)]) (gon_cons (want_on (z1 (z4 (z8 ds)))) gon_nil) 17 rfl (o_load eZ (lN hh23 (lN hh21 (Keep.look hk_b (by omega) id (lN hh12 (lN hh10 hrc1))))) (rowC_get (j := 1) hsegc ha (by decide) (by omega) rfl)) (want_on (z1 (z4 (z8 ds)))) (e_opT (on := [(80, true)]) (gon_cons (want_on (z2 (z4 (z8 ds)))) gon_nil) 18 rfl (o_faddr (off := 1) (eV (z1 (z4 (z16 (z16 (z16 (z16 ds)))))))) (want_on (z2 (z4 (z8 ds)))) (e_opT (on := [(80, true)]) (gon_cons (want_on (z1 (z2 (z4 (z8 ds))))) gon_nil) 19 rfl (o_load eZ (lN hh23 (lN hh21 (Keep.look hk_b (by omega) id (lS hh12)))) rfl) (want_on (z1 (z2 (z4 (z8 ds))))) ?_)))))))
             refine d_callT (on := [(80, true)]) (gon_cons (want_on (z16 ds)) gon_nil) (ix := 11) (pr := [8, 10, 2, 2]) (d := (some 89)) (g := (some (80, true))) (F' := [(⟨19, [18, 2], .g 97 80 true (.load (.t 96))⟩, (.int .i64 c.net)), (⟨18, [2], .g 96 80 true (.faddr (.t 8) 1)⟩, (.ptr nv 1)), (⟨17, [16, 2], .g 95 80 true (.load (.t 94))⟩, (.int .i64 a.net)), (⟨16, [15, 2], .g 94 80 true (.faddr (.t 93) 1)⟩, (.ptr dc ((oc + ((((i : Nat) : Int) - 1)).toNat * 3) + 1))), (⟨15, [12, 14, 2], .g 93 80 true (.iaddr 3 (.t 90) (.t 92))⟩, (.ptr dc (oc + ((((i : Nat) : Int) - 1)).toNat * 3))), (⟨14, [13, 2], .g 92 80 true (.bin .sub (.t 91) (kI 1))⟩, (.int .i64 (((i : Nat) : Int) - 1))), (⟨13, [2], .g 91 80 true (.mov (.t 7))⟩, (.int .i64 ((i : Nat) : Int))), (⟨12, [2], .g 90 80 true (.mov (.t 1))⟩, cv), (⟨4, [2], .g 82 80 true (.mov (.t 7))⟩, (.int .i64 ((i : Nat) : Int)))]) (w_callF (evs_cons (eV (z2 (z8 ds))) (evs_cons (eV (z8 ds)) evs_nil))) (want_on (z16 ds)) (by kernel_rfl) (by kernel_rfl) (by kernel_rfl) (by kernel_rfl) (WF.mono (compare_ok a.at_ c.at_) ?_)
             rintro _ t26 n27 ⟨c1, rfl, hcr1, hn_1, hk_1⟩
             refine ⟨?_, ?_⟩
             · exact (all_cons_ (still_op (want_on (z1 (z16 ds))) rfl (o_load (eV (z2 ds)) (Keep.look hk_1 (by omega) id (lN hh23 (lN hh21 (Keep.look hk_b (by omega) id (lS hh12))))) rfl) (aeq_flat rfl)) (all_cons_ (still_op (want_on (z1 (z16 ds))) rfl (o_faddr (off := 1) (eV (z8 (z16 (z16 (z16 (z16 ds))))))) (aeq_flat rfl)) (all_cons_ (still_op (want_on (z1 (z16 ds))) rfl (o_load (eV (z4 ds)) (Keep.look hk_1 (by omega) id (lN hh23 (lN hh21 (Keep.look hk_b (by omega) id (lN hh12 (lN hh10 hrc1)))))) (rowC_get (j := 1) hsegc ha (by decide) (by omega) rfl)) (aeq_flat rfl)) (all_cons_ (still_op (want_on (z1 (z16 ds))) rfl (o_faddr (off := 1) (eV (z1 (z4 ds)))) (aeq_flat rfl)) (all_cons_ (still_op (want_on (z1 (z16 ds))) rfl (o_iaddrE (i := ((((i : Nat) : Int) - 1)).toNat) (eV (z8 ds)) hce (ev_cast (eV (z2 (z4 ds))) (by omega)) (by omega)) (aeq_flat rfl)) (all_cons_ (still_op (want_on (z1 (z16 ds))) rfl (o_sub (eV (z1 (z2 (z4 ds)))) ev_c (by omega) (by omega)) (aeq_flat rfl)) (all_cons_ (still_op (want_on (z1 (z16 ds))) rfl (o_mov (eV (z1 (z2 (z4 (z16 (z16 (z16 (z16 ds))))))))) (aeq_flat rfl)) (all_cons_ (still_op (want_on (z1 (z16 ds))) rfl (o_mov (eV (z1 (z4 (z8 (z16 (z16 (z16 (z16 q1))))))))) (aeq_flat hfc)) (all_cons_ (still_op (want_on (z1 (z16 ds))) rfl (o_mov (eV (z1 (z2 (z4 (z16 (z16 (z16 (z16 ds))))))))) (aeq_flat rfl)) all_nil_)))))))))
             refine d_callT (on := [(80, true)]) (gon_cons (want_on (z1 (z16 ds))) gon_nil) (ix := 20) (pr := [17, 19, 11, 2]) (d := (some 98)) (g := (some (80, true))) (F' := [(⟨13, [2], .g 91 80 true (.mov (.t 7))⟩, (.int .i64 ((i : Nat) : Int))), (⟨4, [2], .g 82 80 true (.mov (.t 7))⟩, (.int .i64 ((i : Nat) : Int)))]) (w_callF (evs_cons (eV (z1 (z2 ds))) (evs_cons (eV (z1 ds)) evs_nil))) (want_on (z1 (z16 ds))) (by kernel_rfl) (by kernel_rfl) (by kernel_rfl) (by kernel_rfl) (WF.mono (compare_ok a.net c.net) ?_)
             rintro _ t28 n29 ⟨c2, rfl, hcr2, hn_2, hk_2⟩
             refine ⟨?_, ?_⟩
             · exact (all_cons_ (still_op (want_on (z2 (z16 ds))) rfl (o_mov (eV (z8 (z16 (z16 (z16 (z16 ds))))))) (aeq_flat rfl)) (all_cons_ (still_op (want_on (z2 (z16 ds))) rfl (o_mov (eV (z8 (z16 (z16 (z16 (z16 ds))))))) (aeq_flat rfl)) all_nil_))
             refine d_heapT (on := [(80, true)]) (gon_cons (want_on (z2 (z16 ds))) gon_nil) (ix := 21) (pr := [11, 20, 2]) (d := (some 99)) (g := (some (80, true))) (F' := [(⟨13, [2], .g 91 80 true (.mov (.t 7))⟩, (.int .i64 ((i : Nat) : Int))), (⟨4, [2], .g 82 80 true (.mov (.t 7))⟩, (.int .i64 ((i : Nat) : Int)))]) (o := (.bslice 1 2 [(.int .i64 0)] [(0, 1, (.t 89)), (1, 1, (.t 98))])) (o_bslice (fill_cons (eV (z1 ds)) rfl rfl (fill_cons eZ rfl rfl fill_nil))) (want_on (z2 (z16 ds))) (by kernel_rfl) (by kernel_rfl) (by kernel_rfl) (by kernel_rfl) (fun t30 (hh31 : hv t30 = upd (hv t28) n29 (some (.row [(.int .i64 c1), (.int .i64 c2)] true))) => ⟨?_, ?_⟩)
             · exact (all_cons_ (still_op (want_on (z1 (z2 (z16 ds)))) rfl (o_mov (eV (z1 (z8 (z16 (z16 (z16 (z16 ds)))))))) (aeq_flat rfl)) (all_cons_ (still_op (want_on (z1 (z2 (z16 ds)))) rfl (o_mov (eV (z1 (z8 (z16 (z16 (z16 (z16 ds)))))))) (aeq_flat rfl)) all_nil_))
             refine d_callT (on := [(80, true)]) (gon_cons (want_on (z1 (z2 (z16 ds)))) gon_nil) (ix := 22) (pr := [21, 20, 2]) (d := (some 100)) (g := (some (80, true))) (F' := [(⟨13, [2], .g 91 80 true (.mov (.t 7))⟩, (.int .i64 ((i : Nat) : Int))), (⟨4, [2], .g 82 80 true (.mov (.t 7))⟩, (.int .i64 ((i : Nat) : Int)))]) (w_callF (evs_cons eZ evs_nil)) (want_on (z1 (z2 (z16 ds)))) (by kernel_rfl) (by kernel_rfl) (by kernel_rfl) (by kernel_rfl) (WF.mono (or_ok (bd := (n29 + 1)) (l := [c1, c2]) (.inr ⟨n29, 0, 2, true, true, [.int .i64 c1, .int .i64 c2], rfl, by omega, (lS hh31), by simp, rfl⟩) (Nat.le_refl _) (by simp)) ?_)
             rintro _ t32 n33 ⟨rfl, hn_o, hk_o⟩
             have horl := orL2 c1 c2
             refine ⟨?_, ?_⟩
             · exact (all_cons_ (still_op (want_on (z4 (z16 ds))) rfl (o_mov (eV (z2 (z8 (z16 (z16 (z16 (z16 ds)))))))) (aeq_flat rfl)) (all_cons_ (still_op (want_on (z4 (z16 ds))) rfl (o_mov (eV (z2 (z8 (z16 (z16 (z16 (z16 ds)))))))) (aeq_flat rfl)) all_nil_))
             by_cases hs34 : ((orL [c1, c2]) < 0)
             · refine e_opT (on := [(80, true)]) (gon_cons (want_on (z4 (z16 ds))) gon_nil) 23 rfl (ndec_f (o_geq eZ ev_c) hs34) (want_on (z4 (z16 ds))) (e_opT (on := [(80, true)]) (gon_cons (want_on (z1 (z4 (z16 ds)))) gon_nil) 24 rfl (o_pick_t (eV (z1 (z4 (z16 ds)))) eZ) rfl (e_done (k_cond_f eZ (k_skip (k_reg (rO (o_add (eV (z2 (z16 (z16 (z16 (z16 (z16 q25))))))) ev_c (by omega) (by omega)) (m1 ds (r_nil ?_))))))))
               refine ⟨mm - 1, by omega, i + 1, by omega, (fun j hj c_ hc_ => ?_), (fun j hj a_ c_ ha_ hc_ => ?_), (z4 (z16 (z16 (z16 (z16 (z16 q3)))))), (z4 (z16 (z16 (z16 (z16 (z16 q1)))))), ds, (z4 (z16 (z16 (z16 (z16 (z16 q23)))))), (z4 (z16 (z16 (z16 (z16 (z16 q24)))))), (Keep.look hk_o (by omega) id (lN hh31 (Keep.look hk_2 (by omega) id (Keep.look hk_1 (by omega) id (lN hh23 (lN hh21 (Keep.look hk_b (by omega) id (lN hh12 (lN hh10 hr1))))))))), by omega, Keep.trans (kU (Keep.trans (Keep.trans (kU (kU (Keep.trans (kU (kU (hkp) hh10) hh12) hk_b (by omega) (fun d _ h => h)) hh21) hh23) hk_1 (by omega) (fun d _ h => h)) hk_2 (by omega) (fun d _ h => h)) hh31) hk_o (by omega) (fun d _ h => h), by omega⟩
               · rcases (show j < i ∨ j = i by omega) with hj | rfl
                 · exact hok j hj c_ hc_
                 rw [hc] at hc_; cases hc_; exact ⟨by omega, by omega, hr_.elim (fun e => e.2) (fun e => by exfalso; omega), k, x, hk, hx, by omega, by omega⟩
               rcases (show j + 1 < i ∨ j + 1 = i by omega) with hj | hj
               · exact hri j hj a_ c_ ha_ hc_
               rw [hj, hc] at hc_; cases hc_; rw [show j = i - 1 by omega, ha] at ha_; cases ha_; unfold chgLt; omega
             refine e_opT (on := [(80, true)]) (gon_cons (want_on (z4 (z16 ds))) gon_nil) 23 rfl (ndec_t (o_geq eZ ev_c) hs34) (want_on (z4 (z16 ds))) (e_opT (on := [(80, true)]) (gon_cons (want_on (z1 (z4 (z16 ds)))) gon_nil) 24 rfl (o_pick_t (eV (z1 (z4 (z16 ds)))) eZ) rfl (e_done (k_cond_t eZ (k_seq (k_reg (rO (o_mov ev_c) (r_nil (k_ret ?_))))))))
             have hno : ¬ StimP ns ts cs b := by
               intro h
               have h1 := h.rise (i - 1) a c ha (by rw [Nat.sub_add_cancel hi0]; exact hc)
               unfold chgLt at h1; omega
             exact ⟨_, ans_tmp ds, _, rfl, by omega, ⟨fun h => by omega, fun h => absurd h hno⟩, by omega, Keep.trans (kU (Keep.trans (Keep.trans (kU (kU (Keep.trans (kU (kU (hkp) hh10) hh12) hk_b (by omega) (fun d _ h => h)) hh21) hh23) hk_1 (by omega) (fun d _ h => h)) hk_2 (by omega) (fun d _ h => h)) hh31) hk_o (by omega) (fun d _ h => h)⟩
           refine r_op (ndec_t (o_neq (eV (z1 (z2 ds))) eZ) hs25) (want_on (z1 (z4 ds))) (rO (o_pick_f (eV (z2 (z4 ds))) eZ) (r_nil (k_cond_t eZ (k_seq (k_reg (rO (o_mov ev_c) (r_nil (k_ret ?_))))))))
           have hno : ¬ StimP ns ts cs b := by
             intro h
             obtain ⟨h1, h2, h3, k_, x_, h4, h5, h6, h7⟩ := h.each c hcm
             rw [hk] at h4; cases h4; rw [hx] at h5; cases h5; omega
           exact ⟨_, ans_tmp ds, _, rfl, by omega, ⟨fun h => by omega, fun h => absurd h hno⟩, by omega, kU (kU (Keep.trans (kU (kU (hkp) hh10) hh12) hk_b (by omega) (fun d _ h => h)) hh21) hh23⟩
         refine rO (ndec_t (o_neq eZ ev_c) hs24) (m1 ds (r_off (wN ds) (r_off (wN (z1 ds)) (r_off (wN (z2 ds)) (r_off (wN (z1 (z2 ds))) (r_off (wN (z4 ds)) (r_off (wN (z1 (z4 ds))) (rO (o_pick_t (eV (z2 (z4 ds))) ev_c) (r_nil (k_cond_t eZ (k_seq (k_reg (rO (o_mov ev_c) (r_nil (k_ret ?_)))))))))))))))
         have hno : ¬ StimP ns ts cs b := by
           intro h
           obtain ⟨h1, h2, h3, k_, x_, h4, h5, h6, h7⟩ := h.each c hcm
           rw [hk] at h4; cases h4; rw [hx] at h5; cases h5; omega
         exact ⟨_, ans_tmp ds, _, rfl, by omega, ⟨fun h => by omega, fun h => absurd h hno⟩, by omega, kU (kU (Keep.trans (kU (kU (hkp) hh10) hh12) hk_b (by omega) (fun d _ h => h)) hh21) hh23⟩
       refine r_op (ndec_t (o_neq eZ ev_c) hs19) (want_on (z1 (z2 ds))) (rO (o_pick_f (eV (z4 ds)) eZ) (r_nil (k_cond_t eZ (k_seq (k_reg (rO (o_mov ev_c) (r_nil (k_ret ?_))))))))
       have hno : ¬ StimP ns ts cs b := by
         intro h
         obtain ⟨h1, h2, h3, k_, x_, h4, h5, h6, h7⟩ := h.each c hcm
         first | omega | exact hr_.elim (fun e => by exfalso; omega) (fun e => e.2 h3)
       exact ⟨_, ans_tmp ds, _, rfl, by omega, ⟨fun h => by omega, fun h => absurd h hno⟩, by omega, Keep.trans (kU (kU (hkp) hh10) hh12) hk_b (by omega) (fun d _ h => h)⟩
     refine r_op (ndec_t (o_geq (eV (z1 (z2 ds))) eZ) hs16) (want_on (z1 (z4 ds))) (rO (o_pick_f (eV (z2 (z4 ds))) eZ) (m1 ds (r_off (wN ds) (r_off (wN (z1 ds)) (r_off (wN (z2 ds)) (r_off (wN (z1 (z2 ds))) (rO (o_pick_t (eV (z4 ds)) ev_c) (r_nil (k_cond_t eZ (k_seq (k_reg (rO (o_mov ev_c) (r_nil (k_ret ?_))))))))))))))
     have hno : ¬ StimP ns ts cs b := by
       intro h
       obtain ⟨h1, h2, h3, k_, x_, h4, h5, h6, h7⟩ := h.each c hcm
       first | omega | exact hr_.elim (fun e => by exfalso; omega) (fun e => e.2 h3)
     exact ⟨_, ans_tmp ds, _, rfl, by omega, ⟨fun h => by omega, fun h => absurd h hno⟩, by omega, kU (kU (hkp) hh10) hh12⟩
   refine k_exit (exK_same (k_seq (k_reg (rO (o_loadA (n := 3) (eV (z1 q3)) hr1 (leb rfl) rfl) (r_call (w_callF (evs_cons eZ evs_nil)) rfl (WF.mono (hlr _ _ (hkp) (by omega)) ?_))))))
   rintro _ t35 n36 ⟨lv, rfl, hn_l, hk_l⟩
   refine m1 ds (rO (o_extr eZ rfl) (rO (o_extr (eV (z1 ds)) rfl) (m1 (z1 ds) (m1 (z1 ds) (r_nil (k_seq (k_reg (m1 ds (m1 ds (r_nil (k_ret ?_)))))))))))
   exact ⟨_, ans_tmp ds, _, rfl, by omega, ⟨fun _ => ⟨by omega, fun c_ hc_ => by obtain ⟨j, hj, rfl⟩ := List.mem_iff_getElem.1 hc_; exact hok j (by omega) _ (List.getElem?_eq_getElem hj), fun j a_ c_ ha_ hc_ => hri j (by have := (List.getElem?_eq_some_iff.1 hc_).1; omega) a_ c_ ha_ hc_⟩, fun _ => rfl⟩, by omega, Keep.trans (hkp) hk_l (by omega) (fun d _ h => h)⟩
 refine rO (ndec_t (o_neq eZ ev_c) hs5) (m1 ds (r_off (wN ds) (r_off (wN (z1 ds)) (rO (o_pick_t (eV (z2 ds)) ev_c) (m1 ds (r_off (wN ds) (r_off (wN (z1 ds)) (rO (o_pick_t (eV (z2 ds)) ev_c) (r_nil (k_cond_t eZ (k_seq (k_reg (rO (o_mov ev_c) (r_nil (k_ret ?_)))))))))))))))
 have hno : ¬ StimP ns ts cs b := by
   intro h
   have h1 := h.upto; omega
 exact ⟨_, ans_tmp ds, _, rfl, by omega, ⟨fun h => by omega, fun h => absurd h hno⟩, by omega, Keep.trans (kU kR hh2) hk_c (by omega) (fun d _ h => h)⟩
end
end Go.Proofs.YtpjohgnhmjceiaaGreatDoor.WX
