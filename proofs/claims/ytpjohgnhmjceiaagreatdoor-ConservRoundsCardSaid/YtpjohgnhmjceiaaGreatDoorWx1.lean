/- The program's functions in the evaluator's terms: the netlist that the gates are made to: what each of them answers, whatever comes in.
   Conditions: those of each theorem. -/
import Derived.Test.YtpjohgnhmjceiaaGreatDoorAx4
import Derived.Test.YtpjohgnhmjceiaaGreatDoorShelf
import Derived.Test.YtpjohgnhmjceiaaGreatDoorProg
set_option linter.all false
set_option linter.unusedVariables false
set_option linter.unusedSectionVars false
set_option maxRecDepth 100000
open Go Go.Proofs.YtpjohgnhmjceiaaGreatDoor.AX Go.Proofs
namespace Go.Proofs.YtpjohgnhmjceiaaGreatDoor.WX
/-! ### Library functions that are told by their contracts -/
noncomputable def bytesOf8 (s : List Nat) : List UInt8 := s.map UInt8.ofNat
noncomputable def trimN (s cs : List Nat) : List Nat := (Lib.trimS (bytesOf8 s) (bytesOf8 cs)).map UInt8.toNat
open Classical in
noncomputable def pTrim : List AV → TB → Option AV
 | [.str s, .str cs], _ => if (∀ c ∈ s, c < 256) ∧ s.length ≤ 9223372036854775807 ∧ cs = [48, 49, 120, 122] then some (.str (trimN s cs)) else none
 | _, _ => none
theorem enc_bytes (s : List Nat) : (enc s).data.toList = bytesOf8 s := by simp [enc, bytesOf8]
theorem pTrim_ok [Env] : PrimOK Tryz.prog 104 pTrim := by
 intro args t nx v h ρ vs w hh hr
 have hx : ∃ s cs, args = [.str s, .str cs] ∧ (∀ c ∈ s, c < 256) ∧ s.length ≤ 9223372036854775807 ∧ cs = [48, 49, 120, 122] ∧ v = .str (trimN s cs) := by
   unfold pTrim at h
   split at h
   · split at h
     · rename_i hc
       cases h
       exact ⟨_, _, rfl, hc.1, hc.2.1, hc.2.2, rfl⟩
     · cases h
   · cases h
 obtain ⟨s, cs, rfl, h1, h2, rfl, rfl⟩ := hx
 simp only [rels, AV.rel] at hr
 obtain ⟨v1, r1, rfl, ⟨rfl, -⟩, v2, r2, rfl, ⟨rfl, -⟩, rfl⟩ := hr
 refine (Tryz.strings_Trim_laid (enc s) (enc [48, 49, 120, 122]) w (by simp [enc, ByteArray.size]; omega) (by simp [enc, ByteArray.size]) ?_).mono (fun e w' ⟨e1, e2⟩ => ⟨_, e1, ?_, e2⟩)
 · intro j b hb
   rw [enc_bytes] at hb
   have hm := List.mem_of_getElem? hb
   simp [bytesOf8] at hm
   rcases hm with rfl | rfl | rfl | rfl <;> decide
 · rw [enc_bytes, enc_bytes]
   refine ⟨?_, fun c hc => ?_⟩
   · show Value.string _ = Value.string (enc (trimN s [48, 49, 120, 122]))
     congr 1
     simp [enc, trimN, Function.comp_def]
   · simp only [trimN, List.mem_map] at hc
     obtain ⟨b, -, rfl⟩ := hc
     exact b.toNat_lt
/-- Nothing is left where all bytes are among those that are cut off. -/
theorem drop_nil_ {α : Type} (p : α → Bool) : ∀ l : List α, l.dropWhile p = [] ↔ ∀ b ∈ l, p b = true
 | [] => by simp
 | b :: l => by
   rw [List.dropWhile_cons]
   by_cases h : p b = true
   · rw [if_pos h, drop_nil_ p l]; simp [h]
   · rw [if_neg h]; simp [h]
theorem take_mem_ {α : Type} (p : α → Bool) : ∀ (m : List α) (b : α), b ∈ m.takeWhile p → p b = true
 | [], b, h => by simp at h
 | c :: m, b, h => by
   rw [List.takeWhile_cons] at h
   by_cases hc : p c = true
   · rw [if_pos hc] at h
     rcases List.mem_cons.1 h with rfl | h
     · exact hc
     · exact take_mem_ p m b h
   · rw [if_neg hc] at h
     simp at h
theorem trim_nil (l cs : List UInt8) : Lib.trimS l cs = [] ↔ ∀ b ∈ l, b ∈ cs := by
 have hd : ∀ m : List UInt8, m.dropWhile (cs.contains ·) = [] ↔ ∀ b ∈ m, b ∈ cs := by
   intro m
   rw [drop_nil_]
   simp
 unfold Lib.trimS Lib.trimLeftS
 rw [hd]
 unfold Lib.trimRightS
 constructor
 · intro h b hb
   by_cases hn : b ∈ (l.reverse.dropWhile (cs.contains ·)).reverse
   · exact h b hn
   · have hall : ∀ x ∈ l.reverse.dropWhile (cs.contains ·), x ∈ cs := fun x hx => h x (List.mem_reverse.2 hx)
     have : l.reverse.takeWhile (cs.contains ·) ++ l.reverse.dropWhile (cs.contains ·) = l.reverse := List.takeWhile_append_dropWhile
     have hm : b ∈ l.reverse.takeWhile (cs.contains ·) ++ l.reverse.dropWhile (cs.contains ·) := by rw [this]; exact List.mem_reverse.2 hb
     rcases List.mem_append.1 hm with hm | hm
     · have := take_mem_ _ _ _ hm
       simpa using this
     · exact hall b hm
 · intro h b hb
   exact h b (List.mem_reverse.1 ((List.dropWhile_sublist _).subset (List.mem_reverse.1 hb)))
theorem trimN_nil {s : List Nat} (h : ∀ c ∈ s, c < 256) : trimN s [48, 49, 120, 122] = [] ↔ ∀ c ∈ s, c = 48 ∨ c = 49 ∨ c = 120 ∨ c = 122 := by
 unfold trimN
 rw [List.map_eq_nil_iff, trim_nil]
 simp only [bytesOf8, List.mem_map, forall_exists_index, and_imp, forall_apply_eq_imp_iff₂, List.map_cons, List.map_nil]
 constructor
 · intro k c hc
   have h1 := k c hc
   have h2 := h c hc
   simp only [List.mem_cons, List.not_mem_nil, or_false] at h1
   have e : ∀ d : Nat, d < 256 → UInt8.ofNat c = UInt8.ofNat d → c = d := fun d hd e => by
     have := congrArg UInt8.toNat e
     simp only [UInt8.toNat_ofNat'] at this
     omega
   rcases h1 with h1 | h1 | h1 | h1
   · exact .inl (e _ (by decide) h1)
   · exact .inr (.inl (e _ (by decide) h1))
   · exact .inr (.inr (.inl (e _ (by decide) h1)))
   · exact .inr (.inr (.inr (e _ (by decide) h1)))
 · intro k c hc
   rcases k c hc with rfl | rfl | rfl | rfl <;> simp
/-- A function without arguments that tells true. -/
noncomputable def pTrue : List AV → TB → Option AV
 | [], _ => some (.bool true)
 | _, _ => none
theorem pTrue_ok [Env] {P : Program} {f : FuncId} (h : ∀ w : World, Calls P f #[] w fun e w' => e = .returned (.bool true) ∧ RowKit.Below w.heap.size w w') : PrimOK P f pTrue := by
 intro args t nx v hv ρ vs w hh hr
 cases args with
 | nil =>
   cases hv
   rw [rels_nil.1 hr]
   exact (h w).mono (fun e w' ⟨e1, e2⟩ => ⟨_, e1, rfl, e2⟩)
 | cons a l => cases hv
noncomputable def tb (f : Nat) : Option AFn := bif f == 104 then some (.prim pTrim) else bif f == 17 then some (.prim pTrue) else bif f == 31 then some (.prim pTrue) else bif f == 39 then some (.prim pTrue) else fnOf Tryz.prog [9, 66, 109, 111, 193] f
theorem trim_tab : tb 104 = some (.prim pTrim) := rfl
theorem awake0_tab : tb 17 = some (.prim pTrue) := rfl
theorem awake1_tab : tb 31 = some (.prim pTrue) := rfl
theorem awake2_tab : tb 39 = some (.prim pTrue) := rfl
end Go.Proofs.YtpjohgnhmjceiaaGreatDoor.WX

set_option linter.all false
set_option linter.unusedVariables false
set_option linter.unusedSectionVars false
set_option maxRecDepth 100000
open Go Go.Proofs.YtpjohgnhmjceiaaGreatDoor.AX Go.Proofs
namespace Go.Proofs.YtpjohgnhmjceiaaGreatDoor.WX
def adds_r0 : List Ins := [.o 3 (.box (.t 1)),
 .o 4 (.mov (kI 0))]
def adds_r1 : List DIns := [⟨0, [], .mv 5 0⟩,
 ⟨1, [], .mv 6 0⟩,
 ⟨2, [1], .o 7 (.nilck (.t 6))⟩,
 ⟨3, [2], .o 8 (.faddr (.t 7) 0)⟩,
 ⟨4, [3], .o 9 (.faddr (.t 8) 0)⟩,
 ⟨5, [4], .o 10 (.load (.t 9))⟩,
 ⟨6, [], .o 11 (.loadA 8 (.t 3))⟩,
 ⟨7, [6], .o 12 (.bslice 8 1 [(.int .i64 0), (.int .i64 0), (.int .i64 0), .nslice, (.str []), (.int .i64 0), (.int .i64 0), (.int .i64 0)] [(0, 8, (.t 11))])⟩,
 ⟨8, [5, 7], .o 13 (.app 8 (.t 10) (.t 12))⟩,
 ⟨9, [0, 0, 1, 2, 3, 4, 5, 6, 7, 8], .o 14 (.nilck (.t 5))⟩,
 ⟨10, [9, 0, 1, 2, 3, 4, 5, 6, 7, 8], .o 15 (.faddr (.t 14) 0)⟩,
 ⟨11, [10, 0, 1, 2, 3, 4, 5, 6, 7, 8], .o 16 (.faddr (.t 15) 0)⟩,
 ⟨12, [11, 8, 8, 0, 1, 2, 3, 4, 5, 6, 7, 8], .x (.store 1 (.t 16) (.t 13))⟩]
def adds_r2 : List Ins := [.mv 17 0,
 .o 18 (.nilck (.t 17)),
 .o 19 (.faddr (.t 18) 0),
 .o 20 (.faddr (.t 19) 0),
 .o 21 (.load (.t 20)),
 .o 22 (.len .slc (.t 21)),
 .o 23 (.bin .sub (.t 22) (kI 1)),
 .mv 4 23]
def adds_c : IC := (.seq (.reg adds_r0) (.seq (.draw adds_r1) (.seq (.reg adds_r2) .ret)))
theorem adds_tab : tb 42 = some (.code 2 24 adds_c [.tmp 4]) := by kernel_rfl
def fit_r0 : List Ins := [.o 6 (.mov (kI 0))]
def fit_r1 : List Ins := [.mv 7 0,
 .o 8 (.nilck (.t 7)),
 .o 9 (.faddr (.t 8) 0),
 .o 10 (.faddr (.t 9) 0),
 .o 11 (.load (.t 10)),
 .mv 12 1,
 .o 13 (.iaddr 8 (.t 11) (.t 12)),
 .o 14 (.faddr (.t 13) 2),
 .o 15 (.load (.t 14)),
 .mv 16 2,
 .o 17 (.bin .eql (.t 15) (.t 16))]
def fit_r2 : List Ins := [.mv 18 1,
 .mv 6 18]
def fit_r3 : List Ins := [.mv 19 0,
 .mv 20 2,
 .mv 21 1,
 .o 22 (.bslice 1 1 [(.int .i64 0)] [(0, 1, (.t 21))]),
 .o 23 (.build [(.int .i64 0), (.int .i64 0), (.int .i64 0), .nslice, (.str []), (.int .i64 0), (.int .i64 0), (.int .i64 0)] [(0, 1, (kI 6)), (2, 1, (.t 20)), (3, 1, (.t 22))]),
 .f 24 42 [(.t 19), (.t 23)],
 .mv 6 24]
def fit_c : IC := (.seq (.reg fit_r0) (.seq (.seq (.reg fit_r1) (.cond (.t 17) (.seq (.reg fit_r2) .ret) .skip)) (.seq (.reg fit_r3) .ret)))
theorem fit_tab : tb 44 = some (.code 3 25 fit_c [.tmp 6]) := by kernel_rfl
def back_r0 : List Ins := [.mv 8 0,
 .o 9 (.nilck (.t 8)),
 .o 10 (.faddr (.t 9) 0),
 .o 11 (.faddr (.t 10) 0),
 .o 12 (.load (.t 11)),
 .o 13 (.len .slc (.t 12)),
 .mv 4 13]
def back_r1 : List Ins := [.o 5 (.mov (kI 0))]
def back_r2 : List Ins := [.mv 14 5,
 .mv 15 4,
 .o 16 (.bin .lss (.t 14) (.t 15)),
 .mv 17 16,
 .g 18 17 true (.mov (.t 5)),
 .g 19 17 true (.mov (.t 1)),
 .g 20 17 true (.len .slc (.t 19)),
 .g 21 17 true (.bin .lss (.t 18) (.t 20)),
 .o 22 (.pick (.t 17) (.t 21) (.c (.bool false)))]
def back_r3 : List Ins := [.mv 25 0,
 .o 26 (.nilck (.t 25)),
 .o 27 (.faddr (.t 26) 0),
 .o 28 (.faddr (.t 27) 0),
 .o 29 (.load (.t 28)),
 .mv 30 5,
 .o 31 (.iaddr 8 (.t 29) (.t 30)),
 .o 32 (.loadA 8 (.t 31)),
 .o 6 (.alloc [(.int .i64 0), (.int .i64 0), (.int .i64 0), .nslice, (.str []), (.int .i64 0), (.int .i64 0), (.int .i64 0)]),
 .x (.store 8 (.t 6) (.t 32))]
def back_r4 : List Ins := [.mv 33 1,
 .mv 34 5,
 .o 35 (.iaddr 5 (.t 33) (.t 34)),
 .o 36 (.faddr (.t 35) 2),
 .o 37 (.load (.t 36)),
 .o 38 (.bin .shr (.t 37) (.c (.int .u64 16))),
 .o 39 (.bin .and (.t 38) (kI 65535)),
 .mv 40 4,
 .o 41 (.bin .rem (.t 39) (.t 40)),
 .mv 7 41]
def back_r5 : List DIns := [⟨0, [], .mv 42 0⟩,
 ⟨1, [0], .o 43 (.nilck (.t 42))⟩,
 ⟨2, [1], .o 44 (.faddr (.t 43) 0)⟩,
 ⟨3, [2], .o 45 (.faddr (.t 44) 0)⟩,
 ⟨4, [3], .o 46 (.load (.t 45))⟩,
 ⟨5, [], .mv 47 7⟩,
 ⟨6, [4, 5], .o 48 (.iaddr 8 (.t 46) (.t 47))⟩,
 ⟨7, [6], .o 49 (.faddr (.t 48) 2)⟩,
 ⟨8, [7], .o 50 (.load (.t 49))⟩,
 ⟨9, [], .o 51 (.faddr (.t 6) 2)⟩,
 ⟨10, [9], .o 52 (.load (.t 51))⟩,
 ⟨11, [8, 10], .o 53 (.bin .neq (.t 50) (.t 52))⟩,
 ⟨12, [11], .mv 54 53⟩,
 ⟨13, [12], .g 55 54 false (.mov (.t 1))⟩,
 ⟨14, [12], .g 56 54 false (.mov (.t 5))⟩,
 ⟨15, [13, 14, 12], .g 57 54 false (.iaddr 5 (.t 55) (.t 56))⟩,
 ⟨16, [15, 12], .g 58 54 false (.faddr (.t 57) 1)⟩,
 ⟨17, [16, 12], .g 59 54 false (.load (.t 58))⟩,
 ⟨18, [17, 12], .g 60 54 false (.bin .shr (.t 59) (.c (.int .u64 16)))⟩,
 ⟨19, [18, 12], .g 61 54 false (.bin .and (.t 60) (kI 1))⟩,
 ⟨20, [19, 12], .g 62 54 false (.bin .eql (.t 61) (kI 0))⟩,
 ⟨21, [12, 20], .o 63 (.pick (.t 54) (.c (.bool true)) (.t 62))⟩]
def back_r6 : List Ins := [.o 64 (.faddr (.t 6) 0),
 .o 65 (.load (.t 64)),
 .o 66 (.bin .eql (.t 65) (kI 8))]
def back_r7 : List Ins := [.mv 67 0,
 .o 68 (.nilck (.t 67)),
 .o 69 (.faddr (.t 68) 0),
 .o 70 (.faddr (.t 69) 0),
 .o 71 (.load (.t 70)),
 .mv 72 5,
 .mv 73 7,
 .o 74 (.bslice 1 1 [(.int .i64 0)] [(0, 1, (.t 73))]),
 .o 75 (.iaddr 8 (.t 71) (.t 72)),
 .o 76 (.faddr (.t 75) 3),
 .x (.store 1 (.t 76) (.t 74))]
def back_r8 : List Ins := [.o 77 (.faddr (.t 6) 0),
 .o 78 (.load (.t 77)),
 .o 79 (.bin .eql (.t 78) (kI 7))]
def back_r9 : List DIns := [⟨0, [], .mv 80 0⟩,
 ⟨1, [0], .o 81 (.nilck (.t 80))⟩,
 ⟨2, [1], .o 82 (.faddr (.t 81) 0)⟩,
 ⟨3, [2], .o 83 (.faddr (.t 82) 0)⟩,
 ⟨4, [3], .o 84 (.load (.t 83))⟩,
 ⟨5, [], .mv 85 5⟩,
 ⟨6, [], .o 86 (.faddr (.t 6) 3)⟩,
 ⟨7, [6], .o 87 (.load (.t 86))⟩,
 ⟨8, [7], .o 88 (.iaddr 1 (.t 87) (kI 0))⟩,
 ⟨9, [8], .o 89 (.load (.t 88))⟩,
 ⟨10, [], .mv 90 7⟩,
 ⟨11, [9, 10], .o 91 (.bslice 1 2 [(.int .i64 0)] [(0, 1, (.t 89)), (1, 1, (.t 90))])⟩,
 ⟨12, [4, 5, 0, 1, 2, 3, 4, 5, 6, 7, 8, 9, 10, 11], .o 92 (.iaddr 8 (.t 84) (.t 85))⟩,
 ⟨13, [12, 0, 1, 2, 3, 4, 5, 6, 7, 8, 9, 10, 11], .o 93 (.faddr (.t 92) 3)⟩,
 ⟨14, [13, 11, 0, 1, 2, 3, 4, 5, 6, 7, 8, 9, 10, 11], .x (.store 1 (.t 93) (.t 91))⟩]
def back_r10 : List Ins := [.mv 23 5,
 .o 24 (.bin .add (.t 23) (kI 1)),
 .mv 5 24]
def back_c : IC := (.seq (.reg back_r0) (.seq (.reg back_r1) (.block 0 (.loop (.seq (.seq (.reg back_r2) (.cond (.t 22) .skip (.exit 0))) (.seq (.block 1 (.seq (.reg back_r3) (.seq (.reg back_r4) (.seq (.seq (.draw back_r5) (.cond (.t 63) (.exit 1) .skip)) (.seq (.seq (.reg back_r6) (.cond (.t 66) (.reg back_r7) .skip)) (.seq (.reg back_r8) (.cond (.t 79) (.draw back_r9) .skip))))))) (.reg back_r10)))))))
theorem back_tab : tb 47 = some (.code 2 94 back_c []) := by kernel_rfl
def made_r0 : List Ins := [.o 2 (.alloc [.nslice, .nslice, (.int .i64 0)])]
def made_r1 : List Ins := [.o 21 (.build [.nslice, .nslice, (.int .i64 0)] []),
 .o 22 (.box (.t 21)),
 .mv 3 22]
def made_r2 : List Ins := [.mv 23 3,
 .mv 24 3,
 .o 25 (.build [(.int .i64 0), (.int .i64 0), (.int .i64 0), .nslice, (.str []), (.int .i64 0), (.int .i64 0), (.int .i64 0)] [(0, 1, (kI 2)), (2, 1, (kI 1))]),
 .f 26 42 [(.t 24), (.t 25)],
 .mv 27 3,
 .o 28 (.build [(.int .i64 0), (.int .i64 0), (.int .i64 0), .nslice, (.str []), (.int .i64 0), (.int .i64 0), (.int .i64 0)] [(0, 1, (kI 2)), (2, 1, (kI 3))]),
 .f 29 42 [(.t 27), (.t 28)],
 .o 30 (.bslice 1 2 [(.int .i64 0)] [(0, 1, (.t 26)), (1, 1, (.t 29))]),
 .o 31 (.nilck (.t 23)),
 .o 32 (.faddr (.t 31) 0),
 .o 33 (.faddr (.t 32) 1),
 .x (.store 1 (.t 33) (.t 30))]
def made_r3 : List Ins := [.o 4 (.mov (kI 0))]
def made_r4 : List Ins := [.mv 34 4,
 .mv 35 0,
 .o 36 (.len .slc (.t 35)),
 .o 37 (.bin .lss (.t 34) (.t 36)),
 .mv 38 37,
 .g 39 38 true (.mov (.t 4)),
 .g 40 38 true (.bin .lss (.t 39) (kI 40)),
 .o 41 (.pick (.t 38) (.t 40) (.c (.bool false)))]
def made_r5 : List Ins := [.mv 44 0,
 .mv 45 4,
 .o 46 (.iaddr 5 (.t 44) (.t 45)),
 .o 47 (.loadA 5 (.t 46)),
 .o 5 (.alloc [(.int .i64 0), (.int .i64 0), (.int .i64 0), (.int .i64 0), (.int .i64 0)]),
 .x (.store 5 (.t 5) (.t 47))]
def made_r6 : List Ins := [.mv 48 3,
 .o 49 (.nilck (.t 48)),
 .o 50 (.faddr (.t 49) 0),
 .o 51 (.faddr (.t 50) 0),
 .o 52 (.load (.t 51)),
 .o 53 (.len .slc (.t 52)),
 .mv 6 53]
def made_r7 : List DIns := [⟨0, [], .o 54 (.faddr (.t 5) 1)⟩,
 ⟨1, [0], .o 55 (.load (.t 54))⟩,
 ⟨2, [1], .o 56 (.bin .and (.t 55) (kI 65535))⟩,
 ⟨3, [], .mv 57 6⟩,
 ⟨4, [2, 3], .o 58 (.bin .rem (.t 56) (.t 57))⟩,
 ⟨5, [], .o 59 (.faddr (.t 5) 2)⟩,
 ⟨6, [5], .o 60 (.load (.t 59))⟩,
 ⟨7, [6], .o 61 (.bin .and (.t 60) (kI 65535))⟩,
 ⟨8, [], .mv 62 6⟩,
 ⟨9, [7, 8], .o 63 (.bin .rem (.t 61) (.t 62))⟩,
 ⟨10, [], .o 64 (.faddr (.t 5) 3)⟩,
 ⟨11, [10], .o 65 (.load (.t 64))⟩,
 ⟨12, [11], .o 66 (.bin .and (.t 65) (kI 65535))⟩,
 ⟨13, [], .mv 67 6⟩,
 ⟨14, [12, 13], .o 68 (.bin .rem (.t 66) (.t 67))⟩,
 ⟨15, [4, 0, 1, 2, 3, 4], .mv 7 58⟩,
 ⟨16, [9, 15, 0, 1, 2, 3, 4, 5, 6, 7, 8, 9, 15], .mv 8 63⟩,
 ⟨17, [14, 16, 0, 1, 2, 3, 4, 5, 6, 7, 8, 9, 10, 11, 12, 13, 14, 15, 16], .mv 9 68⟩]
def made_r8 : List Ins := [.o 69 (.faddr (.t 5) 4),
 .o 70 (.load (.t 69)),
 .o 71 (.bin .and (.t 70) (kI 3)),
 .o 72 (.bin .add (kI 1) (.t 71)),
 .mv 10 72]
def made_r9 : List Ins := [.o 73 (.faddr (.t 5) 0),
 .o 74 (.load (.t 73)),
 .o 75 (.bin .and (.t 74) (kI 65535)),
 .o 76 (.bin .rem (.t 75) (kI 9))]
def made_r10 : List Ins := [.o 121 (.bin .eql (.t 76) (kI 0)),
 .mv 120 121]
def made_r11 : List Ins := [.mv 122 3,
 .mv 123 10,
 .o 124 (.faddr (.t 5) 4),
 .o 125 (.load (.t 124)),
 .o 126 (.bin .or (.t 125) (kI 1099511627776)),
 .o 127 (.bin .or (.t 126) (kI 2199023255552)),
 .mv 128 10,
 .f 129 43 [(.t 127), (.t 128)],
 .o 130 (.build [(.int .i64 0), (.int .i64 0), (.int .i64 0), .nslice, (.str []), (.int .i64 0), (.int .i64 0), (.int .i64 0)] [(0, 1, (kI 1)), (2, 1, (.t 123)), (4, 1, (.t 129))]),
 .f 131 42 [(.t 122), (.t 130)]]
def made_r12 : List Ins := [.o 133 (.bin .eql (.t 76) (kI 1)),
 .mv 132 133]
def made_r13 : List Ins := [.o 134 (.bin .eql (.t 76) (kI 2)),
 .mv 132 134]
def made_r14 : List Ins := [.o 135 (.faddr (.t 5) 3),
 .o 136 (.load (.t 135)),
 .o 137 (.bin .and (.t 136) (kI 65535)),
 .o 138 (.bin .rem (.t 137) (kI 14)),
 .o 139 (.bin .add (kI 13) (.t 138)),
 .mv 11 139]
def made_r15 : List Ins := [.mv 140 3,
 .mv 141 7,
 .mv 142 10,
 .f 143 44 [(.t 140), (.t 141), (.t 142)],
 .mv 12 143]
def made_r16 : List Ins := [.mv 144 3,
 .mv 145 8,
 .mv 146 10,
 .f 147 44 [(.t 144), (.t 145), (.t 146)],
 .mv 13 147]
def made_r17 : List Ins := [.mv 148 3,
 .mv 149 11,
 .mv 150 11,
 .mv 151 10,
 .f 152 45 [(.t 150), (.t 151)],
 .mv 153 12,
 .mv 154 13,
 .o 155 (.bslice 1 2 [(.int .i64 0)] [(0, 1, (.t 153)), (1, 1, (.t 154))]),
 .o 156 (.build [(.int .i64 0), (.int .i64 0), (.int .i64 0), .nslice, (.str []), (.int .i64 0), (.int .i64 0), (.int .i64 0)] [(0, 1, (kI 3)), (1, 1, (.t 149)), (2, 1, (.t 152)), (3, 1, (.t 155))]),
 .f 157 42 [(.t 148), (.t 156)]]
def made_r18 : List Ins := [.o 159 (.bin .eql (.t 76) (kI 3)),
 .mv 158 159]
def made_r19 : List Ins := [.o 160 (.faddr (.t 5) 3),
 .o 161 (.load (.t 160)),
 .o 162 (.bin .and (.t 161) (kI 65535)),
 .o 163 (.bin .rem (.t 162) (kI 6)),
 .o 164 (.bin .add (kI 7) (.t 163)),
 .mv 14 164]
def made_r20 : List Ins := [.mv 165 3,
 .o 166 (.nilck (.t 165)),
 .o 167 (.faddr (.t 166) 0),
 .o 168 (.faddr (.t 167) 0),
 .o 169 (.load (.t 168)),
 .mv 170 7,
 .o 171 (.iaddr 8 (.t 169) (.t 170)),
 .o 172 (.faddr (.t 171) 2),
 .o 173 (.load (.t 172)),
 .mv 10 173]
def made_r21 : List Ins := [.mv 174 14,
 .o 175 (.bin .neq (.t 174) (kI 7)),
 .mv 176 175,
 .g 177 176 true (.mov (.t 14)),
 .g 178 176 true (.bin .neq (.t 177) (kI 9)),
 .o 179 (.pick (.t 176) (.t 178) (.c (.bool false)))]
def made_r22 : List Ins := [.o 10 (.mov (kI 1))]
def made_r23 : List Ins := [.mv 180 3,
 .mv 181 14,
 .mv 182 10,
 .mv 183 7,
 .o 184 (.bslice 1 1 [(.int .i64 0)] [(0, 1, (.t 183))]),
 .o 185 (.build [(.int .i64 0), (.int .i64 0), (.int .i64 0), .nslice, (.str []), (.int .i64 0), (.int .i64 0), (.int .i64 0)] [(0, 1, (kI 3)), (1, 1, (.t 181)), (2, 1, (.t 182)), (3, 1, (.t 184))]),
 .f 186 42 [(.t 180), (.t 185)]]
def made_r24 : List Ins := [.o 188 (.bin .eql (.t 76) (kI 4)),
 .mv 187 188]
def made_r25 : List Ins := [.mv 189 3,
 .mv 190 7,
 .mv 191 10,
 .f 192 44 [(.t 189), (.t 190), (.t 191)],
 .mv 15 192]
def made_r26 : List Ins := [.mv 193 3,
 .mv 194 8,
 .mv 195 10,
 .f 196 44 [(.t 193), (.t 194), (.t 195)],
 .mv 16 196]
def made_r27 : List Ins := [.o 197 (.faddr (.t 5) 4),
 .o 198 (.load (.t 197)),
 .o 199 (.bin .and (.t 198) (kI 8)),
 .o 200 (.bin .eql (.t 199) (kI 0))]
def made_r28 : List Ins := [.mv 201 3,
 .mv 202 10,
 .mv 203 9,
 .mv 204 15,
 .mv 205 16,
 .o 206 (.bslice 1 3 [(.int .i64 0)] [(0, 1, (.t 203)), (1, 1, (.t 204)), (2, 1, (.t 205))]),
 .o 207 (.build [(.int .i64 0), (.int .i64 0), (.int .i64 0), .nslice, (.str []), (.int .i64 0), (.int .i64 0), (.int .i64 0)] [(0, 1, (kI 4)), (2, 1, (.t 202)), (3, 1, (.t 206))]),
 .f 208 42 [(.t 201), (.t 207)]]
def made_r29 : List Ins := [.mv 209 3,
 .mv 210 10,
 .mv 211 9,
 .mv 212 15,
 .mv 213 16,
 .o 214 (.bslice 1 3 [(.int .i64 0)] [(0, 1, (.t 211)), (1, 1, (.t 212)), (2, 1, (.t 213))]),
 .o 215 (.build [(.int .i64 0), (.int .i64 0), (.int .i64 0), .nslice, (.str []), (.int .i64 0), (.int .i64 0), (.int .i64 0)] [(0, 1, (kI 3)), (1, 1, (kI 6)), (2, 1, (.t 210)), (3, 1, (.t 214))]),
 .f 216 42 [(.t 209), (.t 215)]]
def made_r30 : List Ins := [.o 218 (.bin .eql (.t 76) (kI 5)),
 .mv 217 218]
def made_r31 : List Ins := [.mv 219 3,
 .mv 220 3,
 .mv 221 7,
 .mv 222 10,
 .f 223 44 [(.t 220), (.t 221), (.t 222)],
 .mv 224 3,
 .mv 225 8,
 .mv 226 10,
 .f 227 44 [(.t 224), (.t 225), (.t 226)],
 .o 228 (.bslice 1 2 [(.int .i64 0)] [(0, 1, (.t 223)), (1, 1, (.t 227))]),
 .o 229 (.build [(.int .i64 0), (.int .i64 0), (.int .i64 0), .nslice, (.str []), (.int .i64 0), (.int .i64 0), (.int .i64 0)] [(0, 1, (kI 5)), (2, 1, (kI 1)), (3, 1, (.t 228))]),
 .f 230 42 [(.t 219), (.t 229)]]
def made_r32 : List Ins := [.o 232 (.bin .eql (.t 76) (kI 6)),
 .mv 231 232]
def made_r33 : List Ins := [.mv 233 3,
 .mv 234 7,
 .mv 235 10,
 .f 236 44 [(.t 233), (.t 234), (.t 235)],
 .mv 17 236]
def made_r34 : List DIns := [⟨0, [], .mv 237 3⟩,
 ⟨1, [], .mv 238 10⟩,
 ⟨2, [], .mv 239 3⟩,
 ⟨3, [2], .o 240 (.nilck (.t 239))⟩,
 ⟨4, [3], .o 241 (.faddr (.t 240) 0)⟩,
 ⟨5, [4], .o 242 (.loadA 3 (.t 241))⟩,
 ⟨6, [], .o 243 (.faddr (.t 5) 3)⟩,
 ⟨7, [6], .o 244 (.load (.t 243))⟩,
 ⟨8, [5, 7], .f 245 46 [(.t 242), (.t 244)]⟩,
 ⟨9, [], .mv 246 17⟩,
 ⟨10, [8, 9], .o 247 (.bslice 1 2 [(.int .i64 0)] [(0, 1, (.t 245)), (1, 1, (.t 246))])⟩,
 ⟨11, [1, 10], .o 248 (.build [(.int .i64 0), (.int .i64 0), (.int .i64 0), .nslice, (.str []), (.int .i64 0), (.int .i64 0), (.int .i64 0)] [(0, 1, (kI 7)), (2, 1, (.t 238)), (3, 1, (.t 247))])⟩,
 ⟨12, [0, 11, 8], .f 249 42 [(.t 237), (.t 248)]⟩]
def made_r35 : List Ins := [.o 251 (.bin .eql (.t 76) (kI 7)),
 .mv 250 251]
def made_r36 : List Ins := [.mv 252 3,
 .mv 253 7,
 .mv 254 10,
 .f 255 44 [(.t 252), (.t 253), (.t 254)],
 .mv 18 255]
def made_r37 : List Ins := [.mv 256 3,
 .mv 257 10,
 .mv 258 18,
 .o 259 (.bslice 1 1 [(.int .i64 0)] [(0, 1, (.t 258))]),
 .o 260 (.faddr (.t 5) 3),
 .o 261 (.load (.t 260)),
 .o 262 (.bin .and (.t 261) (kI 3)),
 .o 263 (.bin .add (kI 1) (.t 262)),
 .o 264 (.build [(.int .i64 0), (.int .i64 0), (.int .i64 0), .nslice, (.str []), (.int .i64 0), (.int .i64 0), (.int .i64 0)] [(0, 1, (kI 8)), (2, 1, (.t 257)), (3, 1, (.t 259)), (7, 1, (.t 263))]),
 .f 265 42 [(.t 256), (.t 264)]]
def made_r38 : List DIns := [⟨0, [], .mv 77 3⟩,
 ⟨1, [0], .o 78 (.nilck (.t 77))⟩,
 ⟨2, [1], .o 79 (.faddr (.t 78) 0)⟩,
 ⟨3, [2], .o 80 (.faddr (.t 79) 0)⟩,
 ⟨4, [3], .o 81 (.load (.t 80))⟩,
 ⟨5, [], .mv 82 7⟩,
 ⟨6, [4, 5], .o 83 (.iaddr 8 (.t 81) (.t 82))⟩,
 ⟨7, [6], .o 84 (.faddr (.t 83) 2)⟩,
 ⟨8, [7], .o 85 (.load (.t 84))⟩,
 ⟨9, [], .mv 86 3⟩,
 ⟨10, [9], .o 87 (.nilck (.t 86))⟩,
 ⟨11, [10], .o 88 (.faddr (.t 87) 0)⟩,
 ⟨12, [11], .o 89 (.faddr (.t 88) 0)⟩,
 ⟨13, [12], .o 90 (.load (.t 89))⟩,
 ⟨14, [], .mv 91 8⟩,
 ⟨15, [13, 14], .o 92 (.iaddr 8 (.t 90) (.t 91))⟩,
 ⟨16, [15], .o 93 (.faddr (.t 92) 2)⟩,
 ⟨17, [16], .o 94 (.load (.t 93))⟩,
 ⟨18, [8, 17], .o 95 (.bin .add (.t 85) (.t 94))⟩,
 ⟨19, [18, 0, 1, 2, 3, 4, 5, 6, 7, 8, 9, 10, 11, 12, 13, 14, 15, 16, 17, 18], .mv 19 95⟩]
def made_r39 : List Ins := [.mv 96 19,
 .o 97 (.bin .gtr (.t 96) (kI 200))]
def made_r40 : List Ins := [.mv 98 3,
 .o 99 (.nilck (.t 98)),
 .o 100 (.faddr (.t 99) 0),
 .o 101 (.faddr (.t 100) 0),
 .o 102 (.load (.t 101)),
 .mv 103 7,
 .o 104 (.iaddr 8 (.t 102) (.t 103)),
 .o 105 (.faddr (.t 104) 2),
 .o 106 (.load (.t 105)),
 .mv 19 106]
def made_r41 : List Ins := [.mv 107 3,
 .mv 108 19,
 .mv 109 7,
 .o 110 (.bslice 1 1 [(.int .i64 0)] [(0, 1, (.t 109))]),
 .o 111 (.build [(.int .i64 0), (.int .i64 0), (.int .i64 0), .nslice, (.str []), (.int .i64 0), (.int .i64 0), (.int .i64 0)] [(0, 1, (kI 3)), (1, 1, (kI 5)), (2, 1, (.t 108)), (3, 1, (.t 110))]),
 .f 112 42 [(.t 107), (.t 111)]]
def made_r42 : List Ins := [.mv 113 3,
 .mv 114 19,
 .mv 115 7,
 .mv 116 8,
 .o 117 (.bslice 1 2 [(.int .i64 0)] [(0, 1, (.t 115)), (1, 1, (.t 116))]),
 .o 118 (.build [(.int .i64 0), (.int .i64 0), (.int .i64 0), .nslice, (.str []), (.int .i64 0), (.int .i64 0), (.int .i64 0)] [(0, 1, (kI 3)), (1, 1, (kI 5)), (2, 1, (.t 114)), (3, 1, (.t 117))]),
 .f 119 42 [(.t 113), (.t 118)]]
def made_r43 : List Ins := [.mv 42 4,
 .o 43 (.bin .add (.t 42) (kI 1)),
 .mv 4 43]
def made_r44 : List Ins := [.mv 266 3,
 .mv 267 0,
 .f 268 47 [(.t 266), (.t 267)]]
def made_r45 : List Ins := [.o 20 (.mov (kI 0))]
def made_r46 : List Ins := [.mv 269 20,
 .o 270 (.bin .lss (.t 269) (kI 4)),
 .mv 271 270,
 .g 272 271 true (.mov (.t 3)),
 .g 273 271 true (.nilck (.t 272)),
 .g 274 271 true (.faddr (.t 273) 0),
 .g 275 271 true (.faddr (.t 274) 0),
 .g 276 271 true (.load (.t 275)),
 .g 277 271 true (.len .slc (.t 276)),
 .g 278 271 true (.bin .sub (.t 277) (kI 1)),
 .g 279 271 true (.mov (.t 20)),
 .g 280 271 true (.bin .sub (.t 278) (.t 279)),
 .g 281 271 true (.bin .gtr (.t 280) (kI 1)),
 .o 282 (.pick (.t 271) (.t 281) (.c (.bool false)))]
def made_r47 : List DIns := [⟨0, [], .mv 285 3⟩,
 ⟨1, [], .mv 286 3⟩,
 ⟨2, [1], .o 287 (.nilck (.t 286))⟩,
 ⟨3, [2], .o 288 (.faddr (.t 287) 0)⟩,
 ⟨4, [3], .o 289 (.faddr (.t 288) 1)⟩,
 ⟨5, [4], .o 290 (.load (.t 289))⟩,
 ⟨6, [], .mv 291 3⟩,
 ⟨7, [6], .o 292 (.nilck (.t 291))⟩,
 ⟨8, [7], .o 293 (.faddr (.t 292) 0)⟩,
 ⟨9, [8], .o 294 (.faddr (.t 293) 0)⟩,
 ⟨10, [9], .o 295 (.load (.t 294))⟩,
 ⟨11, [10], .o 296 (.len .slc (.t 295))⟩,
 ⟨12, [11], .o 297 (.bin .sub (.t 296) (kI 1))⟩,
 ⟨13, [], .mv 298 20⟩,
 ⟨14, [12, 13], .o 299 (.bin .sub (.t 297) (.t 298))⟩,
 ⟨15, [14], .o 300 (.bslice 1 1 [(.int .i64 0)] [(0, 1, (.t 299))])⟩,
 ⟨16, [5, 15], .o 301 (.app 1 (.t 290) (.t 300))⟩,
 ⟨17, [0, 0, 1, 2, 3, 4, 5, 6, 7, 8, 9, 10, 11, 12, 13, 14, 15, 16], .o 302 (.nilck (.t 285))⟩,
 ⟨18, [17, 0, 1, 2, 3, 4, 5, 6, 7, 8, 9, 10, 11, 12, 13, 14, 15, 16], .o 303 (.faddr (.t 302) 0)⟩,
 ⟨19, [18, 0, 1, 2, 3, 4, 5, 6, 7, 8, 9, 10, 11, 12, 13, 14, 15, 16], .o 304 (.faddr (.t 303) 1)⟩,
 ⟨20, [19, 16, 16, 0, 1, 2, 3, 4, 5, 6, 7, 8, 9, 10, 11, 12, 13, 14, 15, 16], .x (.store 1 (.t 304) (.t 301))⟩]
def made_r48 : List Ins := [.mv 283 20,
 .o 284 (.bin .add (.t 283) (kI 1)),
 .mv 20 284]
def made_r49 : List Ins := [.mv 305 3,
 .mv 306 3,
 .o 307 (.nilck (.t 306)),
 .o 308 (.faddr (.t 307) 0),
 .o 309 (.faddr (.t 308) 1),
 .o 310 (.load (.t 309)),
 .o 311 (.len .slc (.t 310)),
 .o 312 (.nilck (.t 305)),
 .o 313 (.faddr (.t 312) 0),
 .o 314 (.faddr (.t 313) 2),
 .x (.store 1 (.t 314) (.t 311))]
def made_r50 : List Ins := [.mv 315 3,
 .o 316 (.nilck (.t 315)),
 .o 317 (.faddr (.t 316) 0),
 .o 318 (.loadA 3 (.t 317)),
 .x (.store 3 (.t 2) (.t 318))]
def made_c : IC := (.seq (.reg made_r0) (.seq (.reg made_r1) (.seq (.reg made_r2) (.seq (.seq (.reg made_r3) (.block 0 (.loop (.seq (.seq (.reg made_r4) (.cond (.t 41) .skip (.exit 0))) (.seq (.block 1 (.seq (.reg made_r5) (.seq (.reg made_r6) (.seq (.draw made_r7) (.seq (.reg made_r8) (.seq (.reg made_r9) (.block 2 (.seq (.reg made_r10) (.cond (.t 120) (.reg made_r11) (.seq (.seq (.reg made_r12) (.cond (.t 132) .skip (.reg made_r13))) (.cond (.t 132) (.seq (.reg made_r14) (.seq (.reg made_r15) (.seq (.reg made_r16) (.reg made_r17)))) (.seq (.reg made_r18) (.cond (.t 158) (.seq (.reg made_r19) (.seq (.reg made_r20) (.seq (.seq (.reg made_r21) (.cond (.t 179) (.reg made_r22) .skip)) (.reg made_r23)))) (.seq (.reg made_r24) (.cond (.t 187) (.seq (.reg made_r25) (.seq (.reg made_r26) (.seq (.reg made_r27) (.cond (.t 200) (.reg made_r28) (.reg made_r29))))) (.seq (.reg made_r30) (.cond (.t 217) (.reg made_r31) (.seq (.reg made_r32) (.cond (.t 231) (.seq (.reg made_r33) (.draw made_r34)) (.seq (.reg made_r35) (.cond (.t 250) (.seq (.reg made_r36) (.reg made_r37)) (.seq (.draw made_r38) (.seq (.reg made_r39) (.cond (.t 97) (.seq (.reg made_r40) (.reg made_r41)) (.reg made_r42))))))))))))))))))))))))) (.reg made_r43)))))) (.seq (.reg made_r44) (.seq (.seq (.reg made_r45) (.block 3 (.loop (.seq (.seq (.reg made_r46) (.cond (.t 282) .skip (.exit 3))) (.seq (.block 4 (.draw made_r47)) (.reg made_r48)))))) (.seq (.reg made_r49) (.seq (.reg made_r50) .ret))))))))
theorem made_tab : tb 13 = some (.code 1 319 made_c [.cell 2 3 true]) := by kernel_rfl
def vector_r0 : List Ins := [.o 4 (.mov (.c (.str [])))]
def vector_r1 : List Ins := [.mv 8 1,
 .o 9 (.mkslice 1 [(.int .u8 0)] (.t 8) (.t 8)),
 .mv 5 9]
def vector_r2 : List Ins := [.o 6 (.mov (kI 0))]
def vector_r3 : List Ins := [.mv 10 6,
 .mv 11 1,
 .o 12 (.bin .lss (.t 10) (.t 11))]
def vector_r4 : List Ins := [.mv 15 0,
 .mv 16 6,
 .o 17 (.bin .and (.t 16) (kI 15)),
 .o 18 (.bin .mul (kI 2) (.t 17)),
 .o 19 (.bin .shr (.t 15) (.t 18)),
 .o 20 (.bin .and (.t 19) (kI 3)),
 .mv 7 20]
def vector_r5 : List Ins := [.mv 21 5,
 .mv 22 6,
 .mv 23 7,
 .o 24 (.bin .and (.t 23) (kI 1)),
 .o 25 (.bin .add (kI 48) (.t 24)),
 .o 26 (.conv .u8 (.t 25)),
 .o 27 (.iaddr 1 (.t 21) (.t 22)),
 .x (.store 1 (.t 27) (.t 26))]
def vector_r6 : List Ins := [.mv 28 7,
 .o 29 (.bin .eql (.t 28) (kI 3)),
 .mv 30 29,
 .g 31 30 true (.mov (.t 0)),
 .g 32 30 true (.bin .shr (.t 31) (.c (.int .u64 40))),
 .g 33 30 true (.bin .and (.t 32) (kI 1)),
 .g 34 30 true (.bin .eql (.t 33) (kI 1)),
 .o 35 (.pick (.t 30) (.t 34) (.c (.bool false)))]
def vector_r7 : List Ins := [.mv 36 5,
 .mv 37 6,
 .o 38 (.iaddr 1 (.t 36) (.t 37)),
 .x (.store 1 (.t 38) (.c (.int .u8 120)))]
def vector_r8 : List Ins := [.mv 39 7,
 .o 40 (.bin .eql (.t 39) (kI 2)),
 .mv 41 40,
 .g 42 41 true (.mov (.t 0)),
 .g 43 41 true (.bin .shr (.t 42) (.c (.int .u64 41))),
 .g 44 41 true (.bin .and (.t 43) (kI 1)),
 .g 45 41 true (.bin .eql (.t 44) (kI 1)),
 .o 46 (.pick (.t 41) (.t 45) (.c (.bool false)))]
def vector_r9 : List Ins := [.mv 47 5,
 .mv 48 6,
 .o 49 (.iaddr 1 (.t 47) (.t 48)),
 .x (.store 1 (.t 49) (.c (.int .u8 122)))]
def vector_r10 : List Ins := [.mv 13 6,
 .o 14 (.bin .add (.t 13) (kI 1)),
 .mv 6 14]
def vector_r11 : List Ins := [.mv 50 5,
 .o 51 (.b2s (.t 50)),
 .mv 4 51]
def vector_c : IC := (.seq (.reg vector_r0) (.seq (.reg vector_r1) (.seq (.seq (.reg vector_r2) (.block 0 (.loop (.seq (.seq (.reg vector_r3) (.cond (.t 12) .skip (.exit 0))) (.seq (.block 1 (.seq (.reg vector_r4) (.seq (.reg vector_r5) (.seq (.seq (.reg vector_r6) (.cond (.t 35) (.reg vector_r7) .skip)) (.seq (.reg vector_r8) (.cond (.t 46) (.reg vector_r9) .skip)))))) (.reg vector_r10)))))) (.seq (.reg vector_r11) .ret))))
theorem vector_tab : tb 43 = some (.code 2 52 vector_c [.tmp 4]) := by kernel_rfl
def binary_r0 : List Ins := [.o 4 (.mov (kI 0))]
def binary_r1 : List Ins := [.mv 5 0,
 .o 6 (.bin .geq (.t 5) (kI 17)),
 .mv 7 6,
 .g 8 7 true (.mov (.t 0)),
 .g 9 7 true (.bin .leq (.t 8) (kI 22)),
 .o 10 (.pick (.t 7) (.t 9) (.c (.bool false))),
 .mv 11 10,
 .g 12 11 false (.mov (.t 0)),
 .g 13 11 false (.bin .eql (.t 12) (kI 26)),
 .o 14 (.pick (.t 11) (.c (.bool true)) (.t 13)),
 .mv 15 14,
 .g 16 15 false (.mov (.t 0)),
 .g 17 15 false (.bin .eql (.t 16) (kI 27)),
 .o 18 (.pick (.t 15) (.c (.bool true)) (.t 17))]
def binary_r2 : List Ins := [.o 4 (.mov (kI 1))]
def binary_r3 : List Ins := [.mv 19 1,
 .mv 4 19]
def binary_c : IC := (.seq (.reg binary_r0) (.seq (.seq (.reg binary_r1) (.cond (.t 18) (.seq (.reg binary_r2) .ret) .skip)) (.seq (.reg binary_r3) .ret)))
theorem binary_tab : tb 45 = some (.code 2 20 binary_c [.tmp 4]) := by kernel_rfl
def clock_r0 : List Ins := [.o 2 (.box (.t 0)),
 .o 4 (.mov (kI 0))]
def clock_r1 : List Ins := [.mv 5 1,
 .o 6 (.bin .and (.t 5) (kI 7)),
 .o 7 (.bin .eql (.t 6) (kI 7))]
def clock_r2 : List Ins := [.mv 8 1,
 .o 9 (.bin .shr (.t 8) (.c (.int .u64 3))),
 .o 10 (.bin .and (.t 9) (kI 65535)),
 .o 11 (.faddr (.t 2) 0),
 .o 12 (.load (.t 11)),
 .o 13 (.len .slc (.t 12)),
 .o 14 (.bin .rem (.t 10) (.t 13)),
 .mv 4 14]
def clock_r3 : List Ins := [.o 4 (.mov (kI 0))]
def clock_c : IC := (.seq (.reg clock_r0) (.seq (.seq (.reg clock_r1) (.cond (.t 7) (.seq (.reg clock_r2) .ret) .skip)) (.seq (.reg clock_r3) .ret)))
theorem clock_tab : tb 46 = some (.code 2 15 clock_c [.tmp 4]) := by kernel_rfl
/-! ### Netlists in memory -/
structure Nd where
 kind : Int
 op : Int
 wide : Int
 ins : List Int
 value : List Nat
 hi : Int
 lo : Int
 time : Int
def i64 (n : Int) : AV := .int .i64 n
def ints (l : List Int) : List AV := l.map i64
def ncells (x : Nd) (iv : AV) : List AV := [.int .i64 x.kind, .int .i64 x.op, .int .i64 x.wide, iv, .str x.value, .int .i64 x.hi, .int .i64 x.lo, .int .i64 x.time]
def flatN : List Nd → List AV → List AV
 | x :: ns, iv :: ivs => ncells x iv ++ flatN ns ivs
 | _, _ => []
theorem flatN_len : ∀ {ns : List Nd} {ivs : List AV}, ivs.length = ns.length → (flatN ns ivs).length = ns.length * 8
 | [], [], _ => rfl
 | x :: ns, iv :: ivs, h => by
   have := flatN_len (ns := ns) (ivs := ivs) (by simpa using h)
   simp [flatN, ncells, this]; omega
 | [], _ :: _, h => by simp at h
 | _ :: _, [], h => by simp at h
theorem flatN_app : ∀ {ns : List Nd} {ivs : List AV} (x : Nd) (iv : AV), ivs.length = ns.length → flatN (ns ++ [x]) (ivs ++ [iv]) = flatN ns ivs ++ ncells x iv
 | [], [], x, iv, _ => by simp [flatN]
 | y :: ns, jv :: ivs, x, iv, h => by
   have := flatN_app (ns := ns) (ivs := ivs) x iv (by simpa using h)
   simp [flatN, this]
 | [], _ :: _, _, _, h => by simp at h
 | _ :: _, [], _, _, h => by simp at h
theorem flatN_get : ∀ {ns : List Nd} {ivs : List AV} {i j : Nat} {x : Nd} {iv : AV}, ns[i]? = some x → ivs[i]? = some iv → j < 8 → (flatN ns ivs)[i * 8 + j]? = (ncells x iv)[j]?
 | y :: ns, jv :: ivs, 0, j, x, iv, h, k, hj => by
   cases h; cases k
   show (ncells y jv ++ flatN ns ivs)[0 * 8 + j]? = _
   rw [List.getElem?_append_left (by simp [ncells]; omega)]
   congr 1; omega
 | y :: ns, jv :: ivs, i + 1, j, x, iv, h, k, hj => by
   have := flatN_get (ns := ns) (ivs := ivs) (i := i) (j := j) (x := x) (iv := iv) (by simpa using h) (by simpa using k) hj
   show (ncells y jv ++ flatN ns ivs)[(i + 1) * 8 + j]? = _
   rw [List.getElem?_append_right (by simp [ncells]; omega), ← this]
   congr 1; simp [ncells]; omega
 | [], _, i, j, x, iv, h, _, _ => by simp at h
 | _ :: _, [], i, j, x, iv, _, k, _ => by simp at k
theorem flatN_drop {ns : List Nd} {ivs : List AV} {i : Nat} {x : Nd} {iv : AV} (h : ns[i]? = some x) (k : ivs[i]? = some iv) (hl : ivs.length = ns.length) : ((flatN ns ivs).drop (i * 8)).take 8 = ncells x iv := by
 apply List.ext_getElem?
 intro j
 rw [List.getElem?_take]
 by_cases hj : j < 8
 · rw [if_pos hj, List.getElem?_drop, flatN_get h k hj]
 · rw [if_neg hj, List.getElem?_eq_none (by simp [ncells]; omega)]
variable [Env]
theorem ncells_cell (x : Nd) {iv : AV} (h : isCell iv = true) : allCell (ncells x iv) = true := by
 rw [allCell_iff]
 intro a ha
 simp only [ncells, List.mem_cons, List.not_mem_nil, or_false] at ha
 rcases ha with rfl | rfl | rfl | rfl | rfl | rfl | rfl | rfl <;> first | rfl | exact h
/-- A row of numbers, somewhere in [lo, hi), and none of three blocks. -/
def InsV (t : TB) (lo hi x b c : Nat) (v : AV) (l : List Int) : Prop :=
 (v = .nslice ∧ l = []) ∨ ∃ d ex, v = .slice d 0 l.length l.length 1 ex ∧ hv t d = some (.row (ints l) true) ∧ lo ≤ d ∧ d < hi ∧ d ≠ x ∧ d ≠ b ∧ d ≠ c
theorem InsV.cell {t : TB} {lo hi x b c : Nat} {v : AV} {l : List Int} (h : InsV t lo hi x b c v l) : isCell v = true := by
 rcases h with ⟨rfl, -⟩ | ⟨d, ex, rfl, -⟩ <;> rfl
theorem InsV.keep {t t' : TB} {lo hi hi' x b b' c c' : Nat} {v : AV} {l : List Int} (h : InsV t lo hi x b c v l) (hh : hi ≤ hi') (k : ∀ d, d < hi → d ≠ x → d ≠ b → d ≠ c → hv t' d = hv t d) (hb : b' = b ∨ hi ≤ b') (hc : c' = c ∨ hi ≤ c') : InsV t' lo hi' x b' c' v l := by
 rcases h with h | ⟨d, ex, h1, h2, h3, h4, h5, h6, h7⟩
 · exact .inl h
 · exact .inr ⟨d, ex, h1, (k d h4 h5 h6 h7).trans h2, h3, by omega, h5, by omega, by omega⟩
/-- The nodes: a row that is full, b; numbers that go in lie elsewhere. -/
structure NodesV (t : TB) (lo hi x b c : Nat) (vn : AV) (ns : List Nd) (ivs : List AV) : Prop where
 v : vn = .slice b 0 ns.length ns.length 8 false
 row : hv t b = some (.row (flatN ns ivs) true)
 ge : lo ≤ b
 lt : b < hi
 ne : b ≠ x
 nc : b ≠ c
 len : ivs.length = ns.length
 ins : ∀ (i : Nat) (nd : Nd) (iv : AV), ns[i]? = some nd → ivs[i]? = some iv → InsV t lo hi x b c iv nd.ins
/-- What is listed: its own block x, nodes, nets' numbers (row c). -/
structure Lst (t : TB) (lo hi x b c : Nat) (ns : List Nd) (ivs : List AV) (vn vt : AV) (ts : List Int) (p : Int) : Prop where
 own : hv t x = some (.row [vn, vt, .int .i64 p] true)
 lx : lo ≤ x
 hx : x < hi
 nodes : (vn = .nslice ∧ ns = [] ∧ ivs = []) ∨ NodesV t lo hi x b c vn ns ivs
 nets : (vt = .nslice ∧ ts = []) ∨ ∃ ex, vt = .slice c 0 ts.length ts.length 1 ex ∧ hv t c = some (.row (ints ts) true) ∧ lo ≤ c ∧ c < hi ∧ c ≠ x
theorem lst_of {t t' : TB} {lo m nx nx' x b b' c : Nat} {ns : List Nd} {ivs : List AV} {vn vn' vt : AV} {ts : List Int} {p : Int} {nd : Nd} {iv : AV}
   (h : Lst t lo m x b c ns ivs vn vt ts p) (hm : m ≤ nx) (hl : lo ≤ nx) (hiv : InsV t lo nx x b c iv nd.ins) (hk : Keep t t' nx (fun d => d = x ∨ d = b)) (hv' : vn' = .slice b' 0 (ns.length + 1) (ns.length + 1) 8 false)
   (hown : hv t' x = some (.row [vn', vt, .int .i64 p] true)) (hrow : hv t' b' = some (.row (flatN (ns ++ [nd]) (ivs ++ [iv])) true)) (hb : nx ≤ b') (hb' : b' < nx') (hlen : ivs.length = ns.length) (hbc : b ≠ c ∨ (vt = .nslice ∧ ts = []) ∨ ns = []) (hc : c < b') (hns : ns = [] → b = x) :
   Lst t' lo nx' x b' c (ns ++ [nd]) (ivs ++ [iv]) vn' vt ts p := by
 have hx := h.hx
 have hlx := h.lx
 refine ⟨hown, h.lx, by omega, .inr ⟨by simpa using hv', hrow, by omega, hb', by omega, by omega, by simp [hlen], ?_⟩, ?_⟩
 · intro i e jv h1 h2
   by_cases hi : i < ns.length
   · rw [List.getElem?_append_left hi] at h1
     rw [List.getElem?_append_left (by omega)] at h2
     rcases h.nodes with ⟨-, hn, -⟩ | hn
     · subst hn; simp at hi
     · refine (hn.ins i e jv h1 h2).keep (by omega) (fun d h3 h4 h5 h6 => hk d (by omega) (by rintro (e | e) <;> omega)) (.inr (by omega)) (.inl rfl)
   · have hi' : i = ns.length := by
       have : i < (ns ++ [nd]).length := by
         rcases Nat.lt_or_ge i (ns ++ [nd]).length with h' | h'
         · exact h'
         · rw [List.getElem?_eq_none h'] at h1; cases h1
       simp at this; omega
     subst hi'
     rw [List.getElem?_append_right (Nat.le_refl _)] at h1
     rw [List.getElem?_append_right (by omega)] at h2
     simp [hlen] at h1 h2
     subst h1 h2
     exact hiv.keep (by omega) (fun d h3 h4 h5 h6 => hk d h3 (by rintro (e | e) <;> omega)) (.inr hb) (.inl rfl)
 · rcases h.nets with hn | ⟨ex, h1, h2, h3, h4, h5⟩
   · exact .inl hn
   · refine .inr ⟨ex, h1, (hk c (by omega) ?_).trans h2, h3, by omega, h5⟩
     rintro (e | e)
     · exact h5 e
     · rcases hbc with h6 | ⟨h6, -⟩ | h6
       · exact h6 e.symm
       · subst h6; cases h1
       · have := hns h6; omega
theorem at_node {ns : List Nd} {ivs : List AV} {i j o : Nat} {x : Nd} {iv v : AV} (h : ns[i]? = some x) (k : ivs[i]? = some iv) (hj : j < 8) (e : o = i * 8 + j) (hc : (ncells x iv)[j]? = some v) : (flatN ns ivs)[o]? = some v := by
 subst e; rw [flatN_get h k hj, hc]
theorem some_at {α : Type} {l : List α} {i : Nat} (h : i < l.length) : ∃ x, l[i]? = some x := ⟨l[i], List.getElem?_eq_getElem h⟩
theorem Lst.keep {t t' : TB} {lo m hi' x b c : Nat} {ns : List Nd} {ivs : List AV} {vn vt : AV} {ts : List Int} {p : Int} (h : Lst t lo m x b c ns ivs vn vt ts p) (hk : Keep t t' m (fun _ => False)) (hh : m ≤ hi') : Lst t' lo hi' x b c ns ivs vn vt ts p := by
 have hx := h.hx
 refine ⟨(hk x h.hx id).trans h.own, h.lx, by omega, ?_, ?_⟩
 · rcases h.nodes with hn | hn
   · exact .inl hn
   · have hlt := hn.lt
     exact .inr ⟨hn.v, (hk b hn.lt id).trans hn.row, hn.ge, by omega, hn.ne, hn.nc, hn.len, fun i e jv h1 h2 => (hn.ins i e jv h1 h2).keep hh (fun d h3 _ _ _ => hk d h3 id) (.inl rfl) (.inl rfl)⟩
 · rcases h.nets with hn | ⟨ex, h1, h2, h3, h4, h5⟩
   · exact .inl hn
   · exact .inr ⟨ex, h1, (hk c h4 id).trans h2, h3, by omega, h5⟩
/-- A node, widened or cut. -/
def wideNd (k wide : Int) : Nd := ⟨6, 0, wide, [k], [], 0, 0, 0⟩
/-- What fitting makes: nothing, where the width is so; or a node more. -/
def Fit (ns : List Nd) (k : Nat) (wide : Int) (ns' : List Nd) (r : Nat) : Prop :=
 (∃ x, ns[k]? = some x ∧ x.wide = wide ∧ ns' = ns ∧ r = k) ∨ (ns' = ns ++ [wideNd k wide] ∧ r = ns.length)

theorem adds_ok {t : TB} {nx lo m x b c : Nat} {ns : List Nd} {ivs : List AV} {vn vt : AV} {ts : List Int} {pp : Int} (nd : Nd) (iv : AV)
   (h : Lst t lo m x b c ns ivs vn vt ts pp) (hm : m ≤ nx) (hl : lo ≤ nx) (hiv : InsV t lo nx x b c iv nd.ins) (hs : ns.length < 4000) (hc : c < nx) (hns : ns = [] → b = x) :
   WF tb 42 [.ptr x 0, .agg (ncells nd iv)] t nx (fun v t' nx' => ∃ b' vn', v = .int .i64 (ns.length : Int) ∧ nx ≤ b' ∧ b' < nx' ∧ Lst t' lo nx' x b' c (ns ++ [nd]) (ivs ++ [iv]) vn' vt ts pp ∧ Keep t t' nx (fun d => d = x ∨ d = b)) := by
 have hic := hiv.cell
 have hown := h.own
 have hx := h.hx
 unfold ncells
 rcases h.nodes with ⟨hv, hn, hi⟩ | hn
 · subst hv hn hi
   refine k_fun adds_tab rfl ?_
   unfold adds_c
   change WC _ _ (TA.put (some _) (TA.put (some _) TA.e 0) 1) _ _ _
   refine k_seq (k_reg (r_heap (o_box (eV get_same)) rfl (fun t1 (hh2 : hv t1 = upd (hv t) nx (some (.row [(.int .i64 nd.kind), (.int .i64 nd.op), (.int .i64 nd.wide), iv, (.str nd.value), (.int .i64 nd.hi), (.int .i64 nd.lo), (.int .i64 nd.time)] true))) => rO (o_mov ev_c) (r_nil (k_seq (k_draw (eO 0 rfl (o_mov (eV (z2 (get_other rfl get_same)))) (eO 1 rfl (o_mov (eV (z1 (z2 (get_other rfl get_same))))) (eO 2 rfl (o_nilck eZ) (eO 3 rfl (o_faddr (off := 0) eZ) (eO 4 rfl (o_faddr (off := 0) eZ) (eO 5 rfl (o_load eZ (lN hh2 hown) rfl) (eO 6 rfl (o_loadA (n := 8) (eV (z1 (z2 (z4 ds)))) (lS hh2) (leb rfl) rfl) ?_)))))))))))))
   refine d_heap (ix := 7) (pr := [6]) (d := (some 12)) (g := none) (F' := [(⟨5, [4], .o 10 (.load (.t 9))⟩, .nslice), (⟨4, [3], .o 9 (.faddr (.t 8) 0)⟩, (.ptr x 0)), (⟨3, [2], .o 8 (.faddr (.t 7) 0)⟩, (.ptr x 0)), (⟨2, [1], .o 7 (.nilck (.t 6))⟩, (.ptr x 0)), (⟨1, [], .mv 6 0⟩, (.ptr x 0)), (⟨0, [], .mv 5 0⟩, (.ptr x 0))]) (o := (.bslice 8 1 [(.int .i64 0), (.int .i64 0), (.int .i64 0), .nslice, (.str []), (.int .i64 0), (.int .i64 0), (.int .i64 0)] [(0, 8, (.t 11))])) (o_bslice (fill_cons eZ rfl rfl fill_nil)) rfl (by kernel_rfl) (by kernel_rfl) (by kernel_rfl) (by kernel_rfl) (fun t3 (hh4 : hv t3 = upd (hv t1) (nx + 1) (some (.row [(.int .i64 nd.kind), (.int .i64 nd.op), (.int .i64 nd.wide), iv, (.str nd.value), (.int .i64 nd.hi), (.int .i64 nd.lo), (.int .i64 nd.time)] true))) => ⟨?_, ?_⟩)
   · exact (all_cons_ (still_op rfl rfl (o_load (eV (z1 (z2 ds))) (lN hh4 (lN hh2 hown)) rfl) (aeq_flat rfl)) (all_cons_ (still_op rfl rfl (o_faddr (off := 0) (eV (z4 ds))) (aeq_flat rfl)) (all_cons_ (still_op rfl rfl (o_faddr (off := 0) (eV (z1 (z4 ds)))) (aeq_flat rfl)) (all_cons_ (still_op rfl rfl (o_nilck (eV (z2 (z4 ds)))) (aeq_flat rfl)) (all_cons_ (still_op rfl rfl (o_mov (eV (z2 (z8 (get_other rfl get_same))))) (aeq_flat rfl)) (all_cons_ (still_op rfl rfl (o_mov (eV (z2 (z8 (get_other rfl get_same))))) (aeq_flat rfl)) all_nil_))))))
   refine d_heap (ix := 8) (pr := [5, 7]) (d := (some 13)) (g := none) (F' := [(⟨1, [], .mv 6 0⟩, (.ptr x 0)), (⟨0, [], .mv 5 0⟩, (.ptr x 0))]) (o := (.app 8 (.t 10) (.t 12))) (o_appE (eV (z2 ds)) eZ (app_nil (cs := ncells nd iv) rfl (src_row (k := 1) (lS hh4) (leb rfl)) (ncells_cell nd hic) (by decide) (by decide))) rfl (by kernel_rfl) (by kernel_rfl) (by kernel_rfl) (by kernel_rfl) (fun tq (hq : hv tq = upd (hv t3) ((nx + 1) + 1) (some (.row (ncells nd iv) true))) => ⟨?_, ?_⟩)
   · exact (all_cons_ (still_op rfl rfl (o_mov (eV (z1 (z2 (z8 (get_other rfl get_same)))))) (aeq_flat rfl)) (all_cons_ (still_op rfl rfl (o_mov (eV (z1 (z2 (z8 (get_other rfl get_same)))))) (aeq_flat rfl)) all_nil_))
   refine eO 9 rfl (o_nilck (eV (z8 ds))) (eO 10 rfl (o_faddr (off := 0) eZ) (eO 11 rfl (o_faddr (off := 0) eZ) ?_))
   refine d_heap (ix := 12) (pr := [11, 8, 8, 0, 1, 2, 3, 4, 5, 6, 7, 8]) (d := none) (g := none) (F' := []) (o := (.store 1 (.t 16) (.t 13))) (o_store (n := 1) eZ (eV (z1 (z2 ds))) (lN hq (lN hh4 (lN hh2 hown))) rfl rfl (leb rfl)) rfl (by kernel_rfl) (by kernel_rfl) (by kernel_rfl) (by kernel_rfl) (fun t5 (hh6 : hv t5 = upd (hv tq) x (some (.row [(.slice ((nx + 1) + 1) 0 1 1 8 false), vt, (.int .i64 pp)] true))) => ⟨?_, ?_⟩)
   · exact all_nil_
   refine e_done (k_seq (k_reg (m1 (z1 (z2 (z4 (z8 (get_other rfl get_same))))) (rO (o_nilck eZ) (rO (o_faddr (off := 0) eZ) (rO (o_faddr (off := 0) eZ) (rO (o_load eZ (lS hh6) rfl) (rO (o_len_slice eZ) (rO (o_sub eZ ev_c (by omega) (by omega)) (m1 ds (r_nil (k_ret (⟨_, ans_tmp ds, ?_⟩)))))))))))))
   refine ⟨nx + 1 + 1, _, rfl, by omega, by omega, lst_of h hm hl hiv (Keep.upd (kU (kU (kU kR hh2) hh4) hq) hh6 (.inr (.inl rfl))) rfl (lS hh6) (by simpa [flatN] using (lN hh6 (lS hq))) (by omega) (by omega) rfl (.inr (.inr rfl)) (by omega) hns, Keep.upd (kU (kU (kU kR hh2) hh4) hq) hh6 (.inr (.inl rfl))⟩
 have hv := hn.v; have hb := hn.lt; have hbx := hn.ne; have hbc := hn.nc; have hlen := hn.len; subst hv
 refine k_fun adds_tab rfl ?_
 unfold adds_c
 change WC _ _ (TA.put (some _) (TA.put (some _) TA.e 0) 1) _ _ _
 refine k_seq (k_reg (r_heap (o_box (eV get_same)) rfl (fun t1 (hh2 : hv t1 = upd (hv t) nx (some (.row [(.int .i64 nd.kind), (.int .i64 nd.op), (.int .i64 nd.wide), iv, (.str nd.value), (.int .i64 nd.hi), (.int .i64 nd.lo), (.int .i64 nd.time)] true))) => rO (o_mov ev_c) (r_nil (k_seq (k_draw (eO 0 rfl (o_mov (eV (z2 (get_other rfl get_same)))) (eO 1 rfl (o_mov (eV (z1 (z2 (get_other rfl get_same))))) (eO 2 rfl (o_nilck eZ) (eO 3 rfl (o_faddr (off := 0) eZ) (eO 4 rfl (o_faddr (off := 0) eZ) (eO 5 rfl (o_load eZ (lN hh2 hown) rfl) (eO 6 rfl (o_loadA (n := 8) (eV (z1 (z2 (z4 ds)))) (lS hh2) (leb rfl) rfl) ?_)))))))))))))
 refine d_heap (ix := 7) (pr := [6]) (d := (some 12)) (g := none) (F' := [(⟨5, [4], .o 10 (.load (.t 9))⟩, (.slice b 0 ns.length ns.length 8 false)), (⟨4, [3], .o 9 (.faddr (.t 8) 0)⟩, (.ptr x 0)), (⟨3, [2], .o 8 (.faddr (.t 7) 0)⟩, (.ptr x 0)), (⟨2, [1], .o 7 (.nilck (.t 6))⟩, (.ptr x 0)), (⟨1, [], .mv 6 0⟩, (.ptr x 0)), (⟨0, [], .mv 5 0⟩, (.ptr x 0))]) (o := (.bslice 8 1 [(.int .i64 0), (.int .i64 0), (.int .i64 0), .nslice, (.str []), (.int .i64 0), (.int .i64 0), (.int .i64 0)] [(0, 8, (.t 11))])) (o_bslice (fill_cons eZ rfl rfl fill_nil)) rfl (by kernel_rfl) (by kernel_rfl) (by kernel_rfl) (by kernel_rfl) (fun t3 (hh4 : hv t3 = upd (hv t1) (nx + 1) (some (.row [(.int .i64 nd.kind), (.int .i64 nd.op), (.int .i64 nd.wide), iv, (.str nd.value), (.int .i64 nd.hi), (.int .i64 nd.lo), (.int .i64 nd.time)] true))) => ⟨?_, ?_⟩)
 · exact (all_cons_ (still_op rfl rfl (o_load (eV (z1 (z2 ds))) (lN hh4 (lN hh2 hown)) rfl) (aeq_flat rfl)) (all_cons_ (still_op rfl rfl (o_faddr (off := 0) (eV (z4 ds))) (aeq_flat rfl)) (all_cons_ (still_op rfl rfl (o_faddr (off := 0) (eV (z1 (z4 ds)))) (aeq_flat rfl)) (all_cons_ (still_op rfl rfl (o_nilck (eV (z2 (z4 ds)))) (aeq_flat rfl)) (all_cons_ (still_op rfl rfl (o_mov (eV (z2 (z8 (get_other rfl get_same))))) (aeq_flat rfl)) (all_cons_ (still_op rfl rfl (o_mov (eV (z2 (z8 (get_other rfl get_same))))) (aeq_flat rfl)) all_nil_))))))
 refine d_heap (ix := 8) (pr := [5, 7]) (d := (some 13)) (g := none) (F' := [(⟨1, [], .mv 6 0⟩, (.ptr x 0)), (⟨0, [], .mv 5 0⟩, (.ptr x 0))]) (o := (.app 8 (.t 10) (.t 12))) (o_appE (eV (z2 ds)) eZ (app_new_f (cs := ncells nd iv) rfl (src_row (k := 1) (lS hh4) (leb rfl)) (ncells_cell nd hic) (lN hh4 (lN hh2 hn.row)) (by rw [flatN_len hn.len]; omega) (by omega) (by omega))) rfl (by kernel_rfl) (by kernel_rfl) (by kernel_rfl) (by kernel_rfl) (fun tq ⟨tp, hp, hq⟩ => ⟨?_, ?_⟩)
 · exact (all_cons_ (still_op rfl rfl (o_mov (eV (z1 (z2 (z8 (get_other rfl get_same)))))) (aeq_flat rfl)) (all_cons_ (still_op rfl rfl (o_mov (eV (z1 (z2 (z8 (get_other rfl get_same)))))) (aeq_flat rfl)) all_nil_))
 refine eO 9 rfl (o_nilck (eV (z8 ds))) (eO 10 rfl (o_faddr (off := 0) eZ) (eO 11 rfl (o_faddr (off := 0) eZ) ?_))
 refine d_heap (ix := 12) (pr := [11, 8, 8, 0, 1, 2, 3, 4, 5, 6, 7, 8]) (d := none) (g := none) (F' := []) (o := (.store 1 (.t 16) (.t 13))) (o_store (n := 1) eZ (eV (z1 (z2 ds))) (lN hq (lN hp (lN hh4 (lN hh2 hown)))) rfl rfl (leb rfl)) rfl (by kernel_rfl) (by kernel_rfl) (by kernel_rfl) (by kernel_rfl) (fun t5 (hh6 : hv t5 = upd (hv tq) x (some (.row [(.slice ((nx + 1) + 1) 0 (ns.length + 1) (ns.length + 1) 8 false), vt, (.int .i64 pp)] true))) => ⟨?_, ?_⟩)
 · exact all_nil_
 refine e_done (k_seq (k_reg (m1 (z1 (z2 (z4 (z8 (get_other rfl get_same))))) (rO (o_nilck eZ) (rO (o_faddr (off := 0) eZ) (rO (o_faddr (off := 0) eZ) (rO (o_load eZ (lS hh6) rfl) (rO (o_len_slice eZ) (rO (o_sub eZ ev_c (by omega) (by omega)) (m1 ds (r_nil (k_ret (⟨_, ans_tmp ds, ?_⟩)))))))))))))
 rw [whole (flatN_len hn.len), ← flatN_app nd iv hn.len] at hq
 refine ⟨nx + 1 + 1, _, by congr 1; omega, by omega, by omega, lst_of h hm hl hiv (Keep.upd (kU (Keep.upd (kU (kU kR hh2) hh4) hp (.inr (.inr rfl))) hq) hh6 (.inr (.inl rfl))) rfl (lS hh6) (lN hh6 (lS hq)) (by omega) (by omega) hlen (.inl hbc) (by omega) hns, Keep.upd (kU (Keep.upd (kU (kU kR hh2) hh4) hp (.inr (.inr rfl))) hq) hh6 (.inr (.inl rfl))⟩
theorem fit_ok {t : TB} {nx lo m x b c : Nat} {ns : List Nd} {ivs : List AV} {vn vt : AV} {ts : List Int} {pp : Int} (k : Nat) (wide : Int)
   (h : Lst t lo m x b c ns ivs vn vt ts pp) (hm : m ≤ nx) (hl : lo ≤ nx) (hs : ns.length < 4000) (hc : c < nx) (hk : k < ns.length) :
   WF tb 44 [.ptr x 0, .int .i64 (k : Int), .int .i64 wide] t nx (fun v t' nx' => ∃ b' ivs' vn' ns' r, v = .int .i64 ((r : Nat) : Int) ∧ nx ≤ nx' ∧ (b' = b ∨ nx ≤ b') ∧ Fit ns k wide ns' r ∧ Lst t' lo nx' x b' c ns' ivs' vn' vt ts pp ∧ Keep t t' nx (fun d => d = x ∨ d = b)) := by
 have hown := h.own
 have hx := h.hx
 rcases h.nodes with ⟨-, hn, -⟩ | hn
 · subst hn; simp at hk
 have hv := hn.v; have hb := hn.lt; have hbx := hn.ne; have hbc := hn.nc; have hlen := hn.len
 subst hv
 obtain ⟨nd, hnd⟩ := some_at hk
 obtain ⟨jv, hjv⟩ := some_at (l := ivs) (i := k) (by omega)
 refine k_fun fit_tab rfl ?_
 unfold fit_c
 change WC _ _ (TA.put (some _) (TA.put (some _) (TA.put (some _) TA.e 0) 1) 2) _ _ _
 refine k_seq (k_reg (rO (o_mov ev_c) (r_nil (k_seq (k_seq (k_reg (m1 (z1 (get_other rfl (get_other rfl get_same))) (rO (o_nilck eZ) (rO (o_faddr (off := 0) eZ) (rO (o_faddr (off := 0) eZ) (rO (o_load eZ hown rfl) (m1 (z2 (z4 (get_other rfl get_same))) (rO (o_iaddr (i := k) (eV (z1 ds)) eZ (by omega)) (rO (o_faddr (off := 2) eZ) (rO (o_load eZ hn.row (at_node (j := 2) hnd hjv (by decide) (by omega) rfl)) (m1 (z2 (z8 get_same)) (rO (o_eql (eV (z1 ds)) eZ) (r_nil ?_))))))))))))))))))
 refine k_cond eZ (fun hw => ?_) (fun hw => ?_)
 · have hw := of_decide_eq_true hw
   refine k_seq (k_reg (m1 (z4 (z8 (get_other rfl get_same))) (m1 ds (r_nil ?_))))
   refine k_ret ⟨_, ans_tmp ds, b, ivs, _, ns, k, rfl, Nat.le_refl _, .inl rfl, .inl ⟨nd, hnd, hw, rfl, rfl⟩, h.keep kR hm, kR⟩
 have hw := of_decide_eq_false hw
 refine k_skip (k_seq (k_reg (m1 (z4 (z8 (get_other rfl (get_other rfl get_same)))) (m1 (z1 (z4 (z8 get_same))) (m1 (z2 (z4 (z8 (get_other rfl get_same)))) (r_heap (o_bslice (fill_cons eZ rfl rfl fill_nil)) rfl (fun t1 (hh2 : hv t1 = upd (hv t) nx (some (.row [(.int .i64 ((k : Nat) : Int))] true))) => rO (o_build (fill_cons ev_c rfl rfl (fill_cons (eV (z2 ds)) rfl rfl (fill_cons eZ rfl rfl fill_nil)))) ?_)))))))
 refine r_call (w_callF (evs_cons (eV (z4 ds)) (evs_cons eZ evs_nil))) rfl (WF.mono (adds_ok (wideNd k wide) (.slice nx 0 1 1 1 true) (h.keep (kU kR hh2) hm) (by omega) (by omega) (.inr ⟨nx, true, rfl, (lS hh2), by omega, by omega, by omega, by omega, by omega⟩) hs (by omega) (fun e => by subst e; simp at hk)) ?_)
 rintro _ t3 n4 ⟨b1, vn1, rfl, hb1, hb2, hL1, hkk⟩
 refine m1 ds (r_nil ?_)
 refine k_ret ⟨_, ans_tmp ds, b1, _, _, _, ns.length, rfl, by omega, .inr (by omega), .inr ⟨rfl, rfl⟩, hL1, Keep.trans (kU kR hh2) hkk (by omega) (fun d _ h => h)⟩
def cmpOp (op : Int) : Prop := (17 ≤ op ∧ op ≤ 22) ∨ op = 26 ∨ op = 27
theorem binary_ok {t : TB} {nx : Nat} (op wide : Int) : WF tb 45 [.int .i64 op, .int .i64 wide] t nx (fun v t' nx' => ∃ r, v = .int .i64 r ∧ (cmpOp op ∧ r = 1 ∨ ¬ cmpOp op ∧ r = wide) ∧ nx ≤ nx' ∧ Keep t t' nx (fun _ => False)) := by
 have hcase : (17 ≤ op ∧ op ≤ 22) ∨ (17 ≤ op ∧ ¬ op ≤ 22 ∧ op = 26) ∨ (17 ≤ op ∧ ¬ op ≤ 22 ∧ ¬ op = 26 ∧ op = 27) ∨ (17 ≤ op ∧ ¬ op ≤ 22 ∧ ¬ op = 26 ∧ ¬ op = 27) ∨ (¬ 17 ≤ op ∧ op = 26) ∨ (¬ 17 ≤ op ∧ ¬ op = 26 ∧ op = 27) ∨ (¬ 17 ≤ op ∧ ¬ op = 26 ∧ ¬ op = 27) := by omega
 rcases hcase with ⟨h0, h1⟩ | ⟨h0, h1, h2⟩ | ⟨h0, h1, h2, h3⟩ | ⟨h0, h1, h2, h3⟩ | ⟨h0, h2⟩ | ⟨h0, h2, h3⟩ | ⟨h0, h2, h3⟩
 · refine k_fun binary_tab rfl ?_
   unfold binary_c
   change WC _ _ (TA.put (some _) (TA.put (some _) TA.e 0) 1) _ _ _
   refine k_seq (k_reg (rO (o_mov ev_c) (r_nil (k_seq (k_seq (k_reg (m1 (z1 (get_other rfl get_same)) (rO (ndec_t (o_geq eZ ev_c) (by omega)) (m1 ds (r_op (o_mov (eV (z4 (get_other rfl get_same)))) (want_on ds) (r_op (ndec_t (o_leq eZ ev_c) (by omega)) (want_on (z1 ds)) (rO (o_pick_t (eV (z2 ds)) eZ) (m1 ds (r_off (wN ds) (r_off (wN (z1 ds)) (rO (o_pick_t (eV (z2 ds)) ev_c) (m1 ds (r_off (wN ds) (r_off (wN (z1 ds)) (rO (o_pick_t (eV (z2 ds)) ev_c) (r_nil (k_cond_t eZ (k_seq (k_reg (rO (o_mov ev_c) (r_nil (k_ret ?_)))))))))))))))))))))))))))
   exact ⟨_, ans_tmp ds, _, rfl, .inl ⟨by unfold cmpOp; omega, rfl⟩, Nat.le_refl _, kR⟩
 · refine k_fun binary_tab rfl ?_
   unfold binary_c
   change WC _ _ (TA.put (some _) (TA.put (some _) TA.e 0) 1) _ _ _
   refine k_seq (k_reg (rO (o_mov ev_c) (r_nil (k_seq (k_seq (k_reg (m1 (z1 (get_other rfl get_same)) (rO (ndec_t (o_geq eZ ev_c) (by omega)) (m1 ds (r_op (o_mov (eV (z4 (get_other rfl get_same)))) (want_on ds) (r_op (ndec_f (o_leq eZ ev_c) (by omega)) (want_on (z1 ds)) (rO (o_pick_t (eV (z2 ds)) eZ) (m1 ds (r_op (o_mov (eV (z8 (get_other rfl get_same)))) (want_on ds) (r_op (dec_t (o_eql eZ ev_c) (by omega)) (want_on (z1 ds)) (rO (o_pick_f (eV (z2 ds)) eZ) (m1 ds (r_off (wN ds) (r_off (wN (z1 ds)) (rO (o_pick_t (eV (z2 ds)) ev_c) (r_nil (k_cond_t eZ (k_seq (k_reg (rO (o_mov ev_c) (r_nil (k_ret ?_)))))))))))))))))))))))))))
   exact ⟨_, ans_tmp ds, _, rfl, .inl ⟨by unfold cmpOp; omega, rfl⟩, Nat.le_refl _, kR⟩
 · refine k_fun binary_tab rfl ?_
   unfold binary_c
   change WC _ _ (TA.put (some _) (TA.put (some _) TA.e 0) 1) _ _ _
   refine k_seq (k_reg (rO (o_mov ev_c) (r_nil (k_seq (k_seq (k_reg (m1 (z1 (get_other rfl get_same)) (rO (ndec_t (o_geq eZ ev_c) (by omega)) (m1 ds (r_op (o_mov (eV (z4 (get_other rfl get_same)))) (want_on ds) (r_op (ndec_f (o_leq eZ ev_c) (by omega)) (want_on (z1 ds)) (rO (o_pick_t (eV (z2 ds)) eZ) (m1 ds (r_op (o_mov (eV (z8 (get_other rfl get_same)))) (want_on ds) (r_op (dec_f (o_eql eZ ev_c) (by omega)) (want_on (z1 ds)) (rO (o_pick_f (eV (z2 ds)) eZ) (m1 ds (r_op (o_mov (eV (z4 (z8 (get_other rfl get_same))))) (want_on ds) (r_op (dec_t (o_eql eZ ev_c) (by omega)) (want_on (z1 ds)) (rO (o_pick_f (eV (z2 ds)) eZ) (r_nil (k_cond_t eZ (k_seq (k_reg (rO (o_mov ev_c) (r_nil (k_ret ?_)))))))))))))))))))))))))))
   exact ⟨_, ans_tmp ds, _, rfl, .inl ⟨by unfold cmpOp; omega, rfl⟩, Nat.le_refl _, kR⟩
 · refine k_fun binary_tab rfl ?_
   unfold binary_c
   change WC _ _ (TA.put (some _) (TA.put (some _) TA.e 0) 1) _ _ _
   refine k_seq (k_reg (rO (o_mov ev_c) (r_nil (k_seq (k_seq (k_reg (m1 (z1 (get_other rfl get_same)) (rO (ndec_t (o_geq eZ ev_c) (by omega)) (m1 ds (r_op (o_mov (eV (z4 (get_other rfl get_same)))) (want_on ds) (r_op (ndec_f (o_leq eZ ev_c) (by omega)) (want_on (z1 ds)) (rO (o_pick_t (eV (z2 ds)) eZ) (m1 ds (r_op (o_mov (eV (z8 (get_other rfl get_same)))) (want_on ds) (r_op (dec_f (o_eql eZ ev_c) (by omega)) (want_on (z1 ds)) (rO (o_pick_f (eV (z2 ds)) eZ) (m1 ds (r_op (o_mov (eV (z4 (z8 (get_other rfl get_same))))) (want_on ds) (r_op (dec_f (o_eql eZ ev_c) (by omega)) (want_on (z1 ds)) (rO (o_pick_f (eV (z2 ds)) eZ) (r_nil (k_cond_f eZ (k_skip (k_seq (k_reg (m1 (z1 (z2 (z4 (z8 get_same)))) (m1 ds (r_nil (k_ret ?_)))))))))))))))))))))))))))))
   exact ⟨_, ans_tmp ds, _, rfl, .inr ⟨by unfold cmpOp; omega, rfl⟩, Nat.le_refl _, kR⟩
 · refine k_fun binary_tab rfl ?_
   unfold binary_c
   change WC _ _ (TA.put (some _) (TA.put (some _) TA.e 0) 1) _ _ _
   refine k_seq (k_reg (rO (o_mov ev_c) (r_nil (k_seq (k_seq (k_reg (m1 (z1 (get_other rfl get_same)) (rO (ndec_f (o_geq eZ ev_c) (by omega)) (m1 ds (r_off (wN ds) (r_off (wN (z1 ds)) (rO (o_pick_f (eV (z2 ds)) ev_c) (m1 ds (r_op (o_mov (eV (z8 (get_other rfl get_same)))) (want_on ds) (r_op (dec_t (o_eql eZ ev_c) (by omega)) (want_on (z1 ds)) (rO (o_pick_f (eV (z2 ds)) eZ) (m1 ds (r_off (wN ds) (r_off (wN (z1 ds)) (rO (o_pick_t (eV (z2 ds)) ev_c) (r_nil (k_cond_t eZ (k_seq (k_reg (rO (o_mov ev_c) (r_nil (k_ret ?_)))))))))))))))))))))))))))
   exact ⟨_, ans_tmp ds, _, rfl, .inl ⟨by unfold cmpOp; omega, rfl⟩, Nat.le_refl _, kR⟩
 · refine k_fun binary_tab rfl ?_
   unfold binary_c
   change WC _ _ (TA.put (some _) (TA.put (some _) TA.e 0) 1) _ _ _
   refine k_seq (k_reg (rO (o_mov ev_c) (r_nil (k_seq (k_seq (k_reg (m1 (z1 (get_other rfl get_same)) (rO (ndec_f (o_geq eZ ev_c) (by omega)) (m1 ds (r_off (wN ds) (r_off (wN (z1 ds)) (rO (o_pick_f (eV (z2 ds)) ev_c) (m1 ds (r_op (o_mov (eV (z8 (get_other rfl get_same)))) (want_on ds) (r_op (dec_f (o_eql eZ ev_c) (by omega)) (want_on (z1 ds)) (rO (o_pick_f (eV (z2 ds)) eZ) (m1 ds (r_op (o_mov (eV (z4 (z8 (get_other rfl get_same))))) (want_on ds) (r_op (dec_t (o_eql eZ ev_c) (by omega)) (want_on (z1 ds)) (rO (o_pick_f (eV (z2 ds)) eZ) (r_nil (k_cond_t eZ (k_seq (k_reg (rO (o_mov ev_c) (r_nil (k_ret ?_)))))))))))))))))))))))))))
   exact ⟨_, ans_tmp ds, _, rfl, .inl ⟨by unfold cmpOp; omega, rfl⟩, Nat.le_refl _, kR⟩
 refine k_fun binary_tab rfl ?_
 unfold binary_c
 change WC _ _ (TA.put (some _) (TA.put (some _) TA.e 0) 1) _ _ _
 refine k_seq (k_reg (rO (o_mov ev_c) (r_nil (k_seq (k_seq (k_reg (m1 (z1 (get_other rfl get_same)) (rO (ndec_f (o_geq eZ ev_c) (by omega)) (m1 ds (r_off (wN ds) (r_off (wN (z1 ds)) (rO (o_pick_f (eV (z2 ds)) ev_c) (m1 ds (r_op (o_mov (eV (z8 (get_other rfl get_same)))) (want_on ds) (r_op (dec_f (o_eql eZ ev_c) (by omega)) (want_on (z1 ds)) (rO (o_pick_f (eV (z2 ds)) eZ) (m1 ds (r_op (o_mov (eV (z4 (z8 (get_other rfl get_same))))) (want_on ds) (r_op (dec_f (o_eql eZ ev_c) (by omega)) (want_on (z1 ds)) (rO (o_pick_f (eV (z2 ds)) eZ) (r_nil (k_cond_f eZ (k_skip (k_seq (k_reg (m1 (z1 (z2 (z4 (z8 get_same)))) (m1 ds (r_nil (k_ret ?_)))))))))))))))))))))))))))))
 exact ⟨_, ans_tmp ds, _, rfl, .inr ⟨by unfold cmpOp; omega, rfl⟩, Nat.le_refl _, kR⟩
theorem clock_ok {t : TB} {nx : Nat} (b n : Nat) (cc sz : Nat) (ex : Bool) (vt : AV) (pp k : Int) (hn : 0 < n) (hvt : isCell vt = true) : WF tb 46 [.agg [.slice b 0 n cc sz ex, vt, .int .i64 pp], .int .i64 k] t nx (fun v t' nx' => ∃ r : Nat, v = .int .i64 (r : Int) ∧ r < n ∧ nx ≤ nx' ∧ Keep t t' nx (fun _ => False)) := by
 refine k_fun clock_tab rfl ?_
 unfold clock_c
 change WC _ _ (TA.put (some _) (TA.put (some _) TA.e 0) 1) _ _ _
 refine k_seq (k_reg (r_heap (o_box (eV (get_other rfl get_same))) rfl (fun t1 (hh2 : hv t1 = upd (hv t) nx (some (.row [(.slice b 0 n cc sz ex), vt, (.int .i64 pp)] true))) => rO (o_mov ev_c) (r_nil (k_seq (k_seq (k_reg (m1 (z2 get_same) (r_ex (o_and (m := 7) eZ ev_c (by decide)) rfl ?_)))))))))
 rintro _ ⟨r3, rfl, hr4⟩
 refine rO (o_eql eZ ev_c) (r_nil ?_)
 refine k_if eZ (fun hc5 => ?_) (fun hc5 => ?_)
 · refine k_seq (k_reg (m1 (z1 (z4 get_same)) (r_ex (o_shr (m := 3) eZ ev_c) rfl ?_)))
   rintro _ ⟨r6, rfl⟩
   refine r_ex (o_and (m := 65535) eZ ev_c (by decide)) rfl ?_
   rintro _ ⟨r7, rfl, hr8⟩
   refine rO (o_faddr (off := 0) (eV (z1 (z2 (z4 ds))))) (rO (o_load eZ (lS hh2) rfl) (rO (o_len_slice eZ) (rO (o_rem (a := r7) (n := n) (eV (z1 (z2 ds))) eZ (by omega)) (m1 ds (r_nil (k_ret ?_))))))
   exact ⟨_, ans_tmp ds, r7 % n, rfl, Nat.mod_lt _ hn, by omega, kU kR hh2⟩
 refine k_skip (k_seq (k_reg (rO (o_mov ev_c) (r_nil (k_ret ?_)))))
 exact ⟨_, ans_tmp ds, 0, rfl, hn, by omega, kU kR hh2⟩
def bitC (c : Nat) : Prop := c = 48 ∨ c = 49 ∨ c = 120 ∨ c = 122
theorem vector_ok {t : TB} {nx : Nat} (n : Int) (w : Nat) (hw : w ≤ 256) : WF tb 43 [.int .i64 n, .int .i64 (w : Int)] t nx (fun v t' nx' => ∃ s : List Nat, v = .str s ∧ s.length = w ∧ (∀ c ∈ s, bitC c) ∧ nx ≤ nx' ∧ Keep t t' nx (fun _ => False)) := by
 refine k_fun vector_tab rfl ?_
 unfold vector_c
 change WC _ _ (TA.put (some _) (TA.put (some _) TA.e 0) 1) _ _ _
 refine k_seq (k_reg (rO (o_mov ev_c) (r_nil (k_seq (k_reg (m1 (z1 get_same) (r_heap (o_mkslice_u8 eZ eZ (by omega)) rfl (fun t1 (hh2 : hv t1 = upd (hv t) nx (some (.row (u8s (List.replicate w 0)) true))) => m1 ds (r_nil (k_seq (k_seq (k_reg (rO (o_mov ev_c) (r_nil (k_block ?_)))))))))))))))
 refine k_loop (fun mm Tv tv nv => ∃ (i : Nat) (s : List Nat), i ≤ w ∧ s.length = w ∧ (∀ c ∈ s, c ≤ 255) ∧ Upto bitC s i ∧ Tv.get 0 = some (.int .i64 n) ∧ Tv.get 1 = some (.int .i64 (w : Int)) ∧ Tv.get 5 = some (.slice nx 0 w w 1 true) ∧ Tv.get 6 = some (.int .i64 (i : Int)) ∧ hv tv nx = some (.row (u8s s) true) ∧ nx < nv ∧ Keep t tv nx (fun _ => False) ∧ mm + i = w) (fun mm Tv tv nv hI => ?_) (w) ⟨0, List.replicate w 0, by omega, by simp, by intro c hc; rw [List.mem_replicate] at hc; omega, fun j c hj => by omega, (z1 (z4 (get_other rfl get_same))), (z1 (z4 get_same)), (z1 ds), ds, (lS hh2), by omega, kU kR hh2, by omega⟩
 obtain ⟨i, s, hi, hsl, h255, hup, q0, q1, q5, q6, hrow, hnv, hkp, hmm⟩ := hI
 refine k_seq (k_seq (k_reg (m1 q6 (m1 (z1 q1) (rO (o_lss (eV (z1 ds)) eZ) (r_nil ?_))))))
 refine k_if eZ (fun hc3 => ?_) (fun hc3 => ?_)
 · refine k_skip (k_seq (k_block (k_seq (k_reg (m1 (z1 (z2 q0)) (m1 (z4 q6) (r_ex (o_and (m := 15) eZ ev_c (by decide)) rfl ?_)))))))
   rintro _ ⟨r4, rfl, hr5⟩
   refine rO (o_mul ev_c eZ (by omega) (by omega)) (r_ex (o_shr (m := ((2 * ((r4 : Nat) : Int))).toNat) (eV (z1 (z2 ds))) (ev_cast eZ (by omega))) rfl ?_)
   rintro _ ⟨r6, rfl⟩
   refine r_ex (o_and (m := 3) eZ ev_c (by decide)) rfl ?_
   rintro _ ⟨r7, rfl, hr8⟩
   refine m1 ds (r_nil (k_seq (k_reg (m1 (z2 (z8 q5)) (m1 (z1 (z2 (z8 q6))) (m1 (z2 ds) (r_ex (o_and (m := 1) eZ ev_c (by decide)) rfl ?_)))))))
   rintro _ ⟨r9, rfl, hr10⟩
   refine rO (o_add ev_c eZ (by omega) (by omega)) (rO (o_conv_u8 (a := 48 + r9) eZ (by omega)) (rO (o_iaddr (i := i) (eV (z1 (z4 ds))) (eV (z4 ds)) (by omega)) ?_))
   refine r_heap (o_store_u8 (i := i) (c := 48 + r9) eZ (eV (z1 ds)) hrow (by omega) (by simp [hsl]; omega)) rfl (fun t11 hh12 => ?_)
   refine r_nil (k_seq (k_seq ?_))
   by_cases hk13 : ((r7 : Nat) : Int) = 3
   · refine k_reg (m1 (z8 ds) (rO (dec_t (o_eql eZ ev_c) hk13) (m1 ds (r_op (o_mov (eV (z1 (z4 (z8 (z8 q0)))))) (want_on ds) (r_ex (o_shr (m := 40) eZ ev_c) (want_on (z1 ds)) ?_)))))
     rintro _ ⟨r14, rfl⟩
     refine r_ex (o_and (m := 1) eZ ev_c (by decide)) (want_on (z2 ds)) ?_
     rintro _ ⟨r15, rfl, hr16⟩
     refine r_op (o_eql eZ ev_c) (want_on (z1 (z2 ds))) (rO (o_pick_t (eV (z4 ds)) eZ) (r_nil ?_))
     refine k_if eZ (fun hc17 => ?_) (fun hc17 => ?_)
     · refine k_reg (m1 (z2 (z8 (z8 (z8 q5)))) (m1 (z1 (z2 (z8 (z8 (z8 q6))))) (rO (o_iaddr (i := i) (eV (z1 ds)) eZ (by omega)) ?_)))
       refine r_heap (o_store_u8 (i := i) (c := 120) eZ ev_c (lS hh12) (by omega) (by simp [hsl]; omega)) rfl (fun t18 hh19 => ?_)
       refine r_nil (k_seq ?_)
       by_cases hk20 : ((r7 : Nat) : Int) = 2
       · refine k_reg (m1 (z4 (z8 (z8 ds))) (rO (dec_t (o_eql eZ ev_c) hk20) (m1 ds (r_op (o_mov (eV (z1 (z8 (z8 (z8 (z8 q0))))))) (want_on ds) (r_ex (o_shr (m := 41) eZ ev_c) (want_on (z1 ds)) ?_)))))
         rintro _ ⟨r21, rfl⟩
         refine r_ex (o_and (m := 1) eZ ev_c (by decide)) (want_on (z2 ds)) ?_
         rintro _ ⟨r22, rfl, hr23⟩
         refine r_op (o_eql eZ ev_c) (want_on (z1 (z2 ds))) (rO (o_pick_t (eV (z4 ds)) eZ) (r_nil ?_))
         refine k_if eZ (fun hc24 => ?_) (fun hc24 => ?_)
         · refine k_reg (rO (o_mov (eV (z2 (z4 (z8 (z8 (z8 (z8 q5)))))))) (rO (o_mov (eV (z1 (z2 (z4 (z8 (z8 (z8 (z8 q6))))))))) (rO (o_iaddr (i := i) (eV (z1 ds)) eZ (by omega)) ?_)))
           refine r_heap (o_store_u8 (i := i) (c := 122) eZ ev_c (lS hh19) (by omega) (by simp [hsl]; omega)) rfl (fun t25 hh26 => ?_)
           refine r_nil (k_reg (rO (o_mov (eV (z2 (z8 (z8 (z8 (z8 (z8 q6)))))))) (rO (o_add eZ ev_c (by omega) (by omega)) (m1 ds (r_nil ?_)))))
           exact ⟨mm - 1, by omega, i + 1, (((s.set i (48 + r9)).set i (120)).set i (122)), by omega, by simp [hsl], set_all (set_all (set_all (h255) (by omega)) (by omega)) (by omega), Upto.set (up_again (up_again (hup))) (by unfold bitC; omega), (z1 (z4 (z8 (z8 (z8 (z8 (z8 q0))))))), (z1 (z4 (z8 (z8 (z8 (z8 (z8 q1))))))), (z1 (z4 (z8 (z8 (z8 (z8 (z8 q5))))))), ds, (lS hh26), by omega, kU (kU (kU (hkp) hh12) hh19) hh26, by omega⟩
         refine k_skip (k_reg (rO (o_mov (eV (z2 (z4 (z8 (z8 (z8 (z8 q6)))))))) (rO (o_add eZ ev_c (by omega) (by omega)) (m1 ds (r_nil ?_)))))
         exact ⟨mm - 1, by omega, i + 1, ((s.set i (48 + r9)).set i (120)), by omega, by simp [hsl], set_all (set_all (h255) (by omega)) (by omega), Upto.set (up_again (hup)) (by unfold bitC; omega), (z1 (z8 (z8 (z8 (z8 (z8 q0)))))), (z1 (z8 (z8 (z8 (z8 (z8 q1)))))), (z1 (z8 (z8 (z8 (z8 (z8 q5)))))), ds, (lS hh19), by omega, kU (kU (hkp) hh12) hh19, by omega⟩
       refine k_reg (m1 (z4 (z8 (z8 ds))) (rO (dec_f (o_eql eZ ev_c) hk20) (m1 ds (r_off (wN ds) (r_off (wN (z1 ds)) (r_off (wN (z2 ds)) (r_off (wN (z1 (z2 ds))) (rO (o_pick_f (eV (z4 ds)) ev_c) (r_nil (k_cond_f eZ (k_skip (k_reg (rO (o_mov (eV (z2 (z4 (z8 (z8 (z8 (z8 q6)))))))) (rO (o_add eZ ev_c (by omega) (by omega)) (m1 ds (r_nil ?_))))))))))))))))
       exact ⟨mm - 1, by omega, i + 1, ((s.set i (48 + r9)).set i (120)), by omega, by simp [hsl], set_all (set_all (h255) (by omega)) (by omega), Upto.set (up_again (hup)) (by unfold bitC; omega), (z1 (z8 (z8 (z8 (z8 (z8 q0)))))), (z1 (z8 (z8 (z8 (z8 (z8 q1)))))), (z1 (z8 (z8 (z8 (z8 (z8 q5)))))), ds, (lS hh19), by omega, kU (kU (hkp) hh12) hh19, by omega⟩
     refine k_skip (k_seq ?_)
     by_cases hk27 : ((r7 : Nat) : Int) = 2
     · refine k_reg (m1 (z8 (z8 ds)) (rO (dec_t (o_eql eZ ev_c) hk27) (m1 ds (r_op (o_mov (eV (z1 (z4 (z8 (z8 (z8 q0))))))) (want_on ds) (r_ex (o_shr (m := 41) eZ ev_c) (want_on (z1 ds)) ?_)))))
       rintro _ ⟨r28, rfl⟩
       refine r_ex (o_and (m := 1) eZ ev_c (by decide)) (want_on (z2 ds)) ?_
       rintro _ ⟨r29, rfl, hr30⟩
       refine r_op (o_eql eZ ev_c) (want_on (z1 (z2 ds))) (rO (o_pick_t (eV (z4 ds)) eZ) (r_nil ?_))
       refine k_if eZ (fun hc31 => ?_) (fun hc31 => ?_)
       · refine k_reg (m1 (z2 (z8 (z8 (z8 (z8 q5))))) (rO (o_mov (eV (z1 (z2 (z8 (z8 (z8 (z8 q6)))))))) (rO (o_iaddr (i := i) (eV (z1 ds)) eZ (by omega)) ?_)))
         refine r_heap (o_store_u8 (i := i) (c := 122) eZ ev_c (lS hh12) (by omega) (by simp [hsl]; omega)) rfl (fun t32 hh33 => ?_)
         refine r_nil (k_reg (rO (o_mov (eV (z2 (z4 (z8 (z8 (z8 (z8 q6)))))))) (rO (o_add eZ ev_c (by omega) (by omega)) (m1 ds (r_nil ?_)))))
         exact ⟨mm - 1, by omega, i + 1, ((s.set i (48 + r9)).set i (122)), by omega, by simp [hsl], set_all (set_all (h255) (by omega)) (by omega), Upto.set (up_again (hup)) (by unfold bitC; omega), (z1 (z8 (z8 (z8 (z8 (z8 q0)))))), (z1 (z8 (z8 (z8 (z8 (z8 q1)))))), (z1 (z8 (z8 (z8 (z8 (z8 q5)))))), ds, (lS hh33), by omega, kU (kU (hkp) hh12) hh33, by omega⟩
       refine k_skip (k_reg (m1 (z2 (z8 (z8 (z8 (z8 q6))))) (rO (o_add eZ ev_c (by omega) (by omega)) (m1 ds (r_nil ?_)))))
       exact ⟨mm - 1, by omega, i + 1, (s.set i (48 + r9)), by omega, by simp [hsl], set_all (h255) (by omega), Upto.set (hup) (by unfold bitC; omega), (z1 (z4 (z8 (z8 (z8 (z8 q0)))))), (z1 (z4 (z8 (z8 (z8 (z8 q1)))))), (z1 (z4 (z8 (z8 (z8 (z8 q5)))))), ds, (lS hh12), by omega, kU (hkp) hh12, by omega⟩
     refine k_reg (m1 (z8 (z8 ds)) (rO (dec_f (o_eql eZ ev_c) hk27) (m1 ds (r_off (wN ds) (r_off (wN (z1 ds)) (r_off (wN (z2 ds)) (r_off (wN (z1 (z2 ds))) (rO (o_pick_f (eV (z4 ds)) ev_c) (r_nil (k_cond_f eZ (k_skip (k_reg (m1 (z2 (z8 (z8 (z8 (z8 q6))))) (rO (o_add eZ ev_c (by omega) (by omega)) (m1 ds (r_nil ?_))))))))))))))))
     exact ⟨mm - 1, by omega, i + 1, (s.set i (48 + r9)), by omega, by simp [hsl], set_all (h255) (by omega), Upto.set (hup) (by unfold bitC; omega), (z1 (z4 (z8 (z8 (z8 (z8 q0)))))), (z1 (z4 (z8 (z8 (z8 (z8 q1)))))), (z1 (z4 (z8 (z8 (z8 (z8 q5)))))), ds, (lS hh12), by omega, kU (hkp) hh12, by omega⟩
   refine k_reg (m1 (z8 ds) (rO (dec_f (o_eql eZ ev_c) hk13) (m1 ds (r_off (wN ds) (r_off (wN (z1 ds)) (r_off (wN (z2 ds)) (r_off (wN (z1 (z2 ds))) (rO (o_pick_f (eV (z4 ds)) ev_c) (r_nil (k_cond_f eZ (k_skip (k_seq ?_))))))))))))
   by_cases hk34 : ((r7 : Nat) : Int) = 2
   · refine k_reg (m1 (z8 (z8 ds)) (rO (dec_t (o_eql eZ ev_c) hk34) (m1 ds (r_op (o_mov (eV (z1 (z4 (z8 (z8 (z8 q0))))))) (want_on ds) (r_ex (o_shr (m := 41) eZ ev_c) (want_on (z1 ds)) ?_)))))
     rintro _ ⟨r35, rfl⟩
     refine r_ex (o_and (m := 1) eZ ev_c (by decide)) (want_on (z2 ds)) ?_
     rintro _ ⟨r36, rfl, hr37⟩
     refine r_op (o_eql eZ ev_c) (want_on (z1 (z2 ds))) (rO (o_pick_t (eV (z4 ds)) eZ) (r_nil ?_))
     refine k_if eZ (fun hc38 => ?_) (fun hc38 => ?_)
     · refine k_reg (m1 (z2 (z8 (z8 (z8 (z8 q5))))) (rO (o_mov (eV (z1 (z2 (z8 (z8 (z8 (z8 q6)))))))) (rO (o_iaddr (i := i) (eV (z1 ds)) eZ (by omega)) ?_)))
       refine r_heap (o_store_u8 (i := i) (c := 122) eZ ev_c (lS hh12) (by omega) (by simp [hsl]; omega)) rfl (fun t39 hh40 => ?_)
       refine r_nil (k_reg (rO (o_mov (eV (z2 (z4 (z8 (z8 (z8 (z8 q6)))))))) (rO (o_add eZ ev_c (by omega) (by omega)) (m1 ds (r_nil ?_)))))
       exact ⟨mm - 1, by omega, i + 1, ((s.set i (48 + r9)).set i (122)), by omega, by simp [hsl], set_all (set_all (h255) (by omega)) (by omega), Upto.set (up_again (hup)) (by unfold bitC; omega), (z1 (z8 (z8 (z8 (z8 (z8 q0)))))), (z1 (z8 (z8 (z8 (z8 (z8 q1)))))), (z1 (z8 (z8 (z8 (z8 (z8 q5)))))), ds, (lS hh40), by omega, kU (kU (hkp) hh12) hh40, by omega⟩
     refine k_skip (k_reg (m1 (z2 (z8 (z8 (z8 (z8 q6))))) (rO (o_add eZ ev_c (by omega) (by omega)) (m1 ds (r_nil ?_)))))
     exact ⟨mm - 1, by omega, i + 1, (s.set i (48 + r9)), by omega, by simp [hsl], set_all (h255) (by omega), Upto.set (hup) (by unfold bitC; omega), (z1 (z4 (z8 (z8 (z8 (z8 q0)))))), (z1 (z4 (z8 (z8 (z8 (z8 q1)))))), (z1 (z4 (z8 (z8 (z8 (z8 q5)))))), ds, (lS hh12), by omega, kU (hkp) hh12, by omega⟩
   refine k_reg (m1 (z8 (z8 ds)) (rO (dec_f (o_eql eZ ev_c) hk34) (m1 ds (r_off (wN ds) (r_off (wN (z1 ds)) (r_off (wN (z2 ds)) (r_off (wN (z1 (z2 ds))) (rO (o_pick_f (eV (z4 ds)) ev_c) (r_nil (k_cond_f eZ (k_skip (k_reg (m1 (z2 (z8 (z8 (z8 (z8 q6))))) (rO (o_add eZ ev_c (by omega) (by omega)) (m1 ds (r_nil ?_))))))))))))))))
   exact ⟨mm - 1, by omega, i + 1, (s.set i (48 + r9)), by omega, by simp [hsl], set_all (h255) (by omega), Upto.set (hup) (by unfold bitC; omega), (z1 (z4 (z8 (z8 (z8 (z8 q0)))))), (z1 (z4 (z8 (z8 (z8 (z8 q1)))))), (z1 (z4 (z8 (z8 (z8 (z8 q5)))))), ds, (lS hh12), by omega, kU (hkp) hh12, by omega⟩
 · refine k_exit (exK_same (k_seq (k_reg (m1 (z1 (z2 q5)) (rO (o_b2s eZ hrow hsl h255) (m1 ds (r_nil (k_ret ?_))))))))
   exact ⟨_, ans_tmp ds, s, rfl, hsl, hup.all (by omega), by omega, hkp⟩
 /-! ### Which nodes may be -/
/-- An operator's width, by the widths of what goes in; -1: it may not be. -/
def operW (x : Nd) (w : List Int) : Int :=
 if x.op = 7 ∨ x.op = 9 then (match w with | [a] => a | _ => -1)
 else if x.op = 8 ∨ x.op = 10 ∨ x.op = 11 ∨ x.op = 12 then (match w with | [_] => 1 | _ => -1)
 else if x.op = 13 ∨ x.op = 14 ∨ x.op = 23 ∨ x.op = 25 ∨ x.op = 24 then (match w with | [a, b] => if a = b then a else -1 | _ => -1)
 else if x.op = 15 ∨ x.op = 16 then (match w with | [a, _] => a | _ => -1)
 else if 17 ≤ x.op ∧ x.op ≤ 22 then (match w with | [a, b] => if a = b then 1 else -1 | _ => -1)
 else if x.op = 26 ∨ x.op = 27 ∨ x.op = 3 then (match w with | [_, _] => 1 | _ => -1)
 else if x.op = 6 then (match w with | [_, a, b] => if a = b then a else -1 | _ => -1)
 else if x.op = 4 then (match w with | [a] => if 0 ≤ x.lo ∧ x.lo ≤ x.hi ∧ x.hi < a then x.hi - x.lo + 1 else -1 | _ => -1)
 else if x.op = 5 then (if 1 ≤ w.length ∧ w.length ≤ 256 then w.sum else -1)
 else -1
def isV (s : List Nat) : Prop := 1 ≤ s.length ∧ s.length ≤ 256 ∧ ∀ c ∈ s, bitC c
def zeroP (x : Nd) : Prop := (x.kind = 3 ∨ x.op = 0) ∧ (x.kind = 1 ∨ x.value = []) ∧ ((x.kind = 3 ∧ x.op = 4) ∨ (x.hi = 0 ∧ x.lo = 0)) ∧ (x.kind = 8 ∨ x.time = 0)
def nodeP (w : List Int) (x : Nd) : Prop :=
 (x.kind = 1 ∧ w = [] ∧ isV x.value ∧ (x.value.length : Int) = x.wide) ∨ (x.kind = 2 ∧ w = []) ∨ (x.kind = 3 ∧ operW x w = x.wide) ∨
 (x.kind = 4 ∧ ∃ a, w = [a, x.wide, x.wide]) ∨ (x.kind = 5 ∧ (∃ a, w = [a, a]) ∧ x.wide = 1) ∨ (x.kind = 6 ∧ ∃ a, w = [a]) ∨
 (x.kind = 7 ∧ ∃ a, w = [a, x.wide]) ∨ (x.kind = 8 ∧ w = [x.wide] ∧ 1 ≤ x.time ∧ x.time ≤ 1048576)
def ndOK (w : List Int) (x : Nd) : Prop := zeroP x ∧ nodeP w x
def wdN (ns : List Nd) (k : Int) : Int := match ns[k.toNat]? with | some x => x.wide | none => 0
def hangs (x : Nd) : List Int := if x.kind = 8 then [] else if x.kind = 7 then x.ins.take 1 else x.ins
structure NdG (ns : List Nd) (i : Nat) (x : Nd) : Prop where
 wide : 1 ≤ x.wide ∧ x.wide ≤ 256
 ins : ∀ k ∈ x.ins, 0 ≤ k ∧ k < (ns.length : Int)
 ok : ndOK (x.ins.map (wdN ns)) x
 hang : ∀ k ∈ hangs x, k < (i : Int)
 inp : x.kind = 2 → i < 2
 few : x.ins.length ≤ 3
def NetG (ns : List Nd) : Prop := ∀ (i : Nat) (x : Nd), ns[i]? = some x → NdG ns i x
theorem wdN_at {ns : List Nd} {k : Nat} {x : Nd} (h : ns[k]? = some x) : wdN ns (k : Int) = x.wide := by unfold wdN; simp [h]
theorem wdN_app {ns : List Nd} {x : Nd} {k : Int} (h0 : 0 ≤ k) (h : k < (ns.length : Int)) : wdN (ns ++ [x]) k = wdN ns k := by
 unfold wdN
 rw [List.getElem?_append_left (by omega)]
theorem wdN_last {ns : List Nd} {x : Nd} : wdN (ns ++ [x]) (ns.length : Int) = x.wide := by
 unfold wdN; simp
theorem hangs_sub {x : Nd} {k : Int} (h : k ∈ hangs x) : k ∈ x.ins := by
 unfold hangs at h
 split at h
 · cases h
 · split at h
   · exact List.mem_of_mem_take h
   · exact h
theorem NetG.add {ns : List Nd} (h : NetG ns) (x : Nd) (hw : 1 ≤ x.wide ∧ x.wide ≤ 256) (hi : ∀ k ∈ x.ins, 0 ≤ k ∧ k < (ns.length : Int)) (ho : ndOK (x.ins.map (wdN ns)) x) (hk : x.kind = 2 → ns.length < 2) (hf : x.ins.length ≤ 3 := by exact Nat.le_of_ble_eq_true rfl) : NetG (ns ++ [x]) := by
 have wid : ∀ y : Nd, (∀ k ∈ y.ins, 0 ≤ k ∧ k < (ns.length : Int)) → y.ins.map (wdN (ns ++ [x])) = y.ins.map (wdN ns) := by
   intro y hy
   exact List.map_congr_left (fun k hk => wdN_app (hy k hk).1 (hy k hk).2)
 intro i y hy
 by_cases hlt : i < ns.length
 · rw [List.getElem?_append_left hlt] at hy
   have g := h i y hy
   exact ⟨g.wide, fun k hk => by have := g.ins k hk; rw [List.length_append]; simp; omega, by rw [wid y g.ins]; exact g.ok, g.hang, g.inp, g.few⟩
 · have e : i = ns.length := by
     have : i < (ns ++ [x]).length := by
       rcases Nat.lt_or_ge i (ns ++ [x]).length with h' | h'
       · exact h'
       · rw [List.getElem?_eq_none h'] at hy; cases hy
     simp at this; omega
   subst e
   simp at hy
   subst hy
   exact ⟨hw, fun k hk => by have := hi k hk; rw [List.length_append]; simp; omega, by rw [wid x hi]; exact ho, fun k hk => (hi k (hangs_sub hk)).2, hk, hf⟩
theorem Fit.good {ns ns' : List Nd} {k r : Nat} {wide : Int} (h : Fit ns k wide ns' r) (hg : NetG ns) (hk : k < ns.length) (hw : 1 ≤ wide ∧ wide ≤ 256) :
   NetG ns' ∧ r < ns'.length ∧ wdN ns' (r : Int) = wide ∧ ns.length ≤ ns'.length ∧ ns'.length ≤ ns.length + 1 ∧ (∀ j : Int, 0 ≤ j → j < (ns.length : Int) → wdN ns' j = wdN ns j) ∧ ∀ (j : Nat) (x : Nd), ns[j]? = some x → ns'[j]? = some x := by
 rcases h with ⟨x, h1, h2, rfl, rfl⟩ | ⟨rfl, rfl⟩
 · exact ⟨hg, hk, by rw [wdN_at h1]; exact h2, Nat.le_refl _, by omega, fun _ _ _ => rfl, fun _ _ h => h⟩
 · refine ⟨hg.add _ hw ?_ ?_ (by intro e; cases e), by simp, wdN_last, by simp, by simp, fun j h0 h1 => wdN_app h0 h1, fun j x hj => ?_⟩
   · intro j hj
     simp [wideNd] at hj
     subst hj; omega
   · exact ⟨⟨.inr rfl, .inr rfl, .inr ⟨rfl, rfl⟩, .inr rfl⟩, .inr (.inr (.inr (.inr (.inr (.inl ⟨rfl, _, rfl⟩)))))⟩
   · have : j < ns.length := by
       rcases Nat.lt_or_ge j ns.length with h' | h'
       · exact h'
       · rw [List.getElem?_eq_none h'] at hj; cases hj
     rw [List.getElem?_append_left this]; exact hj
section
variable {ns : List Nd} {w : Int}
theorem ok_const {v : List Nat} (h : isV v) (e : (v.length : Int) = w) : ndOK [] ⟨1, 0, w, [], v, 0, 0, 0⟩ := ⟨⟨.inr rfl, .inl rfl, .inr ⟨rfl, rfl⟩, .inr rfl⟩, .inl ⟨rfl, rfl, h, e⟩⟩
theorem ok_bin {op r p q : Int} (h1 : 13 ≤ op) (h2 : op ≤ 26) (hr : cmpOp op ∧ r = 1 ∨ ¬ cmpOp op ∧ r = w) : ndOK [w, w] ⟨3, op, r, [p, q], [], 0, 0, 0⟩ := by
 refine ⟨⟨.inl rfl, .inr rfl, .inr ⟨rfl, rfl⟩, .inr rfl⟩, .inr (.inr (.inl ⟨rfl, ?_⟩))⟩
 unfold cmpOp at hr
 dsimp only [operW]
 repeat' split
 all_goals first | omega | (exfalso; omega) | (simp_all; omega)
theorem ok_un {op r p : Int} (h1 : 7 ≤ op) (h2 : op ≤ 12) (hr : (op = 7 ∨ op = 9) ∧ r = w ∨ ¬ (op = 7 ∨ op = 9) ∧ r = 1) : ndOK [w] ⟨3, op, r, [p], [], 0, 0, 0⟩ := by
 refine ⟨⟨.inl rfl, .inr rfl, .inr ⟨rfl, rfl⟩, .inr rfl⟩, .inr (.inr (.inl ⟨rfl, ?_⟩))⟩
 dsimp only [operW]
 repeat' split
 all_goals first | omega | (exfalso; omega) | (simp_all; omega)
theorem ok_cond {c p q a : Int} : ndOK [a, w, w] ⟨3, 6, w, [c, p, q], [], 0, 0, 0⟩ := by
 refine ⟨⟨.inl rfl, .inr rfl, .inr ⟨rfl, rfl⟩, .inr rfl⟩, .inr (.inr (.inl ⟨rfl, ?_⟩))⟩
 simp [operW]
theorem ok_choose {c p q a : Int} : ndOK [a, w, w] ⟨4, 0, w, [c, p, q], [], 0, 0, 0⟩ := ⟨⟨.inr rfl, .inr rfl, .inr ⟨rfl, rfl⟩, .inr rfl⟩, .inr (.inr (.inr (.inl ⟨rfl, a, rfl⟩)))⟩
theorem ok_same {p q : Int} : ndOK [w, w] ⟨5, 0, 1, [p, q], [], 0, 0, 0⟩ := ⟨⟨.inr rfl, .inr rfl, .inr ⟨rfl, rfl⟩, .inr rfl⟩, .inr (.inr (.inr (.inr (.inl ⟨rfl, ⟨w, rfl⟩, rfl⟩))))⟩
theorem ok_flip {p q a : Int} : ndOK [a, w] ⟨7, 0, w, [p, q], [], 0, 0, 0⟩ := ⟨⟨.inr rfl, .inr rfl, .inr ⟨rfl, rfl⟩, .inr rfl⟩, .inr (.inr (.inr (.inr (.inr (.inr (.inl ⟨rfl, a, rfl⟩))))))⟩
theorem ok_delay {p tm : Int} (h : 1 ≤ tm ∧ tm ≤ 1048576) : ndOK [w] ⟨8, 0, w, [p], [], 0, 0, tm⟩ := ⟨⟨.inr rfl, .inr rfl, .inr ⟨rfl, rfl⟩, .inl rfl⟩, .inr (.inr (.inr (.inr (.inr (.inr (.inr ⟨rfl, rfl, h.1, h.2⟩))))))⟩
theorem ok_cat1 {p : Int} : ndOK [w] ⟨3, 5, w, [p], [], 0, 0, 0⟩ := by
 refine ⟨⟨.inl rfl, .inr rfl, .inr ⟨rfl, rfl⟩, .inr rfl⟩, .inr (.inr (.inl ⟨rfl, ?_⟩))⟩
 simp [operW]
theorem ok_cat2 {p q u : Int} : ndOK [u, w] ⟨3, 5, u + w, [p, q], [], 0, 0, 0⟩ := by
 refine ⟨⟨.inl rfl, .inr rfl, .inr ⟨rfl, rfl⟩, .inr rfl⟩, .inr (.inr (.inl ⟨rfl, ?_⟩))⟩
 simp [operW]
theorem ok_in : ndOK [] ⟨2, 0, w, [], [], 0, 0, 0⟩ := ⟨⟨.inr rfl, .inr rfl, .inr ⟨rfl, rfl⟩, .inr rfl⟩, .inr (.inl ⟨rfl, rfl⟩)⟩
end
/-! ### Rows that came in -/
/-- Numbers, so many an element: nil, or a row. -/
def Rows5 (t : TB) (bd : Nat) (gv : AV) (n sz : Nat) : Prop :=
 (gv = .nslice ∧ n = 0) ∨ ∃ (g o c : Nat) (ex wr : Bool) (r : List AV), gv = .slice g o n c sz ex ∧ g < bd ∧ hv t g = some (.row r wr) ∧ o + n * sz ≤ r.length ∧ ∀ i, i < n * sz → ∃ a : Int, r[o + i]? = some (.int .i64 a)
theorem Rows5.keep {t t' : TB} {bd n sz : Nat} {gv : AV} {W : Nat → Prop} (h : Rows5 t bd gv n sz) (k : Keep t t' bd W) (hw : ∀ d, d < bd → ¬ W d) : Rows5 t' bd gv n sz := by
 rcases h with h | ⟨g, o, c, ex, wr, r, h1, h2, h3, h4⟩
 · exact .inl h
 · exact .inr ⟨g, o, c, ex, wr, r, h1, h2, (k g h2 (hw g h2)).trans h3, h4⟩
theorem o_len_5 {T : TA} {t t0 : TB} {nx bd n sz : Nat} {gv : AV} {x : Opd} (h : Rows5 t0 bd gv n sz) (hx : x.ev T = some gv) : (IOp.len .slc x).run T t nx = .ok (.int .i64 (n : Int)) t nx := by
 rcases h with ⟨rfl, rfl⟩ | ⟨g, o, c, ex, wr, r, rfl, -⟩
 · exact o_len_nslice hx
 · exact o_len_slice hx
theorem five {r : List AV} {o n i : Nat} (h : o + n * 5 ≤ r.length) (hi : i < n) (k : ∀ i, i < n * 5 → ∃ a : Int, r[o + i]? = some (.int .i64 a)) : ∃ a b c d e : Int, (r.drop (o + i * 5)).take 5 = [.int .i64 a, .int .i64 b, .int .i64 c, .int .i64 d, .int .i64 e] ∧ o + i * 5 + 5 ≤ r.length ∧
   r[o + i * 5 + 1]? = some (.int .i64 b) ∧ r[o + i * 5 + 2]? = some (.int .i64 c) := by
 obtain ⟨a0, h0⟩ := k (i * 5 + 0) (by omega)
 obtain ⟨a1, h1⟩ := k (i * 5 + 1) (by omega)
 obtain ⟨a2, h2⟩ := k (i * 5 + 2) (by omega)
 obtain ⟨a3, h3⟩ := k (i * 5 + 3) (by omega)
 obtain ⟨a4, h4⟩ := k (i * 5 + 4) (by omega)
 refine ⟨a0, a1, a2, a3, a4, ?_, by omega, by rw [← h1]; congr 1, by rw [← h2]; congr 1⟩
 apply List.ext_getElem?
 intro j
 rw [List.getElem?_take]
 by_cases hj : j < 5
 · rw [if_pos hj, List.getElem?_drop]
   match j, hj with
   | 0, _ => rw [show o + i * 5 + 0 = o + (i * 5 + 0) from by omega, h0]; rfl
   | 1, _ => rw [show o + i * 5 + 1 = o + (i * 5 + 1) from by omega, h1]; rfl
   | 2, _ => rw [show o + i * 5 + 2 = o + (i * 5 + 2) from by omega, h2]; rfl
   | 3, _ => rw [show o + i * 5 + 3 = o + (i * 5 + 3) from by omega, h3]; rfl
   | 4, _ => rw [show o + i * 5 + 4 = o + (i * 5 + 4) from by omega, h4]; rfl
 · rw [if_neg hj, List.getElem?_eq_none (by simp; omega)]
/-! ### Other numbers that go in -/
def Nd.with (x : Nd) (l : List Int) : Nd := ⟨x.kind, x.op, x.wide, l, x.value, x.hi, x.lo, x.time⟩
theorem flatN_set : ∀ {ns : List Nd} {ivs : List AV} {i : Nat} {x : Nd} {iv : AV} (l : List Int) (jv : AV), ns[i]? = some x → ivs[i]? = some iv → (flatN ns ivs).set (i * 8 + 3) jv = flatN (ns.set i (x.with l)) (ivs.set i jv)
 | y :: ns, kv :: ivs, 0, x, iv, l, jv, h, k => by
   cases h; cases k
   show (ncells y kv ++ flatN ns ivs).set (0 * 8 + 3) jv = ncells (y.with l) jv ++ flatN ns ivs
   rw [List.set_append_left _ _ (by simp [ncells])]
   rfl
 | y :: ns, kv :: ivs, i + 1, x, iv, l, jv, h, k => by
   have ih := flatN_set (ns := ns) (ivs := ivs) (i := i) l jv (by simpa using h) (by simpa using k)
   show (ncells y kv ++ flatN ns ivs).set ((i + 1) * 8 + 3) jv = ncells y kv ++ flatN (ns.set i (x.with l)) (ivs.set i jv)
   rw [List.set_append_right _ _ (by simp [ncells]; omega), ← ih]
   congr 2
   simp [ncells]; omega
 | [], _, i, x, iv, l, jv, h, _ => by simp at h
 | _ :: _, [], i, x, iv, l, jv, _, k => by simp at k
/-- The same but for what goes in. -/
def SameN (ns ns' : List Nd) : Prop := ns'.length = ns.length ∧ ∀ (j : Nat) (x : Nd), ns[j]? = some x → ∃ l, ns'[j]? = some (x.with l)
theorem SameN.refl (ns : List Nd) : SameN ns ns := ⟨rfl, fun j x h => ⟨x.ins, h⟩⟩
theorem SameN.set {ns ns' : List Nd} (h : SameN ns ns') {i : Nat} {x : Nd} (hx : ns'[i]? = some x) (l : List Int) : SameN ns (ns'.set i (x.with l)) := by
 refine ⟨by simp [h.1], fun j y hy => ?_⟩
 obtain ⟨l1, h1⟩ := h.2 j y hy
 rw [List.getElem?_set]
 by_cases e : i = j
 · subst e
   have hl : i < ns'.length := by
     rcases Nat.lt_or_ge i ns'.length with h' | h'
     · exact h'
     · rw [List.getElem?_eq_none h'] at hx; cases hx
   rw [hx] at h1
   cases h1
   exact ⟨l, by simp [hl, Nd.with]⟩
 · exact ⟨l1, by rw [if_neg e]; exact h1⟩
theorem wdN_set {ns : List Nd} {i : Nat} {x : Nd} (hx : ns[i]? = some x) (l : List Int) (k : Int) : wdN (ns.set i (x.with l)) k = wdN ns k := by
 unfold wdN
 rw [List.getElem?_set]
 by_cases e : i = k.toNat
 · subst e
   have hl : k.toNat < ns.length := by
     rcases Nat.lt_or_ge k.toNat ns.length with h' | h'
     · exact h'
     · rw [List.getElem?_eq_none h'] at hx; cases hx
   rw [if_pos rfl, if_pos hl, hx]
   rfl
 · rw [if_neg e]
theorem NetG.set {ns : List Nd} (h : NetG ns) {i : Nat} {x : Nd} (hx : ns[i]? = some x) {l : List Int} (hl : ∀ k ∈ l, 0 ≤ k ∧ k < (ns.length : Int)) (ho : ndOK (l.map (wdN ns)) (x.with l)) (hh : ∀ k ∈ hangs (x.with l), k < (i : Int)) (hf : l.length ≤ 3 := by exact Nat.le_of_ble_eq_true rfl) : NetG (ns.set i (x.with l)) := by
 intro j y hy
 have hw : wdN (ns.set i (x.with l)) = wdN ns := funext (wdN_set hx l)
 rw [List.getElem?_set] at hy
 by_cases e : i = j
 · subst e
   have hlt : i < ns.length := by
     rcases Nat.lt_or_ge i ns.length with h' | h'
     · exact h'
     · rw [List.getElem?_eq_none h'] at hx; cases hx
   simp [hlt] at hy
   subst hy
   have g := h i x hx
   exact ⟨g.wide, by simpa [Nd.with] using hl, by rw [hw]; exact ho, hh, g.inp, by simpa [Nd.with] using hf⟩
 · rw [if_neg e] at hy
   have g := h j y hy
   exact ⟨g.wide, by simpa using g.ins, by rw [hw]; exact g.ok, g.hang, g.inp, g.few⟩
theorem back_delay {ns : List Nd} (h : NetG ns) {i tgt : Nat} {x : Nd} (hx : ns[i]? = some x) (hk : x.kind = 8) (ht : tgt < ns.length) (hw : wdN ns (tgt : Int) = x.wide) : NetG (ns.set i (x.with [(tgt : Int)])) := by
 have g := h i x hx
 refine h.set hx (by simp; omega) ?_ (by simp [hangs, Nd.with, hk])
 obtain ⟨hz, hn⟩ := g.ok
 refine ⟨hz, .inr (.inr (.inr (.inr (.inr (.inr (.inr ⟨hk, by simp [hw, Nd.with], ?_⟩))))))⟩
 rcases hn with h1 | h1 | h1 | h1 | h1 | h1 | h1 | h1 <;> first | exact h1.2.2 | (exfalso; have := h1.1; omega)
theorem back_flip {ns : List Nd} (h : NetG ns) {i tgt : Nat} {x : Nd} (hx : ns[i]? = some x) (hk : x.kind = 7) (ht : tgt < ns.length) (hw : wdN ns (tgt : Int) = x.wide) : ∃ k d, x.ins = [k, d] ∧ NetG (ns.set i (x.with [k, (tgt : Int)])) := by
 have g := h i x hx
 obtain ⟨hz, hn⟩ := g.ok
 have h7 : ∃ a, x.ins.map (wdN ns) = [a, x.wide] := by
   rcases hn with h1 | h1 | h1 | h1 | h1 | h1 | h1 | h1 <;> first | exact h1.2 | (exfalso; have := h1.1; omega)
 obtain ⟨a, ha⟩ := h7
 match hins : x.ins, ha with
 | [k, d], ha =>
   have hi := g.ins k (by rw [hins]; simp)
   refine ⟨k, d, rfl, h.set hx (by simp; omega) ?_ ?_⟩
   · exact ⟨hz, .inr (.inr (.inr (.inr (.inr (.inr (.inl ⟨hk, wdN ns k, by simp [hw, Nd.with]⟩))))))⟩
   · have := g.hang k (by simp [hangs, hk, hins])
     simp [hangs, Nd.with, hk]
     exact this
 | [], ha => simp at ha
 | [_], ha => simp at ha
 | _ :: _ :: _ :: _, ha => simp at ha
theorem lst_set {t t' : TB} {lo m nx nx' x b c i : Nat} {ns : List Nd} {ivs : List AV} {vn vt : AV} {ts : List Int} {p : Int} {nd : Nd} {iv : AV} {l : List Int}
   (h : Lst t lo m x b c ns ivs vn vt ts p) (hm : m ≤ nx) (hnx : nx ≤ nx') (hx : ns[i]? = some nd) (hiv : InsV t' lo nx' x b c iv l) (hk : Keep t t' nx (fun d => d = b)) (hbc : b ≠ c ∨ vt = .nslice) (hrow : hv t' b = some (.row (flatN (ns.set i (nd.with l)) (ivs.set i iv)) true)) :
   Lst t' lo nx' x b c (ns.set i (nd.with l)) (ivs.set i iv) vn vt ts p := by
 have hlx := h.hx
 rcases h.nodes with ⟨-, hn, -⟩ | hn
 · subst hn; simp at hx
 have hb := hn.ne
 refine ⟨(hk x (by omega) (fun e => hb e.symm)).trans h.own, h.lx, by omega, .inr ⟨by simpa using hn.v, hrow, hn.ge, Nat.lt_of_lt_of_le hn.lt (by omega), hn.ne, hn.nc, by simp [hn.len], fun j e jv h1 h2 => ?_⟩, ?_⟩
 · rw [List.getElem?_set] at h1 h2
   by_cases e' : i = j
   · subst e'
     have hl : i < ns.length := by
       rcases Nat.lt_or_ge i ns.length with h' | h'
       · exact h'
       · rw [List.getElem?_eq_none h'] at hx; cases hx
     have hlen := hn.len
     rw [if_pos rfl, if_pos hl] at h1
     rw [if_pos rfl, if_pos (by omega)] at h2
     cases h1; cases h2
     exact hiv
   · rw [if_neg e'] at h1 h2
     exact (hn.ins j e jv h1 h2).keep (by omega) (fun d h3 h4 h5 h6 => hk d (by omega) h5) (.inl rfl) (.inl rfl)
 · rcases h.nets with hn' | ⟨ex, h1, h2, h3, h4, h5⟩
   · exact .inl hn'
   · refine .inr ⟨ex, h1, (hk c (by omega) ?_).trans h2, h3, by omega, h5⟩
     rcases hbc with h6 | h6
     · exact fun e => h6 e.symm
     · subst h6; cases h1
/-! ### What is made -/
def inNd (w : Int) : Nd := ⟨2, 0, w, [], [], 0, 0, 0⟩
def First2 (ns : List Nd) : Prop := (∃ l, ns[0]? = some ((inNd 1).with l)) ∧ ∃ l, ns[1]? = some ((inNd 3).with l)
theorem First2.app {ns ms : List Nd} (h : First2 ns) (h2 : 2 ≤ ns.length) : First2 (ns ++ ms) := by
 obtain ⟨⟨l, h0⟩, k, h1⟩ := h
 exact ⟨⟨l, by rw [List.getElem?_append_left (by omega)]; exact h0⟩, k, by rw [List.getElem?_append_left (by omega)]; exact h1⟩
theorem First2.same {ns ms : List Nd} (h : First2 ns) (k : SameN ns ms) : First2 ms := by
 obtain ⟨⟨l, h0⟩, l', h1⟩ := h
 obtain ⟨a, ha⟩ := k.2 _ _ h0
 obtain ⟨b, hb⟩ := k.2 _ _ h1
 exact ⟨⟨a, ha⟩, b, hb⟩
theorem Fit.first2 {ns ns' : List Nd} {k r : Nat} {wide : Int} (h : Fit ns k wide ns' r) (f : First2 ns) (h2 : 2 ≤ ns.length) : First2 ns' := by
 rcases h with ⟨x, h1, h2, rfl, rfl⟩ | ⟨rfl, rfl⟩
 · exact f
 · exact f.app h2
theorem lst_nets {t t' : TB} {lo m nx' x b c c' : Nat} {ns : List Nd} {ivs : List AV} {vn vt vt' : AV} {ts ts' : List Int} {p : Int} {ex : Bool}
   (h : Lst t lo m x b c ns ivs vn vt ts p) (hm : m ≤ c') (hc : c' < nx') (hlc : lo ≤ c') (hv' : vt' = .slice c' 0 ts'.length ts'.length 1 ex) (hk : ∀ d, d < m → d ≠ x → d ≠ c → hv t' d = hv t d) (hown : hv t' x = some (.row [vn, vt', .int .i64 p] true)) (hrow : hv t' c' = some (.row (ints ts') true)) :
   Lst t' lo nx' x b c' ns ivs vn vt' ts' p := by
 have hx := h.hx
 refine ⟨hown, h.lx, by omega, ?_, .inr ⟨ex, hv', hrow, hlc, hc, by omega⟩⟩
 rcases h.nodes with hn | hn
 · exact .inl hn
 · have hlt := hn.lt
   refine .inr ⟨hn.v, (hk b hlt hn.ne hn.nc).trans hn.row, hn.ge, by omega, hn.ne, by omega, hn.len, fun i e jv h1 h2 => ?_⟩
   exact (hn.ins i e jv h1 h2).keep (by omega) (fun d h3 h4 h5 h6 => hk d h3 h4 h6) (.inl rfl) (.inr hm)
/-- Behind a row of which it is not told whether its room is known. -/
theorem app_any {t : TB} {nx sz k b o n : Nat} {ex : Bool} {y : AV} {l cs : List AV} (hl : srcLen y = some k) (hs : srcCells y k sz t = some cs) (hc : allCell cs = true) (hb : hv t b = some (.row l true)) (ho : o + n * sz ≤ l.length) (hn : 0 < k) (hk : (n + k) * sz ≤ 65536) :
   ∃ t', appendA sz (.slice b o n n sz ex) y t nx = .ok (.slice nx 0 (n + k) (n + k) sz false) t' (nx + 1) ∧ ∃ t1, (∀ d, d ≠ b → hv t1 d = hv t d) ∧ hv t' = upd (hv t1) nx (some (.row ((l.drop o).take (n * sz) ++ cs) true)) := by
 obtain ⟨t', h1, h2⟩ := app_new (t := t) (nx := nx) (ex := ex) (c := n) hl hs hc hb ho (by omega) hk (.inr rfl)
 refine ⟨t', h1, if ex then t else t.put none b, ?_, ?_⟩
 · intro d hd
   cases ex with
   | true => rfl
   | false => show hv (t.put none b) d = _; rw [hv_put, upd_ne _ _ _ _ hd]
 · rw [h2]
   cases ex with
   | true => rfl
   | false => show upd (upd (hv t) b none) nx _ = upd (hv (t.put none b)) nx _; rw [hv_put]; rfl
/-- A netlist's rows, as they are read. -/
def RowI (t : TB) (bd : Nat) (v : AV) (l : List Int) : Prop :=
 (v = .nslice ∧ l = []) ∨ ∃ (d o c : Nat) (ex wr : Bool) (r : List AV), v = .slice d o l.length c 1 ex ∧ d < bd ∧ hv t d = some (.row r wr) ∧ (o + l.length ≤ r.length ∧ l.length ≤ c) ∧ (r.drop o).take l.length = ints l
def RowN (t : TB) (bd : Nat) (v : AV) (ns : List Nd) : Prop :=
 (v = .nslice ∧ ns = []) ∨ ∃ (d o c : Nat) (ex wr : Bool) (r ivs : List AV), v = .slice d o ns.length c 8 ex ∧ d < bd ∧ hv t d = some (.row r wr) ∧ o + ns.length * 8 ≤ r.length ∧ (r.drop o).take (ns.length * 8) = flatN ns ivs ∧ ivs.length = ns.length ∧
   ∀ (i : Nat) (x : Nd) (iv : AV), ns[i]? = some x → ivs[i]? = some iv → RowI t bd iv x.ins
theorem RowI.keep {t t' : TB} {bd bd' : Nat} {v : AV} {l : List Int} (h : RowI t bd v l) (k : Keep t t' bd (fun _ => False)) (hb : bd ≤ bd') : RowI t' bd' v l := by
 rcases h with h | ⟨d, o, c, ex, wr, r, h1, h2, h3, h4⟩
 · exact .inl h
 · exact .inr ⟨d, o, c, ex, wr, r, h1, by omega, (k d h2 id).trans h3, h4⟩
theorem RowN.keep {t t' : TB} {bd bd' : Nat} {v : AV} {ns : List Nd} (h : RowN t bd v ns) (k : Keep t t' bd (fun _ => False)) (hb : bd ≤ bd') : RowN t' bd' v ns := by
 rcases h with h | ⟨d, o, c, ex, wr, r, ivs, h1, h2, h3, h4, h5, h6, h7⟩
 · exact .inl h
 · exact .inr ⟨d, o, c, ex, wr, r, ivs, h1, by omega, (k d h2 id).trans h3, h4, h5, h6, fun i x iv e1 e2 => (h7 i x iv e1 e2).keep k hb⟩
theorem ints_len (l : List Int) : (ints l).length = l.length := by simp [ints]
theorem InsV.rowI {t : TB} {lo hi x b c : Nat} {v : AV} {l : List Int} (h : InsV t lo hi x b c v l) : RowI t hi v l := by
 rcases h with h | ⟨d, ex, h1, h2, h3, h4, -⟩
 · exact .inl h
 · exact .inr ⟨d, 0, l.length, ex, true, ints l, h1, h4, h2, by rw [ints_len]; omega, by rw [← ints_len l]; exact whole rfl⟩
theorem NodesV.rowN {t : TB} {lo hi x b c : Nat} {v : AV} {ns : List Nd} {ivs : List AV} (h : NodesV t lo hi x b c v ns ivs) : RowN t hi v ns :=
 .inr ⟨b, 0, ns.length, false, true, flatN ns ivs, ivs, h.v, h.lt, h.row, by rw [flatN_len h.len]; omega, whole (flatN_len h.len), h.len, fun i y iv e1 e2 => (h.ins i y iv e1 e2).rowI⟩
/-- The nets of what is made: the inputs, and some behind them. -/
def NetsM (ts : List Int) (n : Nat) : Prop := ∃ us : List Int, ts = 0 :: 1 :: us ∧ us.length ≤ 4 ∧ ∀ u ∈ us, 2 ≤ u ∧ u < (n : Int)
theorem ne_nil {α : Type} {P : Prop} {l : List α} (h : 2 ≤ l.length) (e : l = []) : P := by subst e; simp at h
theorem ints_snoc (l : List Int) (u : Int) : ints l ++ [.int .i64 u] = ints (l ++ [u]) := by simp [ints, i64]
theorem NetsM.snoc {ts : List Int} {n i : Nat} {u : Int} (h : ∃ us : List Int, ts = 0 :: 1 :: us ∧ us.length = i ∧ ∀ u ∈ us, 2 ≤ u ∧ u < (n : Int)) (h1 : 2 ≤ u) (h2 : u < (n : Int)) : ∃ us : List Int, ts ++ [u] = 0 :: 1 :: us ∧ us.length = i + 1 ∧ ∀ u ∈ us, 2 ≤ u ∧ u < (n : Int) := by
 obtain ⟨us, rfl, h3, h4⟩ := h
 refine ⟨us ++ [u], by simp, by simp [h3], fun v hv => ?_⟩
 rcases List.mem_append.1 hv with h5 | h5
 · exact h4 v h5
 · simp at h5; subst h5; exact ⟨h1, h2⟩
theorem NetsM.of {ts : List Int} {n i : Nat} (h : ∃ us : List Int, ts = 0 :: 1 :: us ∧ us.length = i ∧ ∀ u ∈ us, 2 ≤ u ∧ u < (n : Int)) (hi : i ≤ 4) : NetsM ts n := by
 obtain ⟨us, h1, h2, h3⟩ := h
 exact ⟨us, h1, by omega, h3⟩
theorem InsV.keepL {t t' : TB} {lo hi hi' x b b' c c' : Nat} {v : AV} {l : List Int} (h : InsV t lo hi x b c v l) (hh : hi ≤ hi') (k : ∀ d, lo ≤ d → d < hi → d ≠ x → d ≠ b → d ≠ c → hv t' d = hv t d) (hb : b' = b ∨ hi ≤ b') (hc : c' = c ∨ hi ≤ c') : InsV t' lo hi' x b' c' v l := by
 rcases h with h | ⟨d, ex, h1, h2, h3, h4, h5, h6, h7⟩
 · exact .inl h
 · exact .inr ⟨d, ex, h1, (k d h3 h4 h5 h6 h7).trans h2, h3, by omega, h5, by omega, by omega⟩

theorem back_ok {t : TB} {nx lo m x b c bd ng : Nat} {ns : List Nd} {ivs : List AV} {vn vt gv : AV} {ts : List Int} {pp : Int}
   (h : Lst t lo m x b c ns ivs vn vt ts pp) (hm : m ≤ nx) (hl : lo ≤ nx) (hne : 0 < ns.length) (hs : ns.length < 4000) (hg : NetG ns) (hgv : Rows5 t bd gv ng 5) (hbd : bd ≤ lo) (hc : c < nx) (hng : ng < 9223372036854775808) :
   WF tb 47 [.ptr x 0, gv] t nx (fun v t' nx' => v = .tup [] ∧ nx ≤ nx' ∧ ∃ ns' ivs', Lst t' lo nx' x b c ns' ivs' vn vt ts pp ∧ NetG ns' ∧ SameN ns ns' ∧ Keep t t' nx (fun d => d = b)) := by
 have hown := h.own
 have hx := h.hx
 have hlx := h.lx
 rcases h.nodes with ⟨-, hn, -⟩ | hn
 · subst hn; simp at hne
 have hv := hn.v; have hb := hn.lt; have hbx := hn.ne; have hbc := hn.nc; have hlb := hn.ge
 clear hn
 subst hv
 obtain ⟨N, hN⟩ : ∃ N, N = ns.length := ⟨_, rfl⟩
 refine k_fun back_tab rfl ?_
 unfold back_c
 change WC _ _ (TA.put (some _) (TA.put (some _) TA.e 0) 1) _ _ _
 refine k_seq (k_reg (m1 (get_other rfl get_same) (rO (o_nilck eZ) (rO (o_faddr (off := 0) eZ) (rO (o_faddr (off := 0) eZ) (rO (o_load eZ hown rfl) (rO (o_len_slice eZ) (m1 ds (r_nil (k_seq (k_reg (rO (o_mov ev_c) (r_nil (k_block (k_loop (fun mm Tv tv nv => ∃ (i : Nat) (ns' : List Nd) (ivs' : List AV), Lst tv lo nv x b c ns' ivs' (.slice b 0 ns.length ns.length 8 false) vt ts pp ∧ NetG ns' ∧ SameN ns ns' ∧ Tv.get 0 = some (.ptr x 0) ∧ Tv.get 1 = some gv ∧ Tv.get 4 = some (.int .i64 ((ns.length : Nat) : Int)) ∧ Tv.get 5 = some (.int .i64 (i : Int)) ∧ i ≤ ns.length ∧ nx ≤ nv ∧ Keep t tv nx (fun d => d = b) ∧ mm + i = ns.length) (fun mm Tv tv nv hI => ?_) (ns.length) ⟨0, ns, ivs, h.keep kR hm, hg, SameN.refl _, (z8 (get_other rfl get_same)), (z8 get_same), (z1 ds), ds, by omega, by omega, kR, by omega⟩)))))))))))))))
 obtain ⟨i, ns', ivs', hL, hG, hsm, q0, q1, q4, q5, hi, hnv, hkp, hmm⟩ := hI
 have hown1 := hL.own
 rcases hL.nodes with ⟨-, hn1, -⟩ | hn1
 · subst hn1; have := hsm.1; simp at this; omega
 have hlen1 := hn1.len; have hsl := hsm.1; have hb1 := hn1.lt
 have hgv1 := hgv.keep (W := fun d => d = b) (fun d hd hw => hkp d (by omega) hw) (fun d hd e => by omega)
 refine k_seq (k_seq ?_)
 by_cases hin : i < ns.length
 · refine k_reg (m1 q5 (m1 (z1 q4) (rO (dec_t (o_lss (eV (z1 ds)) eZ) (by omega)) (m1 ds (r_op (o_mov (eV (z4 q5))) (want_on ds) (r_op (o_mov (eV (z1 (z4 q1)))) (want_on (z1 ds)) (r_op (o_len_5 hgv eZ) (want_on (z2 ds)) (r_op (o_lss (eV (z2 ds)) eZ) (want_on (z1 (z2 ds))) (rO (o_pick_t (eV (z4 ds)) eZ) (r_nil ?_))))))))))
   refine k_if eZ (fun hc1 => ?_) (fun hc1 => ?_)
   · refine k_skip (k_seq (k_block (k_seq ?_)))
     have hig : i < ng := by omega
     rcases hgv1 with ⟨-, h0⟩ | ⟨g, og, cg, exg, wrg, rg, hge, hgb, hgr, hgl, hgc⟩
     · omega
     subst hge
     obtain ⟨ga, gb, gc, gd, ge, g5, g6, g7, g8⟩ := five hgl hig hgc
     obtain ⟨nd, hnd⟩ := some_at (l := ns') (i := i) (by omega)
     obtain ⟨jv, hjv⟩ := some_at (l := ivs') (i := i) (by omega)
     have hjc := (hn1.ins i nd jv hnd hjv).cell
     refine k_reg (m1 (z1 (z8 q0)) (rO (o_nilck eZ) (rO (o_faddr (off := 0) eZ) (rO (o_faddr (off := 0) eZ) (rO (o_load eZ hown1 rfl) (m1 (z2 (z4 (z8 q5))) (rO (o_iaddr (i := i) (eV (z1 ds)) eZ (by omega)) ?_)))))))
     refine rO (o_loadA (n := 8) (us := [(.int .i64 nd.kind), (.int .i64 nd.op), (.int .i64 nd.wide), jv, (.str nd.value), (.int .i64 nd.hi), (.int .i64 nd.lo), (.int .i64 nd.time)]) eZ hn1.row (by rw [flatN_len hlen1]; omega) (by rw [Nat.zero_add]; exact flatN_drop hnd hjv hlen1)) ?_
     refine r_heap (o_alloc) rfl (fun t2 (hh3 : hv t2 = upd (hv tv) nv (some (.row [(.int .i64 0), (.int .i64 0), (.int .i64 0), .nslice, (.str []), (.int .i64 0), (.int .i64 0), (.int .i64 0)] true))) => r_heap (o_store (n := 8) eZ (eV (z1 ds)) (lS hh3) rfl (ncells_cell nd hjc) (leb rfl)) rfl (fun t4 (hh5 : hv t4 = upd (hv t2) nv (some (.row [(.int .i64 nd.kind), (.int .i64 nd.op), (.int .i64 nd.wide), jv, (.str nd.value), (.int .i64 nd.hi), (.int .i64 nd.lo), (.int .i64 nd.time)] true))) => r_nil (k_seq (k_reg (m1 (z1 (z2 (z8 (z8 q1)))) (m1 (z4 (z8 (z8 q5))) (rO (o_iaddr (i := i) (eV (z1 ds)) eZ (by omega)) (rO (o_faddr (off := 2) eZ) (rO (o_load eZ (lN hh5 (lN hh3 hgr)) g8) (r_ex (o_shr (m := 16) eZ ev_c) rfl ?_))))))))))
     rintro _ ⟨r6, rfl⟩
     refine r_ex (o_and (m := 65535) eZ ev_c (by decide)) rfl ?_
     rintro _ ⟨r7, rfl, hr8⟩
     refine m1 (z2 (z8 (z8 (z8 q4)))) (rO (o_rem (a := r7) (n := ns.length) (eV (z1 ds)) eZ (by omega)) (m1 ds (r_nil (k_seq (k_seq ?_)))))
     have hto : r7 % ns.length < ns.length := Nat.mod_lt _ (by omega)
     generalize r7 % ns.length = tgt at *
     obtain ⟨ne, hne2⟩ := some_at (l := ns') (i := tgt) (by omega)
     obtain ⟨ke, hke⟩ := some_at (l := ivs') (i := tgt) (by omega)
     have hwt := wdN_at hne2
     by_cases hww : ne.wide = nd.wide
     · refine k_draw (eO 0 rfl (o_mov (eV (z1 (z4 (z8 (z8 (z8 q0))))))) (eO 1 rfl (o_nilck eZ) (eO 2 rfl (o_faddr (off := 0) eZ) (eO 3 rfl (o_faddr (off := 0) eZ) (eO 4 rfl (o_load eZ (lN hh5 (lN hh3 hown1)) rfl) (eO 5 rfl (o_mov (eV (z1 (z4 ds)))) (eO 6 rfl (o_iaddr (i := tgt) (eV (z1 ds)) eZ (by omega)) (eO 7 rfl (o_faddr (off := 2) eZ) (eO 8 rfl (o_load eZ (lN hh5 (lN hh3 hn1.row)) (at_node (j := 2) hne2 hke (by decide) (by omega) rfl)) (eO 9 rfl (o_faddr (off := 2) (eV (z4 (z8 (z8 ds))))) (eO 10 rfl (o_load eZ (lS hh5) rfl) (eO 11 rfl (ndec_f (o_neq (eV (z2 ds)) eZ) hww) (eO 12 rfl (o_mov eZ) (e_op 13 rfl (o_mov (eV (z2 (z8 (z8 (z8 (z8 (z8 q1)))))))) (want_on ds) (e_op 14 rfl (o_mov (eV (z1 (z2 (z8 (z8 (z8 (z8 (z8 q5))))))))) (want_on (z1 ds)) (e_op 15 rfl (o_iaddr (i := i) (eV (z1 ds)) eZ (by omega)) (want_on (z2 ds)) (e_op 16 rfl (o_faddr (off := 1) eZ) (want_on (z1 (z2 ds))) (e_op 17 rfl (o_load eZ (lN hh5 (lN hh3 hgr)) g7) (want_on (z4 ds)) (e_ex 18 rfl (o_shr (m := 16) eZ ev_c) (want_on (z1 (z4 ds))) ?_)))))))))))))))))))
       rintro _ ⟨r9, rfl⟩
       refine e_ex 19 rfl (o_and (m := 1) eZ ev_c (by decide)) (want_on (z2 (z4 ds))) ?_
       rintro _ ⟨r10, rfl, hr11⟩
       refine e_op 20 rfl (o_eql eZ ev_c) (want_on (z1 (z2 (z4 ds)))) (eO 21 rfl (o_pick_f (eV (z8 ds)) eZ) (e_done ?_))
       refine k_if eZ (fun hc12 => ?_) (fun hc12 => ?_)
       · refine k_exit (exK_same (k_reg (rO (o_mov (eV (z1 (z2 (z8 (z8 (z8 (z8 (z8 (z8 q5)))))))))) (rO (o_add eZ ev_c (by omega) (by omega)) (m1 ds (r_nil ?_))))))
         exact ⟨mm - 1, by omega, i + 1, _, _, hL.keep (kU (kU kR hh3) hh5) (by omega), hG, hsm, (z2 (z4 (z8 (z8 (z8 (z8 (z8 (z8 q0)))))))), (z2 (z4 (z8 (z8 (z8 (z8 (z8 (z8 q1)))))))), (z2 (z4 (z8 (z8 (z8 (z8 (z8 (z8 q4)))))))), ds, by omega, by omega, kU (kU (hkp) hh3) hh5, by omega⟩
       refine k_skip (k_seq (k_seq ?_))
       by_cases hc8 : nd.kind = 8
       · refine k_reg (rO (o_faddr (off := 0) (eV (z1 (z8 (z8 (z8 (z8 ds))))))) (rO (o_load eZ (lS hh5) rfl) (rO (dec_t (o_eql eZ ev_c) hc8) (r_nil (k_cond_t eZ (k_reg (rO (o_mov (eV (z2 (z4 (z8 (z8 (z8 (z8 (z8 (z8 q0)))))))))) (rO (o_nilck eZ) (rO (o_faddr (off := 0) eZ) (rO (o_faddr (off := 0) eZ) (rO (o_load eZ (lN hh5 (lN hh3 hown1)) rfl) (rO (o_mov (eV (z1 (z2 (z8 (z8 (z8 (z8 (z8 (z8 (z8 q5))))))))))) (rO (o_mov (eV (z1 (z2 (z4 (z8 (z8 (z8 ds)))))))) (r_heap (o_bslice (fill_cons eZ rfl rfl fill_nil)) rfl (fun t13 (hh14 : hv t13 = upd (hv t4) (nv + 1) (some (.row [(.int .i64 ((tgt : Nat) : Int))] true))) => rO (o_iaddr (i := i) (eV (z1 (z2 ds))) (eV (z2 ds)) (by omega)) (rO (o_faddr (off := 3) eZ) ?_))))))))))))))))
         refine r_heap (o_store1 eZ (eV (z2 ds)) (lN hh14 (lN hh5 (lN hh3 hn1.row))) (by rw [flatN_len hlen1]; omega)) rfl (fun t15 hh16 => ?_)
         refine r_nil (k_seq ?_)
         rw [show 0 + i * 8 + 3 = i * 8 + 3 from by omega, flatN_set [(tgt : Int)] (.slice (nv + 1) 0 1 1 1 true) hnd hjv] at hh16
         have hst : Keep tv t15 nv (fun d => d = b) := Keep.upd (kU (kU (kU kR hh3) hh5) hh14) hh16 (.inr rfl)
         have hL2 := lst_set (nx' := ((nv + 1) + 1)) (l := [(tgt : Int)]) (iv := (.slice (nv + 1) 0 1 1 1 true)) hL (Nat.le_refl _) (by omega) hnd (.inr ⟨(nv + 1), true, rfl, (lN hh16 (lS hh14)), by omega, by omega, by omega, by omega, by omega⟩) hst (.inl hbc) (lS hh16)
         refine k_reg (rO (o_faddr (off := 0) (eV (z1 (z2 (z4 (z8 (z8 (z8 (z8 (z8 ds)))))))))) (rO (o_load eZ (lN hh16 (lN hh14 (lS hh5))) rfl) (rO (dec_f (o_eql eZ ev_c) (by omega)) (r_nil (k_cond_f eZ (k_skip (k_reg (rO (o_mov (eV (z4 (z8 (z8 (z8 (z8 (z8 (z8 (z8 (z8 q5))))))))))) (rO (o_add eZ ev_c (by omega) (by omega)) (m1 ds (r_nil ?_)))))))))))
         exact ⟨mm - 1, by omega, i + 1, _, _, hL2, (back_delay hG hnd hc8 (by omega) (by rw [hwt]; exact hww)), (hsm.set hnd _), (z1 (z2 (z4 (z8 (z8 (z8 (z8 (z8 (z8 (z8 (z8 q0))))))))))), (z1 (z2 (z4 (z8 (z8 (z8 (z8 (z8 (z8 (z8 (z8 q1))))))))))), (z1 (z2 (z4 (z8 (z8 (z8 (z8 (z8 (z8 (z8 (z8 q4))))))))))), ds, by omega, by omega, Keep.upd (kU (kU (kU (hkp) hh3) hh5) hh14) hh16 (.inr rfl), by omega⟩
       by_cases hk7 : nd.kind = 7
       · refine k_reg (rO (o_faddr (off := 0) (eV (z1 (z8 (z8 (z8 (z8 ds))))))) (rO (o_load eZ (lS hh5) rfl) (rO (dec_f (o_eql eZ ev_c) hc8) (r_nil (k_cond_f eZ (k_skip (k_seq (k_reg (rO (o_faddr (off := 0) (eV (z4 (z8 (z8 (z8 (z8 ds))))))) (rO (o_load eZ (lS hh5) rfl) (rO (dec_t (o_eql eZ ev_c) hk7) (r_nil (k_cond_t eZ ?_)))))))))))))
         obtain ⟨k0, d0, hins, hgd⟩ := back_flip hG hnd hk7 (tgt := tgt) (by omega) (by rw [hwt]; exact hww)
         rcases hn1.ins i nd jv hnd hjv with ⟨-, hz⟩ | ⟨bi, exi, hji, hri, hbi1, hbi2, hbi3, hbi4, hbi5⟩
         · rw [hins] at hz; cases hz
         rw [hins] at hji hri
         replace hji : jv = .slice bi 0 2 2 1 exi := hji
         subst hji
         change hv tv bi = some (.row [.int .i64 k0, .int .i64 d0] true) at hri
         refine k_draw (eO 0 rfl (o_mov (eV (z1 (z8 (z8 (z8 (z8 (z8 (z8 (z8 q0)))))))))) (eO 1 rfl (o_nilck eZ) (eO 2 rfl (o_faddr (off := 0) eZ) (eO 3 rfl (o_faddr (off := 0) eZ) (eO 4 rfl (o_load eZ (lN hh5 (lN hh3 hown1)) rfl) (eO 5 rfl (o_mov (eV (z2 (z4 (z8 (z8 (z8 (z8 (z8 (z8 (z8 q5))))))))))) (eO 6 rfl (o_faddr (off := 3) (eV (z1 (z4 (z8 (z8 (z8 (z8 (z8 ds))))))))) (eO 7 rfl (o_load eZ (lS hh5) rfl) (eO 8 rfl (o_iaddr (i := 0) eZ ev_c (by omega)) (eO 9 rfl (o_load eZ (lN hh5 (lN hh3 hri)) rfl) (eO 10 rfl (o_mov (eV (z2 (z4 (z8 (z8 (z8 (z8 ds)))))))) ?_)))))))))))
         refine d_heap (ix := 11) (pr := [9, 10]) (d := (some 91)) (g := none) (F' := [(⟨5, [], .mv 85 5⟩, (.int .i64 ((i : Nat) : Int))), (⟨4, [3], .o 84 (.load (.t 83))⟩, (.slice b 0 ns.length ns.length 8 false)), (⟨3, [2], .o 83 (.faddr (.t 82) 0)⟩, (.ptr x 0)), (⟨2, [1], .o 82 (.faddr (.t 81) 0)⟩, (.ptr x 0)), (⟨1, [0], .o 81 (.nilck (.t 80))⟩, (.ptr x 0)), (⟨0, [], .mv 80 0⟩, (.ptr x 0))]) (o := (.bslice 1 2 [(.int .i64 0)] [(0, 1, (.t 89)), (1, 1, (.t 90))])) (o_bslice (fill_cons (eV (z1 ds)) rfl rfl (fill_cons eZ rfl rfl fill_nil))) rfl (by kernel_rfl) (by kernel_rfl) (by kernel_rfl) (by kernel_rfl) (fun t17 (hh18 : hv t17 = upd (hv t4) (nv + 1) (some (.row [(.int .i64 k0), (.int .i64 ((tgt : Nat) : Int))] true))) => ⟨?_, ?_⟩)
         · exact (all_cons_ (still_op rfl rfl (o_mov (eV (z1 (z4 (z8 (z8 (z8 (z8 (z8 (z8 (z8 (z8 q5)))))))))))) (aeq_flat rfl)) (all_cons_ (still_op rfl rfl (o_load (eV (z8 ds)) (lN hh18 (lN hh5 (lN hh3 hown1))) rfl) (aeq_flat rfl)) (all_cons_ (still_op rfl rfl (o_faddr (off := 0) (eV (z1 (z8 ds)))) (aeq_flat rfl)) (all_cons_ (still_op rfl rfl (o_faddr (off := 0) (eV (z2 (z8 ds)))) (aeq_flat rfl)) (all_cons_ (still_op rfl rfl (o_nilck (eV (z1 (z2 (z8 ds))))) (aeq_flat rfl)) (all_cons_ (still_op rfl rfl (o_mov (eV (z1 (z4 (z8 (z8 (z8 (z8 (z8 (z8 (z8 (z8 q0)))))))))))) (aeq_flat rfl)) all_nil_))))))
         refine eO 12 rfl (o_iaddr (i := i) (eV (z1 (z2 (z4 ds)))) (eV (z2 (z4 ds))) (by omega)) (eO 13 rfl (o_faddr (off := 3) eZ) ?_)
         refine d_heap (ix := 14) (pr := [13, 11, 0, 1, 2, 3, 4, 5, 6, 7, 8, 9, 10, 11]) (d := none) (g := none) (F' := []) (o := (.store 1 (.t 93) (.t 91))) (o_store1 eZ (eV (z2 ds)) (lN hh18 (lN hh5 (lN hh3 hn1.row))) (by rw [flatN_len hlen1]; omega)) rfl (by kernel_rfl) (by kernel_rfl) (by kernel_rfl) (by kernel_rfl) (fun t19 hh20 => ⟨?_, ?_⟩)
         · exact all_nil_
         refine e_done ?_
         rw [show 0 + i * 8 + 3 = i * 8 + 3 from by omega, flatN_set [k0, (tgt : Int)] (.slice (nv + 1) 0 2 2 1 true) hnd hjv] at hh20
         have hst : Keep tv t19 nv (fun d => d = b) := Keep.upd (kU (kU (kU kR hh3) hh5) hh18) hh20 (.inr rfl)
         have hL2 := lst_set (nx' := ((nv + 1) + 1)) (l := [k0, (tgt : Int)]) (iv := (.slice (nv + 1) 0 2 2 1 true)) hL (Nat.le_refl _) (by omega) hnd (.inr ⟨(nv + 1), true, rfl, (lN hh20 (lS hh18)), by omega, by omega, by omega, by omega, by omega⟩) hst (.inl hbc) (lS hh20)
         refine k_reg (rO (o_mov (eV (z8 (z8 (z8 (z8 (z8 (z8 (z8 (z8 (z8 q5))))))))))) (rO (o_add eZ ev_c (by omega) (by omega)) (m1 ds (r_nil ?_))))
         exact ⟨mm - 1, by omega, i + 1, _, _, hL2, hgd, (hsm.set hnd _), (z1 (z2 (z8 (z8 (z8 (z8 (z8 (z8 (z8 (z8 (z8 q0))))))))))), (z1 (z2 (z8 (z8 (z8 (z8 (z8 (z8 (z8 (z8 (z8 q1))))))))))), (z1 (z2 (z8 (z8 (z8 (z8 (z8 (z8 (z8 (z8 (z8 q4))))))))))), ds, by omega, by omega, Keep.upd (kU (kU (kU (hkp) hh3) hh5) hh18) hh20 (.inr rfl), by omega⟩
       refine k_reg (rO (o_faddr (off := 0) (eV (z1 (z8 (z8 (z8 (z8 ds))))))) (rO (o_load eZ (lS hh5) rfl) (rO (dec_f (o_eql eZ ev_c) hc8) (r_nil (k_cond_f eZ (k_skip (k_seq (k_reg (rO (o_faddr (off := 0) (eV (z4 (z8 (z8 (z8 (z8 ds))))))) (rO (o_load eZ (lS hh5) rfl) (rO (dec_f (o_eql eZ ev_c) hk7) (r_nil (k_cond_f eZ (k_skip (k_reg (rO (o_mov (eV (z1 (z8 (z8 (z8 (z8 (z8 (z8 (z8 q5)))))))))) (rO (o_add eZ ev_c (by omega) (by omega)) (m1 ds (r_nil ?_)))))))))))))))))))
       exact ⟨mm - 1, by omega, i + 1, _, _, hL.keep (kU (kU kR hh3) hh5) (by omega), hG, hsm, (z4 (z8 (z8 (z8 (z8 (z8 (z8 (z8 q0)))))))), (z4 (z8 (z8 (z8 (z8 (z8 (z8 (z8 q1)))))))), (z4 (z8 (z8 (z8 (z8 (z8 (z8 (z8 q4)))))))), ds, by omega, by omega, kU (kU (hkp) hh3) hh5, by omega⟩
     refine k_draw (eO 0 rfl (o_mov (eV (z1 (z4 (z8 (z8 (z8 q0))))))) (eO 1 rfl (o_nilck eZ) (eO 2 rfl (o_faddr (off := 0) eZ) (eO 3 rfl (o_faddr (off := 0) eZ) (eO 4 rfl (o_load eZ (lN hh5 (lN hh3 hown1)) rfl) (eO 5 rfl (o_mov (eV (z1 (z4 ds)))) (eO 6 rfl (o_iaddr (i := tgt) (eV (z1 ds)) eZ (by omega)) (eO 7 rfl (o_faddr (off := 2) eZ) (eO 8 rfl (o_load eZ (lN hh5 (lN hh3 hn1.row)) (at_node (j := 2) hne2 hke (by decide) (by omega) rfl)) (eO 9 rfl (o_faddr (off := 2) (eV (z4 (z8 (z8 ds))))) (eO 10 rfl (o_load eZ (lS hh5) rfl) (eO 11 rfl (ndec_t (o_neq (eV (z2 ds)) eZ) hww) (eO 12 rfl (o_mov eZ) (e_off 13 rfl (wN ds) (e_off 14 rfl (wN (z1 ds)) (e_off 15 rfl (wN (z2 ds)) (e_off 16 rfl (wN (z1 (z2 ds))) (e_off 17 rfl (wN (z4 ds)) (e_off 18 rfl (wN (z1 (z4 ds))) (e_off 19 rfl (wN (z2 (z4 ds))) (e_off 20 rfl (wN (z1 (z2 (z4 ds)))) (eO 21 rfl (o_pick_t (eV (z8 ds)) ev_c) (e_done (k_cond_t eZ (k_exit (exK_same (k_reg (rO (o_mov (eV (z1 (z2 (z8 (z8 (z8 (z8 (z8 (z8 q5)))))))))) (rO (o_add eZ ev_c (by omega) (by omega)) (m1 ds (r_nil ?_)))))))))))))))))))))))))))))))
     exact ⟨mm - 1, by omega, i + 1, _, _, hL.keep (kU (kU kR hh3) hh5) (by omega), hG, hsm, (z2 (z4 (z8 (z8 (z8 (z8 (z8 (z8 q0)))))))), (z2 (z4 (z8 (z8 (z8 (z8 (z8 (z8 q1)))))))), (z2 (z4 (z8 (z8 (z8 (z8 (z8 (z8 q4)))))))), ds, by omega, by omega, kU (kU (hkp) hh3) hh5, by omega⟩
   refine k_exit (exK_same ?_)
   exact ⟨_, ans_none, rfl, hnv, _, _, hL.keep kR (Nat.le_refl _), hG, hsm, hkp⟩
 refine k_reg (m1 q5 (m1 (z1 q4) (rO (dec_f (o_lss (eV (z1 ds)) eZ) (by omega)) (m1 ds (r_off (wN ds) (r_off (wN (z1 ds)) (r_off (wN (z2 ds)) (r_off (wN (z1 (z2 ds))) (rO (o_pick_f (eV (z4 ds)) ev_c) (r_nil (k_cond_f eZ (k_exit (exK_same ?_)))))))))))))
 exact ⟨_, ans_none, rfl, hnv, _, _, hL.keep kR (Nat.le_refl _), hG, hsm, hkp⟩
end Go.Proofs.YtpjohgnhmjceiaaGreatDoor.WX

set_option linter.all false
set_option linter.unusedVariables false
set_option linter.unusedSectionVars false
set_option maxRecDepth 100000
open Go Go.Proofs.YtpjohgnhmjceiaaGreatDoor.AX Go.Proofs
namespace Go.Proofs.YtpjohgnhmjceiaaGreatDoor.WX
variable [Env]
set_option maxHeartbeats 8000000 in
theorem made_ok {t : TB} {nx bd ng : Nat} {gv : AV} (hgv : Rows5 t bd gv ng 5) (hbd : bd ≤ nx) (hng : ng < 9223372036854775808) :
   WF tb 13 [gv] t nx (fun v t' nx' => ∃ vn vt ns ts, v = .agg [vn, vt, .int .i64 ((ts.length : Nat) : Int)] ∧ nx ≤ nx' ∧ Keep t t' nx (fun _ => False) ∧ NetG ns ∧ 2 ≤ ns.length ∧ ns.length < 4000 ∧ First2 ns ∧ NetsM ts ns.length ∧ RowN t' nx' vn ns ∧ RowI t' nx' vt ts) := by
 refine k_fun made_tab rfl ?_
 unfold made_c
 change WC _ _ (TA.put (some _) TA.e 0) _ _ _
 refine k_seq (k_reg (r_heap (o_alloc) rfl (fun t1 (hh2 : hv t1 = upd (hv t) nx (some (.row [.nslice, .nslice, (.int .i64 0)] true))) => r_nil (k_seq (k_reg (rO (o_build fill_nil) (r_heap (o_box eZ) rfl (fun t3 (hh4 : hv t3 = upd (hv t1) (nx + 1) (some (.row [.nslice, .nslice, (.int .i64 0)] true))) => m1 ds (r_nil (k_seq ?_))))))))))
 have hL0 : Lst t3 (nx + 1) ((nx + 1) + 1) (nx + 1) (nx + 1) nx [] [] .nslice .nslice [] 0 := ⟨(lS hh4), by omega, by omega, .inl ⟨rfl, rfl, rfl⟩, .inl ⟨rfl, rfl⟩⟩
 refine k_reg (m1 ds (m1 (z1 ds) (rO (o_build (fill_cons ev_c rfl rfl (fill_cons ev_c rfl rfl fill_nil))) (r_call (w_callF (evs_cons (eV (z1 ds)) (evs_cons eZ evs_nil))) rfl (WF.mono (adds_ok (lo := nx + 1) (x := nx + 1) (c := nx) (⟨2, 0, 1, [], [], 0, 0, 0⟩ : Nd) .nslice hL0 (by omega) (by omega) (.inl ⟨rfl, rfl⟩) (by first | omega | simp) (by omega) (fun _ => rfl)) ?_)))))
 rintro _ t6 n7 ⟨ba5, vna5, rfl, hba5, hca5, hLa5, hka5⟩
 refine m1 (z4 ds) (rO (o_build (fill_cons ev_c rfl rfl (fill_cons ev_c rfl rfl fill_nil))) (r_call (w_callF (evs_cons (eV (z1 ds)) (evs_cons eZ evs_nil))) rfl (WF.mono (adds_ok (lo := nx + 1) (x := nx + 1) (c := nx) (⟨2, 0, 3, [], [], 0, 0, 0⟩ : Nd) .nslice hLa5 (by omega) (by omega) (.inl ⟨rfl, rfl⟩) (by first | omega | simp) (by omega) (fun e => by simp at e)) ?_)))
 rintro _ t9 n10 ⟨ba8, vna8, rfl, hba8, hca8, hLa8, hka8⟩
 obtain ⟨ns0, hns0⟩ : ∃ z : List Nd, z = (([] ++ [(⟨2, 0, 1, [], [], 0, 0, 0⟩ : Nd)]) ++ [(⟨2, 0, 3, [], [], 0, 0, 0⟩ : Nd)]) := ⟨_, rfl⟩
 obtain ⟨ivs0, hivs0⟩ : ∃ z : List AV, z = (([] ++ [.nslice]) ++ [.nslice]) := ⟨_, rfl⟩
 have hG0 : NetG ns0 := by
   rw [hns0]
   refine NetG.add (NetG.add (fun i x h => by simp at h) _ (by decide) (by intro k hk; cases hk) ok_in (fun _ => by decide)) _ (by decide) (by intro k hk; cases hk) ok_in (fun _ => by decide)
 have hF0 : First2 ns0 := by rw [hns0]; exact ⟨⟨[], rfl⟩, [], rfl⟩
 have hl0 : ns0.length = 2 := by rw [hns0]; rfl
 rw [← hns0, ← hivs0] at hLa8
 clear hns0 hivs0
 have ownz11 := hLa8.own
 have hxz11 := hLa8.hx
 rcases hLa8.nodes with ⟨-, hz, -⟩ | hnz11
 · exfalso; (try subst hz); simp at *; try omega
 have hvnz11 := hnz11.v; have hlenz11 := hnz11.len; have hltz11 := hnz11.lt; have hnez11 := hnz11.ne; have hgez11 := hnz11.ge
 subst hvnz11
 refine r_heap (o_bslice (fill_cons (eV (z1 (z2 ds))) rfl rfl (fill_cons eZ rfl rfl fill_nil))) rfl (fun t12 (hh13 : hv t12 = upd (hv t9) n10 (some (.row [(.int .i64 0), (.int .i64 1)] true))) => rO (o_nilck (eV (z1 (z2 (z4 ds))))) (rO (o_faddr (off := 0) eZ) (rO (o_faddr (off := 1) eZ) (r_heap (o_store (n := 1) eZ (eV (z1 (z2 ds))) (lN hh13 ownz11) rfl rfl (leb rfl)) rfl (fun t14 (hh15 : hv t14 = upd (hv t12) (nx + 1) (some (.row [(.slice ba8 0 ns0.length ns0.length 8 false), (.slice n10 0 2 2 1 true), (.int .i64 0)] true))) => r_nil (k_seq (k_seq ?_)))))))
 obtain ⟨c, hcc⟩ : ∃ z, z = n10 := ⟨_, rfl⟩
 obtain rfl : c = n10 := hcc
 have hLN := lst_nets (c' := c) (ex := true) (ts' := [0, 1]) (nx' := (c + 1)) hLa8 (by omega) (by omega) (by omega) rfl (fun d h1 h2 h3 => (Keep.upd (kU kR hh13) hh15 (.inr rfl) : Keep _ _ _ (fun d => d = nx + 1)) d h1 h2) (lS hh15) (lN hh15 (lS hh13))
 refine k_reg (rO (o_mov ev_c) (r_nil ?_))
 refine k_cut (fun Ty ty ny => ∃ (b : Nat) (ns : List Nd) (ivs : List AV) (vn : AV), Lst ty (nx + 1) ny (nx + 1) b c ns ivs vn (.slice c 0 2 2 1 true) [0, 1] 0 ∧ NetG ns ∧ First2 ns ∧ 2 ≤ ns.length ∧ ns.length ≤ 122 ∧ Ty.get 0 = some gv ∧ Ty.get 2 = some (.ptr nx 0) ∧ Ty.get 3 = some (.ptr (nx + 1) 0) ∧ hv ty nx = some (.row [.nslice, .nslice, .int .i64 0] true) ∧ Keep t ty nx (fun _ => False) ∧ c < ny ∧ nx + 1 < c) ?_ ?_
 · refine k_block (k_loop (fun mm Tv tv nv => ∃ (i b : Nat) (ns : List Nd) (ivs : List AV) (vn : AV), Lst tv (nx + 1) nv (nx + 1) b c ns ivs vn (.slice c 0 2 2 1 true) [0, 1] 0 ∧ NetG ns ∧ First2 ns ∧ 2 ≤ ns.length ∧ ns.length ≤ 2 + 3 * i ∧ i ≤ 40 ∧ Tv.get 0 = some gv ∧ Tv.get 2 = some (.ptr nx 0) ∧ Tv.get 3 = some (.ptr (nx + 1) 0) ∧ Tv.get 4 = some (.int .i64 (i : Int)) ∧ hv tv nx = some (.row [.nslice, .nslice, .int .i64 0] true) ∧ Keep t tv nx (fun _ => False) ∧ c < nv ∧ nx + 1 < c ∧ mm + i = 40) (fun mm Tv tv nv hI => ?_) (40) ⟨0, ba8, ns0, ivs0, _, hLN, hG0, hF0, by omega, by omega, by omega, (z1 (z8 (z8 get_same))), (z8 (z8 ds)), (z1 (z4 (z8 ds))), ds, (lN hh15 (lN hh13 (Keep.look hka8 (by omega) (by rintro (e | e) <;> omega) (Keep.look hka5 (by omega) (by rintro (e | e) <;> omega) (lN hh4 (lS hh2)))))), kU (kU (Keep.trans (Keep.trans (kU (kU kR hh2) hh4) hka5 (by omega) (by rintro d hd (e | e) <;> omega)) hka8 (by omega) (by rintro d hd (e | e) <;> omega)) hh13) hh15, by omega, by omega, by omega⟩)
   obtain ⟨i, b, ns, ivs, vn, hL, hG, hF, hn2, hn3, hi40, q0, q2, q3, q4, hres, hkp, hcn, hxc, hmm⟩ := hI
   have ownz16 := hL.own
   have hxz16 := hL.hx
   rcases hL.nodes with ⟨-, hz, -⟩ | hnz16
   · exfalso; (try subst hz); simp at *; try omega
   have hvnz16 := hnz16.v; have hlenz16 := hnz16.len; have hltz16 := hnz16.lt; have hnez16 := hnz16.ne; have hgez16 := hnz16.ge
   subst hvnz16
   have hgv1 := hgv.keep (W := fun _ => False) (fun d hd hw => hkp d (by omega) hw) (fun _ _ h => h)
   refine k_seq (k_seq ?_)
   by_cases hin : i < ng
   · by_cases hi4 : i < 40
     · refine k_reg (m1 q4 (m1 (z1 q0) (rO (o_len_5 hgv1 eZ) (rO (dec_t (o_lss (eV (z2 ds)) eZ) (by omega)) (m1 ds (r_op (o_mov (eV (z1 (z4 q4)))) (want_on ds) (r_op (dec_t (o_lss eZ ev_c) (by omega)) (want_on (z1 ds)) (rO (o_pick_t (eV (z2 ds)) eZ) (r_nil (k_cond_t eZ (k_skip (k_seq (k_block (k_seq ?_))))))))))))))
       rcases hgv1 with ⟨-, h0⟩ | ⟨g, og, cg, exg, wrg, rg, hge, hgb, hgr, hgl, hgc⟩
       · omega
       subst hge
       obtain ⟨ga, gb, gc, gd, ge, g5, g6, g7, g8⟩ := five hgl hin hgc
       refine k_reg (m1 (z8 q0) (m1 (z1 (z8 q4)) (rO (o_iaddr (i := i) (eV (z1 ds)) eZ (by omega)) (rO (o_loadA (n := 5) (us := [(.int .i64 ga), (.int .i64 gb), (.int .i64 gc), (.int .i64 gd), (.int .i64 ge)]) eZ hgr (by omega) g5) (r_heap (o_alloc) rfl (fun t17 (hh18 : hv t17 = upd (hv tv) nv (some (.row [(.int .i64 0), (.int .i64 0), (.int .i64 0), (.int .i64 0), (.int .i64 0)] true))) => r_heap (o_store (n := 5) eZ (eV (z1 ds)) (lS hh18) rfl rfl (leb rfl)) rfl (fun t19 (hh20 : hv t19 = upd (hv t17) nv (some (.row [(.int .i64 ga), (.int .i64 gb), (.int .i64 gc), (.int .i64 gd), (.int .i64 ge)] true))) => r_nil (k_seq (k_reg (m1 (z2 (z4 (z8 q3))) (rO (o_nilck eZ) (rO (o_faddr (off := 0) eZ) (rO (o_faddr (off := 0) eZ) (rO (o_load eZ (lN hh20 (lN hh18 ownz16)) rfl) (rO (o_len_slice eZ) (m1 ds (r_nil (k_seq (k_draw (eO 0 rfl (o_faddr (off := 1) (eV (z8 ds))) (eO 1 rfl (o_load eZ (lS hh20) rfl) (e_ex 2 rfl (o_and (m := 65535) eZ ev_c (by decide)) rfl ?_))))))))))))))))))))))
       rintro _ ⟨r21, rfl, hr22⟩
       refine eO 3 rfl (o_mov (eV (z1 (z2 ds)))) (eO 4 rfl (o_rem (a := r21) (n := ns.length) (eV (z1 ds)) eZ (by omega)) (eO 5 rfl (o_faddr (off := 2) (eV (z1 (z4 (z8 ds))))) (eO 6 rfl (o_load eZ (lS hh20) rfl) (e_ex 7 rfl (o_and (m := 65535) eZ ev_c (by decide)) rfl ?_))))
       rintro _ ⟨r23, rfl, hr24⟩
       refine eO 8 rfl (o_mov (eV (z8 ds))) (eO 9 rfl (o_rem (a := r23) (n := ns.length) (eV (z1 ds)) eZ (by omega)) (eO 10 rfl (o_faddr (off := 3) (eV (z2 (z8 (z8 ds))))) (eO 11 rfl (o_load eZ (lS hh20) rfl) (e_ex 12 rfl (o_and (m := 65535) eZ ev_c (by decide)) rfl ?_))))
       rintro _ ⟨r25, rfl, hr26⟩
       refine eO 13 rfl (o_mov (eV (z1 (z4 (z8 ds))))) (eO 14 rfl (o_rem (a := r25) (n := ns.length) (eV (z1 ds)) eZ (by omega)) (eO 15 rfl (o_mov (eV (z2 (z8 ds)))) (eO 16 rfl (o_mov (eV (z2 (z4 ds)))) (eO 17 rfl (o_mov (eV (z2 ds))) (e_done (k_seq ?_))))))
       have hqa : r21 % ns.length < ns.length := Nat.mod_lt _ (by omega)
       generalize r21 % ns.length = qa at *
       have hqb : r23 % ns.length < ns.length := Nat.mod_lt _ (by omega)
       generalize r23 % ns.length = qb at *
       have hqc : r25 % ns.length < ns.length := Nat.mod_lt _ (by omega)
       generalize r25 % ns.length = qc at *
       refine k_reg (rO (o_faddr (off := 4) (eV (z2 (z8 (z8 (z8 ds)))))) (rO (o_load eZ (lS hh20) rfl) (r_ex (o_and (m := 3) eZ ev_c (by decide)) rfl ?_)))
       rintro _ ⟨r27, rfl, hr28⟩
       refine rO (o_addN (a := 1) (b := r27) ev_c eZ (by omega)) (m1 ds (r_nil (k_seq (k_reg (rO (o_faddr (off := 0) (eV (z1 (z2 (z4 (z8 (z8 (z8 ds)))))))) (rO (o_load eZ (lS hh20) rfl) (r_ex (o_and (m := 65535) eZ ev_c (by decide)) rfl ?_)))))))
       rintro _ ⟨r29, rfl, hr30⟩
       refine rO (o_rem (a := r29) (n := 9) eZ ev_c (by omega)) (r_nil (k_block (k_seq (k_reg (rO (o_eql eZ ev_c) (m1 ds (r_nil ?_)))))))
       refine k_if eZ (fun hc31 => ?_) (fun hc31 => ?_)
       · refine k_reg (rO (o_mov (eV (z2 (z8 (z8 (z8 (z8 (z8 (z8 q3))))))))) (m1 (z1 (z2 (z4 ds))) (rO (o_faddr (off := 4) (eV (z1 (z2 (z4 (z8 (z8 (z8 (z8 ds))))))))) (rO (o_load eZ (lS hh20) rfl) (r_ex (o_or eZ ev_c) rfl ?_)))))
         rintro _ ⟨r32, rfl⟩
         refine r_ex (o_or eZ ev_c) rfl ?_
         rintro _ ⟨r33, rfl⟩
         refine m1 (z4 (z8 ds)) (r_call (w_callF (evs_cons (eV (z1 ds)) (evs_cons eZ evs_nil))) rfl (WF.mono (vector_ok r33 (1 + r27) (by omega)) ?_))
         rintro _ t34 n35 ⟨sv, rfl, hsl, hsc, hnvc, hkvc⟩
         refine rO (o_build (fill_cons ev_c rfl rfl (fill_cons (eV (z2 (z4 ds))) rfl rfl (fill_cons eZ rfl rfl fill_nil)))) ?_
         have hok : ndOK ([].map (wdN ns)) (⟨1, 0, ((1 + r27 : Nat) : Int), [], sv, 0, 0, 0⟩ : Nd) := ok_const ⟨by omega, by omega, hsc⟩ (by rw [hsl])
         have hGn : NetG (ns ++ [(⟨1, 0, ((1 + r27 : Nat) : Int), [], sv, 0, 0, 0⟩ : Nd)]) := hG.add _ ⟨by show (1 : Int) ≤ ((1 + r27 : Nat) : Int); omega, by show ((1 + r27 : Nat) : Int) ≤ (256 : Int); omega⟩ (by show ∀ k ∈ ([] : List Int), 0 ≤ k ∧ k < (ns.length : Int); simp only [List.mem_cons, List.not_mem_nil, or_false, forall_eq_or_imp, forall_eq]; first | omega | (intro k hk; cases hk)) hok (fun e => absurd (show (1 : Int) = 2 from e) (by decide))
         refine r_call (w_callF (evs_cons (eV (z8 ds)) (evs_cons eZ evs_nil))) rfl (WF.mono (adds_ok (lo := nx + 1) (x := nx + 1) (c := c) (⟨1, 0, ((1 + r27 : Nat) : Int), [], sv, 0, 0, 0⟩ : Nd) .nslice (hL.keep (hi' := n35) (Keep.trans (kU (kU kR hh18) hh20) hkvc (by omega) (by rintro d hd (e | e) <;> omega)) (by omega)) (by omega) (by omega) (.inl ⟨rfl, rfl⟩) (by first | omega | simp) (by omega) (fun e => ne_nil (by omega) e)) ?_)
         rintro _ t37 n38 ⟨ba36, vna36, rfl, hba36, hca36, hLa36, hka36⟩
         refine r_nil (k_reg (rO (o_mov (eV (z4 (z8 (z8 (z8 (z8 (z8 (z8 (z8 q4)))))))))) (rO (o_add eZ ev_c (by omega) (by omega)) (m1 ds (r_nil ?_)))))
         exact ⟨mm - 1, by omega, i + 1, ba36, (ns ++ [(⟨1, 0, ((1 + r27 : Nat) : Int), [], sv, 0, 0, 0⟩ : Nd)]), (ivs ++ [.nslice]), _, hLa36, hGn, (hF).app (by omega), by simp only [List.length_append, List.length_cons, List.length_nil]; omega, by simp only [List.length_append, List.length_cons, List.length_nil]; omega, by omega, (z1 (z2 (z4 (z8 (z8 (z8 (z8 (z8 (z8 (z8 q0)))))))))), (z1 (z2 (z4 (z8 (z8 (z8 (z8 (z8 (z8 (z8 q2)))))))))), (z1 (z2 (z4 (z8 (z8 (z8 (z8 (z8 (z8 (z8 q3)))))))))), ds, (Keep.look hka36 (by omega) (by rintro (e | e) <;> omega) (Keep.look hkvc (by omega) id (lN hh20 (lN hh18 hres)))), Keep.trans (Keep.trans (kU (kU (hkp) hh18) hh20) hkvc (by omega) (fun d _ h => h)) hka36 (by omega) (by rintro d hd (e | e) <;> omega), by omega, by omega, by omega⟩
       refine k_seq (k_seq (k_reg (rO (o_eql (eV (z2 ds)) ev_c) (m1 ds (r_nil ?_)))))
       refine k_if eZ (fun hc39 => ?_) (fun hc39 => ?_)
       · refine k_skip (k_cond eZ (fun _ => k_seq (k_reg (rO (o_faddr (off := 3) (eV (z1 (z2 (z4 (z8 (z8 (z8 (z8 ds))))))))) (rO (o_load eZ (lS hh20) rfl) (r_ex (o_and (m := 65535) eZ ev_c (by decide)) rfl ?_))))) (fun hz => absurd hc39 (of_decide_eq_false hz)))
         rintro _ ⟨r40, rfl, hr41⟩
         refine rO (o_rem (a := r40) (n := 14) eZ ev_c (by omega)) (rO (o_addN (a := 13) (b := r40 % 14) ev_c eZ (by omega)) (m1 ds (r_nil (k_seq (k_reg (rO (o_mov (eV (z2 (z8 (z8 (z8 (z8 (z8 (z8 (z8 q3)))))))))) (m1 (z2 (z4 (z8 (z8 ds)))) (m1 (z8 (z8 ds)) (r_call (w_callF (evs_cons (eV (z2 ds)) (evs_cons (eV (z1 ds)) (evs_cons eZ evs_nil)))) rfl (WF.mono (fit_ok (lo := nx + 1) (x := nx + 1) (c := c) qa (((1 + r27 : Nat) : Int)) (hL.keep (hi' := (nv + 1)) (kU (kU kR hh18) hh20) (by omega)) (by omega) (by omega) (by omega) (by omega) (by omega)) ?_))))))))))
         rintro _ t43 n44 ⟨bf42, ivsf42, vnf42, nsf42, rf42, rfl, hnf42, hbf42, hff42, hLf42, hkf42⟩
         obtain ⟨hGf42, hrf42, hwf42, hlf42, hmf42, hwdf42, hatf42⟩ := hff42.good hG (by omega) ⟨by omega, by omega⟩
         have hFf42 := hff42.first2 hF (by omega)
         have ownz45 := hLf42.own
         have hxz45 := hLf42.hx
         rcases hLf42.nodes with ⟨-, hz, -⟩ | hnz45
         · exfalso; (try subst hz); simp at *; try omega
         have hvnz45 := hnz45.v; have hlenz45 := hnz45.len; have hltz45 := hnz45.lt; have hnez45 := hnz45.ne; have hgez45 := hnz45.ge
         subst hvnz45
         refine m1 ds (r_nil (k_seq (k_reg (rO (o_mov (eV (z1 (z2 (z4 (z8 (z8 (z8 (z8 (z8 (z8 (z8 q3)))))))))))) (m1 (z2 (z8 (z8 (z8 ds)))) (m1 (z1 (z4 (z8 (z8 ds)))) (r_call (w_callF (evs_cons (eV (z2 ds)) (evs_cons (eV (z1 ds)) (evs_cons eZ evs_nil)))) rfl (WF.mono (fit_ok (lo := nx + 1) (x := nx + 1) (c := c) qb (((1 + r27 : Nat) : Int)) hLf42 (by omega) (by omega) (by omega) (by omega) (by omega)) ?_))))))))
         rintro _ t47 n48 ⟨bf46, ivsf46, vnf46, nsf46, rf46, rfl, hnf46, hbf46, hff46, hLf46, hkf46⟩
         obtain ⟨hGf46, hrf46, hwf46, hlf46, hmf46, hwdf46, hatf46⟩ := hff46.good hGf42 (by omega) ⟨by omega, by omega⟩
         have hFf46 := hff46.first2 hFf42 (by omega)
         have ownz49 := hLf46.own
         have hxz49 := hLf46.hx
         rcases hLf46.nodes with ⟨-, hz, -⟩ | hnz49
         · exfalso; (try subst hz); simp at *; try omega
         have hvnz49 := hnz49.v; have hlenz49 := hnz49.len; have hltz49 := hnz49.lt; have hnez49 := hnz49.ne; have hgez49 := hnz49.ge
         subst hvnz49
         refine m1 ds (r_nil (k_reg (rO (o_mov (eV (z4 (z8 (z8 (z8 (z8 (z8 (z8 (z8 (z8 q3))))))))))) (m1 (z1 (z2 (z8 ds))) (m1 (z4 (z8 ds)) (m1 (z1 (z2 (z8 (z8 (z8 ds))))) (r_call (w_callF (evs_cons (eV (z1 ds)) (evs_cons eZ evs_nil))) rfl (WF.mono (binary_ok (((13 + r40 % 14 : Nat) : Int)) (((1 + r27 : Nat) : Int))) ?_))))))))
         rintro _ t50 n51 ⟨rb, rfl, hrb, hnbi, hkbi⟩
         refine m1 (z2 (z8 ds)) (m1 (z2 (z4 ds)) (r_heap (o_bslice (fill_cons (eV (z1 ds)) rfl rfl (fill_cons eZ rfl rfl fill_nil))) rfl (fun t52 (hh53 : hv t52 = upd (hv t50) n51 (some (.row [(.int .i64 ((rf42 : Nat) : Int)), (.int .i64 ((rf46 : Nat) : Int))] true))) => rO (o_build (fill_cons ev_c rfl rfl (fill_cons (eV (z2 (z4 ds))) rfl rfl (fill_cons (eV (z1 (z2 ds))) rfl rfl (fill_cons eZ rfl rfl fill_nil))))) ?_)))
         have hwp := (hwdf46 rf42 (by omega) (by omega)).trans hwf42
         have hrw : rb = 1 ∨ rb = ((1 + r27 : Nat) : Int) := by rcases hrb with h_ | h_ <;> omega
         have hok : ndOK ([(rf42 : Int), (rf46 : Int)].map (wdN nsf46)) (⟨3, ((13 + r40 % 14 : Nat) : Int), rb, [(rf42 : Int), (rf46 : Int)], [], 0, 0, 0⟩ : Nd) := by
           show ndOK [wdN nsf46 (rf42 : Int), wdN nsf46 (rf46 : Int)] _
           rw [hwp, hwf46]
           exact ok_bin (by omega) (by omega) hrb
         have hGn : NetG (nsf46 ++ [(⟨3, ((13 + r40 % 14 : Nat) : Int), rb, [(rf42 : Int), (rf46 : Int)], [], 0, 0, 0⟩ : Nd)]) := hGf46.add _ ⟨by show (1 : Int) ≤ rb; omega, by show rb ≤ (256 : Int); omega⟩ (by show ∀ k ∈ ([(rf42 : Int), (rf46 : Int)] : List Int), 0 ≤ k ∧ k < (nsf46.length : Int); simp only [List.mem_cons, List.not_mem_nil, or_false, forall_eq_or_imp, forall_eq]; first | omega | (intro k hk; cases hk)) hok (fun e => absurd (show (3 : Int) = 2 from e) (by decide))
         refine r_call (w_callF (evs_cons (eV (z8 ds)) (evs_cons eZ evs_nil))) rfl (WF.mono (adds_ok (lo := nx + 1) (x := nx + 1) (c := c) (⟨3, ((13 + r40 % 14 : Nat) : Int), rb, [(rf42 : Int), (rf46 : Int)], [], 0, 0, 0⟩ : Nd) (.slice n51 0 2 2 1 true) (hLf46.keep (hi' := (n51 + 1)) (kU (Keep.trans kR hkbi (by omega) (by rintro d hd (e | e) <;> omega)) hh53) (by omega)) (by omega) (by omega) (.inr ⟨n51, true, rfl, (lS hh53), by omega, by omega, by omega, by omega, by omega⟩) (by first | omega | simp) (by omega) (fun e => ne_nil (by omega) e)) ?_)
         rintro _ t55 n56 ⟨ba54, vna54, rfl, hba54, hca54, hLa54, hka54⟩
         refine r_nil (k_reg (rO (o_mov (eV (z2 (z4 (z8 (z8 (z8 (z8 (z8 (z8 (z8 (z8 (z8 q4))))))))))))) (rO (o_add eZ ev_c (by omega) (by omega)) (m1 ds (r_nil ?_)))))
         exact ⟨mm - 1, by omega, i + 1, ba54, (nsf46 ++ [(⟨3, ((13 + r40 % 14 : Nat) : Int), rb, [(rf42 : Int), (rf46 : Int)], [], 0, 0, 0⟩ : Nd)]), (ivsf46 ++ [(.slice n51 0 2 2 1 true)]), _, hLa54, hGn, (hFf46).app (by omega), by simp only [List.length_append, List.length_cons, List.length_nil]; omega, by simp only [List.length_append, List.length_cons, List.length_nil]; omega, by omega, (z1 (z8 (z8 (z8 (z8 (z8 (z8 (z8 (z8 (z8 (z8 q0))))))))))), (z1 (z8 (z8 (z8 (z8 (z8 (z8 (z8 (z8 (z8 (z8 q2))))))))))), (z1 (z8 (z8 (z8 (z8 (z8 (z8 (z8 (z8 (z8 (z8 q3))))))))))), ds, (Keep.look hka54 (by omega) (by rintro (e | e) <;> omega) (lN hh53 (Keep.look hkbi (by omega) id (Keep.look hkf46 (by omega) (by rintro (e | e) <;> omega) (Keep.look hkf42 (by omega) (by rintro (e | e) <;> omega) (lN hh20 (lN hh18 hres))))))), Keep.trans (kU (Keep.trans (Keep.trans (Keep.trans (kU (kU (hkp) hh18) hh20) hkf42 (by omega) (by rintro d hd (e | e) <;> omega)) hkf46 (by omega) (by rintro d hd (e | e) <;> omega)) hkbi (by omega) (fun d _ h => h)) hh53) hka54 (by omega) (by rintro d hd (e | e) <;> omega), by omega, by omega, by omega⟩
       refine k_reg (rO (o_eql (eV (z4 ds)) ev_c) (m1 ds (r_nil ?_)))
       refine k_if eZ (fun hc57 => ?_) (fun hc57 => ?_)
       · refine k_seq (k_reg (rO (o_faddr (off := 3) (eV (z1 (z8 (z8 (z8 (z8 (z8 ds)))))))) (rO (o_load eZ (lS hh20) rfl) (r_ex (o_and (m := 65535) eZ ev_c (by decide)) rfl ?_))))
         rintro _ ⟨r58, rfl, hr59⟩
         refine rO (o_rem (a := r58) (n := 14) eZ ev_c (by omega)) (rO (o_addN (a := 13) (b := r58 % 14) ev_c eZ (by omega)) (m1 ds (r_nil (k_seq (k_reg (rO (o_mov (eV (z4 (z8 (z8 (z8 (z8 (z8 (z8 (z8 q3)))))))))) (m1 (z8 (z8 (z8 ds))) (m1 (z2 (z8 (z8 ds))) (r_call (w_callF (evs_cons (eV (z2 ds)) (evs_cons (eV (z1 ds)) (evs_cons eZ evs_nil)))) rfl (WF.mono (fit_ok (lo := nx + 1) (x := nx + 1) (c := c) qa (((1 + r27 : Nat) : Int)) (hL.keep (hi' := (nv + 1)) (kU (kU kR hh18) hh20) (by omega)) (by omega) (by omega) (by omega) (by omega) (by omega)) ?_))))))))))
         rintro _ t61 n62 ⟨bf60, ivsf60, vnf60, nsf60, rf60, rfl, hnf60, hbf60, hff60, hLf60, hkf60⟩
         obtain ⟨hGf60, hrf60, hwf60, hlf60, hmf60, hwdf60, hatf60⟩ := hff60.good hG (by omega) ⟨by omega, by omega⟩
         have hFf60 := hff60.first2 hF (by omega)
         have ownz63 := hLf60.own
         have hxz63 := hLf60.hx
         rcases hLf60.nodes with ⟨-, hz, -⟩ | hnz63
         · exfalso; (try subst hz); simp at *; try omega
         have hvnz63 := hnz63.v; have hlenz63 := hnz63.len; have hltz63 := hnz63.lt; have hnez63 := hnz63.ne; have hgez63 := hnz63.ge
         subst hvnz63
         refine m1 ds (r_nil (k_seq (k_reg (rO (o_mov (eV (z1 (z8 (z8 (z8 (z8 (z8 (z8 (z8 (z8 q3))))))))))) (m1 (z4 (z8 (z8 (z8 ds)))) (m1 (z1 (z2 (z4 (z8 (z8 ds))))) (r_call (w_callF (evs_cons (eV (z2 ds)) (evs_cons (eV (z1 ds)) (evs_cons eZ evs_nil)))) rfl (WF.mono (fit_ok (lo := nx + 1) (x := nx + 1) (c := c) qb (((1 + r27 : Nat) : Int)) hLf60 (by omega) (by omega) (by omega) (by omega) (by omega)) ?_))))))))
         rintro _ t65 n66 ⟨bf64, ivsf64, vnf64, nsf64, rf64, rfl, hnf64, hbf64, hff64, hLf64, hkf64⟩
         obtain ⟨hGf64, hrf64, hwf64, hlf64, hmf64, hwdf64, hatf64⟩ := hff64.good hGf60 (by omega) ⟨by omega, by omega⟩
         have hFf64 := hff64.first2 hFf60 (by omega)
         have ownz67 := hLf64.own
         have hxz67 := hLf64.hx
         rcases hLf64.nodes with ⟨-, hz, -⟩ | hnz67
         · exfalso; (try subst hz); simp at *; try omega
         have hvnz67 := hnz67.v; have hlenz67 := hnz67.len; have hltz67 := hnz67.lt; have hnez67 := hnz67.ne; have hgez67 := hnz67.ge
         subst hvnz67
         refine m1 ds (r_nil (k_reg (rO (o_mov (eV (z2 (z4 (z8 (z8 (z8 (z8 (z8 (z8 (z8 (z8 q3)))))))))))) (m1 (z1 (z2 (z8 ds))) (m1 (z4 (z8 ds)) (m1 (z1 (z4 (z8 (z8 (z8 ds))))) (r_call (w_callF (evs_cons (eV (z1 ds)) (evs_cons eZ evs_nil))) rfl (WF.mono (binary_ok (((13 + r58 % 14 : Nat) : Int)) (((1 + r27 : Nat) : Int))) ?_))))))))
         rintro _ t68 n69 ⟨rb, rfl, hrb, hnbi, hkbi⟩
         refine m1 (z2 (z8 ds)) (m1 (z2 (z4 ds)) (r_heap (o_bslice (fill_cons (eV (z1 ds)) rfl rfl (fill_cons eZ rfl rfl fill_nil))) rfl (fun t70 (hh71 : hv t70 = upd (hv t68) n69 (some (.row [(.int .i64 ((rf60 : Nat) : Int)), (.int .i64 ((rf64 : Nat) : Int))] true))) => rO (o_build (fill_cons ev_c rfl rfl (fill_cons (eV (z2 (z4 ds))) rfl rfl (fill_cons (eV (z1 (z2 ds))) rfl rfl (fill_cons eZ rfl rfl fill_nil))))) ?_)))
         have hwp := (hwdf64 rf60 (by omega) (by omega)).trans hwf60
         have hrw : rb = 1 ∨ rb = ((1 + r27 : Nat) : Int) := by rcases hrb with h_ | h_ <;> omega
         have hok : ndOK ([(rf60 : Int), (rf64 : Int)].map (wdN nsf64)) (⟨3, ((13 + r58 % 14 : Nat) : Int), rb, [(rf60 : Int), (rf64 : Int)], [], 0, 0, 0⟩ : Nd) := by
           show ndOK [wdN nsf64 (rf60 : Int), wdN nsf64 (rf64 : Int)] _
           rw [hwp, hwf64]
           exact ok_bin (by omega) (by omega) hrb
         have hGn : NetG (nsf64 ++ [(⟨3, ((13 + r58 % 14 : Nat) : Int), rb, [(rf60 : Int), (rf64 : Int)], [], 0, 0, 0⟩ : Nd)]) := hGf64.add _ ⟨by show (1 : Int) ≤ rb; omega, by show rb ≤ (256 : Int); omega⟩ (by show ∀ k ∈ ([(rf60 : Int), (rf64 : Int)] : List Int), 0 ≤ k ∧ k < (nsf64.length : Int); simp only [List.mem_cons, List.not_mem_nil, or_false, forall_eq_or_imp, forall_eq]; first | omega | (intro k hk; cases hk)) hok (fun e => absurd (show (3 : Int) = 2 from e) (by decide))
         refine r_call (w_callF (evs_cons (eV (z8 ds)) (evs_cons eZ evs_nil))) rfl (WF.mono (adds_ok (lo := nx + 1) (x := nx + 1) (c := c) (⟨3, ((13 + r58 % 14 : Nat) : Int), rb, [(rf60 : Int), (rf64 : Int)], [], 0, 0, 0⟩ : Nd) (.slice n69 0 2 2 1 true) (hLf64.keep (hi' := (n69 + 1)) (kU (Keep.trans kR hkbi (by omega) (by rintro d hd (e | e) <;> omega)) hh71) (by omega)) (by omega) (by omega) (.inr ⟨n69, true, rfl, (lS hh71), by omega, by omega, by omega, by omega, by omega⟩) (by first | omega | simp) (by omega) (fun e => ne_nil (by omega) e)) ?_)
         rintro _ t73 n74 ⟨ba72, vna72, rfl, hba72, hca72, hLa72, hka72⟩
         refine r_nil (k_reg (rO (o_mov (eV (z8 (z8 (z8 (z8 (z8 (z8 (z8 (z8 (z8 (z8 q4)))))))))))) (rO (o_add eZ ev_c (by omega) (by omega)) (m1 ds (r_nil ?_)))))
         exact ⟨mm - 1, by omega, i + 1, ba72, (nsf64 ++ [(⟨3, ((13 + r58 % 14 : Nat) : Int), rb, [(rf60 : Int), (rf64 : Int)], [], 0, 0, 0⟩ : Nd)]), (ivsf64 ++ [(.slice n69 0 2 2 1 true)]), _, hLa72, hGn, (hFf64).app (by omega), by simp only [List.length_append, List.length_cons, List.length_nil]; omega, by simp only [List.length_append, List.length_cons, List.length_nil]; omega, by omega, (z1 (z2 (z8 (z8 (z8 (z8 (z8 (z8 (z8 (z8 (z8 (z8 q0)))))))))))), (z1 (z2 (z8 (z8 (z8 (z8 (z8 (z8 (z8 (z8 (z8 (z8 q2)))))))))))), (z1 (z2 (z8 (z8 (z8 (z8 (z8 (z8 (z8 (z8 (z8 (z8 q3)))))))))))), ds, (Keep.look hka72 (by omega) (by rintro (e | e) <;> omega) (lN hh71 (Keep.look hkbi (by omega) id (Keep.look hkf64 (by omega) (by rintro (e | e) <;> omega) (Keep.look hkf60 (by omega) (by rintro (e | e) <;> omega) (lN hh20 (lN hh18 hres))))))), Keep.trans (kU (Keep.trans (Keep.trans (Keep.trans (kU (kU (hkp) hh18) hh20) hkf60 (by omega) (by rintro d hd (e | e) <;> omega)) hkf64 (by omega) (by rintro d hd (e | e) <;> omega)) hkbi (by omega) (fun d _ h => h)) hh71) hka72 (by omega) (by rintro d hd (e | e) <;> omega), by omega, by omega, by omega⟩
       refine k_seq (k_reg (rO (o_eql (eV (z2 (z4 ds))) ev_c) (m1 ds (r_nil ?_))))
       refine k_if eZ (fun hc75 => ?_) (fun hc75 => ?_)
       · refine k_seq (k_reg (rO (o_faddr (off := 3) (eV (z1 (z2 (z8 (z8 (z8 (z8 (z8 ds))))))))) (rO (o_load eZ (lS hh20) rfl) (r_ex (o_and (m := 65535) eZ ev_c (by decide)) rfl ?_))))
         rintro _ ⟨r76, rfl, hr77⟩
         refine rO (o_rem (a := r76) (n := 6) eZ ev_c (by omega)) (rO (o_addN (a := 7) (b := r76 % 6) ev_c eZ (by omega)) (m1 ds (r_nil (k_seq (k_reg (rO (o_mov (eV (z2 (z4 (z8 (z8 (z8 (z8 (z8 (z8 (z8 q3))))))))))) (rO (o_nilck eZ) (rO (o_faddr (off := 0) eZ) (rO (o_faddr (off := 0) eZ) (rO (o_load eZ (lN hh20 (lN hh18 ownz16)) rfl) (m1 (z2 (z4 (z8 (z8 (z8 ds))))) (rO (o_iaddr (i := qa) (eV (z1 ds)) eZ (by omega)) (rO (o_faddr (off := 2) eZ) ?_)))))))))))))
         obtain ⟨xa, hxa⟩ := some_at hqa
         obtain ⟨ja, hja⟩ := some_at (l := ivs) (i := qa) (by omega)
         have hwxa := wdN_at hxa
         have hwb := (hG qa xa hxa).wide
         refine rO (o_load eZ (lN hh20 (lN hh18 hnz16.row)) (at_node (j := 2) hxa hja (by decide) (by omega) rfl)) (m1 ds (r_nil (k_seq (k_seq ?_))))
         by_cases h7 : 7 + r76 % 6 = 7
         · refine k_reg (m1 (z2 (z8 ds)) (rO (ndec_f (o_neq eZ ev_c) (by omega)) (m1 ds (r_off (wN ds) (r_off (wN (z1 ds)) (rO (o_pick_f (eV (z2 ds)) ev_c) (r_nil (k_cond_f eZ (k_skip (k_reg (rO (o_mov (eV (z2 (z4 (z8 (z8 (z8 (z8 (z8 (z8 (z8 (z8 (z8 q3))))))))))))) (m1 (z1 (z8 (z8 ds))) (m1 (z8 ds) (rO (o_mov (eV (z4 (z8 (z8 (z8 (z8 (z8 ds)))))))) (r_heap (o_bslice (fill_cons eZ rfl rfl fill_nil)) rfl (fun t78 (hh79 : hv t78 = upd (hv t19) (nv + 1) (some (.row [(.int .i64 ((qa : Nat) : Int))] true))) => rO (o_build (fill_cons ev_c rfl rfl (fill_cons (eV (z1 (z2 ds))) rfl rfl (fill_cons (eV (z2 ds)) rfl rfl (fill_cons eZ rfl rfl fill_nil))))) ?_))))))))))))))))
           have hok : ndOK ([(qa : Int)].map (wdN ns)) (⟨3, ((7 + r76 % 6 : Nat) : Int), xa.wide, [(qa : Int)], [], 0, 0, 0⟩ : Nd) := by
             show ndOK [wdN ns (qa : Int)] _
             rw [hwxa]
             exact ok_un (by omega) (by omega) (by omega)
           have hGn : NetG (ns ++ [(⟨3, ((7 + r76 % 6 : Nat) : Int), xa.wide, [(qa : Int)], [], 0, 0, 0⟩ : Nd)]) := hG.add _ ⟨by show (1 : Int) ≤ xa.wide; omega, by show xa.wide ≤ (256 : Int); omega⟩ (by show ∀ k ∈ ([(qa : Int)] : List Int), 0 ≤ k ∧ k < (ns.length : Int); simp only [List.mem_cons, List.not_mem_nil, or_false, forall_eq_or_imp, forall_eq]; first | omega | (intro k hk; cases hk)) hok (fun e => absurd (show (3 : Int) = 2 from e) (by decide))
           refine r_call (w_callF (evs_cons (eV (z1 (z4 ds))) (evs_cons eZ evs_nil))) rfl (WF.mono (adds_ok (lo := nx + 1) (x := nx + 1) (c := c) (⟨3, ((7 + r76 % 6 : Nat) : Int), xa.wide, [(qa : Int)], [], 0, 0, 0⟩ : Nd) (.slice (nv + 1) 0 1 1 1 true) (hL.keep (hi' := ((nv + 1) + 1)) (kU (kU (kU kR hh18) hh20) hh79) (by omega)) (by omega) (by omega) (.inr ⟨(nv + 1), true, rfl, (lS hh79), by omega, by omega, by omega, by omega, by omega⟩) (by first | omega | simp) (by omega) (fun e => ne_nil (by omega) e)) ?_)
           rintro _ t81 n82 ⟨ba80, vna80, rfl, hba80, hca80, hLa80, hka80⟩
           refine r_nil (k_reg (rO (o_mov (eV (z1 (z4 (z8 (z8 (z8 (z8 (z8 (z8 (z8 (z8 (z8 (z8 q4)))))))))))))) (rO (o_add eZ ev_c (by omega) (by omega)) (m1 ds (r_nil ?_)))))
           exact ⟨mm - 1, by omega, i + 1, ba80, (ns ++ [(⟨3, ((7 + r76 % 6 : Nat) : Int), xa.wide, [(qa : Int)], [], 0, 0, 0⟩ : Nd)]), (ivs ++ [(.slice (nv + 1) 0 1 1 1 true)]), _, hLa80, hGn, (hF).app (by omega), by simp only [List.length_append, List.length_cons, List.length_nil]; omega, by simp only [List.length_append, List.length_cons, List.length_nil]; omega, by omega, (z8 (z8 (z8 (z8 (z8 (z8 (z8 (z8 (z8 (z8 (z8 q0))))))))))), (z8 (z8 (z8 (z8 (z8 (z8 (z8 (z8 (z8 (z8 (z8 q2))))))))))), (z8 (z8 (z8 (z8 (z8 (z8 (z8 (z8 (z8 (z8 (z8 q3))))))))))), ds, (Keep.look hka80 (by omega) (by rintro (e | e) <;> omega) (lN hh79 (lN hh20 (lN hh18 hres)))), Keep.trans (kU (kU (kU (hkp) hh18) hh20) hh79) hka80 (by omega) (by rintro d hd (e | e) <;> omega), by omega, by omega, by omega⟩
         by_cases h9 : 7 + r76 % 6 = 9
         · refine k_reg (m1 (z2 (z8 ds)) (rO (ndec_t (o_neq eZ ev_c) (by omega)) (m1 ds (r_op (o_mov (eV (z1 (z4 (z8 ds))))) (want_on ds) (r_op (ndec_f (o_neq eZ ev_c) (by omega)) (want_on (z1 ds)) (rO (o_pick_t (eV (z2 ds)) eZ) (r_nil (k_cond_f eZ (k_skip (k_reg (rO (o_mov (eV (z2 (z4 (z8 (z8 (z8 (z8 (z8 (z8 (z8 (z8 (z8 q3))))))))))))) (m1 (z1 (z8 (z8 ds))) (m1 (z8 ds) (rO (o_mov (eV (z4 (z8 (z8 (z8 (z8 (z8 ds)))))))) (r_heap (o_bslice (fill_cons eZ rfl rfl fill_nil)) rfl (fun t83 (hh84 : hv t83 = upd (hv t19) (nv + 1) (some (.row [(.int .i64 ((qa : Nat) : Int))] true))) => rO (o_build (fill_cons ev_c rfl rfl (fill_cons (eV (z1 (z2 ds))) rfl rfl (fill_cons (eV (z2 ds)) rfl rfl (fill_cons eZ rfl rfl fill_nil))))) ?_))))))))))))))))
           have hok : ndOK ([(qa : Int)].map (wdN ns)) (⟨3, ((7 + r76 % 6 : Nat) : Int), xa.wide, [(qa : Int)], [], 0, 0, 0⟩ : Nd) := by
             show ndOK [wdN ns (qa : Int)] _
             rw [hwxa]
             exact ok_un (by omega) (by omega) (by omega)
           have hGn : NetG (ns ++ [(⟨3, ((7 + r76 % 6 : Nat) : Int), xa.wide, [(qa : Int)], [], 0, 0, 0⟩ : Nd)]) := hG.add _ ⟨by show (1 : Int) ≤ xa.wide; omega, by show xa.wide ≤ (256 : Int); omega⟩ (by show ∀ k ∈ ([(qa : Int)] : List Int), 0 ≤ k ∧ k < (ns.length : Int); simp only [List.mem_cons, List.not_mem_nil, or_false, forall_eq_or_imp, forall_eq]; first | omega | (intro k hk; cases hk)) hok (fun e => absurd (show (3 : Int) = 2 from e) (by decide))
           refine r_call (w_callF (evs_cons (eV (z1 (z4 ds))) (evs_cons eZ evs_nil))) rfl (WF.mono (adds_ok (lo := nx + 1) (x := nx + 1) (c := c) (⟨3, ((7 + r76 % 6 : Nat) : Int), xa.wide, [(qa : Int)], [], 0, 0, 0⟩ : Nd) (.slice (nv + 1) 0 1 1 1 true) (hL.keep (hi' := ((nv + 1) + 1)) (kU (kU (kU kR hh18) hh20) hh84) (by omega)) (by omega) (by omega) (.inr ⟨(nv + 1), true, rfl, (lS hh84), by omega, by omega, by omega, by omega, by omega⟩) (by first | omega | simp) (by omega) (fun e => ne_nil (by omega) e)) ?_)
           rintro _ t86 n87 ⟨ba85, vna85, rfl, hba85, hca85, hLa85, hka85⟩
           refine r_nil (k_reg (rO (o_mov (eV (z1 (z4 (z8 (z8 (z8 (z8 (z8 (z8 (z8 (z8 (z8 (z8 q4)))))))))))))) (rO (o_add eZ ev_c (by omega) (by omega)) (m1 ds (r_nil ?_)))))
           exact ⟨mm - 1, by omega, i + 1, ba85, (ns ++ [(⟨3, ((7 + r76 % 6 : Nat) : Int), xa.wide, [(qa : Int)], [], 0, 0, 0⟩ : Nd)]), (ivs ++ [(.slice (nv + 1) 0 1 1 1 true)]), _, hLa85, hGn, (hF).app (by omega), by simp only [List.length_append, List.length_cons, List.length_nil]; omega, by simp only [List.length_append, List.length_cons, List.length_nil]; omega, by omega, (z8 (z8 (z8 (z8 (z8 (z8 (z8 (z8 (z8 (z8 (z8 q0))))))))))), (z8 (z8 (z8 (z8 (z8 (z8 (z8 (z8 (z8 (z8 (z8 q2))))))))))), (z8 (z8 (z8 (z8 (z8 (z8 (z8 (z8 (z8 (z8 (z8 q3))))))))))), ds, (Keep.look hka85 (by omega) (by rintro (e | e) <;> omega) (lN hh84 (lN hh20 (lN hh18 hres)))), Keep.trans (kU (kU (kU (hkp) hh18) hh20) hh84) hka85 (by omega) (by rintro d hd (e | e) <;> omega), by omega, by omega, by omega⟩
         refine k_reg (m1 (z2 (z8 ds)) (rO (ndec_t (o_neq eZ ev_c) (by omega)) (m1 ds (r_op (o_mov (eV (z1 (z4 (z8 ds))))) (want_on ds) (r_op (ndec_t (o_neq eZ ev_c) (by omega)) (want_on (z1 ds)) (rO (o_pick_t (eV (z2 ds)) eZ) (r_nil (k_cond_t eZ (k_reg (rO (o_mov ev_c) (r_nil (k_reg (rO (o_mov (eV (z1 (z2 (z4 (z8 (z8 (z8 (z8 (z8 (z8 (z8 (z8 (z8 q3)))))))))))))) (m1 (z2 (z8 (z8 ds))) (m1 (z2 ds) (rO (o_mov (eV (z1 (z4 (z8 (z8 (z8 (z8 (z8 ds))))))))) (r_heap (o_bslice (fill_cons eZ rfl rfl fill_nil)) rfl (fun t88 (hh89 : hv t88 = upd (hv t19) (nv + 1) (some (.row [(.int .i64 ((qa : Nat) : Int))] true))) => rO (o_build (fill_cons ev_c rfl rfl (fill_cons (eV (z1 (z2 ds))) rfl rfl (fill_cons (eV (z2 ds)) rfl rfl (fill_cons eZ rfl rfl fill_nil))))) ?_))))))))))))))))))
         have hok : ndOK ([(qa : Int)].map (wdN ns)) (⟨3, ((7 + r76 % 6 : Nat) : Int), 1, [(qa : Int)], [], 0, 0, 0⟩ : Nd) := by
           show ndOK [wdN ns (qa : Int)] _
           rw [hwxa]
           exact ok_un (by omega) (by omega) (by omega)
         have hGn : NetG (ns ++ [(⟨3, ((7 + r76 % 6 : Nat) : Int), 1, [(qa : Int)], [], 0, 0, 0⟩ : Nd)]) := hG.add _ ⟨by show (1 : Int) ≤ 1; omega, by show 1 ≤ (256 : Int); omega⟩ (by show ∀ k ∈ ([(qa : Int)] : List Int), 0 ≤ k ∧ k < (ns.length : Int); simp only [List.mem_cons, List.not_mem_nil, or_false, forall_eq_or_imp, forall_eq]; first | omega | (intro k hk; cases hk)) hok (fun e => absurd (show (3 : Int) = 2 from e) (by decide))
         refine r_call (w_callF (evs_cons (eV (z1 (z4 ds))) (evs_cons eZ evs_nil))) rfl (WF.mono (adds_ok (lo := nx + 1) (x := nx + 1) (c := c) (⟨3, ((7 + r76 % 6 : Nat) : Int), 1, [(qa : Int)], [], 0, 0, 0⟩ : Nd) (.slice (nv + 1) 0 1 1 1 true) (hL.keep (hi' := ((nv + 1) + 1)) (kU (kU (kU kR hh18) hh20) hh89) (by omega)) (by omega) (by omega) (.inr ⟨(nv + 1), true, rfl, (lS hh89), by omega, by omega, by omega, by omega, by omega⟩) (by first | omega | simp) (by omega) (fun e => ne_nil (by omega) e)) ?_)
         rintro _ t91 n92 ⟨ba90, vna90, rfl, hba90, hca90, hLa90, hka90⟩
         refine r_nil (k_reg (rO (o_mov (eV (z2 (z4 (z8 (z8 (z8 (z8 (z8 (z8 (z8 (z8 (z8 (z8 q4)))))))))))))) (rO (o_add eZ ev_c (by omega) (by omega)) (m1 ds (r_nil ?_)))))
         exact ⟨mm - 1, by omega, i + 1, ba90, (ns ++ [(⟨3, ((7 + r76 % 6 : Nat) : Int), 1, [(qa : Int)], [], 0, 0, 0⟩ : Nd)]), (ivs ++ [(.slice (nv + 1) 0 1 1 1 true)]), _, hLa90, hGn, (hF).app (by omega), by simp only [List.length_append, List.length_cons, List.length_nil]; omega, by simp only [List.length_append, List.length_cons, List.length_nil]; omega, by omega, (z1 (z8 (z8 (z8 (z8 (z8 (z8 (z8 (z8 (z8 (z8 (z8 q0)))))))))))), (z1 (z8 (z8 (z8 (z8 (z8 (z8 (z8 (z8 (z8 (z8 (z8 q2)))))))))))), (z1 (z8 (z8 (z8 (z8 (z8 (z8 (z8 (z8 (z8 (z8 (z8 q3)))))))))))), ds, (Keep.look hka90 (by omega) (by rintro (e | e) <;> omega) (lN hh89 (lN hh20 (lN hh18 hres)))), Keep.trans (kU (kU (kU (hkp) hh18) hh20) hh89) hka90 (by omega) (by rintro d hd (e | e) <;> omega), by omega, by omega, by omega⟩
       refine k_seq (k_reg (rO (o_eql (eV (z8 ds)) ev_c) (m1 ds (r_nil ?_))))
       refine k_if eZ (fun hc93 => ?_) (fun hc93 => ?_)
       · refine k_seq (k_reg (rO (o_mov (eV (z2 (z8 (z8 (z8 (z8 (z8 (z8 (z8 q3)))))))))) (m1 (z2 (z4 (z8 (z8 ds)))) (m1 (z8 (z8 ds)) (r_call (w_callF (evs_cons (eV (z2 ds)) (evs_cons (eV (z1 ds)) (evs_cons eZ evs_nil)))) rfl (WF.mono (fit_ok (lo := nx + 1) (x := nx + 1) (c := c) qa (((1 + r27 : Nat) : Int)) (hL.keep (hi' := (nv + 1)) (kU (kU kR hh18) hh20) (by omega)) (by omega) (by omega) (by omega) (by omega) (by omega)) ?_))))))
         rintro _ t95 n96 ⟨bf94, ivsf94, vnf94, nsf94, rf94, rfl, hnf94, hbf94, hff94, hLf94, hkf94⟩
         obtain ⟨hGf94, hrf94, hwf94, hlf94, hmf94, hwdf94, hatf94⟩ := hff94.good hG (by omega) ⟨by omega, by omega⟩
         have hFf94 := hff94.first2 hF (by omega)
         have ownz97 := hLf94.own
         have hxz97 := hLf94.hx
         rcases hLf94.nodes with ⟨-, hz, -⟩ | hnz97
         · exfalso; (try subst hz); simp at *; try omega
         have hvnz97 := hnz97.v; have hlenz97 := hnz97.len; have hltz97 := hnz97.lt; have hnez97 := hnz97.ne; have hgez97 := hnz97.ge
         subst hvnz97
         refine m1 ds (r_nil (k_seq (k_reg (rO (o_mov (eV (z1 (z2 (z4 (z8 (z8 (z8 (z8 (z8 (z8 (z8 q3)))))))))))) (m1 (z2 (z8 (z8 (z8 ds)))) (m1 (z1 (z4 (z8 (z8 ds)))) (r_call (w_callF (evs_cons (eV (z2 ds)) (evs_cons (eV (z1 ds)) (evs_cons eZ evs_nil)))) rfl (WF.mono (fit_ok (lo := nx + 1) (x := nx + 1) (c := c) qb (((1 + r27 : Nat) : Int)) hLf94 (by omega) (by omega) (by omega) (by omega) (by omega)) ?_))))))))
         rintro _ t99 n100 ⟨bf98, ivsf98, vnf98, nsf98, rf98, rfl, hnf98, hbf98, hff98, hLf98, hkf98⟩
         obtain ⟨hGf98, hrf98, hwf98, hlf98, hmf98, hwdf98, hatf98⟩ := hff98.good hGf94 (by omega) ⟨by omega, by omega⟩
         have hFf98 := hff98.first2 hFf94 (by omega)
         have ownz101 := hLf98.own
         have hxz101 := hLf98.hx
         rcases hLf98.nodes with ⟨-, hz, -⟩ | hnz101
         · exfalso; (try subst hz); simp at *; try omega
         have hvnz101 := hnz101.v; have hlenz101 := hnz101.len; have hltz101 := hnz101.lt; have hnez101 := hnz101.ne; have hgez101 := hnz101.ge
         subst hvnz101
         refine m1 ds (r_nil (k_seq (k_reg (rO (o_faddr (off := 4) (eV (z1 (z2 (z4 (z8 (z8 (z8 (z8 (z8 (z8 ds))))))))))) (rO (o_load eZ (Keep.look hkf98 (by omega) (by rintro (e | e) <;> omega) (Keep.look hkf94 (by omega) (by rintro (e | e) <;> omega) (lS hh20))) rfl) (r_ex (o_and (m := 8) eZ ev_c (by decide)) rfl ?_))))))
         rintro _ ⟨r102, rfl, hr103⟩
         refine rO (o_eql eZ ev_c) (r_nil ?_)
         refine k_if eZ (fun hc104 => ?_) (fun hc104 => ?_)
         · refine k_reg (rO (o_mov (eV (z8 (z8 (z8 (z8 (z8 (z8 (z8 (z8 (z8 q3))))))))))) (m1 (z1 (z4 (z8 (z8 (z8 ds))))) (rO (o_mov (eV (z1 (z2 (z8 (z8 (z8 (z8 ds)))))))) (m1 (z4 (z8 ds)) (m1 (z8 ds) (r_heap (o_bslice (fill_cons (eV (z2 ds)) rfl rfl (fill_cons (eV (z1 ds)) rfl rfl (fill_cons eZ rfl rfl fill_nil)))) rfl (fun t105 (hh106 : hv t105 = upd (hv t99) n100 (some (.row [(.int .i64 ((qc : Nat) : Int)), (.int .i64 ((rf94 : Nat) : Int)), (.int .i64 ((rf98 : Nat) : Int))] true))) => rO (o_build (fill_cons ev_c rfl rfl (fill_cons (eV (z4 ds)) rfl rfl (fill_cons eZ rfl rfl fill_nil)))) ?_)))))))
           have hwp := (hwdf98 rf94 (by omega) (by omega)).trans hwf94
           have hok : ndOK ([(qc : Int), (rf94 : Int), (rf98 : Int)].map (wdN nsf98)) (⟨4, 0, ((1 + r27 : Nat) : Int), [(qc : Int), (rf94 : Int), (rf98 : Int)], [], 0, 0, 0⟩ : Nd) := by
             show ndOK [wdN nsf98 (qc : Int), wdN nsf98 (rf94 : Int), wdN nsf98 (rf98 : Int)] _
             rw [hwp, hwf98]
             exact ok_choose
           have hGn : NetG (nsf98 ++ [(⟨4, 0, ((1 + r27 : Nat) : Int), [(qc : Int), (rf94 : Int), (rf98 : Int)], [], 0, 0, 0⟩ : Nd)]) := hGf98.add _ ⟨by show (1 : Int) ≤ ((1 + r27 : Nat) : Int); omega, by show ((1 + r27 : Nat) : Int) ≤ (256 : Int); omega⟩ (by show ∀ k ∈ ([(qc : Int), (rf94 : Int), (rf98 : Int)] : List Int), 0 ≤ k ∧ k < (nsf98.length : Int); simp only [List.mem_cons, List.not_mem_nil, or_false, forall_eq_or_imp, forall_eq]; first | omega | (intro k hk; cases hk)) hok (fun e => absurd (show (4 : Int) = 2 from e) (by decide))
           refine r_call (w_callF (evs_cons (eV (z2 (z4 ds))) (evs_cons eZ evs_nil))) rfl (WF.mono (adds_ok (lo := nx + 1) (x := nx + 1) (c := c) (⟨4, 0, ((1 + r27 : Nat) : Int), [(qc : Int), (rf94 : Int), (rf98 : Int)], [], 0, 0, 0⟩ : Nd) (.slice n100 0 3 3 1 true) (hLf98.keep (hi' := (n100 + 1)) (kU kR hh106) (by omega)) (by omega) (by omega) (.inr ⟨n100, true, rfl, (lS hh106), by omega, by omega, by omega, by omega, by omega⟩) (by first | omega | simp) (by omega) (fun e => ne_nil (by omega) e)) ?_)
           rintro _ t108 n109 ⟨ba107, vna107, rfl, hba107, hca107, hLa107, hka107⟩
           refine r_nil (k_reg (rO (o_mov (eV (z8 (z8 (z8 (z8 (z8 (z8 (z8 (z8 (z8 (z8 q4)))))))))))) (rO (o_add eZ ev_c (by omega) (by omega)) (m1 ds (r_nil ?_)))))
           exact ⟨mm - 1, by omega, i + 1, ba107, (nsf98 ++ [(⟨4, 0, ((1 + r27 : Nat) : Int), [(qc : Int), (rf94 : Int), (rf98 : Int)], [], 0, 0, 0⟩ : Nd)]), (ivsf98 ++ [(.slice n100 0 3 3 1 true)]), _, hLa107, hGn, (hFf98).app (by omega), by simp only [List.length_append, List.length_cons, List.length_nil]; omega, by simp only [List.length_append, List.length_cons, List.length_nil]; omega, by omega, (z1 (z2 (z8 (z8 (z8 (z8 (z8 (z8 (z8 (z8 (z8 (z8 q0)))))))))))), (z1 (z2 (z8 (z8 (z8 (z8 (z8 (z8 (z8 (z8 (z8 (z8 q2)))))))))))), (z1 (z2 (z8 (z8 (z8 (z8 (z8 (z8 (z8 (z8 (z8 (z8 q3)))))))))))), ds, (Keep.look hka107 (by omega) (by rintro (e | e) <;> omega) (lN hh106 (Keep.look hkf98 (by omega) (by rintro (e | e) <;> omega) (Keep.look hkf94 (by omega) (by rintro (e | e) <;> omega) (lN hh20 (lN hh18 hres)))))), Keep.trans (kU (Keep.trans (Keep.trans (kU (kU (hkp) hh18) hh20) hkf94 (by omega) (by rintro d hd (e | e) <;> omega)) hkf98 (by omega) (by rintro d hd (e | e) <;> omega)) hh106) hka107 (by omega) (by rintro d hd (e | e) <;> omega), by omega, by omega, by omega⟩
         refine k_reg (rO (o_mov (eV (z8 (z8 (z8 (z8 (z8 (z8 (z8 (z8 (z8 q3))))))))))) (m1 (z1 (z4 (z8 (z8 (z8 ds))))) (rO (o_mov (eV (z1 (z2 (z8 (z8 (z8 (z8 ds)))))))) (m1 (z4 (z8 ds)) (m1 (z8 ds) (r_heap (o_bslice (fill_cons (eV (z2 ds)) rfl rfl (fill_cons (eV (z1 ds)) rfl rfl (fill_cons eZ rfl rfl fill_nil)))) rfl (fun t110 (hh111 : hv t110 = upd (hv t99) n100 (some (.row [(.int .i64 ((qc : Nat) : Int)), (.int .i64 ((rf94 : Nat) : Int)), (.int .i64 ((rf98 : Nat) : Int))] true))) => rO (o_build (fill_cons ev_c rfl rfl (fill_cons ev_c rfl rfl (fill_cons (eV (z4 ds)) rfl rfl (fill_cons eZ rfl rfl fill_nil))))) ?_)))))))
         have hwp := (hwdf98 rf94 (by omega) (by omega)).trans hwf94
         have hok : ndOK ([(qc : Int), (rf94 : Int), (rf98 : Int)].map (wdN nsf98)) (⟨3, 6, ((1 + r27 : Nat) : Int), [(qc : Int), (rf94 : Int), (rf98 : Int)], [], 0, 0, 0⟩ : Nd) := by
           show ndOK [wdN nsf98 (qc : Int), wdN nsf98 (rf94 : Int), wdN nsf98 (rf98 : Int)] _
           rw [hwp, hwf98]
           exact ok_cond
         have hGn : NetG (nsf98 ++ [(⟨3, 6, ((1 + r27 : Nat) : Int), [(qc : Int), (rf94 : Int), (rf98 : Int)], [], 0, 0, 0⟩ : Nd)]) := hGf98.add _ ⟨by show (1 : Int) ≤ ((1 + r27 : Nat) : Int); omega, by show ((1 + r27 : Nat) : Int) ≤ (256 : Int); omega⟩ (by show ∀ k ∈ ([(qc : Int), (rf94 : Int), (rf98 : Int)] : List Int), 0 ≤ k ∧ k < (nsf98.length : Int); simp only [List.mem_cons, List.not_mem_nil, or_false, forall_eq_or_imp, forall_eq]; first | omega | (intro k hk; cases hk)) hok (fun e => absurd (show (3 : Int) = 2 from e) (by decide))
         refine r_call (w_callF (evs_cons (eV (z2 (z4 ds))) (evs_cons eZ evs_nil))) rfl (WF.mono (adds_ok (lo := nx + 1) (x := nx + 1) (c := c) (⟨3, 6, ((1 + r27 : Nat) : Int), [(qc : Int), (rf94 : Int), (rf98 : Int)], [], 0, 0, 0⟩ : Nd) (.slice n100 0 3 3 1 true) (hLf98.keep (hi' := (n100 + 1)) (kU kR hh111) (by omega)) (by omega) (by omega) (.inr ⟨n100, true, rfl, (lS hh111), by omega, by omega, by omega, by omega, by omega⟩) (by first | omega | simp) (by omega) (fun e => ne_nil (by omega) e)) ?_)
         rintro _ t113 n114 ⟨ba112, vna112, rfl, hba112, hca112, hLa112, hka112⟩
         refine r_nil (k_reg (rO (o_mov (eV (z8 (z8 (z8 (z8 (z8 (z8 (z8 (z8 (z8 (z8 q4)))))))))))) (rO (o_add eZ ev_c (by omega) (by omega)) (m1 ds (r_nil ?_)))))
         exact ⟨mm - 1, by omega, i + 1, ba112, (nsf98 ++ [(⟨3, 6, ((1 + r27 : Nat) : Int), [(qc : Int), (rf94 : Int), (rf98 : Int)], [], 0, 0, 0⟩ : Nd)]), (ivsf98 ++ [(.slice n100 0 3 3 1 true)]), _, hLa112, hGn, (hFf98).app (by omega), by simp only [List.length_append, List.length_cons, List.length_nil]; omega, by simp only [List.length_append, List.length_cons, List.length_nil]; omega, by omega, (z1 (z2 (z8 (z8 (z8 (z8 (z8 (z8 (z8 (z8 (z8 (z8 q0)))))))))))), (z1 (z2 (z8 (z8 (z8 (z8 (z8 (z8 (z8 (z8 (z8 (z8 q2)))))))))))), (z1 (z2 (z8 (z8 (z8 (z8 (z8 (z8 (z8 (z8 (z8 (z8 q3)))))))))))), ds, (Keep.look hka112 (by omega) (by rintro (e | e) <;> omega) (lN hh111 (Keep.look hkf98 (by omega) (by rintro (e | e) <;> omega) (Keep.look hkf94 (by omega) (by rintro (e | e) <;> omega) (lN hh20 (lN hh18 hres)))))), Keep.trans (kU (Keep.trans (Keep.trans (kU (kU (hkp) hh18) hh20) hkf94 (by omega) (by rintro d hd (e | e) <;> omega)) hkf98 (by omega) (by rintro d hd (e | e) <;> omega)) hh111) hka112 (by omega) (by rintro d hd (e | e) <;> omega), by omega, by omega, by omega⟩
       refine k_seq (k_reg (rO (o_eql (eV (z2 (z8 ds))) ev_c) (m1 ds (r_nil ?_))))
       refine k_if eZ (fun hc115 => ?_) (fun hc115 => ?_)
       · refine k_reg (rO (o_mov (eV (z4 (z8 (z8 (z8 (z8 (z8 (z8 (z8 q3)))))))))) (rO (o_mov (eV (z1 (z4 (z8 (z8 (z8 (z8 (z8 (z8 (z8 q3))))))))))) (m1 (z1 (z8 (z8 (z8 ds)))) (m1 (z1 (z2 (z8 (z8 ds)))) (r_call (w_callF (evs_cons (eV (z2 ds)) (evs_cons (eV (z1 ds)) (evs_cons eZ evs_nil)))) rfl (WF.mono (fit_ok (lo := nx + 1) (x := nx + 1) (c := c) qa (((1 + r27 : Nat) : Int)) (hL.keep (hi' := (nv + 1)) (kU (kU kR hh18) hh20) (by omega)) (by omega) (by omega) (by omega) (by omega) (by omega)) ?_))))))
         rintro _ t117 n118 ⟨bf116, ivsf116, vnf116, nsf116, rf116, rfl, hnf116, hbf116, hff116, hLf116, hkf116⟩
         obtain ⟨hGf116, hrf116, hwf116, hlf116, hmf116, hwdf116, hatf116⟩ := hff116.good hG (by omega) ⟨by omega, by omega⟩
         have hFf116 := hff116.first2 hF (by omega)
         have ownz119 := hLf116.own
         have hxz119 := hLf116.hx
         rcases hLf116.nodes with ⟨-, hz, -⟩ | hnz119
         · exfalso; (try subst hz); simp at *; try omega
         have hvnz119 := hnz119.v; have hlenz119 := hnz119.len; have hltz119 := hnz119.lt; have hnez119 := hnz119.ne; have hgez119 := hnz119.ge
         subst hvnz119
         refine rO (o_mov (eV (z1 (z8 (z8 (z8 (z8 (z8 (z8 (z8 (z8 q3))))))))))) (m1 (z4 (z8 (z8 (z8 ds)))) (m1 (z1 (z2 (z4 (z8 (z8 ds))))) (r_call (w_callF (evs_cons (eV (z2 ds)) (evs_cons (eV (z1 ds)) (evs_cons eZ evs_nil)))) rfl (WF.mono (fit_ok (lo := nx + 1) (x := nx + 1) (c := c) qb (((1 + r27 : Nat) : Int)) hLf116 (by omega) (by omega) (by omega) (by omega) (by omega)) ?_))))
         rintro _ t121 n122 ⟨bf120, ivsf120, vnf120, nsf120, rf120, rfl, hnf120, hbf120, hff120, hLf120, hkf120⟩
         obtain ⟨hGf120, hrf120, hwf120, hlf120, hmf120, hwdf120, hatf120⟩ := hff120.good hGf116 (by omega) ⟨by omega, by omega⟩
         have hFf120 := hff120.first2 hFf116 (by omega)
         have ownz123 := hLf120.own
         have hxz123 := hLf120.hx
         rcases hLf120.nodes with ⟨-, hz, -⟩ | hnz123
         · exfalso; (try subst hz); simp at *; try omega
         have hvnz123 := hnz123.v; have hlenz123 := hnz123.len; have hltz123 := hnz123.lt; have hnez123 := hnz123.ne; have hgez123 := hnz123.ge
         subst hvnz123
         refine r_heap (o_bslice (fill_cons (eV (z4 ds)) rfl rfl (fill_cons eZ rfl rfl fill_nil))) rfl (fun t124 (hh125 : hv t124 = upd (hv t121) n122 (some (.row [(.int .i64 ((rf116 : Nat) : Int)), (.int .i64 ((rf120 : Nat) : Int))] true))) => rO (o_build (fill_cons ev_c rfl rfl (fill_cons ev_c rfl rfl (fill_cons eZ rfl rfl fill_nil)))) ?_)
         have hwp := (hwdf120 rf116 (by omega) (by omega)).trans hwf116
         have hok : ndOK ([(rf116 : Int), (rf120 : Int)].map (wdN nsf120)) (⟨5, 0, 1, [(rf116 : Int), (rf120 : Int)], [], 0, 0, 0⟩ : Nd) := by
           show ndOK [wdN nsf120 (rf116 : Int), wdN nsf120 (rf120 : Int)] _
           rw [hwp, hwf120]
           exact ok_same
         have hGn : NetG (nsf120 ++ [(⟨5, 0, 1, [(rf116 : Int), (rf120 : Int)], [], 0, 0, 0⟩ : Nd)]) := hGf120.add _ ⟨by show (1 : Int) ≤ 1; omega, by show 1 ≤ (256 : Int); omega⟩ (by show ∀ k ∈ ([(rf116 : Int), (rf120 : Int)] : List Int), 0 ≤ k ∧ k < (nsf120.length : Int); simp only [List.mem_cons, List.not_mem_nil, or_false, forall_eq_or_imp, forall_eq]; first | omega | (intro k hk; cases hk)) hok (fun e => absurd (show (5 : Int) = 2 from e) (by decide))
         refine r_call (w_callF (evs_cons (eV (z2 (z8 ds))) (evs_cons eZ evs_nil))) rfl (WF.mono (adds_ok (lo := nx + 1) (x := nx + 1) (c := c) (⟨5, 0, 1, [(rf116 : Int), (rf120 : Int)], [], 0, 0, 0⟩ : Nd) (.slice n122 0 2 2 1 true) (hLf120.keep (hi' := (n122 + 1)) (kU kR hh125) (by omega)) (by omega) (by omega) (.inr ⟨n122, true, rfl, (lS hh125), by omega, by omega, by omega, by omega, by omega⟩) (by first | omega | simp) (by omega) (fun e => ne_nil (by omega) e)) ?_)
         rintro _ t127 n128 ⟨ba126, vna126, rfl, hba126, hca126, hLa126, hka126⟩
         refine r_nil (k_reg (rO (o_mov (eV (z8 (z8 (z8 (z8 (z8 (z8 (z8 (z8 (z8 q4))))))))))) (rO (o_add eZ ev_c (by omega) (by omega)) (m1 ds (r_nil ?_)))))
         exact ⟨mm - 1, by omega, i + 1, ba126, (nsf120 ++ [(⟨5, 0, 1, [(rf116 : Int), (rf120 : Int)], [], 0, 0, 0⟩ : Nd)]), (ivsf120 ++ [(.slice n122 0 2 2 1 true)]), _, hLa126, hGn, (hFf120).app (by omega), by simp only [List.length_append, List.length_cons, List.length_nil]; omega, by simp only [List.length_append, List.length_cons, List.length_nil]; omega, by omega, (z1 (z2 (z8 (z8 (z8 (z8 (z8 (z8 (z8 (z8 (z8 q0))))))))))), (z1 (z2 (z8 (z8 (z8 (z8 (z8 (z8 (z8 (z8 (z8 q2))))))))))), (z1 (z2 (z8 (z8 (z8 (z8 (z8 (z8 (z8 (z8 (z8 q3))))))))))), ds, (Keep.look hka126 (by omega) (by rintro (e | e) <;> omega) (lN hh125 (Keep.look hkf120 (by omega) (by rintro (e | e) <;> omega) (Keep.look hkf116 (by omega) (by rintro (e | e) <;> omega) (lN hh20 (lN hh18 hres)))))), Keep.trans (kU (Keep.trans (Keep.trans (kU (kU (hkp) hh18) hh20) hkf116 (by omega) (by rintro d hd (e | e) <;> omega)) hkf120 (by omega) (by rintro d hd (e | e) <;> omega)) hh125) hka126 (by omega) (by rintro d hd (e | e) <;> omega), by omega, by omega, by omega⟩
       refine k_seq (k_reg (rO (o_eql (eV (z4 (z8 ds))) ev_c) (m1 ds (r_nil ?_))))
       refine k_if eZ (fun hc129 => ?_) (fun hc129 => ?_)
       · refine k_seq (k_reg (rO (o_mov (eV (z2 (z4 (z8 (z8 (z8 (z8 (z8 (z8 (z8 q3))))))))))) (m1 (z2 (z8 (z8 (z8 ds)))) (m1 (z4 (z8 (z8 ds))) (r_call (w_callF (evs_cons (eV (z2 ds)) (evs_cons (eV (z1 ds)) (evs_cons eZ evs_nil)))) rfl (WF.mono (fit_ok (lo := nx + 1) (x := nx + 1) (c := c) qa (((1 + r27 : Nat) : Int)) (hL.keep (hi' := (nv + 1)) (kU (kU kR hh18) hh20) (by omega)) (by omega) (by omega) (by omega) (by omega) (by omega)) ?_))))))
         rintro _ t131 n132 ⟨bf130, ivsf130, vnf130, nsf130, rf130, rfl, hnf130, hbf130, hff130, hLf130, hkf130⟩
         obtain ⟨hGf130, hrf130, hwf130, hlf130, hmf130, hwdf130, hatf130⟩ := hff130.good hG (by omega) ⟨by omega, by omega⟩
         have hFf130 := hff130.first2 hF (by omega)
         have ownz133 := hLf130.own
         have hxz133 := hLf130.hx
         rcases hLf130.nodes with ⟨-, hz, -⟩ | hnz133
         · exfalso; (try subst hz); simp at *; try omega
         have hvnz133 := hnz133.v; have hlenz133 := hnz133.len; have hltz133 := hnz133.lt; have hnez133 := hnz133.ne; have hgez133 := hnz133.ge
         subst hvnz133
         refine m1 ds (r_nil (k_draw (eO 0 rfl (o_mov (eV (z1 (z2 (z8 (z8 (z8 (z8 (z8 (z8 (z8 (z8 q3)))))))))))) (eO 1 rfl (o_mov (eV (z8 (z8 (z8 ds))))) (eO 2 rfl (o_mov (eV (z1 (z4 (z8 (z8 (z8 (z8 (z8 (z8 (z8 (z8 q3)))))))))))) (eO 3 rfl (o_nilck eZ) (eO 4 rfl (o_faddr (off := 0) eZ) (eO 5 rfl (o_loadA (n := 3) eZ ownz133 (leb rfl) rfl) (eO 6 rfl (o_faddr (off := 3) (eV (z4 (z8 (z8 (z8 (z8 (z8 (z8 (z8 ds)))))))))) (eO 7 rfl (o_load eZ (Keep.look hkf130 (by omega) (by rintro (e | e) <;> omega) (lS hh20)) rfl) (eO 9 rfl (o_mov (eV (z8 ds))) (d_call (ix := 8) (pr := [5, 7]) (d := (some 245)) (g := none) (F' := [(⟨9, [], .mv 246 17⟩, (.int .i64 ((rf130 : Nat) : Int))), (⟨1, [], .mv 238 10⟩, (.int .i64 ((1 + r27 : Nat) : Int))), (⟨0, [], .mv 237 3⟩, (.ptr (nx + 1) 0))]) (w_callF (evs_cons (eV (z1 (z2 ds))) (evs_cons (eV (z1 ds)) evs_nil))) rfl (by kernel_rfl) (by kernel_rfl) (by kernel_rfl) (by kernel_rfl) (WF.mono (clock_ok bf130 nsf130.length nsf130.length 8 false (.slice c 0 2 2 1 true) 0 gd (by omega) rfl) ?_)))))))))))))
         rintro _ t134 n135 ⟨rc, rfl, hrc, hncl, hkcl⟩
         refine ⟨?_, ?_⟩
         · exact (all_cons_ (still_op rfl rfl (o_mov (eV (z2 (z8 ds)))) (aeq_flat rfl)) (all_cons_ (still_op rfl rfl (o_mov (eV (z1 (z8 (z8 (z8 (z8 ds))))))) (aeq_flat rfl)) (all_cons_ (still_op rfl rfl (o_mov (eV (z1 (z4 (z8 (z8 (z8 (z8 (z8 (z8 (z8 (z8 (z8 q3))))))))))))) (aeq_flat rfl)) all_nil_)))
         refine d_heap (ix := 10) (pr := [8, 9]) (d := (some 247)) (g := none) (F' := [(⟨1, [], .mv 238 10⟩, (.int .i64 ((1 + r27 : Nat) : Int))), (⟨0, [], .mv 237 3⟩, (.ptr (nx + 1) 0))]) (o := (.bslice 1 2 [(.int .i64 0)] [(0, 1, (.t 245)), (1, 1, (.t 246))])) (o_bslice (fill_cons eZ rfl rfl (fill_cons (eV (z1 ds)) rfl rfl fill_nil))) rfl (by kernel_rfl) (by kernel_rfl) (by kernel_rfl) (by kernel_rfl) (fun t136 (hh137 : hv t136 = upd (hv t134) n135 (some (.row [(.int .i64 ((rc : Nat) : Int)), (.int .i64 ((rf130 : Nat) : Int))] true))) => ⟨?_, ?_⟩)
         · exact (all_cons_ (still_op rfl rfl (o_mov (eV (z2 (z8 (z8 (z8 (z8 ds))))))) (aeq_flat rfl)) (all_cons_ (still_op rfl rfl (o_mov (eV (z2 (z4 (z8 (z8 (z8 (z8 (z8 (z8 (z8 (z8 (z8 q3))))))))))))) (aeq_flat rfl)) all_nil_))
         refine eO 11 rfl (o_build (fill_cons ev_c rfl rfl (fill_cons (eV (z1 (z8 ds))) rfl rfl (fill_cons eZ rfl rfl fill_nil)))) ?_
         have hok : ndOK ([(rc : Int), (rf130 : Int)].map (wdN nsf130)) (⟨7, 0, ((1 + r27 : Nat) : Int), [(rc : Int), (rf130 : Int)], [], 0, 0, 0⟩ : Nd) := by
           show ndOK [wdN nsf130 (rc : Int), wdN nsf130 (rf130 : Int)] _
           rw [hwf130]
           exact ok_flip
         have hGn : NetG (nsf130 ++ [(⟨7, 0, ((1 + r27 : Nat) : Int), [(rc : Int), (rf130 : Int)], [], 0, 0, 0⟩ : Nd)]) := hGf130.add _ ⟨by show (1 : Int) ≤ ((1 + r27 : Nat) : Int); omega, by show ((1 + r27 : Nat) : Int) ≤ (256 : Int); omega⟩ (by show ∀ k ∈ ([(rc : Int), (rf130 : Int)] : List Int), 0 ≤ k ∧ k < (nsf130.length : Int); simp only [List.mem_cons, List.not_mem_nil, or_false, forall_eq_or_imp, forall_eq]; first | omega | (intro k hk; cases hk)) hok (fun e => absurd (show (7 : Int) = 2 from e) (by decide))
         refine d_call (ix := 12) (pr := [0, 11, 8]) (d := (some 249)) (g := none) (F' := []) (w_callF (evs_cons (eV (z1 (z2 (z8 ds)))) (evs_cons eZ evs_nil))) rfl (by kernel_rfl) (by kernel_rfl) (by kernel_rfl) (by kernel_rfl) (WF.mono (adds_ok (lo := nx + 1) (x := nx + 1) (c := c) (⟨7, 0, ((1 + r27 : Nat) : Int), [(rc : Int), (rf130 : Int)], [], 0, 0, 0⟩ : Nd) (.slice n135 0 2 2 1 true) (hLf130.keep (hi' := (n135 + 1)) (kU (Keep.trans kR hkcl (by omega) (by rintro d hd (e | e) <;> omega)) hh137) (by omega)) (by omega) (by omega) (.inr ⟨n135, true, rfl, (lS hh137), by omega, by omega, by omega, by omega, by omega⟩) (by first | omega | simp) (by omega) (fun e => ne_nil (by omega) e)) ?_)
         rintro _ t139 n140 ⟨ba138, vna138, rfl, hba138, hca138, hLa138, hka138⟩
         refine ⟨?_, ?_⟩
         · exact all_nil_
         refine e_done (k_reg (rO (o_mov (eV (z8 (z8 (z8 (z8 (z8 (z8 (z8 (z8 (z8 (z8 q4)))))))))))) (rO (o_add eZ ev_c (by omega) (by omega)) (m1 ds (r_nil ?_)))))
         exact ⟨mm - 1, by omega, i + 1, ba138, (nsf130 ++ [(⟨7, 0, ((1 + r27 : Nat) : Int), [(rc : Int), (rf130 : Int)], [], 0, 0, 0⟩ : Nd)]), (ivsf130 ++ [(.slice n135 0 2 2 1 true)]), _, hLa138, hGn, (hFf130).app (by omega), by simp only [List.length_append, List.length_cons, List.length_nil]; omega, by simp only [List.length_append, List.length_cons, List.length_nil]; omega, by omega, (z1 (z2 (z8 (z8 (z8 (z8 (z8 (z8 (z8 (z8 (z8 (z8 q0)))))))))))), (z1 (z2 (z8 (z8 (z8 (z8 (z8 (z8 (z8 (z8 (z8 (z8 q2)))))))))))), (z1 (z2 (z8 (z8 (z8 (z8 (z8 (z8 (z8 (z8 (z8 (z8 q3)))))))))))), ds, (Keep.look hka138 (by omega) (by rintro (e | e) <;> omega) (lN hh137 (Keep.look hkcl (by omega) id (Keep.look hkf130 (by omega) (by rintro (e | e) <;> omega) (lN hh20 (lN hh18 hres)))))), Keep.trans (kU (Keep.trans (Keep.trans (kU (kU (hkp) hh18) hh20) hkf130 (by omega) (by rintro d hd (e | e) <;> omega)) hkcl (by omega) (fun d _ h => h)) hh137) hka138 (by omega) (by rintro d hd (e | e) <;> omega), by omega, by omega, by omega⟩
       refine k_seq (k_reg (rO (o_eql (eV (z2 (z4 (z8 ds)))) ev_c) (m1 ds (r_nil ?_))))
       refine k_if eZ (fun hc141 => ?_) (fun hc141 => ?_)
       · refine k_seq (k_reg (rO (o_mov (eV (z8 (z8 (z8 (z8 (z8 (z8 (z8 (z8 q3)))))))))) (m1 (z4 (z8 (z8 (z8 ds)))) (m1 (z2 (z4 (z8 (z8 ds)))) (r_call (w_callF (evs_cons (eV (z2 ds)) (evs_cons (eV (z1 ds)) (evs_cons eZ evs_nil)))) rfl (WF.mono (fit_ok (lo := nx + 1) (x := nx + 1) (c := c) qa (((1 + r27 : Nat) : Int)) (hL.keep (hi' := (nv + 1)) (kU (kU kR hh18) hh20) (by omega)) (by omega) (by omega) (by omega) (by omega) (by omega)) ?_))))))
         rintro _ t143 n144 ⟨bf142, ivsf142, vnf142, nsf142, rf142, rfl, hnf142, hbf142, hff142, hLf142, hkf142⟩
         obtain ⟨hGf142, hrf142, hwf142, hlf142, hmf142, hwdf142, hatf142⟩ := hff142.good hG (by omega) ⟨by omega, by omega⟩
         have hFf142 := hff142.first2 hF (by omega)
         have ownz145 := hLf142.own
         have hxz145 := hLf142.hx
         rcases hLf142.nodes with ⟨-, hz, -⟩ | hnz145
         · exfalso; (try subst hz); simp at *; try omega
         have hvnz145 := hnz145.v; have hlenz145 := hnz145.len; have hltz145 := hnz145.lt; have hnez145 := hnz145.ne; have hgez145 := hnz145.ge
         subst hvnz145
         refine m1 ds (r_nil (k_reg (rO (o_mov (eV (z1 (z4 (z8 (z8 (z8 (z8 (z8 (z8 (z8 (z8 q3)))))))))))) (m1 (z2 (z8 (z8 (z8 ds)))) (m1 (z2 ds) (r_heap (o_bslice (fill_cons eZ rfl rfl fill_nil)) rfl (fun t146 (hh147 : hv t146 = upd (hv t143) n144 (some (.row [(.int .i64 ((rf142 : Nat) : Int))] true))) => rO (o_faddr (off := 3) (eV (z4 (z8 (z8 (z8 (z8 (z8 (z8 (z8 ds)))))))))) (rO (o_load eZ (lN hh147 (Keep.look hkf142 (by omega) (by rintro (e | e) <;> omega) (lS hh20))) rfl) (r_ex (o_and (m := 3) eZ ev_c (by decide)) rfl ?_)))))))))
         rintro _ ⟨r148, rfl, hr149⟩
         refine rO (o_add ev_c eZ (by omega) (by omega)) (rO (o_build (fill_cons ev_c rfl rfl (fill_cons (eV (z2 (z4 ds))) rfl rfl (fill_cons (eV (z4 ds)) rfl rfl (fill_cons eZ rfl rfl fill_nil))))) ?_)
         have hok : ndOK ([(rf142 : Int)].map (wdN nsf142)) (⟨8, 0, ((1 + r27 : Nat) : Int), [(rf142 : Int)], [], 0, 0, (1 + ((r148 : Nat) : Int))⟩ : Nd) := by
           show ndOK [wdN nsf142 (rf142 : Int)] _
           rw [hwf142]
           exact ok_delay ⟨by omega, by omega⟩
         have hGn : NetG (nsf142 ++ [(⟨8, 0, ((1 + r27 : Nat) : Int), [(rf142 : Int)], [], 0, 0, (1 + ((r148 : Nat) : Int))⟩ : Nd)]) := hGf142.add _ ⟨by show (1 : Int) ≤ ((1 + r27 : Nat) : Int); omega, by show ((1 + r27 : Nat) : Int) ≤ (256 : Int); omega⟩ (by show ∀ k ∈ ([(rf142 : Int)] : List Int), 0 ≤ k ∧ k < (nsf142.length : Int); simp only [List.mem_cons, List.not_mem_nil, or_false, forall_eq_or_imp, forall_eq]; first | omega | (intro k hk; cases hk)) hok (fun e => absurd (show (8 : Int) = 2 from e) (by decide))
         refine r_call (w_callF (evs_cons (eV (z8 ds)) (evs_cons eZ evs_nil))) rfl (WF.mono (adds_ok (lo := nx + 1) (x := nx + 1) (c := c) (⟨8, 0, ((1 + r27 : Nat) : Int), [(rf142 : Int)], [], 0, 0, (1 + ((r148 : Nat) : Int))⟩ : Nd) (.slice n144 0 1 1 1 true) (hLf142.keep (hi' := (n144 + 1)) (kU kR hh147) (by omega)) (by omega) (by omega) (.inr ⟨n144, true, rfl, (lS hh147), by omega, by omega, by omega, by omega, by omega⟩) (by first | omega | simp) (by omega) (fun e => ne_nil (by omega) e)) ?_)
         rintro _ t151 n152 ⟨ba150, vna150, rfl, hba150, hca150, hLa150, hka150⟩
         refine r_nil (k_reg (rO (o_mov (eV (z1 (z2 (z4 (z8 (z8 (z8 (z8 (z8 (z8 (z8 (z8 (z8 q4)))))))))))))) (rO (o_add eZ ev_c (by omega) (by omega)) (m1 ds (r_nil ?_)))))
         exact ⟨mm - 1, by omega, i + 1, ba150, (nsf142 ++ [(⟨8, 0, ((1 + r27 : Nat) : Int), [(rf142 : Int)], [], 0, 0, (1 + ((r148 : Nat) : Int))⟩ : Nd)]), (ivsf142 ++ [(.slice n144 0 1 1 1 true)]), _, hLa150, hGn, (hFf142).app (by omega), by simp only [List.length_append, List.length_cons, List.length_nil]; omega, by simp only [List.length_append, List.length_cons, List.length_nil]; omega, by omega, (z2 (z8 (z8 (z8 (z8 (z8 (z8 (z8 (z8 (z8 (z8 q0))))))))))), (z2 (z8 (z8 (z8 (z8 (z8 (z8 (z8 (z8 (z8 (z8 q2))))))))))), (z2 (z8 (z8 (z8 (z8 (z8 (z8 (z8 (z8 (z8 (z8 q3))))))))))), ds, (Keep.look hka150 (by omega) (by rintro (e | e) <;> omega) (lN hh147 (Keep.look hkf142 (by omega) (by rintro (e | e) <;> omega) (lN hh20 (lN hh18 hres))))), Keep.trans (kU (Keep.trans (kU (kU (hkp) hh18) hh20) hkf142 (by omega) (by rintro d hd (e | e) <;> omega)) hh147) hka150 (by omega) (by rintro d hd (e | e) <;> omega), by omega, by omega, by omega⟩
       refine k_seq ?_
       obtain ⟨xqa, hxqa⟩ := some_at hqa
       obtain ⟨jqa, hjqa⟩ := some_at (l := ivs) (i := qa) (by omega)
       have hwxqa := wdN_at hxqa
       have hwbqa := (hG qa xqa hxqa).wide
       obtain ⟨xqb, hxqb⟩ := some_at hqb
       obtain ⟨jqb, hjqb⟩ := some_at (l := ivs) (i := qb) (by omega)
       have hwxqb := wdN_at hxqb
       have hwbqb := (hG qb xqb hxqb).wide
       refine k_draw (eO 0 rfl (o_mov (eV (z8 (z8 (z8 (z8 (z8 (z8 (z8 (z8 q3)))))))))) (eO 1 rfl (o_nilck eZ) (eO 2 rfl (o_faddr (off := 0) eZ) (eO 3 rfl (o_faddr (off := 0) eZ) (eO 4 rfl (o_load eZ (lN hh20 (lN hh18 ownz16)) rfl) (eO 5 rfl (o_mov (eV (z8 (z8 (z8 (z8 ds)))))) (eO 6 rfl (o_iaddr (i := qa) (eV (z1 ds)) eZ (by omega)) (eO 7 rfl (o_faddr (off := 2) eZ) (eO 8 rfl (o_load eZ (lN hh20 (lN hh18 hnz16.row)) (at_node (j := 2) hxqa hjqa (by decide) (by omega) rfl)) (eO 9 rfl (o_mov (eV (z1 (z8 (z8 (z8 (z8 (z8 (z8 (z8 (z8 (z8 q3)))))))))))) (eO 10 rfl (o_nilck eZ) (eO 11 rfl (o_faddr (off := 0) eZ) (eO 12 rfl (o_faddr (off := 0) eZ) (eO 13 rfl (o_load eZ (lN hh20 (lN hh18 ownz16)) rfl) (eO 14 rfl (o_mov (eV (z8 (z8 (z8 (z8 (z8 ds))))))) (eO 15 rfl (o_iaddr (i := qb) (eV (z1 ds)) eZ (by omega)) (eO 16 rfl (o_faddr (off := 2) eZ) (eO 17 rfl (o_load eZ (lN hh20 (lN hh18 hnz16.row)) (at_node (j := 2) hxqb hjqb (by decide) (by omega) rfl)) (eO 18 rfl (o_add (eV (z1 (z8 ds))) eZ (by omega) (by omega)) (eO 19 rfl (o_mov eZ) (e_done (k_seq (k_reg (m1 ds (rO (o_gtr eZ ev_c) (r_nil ?_))))))))))))))))))))))))))
       refine k_if eZ (fun hc153 => ?_) (fun hc153 => ?_)
       · refine k_seq (k_reg (rO (o_mov (eV (z2 (z4 (z8 (z8 (z8 (z8 (z8 (z8 (z8 (z8 (z8 (z8 q3)))))))))))))) (rO (o_nilck eZ) (rO (o_faddr (off := 0) eZ) (rO (o_faddr (off := 0) eZ) (rO (o_load eZ (lN hh20 (lN hh18 ownz16)) rfl) (rO (o_mov (eV (z2 (z4 (z8 (z8 (z8 (z8 (z8 (z8 ds)))))))))) (rO (o_iaddr (i := qa) (eV (z1 ds)) eZ (by omega)) (rO (o_faddr (off := 2) eZ) (rO (o_load eZ (lN hh20 (lN hh18 hnz16.row)) (at_node (j := 2) hxqa hjqa (by decide) (by omega) rfl)) (m1 ds (r_nil (k_reg (rO (o_mov (eV (z8 (z8 (z8 (z8 (z8 (z8 (z8 (z8 (z8 (z8 (z8 (z8 q3)))))))))))))) (m1 (z1 ds) (rO (o_mov (eV (z1 (z4 (z8 (z8 (z8 (z8 (z8 (z8 (z8 ds))))))))))) (r_heap (o_bslice (fill_cons eZ rfl rfl fill_nil)) rfl (fun t154 (hh155 : hv t154 = upd (hv t19) (nv + 1) (some (.row [(.int .i64 ((qa : Nat) : Int))] true))) => rO (o_build (fill_cons ev_c rfl rfl (fill_cons ev_c rfl rfl (fill_cons (eV (z2 ds)) rfl rfl (fill_cons eZ rfl rfl fill_nil))))) ?_))))))))))))))))))
         have hok : ndOK ([(qa : Int)].map (wdN ns)) (⟨3, 5, xqa.wide, [(qa : Int)], [], 0, 0, 0⟩ : Nd) := by
           show ndOK [wdN ns (qa : Int)] _
           rw [hwxqa]
           exact ok_cat1
         have hGn : NetG (ns ++ [(⟨3, 5, xqa.wide, [(qa : Int)], [], 0, 0, 0⟩ : Nd)]) := hG.add _ ⟨by show (1 : Int) ≤ xqa.wide; omega, by show xqa.wide ≤ (256 : Int); omega⟩ (by show ∀ k ∈ ([(qa : Int)] : List Int), 0 ≤ k ∧ k < (ns.length : Int); simp only [List.mem_cons, List.not_mem_nil, or_false, forall_eq_or_imp, forall_eq]; first | omega | (intro k hk; cases hk)) hok (fun e => absurd (show (3 : Int) = 2 from e) (by decide))
         refine r_call (w_callF (evs_cons (eV (z4 ds)) (evs_cons eZ evs_nil))) rfl (WF.mono (adds_ok (lo := nx + 1) (x := nx + 1) (c := c) (⟨3, 5, xqa.wide, [(qa : Int)], [], 0, 0, 0⟩ : Nd) (.slice (nv + 1) 0 1 1 1 true) (hL.keep (hi' := ((nv + 1) + 1)) (kU (kU (kU kR hh18) hh20) hh155) (by omega)) (by omega) (by omega) (.inr ⟨(nv + 1), true, rfl, (lS hh155), by omega, by omega, by omega, by omega, by omega⟩) (by first | omega | simp) (by omega) (fun e => ne_nil (by omega) e)) ?_)
         rintro _ t157 n158 ⟨ba156, vna156, rfl, hba156, hca156, hLa156, hka156⟩
         refine r_nil (k_reg (rO (o_mov (eV (z2 (z4 (z8 (z8 (z8 (z8 (z8 (z8 (z8 (z8 (z8 (z8 (z8 (z8 q4)))))))))))))))) (rO (o_add eZ ev_c (by omega) (by omega)) (m1 ds (r_nil ?_)))))
         exact ⟨mm - 1, by omega, i + 1, ba156, (ns ++ [(⟨3, 5, xqa.wide, [(qa : Int)], [], 0, 0, 0⟩ : Nd)]), (ivs ++ [(.slice (nv + 1) 0 1 1 1 true)]), _, hLa156, hGn, (hF).app (by omega), by simp only [List.length_append, List.length_cons, List.length_nil]; omega, by simp only [List.length_append, List.length_cons, List.length_nil]; omega, by omega, (z1 (z8 (z8 (z8 (z8 (z8 (z8 (z8 (z8 (z8 (z8 (z8 (z8 (z8 q0)))))))))))))), (z1 (z8 (z8 (z8 (z8 (z8 (z8 (z8 (z8 (z8 (z8 (z8 (z8 (z8 q2)))))))))))))), (z1 (z8 (z8 (z8 (z8 (z8 (z8 (z8 (z8 (z8 (z8 (z8 (z8 (z8 q3)))))))))))))), ds, (Keep.look hka156 (by omega) (by rintro (e | e) <;> omega) (lN hh155 (lN hh20 (lN hh18 hres)))), Keep.trans (kU (kU (kU (hkp) hh18) hh20) hh155) hka156 (by omega) (by rintro d hd (e | e) <;> omega), by omega, by omega, by omega⟩
       refine k_reg (rO (o_mov (eV (z2 (z4 (z8 (z8 (z8 (z8 (z8 (z8 (z8 (z8 (z8 (z8 q3)))))))))))))) (m1 (z1 (z2 ds)) (rO (o_mov (eV (z1 (z2 (z8 (z8 (z8 (z8 (z8 (z8 ds)))))))))) (rO (o_mov (eV (z1 (z2 (z8 (z8 (z8 (z8 (z8 (z8 ds)))))))))) (r_heap (o_bslice (fill_cons (eV (z1 ds)) rfl rfl (fill_cons eZ rfl rfl fill_nil))) rfl (fun t159 (hh160 : hv t159 = upd (hv t19) (nv + 1) (some (.row [(.int .i64 ((qa : Nat) : Int)), (.int .i64 ((qb : Nat) : Int))] true))) => rO (o_build (fill_cons ev_c rfl rfl (fill_cons ev_c rfl rfl (fill_cons (eV (z1 (z2 ds))) rfl rfl (fill_cons eZ rfl rfl fill_nil))))) ?_))))))
       have hok : ndOK ([(qa : Int), (qb : Int)].map (wdN ns)) (⟨3, 5, (xqa.wide + xqb.wide), [(qa : Int), (qb : Int)], [], 0, 0, 0⟩ : Nd) := by
         show ndOK [wdN ns (qa : Int), wdN ns (qb : Int)] _
         rw [hwxqa, hwxqb]
         exact ok_cat2
       have hGn : NetG (ns ++ [(⟨3, 5, (xqa.wide + xqb.wide), [(qa : Int), (qb : Int)], [], 0, 0, 0⟩ : Nd)]) := hG.add _ ⟨by show (1 : Int) ≤ (xqa.wide + xqb.wide); omega, by show (xqa.wide + xqb.wide) ≤ (256 : Int); omega⟩ (by show ∀ k ∈ ([(qa : Int), (qb : Int)] : List Int), 0 ≤ k ∧ k < (ns.length : Int); simp only [List.mem_cons, List.not_mem_nil, or_false, forall_eq_or_imp, forall_eq]; first | omega | (intro k hk; cases hk)) hok (fun e => absurd (show (3 : Int) = 2 from e) (by decide))
       refine r_call (w_callF (evs_cons (eV (z1 (z4 ds))) (evs_cons eZ evs_nil))) rfl (WF.mono (adds_ok (lo := nx + 1) (x := nx + 1) (c := c) (⟨3, 5, (xqa.wide + xqb.wide), [(qa : Int), (qb : Int)], [], 0, 0, 0⟩ : Nd) (.slice (nv + 1) 0 2 2 1 true) (hL.keep (hi' := ((nv + 1) + 1)) (kU (kU (kU kR hh18) hh20) hh160) (by omega)) (by omega) (by omega) (.inr ⟨(nv + 1), true, rfl, (lS hh160), by omega, by omega, by omega, by omega, by omega⟩) (by first | omega | simp) (by omega) (fun e => ne_nil (by omega) e)) ?_)
       rintro _ t162 n163 ⟨ba161, vna161, rfl, hba161, hca161, hLa161, hka161⟩
       refine r_nil (k_reg (rO (o_mov (eV (z1 (z4 (z8 (z8 (z8 (z8 (z8 (z8 (z8 (z8 (z8 (z8 (z8 q4))))))))))))))) (rO (o_add eZ ev_c (by omega) (by omega)) (m1 ds (r_nil ?_)))))
       exact ⟨mm - 1, by omega, i + 1, ba161, (ns ++ [(⟨3, 5, (xqa.wide + xqb.wide), [(qa : Int), (qb : Int)], [], 0, 0, 0⟩ : Nd)]), (ivs ++ [(.slice (nv + 1) 0 2 2 1 true)]), _, hLa161, hGn, (hF).app (by omega), by simp only [List.length_append, List.length_cons, List.length_nil]; omega, by simp only [List.length_append, List.length_cons, List.length_nil]; omega, by omega, (z8 (z8 (z8 (z8 (z8 (z8 (z8 (z8 (z8 (z8 (z8 (z8 q0)))))))))))), (z8 (z8 (z8 (z8 (z8 (z8 (z8 (z8 (z8 (z8 (z8 (z8 q2)))))))))))), (z8 (z8 (z8 (z8 (z8 (z8 (z8 (z8 (z8 (z8 (z8 (z8 q3)))))))))))), ds, (Keep.look hka161 (by omega) (by rintro (e | e) <;> omega) (lN hh160 (lN hh20 (lN hh18 hres)))), Keep.trans (kU (kU (kU (hkp) hh18) hh20) hh160) hka161 (by omega) (by rintro d hd (e | e) <;> omega), by omega, by omega, by omega⟩
     refine k_reg (m1 q4 (m1 (z1 q0) (rO (o_len_5 hgv1 eZ) (rO (dec_t (o_lss (eV (z2 ds)) eZ) (by omega)) (m1 ds (r_op (o_mov (eV (z1 (z4 q4)))) (want_on ds) (r_op (dec_f (o_lss eZ ev_c) (by omega)) (want_on (z1 ds)) (rO (o_pick_t (eV (z2 ds)) eZ) (r_nil (k_cond_f eZ (k_exit (exK_same ?_))))))))))))
     exact ⟨b, ns, ivs, _, hL, hG, hF, by omega, by omega, (z8 q0), (z8 q2), (z8 q3), hres, hkp, by omega, by omega⟩
   refine k_reg (m1 q4 (m1 (z1 q0) (rO (o_len_5 hgv1 eZ) (rO (dec_f (o_lss (eV (z2 ds)) eZ) (by omega)) (m1 ds (r_off (wN ds) (r_off (wN (z1 ds)) (rO (o_pick_f (eV (z2 ds)) ev_c) (r_nil (k_cond_f eZ (k_exit (exK_same ?_))))))))))))
   exact ⟨b, ns, ivs, _, hL, hG, hF, by omega, by omega, (z8 q0), (z8 q2), (z8 q3), hres, hkp, by omega, by omega⟩
 rintro Ty ty ny ⟨b, ns, ivs, vn, hL, hG, hF, hn2, hn3, q0, q2, q3, hres, hkp, hcn, hxc⟩
 have ownz164 := hL.own
 have hxz164 := hL.hx
 rcases hL.nodes with ⟨-, hz, -⟩ | hnz164
 · exfalso; (try subst hz); simp at *; try omega
 have hvnz164 := hnz164.v; have hlenz164 := hnz164.len; have hltz164 := hnz164.lt; have hnez164 := hnz164.ne; have hgez164 := hnz164.ge
 subst hvnz164
 have hgv1 := hgv.keep (W := fun _ => False) (fun d hd hw => hkp d (by omega) hw) (fun _ _ h => h)
 refine k_seq (k_reg (m1 q3 (m1 (z1 q0) (r_call (w_callF (evs_cons (eV (z1 ds)) (evs_cons eZ evs_nil))) rfl (WF.mono (back_ok (lo := nx + 1) (x := nx + 1) (c := c) (bd := bd) hL (by omega) (by omega) (by omega) (by omega) hG hgv1 (by omega) (by omega) hng) ?_)))))
 rintro _ t165 n166 ⟨rfl, hnb, ns2, ivs2, hLb, hGb, hSb, hkb⟩
 have hFb := hF.same hSb; have hsl := hSb.1
 have ownb := hLb.own
 refine r_nil (k_seq (k_seq (k_reg (rO (o_mov ev_c) (r_nil (k_block ?_))))))
 have hbn : b < n166 ∧ b ≠ nx + 1 ∧ b ≠ c := by
   rcases hLb.nodes with ⟨-, hz, -⟩ | hz
   · exact ne_nil (by omega) hz
   exact ⟨hz.lt, hz.ne, hz.nc⟩
 refine k_loop (fun mm Tu tu nu => ∃ (i c : Nat) (ex : Bool) (ts : List Int), Lst tu (nx + 1) nu (nx + 1) b c ns2 ivs2 (.slice b 0 ns.length ns.length 8 false) (.slice c 0 ts.length ts.length 1 ex) ts 0 ∧ (∃ us : List Int, ts = 0 :: 1 :: us ∧ us.length = i ∧ ∀ u ∈ us, 2 ≤ u ∧ u < (ns2.length : Int)) ∧ Tu.get 2 = some (.ptr nx 0) ∧ Tu.get 3 = some (.ptr (nx + 1) 0) ∧ Tu.get 20 = some (.int .i64 (i : Int)) ∧ hv tu nx = some (.row [.nslice, .nslice, .int .i64 0] true) ∧ Keep t tu nx (fun _ => False) ∧ c < nu ∧ nx + 1 < c ∧ b < nu ∧ b ≠ nx + 1 ∧ c ≠ b ∧ i ≤ 4 ∧ mm + i = 4) (fun mm Tu tu nu hI => ?_) (4) ⟨0, c, true, [0, 1], hLb, ⟨[], rfl, rfl, by intro u hu; cases hu⟩, (z4 q2), (z4 q3), ds, (Keep.look hkb (by omega) (fun e => by omega) hres), Keep.trans (hkp) hkb (by omega) (by rintro d hd (e | e) <;> omega), by omega, by omega, hbn.1, hbn.2.1, fun e => hbn.2.2 e.symm, by omega, by omega⟩
 obtain ⟨i, c, ex, ts, hLn, hus, p2, p3, p20, hresn, hkq, hcu, hxu, hbu, hbx, hcb, hi4, hmm⟩ := hI
 have ownn := hLn.own
 have hnets : hv tu c = some (.row (ints ts) true) := by
   rcases hLn.nets with ⟨h_, -⟩ | ⟨ex_, h1_, h2_, -⟩
   · cases h_
   exact h2_
 have htl : ts.length = 2 + i := by obtain ⟨us, h1_, h2_, -⟩ := hus; rw [h1_]; simp; omega
 refine k_seq (k_seq ?_)
 by_cases hj4 : i < 4
 · by_cases hj1 : i + 2 < ns.length
   · refine k_reg (m1 p20 (rO (dec_t (o_lss eZ ev_c) (by omega)) (m1 ds (r_op (o_mov (eV (z1 (z2 p3)))) (want_on ds) (r_op (o_nilck eZ) (want_on (z1 ds)) (r_op (o_faddr (off := 0) eZ) (want_on (z2 ds)) (r_op (o_faddr (off := 0) eZ) (want_on (z1 (z2 ds))) (r_op (o_load eZ ownn rfl) (want_on (z4 ds)) (r_op (o_len_slice eZ) (want_on (z1 (z4 ds))) (r_op (o_sub eZ ev_c (by omega) (by omega)) (want_on (z2 (z4 ds))) (r_op (o_mov (eV (z2 (z8 p20)))) (want_on (z1 (z2 (z4 ds)))) (r_op (o_sub (eV (z1 ds)) eZ (by omega) (by omega)) (want_on (z8 ds)) (r_op (dec_t (o_gtr eZ ev_c) (by omega)) (want_on (z1 (z8 ds))) (rO (o_pick_t (eV (z2 (z8 ds))) eZ) (r_nil (k_cond_t eZ (k_skip (k_seq (k_block (k_draw (eO 0 rfl (o_mov (eV (z2 (z4 (z8 p3))))) (eO 1 rfl (o_mov (eV (z1 (z2 (z4 (z8 p3)))))) (eO 2 rfl (o_nilck eZ) (eO 3 rfl (o_faddr (off := 0) eZ) (eO 4 rfl (o_faddr (off := 1) eZ) (eO 5 rfl (o_load eZ ownn rfl) (eO 6 rfl (o_mov (eV (z4 (z8 (z8 p3))))) (eO 7 rfl (o_nilck eZ) (eO 8 rfl (o_faddr (off := 0) eZ) (eO 9 rfl (o_faddr (off := 0) eZ) (eO 10 rfl (o_load eZ ownn rfl) (eO 11 rfl (o_len_slice eZ) (eO 12 rfl (o_sub eZ ev_c (by omega) (by omega)) (eO 13 rfl (o_mov (eV (z1 (z2 (z8 (z8 (z8 p20))))))) (eO 14 rfl (o_sub (eV (z1 ds)) eZ (by omega) (by omega)) ?_)))))))))))))))))))))))))))))))))))
     refine d_heap (ix := 15) (pr := [14]) (d := (some 300)) (g := none) (F' := [(⟨9, [8], .o 294 (.faddr (.t 293) 0)⟩, (.ptr (nx + 1) 0)), (⟨8, [7], .o 293 (.faddr (.t 292) 0)⟩, (.ptr (nx + 1) 0)), (⟨7, [6], .o 292 (.nilck (.t 291))⟩, (.ptr (nx + 1) 0)), (⟨6, [], .mv 291 3⟩, (.ptr (nx + 1) 0)), (⟨5, [4], .o 290 (.load (.t 289))⟩, (.slice c 0 ts.length ts.length 1 ex)), (⟨4, [3], .o 289 (.faddr (.t 288) 1)⟩, (.ptr (nx + 1) 1)), (⟨3, [2], .o 288 (.faddr (.t 287) 0)⟩, (.ptr (nx + 1) 0)), (⟨2, [1], .o 287 (.nilck (.t 286))⟩, (.ptr (nx + 1) 0)), (⟨1, [], .mv 286 3⟩, (.ptr (nx + 1) 0)), (⟨0, [], .mv 285 3⟩, (.ptr (nx + 1) 0))]) (o := (.bslice 1 1 [(.int .i64 0)] [(0, 1, (.t 299))])) (o_bslice (fill_cons eZ rfl rfl fill_nil)) rfl (by kernel_rfl) (by kernel_rfl) (by kernel_rfl) (by kernel_rfl) (fun t167 (hh168 : hv t167 = upd (hv tu) nu (some (.row [(.int .i64 ((((ns.length : Nat) : Int) - 1) - ((i : Nat) : Int)))] true))) => ⟨?_, ?_⟩)
     · exact (all_cons_ (still_op rfl rfl (o_faddr (off := 0) (eV (z1 (z2 (z4 ds))))) (aeq_flat rfl)) (all_cons_ (still_op rfl rfl (o_faddr (off := 0) (eV (z8 ds))) (aeq_flat rfl)) (all_cons_ (still_op rfl rfl (o_nilck (eV (z1 (z8 ds)))) (aeq_flat rfl)) (all_cons_ (still_op rfl rfl (o_mov (eV (z2 (z4 (z8 (z8 (z8 p3))))))) (aeq_flat rfl)) (all_cons_ (still_op rfl rfl (o_load (eV (z1 (z2 (z8 ds)))) (lN hh168 ownn) rfl) (aeq_flat rfl)) (all_cons_ (still_op rfl rfl (o_faddr (off := 1) (eV (z4 (z8 ds)))) (aeq_flat rfl)) (all_cons_ (still_op rfl rfl (o_faddr (off := 0) (eV (z1 (z4 (z8 ds))))) (aeq_flat rfl)) (all_cons_ (still_op rfl rfl (o_nilck (eV (z2 (z4 (z8 ds))))) (aeq_flat rfl)) (all_cons_ (still_op rfl rfl (o_mov (eV (z2 (z4 (z8 (z8 (z8 p3))))))) (aeq_flat rfl)) (all_cons_ (still_op rfl rfl (o_mov (eV (z2 (z4 (z8 (z8 (z8 p3))))))) (aeq_flat rfl)) all_nil_))))))))))
     refine d_heap (ix := 16) (pr := [5, 15]) (d := (some 301)) (g := none) (F' := [(⟨9, [8], .o 294 (.faddr (.t 293) 0)⟩, (.ptr (nx + 1) 0)), (⟨8, [7], .o 293 (.faddr (.t 292) 0)⟩, (.ptr (nx + 1) 0)), (⟨7, [6], .o 292 (.nilck (.t 291))⟩, (.ptr (nx + 1) 0)), (⟨6, [], .mv 291 3⟩, (.ptr (nx + 1) 0)), (⟨1, [], .mv 286 3⟩, (.ptr (nx + 1) 0)), (⟨0, [], .mv 285 3⟩, (.ptr (nx + 1) 0))]) (o := (.app 1 (.t 290) (.t 300))) (o_appE (eV (z2 (z8 ds))) eZ (app_any (k := 1) (cs := [.int .i64 ((((ns.length : Nat) : Int) - 1) - ((i : Nat) : Int))]) rfl (src_row (k := 1) (lS hh168) (leb rfl)) rfl (lN hh168 hnets) (by rw [ints_len]; omega) (by decide) (by omega))) rfl (by kernel_rfl) (by kernel_rfl) (by kernel_rfl) (by kernel_rfl) (fun tq ⟨tp, hp, hq⟩ => ⟨?_, ?_⟩)
     · exact (all_cons_ (still_op rfl rfl (o_faddr (off := 0) (eV (z8 ds))) (aeq_flat rfl)) (all_cons_ (still_op rfl rfl (o_faddr (off := 0) (eV (z1 (z8 ds)))) (aeq_flat rfl)) (all_cons_ (still_op rfl rfl (o_nilck (eV (z2 (z8 ds)))) (aeq_flat rfl)) (all_cons_ (still_op rfl rfl (o_mov (eV (z1 (z2 (z4 (z8 (z8 (z8 p3)))))))) (aeq_flat rfl)) (all_cons_ (still_op rfl rfl (o_mov (eV (z1 (z2 (z4 (z8 (z8 (z8 p3)))))))) (aeq_flat rfl)) (all_cons_ (still_op rfl rfl (o_mov (eV (z1 (z2 (z4 (z8 (z8 (z8 p3)))))))) (aeq_flat rfl)) all_nil_))))))
     refine eO 17 rfl (o_nilck (eV (z8 (z8 ds)))) (eO 18 rfl (o_faddr (off := 0) eZ) (eO 19 rfl (o_faddr (off := 1) eZ) ?_))
     refine d_heap (ix := 20) (pr := [19, 16, 16, 0, 1, 2, 3, 4, 5, 6, 7, 8, 9, 10, 11, 12, 13, 14, 15, 16]) (d := none) (g := none) (F' := []) (o := (.store 1 (.t 304) (.t 301))) (o_store (n := 1) eZ (eV (z1 (z2 ds))) (lN hq ((hp _ (by omega)).trans (lN hh168 ownn))) rfl rfl (leb rfl)) rfl (by kernel_rfl) (by kernel_rfl) (by kernel_rfl) (by kernel_rfl) (fun t169 (hh170 : hv t169 = upd (hv tq) (nx + 1) (some (.row [(.slice b 0 ns.length ns.length 8 false), (.slice (nu + 1) 0 (ts.length + 1) (ts.length + 1) 1 false), (.int .i64 0)] true))) => ⟨?_, ?_⟩)
     · exact all_nil_
     refine e_done ?_
     rw [Nat.mul_one, whole (ints_len ts), ints_snoc] at hq
     refine k_reg (rO (o_mov (eV (z1 (z2 (z8 (z8 (z8 (z8 p20)))))))) (rO (o_add eZ ev_c (by omega) (by omega)) (m1 ds (r_nil ?_))))
     have hL3 := lst_nets (c' := (nu + 1)) (ex := false) (ts' := ts ++ [((((ns.length : Nat) : Int) - 1) - ((i : Nat) : Int))]) (vt' := .slice (nu + 1) 0 (ts.length + 1) (ts.length + 1) 1 false) (nx' := ((nu + 1) + 1)) hLn (by omega) (by omega) (by omega) (by simp) (fun d h1 h2 h3 => (Keep.upd (kU (Keep.ne (kU kR hh168) hp (.inr (.inr rfl))) hq) hh170 (.inr (.inl rfl)) : Keep _ _ _ (fun d => d = nx + 1 ∨ d = c)) d h1 (by rintro (e | e) <;> omega)) (lS hh170) (lN hh170 (lS hq))
     exact ⟨mm - 1, by omega, i + 1, (nu + 1), false, ts ++ [((((ns.length : Nat) : Int) - 1) - ((i : Nat) : Int))], by simpa using hL3, NetsM.snoc hus (by omega) (by omega), (z2 (z4 (z8 (z8 (z8 (z8 p2)))))), (z2 (z4 (z8 (z8 (z8 (z8 p3)))))), ds, (lN hh170 (lN hq ((hp _ (by omega)).trans (lN hh168 hresn)))), kU (kU (Keep.ne (kU (hkq) hh168) hp (.inl (by omega))) hq) hh170, by omega, by omega, by omega, by omega, by omega, by omega, by omega⟩
   refine k_reg (m1 p20 (rO (dec_t (o_lss eZ ev_c) (by omega)) (m1 ds (r_op (o_mov (eV (z1 (z2 p3)))) (want_on ds) (r_op (o_nilck eZ) (want_on (z1 ds)) (r_op (o_faddr (off := 0) eZ) (want_on (z2 ds)) (r_op (o_faddr (off := 0) eZ) (want_on (z1 (z2 ds))) (r_op (o_load eZ ownn rfl) (want_on (z4 ds)) (r_op (o_len_slice eZ) (want_on (z1 (z4 ds))) (r_op (o_sub eZ ev_c (by omega) (by omega)) (want_on (z2 (z4 ds))) (r_op (o_mov (eV (z2 (z8 p20)))) (want_on (z1 (z2 (z4 ds)))) (r_op (o_sub (eV (z1 ds)) eZ (by omega) (by omega)) (want_on (z8 ds)) (r_op (dec_f (o_gtr eZ ev_c) (by omega)) (want_on (z1 (z8 ds))) (rO (o_pick_t (eV (z2 (z8 ds))) eZ) (r_nil (k_cond_f eZ (k_exit (exK_same (k_seq (k_reg (m1 (z2 (z4 (z8 p3))) (m1 (z1 (z2 (z4 (z8 p3)))) (rO (o_nilck eZ) (rO (o_faddr (off := 0) eZ) (rO (o_faddr (off := 1) eZ) (rO (o_load eZ ownn rfl) (rO (o_len_slice eZ) (rO (o_nilck (eV (z2 (z4 ds)))) (rO (o_faddr (off := 0) eZ) (rO (o_faddr (off := 2) eZ) (r_heap (o_store (n := 1) eZ (eV (z1 (z2 ds))) ownn rfl rfl (leb rfl)) rfl (fun t171 (hh172 : hv t171 = upd (hv tu) (nx + 1) (some (.row [(.slice b 0 ns.length ns.length 8 false), (.slice c 0 ts.length ts.length 1 ex), (.int .i64 ((ts.length : Nat) : Int))] true))) => r_nil (k_seq (k_reg (m1 (z1 (z8 (z8 (z8 p3)))) ?_)))))))))))))))))))))))))))))))))))
   refine rO (o_nilck eZ) (rO (o_faddr (off := 0) eZ) (rO (o_loadA (n := 3) eZ (lS hh172) (leb rfl) rfl) (r_heap (o_store (n := 3) (eV (z1 (z4 (z8 (z8 (z8 p2)))))) eZ (lN hh172 hresn) rfl rfl (leb rfl)) rfl (fun t173 (hh174 : hv t173 = upd (hv t171) nx (some (.row [(.slice b 0 ns.length ns.length 8 false), (.slice c 0 ts.length ts.length 1 ex), (.int .i64 ((ts.length : Nat) : Int))] true))) => r_nil (k_ret ?_)))))
   have hfin : RowN tu nu (.slice b 0 ns.length ns.length 8 false) ns2 := by
     rcases hLn.nodes with ⟨-, hz, -⟩ | hz
     · exact ne_nil (by omega) hz
     exact hz.rowN
   have hfk : ∀ d, d < nu → d ≠ nx + 1 → d ≠ nx → hv t173 d = hv tu d := fun d h1 h2 h3 => (Keep.upd (Keep.upd kR hh172 (.inr (.inl rfl))) hh174 (.inr (.inr rfl)) : Keep _ _ nu (fun d => d = nx + 1 ∨ d = nx)) d h1 (by rintro (e | e) <;> omega)
   have hfin2 : RowN t173 nu (.slice b 0 ns.length ns.length 8 false) ns2 := by
     rcases hLn.nodes with ⟨-, hz, -⟩ | hz
     · exact ne_nil (by omega) hz
     exact .inr ⟨b, 0, ns.length, false, true, flatN ns2 ivs2, ivs2, by rw [← hsl], by omega, (hfk b hz.lt hz.ne (by have := hz.ge; omega)).trans hz.row, by rw [flatN_len hz.len]; omega, whole (flatN_len hz.len), hz.len, fun i_ y iv e1 e2 => ((hz.ins i_ y iv e1 e2).keepL (x := nx + 1) (b' := b) (c' := c) (by omega) (fun d h0 h1 h2 _ _ => hfk d h1 h2 (by omega)) (.inl rfl) (.inl rfl)).rowI⟩
   exact ⟨_, ans_one (res_cell (z2 (z4 (z8 (z8 (z8 p2))))) (lS hh174) (leb rfl) rfl res_nil), _, _, ns2, ts, rfl, by omega, kU (kU (hkq) hh172) hh174, hGb, by omega, by omega, hFb, NetsM.of hus (by omega), hfin2, .inr ⟨c, 0, ts.length, ex, true, ints ts, rfl, by omega, (lN hh174 (lN hh172 hnets)), by rw [ints_len]; omega, by rw [← ints_len ts]; exact whole rfl⟩⟩
 refine k_reg (m1 p20 (rO (dec_f (o_lss eZ ev_c) (by omega)) (m1 ds (r_off (wN ds) (r_off (wN (z1 ds)) (r_off (wN (z2 ds)) (r_off (wN (z1 (z2 ds))) (r_off (wN (z4 ds)) (r_off (wN (z1 (z4 ds))) (r_off (wN (z2 (z4 ds))) (r_off (wN (z1 (z2 (z4 ds)))) (r_off (wN (z8 ds)) (r_off (wN (z1 (z8 ds))) (rO (o_pick_f (eV (z2 (z8 ds))) ev_c) (r_nil (k_cond_f eZ (k_exit (exK_same (k_seq (k_reg (m1 (z2 (z4 (z8 p3))) (m1 (z1 (z2 (z4 (z8 p3)))) (rO (o_nilck eZ) (rO (o_faddr (off := 0) eZ) (rO (o_faddr (off := 1) eZ) (rO (o_load eZ ownn rfl) (rO (o_len_slice eZ) (rO (o_nilck (eV (z2 (z4 ds)))) (rO (o_faddr (off := 0) eZ) (rO (o_faddr (off := 2) eZ) (r_heap (o_store (n := 1) eZ (eV (z1 (z2 ds))) ownn rfl rfl (leb rfl)) rfl (fun t175 (hh176 : hv t175 = upd (hv tu) (nx + 1) (some (.row [(.slice b 0 ns.length ns.length 8 false), (.slice c 0 ts.length ts.length 1 ex), (.int .i64 ((ts.length : Nat) : Int))] true))) => r_nil (k_seq (k_reg (m1 (z1 (z8 (z8 (z8 p3)))) (rO (o_nilck eZ) (rO (o_faddr (off := 0) eZ) (rO (o_loadA (n := 3) eZ (lS hh176) (leb rfl) rfl) (r_heap (o_store (n := 3) (eV (z1 (z4 (z8 (z8 (z8 p2)))))) eZ (lN hh176 hresn) rfl rfl (leb rfl)) rfl (fun t177 (hh178 : hv t177 = upd (hv t175) nx (some (.row [(.slice b 0 ns.length ns.length 8 false), (.slice c 0 ts.length ts.length 1 ex), (.int .i64 ((ts.length : Nat) : Int))] true))) => ?_))))))))))))))))))))))))))))))))))))))))
 refine r_nil (k_ret ?_)
 have hfin : RowN tu nu (.slice b 0 ns.length ns.length 8 false) ns2 := by
   rcases hLn.nodes with ⟨-, hz, -⟩ | hz
   · exact ne_nil (by omega) hz
   exact hz.rowN
 have hfk : ∀ d, d < nu → d ≠ nx + 1 → d ≠ nx → hv t177 d = hv tu d := fun d h1 h2 h3 => (Keep.upd (Keep.upd kR hh176 (.inr (.inl rfl))) hh178 (.inr (.inr rfl)) : Keep _ _ nu (fun d => d = nx + 1 ∨ d = nx)) d h1 (by rintro (e | e) <;> omega)
 have hfin2 : RowN t177 nu (.slice b 0 ns.length ns.length 8 false) ns2 := by
   rcases hLn.nodes with ⟨-, hz, -⟩ | hz
   · exact ne_nil (by omega) hz
   exact .inr ⟨b, 0, ns.length, false, true, flatN ns2 ivs2, ivs2, by rw [← hsl], by omega, (hfk b hz.lt hz.ne (by have := hz.ge; omega)).trans hz.row, by rw [flatN_len hz.len]; omega, whole (flatN_len hz.len), hz.len, fun i_ y iv e1 e2 => ((hz.ins i_ y iv e1 e2).keepL (x := nx + 1) (b' := b) (c' := c) (by omega) (fun d h0 h1 h2 _ _ => hfk d h1 h2 (by omega)) (.inl rfl) (.inl rfl)).rowI⟩
 exact ⟨_, ans_one (res_cell (z2 (z4 (z8 (z8 (z8 p2))))) (lS hh178) (leb rfl) rfl res_nil), _, _, ns2, ts, rfl, by omega, kU (kU (hkq) hh176) hh178, hGb, by omega, by omega, hFb, NetsM.of hus (by omega), hfin2, .inr ⟨c, 0, ts.length, ex, true, ints ts, rfl, by omega, (lN hh178 (lN hh176 hnets)), by rw [ints_len]; omega, by rw [← ints_len ts]; exact whole rfl⟩⟩
end Go.Proofs.YtpjohgnhmjceiaaGreatDoor.WX

