/- The program's functions in the evaluator's terms: lower.Check: what each of them answers, whatever comes in.
   Conditions: those of each theorem. -/
import Derived.Test.YtpjohgnhmjceiaaGreatDoorAx4
import Derived.Test.YtpjohgnhmjceiaaGreatDoorShelf
import Derived.Test.YtpjohgnhmjceiaaGreatDoorProg
set_option linter.all false
set_option linter.unusedVariables false
set_option linter.unusedSectionVars false
set_option maxRecDepth 100000
open Go Go.Proofs.YtpjohgnhmjceiaaGreatDoor.AX Go.Proofs
namespace Go.Proofs.YtpjohgnhmjceiaaGreatDoor.WX
section
noncomputable def bytesOf8 (s : List Nat) : List UInt8 := s.map UInt8.ofNat
noncomputable def trimN (s cs : List Nat) : List Nat := (Lib.trimS (bytesOf8 s) (bytesOf8 cs)).map UInt8.toNat
open Classical in
noncomputable def pTrim : List AV → TB → Option AV
 | [.str s, .str cs], _ => if (∀ c ∈ s, c < 256) ∧ s.length ≤ 9223372036854775807 ∧ cs = [48, 49, 120, 122] then some (.str (trimN s cs)) else none
 | _, _ => none
theorem enc_bytes (s : List Nat) : (enc s).data.toList = bytesOf8 s := by simp [enc, bytesOf8]
theorem pTrim_ok [Env] : PrimOK Tryz.prog 104 pTrim := by
 intro args t nx v h ρ vs w hh hr
 have hx : ∃ s cs, args = [.str s, .str cs] ∧ (∀ c ∈ s, c < 256) ∧ s.length ≤ 9223372036854775807 ∧ cs = [48, 49, 120, 122] ∧ v = .str (trimN s cs) := by
   unfold pTrim at h
   split at h
   · split at h
     · rename_i hc
       cases h
       exact ⟨_, _, rfl, hc.1, hc.2.1, hc.2.2, rfl⟩
     · cases h
   · cases h
 obtain ⟨s, cs, rfl, h1, h2, rfl, rfl⟩ := hx
 simp only [rels, AV.rel] at hr
 obtain ⟨v1, r1, rfl, ⟨rfl, -⟩, v2, r2, rfl, ⟨rfl, -⟩, rfl⟩ := hr
 refine (Tryz.strings_Trim_laid (enc s) (enc [48, 49, 120, 122]) w (by simp [enc, ByteArray.size]; omega) (by simp [enc, ByteArray.size]) ?_).mono (fun e w' ⟨e1, e2⟩ => ⟨_, e1, ?_, e2⟩)
 · intro j b hb
   rw [enc_bytes] at hb
   have hm := List.mem_of_getElem? hb
   simp [bytesOf8] at hm
   rcases hm with rfl | rfl | rfl | rfl <;> decide
 · rw [enc_bytes, enc_bytes]
   refine ⟨?_, fun c hc => ?_⟩
   · show Value.string _ = Value.string (enc (trimN s [48, 49, 120, 122]))
     congr 1
     simp [enc, trimN, Function.comp_def]
   · simp only [trimN, List.mem_map] at hc
     obtain ⟨b, -, rfl⟩ := hc
     exact b.toNat_lt
/-- Nothing is left where all bytes are among those that are cut off. -/
theorem drop_nil_ {α : Type} (p : α → Bool) : ∀ l : List α, l.dropWhile p = [] ↔ ∀ b ∈ l, p b = true
 | [] => by simp
 | b :: l => by
   rw [List.dropWhile_cons]
   by_cases h : p b = true
   · rw [if_pos h, drop_nil_ p l]; simp [h]
   · rw [if_neg h]; simp [h]
theorem take_mem_ {α : Type} (p : α → Bool) : ∀ (m : List α) (b : α), b ∈ m.takeWhile p → p b = true
 | [], b, h => by simp at h
 | c :: m, b, h => by
   rw [List.takeWhile_cons] at h
   by_cases hc : p c = true
   · rw [if_pos hc] at h
     rcases List.mem_cons.1 h with rfl | h
     · exact hc
     · exact take_mem_ p m b h
   · rw [if_neg hc] at h
     simp at h
theorem trim_nil (l cs : List UInt8) : Lib.trimS l cs = [] ↔ ∀ b ∈ l, b ∈ cs := by
 have hd : ∀ m : List UInt8, m.dropWhile (cs.contains ·) = [] ↔ ∀ b ∈ m, b ∈ cs := by
   intro m
   rw [drop_nil_]
   simp
 unfold Lib.trimS Lib.trimLeftS
 rw [hd]
 unfold Lib.trimRightS
 constructor
 · intro h b hb
   by_cases hn : b ∈ (l.reverse.dropWhile (cs.contains ·)).reverse
   · exact h b hn
   · have hall : ∀ x ∈ l.reverse.dropWhile (cs.contains ·), x ∈ cs := fun x hx => h x (List.mem_reverse.2 hx)
     have : l.reverse.takeWhile (cs.contains ·) ++ l.reverse.dropWhile (cs.contains ·) = l.reverse := List.takeWhile_append_dropWhile
     have hm : b ∈ l.reverse.takeWhile (cs.contains ·) ++ l.reverse.dropWhile (cs.contains ·) := by rw [this]; exact List.mem_reverse.2 hb
     rcases List.mem_append.1 hm with hm | hm
     · have := take_mem_ _ _ _ hm
       simpa using this
     · exact hall b hm
 · intro h b hb
   exact h b (List.mem_reverse.1 ((List.dropWhile_sublist _).subset (List.mem_reverse.1 hb)))
theorem trimN_nil {s : List Nat} (h : ∀ c ∈ s, c < 256) : trimN s [48, 49, 120, 122] = [] ↔ ∀ c ∈ s, c = 48 ∨ c = 49 ∨ c = 120 ∨ c = 122 := by
 unfold trimN
 rw [List.map_eq_nil_iff, trim_nil]
 simp only [bytesOf8, List.mem_map, forall_exists_index, and_imp, forall_apply_eq_imp_iff₂, List.map_cons, List.map_nil]
 constructor
 · intro k c hc
   have h1 := k c hc
   have h2 := h c hc
   simp only [List.mem_cons, List.not_mem_nil, or_false] at h1
   have e : ∀ d : Nat, d < 256 → UInt8.ofNat c = UInt8.ofNat d → c = d := fun d hd e => by
     have := congrArg UInt8.toNat e
     simp only [UInt8.toNat_ofNat'] at this
     omega
   rcases h1 with h1 | h1 | h1 | h1
   · exact .inl (e _ (by decide) h1)
   · exact .inr (.inl (e _ (by decide) h1))
   · exact .inr (.inr (.inl (e _ (by decide) h1)))
   · exact .inr (.inr (.inr (e _ (by decide) h1)))
 · intro k c hc
   rcases k c hc with rfl | rfl | rfl | rfl <;> simp
/-- A function without arguments that tells true. -/
noncomputable def pTrue : List AV → TB → Option AV
 | [], _ => some (.bool true)
 | _, _ => none
theorem pTrue_ok [Env] {P : Program} {f : FuncId} (h : ∀ w : World, Calls P f #[] w fun e w' => e = .returned (.bool true) ∧ RowKit.Below w.heap.size w w') : PrimOK P f pTrue := by
 intro args t nx v hv ρ vs w hh hr
 cases args with
 | nil =>
   cases hv
   rw [rels_nil.1 hr]
   exact (h w).mono (fun e w' ⟨e1, e2⟩ => ⟨_, e1, rfl, e2⟩)
 | cons a l => cases hv
theorem of8_inj {a b : Nat} (ha : a < 256) (hb : b < 256) : UInt8.ofNat a = UInt8.ofNat b ↔ a = b := by
 constructor
 · intro e
   have := congrArg UInt8.toNat e
   simp only [UInt8.toNat_ofNat'] at this
   omega
 · rintro rfl; rfl
noncomputable def pRep (args : List AV) (_ : TB) : Option AV := match args with
 | [.str [c], .int .i64 (.ofNat n)] => if c < 256 ∧ n ≤ 65536 then some (.str (List.replicate n c)) else none
 | _ => none
theorem repeat_one (b : UInt8) : ∀ n, Lib.repeatL [b] n = List.replicate n b
 | 0 => rfl
 | n + 1 => by rw [Lib.repeatL, repeat_one b n]; rfl
theorem pRep_ok [Env] : PrimOK Tryz.prog 62 pRep := by
 intro args t nx v h ρ vs w hh hr
 unfold pRep at h
 split at h
 · rename_i c n
   split at h
   · rename_i hc
     cases h
     simp only [rels, AV.rel] at hr
     obtain ⟨v1, r1, rfl, ⟨rfl, -⟩, v2, r2, rfl, rfl, rfl⟩ := hr
     refine (Tryz.strings_Repeat (enc [c]) n w (by omega) (by simp [enc, ByteArray.size]; omega)).mono (fun e w' ⟨e1, e2⟩ => ⟨_, e1, ?_, e2⟩)
     refine ⟨?_, fun d hd => ?_⟩
     · show Value.string _ = Value.string (enc (List.replicate n c))
       congr 1
       rw [enc_bytes]
       show (⟨(Lib.repeatL [UInt8.ofNat c] n).toArray⟩ : ByteArray) = _
       rw [repeat_one]
       simp [enc]
     · rw [List.eq_of_mem_replicate hd]; exact hc.1
   · cases h
 · cases h
def hasXZ (v : List Nat) : Bool := v.any (fun c => c == 120 || c == 122)
def has1 (v : List Nat) : Bool := v.any (fun c => c == 49)
open Classical in
noncomputable def pAny (args : List AV) (_ : TB) : Option AV := match args with
 | [.str s, .str cs] => if (∀ c ∈ s, c < 128) ∧ s.length ≤ 65536 ∧ cs = [120, 122] then some (.bool (hasXZ s)) else none
 | _ => none
theorem any_xz : ∀ (s : List Nat), (∀ c ∈ s, c < 128) → Lib.containsAny (bytesOf8 s) (bytesOf8 [120, 122]) = hasXZ s
 | [], _ => rfl
 | c :: s, h => by
   have ih := any_xz s (fun d hd => h d (by simp [hd]))
   have hc := h c (by simp)
   have hge := Lib.indexAny_ge (bytesOf8 [120, 122]) (bytesOf8 s)
   unfold Lib.containsAny at ih ⊢
   show decide (0 ≤ Lib.indexAny (UInt8.ofNat c :: bytesOf8 s) (bytesOf8 [120, 122])) = ((c == 120 || c == 122) || hasXZ s)
   rw [← ih]
   have e1 : (UInt8.ofNat c = 120) ↔ c = 120 := of8_inj (b := 120) (by omega) (by decide)
   have e2 : (UInt8.ofNat c = 122) ↔ c = 122 := of8_inj (b := 122) (by omega) (by decide)
   rw [show Lib.indexAny (UInt8.ofNat c :: bytesOf8 s) (bytesOf8 [120, 122]) = (if (bytesOf8 [120, 122]).contains (UInt8.ofNat c) = true then 0 else if (Lib.indexAny (bytesOf8 s) (bytesOf8 [120, 122]) == -1) = true then -1 else Lib.indexAny (bytesOf8 s) (bytesOf8 [120, 122]) + 1) from rfl]
   by_cases h1 : c = 120
   · subst h1; simp [bytesOf8]
   · by_cases h2 : c = 122
     · subst h2; simp [bytesOf8]
     · have h3 : (bytesOf8 [120, 122]).contains (UInt8.ofNat c) = false := by
         simp [bytesOf8]
         exact ⟨fun e => h1 (e1.1 e), fun e => h2 (e2.1 e)⟩
       rw [h3]
       simp only [Bool.false_eq_true, if_false]
       rw [show (c == 120) = false by simpa using h1, show (c == 122) = false by simpa using h2]
       simp only [Bool.or_self, Bool.false_or]
       split
       · rename_i h4
         simp at h4
         rw [h4]
       · rename_i h4
         simp at h4
         rw [decide_eq_decide]
         omega
theorem pAny_ok [Env] : PrimOK Tryz.prog 242 pAny := by
 intro args t nx v h ρ vs w hh hr
 unfold pAny at h
 split at h
 · rename_i s cs
   split at h
   · rename_i hc
     obtain ⟨h1, h2, rfl⟩ := hc
     cases h
     simp only [rels, AV.rel] at hr
     obtain ⟨v1, r1, rfl, ⟨rfl, -⟩, v2, r2, rfl, ⟨rfl, -⟩, rfl⟩ := hr
     refine (Tryz.strings_ContainsAny_laid (enc s) (enc [120, 122]) w (by simp [enc, ByteArray.size]; omega) (by simp [enc, ByteArray.size]) ?_ ?_).mono (fun e w' ⟨e1, e2⟩ => ⟨_, e1, ?_, e2⟩)
     · intro j b hb
       rw [enc_bytes] at hb
       have hm := List.mem_of_getElem? hb
       simp only [bytesOf8, List.mem_map] at hm
       obtain ⟨c, hc, rfl⟩ := hm
       have := h1 c hc
       simp only [UInt8.toNat_ofNat']
       omega
     · intro j b hb
       rw [enc_bytes] at hb
       have hm := List.mem_of_getElem? hb
       simp [bytesOf8] at hm
       rcases hm with rfl | rfl <;> decide
     · rw [enc_bytes, enc_bytes, any_xz s h1]; rfl
   · cases h
 · cases h
open Classical in
noncomputable def pCon (args : List AV) (_ : TB) : Option AV := match args with
 | [.str s, .str cs] => if (∀ c ∈ s, c < 128) ∧ cs = [49] then some (.bool (has1 s)) else none
 | _ => none
theorem index_one : ∀ (s : List Nat), (∀ c ∈ s, c < 128) → decide (0 ≤ Lib.indexByte (bytesOf8 s) 49) = has1 s
 | [], _ => rfl
 | c :: s, h => by
   have ih := index_one s (fun d hd => h d (by simp [hd]))
   have hc := h c (by simp)
   have hge := Lib.indexByte_ge (bytesOf8 s) 49
   have e1 : (UInt8.ofNat c = 49) ↔ c = 49 := of8_inj (b := 49) (by omega) (by decide)
   show decide (0 ≤ Lib.indexByte (UInt8.ofNat c :: bytesOf8 s) 49) = ((c == 49) || has1 s)
   rw [← ih]
   rw [show Lib.indexByte (UInt8.ofNat c :: bytesOf8 s) 49 = (if (UInt8.ofNat c == 49) = true then 0 else if (Lib.indexByte (bytesOf8 s) 49 == -1) = true then -1 else Lib.indexByte (bytesOf8 s) 49 + 1) from rfl]
   by_cases h1 : c = 49
   · subst h1; simp
   · rw [show (UInt8.ofNat c == 49) = false by simpa using fun e => h1 (e1.1 e), show (c == 49) = false by simpa using h1]
     simp only [Bool.false_eq_true, if_false, Bool.false_or]
     split
     · rename_i h4
       simp at h4
       rw [h4]
     · rename_i h4
       simp at h4
       rw [decide_eq_decide]
       omega
theorem pCon_ok [Env] : PrimOK Tryz.prog 241 pCon := by
 intro args t nx v h ρ vs w hh hr
 unfold pCon at h
 split at h
 · rename_i s cs
   split at h
   · rename_i hc
     obtain ⟨h1, rfl⟩ := hc
     cases h
     simp only [rels, AV.rel] at hr
     obtain ⟨v1, r1, rfl, ⟨rfl, -⟩, v2, r2, rfl, ⟨rfl, -⟩, rfl⟩ := hr
     refine (Tryz.strings_Contains_one (enc s) 49 w).mono (fun e w' ⟨e1, e2⟩ => ⟨_, e1, ?_, e2 ▸ RowKit.Below.refl _ _⟩)
     rw [enc_bytes, index_one s h1]; rfl
   · cases h
 · cases h
def cmpL : List Nat → List Nat → Int
 | [], [] => 0
 | [], _ :: _ => -1
 | _ :: _, [] => 1
 | a :: u, b :: v => if a < b then -1 else if b < a then 1 else cmpL u v
open Classical in
noncomputable def pCmp (args : List AV) (_ : TB) : Option AV := match args with
 | [.str a, .str b] => if (∀ c ∈ a, c < 128) ∧ (∀ c ∈ b, c < 128) then some (.int .i64 (cmpL a b)) else none
 | _ => none
theorem compare_8 : ∀ (a b : List Nat), (∀ c ∈ a, c < 128) → (∀ c ∈ b, c < 128) → Lib.compareBytes (bytesOf8 a) (bytesOf8 b) = cmpL a b
 | [], [], _, _ => rfl
 | [], _ :: _, _, _ => rfl
 | _ :: _, [], _, _ => rfl
 | c :: a, d :: b, h, k => by
   have ih := compare_8 a b (fun d hd => h d (by simp [hd])) (fun d hd => k d (by simp [hd]))
   have hc := h c (by simp)
   have hd := k d (by simp)
   show (if UInt8.ofNat c < UInt8.ofNat d then (-1 : Int) else if UInt8.ofNat d < UInt8.ofNat c then 1 else Lib.compareBytes (bytesOf8 a) (bytesOf8 b)) = (if c < d then -1 else if d < c then 1 else cmpL a b)
   rw [ih]
   have e1 : UInt8.ofNat c < UInt8.ofNat d ↔ c < d := by rw [UInt8.lt_iff_toNat_lt]; simp only [UInt8.toNat_ofNat']; omega
   have e2 : UInt8.ofNat d < UInt8.ofNat c ↔ d < c := by rw [UInt8.lt_iff_toNat_lt]; simp only [UInt8.toNat_ofNat']; omega
   by_cases h1 : c < d
   · rw [if_pos h1, if_pos (e1.2 h1)]
   · rw [if_neg h1, if_neg (fun e => h1 (e1.1 e))]
     by_cases h2 : d < c
     · rw [if_pos h2, if_pos (e2.2 h2)]
     · rw [if_neg h2, if_neg (fun e => h2 (e2.1 e))]
theorem pCmp_ok [Env] : PrimOK Tryz.prog 244 pCmp := by
 intro args t nx v h ρ vs w hh hr
 unfold pCmp at h
 split at h
 · rename_i a b
   split at h
   · rename_i hc
     obtain ⟨h1, h2⟩ := hc
     cases h
     simp only [rels, AV.rel] at hr
     obtain ⟨v1, r1, rfl, ⟨rfl, -⟩, v2, r2, rfl, ⟨rfl, -⟩, rfl⟩ := hr
     refine (Tryz.strings_Compare (enc a) (enc b) w).mono (fun e w' ⟨e1, e2⟩ => ⟨_, e1, ?_, e2 ▸ RowKit.Below.refl _ _⟩)
     rw [enc_bytes, enc_bytes, compare_8 a b h1 h2]; rfl
   · cases h
 · cases h
noncomputable def tb (f : Nat) : Option AFn := bif f == 62 then some (.prim pRep) else bif f == 242 then some (.prim pAny) else bif f == 241 then some (.prim pCon) else bif f == 244 then some (.prim pCmp) else bif f == 104 then some (.prim pTrim) else bif f == 17 then some (.prim pTrue) else fnOf Tryz.prog [9, 66, 109, 111, 193] f
theorem rep_tab : tb 62 = some (.prim pRep) := rfl
theorem any_tab : tb 242 = some (.prim pAny) := rfl
theorem con_tab : tb 241 = some (.prim pCon) := rfl
theorem cmp_tab : tb 244 = some (.prim pCmp) := rfl
theorem trim_tab : tb 104 = some (.prim pTrim) := rfl
theorem awake0_tab : tb 17 = some (.prim pTrue) := rfl
end
section
structure Nd where
 kind : Int
 op : Int
 wide : Int
 ins : List Int
 value : List Nat
 hi : Int
 lo : Int
 time : Int
def i64 (n : Int) : AV := .int .i64 n
def ints (l : List Int) : List AV := l.map i64
def ncells (x : Nd) (iv : AV) : List AV := [.int .i64 x.kind, .int .i64 x.op, .int .i64 x.wide, iv, .str x.value, .int .i64 x.hi, .int .i64 x.lo, .int .i64 x.time]
def flatN : List Nd → List AV → List AV
 | x :: ns, iv :: ivs => ncells x iv ++ flatN ns ivs
 | _, _ => []
theorem flatN_get : ∀ {ns : List Nd} {ivs : List AV} {i j : Nat} {x : Nd} {iv : AV}, ns[i]? = some x → ivs[i]? = some iv → j < 8 → (flatN ns ivs)[i * 8 + j]? = (ncells x iv)[j]?
 | y :: ns, jv :: ivs, 0, j, x, iv, h, k, hj => by
   cases h; cases k
   show (ncells y jv ++ flatN ns ivs)[0 * 8 + j]? = _
   rw [List.getElem?_append_left (by simp [ncells]; omega)]
   congr 1; omega
 | y :: ns, jv :: ivs, i + 1, j, x, iv, h, k, hj => by
   have := flatN_get (ns := ns) (ivs := ivs) (i := i) (j := j) (x := x) (iv := iv) (by simpa using h) (by simpa using k) hj
   show (ncells y jv ++ flatN ns ivs)[(i + 1) * 8 + j]? = _
   rw [List.getElem?_append_right (by simp [ncells]; omega), ← this]
   congr 1; simp [ncells]; omega
 | [], _, i, j, x, iv, h, _, _ => by simp at h
 | _ :: _, [], i, j, x, iv, _, k, _ => by simp at k
theorem flatN_drop {ns : List Nd} {ivs : List AV} {i : Nat} {x : Nd} {iv : AV} (h : ns[i]? = some x) (k : ivs[i]? = some iv) (hl : ivs.length = ns.length) : ((flatN ns ivs).drop (i * 8)).take 8 = ncells x iv := by
 apply List.ext_getElem?
 intro j
 rw [List.getElem?_take]
 by_cases hj : j < 8
 · rw [if_pos hj, List.getElem?_drop, flatN_get h k hj]
 · rw [if_neg hj, List.getElem?_eq_none (by simp [ncells]; omega)]
variable [Env]
theorem ncells_cell (x : Nd) {iv : AV} (h : isCell iv = true) : allCell (ncells x iv) = true := by
 rw [allCell_iff]
 intro a ha
 simp only [ncells, List.mem_cons, List.not_mem_nil, or_false] at ha
 rcases ha with rfl | rfl | rfl | rfl | rfl | rfl | rfl | rfl <;> first | rfl | exact h
/-- A row of numbers, somewhere in [lo, hi), and none of three blocks. -/
def InsV (t : TB) (lo hi x b c : Nat) (v : AV) (l : List Int) : Prop :=
 (v = .nslice ∧ l = []) ∨ ∃ d ex, v = .slice d 0 l.length l.length 1 ex ∧ hv t d = some (.row (ints l) true) ∧ lo ≤ d ∧ d < hi ∧ d ≠ x ∧ d ≠ b ∧ d ≠ c
theorem InsV.cell {t : TB} {lo hi x b c : Nat} {v : AV} {l : List Int} (h : InsV t lo hi x b c v l) : isCell v = true := by
 rcases h with ⟨rfl, -⟩ | ⟨d, ex, rfl, -⟩ <;> rfl
theorem InsV.keep {t t' : TB} {lo hi hi' x b b' c c' : Nat} {v : AV} {l : List Int} (h : InsV t lo hi x b c v l) (hh : hi ≤ hi') (k : ∀ d, d < hi → d ≠ x → d ≠ b → d ≠ c → hv t' d = hv t d) (hb : b' = b ∨ hi ≤ b') (hc : c' = c ∨ hi ≤ c') : InsV t' lo hi' x b' c' v l := by
 rcases h with h | ⟨d, ex, h1, h2, h3, h4, h5, h6, h7⟩
 · exact .inl h
 · exact .inr ⟨d, ex, h1, (k d h4 h5 h6 h7).trans h2, h3, by omega, h5, by omega, by omega⟩
/-- The nodes: a row that is full, b; numbers that go in lie elsewhere. -/
structure NodesV (t : TB) (lo hi x b c : Nat) (vn : AV) (ns : List Nd) (ivs : List AV) : Prop where
 v : vn = .slice b 0 ns.length ns.length 8 false
 row : hv t b = some (.row (flatN ns ivs) true)
 ge : lo ≤ b
 lt : b < hi
 ne : b ≠ x
 nc : b ≠ c
 len : ivs.length = ns.length
 ins : ∀ (i : Nat) (nd : Nd) (iv : AV), ns[i]? = some nd → ivs[i]? = some iv → InsV t lo hi x b c iv nd.ins
/-- What is listed: its own block x, nodes, nets' numbers (row c). -/
structure Lst (t : TB) (lo hi x b c : Nat) (ns : List Nd) (ivs : List AV) (vn vt : AV) (ts : List Int) (p : Int) : Prop where
 own : hv t x = some (.row [vn, vt, .int .i64 p] true)
 lx : lo ≤ x
 hx : x < hi
 nodes : (vn = .nslice ∧ ns = [] ∧ ivs = []) ∨ NodesV t lo hi x b c vn ns ivs
 nets : (vt = .nslice ∧ ts = []) ∨ ∃ ex, vt = .slice c 0 ts.length ts.length 1 ex ∧ hv t c = some (.row (ints ts) true) ∧ lo ≤ c ∧ c < hi ∧ c ≠ x
theorem some_at {α : Type} {l : List α} {i : Nat} (h : i < l.length) : ∃ x, l[i]? = some x := ⟨l[i], List.getElem?_eq_getElem h⟩
theorem Lst.keep {t t' : TB} {lo m hi' x b c : Nat} {ns : List Nd} {ivs : List AV} {vn vt : AV} {ts : List Int} {p : Int} (h : Lst t lo m x b c ns ivs vn vt ts p) (hk : Keep t t' m (fun _ => False)) (hh : m ≤ hi') : Lst t' lo hi' x b c ns ivs vn vt ts p := by
 have hx := h.hx
 refine ⟨(hk x h.hx id).trans h.own, h.lx, by omega, ?_, ?_⟩
 · rcases h.nodes with hn | hn
   · exact .inl hn
   · have hlt := hn.lt
     exact .inr ⟨hn.v, (hk b hn.lt id).trans hn.row, hn.ge, by omega, hn.ne, hn.nc, hn.len, fun i e jv h1 h2 => (hn.ins i e jv h1 h2).keep hh (fun d h3 _ _ _ => hk d h3 id) (.inl rfl) (.inl rfl)⟩
 · rcases h.nets with hn | ⟨ex, h1, h2, h3, h4, h5⟩
   · exact .inl hn
   · exact .inr ⟨ex, h1, (hk c h4 id).trans h2, h3, by omega, h5⟩
def bitC (c : Nat) : Prop := c = 48 ∨ c = 49 ∨ c = 120 ∨ c = 122
/-- An operator's width, by the widths of what goes in; -1: it may not be. -/
def operW (x : Nd) (w : List Int) : Int :=
 if x.op = 7 ∨ x.op = 9 then (match w with | [a] => a | _ => -1)
 else if x.op = 8 ∨ x.op = 10 ∨ x.op = 11 ∨ x.op = 12 then (match w with | [_] => 1 | _ => -1)
 else if x.op = 13 ∨ x.op = 14 ∨ x.op = 23 ∨ x.op = 25 ∨ x.op = 24 then (match w with | [a, b] => if a = b then a else -1 | _ => -1)
 else if x.op = 15 ∨ x.op = 16 then (match w with | [a, _] => a | _ => -1)
 else if 17 ≤ x.op ∧ x.op ≤ 22 then (match w with | [a, b] => if a = b then 1 else -1 | _ => -1)
 else if x.op = 26 ∨ x.op = 27 ∨ x.op = 3 then (match w with | [_, _] => 1 | _ => -1)
 else if x.op = 6 then (match w with | [_, a, b] => if a = b then a else -1 | _ => -1)
 else if x.op = 4 then (match w with | [a] => if 0 ≤ x.lo ∧ x.lo ≤ x.hi ∧ x.hi < a then x.hi - x.lo + 1 else -1 | _ => -1)
 else if x.op = 5 then (if 1 ≤ w.length ∧ w.length ≤ 256 then w.sum else -1)
 else -1
def isV (s : List Nat) : Prop := 1 ≤ s.length ∧ s.length ≤ 256 ∧ ∀ c ∈ s, bitC c
def zeroP (x : Nd) : Prop := (x.kind = 3 ∨ x.op = 0) ∧ (x.kind = 1 ∨ x.value = []) ∧ ((x.kind = 3 ∧ x.op = 4) ∨ (x.hi = 0 ∧ x.lo = 0)) ∧ (x.kind = 8 ∨ x.time = 0)
def nodeP (w : List Int) (x : Nd) : Prop :=
 (x.kind = 1 ∧ w = [] ∧ isV x.value ∧ (x.value.length : Int) = x.wide) ∨ (x.kind = 2 ∧ w = []) ∨ (x.kind = 3 ∧ operW x w = x.wide) ∨
 (x.kind = 4 ∧ ∃ a, w = [a, x.wide, x.wide]) ∨ (x.kind = 5 ∧ (∃ a, w = [a, a]) ∧ x.wide = 1) ∨ (x.kind = 6 ∧ ∃ a, w = [a]) ∨
 (x.kind = 7 ∧ ∃ a, w = [a, x.wide]) ∨ (x.kind = 8 ∧ w = [x.wide] ∧ 1 ≤ x.time ∧ x.time ≤ 1048576)
def ndOK (w : List Int) (x : Nd) : Prop := zeroP x ∧ nodeP w x
def wdN (ns : List Nd) (k : Int) : Int := match ns[k.toNat]? with | some x => x.wide | none => 0
def hangs (x : Nd) : List Int := if x.kind = 8 then [] else if x.kind = 7 then x.ins.take 1 else x.ins
structure NdG (ns : List Nd) (i : Nat) (x : Nd) : Prop where
 wide : 1 ≤ x.wide ∧ x.wide ≤ 256
 ins : ∀ k ∈ x.ins, 0 ≤ k ∧ k < (ns.length : Int)
 ok : ndOK (x.ins.map (wdN ns)) x
 hang : ∀ k ∈ hangs x, k < (i : Int)
 inp : x.kind = 2 → i < 2
 few : x.ins.length ≤ 3
def NetG (ns : List Nd) : Prop := ∀ (i : Nat) (x : Nd), ns[i]? = some x → NdG ns i x
theorem wdN_app {ns : List Nd} {x : Nd} {k : Int} (h0 : 0 ≤ k) (h : k < (ns.length : Int)) : wdN (ns ++ [x]) k = wdN ns k := by
 unfold wdN
 rw [List.getElem?_append_left (by omega)]
theorem hangs_sub {x : Nd} {k : Int} (h : k ∈ hangs x) : k ∈ x.ins := by
 unfold hangs at h
 split at h
 · cases h
 · split at h
   · exact List.mem_of_mem_take h
   · exact h
theorem NetG.add {ns : List Nd} (h : NetG ns) (x : Nd) (hw : 1 ≤ x.wide ∧ x.wide ≤ 256) (hi : ∀ k ∈ x.ins, 0 ≤ k ∧ k < (ns.length : Int)) (ho : ndOK (x.ins.map (wdN ns)) x) (hk : x.kind = 2 → ns.length < 2) (hf : x.ins.length ≤ 3 := by exact Nat.le_of_ble_eq_true rfl) : NetG (ns ++ [x]) := by
 have wid : ∀ y : Nd, (∀ k ∈ y.ins, 0 ≤ k ∧ k < (ns.length : Int)) → y.ins.map (wdN (ns ++ [x])) = y.ins.map (wdN ns) := by
   intro y hy
   exact List.map_congr_left (fun k hk => wdN_app (hy k hk).1 (hy k hk).2)
 intro i y hy
 by_cases hlt : i < ns.length
 · rw [List.getElem?_append_left hlt] at hy
   have g := h i y hy
   exact ⟨g.wide, fun k hk => by have := g.ins k hk; rw [List.length_append]; simp; omega, by rw [wid y g.ins]; exact g.ok, g.hang, g.inp, g.few⟩
 · have e : i = ns.length := by
     have : i < (ns ++ [x]).length := by
       rcases Nat.lt_or_ge i (ns ++ [x]).length with h' | h'
       · exact h'
       · rw [List.getElem?_eq_none h'] at hy; cases hy
     simp at this; omega
   subst e
   simp at hy
   subst hy
   exact ⟨hw, fun k hk => by have := hi k hk; rw [List.length_append]; simp; omega, by rw [wid x hi]; exact ho, fun k hk => (hi k (hangs_sub hk)).2, hk, hf⟩
section
variable {ns : List Nd} {w : Int}
theorem ok_const {v : List Nat} (h : isV v) (e : (v.length : Int) = w) : ndOK [] ⟨1, 0, w, [], v, 0, 0, 0⟩ := ⟨⟨.inr rfl, .inl rfl, .inr ⟨rfl, rfl⟩, .inr rfl⟩, .inl ⟨rfl, rfl, h, e⟩⟩
theorem ok_in : ndOK [] ⟨2, 0, w, [], [], 0, 0, 0⟩ := ⟨⟨.inr rfl, .inr rfl, .inr ⟨rfl, rfl⟩, .inr rfl⟩, .inr (.inl ⟨rfl, rfl⟩)⟩
end
/-- Numbers, so many an element: nil, or a row. -/
def Rows5 (t : TB) (bd : Nat) (gv : AV) (n sz : Nat) : Prop :=
 (gv = .nslice ∧ n = 0) ∨ ∃ (g o c : Nat) (ex wr : Bool) (r : List AV), gv = .slice g o n c sz ex ∧ g < bd ∧ hv t g = some (.row r wr) ∧ o + n * sz ≤ r.length ∧ ∀ i, i < n * sz → ∃ a : Int, r[o + i]? = some (.int .i64 a)
theorem Rows5.keep {t t' : TB} {bd n sz : Nat} {gv : AV} {W : Nat → Prop} (h : Rows5 t bd gv n sz) (k : Keep t t' bd W) (hw : ∀ d, d < bd → ¬ W d) : Rows5 t' bd gv n sz := by
 rcases h with h | ⟨g, o, c, ex, wr, r, h1, h2, h3, h4⟩
 · exact .inl h
 · exact .inr ⟨g, o, c, ex, wr, r, h1, h2, (k g h2 (hw g h2)).trans h3, h4⟩
def Nd.with (x : Nd) (l : List Int) : Nd := ⟨x.kind, x.op, x.wide, l, x.value, x.hi, x.lo, x.time⟩
/-- The same but for what goes in. -/
def SameN (ns ns' : List Nd) : Prop := ns'.length = ns.length ∧ ∀ (j : Nat) (x : Nd), ns[j]? = some x → ∃ l, ns'[j]? = some (x.with l)
theorem SameN.refl (ns : List Nd) : SameN ns ns := ⟨rfl, fun j x h => ⟨x.ins, h⟩⟩
theorem SameN.set {ns ns' : List Nd} (h : SameN ns ns') {i : Nat} {x : Nd} (hx : ns'[i]? = some x) (l : List Int) : SameN ns (ns'.set i (x.with l)) := by
 refine ⟨by simp [h.1], fun j y hy => ?_⟩
 obtain ⟨l1, h1⟩ := h.2 j y hy
 rw [List.getElem?_set]
 by_cases e : i = j
 · subst e
   have hl : i < ns'.length := by
     rcases Nat.lt_or_ge i ns'.length with h' | h'
     · exact h'
     · rw [List.getElem?_eq_none h'] at hx; cases hx
   rw [hx] at h1
   cases h1
   exact ⟨l, by simp [hl, Nd.with]⟩
 · exact ⟨l1, by rw [if_neg e]; exact h1⟩
theorem wdN_set {ns : List Nd} {i : Nat} {x : Nd} (hx : ns[i]? = some x) (l : List Int) (k : Int) : wdN (ns.set i (x.with l)) k = wdN ns k := by
 unfold wdN
 rw [List.getElem?_set]
 by_cases e : i = k.toNat
 · subst e
   have hl : k.toNat < ns.length := by
     rcases Nat.lt_or_ge k.toNat ns.length with h' | h'
     · exact h'
     · rw [List.getElem?_eq_none h'] at hx; cases hx
   rw [if_pos rfl, if_pos hl, hx]
   rfl
 · rw [if_neg e]
theorem NetG.set {ns : List Nd} (h : NetG ns) {i : Nat} {x : Nd} (hx : ns[i]? = some x) {l : List Int} (hl : ∀ k ∈ l, 0 ≤ k ∧ k < (ns.length : Int)) (ho : ndOK (l.map (wdN ns)) (x.with l)) (hh : ∀ k ∈ hangs (x.with l), k < (i : Int)) (hf : l.length ≤ 3 := by exact Nat.le_of_ble_eq_true rfl) : NetG (ns.set i (x.with l)) := by
 intro j y hy
 have hw : wdN (ns.set i (x.with l)) = wdN ns := funext (wdN_set hx l)
 rw [List.getElem?_set] at hy
 by_cases e : i = j
 · subst e
   have hlt : i < ns.length := by
     rcases Nat.lt_or_ge i ns.length with h' | h'
     · exact h'
     · rw [List.getElem?_eq_none h'] at hx; cases hx
   simp [hlt] at hy
   subst hy
   have g := h i x hx
   exact ⟨g.wide, by simpa [Nd.with] using hl, by rw [hw]; exact ho, hh, g.inp, by simpa [Nd.with] using hf⟩
 · rw [if_neg e] at hy
   have g := h j y hy
   exact ⟨g.wide, by simpa using g.ins, by rw [hw]; exact g.ok, g.hang, g.inp, g.few⟩
def inNd (w : Int) : Nd := ⟨2, 0, w, [], [], 0, 0, 0⟩
def First2 (ns : List Nd) : Prop := (∃ l, ns[0]? = some ((inNd 1).with l)) ∧ ∃ l, ns[1]? = some ((inNd 3).with l)
theorem First2.app {ns ms : List Nd} (h : First2 ns) (h2 : 2 ≤ ns.length) : First2 (ns ++ ms) := by
 obtain ⟨⟨l, h0⟩, k, h1⟩ := h
 exact ⟨⟨l, by rw [List.getElem?_append_left (by omega)]; exact h0⟩, k, by rw [List.getElem?_append_left (by omega)]; exact h1⟩
/-- Behind a row of which it is not told whether its room is known. -/
theorem app_any {t : TB} {nx sz k b o n : Nat} {ex : Bool} {y : AV} {l cs : List AV} (hl : srcLen y = some k) (hs : srcCells y k sz t = some cs) (hc : allCell cs = true) (hb : hv t b = some (.row l true)) (ho : o + n * sz ≤ l.length) (hn : 0 < k) (hk : (n + k) * sz ≤ 65536) :
   ∃ t', appendA sz (.slice b o n n sz ex) y t nx = .ok (.slice nx 0 (n + k) (n + k) sz false) t' (nx + 1) ∧ ∃ t1, (∀ d, d ≠ b → hv t1 d = hv t d) ∧ hv t' = upd (hv t1) nx (some (.row ((l.drop o).take (n * sz) ++ cs) true)) := by
 obtain ⟨t', h1, h2⟩ := app_new (t := t) (nx := nx) (ex := ex) (c := n) hl hs hc hb ho (by omega) hk (.inr rfl)
 refine ⟨t', h1, if ex then t else t.put none b, ?_, ?_⟩
 · intro d hd
   cases ex with
   | true => rfl
   | false => show hv (t.put none b) d = _; rw [hv_put, upd_ne _ _ _ _ hd]
 · rw [h2]
   cases ex with
   | true => rfl
   | false => show upd (upd (hv t) b none) nx _ = upd (hv (t.put none b)) nx _; rw [hv_put]; rfl
/-- A netlist's rows, as they are read. -/
def RowI (t : TB) (bd : Nat) (v : AV) (l : List Int) : Prop :=
 (v = .nslice ∧ l = []) ∨ ∃ (d o c : Nat) (ex wr : Bool) (r : List AV), v = .slice d o l.length c 1 ex ∧ d < bd ∧ hv t d = some (.row r wr) ∧ (o + l.length ≤ r.length ∧ l.length ≤ c) ∧ (r.drop o).take l.length = ints l
def RowN (t : TB) (bd : Nat) (v : AV) (ns : List Nd) : Prop :=
 (v = .nslice ∧ ns = []) ∨ ∃ (d o c : Nat) (ex wr : Bool) (r ivs : List AV), v = .slice d o ns.length c 8 ex ∧ d < bd ∧ hv t d = some (.row r wr) ∧ o + ns.length * 8 ≤ r.length ∧ (r.drop o).take (ns.length * 8) = flatN ns ivs ∧ ivs.length = ns.length ∧
   ∀ (i : Nat) (x : Nd) (iv : AV), ns[i]? = some x → ivs[i]? = some iv → RowI t bd iv x.ins
theorem RowI.keep {t t' : TB} {bd bd' : Nat} {v : AV} {l : List Int} (h : RowI t bd v l) (k : Keep t t' bd (fun _ => False)) (hb : bd ≤ bd') : RowI t' bd' v l := by
 rcases h with h | ⟨d, o, c, ex, wr, r, h1, h2, h3, h4⟩
 · exact .inl h
 · exact .inr ⟨d, o, c, ex, wr, r, h1, by omega, (k d h2 id).trans h3, h4⟩
theorem RowN.keep {t t' : TB} {bd bd' : Nat} {v : AV} {ns : List Nd} (h : RowN t bd v ns) (k : Keep t t' bd (fun _ => False)) (hb : bd ≤ bd') : RowN t' bd' v ns := by
 rcases h with h | ⟨d, o, c, ex, wr, r, ivs, h1, h2, h3, h4, h5, h6, h7⟩
 · exact .inl h
 · exact .inr ⟨d, o, c, ex, wr, r, ivs, h1, by omega, (k d h2 id).trans h3, h4, h5, h6, fun i x iv e1 e2 => (h7 i x iv e1 e2).keep k hb⟩
theorem ints_len (l : List Int) : (ints l).length = l.length := by simp [ints]
/-- The nets of what is made: the inputs, and some behind them. -/
def NetsM (ts : List Int) (n : Nat) : Prop := ∃ us : List Int, ts = 0 :: 1 :: us ∧ us.length ≤ 4 ∧ ∀ u ∈ us, 2 ≤ u ∧ u < (n : Int)
theorem ints_snoc (l : List Int) (u : Int) : ints l ++ [.int .i64 u] = ints (l ++ [u]) := by simp [ints, i64]
theorem NetsM.of {ts : List Int} {n i : Nat} (h : ∃ us : List Int, ts = 0 :: 1 :: us ∧ us.length = i ∧ ∀ u ∈ us, 2 ≤ u ∧ u < (n : Int)) (hi : i ≤ 4) : NetsM ts n := by
 obtain ⟨us, h1, h2, h3⟩ := h
 exact ⟨us, h1, by omega, h3⟩
end
section
def is__r0 : LI := [.o 2 (.mov (kI 0))]
def is__r1 : LI := [.mv 3 0]
def is__r2 : LI := [.o 2 (.mov (kI 1))]
def is__r3 : LI := [.o 2 (.mov (kI 0))]
def is__c : IC := (.seq (.reg is__r0) (.seq (.seq (.reg is__r1) (.cond (.t 3) (.seq (.reg is__r2) .ret) .skip)) (.seq (.reg is__r3) .ret)))
theorem is__tab : tb 196 = some (.code 1 4 is__c [.tmp 2]) := by kernel_rfl
def operated_r0 : LI := [.o 2 (.box (.t 0)),
 .o 4 (.mov (kI 0))]
def operated_r1 : LI := [.mv 10 1,
 .o 11 (.len .slc (.t 10)),
 .mv 5 11]
def operated_r2 : LI := [.o 12 (.faddr (.t 2) 1),
 .o 13 (.load (.t 12)),
 .mv 6 13]
def operated_r3 : LI := [.mv 15 6,
 .o 16 (.bin .eql (.t 15) (kI 7)),
 .mv 17 16,
 .g 18 17 false (.mov (.t 6)),
 .g 19 17 false (.bin .eql (.t 18) (kI 9)),
 .o 20 (.pick (.t 17) (.c (.bool true)) (.t 19)),
 .mv 14 20]
def operated_r4 : LI := [.mv 21 5,
 .o 22 (.bin .eql (.t 21) (kI 1))]
def operated_r5 : LI := [.mv 23 1,
 .o 24 (.iaddr 1 (.t 23) (kI 0)),
 .o 25 (.load (.t 24)),
 .mv 4 25]
def operated_r6 : LI := [.mv 27 6,
 .o 28 (.bin .geq (.t 27) (kI 7)),
 .mv 29 28,
 .g 30 29 true (.mov (.t 6)),
 .g 31 29 true (.bin .leq (.t 30) (kI 12)),
 .o 32 (.pick (.t 29) (.t 31) (.c (.bool false))),
 .mv 26 32]
def operated_r7 : LI := [.mv 33 5,
 .o 34 (.bin .eql (.t 33) (kI 1)),
 .f 35 196 [(.t 34)],
 .mv 4 35]
def operated_r8 : LI := [.mv 37 6,
 .o 38 (.bin .eql (.t 37) (kI 15)),
 .mv 39 38,
 .g 40 39 false (.mov (.t 6)),
 .g 41 39 false (.bin .eql (.t 40) (kI 16)),
 .o 42 (.pick (.t 39) (.c (.bool true)) (.t 41)),
 .mv 36 42]
def operated_r9 : LI := [.mv 43 5,
 .o 44 (.bin .eql (.t 43) (kI 2))]
def operated_r10 : LI := [.mv 45 1,
 .o 46 (.iaddr 1 (.t 45) (kI 0)),
 .o 47 (.load (.t 46)),
 .mv 4 47]
def operated_r11 : LI := [.mv 49 6,
 .o 50 (.bin .eql (.t 49) (kI 13)),
 .mv 51 50,
 .g 52 51 false (.mov (.t 6)),
 .g 53 51 false (.bin .eql (.t 52) (kI 14)),
 .o 54 (.pick (.t 51) (.c (.bool true)) (.t 53)),
 .mv 55 54,
 .g 56 55 false (.mov (.t 6)),
 .g 57 55 false (.bin .eql (.t 56) (kI 23)),
 .o 58 (.pick (.t 55) (.c (.bool true)) (.t 57)),
 .mv 59 58,
 .g 60 59 false (.mov (.t 6)),
 .g 61 59 false (.bin .eql (.t 60) (kI 25)),
 .o 62 (.pick (.t 59) (.c (.bool true)) (.t 61)),
 .mv 63 62,
 .g 64 63 false (.mov (.t 6)),
 .g 65 63 false (.bin .eql (.t 64) (kI 24)),
 .o 66 (.pick (.t 63) (.c (.bool true)) (.t 65)),
 .mv 48 66]
def operated_r12 : List DIns := [⟨0, [], .mv 67 5⟩,
 ⟨1, [0], .o 68 (.bin .eql (.t 67) (kI 2))⟩,
 ⟨2, [1], .mv 69 68⟩,
 ⟨3, [2], .g 70 69 true (.mov (.t 1))⟩,
 ⟨4, [3, 2], .g 71 69 true (.iaddr 1 (.t 70) (kI 0))⟩,
 ⟨5, [4, 2], .g 72 69 true (.load (.t 71))⟩,
 ⟨6, [2], .g 73 69 true (.mov (.t 1))⟩,
 ⟨7, [6, 2], .g 74 69 true (.iaddr 1 (.t 73) (kI 1))⟩,
 ⟨8, [7, 2], .g 75 69 true (.load (.t 74))⟩,
 ⟨9, [5, 8, 2], .g 76 69 true (.bin .eql (.t 72) (.t 75))⟩,
 ⟨10, [2, 9], .o 77 (.pick (.t 69) (.t 76) (.c (.bool false)))⟩]
def operated_r13 : LI := [.mv 78 1,
 .o 79 (.iaddr 1 (.t 78) (kI 0)),
 .o 80 (.load (.t 79)),
 .mv 4 80]
def operated_r14 : LI := [.mv 82 6,
 .o 83 (.bin .geq (.t 82) (kI 17)),
 .mv 84 83,
 .g 85 84 true (.mov (.t 6)),
 .g 86 84 true (.bin .leq (.t 85) (kI 22)),
 .o 87 (.pick (.t 84) (.t 86) (.c (.bool false))),
 .mv 81 87]
def operated_r15 : List DIns := [⟨0, [], .mv 88 5⟩,
 ⟨1, [0], .o 89 (.bin .eql (.t 88) (kI 2))⟩,
 ⟨2, [1], .mv 90 89⟩,
 ⟨3, [2], .g 91 90 true (.mov (.t 1))⟩,
 ⟨4, [3, 2], .g 92 90 true (.iaddr 1 (.t 91) (kI 0))⟩,
 ⟨5, [4, 2], .g 93 90 true (.load (.t 92))⟩,
 ⟨6, [2], .g 94 90 true (.mov (.t 1))⟩,
 ⟨7, [6, 2], .g 95 90 true (.iaddr 1 (.t 94) (kI 1))⟩,
 ⟨8, [7, 2], .g 96 90 true (.load (.t 95))⟩,
 ⟨9, [5, 8, 2], .g 97 90 true (.bin .eql (.t 93) (.t 96))⟩,
 ⟨10, [2, 9], .o 98 (.pick (.t 90) (.t 97) (.c (.bool false)))⟩,
 ⟨11, [10, 2], .f 99 196 [(.t 98)]⟩,
 ⟨12, [11, 11, 0, 1, 2, 3, 4, 5, 6, 7, 8, 9, 10, 11], .mv 4 99⟩]
def operated_r16 : LI := [.mv 101 6,
 .o 102 (.bin .eql (.t 101) (kI 26)),
 .mv 103 102,
 .g 104 103 false (.mov (.t 6)),
 .g 105 103 false (.bin .eql (.t 104) (kI 27)),
 .o 106 (.pick (.t 103) (.c (.bool true)) (.t 105)),
 .mv 107 106,
 .g 108 107 false (.mov (.t 6)),
 .g 109 107 false (.bin .eql (.t 108) (kI 3)),
 .o 110 (.pick (.t 107) (.c (.bool true)) (.t 109)),
 .mv 100 110]
def operated_r17 : LI := [.mv 111 5,
 .o 112 (.bin .eql (.t 111) (kI 2)),
 .f 113 196 [(.t 112)],
 .mv 4 113]
def operated_r18 : LI := [.mv 115 6,
 .o 116 (.bin .eql (.t 115) (kI 6)),
 .mv 114 116]
def operated_r19 : List DIns := [⟨0, [], .mv 117 5⟩,
 ⟨1, [0], .o 118 (.bin .eql (.t 117) (kI 3))⟩,
 ⟨2, [1], .mv 119 118⟩,
 ⟨3, [2], .g 120 119 true (.mov (.t 1))⟩,
 ⟨4, [3, 2], .g 121 119 true (.iaddr 1 (.t 120) (kI 1))⟩,
 ⟨5, [4, 2], .g 122 119 true (.load (.t 121))⟩,
 ⟨6, [2], .g 123 119 true (.mov (.t 1))⟩,
 ⟨7, [6, 2], .g 124 119 true (.iaddr 1 (.t 123) (kI 2))⟩,
 ⟨8, [7, 2], .g 125 119 true (.load (.t 124))⟩,
 ⟨9, [5, 8, 2], .g 126 119 true (.bin .eql (.t 122) (.t 125))⟩,
 ⟨10, [2, 9], .o 127 (.pick (.t 119) (.t 126) (.c (.bool false)))⟩]
def operated_r20 : LI := [.mv 128 1,
 .o 129 (.iaddr 1 (.t 128) (kI 1)),
 .o 130 (.load (.t 129)),
 .mv 4 130]
def operated_r21 : LI := [.mv 132 6,
 .o 133 (.bin .eql (.t 132) (kI 4)),
 .mv 131 133]
def operated_r22 : List DIns := [⟨0, [], .mv 134 5⟩,
 ⟨1, [0], .o 135 (.bin .eql (.t 134) (kI 1))⟩,
 ⟨2, [1], .mv 136 135⟩,
 ⟨3, [2], .g 137 136 true (.faddr (.t 2) 6)⟩,
 ⟨4, [3, 2], .g 138 136 true (.load (.t 137))⟩,
 ⟨5, [4, 2], .g 139 136 true (.bin .geq (.t 138) (kI 0))⟩,
 ⟨6, [2, 5], .o 140 (.pick (.t 136) (.t 139) (.c (.bool false)))⟩,
 ⟨7, [6, 2], .mv 141 140⟩,
 ⟨8, [7], .g 142 141 true (.faddr (.t 2) 5)⟩,
 ⟨9, [8, 7], .g 143 141 true (.load (.t 142))⟩,
 ⟨10, [7], .g 144 141 true (.faddr (.t 2) 6)⟩,
 ⟨11, [10, 7], .g 145 141 true (.load (.t 144))⟩,
 ⟨12, [9, 11, 7], .g 146 141 true (.bin .geq (.t 143) (.t 145))⟩,
 ⟨13, [7, 12], .o 147 (.pick (.t 141) (.t 146) (.c (.bool false)))⟩,
 ⟨14, [13, 7], .mv 148 147⟩,
 ⟨15, [14], .g 149 148 true (.faddr (.t 2) 5)⟩,
 ⟨16, [15, 14], .g 150 148 true (.load (.t 149))⟩,
 ⟨17, [14], .g 151 148 true (.mov (.t 1))⟩,
 ⟨18, [17, 14], .g 152 148 true (.iaddr 1 (.t 151) (kI 0))⟩,
 ⟨19, [18, 14], .g 153 148 true (.load (.t 152))⟩,
 ⟨20, [16, 19, 14], .g 154 148 true (.bin .lss (.t 150) (.t 153))⟩,
 ⟨21, [14, 20], .o 155 (.pick (.t 148) (.t 154) (.c (.bool false)))⟩]
def operated_r23 : LI := [.o 156 (.faddr (.t 2) 5),
 .o 157 (.load (.t 156)),
 .o 158 (.faddr (.t 2) 6),
 .o 159 (.load (.t 158)),
 .o 160 (.bin .sub (.t 157) (.t 159)),
 .o 161 (.bin .add (.t 160) (kI 1)),
 .mv 4 161]
def operated_r24 : LI := [.mv 163 6,
 .o 164 (.bin .eql (.t 163) (kI 5)),
 .mv 162 164]
def operated_r25 : LI := [.o 7 (.mov (kI 0))]
def operated_r26 : LI := [.mv 165 1,
 .o 166 (.len .slc (.t 165)),
 .o 167 (.mov (kI 0))]
def operated_r27 : LI := [.o 168 (.bin .lss (.t 167) (.t 166))]
def operated_r28 : LI := [.o 169 (.iaddr 1 (.t 165) (.t 167)),
 .o 170 (.load (.t 169)),
 .mv 9 170]
def operated_r29 : LI := [.mv 171 7,
 .mv 172 9,
 .o 173 (.bin .add (.t 171) (.t 172)),
 .mv 7 173]
def operated_r30 : LI := [.o 174 (.bin .add (.t 167) (kI 1)),
 .mv 167 174]
def operated_r31 : LI := [.mv 175 7,
 .mv 4 175]
def operated_r32 : LI := [.o 4 (.mov (kI 0))]
def operated_c : IC := (.seq (.reg operated_r0) (.seq (.reg operated_r1) (.seq (.seq (.reg operated_r2) (.block 0 (.seq (.reg operated_r3) (.cond (.t 14) (.seq (.reg operated_r4) (.cond (.t 22) (.seq (.reg operated_r5) .ret) .skip)) (.seq (.reg operated_r6) (.cond (.t 26) (.seq (.reg operated_r7) .ret) (.seq (.reg operated_r8) (.cond (.t 36) (.seq (.reg operated_r9) (.cond (.t 44) (.seq (.reg operated_r10) .ret) .skip)) (.seq (.reg operated_r11) (.cond (.t 48) (.seq (.draw operated_r12) (.cond (.t 77) (.seq (.reg operated_r13) .ret) .skip)) (.seq (.reg operated_r14) (.cond (.t 81) (.seq (.draw operated_r15) .ret) (.seq (.reg operated_r16) (.cond (.t 100) (.seq (.reg operated_r17) .ret) (.seq (.reg operated_r18) (.cond (.t 114) (.seq (.draw operated_r19) (.cond (.t 127) (.seq (.reg operated_r20) .ret) .skip)) (.seq (.reg operated_r21) (.cond (.t 131) (.seq (.draw operated_r22) (.cond (.t 155) (.seq (.reg operated_r23) .ret) .skip)) (.seq (.reg operated_r24) (.cond (.t 162) (.seq (.reg operated_r25) (.seq (.seq (.reg operated_r26) (.block 1 (.loop (.seq (.reg operated_r27) (.seq (.cond (.t 168) .skip (.exit 1)) (.seq (.block 2 (.seq (.reg operated_r28) (.reg operated_r29))) (.reg operated_r30))))))) (.seq (.reg operated_r31) .ret))) .skip)))))))))))))))))))) (.seq (.reg operated_r32) .ret))))
theorem operated_tab : tb 150 = some (.code 2 176 operated_c [.tmp 4]) := by kernel_rfl
def lcheck_r0 : LI := [.o 2 (.mov (kI 0))]
def lcheck_r1 : LI := [.mv 3 0,
 .o 4 (.len .str (.t 3)),
 .o 5 (.bin .lss (.t 4) (kI 1)),
 .mv 6 5,
 .g 7 6 false (.mov (.t 0)),
 .g 8 6 false (.len .str (.t 7)),
 .g 9 6 false (.bin .gtr (.t 8) (kI 256)),
 .o 10 (.pick (.t 6) (.c (.bool true)) (.t 9)),
 .mv 11 10,
 .g 12 11 false (.mov (.t 0)),
 ⟨(some 13), (some (11, false)), (.callF 104 [(.t 12), (.c (.str [48, 49, 120, 122]))])⟩,
 .g 14 11 false (.bin .neq (.t 13) (.c (.str []))),
 .o 15 (.pick (.t 11) (.c (.bool true)) (.t 14))]
def lcheck_r2 : LI := [.o 2 (.mov (kI 10))]
def lcheck_r3 : LI := [.o 2 (.mov (kI 0))]
def lcheck_c : IC := (.seq (.reg lcheck_r0) (.seq (.seq (.reg lcheck_r1) (.cond (.t 15) (.seq (.reg lcheck_r2) .ret) .skip)) (.seq (.reg lcheck_r3) .ret)))
theorem lcheck_tab : tb 49 = some (.code 1 16 lcheck_c [.tmp 2]) := by kernel_rfl
def may_r0 : LI := [.o 2 (.box (.t 0)),
 .o 3 (.box (.t 1)),
 .o 4 (.mov (.c (.bool false)))]
def may_r1 : LI := [.o 5 (.mov (.c .nslice))]
def may_r2 : LI := [.o 10 (.faddr (.t 3) 3),
 .o 11 (.load (.t 10)),
 .o 12 (.len .slc (.t 11)),
 .o 13 (.mov (kI 0))]
def may_r3 : LI := [.o 14 (.bin .lss (.t 13) (.t 12))]
def may_r4 : LI := [.o 15 (.iaddr 1 (.t 11) (.t 13)),
 .o 16 (.load (.t 15)),
 .mv 7 16]
def may_r5 : LI := [.mv 17 5,
 .o 18 (.faddr (.t 2) 0),
 .o 19 (.load (.t 18)),
 .mv 20 7,
 .o 21 (.iaddr 8 (.t 19) (.t 20)),
 .o 22 (.faddr (.t 21) 2),
 .o 23 (.load (.t 22)),
 .o 24 (.bslice 1 1 [(.int .i64 0)] [(0, 1, (.t 23))]),
 .o 25 (.app 1 (.t 17) (.t 24)),
 .mv 5 25]
def may_r6 : LI := [.o 26 (.bin .add (.t 13) (kI 1)),
 .mv 13 26]
def may_r7 : LI := [.o 27 (.loadA 8 (.t 3)),
 .o 8 (.alloc [(.int .i64 0), (.int .i64 0), (.int .i64 0), .nslice, (.str []), (.int .i64 0), (.int .i64 0), (.int .i64 0)]),
 .x (.store 8 (.t 8) (.t 27))]
def may_r8 : LI := [.o 28 (.faddr (.t 8) 3),
 .x (.store 1 (.t 28) (.c .nslice)),
 .o 29 (.faddr (.t 8) 2),
 .x (.store 1 (.t 29) (kI 0)),
 .o 30 (.faddr (.t 8) 0),
 .x (.store 1 (.t 30) (kI 0))]
def may_r9 : LI := [.o 9 (.mov (.c (.bool false)))]
def may_r10 : LI := [.o 31 (.faddr (.t 3) 0),
 .o 32 (.load (.t 31))]
def may_r11 : LI := [.o 34 (.bin .eql (.t 32) (kI 1)),
 .mv 33 34]
def may_r12 : LI := [.mv 35 5,
 .o 36 (.len .slc (.t 35)),
 .o 37 (.bin .eql (.t 36) (kI 0)),
 .mv 38 37,
 .g 39 38 true (.faddr (.t 3) 4),
 .g 40 38 true (.load (.t 39)),
 ⟨(some 41), (some (38, true)), (.callF 49 [(.t 40)])⟩,
 .g 42 38 true (.bin .eql (.t 41) (kI 0)),
 .o 43 (.pick (.t 38) (.t 42) (.c (.bool false))),
 .mv 44 43,
 .g 45 44 true (.faddr (.t 3) 4),
 .g 46 44 true (.load (.t 45)),
 .g 47 44 true (.len .str (.t 46)),
 .g 48 44 true (.faddr (.t 3) 2),
 .g 49 44 true (.load (.t 48)),
 .g 50 44 true (.bin .eql (.t 47) (.t 49)),
 .o 51 (.pick (.t 44) (.t 50) (.c (.bool false))),
 .mv 9 51]
def may_r13 : LI := [.o 52 (.faddr (.t 8) 4),
 .x (.store 1 (.t 52) (.c (.str [])))]
def may_r14 : LI := [.o 54 (.bin .eql (.t 32) (kI 2)),
 .mv 53 54]
def may_r15 : LI := [.mv 55 5,
 .o 56 (.len .slc (.t 55)),
 .o 57 (.bin .eql (.t 56) (kI 0)),
 .mv 9 57]
def may_r16 : LI := [.o 59 (.bin .eql (.t 32) (kI 3)),
 .mv 58 59]
def may_r17 : List DIns := [⟨0, [], .o 60 (.loadA 8 (.t 3))⟩,
 ⟨1, [], .mv 61 5⟩,
 ⟨2, [0, 1], .f 62 150 [(.t 60), (.t 61)]⟩,
 ⟨3, [], .o 63 (.faddr (.t 3) 2)⟩,
 ⟨4, [3], .o 64 (.load (.t 63))⟩,
 ⟨5, [2, 4], .o 65 (.bin .eql (.t 62) (.t 64))⟩,
 ⟨6, [5, 2, 0, 1, 2, 3, 4, 5], .mv 9 65⟩]
def may_r18 : LI := [.o 66 (.faddr (.t 8) 1),
 .x (.store 1 (.t 66) (kI 0))]
def may_r19 : LI := [.o 67 (.faddr (.t 3) 1),
 .o 68 (.load (.t 67)),
 .o 69 (.bin .eql (.t 68) (kI 4))]
def may_r20 : LI := [.o 70 (.faddr (.t 8) 5),
 .x (.store 1 (.t 70) (kI 0)),
 .o 71 (.faddr (.t 8) 6),
 .x (.store 1 (.t 71) (kI 0))]
def may_r21 : LI := [.o 73 (.bin .eql (.t 32) (kI 4)),
 .mv 72 73]
def may_r22 : List DIns := [⟨0, [], .mv 74 5⟩,
 ⟨1, [0], .o 75 (.len .slc (.t 74))⟩,
 ⟨2, [1], .o 76 (.bin .eql (.t 75) (kI 3))⟩,
 ⟨3, [2], .mv 77 76⟩,
 ⟨4, [3], .g 78 77 true (.mov (.t 5))⟩,
 ⟨5, [4, 3], .g 79 77 true (.iaddr 1 (.t 78) (kI 1))⟩,
 ⟨6, [5, 3], .g 80 77 true (.load (.t 79))⟩,
 ⟨7, [3], .g 81 77 true (.faddr (.t 3) 2)⟩,
 ⟨8, [7, 3], .g 82 77 true (.load (.t 81))⟩,
 ⟨9, [6, 8, 3], .g 83 77 true (.bin .eql (.t 80) (.t 82))⟩,
 ⟨10, [3, 9], .o 84 (.pick (.t 77) (.t 83) (.c (.bool false)))⟩,
 ⟨11, [10, 3], .mv 85 84⟩,
 ⟨12, [11], .g 86 85 true (.mov (.t 5))⟩,
 ⟨13, [12, 11], .g 87 85 true (.iaddr 1 (.t 86) (kI 2))⟩,
 ⟨14, [13, 11], .g 88 85 true (.load (.t 87))⟩,
 ⟨15, [11], .g 89 85 true (.faddr (.t 3) 2)⟩,
 ⟨16, [15, 11], .g 90 85 true (.load (.t 89))⟩,
 ⟨17, [14, 16, 11], .g 91 85 true (.bin .eql (.t 88) (.t 90))⟩,
 ⟨18, [11, 17], .o 92 (.pick (.t 85) (.t 91) (.c (.bool false)))⟩,
 ⟨19, [18, 11, 0, 1, 2, 3, 4, 5, 6, 7, 8, 9, 10, 11, 12, 13, 14, 15, 16, 17, 18], .mv 9 92⟩]
def may_r23 : LI := [.o 94 (.bin .eql (.t 32) (kI 5)),
 .mv 93 94]
def may_r24 : List DIns := [⟨0, [], .mv 95 5⟩,
 ⟨1, [0], .o 96 (.len .slc (.t 95))⟩,
 ⟨2, [1], .o 97 (.bin .eql (.t 96) (kI 2))⟩,
 ⟨3, [2], .mv 98 97⟩,
 ⟨4, [3], .g 99 98 true (.mov (.t 5))⟩,
 ⟨5, [4, 3], .g 100 98 true (.iaddr 1 (.t 99) (kI 0))⟩,
 ⟨6, [5, 3], .g 101 98 true (.load (.t 100))⟩,
 ⟨7, [3], .g 102 98 true (.mov (.t 5))⟩,
 ⟨8, [7, 3], .g 103 98 true (.iaddr 1 (.t 102) (kI 1))⟩,
 ⟨9, [8, 3], .g 104 98 true (.load (.t 103))⟩,
 ⟨10, [6, 9, 3], .g 105 98 true (.bin .eql (.t 101) (.t 104))⟩,
 ⟨11, [3, 10], .o 106 (.pick (.t 98) (.t 105) (.c (.bool false)))⟩,
 ⟨12, [11, 3], .mv 107 106⟩,
 ⟨13, [12], .g 108 107 true (.faddr (.t 3) 2)⟩,
 ⟨14, [13, 12], .g 109 107 true (.load (.t 108))⟩,
 ⟨15, [14, 12], .g 110 107 true (.bin .eql (.t 109) (kI 1))⟩,
 ⟨16, [12, 15], .o 111 (.pick (.t 107) (.t 110) (.c (.bool false)))⟩,
 ⟨17, [16, 12, 0, 1, 2, 3, 4, 5, 6, 7, 8, 9, 10, 11, 12, 13, 14, 15, 16], .mv 9 111⟩]
def may_r25 : LI := [.o 113 (.bin .eql (.t 32) (kI 6)),
 .mv 112 113]
def may_r26 : LI := [.mv 114 5,
 .o 115 (.len .slc (.t 114)),
 .o 116 (.bin .eql (.t 115) (kI 1)),
 .mv 9 116]
def may_r27 : LI := [.o 118 (.bin .eql (.t 32) (kI 7)),
 .mv 117 118]
def may_r28 : List DIns := [⟨0, [], .mv 119 5⟩,
 ⟨1, [0], .o 120 (.len .slc (.t 119))⟩,
 ⟨2, [1], .o 121 (.bin .eql (.t 120) (kI 2))⟩,
 ⟨3, [2], .mv 122 121⟩,
 ⟨4, [3], .g 123 122 true (.mov (.t 5))⟩,
 ⟨5, [4, 3], .g 124 122 true (.iaddr 1 (.t 123) (kI 1))⟩,
 ⟨6, [5, 3], .g 125 122 true (.load (.t 124))⟩,
 ⟨7, [3], .g 126 122 true (.faddr (.t 3) 2)⟩,
 ⟨8, [7, 3], .g 127 122 true (.load (.t 126))⟩,
 ⟨9, [6, 8, 3], .g 128 122 true (.bin .eql (.t 125) (.t 127))⟩,
 ⟨10, [3, 9], .o 129 (.pick (.t 122) (.t 128) (.c (.bool false)))⟩,
 ⟨11, [10, 3, 0, 1, 2, 3, 4, 5, 6, 7, 8, 9, 10], .mv 9 129⟩]
def may_r29 : LI := [.o 131 (.bin .eql (.t 32) (kI 8)),
 .mv 130 131]
def may_r30 : List DIns := [⟨0, [], .mv 132 5⟩,
 ⟨1, [0], .o 133 (.len .slc (.t 132))⟩,
 ⟨2, [1], .o 134 (.bin .eql (.t 133) (kI 1))⟩,
 ⟨3, [2], .mv 135 134⟩,
 ⟨4, [3], .g 136 135 true (.mov (.t 5))⟩,
 ⟨5, [4, 3], .g 137 135 true (.iaddr 1 (.t 136) (kI 0))⟩,
 ⟨6, [5, 3], .g 138 135 true (.load (.t 137))⟩,
 ⟨7, [3], .g 139 135 true (.faddr (.t 3) 2)⟩,
 ⟨8, [7, 3], .g 140 135 true (.load (.t 139))⟩,
 ⟨9, [6, 8, 3], .g 141 135 true (.bin .eql (.t 138) (.t 140))⟩,
 ⟨10, [3, 9], .o 142 (.pick (.t 135) (.t 141) (.c (.bool false)))⟩,
 ⟨11, [10, 3], .mv 143 142⟩,
 ⟨12, [11], .g 144 143 true (.faddr (.t 3) 7)⟩,
 ⟨13, [12, 11], .g 145 143 true (.load (.t 144))⟩,
 ⟨14, [13, 11], .g 146 143 true (.bin .geq (.t 145) (kI 1))⟩,
 ⟨15, [11, 14], .o 147 (.pick (.t 143) (.t 146) (.c (.bool false)))⟩,
 ⟨16, [15, 11], .mv 148 147⟩,
 ⟨17, [16], .g 149 148 true (.faddr (.t 3) 7)⟩,
 ⟨18, [17, 16], .g 150 148 true (.load (.t 149))⟩,
 ⟨19, [18, 16], .g 151 148 true (.bin .leq (.t 150) (kI 1048576))⟩,
 ⟨20, [16, 19], .o 152 (.pick (.t 148) (.t 151) (.c (.bool false)))⟩,
 ⟨21, [20, 16, 0, 1, 2, 3, 4, 5, 6, 7, 8, 9, 10, 11, 12, 13, 14, 15, 16, 17, 18, 19, 20], .mv 9 152⟩]
def may_r31 : LI := [.o 153 (.faddr (.t 8) 7),
 .x (.store 1 (.t 153) (kI 0))]
def may_r32 : LI := [.mv 154 9,
 .mv 155 154,
 .g 156 155 true (.faddr (.t 8) 1),
 .g 157 155 true (.load (.t 156)),
 .g 158 155 true (.bin .eql (.t 157) (kI 0)),
 .o 159 (.pick (.t 155) (.t 158) (.c (.bool false))),
 .mv 160 159,
 .g 161 160 true (.faddr (.t 8) 4),
 .g 162 160 true (.load (.t 161)),
 .g 163 160 true (.bin .eql (.t 162) (.c (.str []))),
 .o 164 (.pick (.t 160) (.t 163) (.c (.bool false))),
 .mv 165 164,
 .g 166 165 true (.faddr (.t 8) 5),
 .g 167 165 true (.load (.t 166)),
 .g 168 165 true (.bin .eql (.t 167) (kI 0)),
 .o 169 (.pick (.t 165) (.t 168) (.c (.bool false))),
 .mv 170 169,
 .g 171 170 true (.faddr (.t 8) 6),
 .g 172 170 true (.load (.t 171)),
 .g 173 170 true (.bin .eql (.t 172) (kI 0)),
 .o 174 (.pick (.t 170) (.t 173) (.c (.bool false))),
 .mv 175 174,
 .g 176 175 true (.faddr (.t 8) 7),
 .g 177 175 true (.load (.t 176)),
 .g 178 175 true (.bin .eql (.t 177) (kI 0)),
 .o 179 (.pick (.t 175) (.t 178) (.c (.bool false))),
 .mv 4 179]
def may_c : IC := (.seq (.reg may_r0) (.seq (.reg may_r1) (.seq (.seq (.reg may_r2) (.block 0 (.loop (.seq (.reg may_r3) (.seq (.cond (.t 14) .skip (.exit 0)) (.seq (.block 1 (.seq (.reg may_r4) (.reg may_r5))) (.reg may_r6))))))) (.seq (.reg may_r7) (.seq (.reg may_r8) (.seq (.reg may_r9) (.seq (.seq (.reg may_r10) (.block 2 (.seq (.reg may_r11) (.cond (.t 33) (.seq (.reg may_r12) (.reg may_r13)) (.seq (.reg may_r14) (.cond (.t 53) (.reg may_r15) (.seq (.reg may_r16) (.cond (.t 58) (.seq (.draw may_r17) (.seq (.reg may_r18) (.seq (.reg may_r19) (.cond (.t 69) (.reg may_r20) .skip)))) (.seq (.reg may_r21) (.cond (.t 72) (.draw may_r22) (.seq (.reg may_r23) (.cond (.t 93) (.draw may_r24) (.seq (.reg may_r25) (.cond (.t 112) (.reg may_r26) (.seq (.reg may_r27) (.cond (.t 117) (.draw may_r28) (.seq (.reg may_r29) (.cond (.t 130) (.seq (.draw may_r30) (.reg may_r31)) .skip)))))))))))))))))) (.seq (.reg may_r32) .ret))))))))
theorem may_tab : tb 103 = some (.code 2 180 may_c [.tmp 4]) := by kernel_rfl
def chk_r0 : LI := [.o 1 (.box (.t 0)),
 .o 2 (.mov (kI 0))]
def chk_r1 : LI := [.o 11 (.faddr (.t 1) 0),
 .o 12 (.load (.t 11)),
 .o 13 (.len .slc (.t 12)),
 .o 14 (.bin .gtr (.t 13) (kI 4096)),
 .mv 15 14,
 .g 16 15 false (.faddr (.t 1) 2),
 .g 17 15 false (.load (.t 16)),
 .g 18 15 false (.faddr (.t 1) 1),
 .g 19 15 false (.load (.t 18)),
 .g 20 15 false (.len .slc (.t 19)),
 .g 21 15 false (.bin .neq (.t 17) (.t 20)),
 .o 22 (.pick (.t 15) (.c (.bool true)) (.t 21))]
def chk_r2 : LI := [.o 2 (.mov (kI 1))]
def chk_r3 : LI := [.o 23 (.mkfn 100 [] [(.t 1)]),
 .o 3 (.alloc [.nfunc]),
 .x (.store 1 (.t 3) (.t 23))]
def chk_r4 : LI := [.o 24 (.faddr (.t 1) 0),
 .o 25 (.load (.t 24)),
 .o 26 (.len .slc (.t 25)),
 .o 27 (.mov (kI 0))]
def chk_r5 : LI := [.o 28 (.bin .lss (.t 27) (.t 26))]
def chk_r6 : LI := [.o 29 (.iaddr 8 (.t 25) (.t 27)),
 .o 30 (.loadA 8 (.t 29)),
 .o 5 (.alloc [(.int .i64 0), (.int .i64 0), (.int .i64 0), .nslice, (.str []), (.int .i64 0), (.int .i64 0), (.int .i64 0)]),
 .x (.store 8 (.t 5) (.t 30))]
def chk_r7 : LI := [.o 31 (.faddr (.t 5) 2),
 .o 32 (.load (.t 31)),
 .o 33 (.bin .lss (.t 32) (kI 1)),
 .mv 34 33,
 .g 35 34 false (.faddr (.t 5) 2),
 .g 36 34 false (.load (.t 35)),
 .g 37 34 false (.bin .gtr (.t 36) (kI 256)),
 .o 38 (.pick (.t 34) (.c (.bool true)) (.t 37)),
 .mv 39 38,
 .g 40 39 false (.faddr (.t 5) 3),
 .g 41 39 false (.load (.t 40)),
 .g 42 39 false (.mkfn 102 [] [(.t 3)]),
 ⟨(some 43), (some (39, false)), (.callF 101 [(.t 41), (.t 42)])⟩,
 .o 44 (.pick (.t 39) (.c (.bool true)) (.t 43))]
def chk_r8 : LI := [.o 2 (.mov (kI 1))]
def chk_r9 : LI := [.o 45 (.bin .add (.t 27) (kI 1)),
 .mv 27 45]
def chk_r10 : LI := [.o 46 .mkmap,
 .mv 6 46]
def chk_r11 : LI := [.o 47 (.faddr (.t 1) 1),
 .o 48 (.load (.t 47)),
 .o 49 (.len .slc (.t 48)),
 .o 50 (.mov (kI 0))]
def chk_r12 : LI := [.o 51 (.bin .lss (.t 50) (.t 49))]
def chk_r13 : LI := [.o 52 (.iaddr 1 (.t 48) (.t 50)),
 .o 53 (.load (.t 52)),
 .mv 8 53]
def chk_r14 : LI := [.o 54 (.load (.t 3)),
 .mv 55 8,
 ⟨(some 56), none, (.callV (.t 54) [(.t 55)])⟩,
 .o 57 (.not (.t 56))]
def chk_r15 : LI := [.o 2 (.mov (kI 1))]
def chk_r16 : LI := [.mv 58 6,
 .mv 59 8,
 .o 60 (.look .int (.int .i64 0) (.t 58) (.t 59) false),
 .o 61 (.bin .add (.t 60) (kI 1)),
 .x (.mupd .int (.t 58) (.t 59) (.t 61))]
def chk_r17 : LI := [.o 62 (.bin .add (.t 50) (kI 1)),
 .mv 50 62]
def chk_r18 : LI := [.o 63 (.faddr (.t 1) 0),
 .o 64 (.load (.t 63)),
 .o 65 (.len .slc (.t 64)),
 .o 66 (.mov (kI 0))]
def chk_r19 : LI := [.o 67 (.bin .lss (.t 66) (.t 65))]
def chk_r20 : LI := [.mv 68 66,
 .o 69 (.iaddr 8 (.t 64) (.t 66)),
 .o 70 (.loadA 8 (.t 69)),
 .o 10 (.alloc [(.int .i64 0), (.int .i64 0), (.int .i64 0), .nslice, (.str []), (.int .i64 0), (.int .i64 0), (.int .i64 0)]),
 .mv 9 68,
 .x (.store 8 (.t 10) (.t 70))]
def chk_r21 : LI := [.o 71 (.loadA 3 (.t 1)),
 .o 72 (.loadA 8 (.t 10)),
 .f 73 103 [(.t 71), (.t 72)],
 .o 74 (.not (.t 73)),
 .mv 75 74,
 .g 76 75 false (.faddr (.t 10) 0),
 .g 77 75 false (.load (.t 76)),
 .g 78 75 false (.bin .eql (.t 77) (kI 2)),
 .g 79 75 false (.mov (.t 78)),
 .g 80 79 true (.mov (.t 6)),
 .g 81 79 true (.mov (.t 9)),
 .g 82 79 true (.look .int (.int .i64 0) (.t 80) (.t 81) false),
 .g 83 79 true (.bin .neq (.t 82) (kI 1)),
 .g 84 75 false (.pick (.t 79) (.t 83) (.c (.bool false))),
 .o 85 (.pick (.t 75) (.c (.bool true)) (.t 84))]
def chk_r22 : LI := [.o 2 (.mov (kI 1))]
def chk_r23 : LI := [.o 86 (.bin .add (.t 66) (kI 1)),
 .mv 66 86]
def chk_r24 : LI := [.o 2 (.mov (kI 0))]
def chk_c : IC := (.seq (.reg chk_r0) (.seq (.seq (.reg chk_r1) (.cond (.t 22) (.seq (.reg chk_r2) .ret) .skip)) (.seq (.reg chk_r3) (.seq (.seq (.reg chk_r4) (.block 0 (.loop (.seq (.reg chk_r5) (.seq (.cond (.t 28) .skip (.exit 0)) (.seq (.block 1 (.seq (.reg chk_r6) (.seq (.reg chk_r7) (.cond (.t 44) (.seq (.reg chk_r8) .ret) .skip)))) (.reg chk_r9))))))) (.seq (.reg chk_r10) (.seq (.seq (.reg chk_r11) (.block 2 (.loop (.seq (.reg chk_r12) (.seq (.cond (.t 51) .skip (.exit 2)) (.seq (.block 3 (.seq (.reg chk_r13) (.seq (.seq (.reg chk_r14) (.cond (.t 57) (.seq (.reg chk_r15) .ret) .skip)) (.reg chk_r16)))) (.reg chk_r17))))))) (.seq (.seq (.reg chk_r18) (.block 4 (.loop (.seq (.reg chk_r19) (.seq (.cond (.t 67) .skip (.exit 4)) (.seq (.block 5 (.seq (.reg chk_r20) (.seq (.reg chk_r21) (.cond (.t 85) (.seq (.reg chk_r22) .ret) .skip)))) (.reg chk_r23))))))) (.seq (.reg chk_r24) .ret))))))))
theorem chk_tab : tb 48 = some (.code 1 87 chk_c [.tmp 2]) := by kernel_rfl
def chk1_r0 : LI := [.o 3 (.mov (.c (.bool false)))]
def chk1_r1 : LI := [.mv 4 0,
 .o 5 (.bin .geq (.t 4) (kI 0)),
 .mv 6 5,
 .g 7 6 true (.mov (.t 0)),
 .g 8 6 true (.faddr (.t 1) 0),
 .g 9 6 true (.load (.t 8)),
 .g 10 6 true (.len .slc (.t 9)),
 .g 11 6 true (.bin .lss (.t 7) (.t 10)),
 .o 12 (.pick (.t 6) (.t 11) (.c (.bool false))),
 .mv 3 12]
def chk1_c : IC := (.seq (.reg chk1_r0) (.seq (.reg chk1_r1) .ret))
theorem chk1_tab : tb 100 = some (.code 2 13 chk1_c [.tmp 3]) := by kernel_rfl
def chk2_r0 : LI := [.o 3 (.mov (.c (.bool false)))]
def chk2_r1 : LI := [.o 4 (.load (.t 1)),
 .mv 5 0,
 ⟨(some 6), none, (.callV (.t 4) [(.t 5)])⟩,
 .o 7 (.not (.t 6)),
 .mv 3 7]
def chk2_c : IC := (.seq (.reg chk2_r0) (.seq (.reg chk2_r1) .ret))
theorem chk2_tab : tb 102 = some (.code 2 8 chk2_c [.tmp 3]) := by kernel_rfl
def contains_r0 : LI := [.o 4 (.mov (.c (.bool false)))]
def contains_r1 : LI := [.mv 5 0,
 .mv 6 1,
 .f 7 149 [(.t 5), (.t 6)],
 .o 8 (.bin .geq (.t 7) (kI 0)),
 .mv 4 8]
def contains_c : IC := (.seq (.reg contains_r0) (.seq (.reg contains_r1) .ret))
theorem contains_tab : tb 101 = some (.code 2 9 contains_c [.tmp 4]) := by kernel_rfl
def index_r0 : LI := [.o 4 (.mov (kI 0))]
def index_r1 : LI := [.mv 6 0,
 .o 7 (.len .slc (.t 6)),
 .o 8 (.mov (kI 0))]
def index_r2 : LI := [.o 9 (.bin .lss (.t 8) (.t 7))]
def index_r3 : LI := [.mv 10 8,
 .mv 5 10]
def index_r4 : LI := [.mv 11 1,
 .mv 12 0,
 .mv 13 5,
 .o 14 (.iaddr 1 (.t 12) (.t 13)),
 .o 15 (.load (.t 14)),
 ⟨(some 16), none, (.callV (.t 11) [(.t 15)])⟩]
def index_r5 : LI := [.mv 17 5,
 .mv 4 17]
def index_r6 : LI := [.o 18 (.bin .add (.t 8) (kI 1)),
 .mv 8 18]
def index_r7 : LI := [.o 4 (.mov (kI (-1)))]
def index_c : IC := (.seq (.reg index_r0) (.seq (.seq (.reg index_r1) (.block 0 (.loop (.seq (.reg index_r2) (.seq (.cond (.t 9) .skip (.exit 0)) (.seq (.block 1 (.seq (.reg index_r3) (.seq (.reg index_r4) (.cond (.t 16) (.seq (.reg index_r5) .ret) .skip)))) (.reg index_r6))))))) (.seq (.reg index_r7) .ret)))
theorem index_tab : tb 149 = some (.code 2 19 index_c [.tmp 4]) := by kernel_rfl
variable [Env]
theorem rowI_get {r : List AV} {o i : Nat} {l : List Int} {a : Int} (h : (r.drop o).take l.length = ints l) (hi : l[i]? = some a) : r[o + i]? = some (.int .i64 a) := by
 have hl : i < l.length := by
   rcases Nat.lt_or_ge i l.length with h' | h'
   · exact h'
   · rw [List.getElem?_eq_none h'] at hi; cases hi
 have e := congrArg (fun m => m[i]?) h
 simp only [List.getElem?_take, if_pos hl, List.getElem?_drop] at e
 rw [e]
 simp [ints, i64, hi]
theorem o_len_I {T : TA} {t t0 : TB} {nx bd : Nat} {l : List Int} {gv : AV} {x : Opd} (h : RowI t0 bd gv l) (hx : x.ev T = some gv) : (IOp.len .slc x).run T t nx = .ok (.int .i64 ((l.length : Nat) : Int)) t nx := by
 rcases h with ⟨rfl, rfl⟩ | ⟨g, o, c, ex, wr, r, rfl, -⟩
 · exact o_len_nslice hx
 · exact o_len_slice hx
theorem o_len_N {T : TA} {t t0 : TB} {nx bd : Nat} {l : List Nd} {gv : AV} {x : Opd} (h : RowN t0 bd gv l) (hx : x.ev T = some gv) : (IOp.len .slc x).run T t nx = .ok (.int .i64 ((l.length : Nat) : Int)) t nx := by
 rcases h with ⟨rfl, rfl⟩ | ⟨g, o, c, ex, wr, r, ivs, rfl, -⟩
 · exact o_len_nslice hx
 · exact o_len_slice hx
theorem len1 {l : List Int} (h : ((l.length : Nat) : Int) = 1) : ∃ a, l = [a] := by
 match l, h with
 | [a], _ => exact ⟨a, rfl⟩
 | [], h => simp at h
 | _ :: _ :: _, h => simp at h; omega
theorem len2 {l : List Int} (h : ((l.length : Nat) : Int) = 2) : ∃ a b, l = [a, b] := by
 match l, h with
 | [a, b], _ => exact ⟨a, b, rfl⟩
 | [], h => simp at h
 | [_], h => simp at h
 | _ :: _ :: _ :: _, h => simp at h; omega
theorem len3 {l : List Int} (h : ((l.length : Nat) : Int) = 3) : ∃ a b c, l = [a, b, c] := by
 match l, h with
 | [a, b, c], _ => exact ⟨a, b, c, rfl⟩
 | [], h => simp at h
 | [_], h => simp at h
 | [_, _], h => simp at h
 | _ :: _ :: _ :: _ :: _, h => simp at h; omega
theorem len0 {l : List Int} (h : ((l.length : Nat) : Int) = 0) : l = [] := by
 cases l with
 | nil => rfl
 | cons a l => simp at h; omega
/-- What the program's own reckoning tells of a width. -/
def OperA (x : Nd) (w : List Int) (r : Int) : Prop := (x.op = 5 → r = w.sum) ∧ (x.op ≠ 5 → operW x w = r ∨ r = 0 ∧ operW x w = -1)
theorem sum_le {l : List Int} (h : ∀ a ∈ l, 1 ≤ a ∧ a ≤ 256) : (l.length : Int) ≤ l.sum ∧ l.sum ≤ 256 * (l.length : Int) := by
 induction l with
 | nil => simp
 | cons a l ih =>
   have h1 := h a (by simp)
   have h2 := ih (fun b hb => h b (by simp [hb]))
   simp only [List.sum_cons, List.length_cons]
   omega
theorem sum_take {l : List Int} {i : Nat} {a : Int} (h : l[i]? = some a) : (l.take (i + 1)).sum = (l.take i).sum + a := by
 rw [List.take_succ, h]; simp
theorem is_ok {t : TB} {nx : Nat} (b : Bool) : WF tb 196 [.bool b] t nx (fun v t' nx' => v = .int .i64 (if b then 1 else 0) ∧ nx ≤ nx' ∧ Keep t t' nx (fun _ => False)) := by
 cases b
 · refine k_fun is__tab rfl ?_
   unfold is__c
   change WC _ _ (Bt.put (some _) Bt.e 0) _ _ _
   refine k_seq (k_reg (rO (o_mov ev_c) (r_nil (k_seq (k_seq (k_reg (m1 (z1 get_same) (r_nil (k_cond_f eZ (k_skip (k_seq (k_reg (rO (o_mov ev_c) (r_nil (k_ret ?_)))))))))))))))
   exact ⟨_, ans_tmp ds, rfl, Nat.le_refl _, kR⟩
 refine k_fun is__tab rfl ?_
 unfold is__c
 change WC _ _ (Bt.put (some _) Bt.e 0) _ _ _
 refine k_seq (k_reg (rO (o_mov ev_c) (r_nil (k_seq (k_seq (k_reg (m1 (z1 get_same) (r_nil (k_cond_t eZ (k_seq (k_reg (rO (o_mov ev_c) (r_nil (k_ret ?_))))))))))))))
 exact ⟨_, ans_tmp ds, rfl, Nat.le_refl _, kR⟩
set_option maxHeartbeats 8000000 in
theorem operated_ok {t : TB} {nx bd : Nat} (x : Nd) (iv wv : AV) (ws : List Int) (hw : RowI t bd wv ws) (hb : bd ≤ nx) (hs : ∀ a ∈ ws, 1 ≤ a ∧ a ≤ 256) (hl : ws.length < 1000000000000000) :
   WF tb 150 [.agg (ncells x iv), wv] t nx (fun v t' nx' => ∃ r, v = .int .i64 r ∧ OperA x ws r ∧ nx ≤ nx' ∧ Keep t t' nx (fun _ => False)) := by
 unfold ncells
 rcases hw with ⟨rfl, rfl⟩ | ⟨d, o, cc, ex, wr, r, rfl, hd, hr, hrl, hseg⟩
 · refine k_fun operated_tab rfl ?_
   unfold operated_c
   change WC _ _ (Bt.put (some _) (Bt.put (some _) Bt.e 0) 1) _ _ _
   refine k_seq (k_reg (r_heap (o_box (eV (get_other rfl get_same))) rfl (fun t1 (hh2 : hv t1 = upd (hv t) nx (some (.row [(.int .i64 x.kind), (.int .i64 x.op), (.int .i64 x.wide), iv, (.str x.value), (.int .i64 x.hi), (.int .i64 x.lo), (.int .i64 x.time)] true))) => rO (o_mov ev_c) (r_nil (k_seq (k_reg (m1 (z2 get_same) (rO (o_len_nslice eZ) (m1 ds (r_nil (k_seq (k_seq (k_reg (rO (o_faddr (off := 1) (eV (z4 ds))) (rO (o_load eZ (lS hh2) rfl) (m1 ds (r_nil (k_block (k_seq ?_)))))))))))))))))))
   refine k_cut (fun T_ t_ n_ => t1 = t_ ∧ (nx + 1) = n_ ∧ T_.get 14 = some (.bool (decide (x.op = 7 ∨ x.op = 9))) ∧ T_.get 1 = some .nslice ∧ T_.get 2 = some (.ptr nx 0) ∧ T_.get 5 = some (.int .i64 ((0 : Nat) : Int)) ∧ T_.get 6 = some (.int .i64 x.op)) ?_ ?_
   · refine k_reg (m1 ds ?_)
     by_cases hs9 : (x.op = 7)
     · refine rO (dec_t (o_eql eZ ev_c) hs9) (m1 ds (r_off (wN ds) (r_off (wN (z1 ds)) (rO (o_pick_t (eV (z2 ds)) ev_c) (m1 ds (r_nil ?_))))))
       exact ⟨rfl, rfl, bt_ (by omega) ds, (z1 (z2 (z4 (z8 get_same)))), (z2 (z4 (z8 ds))), (z2 (z8 ds)), (z1 (z2 (z4 ds)))⟩
     refine rO (dec_f (o_eql eZ ev_c) hs9) (m1 ds (r_op (o_mov (eV (z1 (z2 ds)))) (want_on ds) (r_op (o_eql eZ ev_c) (want_on (z1 ds)) (rO (o_pick_f (eV (z2 ds)) eZ) (m1 ds (r_nil ?_))))))
     exact ⟨rfl, rfl, bd_ ⟨fun _ => by omega, fun _ => by omega⟩ ds, (z1 (z2 (z4 (z8 get_same)))), (z2 (z4 (z8 ds))), (z2 (z8 ds)), (z1 (z2 (z4 ds)))⟩
   rintro T3 _ _ ⟨rfl, rfl, q4, q5, q6, q7, q8⟩
   refine k_if (eV q4) (fun hc10 => ?_) (fun hc10 => ?_)
   · refine k_seq (k_reg (m1 q7 (rO (dec_f (o_eql eZ ev_c) (by simp)) (r_nil (k_cond_f eZ (k_skip (k_seq (k_reg (rO (o_mov ev_c) (r_nil (k_ret ?_)))))))))))
     have hfin : OperA x [] 0 := by
       refine ⟨fun e => by exfalso; omega, fun _ => ?_⟩
       unfold operW
       rw [if_pos (by omega)]
       first | exact .inl rfl | exact .inr ⟨rfl, rfl⟩ | (dsimp only; first | (rw [if_pos (by omega)]; first | exact .inl rfl | exact .inl (by omega)) | (rw [if_neg (by omega)]; exact .inr ⟨rfl, rfl⟩))
     exact ⟨_, ans_tmp ds, _, rfl, hfin, by omega, kU kR hh2⟩
   refine k_seq ?_
   refine k_cut (fun T_ t_ n_ => t1 = t_ ∧ (nx + 1) = n_ ∧ T_.get 26 = some (.bool (decide (7 ≤ x.op ∧ x.op ≤ 12))) ∧ T_.get 1 = some .nslice ∧ T_.get 2 = some (.ptr nx 0) ∧ T_.get 5 = some (.int .i64 ((0 : Nat) : Int)) ∧ T_.get 6 = some (.int .i64 x.op)) ?_ ?_
   · refine k_reg (m1 q8 ?_)
     by_cases hs17 : (x.op < 7)
     · refine rO (ndec_f (o_geq eZ ev_c) hs17) (m1 ds (r_off (wN ds) (r_off (wN (z1 ds)) (rO (o_pick_f (eV (z2 ds)) ev_c) (m1 ds (r_nil ?_))))))
       exact ⟨rfl, rfl, bf_ (by omega) ds, (z1 (z2 (z4 q5))), (z1 (z2 (z4 q6))), (z1 (z2 (z4 q7))), (z1 (z2 (z4 q8)))⟩
     refine rO (ndec_t (o_geq eZ ev_c) hs17) (m1 ds (r_op (o_mov (eV (z1 (z2 q8)))) (want_on ds) (r_op (o_leq eZ ev_c) (want_on (z1 ds)) (rO (o_pick_t (eV (z2 ds)) eZ) (m1 ds (r_nil ?_))))))
     exact ⟨rfl, rfl, bn_ ⟨fun _ => by omega, fun _ => by omega⟩ ds, (z1 (z2 (z4 q5))), (z1 (z2 (z4 q6))), (z1 (z2 (z4 q7))), (z1 (z2 (z4 q8)))⟩
   rintro T11 _ _ ⟨rfl, rfl, q12, q13, q14, q15, q16⟩
   refine k_if (eV q12) (fun hc18 => ?_) (fun hc18 => ?_)
   · refine k_seq (k_reg (m1 q15 (rO (dec_f (o_eql eZ ev_c) (by simp)) (r_call (w_callF (evs_cons eZ evs_nil)) rfl (WF.mono (is_ok false) ?_)))))
     rintro _ t19 n20 ⟨rfl, hni, hki⟩
     refine m1 ds (r_nil (k_ret ?_))
     have hfin : OperA x [] (if false then 1 else 0) := by
       refine ⟨fun e => by exfalso; omega, fun _ => ?_⟩
       unfold operW
       rw [if_neg (by omega), if_pos (by omega)]
       first | exact .inl rfl | exact .inr ⟨rfl, rfl⟩ | (dsimp only; first | (rw [if_pos (by omega)]; first | exact .inl rfl | exact .inl (by omega)) | (rw [if_neg (by omega)]; exact .inr ⟨rfl, rfl⟩))
     exact ⟨_, ans_tmp ds, _, rfl, hfin, by omega, Keep.trans (kU kR hh2) hki (by omega) (fun d _ h => h)⟩
   refine k_seq ?_
   refine k_cut (fun T_ t_ n_ => t1 = t_ ∧ (nx + 1) = n_ ∧ T_.get 36 = some (.bool (decide (x.op = 15 ∨ x.op = 16))) ∧ T_.get 1 = some .nslice ∧ T_.get 2 = some (.ptr nx 0) ∧ T_.get 5 = some (.int .i64 ((0 : Nat) : Int)) ∧ T_.get 6 = some (.int .i64 x.op)) ?_ ?_
   · refine k_reg (m1 q16 ?_)
     by_cases hs27 : (x.op = 15)
     · refine rO (dec_t (o_eql eZ ev_c) hs27) (m1 ds (r_off (wN ds) (r_off (wN (z1 ds)) (rO (o_pick_t (eV (z2 ds)) ev_c) (m1 ds (r_nil ?_))))))
       exact ⟨rfl, rfl, bt_ (by omega) ds, (z1 (z2 (z4 q13))), (z1 (z2 (z4 q14))), (z1 (z2 (z4 q15))), (z1 (z2 (z4 q16)))⟩
     refine rO (dec_f (o_eql eZ ev_c) hs27) (m1 ds (r_op (o_mov (eV (z1 (z2 q16)))) (want_on ds) (r_op (o_eql eZ ev_c) (want_on (z1 ds)) (rO (o_pick_f (eV (z2 ds)) eZ) (m1 ds (r_nil ?_))))))
     exact ⟨rfl, rfl, bd_ ⟨fun _ => by omega, fun _ => by omega⟩ ds, (z1 (z2 (z4 q13))), (z1 (z2 (z4 q14))), (z1 (z2 (z4 q15))), (z1 (z2 (z4 q16)))⟩
   rintro T21 _ _ ⟨rfl, rfl, q22, q23, q24, q25, q26⟩
   refine k_if (eV q22) (fun hc28 => ?_) (fun hc28 => ?_)
   · refine k_seq (k_reg (m1 q25 (rO (dec_f (o_eql eZ ev_c) (by simp)) (r_nil (k_cond_f eZ (k_skip (k_seq (k_reg (rO (o_mov ev_c) (r_nil (k_ret ?_)))))))))))
     have hfin : OperA x [] 0 := by
       refine ⟨fun e => by exfalso; omega, fun _ => ?_⟩
       unfold operW
       rw [if_neg (by omega), if_neg (by omega), if_neg (by omega), if_pos (by omega)]
       first | exact .inl rfl | exact .inr ⟨rfl, rfl⟩ | (dsimp only; first | (rw [if_pos (by omega)]; first | exact .inl rfl | exact .inl (by omega)) | (rw [if_neg (by omega)]; exact .inr ⟨rfl, rfl⟩))
     exact ⟨_, ans_tmp ds, _, rfl, hfin, by omega, kU kR hh2⟩
   refine k_seq ?_
   refine k_cut (fun T_ t_ n_ => t1 = t_ ∧ (nx + 1) = n_ ∧ T_.get 48 = some (.bool (decide (x.op = 13 ∨ x.op = 14 ∨ x.op = 23 ∨ x.op = 25 ∨ x.op = 24))) ∧ T_.get 1 = some .nslice ∧ T_.get 2 = some (.ptr nx 0) ∧ T_.get 5 = some (.int .i64 ((0 : Nat) : Int)) ∧ T_.get 6 = some (.int .i64 x.op)) ?_ ?_
   · refine k_reg (m1 q26 ?_)
     by_cases hs35 : (x.op = 13)
     · refine rO (dec_t (o_eql eZ ev_c) hs35) (m1 ds (r_off (wN ds) (r_off (wN (z1 ds)) (rO (o_pick_t (eV (z2 ds)) ev_c) (m1 ds (r_off (wN ds) (r_off (wN (z1 ds)) (rO (o_pick_t (eV (z2 ds)) ev_c) (m1 ds (r_off (wN ds) (r_off (wN (z1 ds)) (rO (o_pick_t (eV (z2 ds)) ev_c) (m1 ds (r_off (wN ds) (r_off (wN (z1 ds)) (rO (o_pick_t (eV (z2 ds)) ev_c) (m1 ds (r_nil ?_))))))))))))))))))
       exact ⟨rfl, rfl, bt_ (by omega) ds, (z1 (z2 (z16 q23))), (z1 (z2 (z16 q24))), (z1 (z2 (z16 q25))), (z1 (z2 (z16 q26)))⟩
     refine rO (dec_f (o_eql eZ ev_c) hs35) (m1 ds (r_op (o_mov (eV (z1 (z2 q26)))) (want_on ds) ?_))
     by_cases hs36 : (x.op = 14)
     · refine r_op (dec_t (o_eql eZ ev_c) hs36) (want_on (z1 ds)) (rO (o_pick_f (eV (z2 ds)) eZ) (m1 ds (r_off (wN ds) (r_off (wN (z1 ds)) (rO (o_pick_t (eV (z2 ds)) ev_c) (m1 ds (r_off (wN ds) (r_off (wN (z1 ds)) (rO (o_pick_t (eV (z2 ds)) ev_c) (m1 ds (r_off (wN ds) (r_off (wN (z1 ds)) (rO (o_pick_t (eV (z2 ds)) ev_c) (m1 ds (r_nil ?_)))))))))))))))
       exact ⟨rfl, rfl, bt_ (by omega) ds, (z1 (z2 (z16 q23))), (z1 (z2 (z16 q24))), (z1 (z2 (z16 q25))), (z1 (z2 (z16 q26)))⟩
     refine r_op (dec_f (o_eql eZ ev_c) hs36) (want_on (z1 ds)) (rO (o_pick_f (eV (z2 ds)) eZ) (m1 ds (r_op (o_mov (eV (z1 (z2 (z4 q26))))) (want_on ds) ?_)))
     by_cases hs37 : (x.op = 23)
     · refine r_op (dec_t (o_eql eZ ev_c) hs37) (want_on (z1 ds)) (rO (o_pick_f (eV (z2 ds)) eZ) (m1 ds (r_off (wN ds) (r_off (wN (z1 ds)) (rO (o_pick_t (eV (z2 ds)) ev_c) (m1 ds (r_off (wN ds) (r_off (wN (z1 ds)) (rO (o_pick_t (eV (z2 ds)) ev_c) (m1 ds (r_nil ?_)))))))))))
       exact ⟨rfl, rfl, bt_ (by omega) ds, (z1 (z2 (z16 q23))), (z1 (z2 (z16 q24))), (z1 (z2 (z16 q25))), (z1 (z2 (z16 q26)))⟩
     refine r_op (dec_f (o_eql eZ ev_c) hs37) (want_on (z1 ds)) (rO (o_pick_f (eV (z2 ds)) eZ) (m1 ds (r_op (o_mov (eV (z1 (z2 (z8 q26))))) (want_on ds) ?_)))
     by_cases hs38 : (x.op = 25)
     · refine r_op (dec_t (o_eql eZ ev_c) hs38) (want_on (z1 ds)) (rO (o_pick_f (eV (z2 ds)) eZ) (m1 ds (r_off (wN ds) (r_off (wN (z1 ds)) (rO (o_pick_t (eV (z2 ds)) ev_c) (m1 ds (r_nil ?_)))))))
       exact ⟨rfl, rfl, bt_ (by omega) ds, (z1 (z2 (z16 q23))), (z1 (z2 (z16 q24))), (z1 (z2 (z16 q25))), (z1 (z2 (z16 q26)))⟩
     refine r_op (dec_f (o_eql eZ ev_c) hs38) (want_on (z1 ds)) (rO (o_pick_f (eV (z2 ds)) eZ) (m1 ds (r_op (o_mov (eV (z1 (z2 (z4 (z8 q26)))))) (want_on ds) (r_op (o_eql eZ ev_c) (want_on (z1 ds)) (rO (o_pick_f (eV (z2 ds)) eZ) (m1 ds (r_nil ?_)))))))
     exact ⟨rfl, rfl, bd_ ⟨fun _ => by omega, fun _ => by omega⟩ ds, (z1 (z2 (z16 q23))), (z1 (z2 (z16 q24))), (z1 (z2 (z16 q25))), (z1 (z2 (z16 q26)))⟩
   rintro T29 _ _ ⟨rfl, rfl, q30, q31, q32, q33, q34⟩
   refine k_if (eV q30) (fun hc39 => ?_) (fun hc39 => ?_)
   · refine k_seq (k_draw (eO 0 rfl (o_mov (eV q33)) (eO 1 rfl (dec_f (o_eql eZ ev_c) (by simp)) (eO 2 rfl (o_mov eZ) (e_off 3 rfl (wN ds) (e_off 4 rfl (wN (z1 ds)) (e_off 5 rfl (wN (z2 ds)) (e_off 6 rfl (wN (z1 (z2 ds))) (e_off 7 rfl (wN (z4 ds)) (e_off 8 rfl (wN (z1 (z4 ds))) (e_off 9 rfl (wN (z2 (z4 ds))) (eO 10 rfl (o_pick_f (eV (z1 (z2 (z4 ds)))) ev_c) (e_done (k_cond_f eZ (k_skip (k_seq (k_reg (rO (o_mov ev_c) (r_nil (k_ret ?_))))))))))))))))))))
     have hfin : OperA x [] 0 := by
       refine ⟨fun e => by exfalso; omega, fun _ => ?_⟩
       unfold operW
       rw [if_neg (by omega), if_neg (by omega), if_pos (by omega)]
       first | exact .inl rfl | exact .inr ⟨rfl, rfl⟩ | (dsimp only; first | (rw [if_pos (by omega)]; first | exact .inl rfl | exact .inl (by omega)) | (rw [if_neg (by omega)]; exact .inr ⟨rfl, rfl⟩))
     exact ⟨_, ans_tmp ds, _, rfl, hfin, by omega, kU kR hh2⟩
   refine k_seq ?_
   refine k_cut (fun T_ t_ n_ => t1 = t_ ∧ (nx + 1) = n_ ∧ T_.get 81 = some (.bool (decide (17 ≤ x.op ∧ x.op ≤ 22))) ∧ T_.get 1 = some .nslice ∧ T_.get 2 = some (.ptr nx 0) ∧ T_.get 5 = some (.int .i64 ((0 : Nat) : Int)) ∧ T_.get 6 = some (.int .i64 x.op)) ?_ ?_
   · refine k_reg (m1 q34 ?_)
     by_cases hs46 : (x.op < 17)
     · refine rO (ndec_f (o_geq eZ ev_c) hs46) (m1 ds (r_off (wN ds) (r_off (wN (z1 ds)) (rO (o_pick_f (eV (z2 ds)) ev_c) (m1 ds (r_nil ?_))))))
       exact ⟨rfl, rfl, bf_ (by omega) ds, (z1 (z2 (z4 q31))), (z1 (z2 (z4 q32))), (z1 (z2 (z4 q33))), (z1 (z2 (z4 q34)))⟩
     refine rO (ndec_t (o_geq eZ ev_c) hs46) (m1 ds (r_op (o_mov (eV (z1 (z2 q34)))) (want_on ds) (r_op (o_leq eZ ev_c) (want_on (z1 ds)) (rO (o_pick_t (eV (z2 ds)) eZ) (m1 ds (r_nil ?_))))))
     exact ⟨rfl, rfl, bn_ ⟨fun _ => by omega, fun _ => by omega⟩ ds, (z1 (z2 (z4 q31))), (z1 (z2 (z4 q32))), (z1 (z2 (z4 q33))), (z1 (z2 (z4 q34)))⟩
   rintro T40 _ _ ⟨rfl, rfl, q41, q42, q43, q44, q45⟩
   refine k_if (eV q41) (fun hc47 => ?_) (fun hc47 => ?_)
   · refine k_seq (k_draw (eO 0 rfl (o_mov (eV q44)) (eO 1 rfl (dec_f (o_eql eZ ev_c) (by simp)) (eO 2 rfl (o_mov eZ) (e_off 3 rfl (wN ds) (e_off 4 rfl (wN (z1 ds)) (e_off 5 rfl (wN (z2 ds)) (e_off 6 rfl (wN (z1 (z2 ds))) (e_off 7 rfl (wN (z4 ds)) (e_off 8 rfl (wN (z1 (z4 ds))) (e_off 9 rfl (wN (z2 (z4 ds))) (eO 10 rfl (o_pick_f (eV (z1 (z2 (z4 ds)))) ev_c) (d_call (ix := 11) (pr := [10, 2]) (d := (some 99)) (g := none) (F' := [(⟨6, [2], .g 94 90 true (.mov (.t 1))⟩, .undef), (⟨3, [2], .g 91 90 true (.mov (.t 1))⟩, .undef)]) (w_callF (evs_cons eZ evs_nil)) rfl (by kernel_rfl) (by kernel_rfl) (by kernel_rfl) (by kernel_rfl) (WF.mono (is_ok false) ?_))))))))))))))
     rintro _ t48 n49 ⟨rfl, hni, hki⟩
     refine ⟨?_, ?_⟩
     · exact (all_cons_ (still_off (wN (z1 (z8 ds)))) (all_cons_ (still_off (wN (z1 (z8 ds)))) all_nil_))
     refine eO 12 rfl (o_mov eZ) (e_done (k_ret ?_))
     have hfin : OperA x [] (if false then 1 else 0) := by
       refine ⟨fun e => by exfalso; omega, fun _ => ?_⟩
       unfold operW
       rw [if_neg (by omega), if_neg (by omega), if_neg (by omega), if_neg (by omega), if_pos (by omega)]
       first | exact .inl rfl | exact .inr ⟨rfl, rfl⟩ | (dsimp only; first | (rw [if_pos (by omega)]; first | exact .inl rfl | exact .inl (by omega)) | (rw [if_neg (by omega)]; exact .inr ⟨rfl, rfl⟩))
     exact ⟨_, ans_tmp ds, _, rfl, hfin, by omega, Keep.trans (kU kR hh2) hki (by omega) (fun d _ h => h)⟩
   refine k_seq ?_
   refine k_cut (fun T_ t_ n_ => t1 = t_ ∧ (nx + 1) = n_ ∧ T_.get 100 = some (.bool (decide (x.op = 26 ∨ x.op = 27 ∨ x.op = 3))) ∧ T_.get 1 = some .nslice ∧ T_.get 2 = some (.ptr nx 0) ∧ T_.get 5 = some (.int .i64 ((0 : Nat) : Int)) ∧ T_.get 6 = some (.int .i64 x.op)) ?_ ?_
   · refine k_reg (m1 q45 ?_)
     by_cases hs56 : (x.op = 26)
     · refine rO (dec_t (o_eql eZ ev_c) hs56) (m1 ds (r_off (wN ds) (r_off (wN (z1 ds)) (rO (o_pick_t (eV (z2 ds)) ev_c) (m1 ds (r_off (wN ds) (r_off (wN (z1 ds)) (rO (o_pick_t (eV (z2 ds)) ev_c) (m1 ds (r_nil ?_))))))))))
       exact ⟨rfl, rfl, bt_ (by omega) ds, (z1 (z2 (z8 q42))), (z1 (z2 (z8 q43))), (z1 (z2 (z8 q44))), (z1 (z2 (z8 q45)))⟩
     refine rO (dec_f (o_eql eZ ev_c) hs56) (m1 ds (r_op (o_mov (eV (z1 (z2 q45)))) (want_on ds) ?_))
     by_cases hs57 : (x.op = 27)
     · refine r_op (dec_t (o_eql eZ ev_c) hs57) (want_on (z1 ds)) (rO (o_pick_f (eV (z2 ds)) eZ) (m1 ds (r_off (wN ds) (r_off (wN (z1 ds)) (rO (o_pick_t (eV (z2 ds)) ev_c) (m1 ds (r_nil ?_)))))))
       exact ⟨rfl, rfl, bt_ (by omega) ds, (z1 (z2 (z8 q42))), (z1 (z2 (z8 q43))), (z1 (z2 (z8 q44))), (z1 (z2 (z8 q45)))⟩
     refine r_op (dec_f (o_eql eZ ev_c) hs57) (want_on (z1 ds)) (rO (o_pick_f (eV (z2 ds)) eZ) (m1 ds (r_op (o_mov (eV (z1 (z2 (z4 q45))))) (want_on ds) (r_op (o_eql eZ ev_c) (want_on (z1 ds)) (rO (o_pick_f (eV (z2 ds)) eZ) (m1 ds (r_nil ?_)))))))
     exact ⟨rfl, rfl, bd_ ⟨fun _ => by omega, fun _ => by omega⟩ ds, (z1 (z2 (z8 q42))), (z1 (z2 (z8 q43))), (z1 (z2 (z8 q44))), (z1 (z2 (z8 q45)))⟩
   rintro T50 _ _ ⟨rfl, rfl, q51, q52, q53, q54, q55⟩
   refine k_if (eV q51) (fun hc58 => ?_) (fun hc58 => ?_)
   · refine k_seq (k_reg (m1 q54 (rO (dec_f (o_eql eZ ev_c) (by simp)) (r_call (w_callF (evs_cons eZ evs_nil)) rfl (WF.mono (is_ok false) ?_)))))
     rintro _ t59 n60 ⟨rfl, hni, hki⟩
     refine m1 ds (r_nil (k_ret ?_))
     have hfin : OperA x [] (if false then 1 else 0) := by
       refine ⟨fun e => by exfalso; omega, fun _ => ?_⟩
       unfold operW
       rw [if_neg (by omega), if_neg (by omega), if_neg (by omega), if_neg (by omega), if_neg (by omega), if_pos (by omega)]
       first | exact .inl rfl | exact .inr ⟨rfl, rfl⟩ | (dsimp only; first | (rw [if_pos (by omega)]; first | exact .inl rfl | exact .inl (by omega)) | (rw [if_neg (by omega)]; exact .inr ⟨rfl, rfl⟩))
     exact ⟨_, ans_tmp ds, _, rfl, hfin, by omega, Keep.trans (kU kR hh2) hki (by omega) (fun d _ h => h)⟩
   refine k_seq (k_reg (m1 q55 (rO (o_eql eZ ev_c) (m1 ds (r_nil ?_)))))
   refine k_if eZ (fun hc61 => ?_) (fun hc61 => ?_)
   · refine k_seq (k_draw (eO 0 rfl (o_mov (eV (z1 (z2 q54)))) (eO 1 rfl (dec_f (o_eql eZ ev_c) (by simp)) (eO 2 rfl (o_mov eZ) (e_off 3 rfl (wN ds) (e_off 4 rfl (wN (z1 ds)) (e_off 5 rfl (wN (z2 ds)) (e_off 6 rfl (wN (z1 (z2 ds))) (e_off 7 rfl (wN (z4 ds)) (e_off 8 rfl (wN (z1 (z4 ds))) (e_off 9 rfl (wN (z2 (z4 ds))) (eO 10 rfl (o_pick_f (eV (z1 (z2 (z4 ds)))) ev_c) (e_done (k_cond_f eZ (k_skip (k_seq (k_reg (rO (o_mov ev_c) (r_nil (k_ret ?_))))))))))))))))))))
     have hfin : OperA x [] 0 := by
       refine ⟨fun e => by exfalso; omega, fun _ => ?_⟩
       unfold operW
       rw [if_neg (by omega), if_neg (by omega), if_neg (by omega), if_neg (by omega), if_neg (by omega), if_neg (by omega), if_pos (by omega)]
       first | exact .inl rfl | exact .inr ⟨rfl, rfl⟩ | (dsimp only; first | (rw [if_pos (by omega)]; first | exact .inl rfl | exact .inl (by omega)) | (rw [if_neg (by omega)]; exact .inr ⟨rfl, rfl⟩))
     exact ⟨_, ans_tmp ds, _, rfl, hfin, by omega, kU kR hh2⟩
   refine k_seq (k_reg (m1 (z1 (z2 q55)) (rO (o_eql eZ ev_c) (m1 ds (r_nil ?_)))))
   refine k_if eZ (fun hc62 => ?_) (fun hc62 => ?_)
   · refine k_seq (k_draw (eO 0 rfl (o_mov (eV (z2 (z4 q54)))) (eO 1 rfl (dec_f (o_eql eZ ev_c) (by simp)) (eO 2 rfl (o_mov eZ) (e_off 3 rfl (wN ds) (e_off 4 rfl (wN (z1 ds)) (e_off 5 rfl (wN (z2 ds)) (eO 6 rfl (o_pick_f (eV (z1 (z2 ds))) ev_c) (eO 7 rfl (o_mov eZ) (e_off 8 rfl (wN ds) (e_off 9 rfl (wN (z1 ds)) (e_off 10 rfl (wN (z2 ds)) (e_off 11 rfl (wN (z1 (z2 ds))) (e_off 12 rfl (wN (z4 ds)) (eO 13 rfl (o_pick_f (eV (z1 (z4 ds))) ev_c) (eO 14 rfl (o_mov eZ) (e_off 15 rfl (wN ds) (e_off 16 rfl (wN (z1 ds)) (e_off 17 rfl (wN (z2 ds)) (e_off 18 rfl (wN (z1 (z2 ds))) (e_off 19 rfl (wN (z4 ds)) (e_off 20 rfl (wN (z1 (z4 ds))) (eO 21 rfl (o_pick_f (eV (z2 (z4 ds))) ev_c) (e_done (k_cond_f eZ (k_skip (k_seq (k_reg (rO (o_mov ev_c) (r_nil (k_ret ?_)))))))))))))))))))))))))))))))
     have hfin : OperA x [] 0 := by
       refine ⟨fun e => by exfalso; omega, fun _ => ?_⟩
       unfold operW
       rw [if_neg (by omega), if_neg (by omega), if_neg (by omega), if_neg (by omega), if_neg (by omega), if_neg (by omega), if_neg (by omega), if_pos (by omega)]
       first | exact .inl rfl | exact .inr ⟨rfl, rfl⟩ | (dsimp only; first | (rw [if_pos (by omega)]; first | exact .inl rfl | exact .inl (by omega)) | (rw [if_neg (by omega)]; exact .inr ⟨rfl, rfl⟩))
     exact ⟨_, ans_tmp ds, _, rfl, hfin, by omega, kU kR hh2⟩
   refine k_seq (k_reg (m1 (z2 (z4 q55)) (rO (o_eql eZ ev_c) (m1 ds (r_nil ?_)))))
   refine k_if eZ (fun hc63 => ?_) (fun hc63 => ?_)
   · refine k_seq (k_reg (rO (o_mov ev_c) (r_nil (k_seq (k_seq (k_reg (m1 (z2 (z8 q52)) (rO (o_len_nslice eZ) (rO (o_mov ev_c) (r_nil (k_block (k_loop (fun mm Tv tv nv => Tv.get 166 = some (.int .i64 ((0 : Nat) : Int)) ∧ Tv.get 167 = some (.int .i64 0) ∧ Tv.get 7 = some (.int .i64 0) ∧ nx ≤ nv ∧ Keep t tv nx (fun _ => False)) (fun mm Tv tv nv hI => ?_) (0) ⟨(z1 ds), ds, (z1 (z2 ds)), by omega, kU kR hh2⟩))))))))))))
     obtain ⟨p6, p7, p8, hnv, hkp⟩ := hI
     refine k_seq (k_reg (rO (dec_f (o_lss (eV p7) (eV p6)) (by simp)) (r_nil (k_seq (k_cond_f eZ (k_exit (exK_same (k_seq (k_reg (m1 (z1 p8) (m1 ds (r_nil (k_ret ?_)))))))))))))
     have hfin : OperA x [] 0 := by
       exact ⟨fun _ => rfl, fun e => by exfalso; omega⟩
     exact ⟨_, ans_tmp ds, _, rfl, hfin, by omega, hkp⟩
   refine k_skip (k_seq (k_reg (rO (o_mov ev_c) (r_nil (k_ret ?_)))))
   have hfin : OperA x [] 0 := by
     refine ⟨fun e => by exfalso; omega, fun _ => ?_⟩
     unfold operW
     rw [if_neg (by omega), if_neg (by omega), if_neg (by omega), if_neg (by omega), if_neg (by omega), if_neg (by omega), if_neg (by omega), if_neg (by omega), if_neg (by omega)]
     exact .inr ⟨rfl, rfl⟩
   exact ⟨_, ans_tmp ds, _, rfl, hfin, by omega, kU kR hh2⟩
 refine k_fun operated_tab rfl ?_
 unfold operated_c
 change WC _ _ (Bt.put (some _) (Bt.put (some _) Bt.e 0) 1) _ _ _
 refine k_seq (k_reg (r_heap (o_box (eV (get_other rfl get_same))) rfl (fun t1 (hh2 : hv t1 = upd (hv t) nx (some (.row [(.int .i64 x.kind), (.int .i64 x.op), (.int .i64 x.wide), iv, (.str x.value), (.int .i64 x.hi), (.int .i64 x.lo), (.int .i64 x.time)] true))) => rO (o_mov ev_c) (r_nil (k_seq (k_reg (m1 (z2 get_same) (rO (o_len_slice eZ) (m1 ds (r_nil (k_seq (k_seq (k_reg (rO (o_faddr (off := 1) (eV (z4 ds))) (rO (o_load eZ (lS hh2) rfl) (m1 ds (r_nil (k_block (k_seq ?_)))))))))))))))))))
 refine k_cut (fun T_ t_ n_ => t1 = t_ ∧ (nx + 1) = n_ ∧ T_.get 14 = some (.bool (decide (x.op = 7 ∨ x.op = 9))) ∧ T_.get 1 = some (.slice d o ws.length cc 1 ex) ∧ T_.get 2 = some (.ptr nx 0) ∧ T_.get 5 = some (.int .i64 ((ws.length : Nat) : Int)) ∧ T_.get 6 = some (.int .i64 x.op)) ?_ ?_
 · refine k_reg (m1 ds ?_)
   by_cases hs9 : (x.op = 7)
   · refine rO (dec_t (o_eql eZ ev_c) hs9) (m1 ds (r_off (wN ds) (r_off (wN (z1 ds)) (rO (o_pick_t (eV (z2 ds)) ev_c) (m1 ds (r_nil ?_))))))
     exact ⟨rfl, rfl, bt_ (by omega) ds, (z1 (z2 (z4 (z8 get_same)))), (z2 (z4 (z8 ds))), (z2 (z8 ds)), (z1 (z2 (z4 ds)))⟩
   refine rO (dec_f (o_eql eZ ev_c) hs9) (m1 ds (r_op (o_mov (eV (z1 (z2 ds)))) (want_on ds) (r_op (o_eql eZ ev_c) (want_on (z1 ds)) (rO (o_pick_f (eV (z2 ds)) eZ) (m1 ds (r_nil ?_))))))
   exact ⟨rfl, rfl, bd_ ⟨fun _ => by omega, fun _ => by omega⟩ ds, (z1 (z2 (z4 (z8 get_same)))), (z2 (z4 (z8 ds))), (z2 (z8 ds)), (z1 (z2 (z4 ds)))⟩
 rintro T3 _ _ ⟨rfl, rfl, q4, q5, q6, q7, q8⟩
 refine k_if (eV q4) (fun hc10 => ?_) (fun hc10 => ?_)
 · refine k_seq (k_reg (m1 q7 (rO (o_eql eZ ev_c) (r_nil ?_))))
   refine k_if eZ (fun hc11 => ?_) (fun hc11 => ?_)
   · obtain ⟨wa, hwe⟩ := len1 hc11
     subst hwe
     refine k_seq (k_reg (m1 (z2 q5) (rO (o_iaddr (i := 0) eZ ev_c (by simp)) ?_)))
     refine rO (o_load eZ (lN hh2 hr) (by rw [Nat.mul_one]; exact rowI_get (i := 0) hseg rfl)) ?_
     refine m1 ds (r_nil (k_ret ?_))
     have hfin : OperA x [wa] wa := by
       refine ⟨fun e => by exfalso; omega, fun _ => ?_⟩
       unfold operW
       rw [if_pos (by omega)]
       first | exact .inl rfl | exact .inr ⟨rfl, rfl⟩ | (dsimp only; first | (rw [if_pos (by omega)]; first | exact .inl rfl | exact .inl (by omega)) | (rw [if_neg (by omega)]; exact .inr ⟨rfl, rfl⟩))
     exact ⟨_, ans_tmp ds, _, rfl, hfin, by omega, kU kR hh2⟩
   refine k_skip (k_seq (k_reg (rO (o_mov ev_c) (r_nil (k_ret ?_)))))
   have hfin : OperA x ws 0 := by
     refine ⟨fun e => by exfalso; omega, fun _ => ?_⟩
     unfold operW
     rw [if_pos (by omega)]
     exact .inr ⟨rfl, by rcases ws with _ | ⟨a, _ | ⟨b, _ | ⟨c, _ | ⟨e, l⟩⟩⟩⟩ <;> first | rfl | (exfalso; simp only [List.length_cons, List.length_nil] at *; omega)⟩
   exact ⟨_, ans_tmp ds, _, rfl, hfin, by omega, kU kR hh2⟩
 refine k_seq ?_
 refine k_cut (fun T_ t_ n_ => t1 = t_ ∧ (nx + 1) = n_ ∧ T_.get 26 = some (.bool (decide (7 ≤ x.op ∧ x.op ≤ 12))) ∧ T_.get 1 = some (.slice d o ws.length cc 1 ex) ∧ T_.get 2 = some (.ptr nx 0) ∧ T_.get 5 = some (.int .i64 ((ws.length : Nat) : Int)) ∧ T_.get 6 = some (.int .i64 x.op)) ?_ ?_
 · refine k_reg (m1 q8 ?_)
   by_cases hs18 : (x.op < 7)
   · refine rO (ndec_f (o_geq eZ ev_c) hs18) (m1 ds (r_off (wN ds) (r_off (wN (z1 ds)) (rO (o_pick_f (eV (z2 ds)) ev_c) (m1 ds (r_nil ?_))))))
     exact ⟨rfl, rfl, bf_ (by omega) ds, (z1 (z2 (z4 q5))), (z1 (z2 (z4 q6))), (z1 (z2 (z4 q7))), (z1 (z2 (z4 q8)))⟩
   refine rO (ndec_t (o_geq eZ ev_c) hs18) (m1 ds (r_op (o_mov (eV (z1 (z2 q8)))) (want_on ds) (r_op (o_leq eZ ev_c) (want_on (z1 ds)) (rO (o_pick_t (eV (z2 ds)) eZ) (m1 ds (r_nil ?_))))))
   exact ⟨rfl, rfl, bn_ ⟨fun _ => by omega, fun _ => by omega⟩ ds, (z1 (z2 (z4 q5))), (z1 (z2 (z4 q6))), (z1 (z2 (z4 q7))), (z1 (z2 (z4 q8)))⟩
 rintro T12 _ _ ⟨rfl, rfl, q13, q14, q15, q16, q17⟩
 refine k_if (eV q13) (fun hc19 => ?_) (fun hc19 => ?_)
 · refine k_seq (k_reg (m1 q16 ?_))
   by_cases hs20 : (((ws.length : Nat) : Int) = 1)
   · obtain ⟨wa, hwe⟩ := len1 hs20
     subst hwe
     refine rO (dec_t (o_eql eZ ev_c) hs20) (r_call (w_callF (evs_cons eZ evs_nil)) rfl (WF.mono (is_ok true) ?_))
     rintro _ t21 n22 ⟨rfl, hni, hki⟩
     refine m1 ds (r_nil (k_ret ?_))
     have hfin : OperA x [wa] (if true then 1 else 0) := by
       refine ⟨fun e => by exfalso; omega, fun _ => ?_⟩
       unfold operW
       rw [if_neg (by omega), if_pos (by omega)]
       first | exact .inl rfl | exact .inr ⟨rfl, rfl⟩ | (dsimp only; first | (rw [if_pos (by omega)]; first | exact .inl rfl | exact .inl (by omega)) | (rw [if_neg (by omega)]; exact .inr ⟨rfl, rfl⟩))
     exact ⟨_, ans_tmp ds, _, rfl, hfin, by omega, Keep.trans (kU kR hh2) hki (by omega) (fun d _ h => h)⟩
   refine rO (dec_f (o_eql eZ ev_c) hs20) (r_call (w_callF (evs_cons eZ evs_nil)) rfl (WF.mono (is_ok false) ?_))
   rintro _ t23 n24 ⟨rfl, hni, hki⟩
   refine m1 ds (r_nil (k_ret ?_))
   have hfin : OperA x ws (if false then 1 else 0) := by
     refine ⟨fun e => by exfalso; omega, fun _ => ?_⟩
     unfold operW
     rw [if_neg (by omega), if_pos (by omega)]
     exact .inr ⟨rfl, by rcases ws with _ | ⟨a, _ | ⟨b, _ | ⟨c, _ | ⟨e, l⟩⟩⟩⟩ <;> first | rfl | (exfalso; simp only [List.length_cons, List.length_nil] at *; omega)⟩
   exact ⟨_, ans_tmp ds, _, rfl, hfin, by omega, Keep.trans (kU kR hh2) hki (by omega) (fun d _ h => h)⟩
 refine k_seq ?_
 refine k_cut (fun T_ t_ n_ => t1 = t_ ∧ (nx + 1) = n_ ∧ T_.get 36 = some (.bool (decide (x.op = 15 ∨ x.op = 16))) ∧ T_.get 1 = some (.slice d o ws.length cc 1 ex) ∧ T_.get 2 = some (.ptr nx 0) ∧ T_.get 5 = some (.int .i64 ((ws.length : Nat) : Int)) ∧ T_.get 6 = some (.int .i64 x.op)) ?_ ?_
 · refine k_reg (m1 q17 ?_)
   by_cases hs31 : (x.op = 15)
   · refine rO (dec_t (o_eql eZ ev_c) hs31) (m1 ds (r_off (wN ds) (r_off (wN (z1 ds)) (rO (o_pick_t (eV (z2 ds)) ev_c) (m1 ds (r_nil ?_))))))
     exact ⟨rfl, rfl, bt_ (by omega) ds, (z1 (z2 (z4 q14))), (z1 (z2 (z4 q15))), (z1 (z2 (z4 q16))), (z1 (z2 (z4 q17)))⟩
   refine rO (dec_f (o_eql eZ ev_c) hs31) (m1 ds (r_op (o_mov (eV (z1 (z2 q17)))) (want_on ds) (r_op (o_eql eZ ev_c) (want_on (z1 ds)) (rO (o_pick_f (eV (z2 ds)) eZ) (m1 ds (r_nil ?_))))))
   exact ⟨rfl, rfl, bd_ ⟨fun _ => by omega, fun _ => by omega⟩ ds, (z1 (z2 (z4 q14))), (z1 (z2 (z4 q15))), (z1 (z2 (z4 q16))), (z1 (z2 (z4 q17)))⟩
 rintro T25 _ _ ⟨rfl, rfl, q26, q27, q28, q29, q30⟩
 refine k_if (eV q26) (fun hc32 => ?_) (fun hc32 => ?_)
 · refine k_seq (k_reg (m1 q29 (rO (o_eql eZ ev_c) (r_nil ?_))))
   refine k_if eZ (fun hc33 => ?_) (fun hc33 => ?_)
   · obtain ⟨wa, wb, hwe⟩ := len2 hc33
     subst hwe
     refine k_seq (k_reg (m1 (z2 q27) (rO (o_iaddr (i := 0) eZ ev_c (by simp)) ?_)))
     refine rO (o_load eZ (lN hh2 hr) (by rw [Nat.mul_one]; exact rowI_get (i := 0) hseg rfl)) ?_
     refine m1 ds (r_nil (k_ret ?_))
     have hfin : OperA x [wa, wb] wa := by
       refine ⟨fun e => by exfalso; omega, fun _ => ?_⟩
       unfold operW
       rw [if_neg (by omega), if_neg (by omega), if_neg (by omega), if_pos (by omega)]
       first | exact .inl rfl | exact .inr ⟨rfl, rfl⟩ | (dsimp only; first | (rw [if_pos (by omega)]; first | exact .inl rfl | exact .inl (by omega)) | (rw [if_neg (by omega)]; exact .inr ⟨rfl, rfl⟩))
     exact ⟨_, ans_tmp ds, _, rfl, hfin, by omega, kU kR hh2⟩
   refine k_skip (k_seq (k_reg (rO (o_mov ev_c) (r_nil (k_ret ?_)))))
   have hfin : OperA x ws 0 := by
     refine ⟨fun e => by exfalso; omega, fun _ => ?_⟩
     unfold operW
     rw [if_neg (by omega), if_neg (by omega), if_neg (by omega), if_pos (by omega)]
     exact .inr ⟨rfl, by rcases ws with _ | ⟨a, _ | ⟨b, _ | ⟨c, _ | ⟨e, l⟩⟩⟩⟩ <;> first | rfl | (exfalso; simp only [List.length_cons, List.length_nil] at *; omega)⟩
   exact ⟨_, ans_tmp ds, _, rfl, hfin, by omega, kU kR hh2⟩
 refine k_seq ?_
 refine k_cut (fun T_ t_ n_ => t1 = t_ ∧ (nx + 1) = n_ ∧ T_.get 48 = some (.bool (decide (x.op = 13 ∨ x.op = 14 ∨ x.op = 23 ∨ x.op = 25 ∨ x.op = 24))) ∧ T_.get 1 = some (.slice d o ws.length cc 1 ex) ∧ T_.get 2 = some (.ptr nx 0) ∧ T_.get 5 = some (.int .i64 ((ws.length : Nat) : Int)) ∧ T_.get 6 = some (.int .i64 x.op)) ?_ ?_
 · refine k_reg (m1 q30 ?_)
   by_cases hs40 : (x.op = 13)
   · refine rO (dec_t (o_eql eZ ev_c) hs40) (m1 ds (r_off (wN ds) (r_off (wN (z1 ds)) (rO (o_pick_t (eV (z2 ds)) ev_c) (m1 ds (r_off (wN ds) (r_off (wN (z1 ds)) (rO (o_pick_t (eV (z2 ds)) ev_c) (m1 ds (r_off (wN ds) (r_off (wN (z1 ds)) (rO (o_pick_t (eV (z2 ds)) ev_c) (m1 ds (r_off (wN ds) (r_off (wN (z1 ds)) (rO (o_pick_t (eV (z2 ds)) ev_c) (m1 ds (r_nil ?_))))))))))))))))))
     exact ⟨rfl, rfl, bt_ (by omega) ds, (z1 (z2 (z16 q27))), (z1 (z2 (z16 q28))), (z1 (z2 (z16 q29))), (z1 (z2 (z16 q30)))⟩
   refine rO (dec_f (o_eql eZ ev_c) hs40) (m1 ds (r_op (o_mov (eV (z1 (z2 q30)))) (want_on ds) ?_))
   by_cases hs41 : (x.op = 14)
   · refine r_op (dec_t (o_eql eZ ev_c) hs41) (want_on (z1 ds)) (rO (o_pick_f (eV (z2 ds)) eZ) (m1 ds (r_off (wN ds) (r_off (wN (z1 ds)) (rO (o_pick_t (eV (z2 ds)) ev_c) (m1 ds (r_off (wN ds) (r_off (wN (z1 ds)) (rO (o_pick_t (eV (z2 ds)) ev_c) (m1 ds (r_off (wN ds) (r_off (wN (z1 ds)) (rO (o_pick_t (eV (z2 ds)) ev_c) (m1 ds (r_nil ?_)))))))))))))))
     exact ⟨rfl, rfl, bt_ (by omega) ds, (z1 (z2 (z16 q27))), (z1 (z2 (z16 q28))), (z1 (z2 (z16 q29))), (z1 (z2 (z16 q30)))⟩
   refine r_op (dec_f (o_eql eZ ev_c) hs41) (want_on (z1 ds)) (rO (o_pick_f (eV (z2 ds)) eZ) (m1 ds (r_op (o_mov (eV (z1 (z2 (z4 q30))))) (want_on ds) ?_)))
   by_cases hs42 : (x.op = 23)
   · refine r_op (dec_t (o_eql eZ ev_c) hs42) (want_on (z1 ds)) (rO (o_pick_f (eV (z2 ds)) eZ) (m1 ds (r_off (wN ds) (r_off (wN (z1 ds)) (rO (o_pick_t (eV (z2 ds)) ev_c) (m1 ds (r_off (wN ds) (r_off (wN (z1 ds)) (rO (o_pick_t (eV (z2 ds)) ev_c) (m1 ds (r_nil ?_)))))))))))
     exact ⟨rfl, rfl, bt_ (by omega) ds, (z1 (z2 (z16 q27))), (z1 (z2 (z16 q28))), (z1 (z2 (z16 q29))), (z1 (z2 (z16 q30)))⟩
   refine r_op (dec_f (o_eql eZ ev_c) hs42) (want_on (z1 ds)) (rO (o_pick_f (eV (z2 ds)) eZ) (m1 ds (r_op (o_mov (eV (z1 (z2 (z8 q30))))) (want_on ds) ?_)))
   by_cases hs43 : (x.op = 25)
   · refine r_op (dec_t (o_eql eZ ev_c) hs43) (want_on (z1 ds)) (rO (o_pick_f (eV (z2 ds)) eZ) (m1 ds (r_off (wN ds) (r_off (wN (z1 ds)) (rO (o_pick_t (eV (z2 ds)) ev_c) (m1 ds (r_nil ?_)))))))
     exact ⟨rfl, rfl, bt_ (by omega) ds, (z1 (z2 (z16 q27))), (z1 (z2 (z16 q28))), (z1 (z2 (z16 q29))), (z1 (z2 (z16 q30)))⟩
   refine r_op (dec_f (o_eql eZ ev_c) hs43) (want_on (z1 ds)) (rO (o_pick_f (eV (z2 ds)) eZ) (m1 ds (r_op (o_mov (eV (z1 (z2 (z4 (z8 q30)))))) (want_on ds) (r_op (o_eql eZ ev_c) (want_on (z1 ds)) (rO (o_pick_f (eV (z2 ds)) eZ) (m1 ds (r_nil ?_)))))))
   exact ⟨rfl, rfl, bd_ ⟨fun _ => by omega, fun _ => by omega⟩ ds, (z1 (z2 (z16 q27))), (z1 (z2 (z16 q28))), (z1 (z2 (z16 q29))), (z1 (z2 (z16 q30)))⟩
 rintro T34 _ _ ⟨rfl, rfl, q35, q36, q37, q38, q39⟩
 refine k_if (eV q35) (fun hc44 => ?_) (fun hc44 => ?_)
 · refine k_seq (k_draw (eO 0 rfl (o_mov (eV q38)) ?_))
   by_cases hs45 : (((ws.length : Nat) : Int) = 2)
   · obtain ⟨wa, wb, hwe⟩ := len2 hs45
     subst hwe
     refine eO 1 rfl (dec_t (o_eql eZ ev_c) hs45) (eO 2 rfl (o_mov eZ) (e_op 3 rfl (o_mov (eV (z1 (z2 q36)))) (want_on ds) (e_op 4 rfl (o_iaddr (i := 0) eZ ev_c (by simp)) (want_on (z1 ds)) ?_)))
     refine e_op 5 rfl (o_load eZ (lN hh2 hr) (by rw [Nat.mul_one]; exact rowI_get (i := 0) hseg rfl)) (want_on (z2 ds)) ?_
     refine e_op 6 rfl (o_mov (eV (z2 (z4 q36)))) (want_on (z1 (z2 ds))) (e_op 7 rfl (o_iaddr (i := 1) eZ ev_c (by simp)) (want_on (z4 ds)) ?_)
     refine e_op 8 rfl (o_load eZ (lN hh2 hr) (by rw [Nat.mul_one]; exact rowI_get (i := 1) hseg rfl)) (want_on (z1 (z4 ds))) ?_
     refine e_op 9 rfl (o_eql (eV (z1 (z2 ds))) eZ) (want_on (z2 (z4 ds))) (eO 10 rfl (o_pick_t (eV (z1 (z2 (z4 ds)))) eZ) (e_done ?_))
     refine k_if eZ (fun hc46 => ?_) (fun hc46 => ?_)
     · refine k_seq (k_reg (m1 (z1 (z2 (z8 q36))) (rO (o_iaddr (i := 0) eZ ev_c (by simp)) ?_)))
       refine rO (o_load eZ (lN hh2 hr) (by rw [Nat.mul_one]; exact rowI_get (i := 0) hseg rfl)) ?_
       refine m1 ds (r_nil (k_ret ?_))
       have hfin : OperA x [wa, wb] wa := by
         refine ⟨fun e => by exfalso; omega, fun _ => ?_⟩
         unfold operW
         rw [if_neg (by omega), if_neg (by omega), if_pos (by omega)]
         first | exact .inl rfl | exact .inr ⟨rfl, rfl⟩ | (dsimp only; first | (rw [if_pos (by omega)]; first | exact .inl rfl | exact .inl (by omega)) | (rw [if_neg (by omega)]; exact .inr ⟨rfl, rfl⟩))
       exact ⟨_, ans_tmp ds, _, rfl, hfin, by omega, kU kR hh2⟩
     refine k_skip (k_seq (k_reg (rO (o_mov ev_c) (r_nil (k_ret ?_)))))
     have hfin : OperA x [wa, wb] 0 := by
       refine ⟨fun e => by exfalso; omega, fun _ => ?_⟩
       unfold operW
       rw [if_neg (by omega), if_neg (by omega), if_pos (by omega)]
       first | exact .inl rfl | exact .inr ⟨rfl, rfl⟩ | (dsimp only; first | (rw [if_pos (by omega)]; first | exact .inl rfl | exact .inl (by omega)) | (rw [if_neg (by omega)]; exact .inr ⟨rfl, rfl⟩))
     exact ⟨_, ans_tmp ds, _, rfl, hfin, by omega, kU kR hh2⟩
   refine eO 1 rfl (dec_f (o_eql eZ ev_c) hs45) (eO 2 rfl (o_mov eZ) (e_off 3 rfl (wN ds) (e_off 4 rfl (wN (z1 ds)) (e_off 5 rfl (wN (z2 ds)) (e_off 6 rfl (wN (z1 (z2 ds))) (e_off 7 rfl (wN (z4 ds)) (e_off 8 rfl (wN (z1 (z4 ds))) (e_off 9 rfl (wN (z2 (z4 ds))) (eO 10 rfl (o_pick_f (eV (z1 (z2 (z4 ds)))) ev_c) (e_done (k_cond_f eZ (k_skip (k_seq (k_reg (rO (o_mov ev_c) (r_nil (k_ret ?_)))))))))))))))))
   have hfin : OperA x ws 0 := by
     refine ⟨fun e => by exfalso; omega, fun _ => ?_⟩
     unfold operW
     rw [if_neg (by omega), if_neg (by omega), if_pos (by omega)]
     exact .inr ⟨rfl, by rcases ws with _ | ⟨a, _ | ⟨b, _ | ⟨c, _ | ⟨e, l⟩⟩⟩⟩ <;> first | rfl | (exfalso; simp only [List.length_cons, List.length_nil] at *; omega)⟩
   exact ⟨_, ans_tmp ds, _, rfl, hfin, by omega, kU kR hh2⟩
 refine k_seq ?_
 refine k_cut (fun T_ t_ n_ => t1 = t_ ∧ (nx + 1) = n_ ∧ T_.get 81 = some (.bool (decide (17 ≤ x.op ∧ x.op ≤ 22))) ∧ T_.get 1 = some (.slice d o ws.length cc 1 ex) ∧ T_.get 2 = some (.ptr nx 0) ∧ T_.get 5 = some (.int .i64 ((ws.length : Nat) : Int)) ∧ T_.get 6 = some (.int .i64 x.op)) ?_ ?_
 · refine k_reg (m1 q39 ?_)
   by_cases hs53 : (x.op < 17)
   · refine rO (ndec_f (o_geq eZ ev_c) hs53) (m1 ds (r_off (wN ds) (r_off (wN (z1 ds)) (rO (o_pick_f (eV (z2 ds)) ev_c) (m1 ds (r_nil ?_))))))
     exact ⟨rfl, rfl, bf_ (by omega) ds, (z1 (z2 (z4 q36))), (z1 (z2 (z4 q37))), (z1 (z2 (z4 q38))), (z1 (z2 (z4 q39)))⟩
   refine rO (ndec_t (o_geq eZ ev_c) hs53) (m1 ds (r_op (o_mov (eV (z1 (z2 q39)))) (want_on ds) (r_op (o_leq eZ ev_c) (want_on (z1 ds)) (rO (o_pick_t (eV (z2 ds)) eZ) (m1 ds (r_nil ?_))))))
   exact ⟨rfl, rfl, bn_ ⟨fun _ => by omega, fun _ => by omega⟩ ds, (z1 (z2 (z4 q36))), (z1 (z2 (z4 q37))), (z1 (z2 (z4 q38))), (z1 (z2 (z4 q39)))⟩
 rintro T47 _ _ ⟨rfl, rfl, q48, q49, q50, q51, q52⟩
 refine k_if (eV q48) (fun hc54 => ?_) (fun hc54 => ?_)
 · refine k_seq (k_draw (eO 0 rfl (o_mov (eV q51)) ?_))
   by_cases hs55 : (((ws.length : Nat) : Int) = 2)
   · obtain ⟨wa, wb, hwe⟩ := len2 hs55
     subst hwe
     refine eO 1 rfl (dec_t (o_eql eZ ev_c) hs55) (eO 2 rfl (o_mov eZ) (e_op 3 rfl (o_mov (eV (z1 (z2 q49)))) (want_on ds) (e_op 4 rfl (o_iaddr (i := 0) eZ ev_c (by simp)) (want_on (z1 ds)) ?_)))
     refine e_op 5 rfl (o_load eZ (lN hh2 hr) (by rw [Nat.mul_one]; exact rowI_get (i := 0) hseg rfl)) (want_on (z2 ds)) ?_
     refine e_op 6 rfl (o_mov (eV (z2 (z4 q49)))) (want_on (z1 (z2 ds))) (e_op 7 rfl (o_iaddr (i := 1) eZ ev_c (by simp)) (want_on (z4 ds)) ?_)
     refine e_op 8 rfl (o_load eZ (lN hh2 hr) (by rw [Nat.mul_one]; exact rowI_get (i := 1) hseg rfl)) (want_on (z1 (z4 ds))) ?_
     by_cases hs56 : (wa = wb)
     · refine e_op 9 rfl (dec_t (o_eql (eV (z1 (z2 ds))) eZ) hs56) (want_on (z2 (z4 ds))) (eO 10 rfl (o_pick_t (eV (z1 (z2 (z4 ds)))) eZ) (d_call (ix := 11) (pr := [10, 2]) (d := (some 99)) (g := none) (F' := [(⟨6, [2], .g 94 90 true (.mov (.t 1))⟩, (.slice d o [wa, wb].length cc 1 ex)), (⟨3, [2], .g 91 90 true (.mov (.t 1))⟩, (.slice d o [wa, wb].length cc 1 ex))]) (w_callF (evs_cons eZ evs_nil)) rfl (by kernel_rfl) (by kernel_rfl) (by kernel_rfl) (by kernel_rfl) (WF.mono (is_ok true) ?_)))
       rintro _ t57 n58 ⟨rfl, hni, hki⟩
       refine ⟨?_, ?_⟩
       · exact (all_cons_ (still_op (want_on (z1 (z8 ds))) rfl (o_mov (eV (z4 (z8 q49)))) (aeq_flat rfl)) (all_cons_ (still_op (want_on (z1 (z8 ds))) rfl (o_mov (eV (z4 (z8 q49)))) (aeq_flat rfl)) all_nil_))
       refine eO 12 rfl (o_mov eZ) (e_done (k_ret ?_))
       have hfin : OperA x [wa, wb] (if true then 1 else 0) := by
         refine ⟨fun e => by exfalso; omega, fun _ => ?_⟩
         unfold operW
         rw [if_neg (by omega), if_neg (by omega), if_neg (by omega), if_neg (by omega), if_pos (by omega)]
         first | exact .inl rfl | exact .inr ⟨rfl, rfl⟩ | (dsimp only; first | (rw [if_pos (by omega)]; first | exact .inl rfl | exact .inl (by omega)) | (rw [if_neg (by omega)]; exact .inr ⟨rfl, rfl⟩))
       exact ⟨_, ans_tmp ds, _, rfl, hfin, by omega, Keep.trans (kU kR hh2) hki (by omega) (fun d _ h => h)⟩
     refine e_op 9 rfl (dec_f (o_eql (eV (z1 (z2 ds))) eZ) hs56) (want_on (z2 (z4 ds))) (eO 10 rfl (o_pick_t (eV (z1 (z2 (z4 ds)))) eZ) (d_call (ix := 11) (pr := [10, 2]) (d := (some 99)) (g := none) (F' := [(⟨6, [2], .g 94 90 true (.mov (.t 1))⟩, (.slice d o [wa, wb].length cc 1 ex)), (⟨3, [2], .g 91 90 true (.mov (.t 1))⟩, (.slice d o [wa, wb].length cc 1 ex))]) (w_callF (evs_cons eZ evs_nil)) rfl (by kernel_rfl) (by kernel_rfl) (by kernel_rfl) (by kernel_rfl) (WF.mono (is_ok false) ?_)))
     rintro _ t59 n60 ⟨rfl, hni, hki⟩
     refine ⟨?_, ?_⟩
     · exact (all_cons_ (still_op (want_on (z1 (z8 ds))) rfl (o_mov (eV (z4 (z8 q49)))) (aeq_flat rfl)) (all_cons_ (still_op (want_on (z1 (z8 ds))) rfl (o_mov (eV (z4 (z8 q49)))) (aeq_flat rfl)) all_nil_))
     refine eO 12 rfl (o_mov eZ) (e_done (k_ret ?_))
     have hfin : OperA x [wa, wb] (if false then 1 else 0) := by
       refine ⟨fun e => by exfalso; omega, fun _ => ?_⟩
       unfold operW
       rw [if_neg (by omega), if_neg (by omega), if_neg (by omega), if_neg (by omega), if_pos (by omega)]
       first | exact .inl rfl | exact .inr ⟨rfl, rfl⟩ | (dsimp only; first | (rw [if_pos (by omega)]; first | exact .inl rfl | exact .inl (by omega)) | (rw [if_neg (by omega)]; exact .inr ⟨rfl, rfl⟩))
     exact ⟨_, ans_tmp ds, _, rfl, hfin, by omega, Keep.trans (kU kR hh2) hki (by omega) (fun d _ h => h)⟩
   refine eO 1 rfl (dec_f (o_eql eZ ev_c) hs55) (eO 2 rfl (o_mov eZ) (e_off 3 rfl (wN ds) (e_off 4 rfl (wN (z1 ds)) (e_off 5 rfl (wN (z2 ds)) (e_off 6 rfl (wN (z1 (z2 ds))) (e_off 7 rfl (wN (z4 ds)) (e_off 8 rfl (wN (z1 (z4 ds))) (e_off 9 rfl (wN (z2 (z4 ds))) (eO 10 rfl (o_pick_f (eV (z1 (z2 (z4 ds)))) ev_c) (d_call (ix := 11) (pr := [10, 2]) (d := (some 99)) (g := none) (F' := [(⟨6, [2], .g 94 90 true (.mov (.t 1))⟩, .undef), (⟨3, [2], .g 91 90 true (.mov (.t 1))⟩, .undef)]) (w_callF (evs_cons eZ evs_nil)) rfl (by kernel_rfl) (by kernel_rfl) (by kernel_rfl) (by kernel_rfl) (WF.mono (is_ok false) ?_)))))))))))
   rintro _ t61 n62 ⟨rfl, hni, hki⟩
   refine ⟨?_, ?_⟩
   · exact (all_cons_ (still_off (wN (z1 (z8 ds)))) (all_cons_ (still_off (wN (z1 (z8 ds)))) all_nil_))
   refine eO 12 rfl (o_mov eZ) (e_done (k_ret ?_))
   have hfin : OperA x ws (if false then 1 else 0) := by
     refine ⟨fun e => by exfalso; omega, fun _ => ?_⟩
     unfold operW
     rw [if_neg (by omega), if_neg (by omega), if_neg (by omega), if_neg (by omega), if_pos (by omega)]
     exact .inr ⟨rfl, by rcases ws with _ | ⟨a, _ | ⟨b, _ | ⟨c, _ | ⟨e, l⟩⟩⟩⟩ <;> first | rfl | (exfalso; simp only [List.length_cons, List.length_nil] at *; omega)⟩
   exact ⟨_, ans_tmp ds, _, rfl, hfin, by omega, Keep.trans (kU kR hh2) hki (by omega) (fun d _ h => h)⟩
 refine k_seq ?_
 refine k_cut (fun T_ t_ n_ => t1 = t_ ∧ (nx + 1) = n_ ∧ T_.get 100 = some (.bool (decide (x.op = 26 ∨ x.op = 27 ∨ x.op = 3))) ∧ T_.get 1 = some (.slice d o ws.length cc 1 ex) ∧ T_.get 2 = some (.ptr nx 0) ∧ T_.get 5 = some (.int .i64 ((ws.length : Nat) : Int)) ∧ T_.get 6 = some (.int .i64 x.op)) ?_ ?_
 · refine k_reg (m1 q52 ?_)
   by_cases hs69 : (x.op = 26)
   · refine rO (dec_t (o_eql eZ ev_c) hs69) (m1 ds (r_off (wN ds) (r_off (wN (z1 ds)) (rO (o_pick_t (eV (z2 ds)) ev_c) (m1 ds (r_off (wN ds) (r_off (wN (z1 ds)) (rO (o_pick_t (eV (z2 ds)) ev_c) (m1 ds (r_nil ?_))))))))))
     exact ⟨rfl, rfl, bt_ (by omega) ds, (z1 (z2 (z8 q49))), (z1 (z2 (z8 q50))), (z1 (z2 (z8 q51))), (z1 (z2 (z8 q52)))⟩
   refine rO (dec_f (o_eql eZ ev_c) hs69) (m1 ds (r_op (o_mov (eV (z1 (z2 q52)))) (want_on ds) ?_))
   by_cases hs70 : (x.op = 27)
   · refine r_op (dec_t (o_eql eZ ev_c) hs70) (want_on (z1 ds)) (rO (o_pick_f (eV (z2 ds)) eZ) (m1 ds (r_off (wN ds) (r_off (wN (z1 ds)) (rO (o_pick_t (eV (z2 ds)) ev_c) (m1 ds (r_nil ?_)))))))
     exact ⟨rfl, rfl, bt_ (by omega) ds, (z1 (z2 (z8 q49))), (z1 (z2 (z8 q50))), (z1 (z2 (z8 q51))), (z1 (z2 (z8 q52)))⟩
   refine r_op (dec_f (o_eql eZ ev_c) hs70) (want_on (z1 ds)) (rO (o_pick_f (eV (z2 ds)) eZ) (m1 ds (r_op (o_mov (eV (z1 (z2 (z4 q52))))) (want_on ds) (r_op (o_eql eZ ev_c) (want_on (z1 ds)) (rO (o_pick_f (eV (z2 ds)) eZ) (m1 ds (r_nil ?_)))))))
   exact ⟨rfl, rfl, bd_ ⟨fun _ => by omega, fun _ => by omega⟩ ds, (z1 (z2 (z8 q49))), (z1 (z2 (z8 q50))), (z1 (z2 (z8 q51))), (z1 (z2 (z8 q52)))⟩
 rintro T63 _ _ ⟨rfl, rfl, q64, q65, q66, q67, q68⟩
 refine k_if (eV q64) (fun hc71 => ?_) (fun hc71 => ?_)
 · refine k_seq (k_reg (m1 q67 ?_))
   by_cases hs72 : (((ws.length : Nat) : Int) = 2)
   · obtain ⟨wa, wb, hwe⟩ := len2 hs72
     subst hwe
     refine rO (dec_t (o_eql eZ ev_c) hs72) (r_call (w_callF (evs_cons eZ evs_nil)) rfl (WF.mono (is_ok true) ?_))
     rintro _ t73 n74 ⟨rfl, hni, hki⟩
     refine m1 ds (r_nil (k_ret ?_))
     have hfin : OperA x [wa, wb] (if true then 1 else 0) := by
       refine ⟨fun e => by exfalso; omega, fun _ => ?_⟩
       unfold operW
       rw [if_neg (by omega), if_neg (by omega), if_neg (by omega), if_neg (by omega), if_neg (by omega), if_pos (by omega)]
       first | exact .inl rfl | exact .inr ⟨rfl, rfl⟩ | (dsimp only; first | (rw [if_pos (by omega)]; first | exact .inl rfl | exact .inl (by omega)) | (rw [if_neg (by omega)]; exact .inr ⟨rfl, rfl⟩))
     exact ⟨_, ans_tmp ds, _, rfl, hfin, by omega, Keep.trans (kU kR hh2) hki (by omega) (fun d _ h => h)⟩
   refine rO (dec_f (o_eql eZ ev_c) hs72) (r_call (w_callF (evs_cons eZ evs_nil)) rfl (WF.mono (is_ok false) ?_))
   rintro _ t75 n76 ⟨rfl, hni, hki⟩
   refine m1 ds (r_nil (k_ret ?_))
   have hfin : OperA x ws (if false then 1 else 0) := by
     refine ⟨fun e => by exfalso; omega, fun _ => ?_⟩
     unfold operW
     rw [if_neg (by omega), if_neg (by omega), if_neg (by omega), if_neg (by omega), if_neg (by omega), if_pos (by omega)]
     exact .inr ⟨rfl, by rcases ws with _ | ⟨a, _ | ⟨b, _ | ⟨c, _ | ⟨e, l⟩⟩⟩⟩ <;> first | rfl | (exfalso; simp only [List.length_cons, List.length_nil] at *; omega)⟩
   exact ⟨_, ans_tmp ds, _, rfl, hfin, by omega, Keep.trans (kU kR hh2) hki (by omega) (fun d _ h => h)⟩
 refine k_seq (k_reg (m1 q68 (rO (o_eql eZ ev_c) (m1 ds (r_nil ?_)))))
 refine k_if eZ (fun hc77 => ?_) (fun hc77 => ?_)
 · refine k_seq (k_draw (eO 0 rfl (o_mov (eV (z1 (z2 q67)))) ?_))
   by_cases hs78 : (((ws.length : Nat) : Int) = 3)
   · obtain ⟨wa, wb, wc, hwe⟩ := len3 hs78
     subst hwe
     refine eO 1 rfl (dec_t (o_eql eZ ev_c) hs78) (eO 2 rfl (o_mov eZ) (e_op 3 rfl (o_mov (eV (z2 (z4 q65)))) (want_on ds) (e_op 4 rfl (o_iaddr (i := 1) eZ ev_c (by simp)) (want_on (z1 ds)) ?_)))
     refine e_op 5 rfl (o_load eZ (lN hh2 hr) (by rw [Nat.mul_one]; exact rowI_get (i := 1) hseg rfl)) (want_on (z2 ds)) ?_
     refine e_op 6 rfl (o_mov (eV (z1 (z8 q65)))) (want_on (z1 (z2 ds))) (e_op 7 rfl (o_iaddr (i := 2) eZ ev_c (by simp)) (want_on (z4 ds)) ?_)
     refine e_op 8 rfl (o_load eZ (lN hh2 hr) (by rw [Nat.mul_one]; exact rowI_get (i := 2) hseg rfl)) (want_on (z1 (z4 ds))) ?_
     refine e_op 9 rfl (o_eql (eV (z1 (z2 ds))) eZ) (want_on (z2 (z4 ds))) (eO 10 rfl (o_pick_t (eV (z1 (z2 (z4 ds)))) eZ) (e_done ?_))
     refine k_if eZ (fun hc79 => ?_) (fun hc79 => ?_)
     · refine k_seq (k_reg (m1 (z2 (z4 (z8 q65))) (rO (o_iaddr (i := 1) eZ ev_c (by simp)) ?_)))
       refine rO (o_load eZ (lN hh2 hr) (by rw [Nat.mul_one]; exact rowI_get (i := 1) hseg rfl)) ?_
       refine m1 ds (r_nil (k_ret ?_))
       have hfin : OperA x [wa, wb, wc] wb := by
         refine ⟨fun e => by exfalso; omega, fun _ => ?_⟩
         unfold operW
         rw [if_neg (by omega), if_neg (by omega), if_neg (by omega), if_neg (by omega), if_neg (by omega), if_neg (by omega), if_pos (by omega)]
         first | exact .inl rfl | exact .inr ⟨rfl, rfl⟩ | (dsimp only; first | (rw [if_pos (by omega)]; first | exact .inl rfl | exact .inl (by omega)) | (rw [if_neg (by omega)]; exact .inr ⟨rfl, rfl⟩))
       exact ⟨_, ans_tmp ds, _, rfl, hfin, by omega, kU kR hh2⟩
     refine k_skip (k_seq (k_reg (rO (o_mov ev_c) (r_nil (k_ret ?_)))))
     have hfin : OperA x [wa, wb, wc] 0 := by
       refine ⟨fun e => by exfalso; omega, fun _ => ?_⟩
       unfold operW
       rw [if_neg (by omega), if_neg (by omega), if_neg (by omega), if_neg (by omega), if_neg (by omega), if_neg (by omega), if_pos (by omega)]
       first | exact .inl rfl | exact .inr ⟨rfl, rfl⟩ | (dsimp only; first | (rw [if_pos (by omega)]; first | exact .inl rfl | exact .inl (by omega)) | (rw [if_neg (by omega)]; exact .inr ⟨rfl, rfl⟩))
     exact ⟨_, ans_tmp ds, _, rfl, hfin, by omega, kU kR hh2⟩
   refine eO 1 rfl (dec_f (o_eql eZ ev_c) hs78) (eO 2 rfl (o_mov eZ) (e_off 3 rfl (wN ds) (e_off 4 rfl (wN (z1 ds)) (e_off 5 rfl (wN (z2 ds)) (e_off 6 rfl (wN (z1 (z2 ds))) (e_off 7 rfl (wN (z4 ds)) (e_off 8 rfl (wN (z1 (z4 ds))) (e_off 9 rfl (wN (z2 (z4 ds))) (eO 10 rfl (o_pick_f (eV (z1 (z2 (z4 ds)))) ev_c) (e_done (k_cond_f eZ (k_skip (k_seq (k_reg (rO (o_mov ev_c) (r_nil (k_ret ?_)))))))))))))))))
   have hfin : OperA x ws 0 := by
     refine ⟨fun e => by exfalso; omega, fun _ => ?_⟩
     unfold operW
     rw [if_neg (by omega), if_neg (by omega), if_neg (by omega), if_neg (by omega), if_neg (by omega), if_neg (by omega), if_pos (by omega)]
     exact .inr ⟨rfl, by rcases ws with _ | ⟨a, _ | ⟨b, _ | ⟨c, _ | ⟨e, l⟩⟩⟩⟩ <;> first | rfl | (exfalso; simp only [List.length_cons, List.length_nil] at *; omega)⟩
   exact ⟨_, ans_tmp ds, _, rfl, hfin, by omega, kU kR hh2⟩
 refine k_seq (k_reg (m1 (z1 (z2 q68)) (rO (o_eql eZ ev_c) (m1 ds (r_nil ?_)))))
 refine k_if eZ (fun hc80 => ?_) (fun hc80 => ?_)
 · refine k_seq (k_draw (eO 0 rfl (o_mov (eV (z2 (z4 q67)))) ?_))
   by_cases hs81 : (((ws.length : Nat) : Int) = 1)
   · obtain ⟨wa, hwe⟩ := len1 hs81
     subst hwe
     refine eO 1 rfl (dec_t (o_eql eZ ev_c) hs81) (eO 2 rfl (o_mov eZ) (e_op 3 rfl (o_faddr (off := 6) (eV (z1 (z8 q66)))) (want_on ds) (e_op 4 rfl (o_load eZ (lS hh2) rfl) (want_on (z1 ds)) ?_)))
     by_cases hs82 : (x.lo < 0)
     · refine e_op 5 rfl (ndec_f (o_geq eZ ev_c) hs82) (want_on (z2 ds)) (eO 6 rfl (o_pick_t (eV (z1 (z2 ds))) eZ) (eO 7 rfl (o_mov eZ) (e_off 8 rfl (wN ds) (e_off 9 rfl (wN (z1 ds)) (e_off 10 rfl (wN (z2 ds)) (e_off 11 rfl (wN (z1 (z2 ds))) (e_off 12 rfl (wN (z4 ds)) (eO 13 rfl (o_pick_f (eV (z1 (z4 ds))) ev_c) (eO 14 rfl (o_mov eZ) (e_off 15 rfl (wN ds) (e_off 16 rfl (wN (z1 ds)) (e_off 17 rfl (wN (z2 ds)) (e_off 18 rfl (wN (z1 (z2 ds))) (e_off 19 rfl (wN (z4 ds)) (e_off 20 rfl (wN (z1 (z4 ds))) (eO 21 rfl (o_pick_f (eV (z2 (z4 ds))) ev_c) (e_done (k_cond_f eZ (k_skip (k_seq (k_reg (rO (o_mov ev_c) (r_nil (k_ret ?_))))))))))))))))))))))))
       have hfin : OperA x [wa] 0 := by
         refine ⟨fun e => by exfalso; omega, fun _ => ?_⟩
         unfold operW
         rw [if_neg (by omega), if_neg (by omega), if_neg (by omega), if_neg (by omega), if_neg (by omega), if_neg (by omega), if_neg (by omega), if_pos (by omega)]
         first | exact .inl rfl | exact .inr ⟨rfl, rfl⟩ | (dsimp only; first | (rw [if_pos (by omega)]; first | exact .inl rfl | exact .inl (by omega)) | (rw [if_neg (by omega)]; exact .inr ⟨rfl, rfl⟩))
       exact ⟨_, ans_tmp ds, _, rfl, hfin, by omega, kU kR hh2⟩
     refine e_op 5 rfl (ndec_t (o_geq eZ ev_c) hs82) (want_on (z2 ds)) (eO 6 rfl (o_pick_t (eV (z1 (z2 ds))) eZ) (eO 7 rfl (o_mov eZ) (e_op 8 rfl (o_faddr (off := 5) (eV (z2 (z4 (z8 q66))))) (want_on ds) (e_op 9 rfl (o_load eZ (lS hh2) rfl) (want_on (z1 ds)) (e_op 10 rfl (o_faddr (off := 6) (eV (z16 q66))) (want_on (z2 ds)) (e_op 11 rfl (o_load eZ (lS hh2) rfl) (want_on (z1 (z2 ds))) ?_))))))
     by_cases hs83 : (x.hi < x.lo)
     · refine e_op 12 rfl (ndec_f (o_geq (eV (z2 ds)) eZ) hs83) (want_on (z4 ds)) (eO 13 rfl (o_pick_t (eV (z1 (z4 ds))) eZ) (eO 14 rfl (o_mov eZ) (e_off 15 rfl (wN ds) (e_off 16 rfl (wN (z1 ds)) (e_off 17 rfl (wN (z2 ds)) (e_off 18 rfl (wN (z1 (z2 ds))) (e_off 19 rfl (wN (z4 ds)) (e_off 20 rfl (wN (z1 (z4 ds))) (eO 21 rfl (o_pick_f (eV (z2 (z4 ds))) ev_c) (e_done (k_cond_f eZ (k_skip (k_seq (k_reg (rO (o_mov ev_c) (r_nil (k_ret ?_)))))))))))))))))
       have hfin : OperA x [wa] 0 := by
         refine ⟨fun e => by exfalso; omega, fun _ => ?_⟩
         unfold operW
         rw [if_neg (by omega), if_neg (by omega), if_neg (by omega), if_neg (by omega), if_neg (by omega), if_neg (by omega), if_neg (by omega), if_pos (by omega)]
         first | exact .inl rfl | exact .inr ⟨rfl, rfl⟩ | (dsimp only; first | (rw [if_pos (by omega)]; first | exact .inl rfl | exact .inl (by omega)) | (rw [if_neg (by omega)]; exact .inr ⟨rfl, rfl⟩))
       exact ⟨_, ans_tmp ds, _, rfl, hfin, by omega, kU kR hh2⟩
     refine e_op 12 rfl (ndec_t (o_geq (eV (z2 ds)) eZ) hs83) (want_on (z4 ds)) (eO 13 rfl (o_pick_t (eV (z1 (z4 ds))) eZ) (eO 14 rfl (o_mov eZ) (e_op 15 rfl (o_faddr (off := 5) (eV (z1 (z4 (z16 q66))))) (want_on ds) (e_op 16 rfl (o_load eZ (lS hh2) rfl) (want_on (z1 ds)) (e_op 17 rfl (o_mov (eV (z1 (z2 (z4 (z16 q65)))))) (want_on (z2 ds)) (e_op 18 rfl (o_iaddr (i := 0) eZ ev_c (by simp)) (want_on (z1 (z2 ds))) ?_))))))
     refine e_op 19 rfl (o_load eZ (lN hh2 hr) (by rw [Nat.mul_one]; exact rowI_get (i := 0) hseg rfl)) (want_on (z4 ds)) ?_
     refine e_op 20 rfl (o_lss (eV (z1 (z2 ds))) eZ) (want_on (z1 (z4 ds))) (eO 21 rfl (o_pick_t (eV (z2 (z4 ds))) eZ) (e_done ?_))
     refine k_if eZ (fun hc84 => ?_) (fun hc84 => ?_)
     · refine k_seq ?_
       have hwa_ := hs wa (by simp)
       refine k_reg (rO (o_faddr (off := 5) (eV (z4 (z8 (z16 q66))))) (rO (o_load eZ (lS hh2) rfl) (rO (o_faddr (off := 6) (eV (z2 (z4 (z8 (z16 q66)))))) (rO (o_load eZ (lS hh2) rfl) (rO (o_sub (eV (z2 ds)) eZ (by omega) (by omega)) (rO (o_add eZ ev_c (by omega) (by omega)) (m1 ds (r_nil (k_ret ?_)))))))))
       have hfin : OperA x [wa] ((x.hi - x.lo) + 1) := by
         refine ⟨fun e => by exfalso; omega, fun _ => ?_⟩
         unfold operW
         rw [if_neg (by omega), if_neg (by omega), if_neg (by omega), if_neg (by omega), if_neg (by omega), if_neg (by omega), if_neg (by omega), if_pos (by omega)]
         first | exact .inl rfl | exact .inr ⟨rfl, rfl⟩ | (dsimp only; first | (rw [if_pos (by omega)]; first | exact .inl rfl | exact .inl (by omega)) | (rw [if_neg (by omega)]; exact .inr ⟨rfl, rfl⟩))
       exact ⟨_, ans_tmp ds, _, rfl, hfin, by omega, kU kR hh2⟩
     refine k_skip (k_seq (k_reg (rO (o_mov ev_c) (r_nil (k_ret ?_)))))
     have hfin : OperA x [wa] 0 := by
       refine ⟨fun e => by exfalso; omega, fun _ => ?_⟩
       unfold operW
       rw [if_neg (by omega), if_neg (by omega), if_neg (by omega), if_neg (by omega), if_neg (by omega), if_neg (by omega), if_neg (by omega), if_pos (by omega)]
       first | exact .inl rfl | exact .inr ⟨rfl, rfl⟩ | (dsimp only; first | (rw [if_pos (by omega)]; first | exact .inl rfl | exact .inl (by omega)) | (rw [if_neg (by omega)]; exact .inr ⟨rfl, rfl⟩))
     exact ⟨_, ans_tmp ds, _, rfl, hfin, by omega, kU kR hh2⟩
   refine eO 1 rfl (dec_f (o_eql eZ ev_c) hs81) (eO 2 rfl (o_mov eZ) (e_off 3 rfl (wN ds) (e_off 4 rfl (wN (z1 ds)) (e_off 5 rfl (wN (z2 ds)) (eO 6 rfl (o_pick_f (eV (z1 (z2 ds))) ev_c) (eO 7 rfl (o_mov eZ) (e_off 8 rfl (wN ds) (e_off 9 rfl (wN (z1 ds)) (e_off 10 rfl (wN (z2 ds)) (e_off 11 rfl (wN (z1 (z2 ds))) (e_off 12 rfl (wN (z4 ds)) (eO 13 rfl (o_pick_f (eV (z1 (z4 ds))) ev_c) (eO 14 rfl (o_mov eZ) (e_off 15 rfl (wN ds) (e_off 16 rfl (wN (z1 ds)) (e_off 17 rfl (wN (z2 ds)) (e_off 18 rfl (wN (z1 (z2 ds))) (e_off 19 rfl (wN (z4 ds)) (e_off 20 rfl (wN (z1 (z4 ds))) (eO 21 rfl (o_pick_f (eV (z2 (z4 ds))) ev_c) (e_done (k_cond_f eZ (k_skip (k_seq (k_reg (rO (o_mov ev_c) (r_nil (k_ret ?_))))))))))))))))))))))))))))
   have hfin : OperA x ws 0 := by
     refine ⟨fun e => by exfalso; omega, fun _ => ?_⟩
     unfold operW
     rw [if_neg (by omega), if_neg (by omega), if_neg (by omega), if_neg (by omega), if_neg (by omega), if_neg (by omega), if_neg (by omega), if_pos (by omega)]
     exact .inr ⟨rfl, by rcases ws with _ | ⟨a, _ | ⟨b, _ | ⟨c, _ | ⟨e, l⟩⟩⟩⟩ <;> first | rfl | (exfalso; simp only [List.length_cons, List.length_nil] at *; omega)⟩
   exact ⟨_, ans_tmp ds, _, rfl, hfin, by omega, kU kR hh2⟩
 refine k_seq (k_reg (m1 (z2 (z4 q68)) (rO (o_eql eZ ev_c) (m1 ds (r_nil ?_)))))
 refine k_if eZ (fun hc85 => ?_) (fun hc85 => ?_)
 · refine k_seq (k_reg (rO (o_mov ev_c) (r_nil (k_seq (k_seq (k_reg (m1 (z2 (z8 q65)) (rO (o_len_slice eZ) (rO (o_mov ev_c) (r_nil (k_block (k_loop (fun mm Tv tv nv => ∃ i : Nat, i ≤ ws.length ∧ Tv.get 7 = some (.int .i64 (ws.take i).sum) ∧ Tv.get 165 = some (.slice d o ws.length cc 1 ex) ∧ Tv.get 166 = some (.int .i64 ((ws.length : Nat) : Int)) ∧ Tv.get 167 = some (.int .i64 (i : Int)) ∧ nx ≤ nv ∧ Keep t tv nx (fun _ => False) ∧ mm + i = ws.length) (fun mm Tv tv nv hI => ?_) (ws.length) ⟨0, by omega, (z1 (z2 ds)), (z2 ds), (z1 ds), ds, by omega, kU kR hh2, by omega⟩))))))))))))
   obtain ⟨i, hi, p8, p5, p6, p7, hnv, hkp, hmm⟩ := hI
   have hr1 := hkp.look (by omega) id hr
   refine k_seq (k_reg (rO (o_lss (eV p7) (eV p6)) (r_nil (k_seq ?_))))
   refine k_if eZ (fun hc86 => ?_) (fun hc86 => ?_)
   · refine k_skip (k_seq (k_block (k_seq (k_reg (rO (o_iaddr (i := i) (eV (z1 p5)) (eV (z1 p7)) (by omega)) ?_)))))
     obtain ⟨a, ha⟩ := some_at (l := ws) (i := i) (by omega)
     have hs1 := sum_le (l := ws.take i) (fun b hb => hs b (List.mem_of_mem_take hb))
     rw [List.length_take] at hs1
     have hs2 := hs a (List.mem_of_getElem? ha)
     refine rO (o_load eZ hr1 (by rw [Nat.mul_one]; exact rowI_get (i := i) hseg ha)) ?_
     refine m1 ds (r_nil (k_reg (m1 (z4 p8) (m1 (z1 ds) (rO (o_add (eV (z1 ds)) eZ (by omega) (by omega)) (m1 ds (r_nil (k_reg (rO (o_add (eV (z8 p7)) ev_c (by omega) (by omega)) (m1 ds (r_nil ?_)))))))))))
     exact ⟨mm - 1, by omega, i + 1, by omega, by rw [sum_take ha]; exact (z2 ds), (z2 (z8 p5)), (z2 (z8 p6)), ds, by omega, hkp, by omega⟩
   refine k_exit (exK_same (k_seq (k_reg (m1 (z1 p8) (m1 ds (r_nil (k_ret ?_)))))))
   have hfin : OperA x ws (ws.take i).sum := by
     exact ⟨fun _ => by rw [List.take_of_length_le (by omega)], fun e => by exfalso; omega⟩
   exact ⟨_, ans_tmp ds, _, rfl, hfin, by omega, hkp⟩
 refine k_skip (k_seq (k_reg (rO (o_mov ev_c) (r_nil (k_ret ?_)))))
 have hfin : OperA x ws 0 := by
   refine ⟨fun e => by exfalso; omega, fun _ => ?_⟩
   unfold operW
   rw [if_neg (by omega), if_neg (by omega), if_neg (by omega), if_neg (by omega), if_neg (by omega), if_neg (by omega), if_neg (by omega), if_neg (by omega), if_neg (by omega)]
   exact .inr ⟨rfl, rfl⟩
 exact ⟨_, ans_tmp ds, _, rfl, hfin, by omega, kU kR hh2⟩
theorem trim_ok {t : TB} {nx : Nat} (s : List Nat) (h : ∀ c ∈ s, c < 256) (hl : s.length ≤ 9223372036854775807) : WF tb 104 [.str s, .str [48, 49, 120, 122]] t nx (fun v t' nx' => v = .str (trimN s [48, 49, 120, 122]) ∧ nx ≤ nx' ∧ Keep t t' nx (fun _ => False)) := by
 refine k_prim trim_tab (v := .str (trimN s [48, 49, 120, 122])) ?_ ⟨rfl, Nat.le_refl _, kR⟩
 unfold pTrim
 exact if_pos ⟨h, hl, rfl⟩
theorem lcheck_ok {t : TB} {nx : Nat} (s : List Nat) (h : ∀ c ∈ s, c < 256) (hl : s.length ≤ 9223372036854775807) : WF tb 49 [.str s] t nx (fun v t' nx' => ∃ r, v = .int .i64 r ∧ (r = 0 ∧ isV s ∨ r = 10 ∧ ¬ isV s) ∧ nx ≤ nx' ∧ Keep t t' nx (fun _ => False)) := by
 have htr := trimN_nil h
 refine k_fun lcheck_tab rfl ?_
 unfold lcheck_c
 change WC _ _ (Bt.put (some _) Bt.e 0) _ _ _
 refine k_seq (k_reg (rO (o_mov ev_c) (r_nil (k_seq (k_seq (k_reg (m1 (z1 get_same) (rO (o_len_str eZ) ?_))))))))
 by_cases hs1 : (((s.length : Nat) : Int) < 1)
 · refine rO (dec_t (o_lss eZ ev_c) hs1) (m1 ds (r_off (wN ds) (r_off (wN (z1 ds)) (r_off (wN (z2 ds)) (rO (o_pick_t (eV (z1 (z2 ds))) ev_c) (m1 ds (r_off (wN ds) (r_off (wN (z1 ds)) (r_off (wN (z2 ds)) (rO (o_pick_t (eV (z1 (z2 ds))) ev_c) (r_nil (k_cond_t eZ (k_seq (k_reg (rO (o_mov ev_c) (r_nil (k_ret ?_)))))))))))))))))
   exact ⟨_, ans_tmp ds, _, rfl, .inr ⟨rfl, fun hv => by obtain ⟨h1_, h2_, h3_⟩ := hv; first | omega | exact absurd (htr.2 h3_) (by assumption)⟩, by omega, kR⟩
 refine rO (dec_f (o_lss eZ ev_c) hs1) (m1 ds (r_op (o_mov (eV (z1 (z4 get_same)))) (want_on ds) (r_op (o_len_str eZ) (want_on (z1 ds)) ?_)))
 by_cases hs2 : (256 < ((s.length : Nat) : Int))
 · refine r_op (dec_t (o_gtr eZ ev_c) hs2) (want_on (z2 ds)) (rO (o_pick_f (eV (z1 (z2 ds))) eZ) (m1 ds (r_off (wN ds) (r_off (wN (z1 ds)) (r_off (wN (z2 ds)) (rO (o_pick_t (eV (z1 (z2 ds))) ev_c) (r_nil (k_cond_t eZ (k_seq (k_reg (rO (o_mov ev_c) (r_nil (k_ret ?_)))))))))))))
   exact ⟨_, ans_tmp ds, _, rfl, .inr ⟨rfl, fun hv => by obtain ⟨h1_, h2_, h3_⟩ := hv; first | omega | exact absurd (htr.2 h3_) (by assumption)⟩, by omega, kR⟩
 refine r_op (dec_f (o_gtr eZ ev_c) hs2) (want_on (z2 ds)) (rO (o_pick_f (eV (z1 (z2 ds))) eZ) (m1 ds (r_op (o_mov (eV (z2 (z8 get_same)))) (want_on ds) (r_call (w_callF (evs_cons eZ (evs_cons ev_c evs_nil))) (want_on (z1 ds)) (WF.mono (trim_ok s h hl) ?_)))))
 rintro _ t3 n4 ⟨rfl, hnt, hkt⟩
 by_cases hs5 : ((trimN s [48, 49, 120, 122]) = [])
 · refine r_op (ndec_f (o_str_neq eZ ev_c) hs5) (want_on (z2 ds)) (rO (o_pick_f (eV (z1 (z2 ds))) eZ) (r_nil (k_cond_f eZ (k_skip (k_seq (k_reg (rO (o_mov ev_c) (r_nil (k_ret ?_)))))))))
   exact ⟨_, ans_tmp ds, _, rfl, .inl ⟨rfl, by omega, by omega, htr.1 (by assumption)⟩, by omega, Keep.trans kR hkt (by omega) (fun d _ h => h)⟩
 refine r_op (ndec_t (o_str_neq eZ ev_c) hs5) (want_on (z2 ds)) (rO (o_pick_f (eV (z1 (z2 ds))) eZ) (r_nil (k_cond_t eZ (k_seq (k_reg (rO (o_mov ev_c) (r_nil (k_ret ?_))))))))
 exact ⟨_, ans_tmp ds, _, rfl, .inr ⟨rfl, fun hv => by obtain ⟨h1_, h2_, h3_⟩ := hv; first | omega | exact absurd (htr.2 h3_) (by assumption)⟩, by omega, Keep.trans kR hkt (by omega) (fun d _ h => h)⟩
end
section
variable [Env]
theorem RowI.cell {t : TB} {bd : Nat} {v : AV} {l : List Int} (h : RowI t bd v l) : isCell v = true := by
 rcases h with ⟨rfl, -⟩ | ⟨d, o, c, ex, wr, r, rfl, -⟩ <;> rfl
theorem wdN_range {ns : List Nd} {l : List Int} (hin : ∀ k ∈ l, 0 ≤ k ∧ k < (ns.length : Int)) (hwd : ∀ y ∈ ns, 1 ≤ y.wide ∧ y.wide ≤ 256) : ∀ a ∈ l.map (wdN ns), 1 ≤ a ∧ a ≤ 256 := by
 intro a ha
 obtain ⟨k, hk, rfl⟩ := List.mem_map.1 ha
 have h := hin k hk
 obtain ⟨y, hy⟩ := some_at (l := ns) (i := k.toNat) (by omega)
 have e : wdN ns k = y.wide := by unfold wdN; rw [hy]
 rw [e]
 exact hwd y (List.mem_of_getElem? hy)
theorem ws_at {ns : List Nd} {l ws : List Int} {i : Nat} {k : Int} {y : Nd} (hws : ws = l.map (wdN ns)) (hk : l[i]? = some k) (h0 : 0 ≤ k) (hy : ns[k.toNat]? = some y) : ws[i]? = some y.wide := by
 subst hws
 rw [List.getElem?_map, hk]
 show some (wdN ns k) = _
 unfold wdN
 rw [hy]
theorem take_one {ws : List Int} {i : Nat} {a : Int} (h : ws[i]? = some a) (hi : i = 0) : ints (ws.take (i + 1)) = [.int .i64 a] := by
 subst hi
 cases ws with
 | nil => simp at h
 | cons b l => simp at h; subst h; rfl
theorem take_more {ws : List Int} {i : Nat} {a : Int} (h : ws[i]? = some a) : ws.take (i + 1) = ws.take i ++ [a] := by
 rw [List.take_succ, h]; rfl
theorem ints_cell (l : List Int) : allCell (ints l) = true := by
 rw [allCell_iff]; intro a ha; obtain ⟨k, -, rfl⟩ := List.mem_map.1 ha; rfl
theorem nodeN_get {r ivs : List AV} {o i j q : Nat} {ns : List Nd} {x : Nd} {iv v : AV} (h : (r.drop o).take (ns.length * 8) = flatN ns ivs) (hl : ivs.length = ns.length) (hx : ns[i]? = some x) (hv : ivs[i]? = some iv) (hj : j < 8) (e : q = o + (i * 8 + j)) (hc : (ncells x iv)[j]? = some v) : r[q]? = some v := by
 subst e
 have hi : i < ns.length := by
   rcases Nat.lt_or_ge i ns.length with h' | h'
   · exact h'
   · rw [List.getElem?_eq_none h'] at hx; cases hx
 have e := congrArg (fun m => m[i * 8 + j]?) h
 simp only [List.getElem?_take, List.getElem?_drop] at e
 rw [if_pos (by omega), flatN_get hx hv hj, hc] at e
 exact e
/-- A node without what its kind uses. -/
def Bare (x : Nd) (op : Int) (vl : List Nat) (hi lo tm : Int) : Prop :=
 (op = if x.kind = 3 then 0 else x.op) ∧ (vl = if x.kind = 1 then [] else x.value) ∧ ((x.kind = 3 ∧ x.op = 4 ∧ hi = 0 ∧ lo = 0) ∨ (¬ (x.kind = 3 ∧ x.op = 4) ∧ hi = x.hi ∧ lo = x.lo)) ∧ (tm = if x.kind = 8 then 0 else x.time)
theorem Bare.zero {x : Nd} {op : Int} {vl : List Nat} {hi lo tm : Int} (h : Bare x op vl hi lo tm) : zeroP x ↔ op = 0 ∧ vl = [] ∧ hi = 0 ∧ lo = 0 ∧ tm = 0 := by
 obtain ⟨rfl, rfl, h3, rfl⟩ := h
 unfold zeroP
 constructor
 · rintro ⟨h1, h2, h4, h5⟩
   refine ⟨?_, ?_, ?_, ?_, ?_⟩
   · split <;> omega
   · split
     · rfl
     · rcases h2 with h2 | h2
       · omega
       · exact h2
   · omega
   · omega
   · split <;> omega
 · rintro ⟨h1, h2, h4, h5, h6⟩
   refine ⟨?_, ?_, ?_, ?_⟩
   · split at h1 <;> omega
   · split at h2
     · exact .inl (by omega)
     · exact .inr h2
   · omega
   · split at h6 <;> omega
theorem operA_eq {x : Nd} {w : List Int} {r : Int} (h : OperA x w r) (e : r = x.wide) (hx : 1 ≤ x.wide ∧ x.wide ≤ 256) (hw : ∀ a ∈ w, 1 ≤ a ∧ a ≤ 256) : operW x w = x.wide := by
 by_cases h5 : x.op = 5
 · have h1 := h.1 h5
   have h2 := sum_le hw
   unfold operW
   rw [if_neg (by omega), if_neg (by omega), if_neg (by omega), if_neg (by omega), if_neg (by omega), if_neg (by omega), if_neg (by omega), if_neg (by omega), if_pos h5]
   rw [if_pos]
   · omega
   · refine ⟨?_, by omega⟩
     cases w with
     | nil => simp at h1; omega
     | cons a l => simp
 · rcases h.2 h5 with h1 | ⟨h1, -⟩ <;> omega
theorem operA_eq2 {x : Nd} {w : List Int} {r : Int} (h : OperA x w r) (e : operW x w = x.wide) (hx : 1 ≤ x.wide ∧ x.wide ≤ 256) : r = x.wide := by
 by_cases h5 : x.op = 5
 · have h1 := h.1 h5
   unfold operW at e
   rw [if_neg (by omega), if_neg (by omega), if_neg (by omega), if_neg (by omega), if_neg (by omega), if_neg (by omega), if_neg (by omega), if_neg (by omega), if_pos h5] at e
   split at e <;> omega
 · rcases h.2 h5 with h1 | ⟨h1, h2⟩ <;> omega
section
variable {w : List Int} {x : Nd}
theorem nodeP1 (h : x.kind = 1) : nodeP w x ↔ w = [] ∧ isV x.value ∧ (x.value.length : Int) = x.wide := by
 unfold nodeP; rw [h]; simp
theorem nodeP2 (h : x.kind = 2) : nodeP w x ↔ w = [] := by unfold nodeP; rw [h]; simp
theorem nodeP3 (h : x.kind = 3) : nodeP w x ↔ operW x w = x.wide := by unfold nodeP; rw [h]; simp
theorem nodeP4 (h : x.kind = 4) : nodeP w x ↔ ∃ a, w = [a, x.wide, x.wide] := by unfold nodeP; rw [h]; simp
theorem nodeP5 (h : x.kind = 5) : nodeP w x ↔ (∃ a, w = [a, a]) ∧ x.wide = 1 := by unfold nodeP; rw [h]; simp
theorem nodeP6 (h : x.kind = 6) : nodeP w x ↔ ∃ a, w = [a] := by unfold nodeP; rw [h]; simp
theorem nodeP7 (h : x.kind = 7) : nodeP w x ↔ ∃ a, w = [a, x.wide] := by unfold nodeP; rw [h]; simp
theorem nodeP8 (h : x.kind = 8) : nodeP w x ↔ w = [x.wide] ∧ 1 ≤ x.time ∧ x.time ≤ 1048576 := by unfold nodeP; rw [h]; simp
theorem nodeP0 (h : ¬ (1 ≤ x.kind ∧ x.kind ≤ 8)) : nodeP w x ↔ False := by
 refine ⟨fun hn => ?_, False.elim⟩
 rcases hn with h1 | h1 | h1 | h1 | h1 | h1 | h1 | h1 <;> have := h1.1 <;> omega
end
set_option maxHeartbeats 16000000 in
theorem may_ok {t : TB} {nx bd : Nat} (x : Nd) (vn vt iv : AV) (p : Int) (ns : List Nd) (hN : RowN t bd vn ns) (hI : RowI t bd iv x.ins) (hb : bd ≤ nx) (hc : isCell vn = true ∧ isCell vt = true) (hin : ∀ k ∈ x.ins, 0 ≤ k ∧ k < (ns.length : Int)) (hwd : ∀ y ∈ ns, 1 ≤ y.wide ∧ y.wide ≤ 256) (hxw : 1 ≤ x.wide ∧ x.wide ≤ 256) (hl : x.ins.length < 60000) (hv256 : ∀ c ∈ x.value, c < 256) (hvl : x.value.length ≤ 9223372036854775807) :
   WF tb 103 [.agg [vn, vt, .int .i64 p], .agg (ncells x iv)] t nx (fun v t' nx' => ∃ b : Bool, v = .bool b ∧ (b = true ↔ ndOK (x.ins.map (wdN ns)) x) ∧ nx ≤ nx' ∧ Keep t t' nx (fun _ => False)) := by
 have hic := hI.cell
 unfold ncells
 obtain ⟨ws, hws⟩ : ∃ ws, ws = x.ins.map (wdN ns) := ⟨_, rfl⟩
 have hwl : ws.length = x.ins.length := by rw [hws]; simp
 have hwr := wdN_range hin hwd
 rw [← hws] at hwr ⊢
 refine k_fun may_tab rfl ?_
 unfold may_c
 change WC _ _ (Bt.put (some _) (Bt.put (some _) Bt.e 0) 1) _ _ _
 refine k_seq (k_reg (r_heap (o_box (eV (get_other rfl get_same))) rfl (fun t1 (hh2 : hv t1 = upd (hv t) nx (some (.row [vn, vt, (.int .i64 p)] true))) => r_heap (o_box (eV (z1 get_same))) rfl (fun t3 (hh4 : hv t3 = upd (hv t1) (nx + 1) (some (.row [(.int .i64 x.kind), (.int .i64 x.op), (.int .i64 x.wide), iv, (.str x.value), (.int .i64 x.hi), (.int .i64 x.lo), (.int .i64 x.time)] true))) => rO (o_mov ev_c) (r_nil (k_seq (k_reg (rO (o_mov ev_c) (r_nil (k_seq (k_seq (k_reg (rO (o_faddr (off := 3) (eV (z2 ds))) (rO (o_load eZ (lS hh4) rfl) (rO (o_len_I hI eZ) (rO (o_mov ev_c) (r_nil (k_block (k_loop (fun mm Tv tv nv => ∃ (i : Nat) (wv : AV), i ≤ x.ins.length ∧ ((i = 0 ∧ wv = .nslice) ∨ ∃ d, wv = .slice d 0 i i 1 false ∧ hv tv d = some (.row (ints (ws.take i)) true) ∧ nx + 1 < d ∧ d < nv) ∧ Tv.get 2 = some (.ptr nx 0) ∧ Tv.get 3 = some (.ptr (nx + 1) 0) ∧ Tv.get 5 = some wv ∧ Tv.get 11 = some iv ∧ Tv.get 12 = some (.int .i64 ((x.ins.length : Nat) : Int)) ∧ Tv.get 13 = some (.int .i64 (i : Int)) ∧ hv tv nx = some (.row [vn, vt, .int .i64 p] true) ∧ hv tv (nx + 1) = some (.row [(.int .i64 x.kind), (.int .i64 x.op), (.int .i64 x.wide), iv, (.str x.value), (.int .i64 x.hi), (.int .i64 x.lo), (.int .i64 x.time)] true) ∧ nx + 2 ≤ nv ∧ Keep t tv nx (fun _ => False) ∧ mm + i = x.ins.length) (fun mm Tv tv nv hI => ?_) (x.ins.length) ⟨0, .nslice, by omega, .inl ⟨rfl, rfl⟩, (z1 (z2 (z4 ds))), (z2 (z4 ds)), (z4 ds), (z2 ds), (z1 ds), ds, (lN hh4 (lS hh2)), (lS hh4), by omega, kU (kU kR hh2) hh4, by omega⟩)))))))))))))))))))
 obtain ⟨i, wv, hi, hwv, q2, q3, q5, q11, q12, q13, hr2, hr3, hnv, hkp, hmm⟩ := hI
 refine k_seq (k_reg (rO (o_lss (eV q13) (eV q12)) (r_nil (k_seq ?_))))
 refine k_if eZ (fun hc5 => ?_) (fun hc5 => ?_)
 · refine k_skip (k_seq (k_block (k_seq ?_)))
   rcases hI with ⟨-, h0⟩ | ⟨di, oi, ci, exi, wri, ri, hie, hdi, hri, hrli, hsegi⟩
   · have h_ := congrArg List.length h0; simp only [List.length_nil] at h_; omega
   subst hie
   have hri1 := hkp.look (by omega) id hri
   obtain ⟨k, hk⟩ := some_at (l := x.ins) (i := i) (by omega)
   have hkr := hin k (List.mem_of_getElem? hk)
   refine k_reg (rO (o_iaddr (i := i) (eV (z1 q11)) (eV (z1 q13)) (by omega)) ?_)
   refine rO (o_load eZ hri1 (by rw [Nat.mul_one]; exact rowI_get (i := i) hsegi hk)) ?_
   refine m1 ds (r_nil ?_)
   rcases hN with ⟨-, h0⟩ | ⟨dn, on, cn, exn, wrn, rn, ivs, hne, hdn, hrn, hrln, hsegn, hivl, hivr⟩
   · exfalso; rw [h0] at hkr; simp at hkr; omega
   subst hne
   have hrn1 := hkp.look (by omega) id hrn
   obtain ⟨y, hy⟩ := some_at (l := ns) (i := k.toNat) (by omega)
   obtain ⟨jy, hjy⟩ := some_at (l := ivs) (i := k.toNat) (by omega)
   have hwk := ws_at hws hk (by omega) hy
   rcases hwv with ⟨hi0, hwe⟩ | ⟨d, hwe, hdr, hd1, hd2⟩
   · subst hwe
     refine k_reg (m1 (z4 q5) (rO (o_faddr (off := 0) (eV (z1 (z4 q2)))) (rO (o_load eZ hr2 rfl) (m1 (z1 (z2 ds)) (rO (o_iaddr (i := (k).toNat) (eV (z1 ds)) (ev_cast eZ (by omega)) (by omega)) (rO (o_faddr (off := 2) eZ) (rO (o_load eZ hrn1 (nodeN_get (j := 2) hsegn hivl hy hjy (by decide) (by omega) rfl)) (r_heap (o_bslice (fill_cons eZ rfl rfl fill_nil)) rfl (fun t6 (hh7 : hv t6 = upd (hv tv) nv (some (.row [(.int .i64 y.wide)] true))) => ?_)))))))))
     refine r_heap (o_appE (eV (z1 (z2 (z4 ds)))) eZ (app_nil (cs := ints (ws.take (i + 1))) rfl (by rw [take_one hwk hi0]; exact (src_row (k := 1) (lS hh7) (leb rfl))) (ints_cell _) (by decide) (by decide))) rfl (fun tq (hq : hv tq = upd (hv t6) (nv + 1) (some (.row (ints (ws.take (i + 1))) true))) => ?_)
     refine m1 ds (r_nil (k_reg (rO (o_add (eV (z2 (z4 (z8 q13)))) ev_c (by omega) (by omega)) (m1 ds (r_nil ?_)))))
     exact ⟨mm - 1, by omega, i + 1, _, by omega, .inr ⟨(nv + 1), by rw [hi0], (lS hq), by omega, by omega⟩, (z16 q2), (z16 q3), (z2 ds), (z16 q11), (z16 q12), ds, (lN hq (lN hh7 hr2)), (lN hq (lN hh7 hr3)), by omega, kU (kU (hkp) hh7) hq, by omega⟩
   subst hwe
   refine k_reg (m1 (z4 q5) (rO (o_faddr (off := 0) (eV (z1 (z4 q2)))) (rO (o_load eZ hr2 rfl) (m1 (z1 (z2 ds)) (rO (o_iaddr (i := (k).toNat) (eV (z1 ds)) (ev_cast eZ (by omega)) (by omega)) (rO (o_faddr (off := 2) eZ) (rO (o_load eZ hrn1 (nodeN_get (j := 2) hsegn hivl hy hjy (by decide) (by omega) rfl)) (r_heap (o_bslice (fill_cons eZ rfl rfl fill_nil)) rfl (fun t8 (hh9 : hv t8 = upd (hv tv) nv (some (.row [(.int .i64 y.wide)] true))) => ?_)))))))))
   refine r_heap (o_appE (eV (z1 (z2 (z4 ds)))) eZ (app_new_f (k := 1) (cs := [.int .i64 y.wide]) rfl (src_row (k := 1) (lS hh9) (leb rfl)) rfl (lN hh9 hdr) (by rw [ints_len, List.length_take]; omega) (by omega) (by omega))) rfl (fun tq ⟨tp, hp, hq⟩ => ?_)
   refine m1 ds (r_nil ?_)
   rw [Nat.mul_one, whole (by rw [ints_len, List.length_take]; omega), ints_snoc, ← take_more hwk] at hq
   refine k_reg (rO (o_add (eV (z2 (z4 (z8 q13)))) ev_c (by omega) (by omega)) (m1 ds (r_nil ?_)))
   exact ⟨mm - 1, by omega, i + 1, _, by omega, .inr ⟨(nv + 1), rfl, (lS hq), by omega, by omega⟩, (z16 q2), (z16 q3), (z2 ds), (z16 q11), (z16 q12), ds, (lN hq (lN hp (lN hh9 hr2))), (lN hq (lN hp (lN hh9 hr3))), by omega, kU (kU (kU (hkp) hh9) hp) hq, by omega⟩
 refine k_exit (exK_same (k_seq ?_))
 have hW : RowI tv nv wv ws := by
   rcases hwv with ⟨h0, hwe⟩ | ⟨d, hwe, hdr, hd1, hd2⟩
   · exact .inl ⟨hwe, List.eq_nil_of_length_eq_zero (by omega)⟩
   have e_ : ws.length = i := by omega
   rw [List.take_of_length_le (by omega)] at hdr
   exact .inr ⟨d, 0, i, false, true, ints ws, by rw [hwe, e_], hd2, hdr, by rw [ints_len]; omega, by rw [← ints_len ws]; exact whole rfl⟩
 refine k_reg (rO (o_loadA (n := 8) (eV (z1 q3)) hr3 (leb rfl) rfl) (r_heap (o_alloc) rfl (fun t10 (hh11 : hv t10 = upd (hv tv) nv (some (.row [(.int .i64 0), (.int .i64 0), (.int .i64 0), .nslice, (.str []), (.int .i64 0), (.int .i64 0), (.int .i64 0)] true))) => r_heap (o_store (n := 8) eZ (eV (z1 ds)) (lS hh11) rfl (ncells_cell x hic) (leb rfl)) rfl (fun t12 (hh13 : hv t12 = upd (hv t10) nv (some (.row [(.int .i64 x.kind), (.int .i64 x.op), (.int .i64 x.wide), iv, (.str x.value), (.int .i64 x.hi), (.int .i64 x.lo), (.int .i64 x.time)] true))) => r_nil (k_seq (k_reg (rO (o_faddr (off := 3) (eV (z1 ds))) (r_heap (o_store (n := 1) eZ ev_c (lS hh13) rfl rfl (leb rfl)) rfl (fun t14 (hh15 : hv t14 = upd (hv t12) nv (some (.row [(.int .i64 x.kind), (.int .i64 x.op), (.int .i64 x.wide), .nslice, (.str x.value), (.int .i64 x.hi), (.int .i64 x.lo), (.int .i64 x.time)] true))) => rO (o_faddr (off := 2) (eV (z1 (z2 ds)))) (r_heap (o_store (n := 1) eZ ev_c (lS hh15) rfl rfl (leb rfl)) rfl (fun t16 (hh17 : hv t16 = upd (hv t14) nv (some (.row [(.int .i64 x.kind), (.int .i64 x.op), (.int .i64 0), .nslice, (.str x.value), (.int .i64 x.hi), (.int .i64 x.lo), (.int .i64 x.time)] true))) => rO (o_faddr (off := 0) (eV (z1 (z4 ds)))) (r_heap (o_store (n := 1) eZ ev_c (lS hh17) rfl rfl (leb rfl)) rfl (fun t18 (hh19 : hv t18 = upd (hv t16) nv (some (.row [(.int .i64 0), (.int .i64 x.op), (.int .i64 0), .nslice, (.str x.value), (.int .i64 x.hi), (.int .i64 x.lo), (.int .i64 x.time)] true))) => ?_)))))))))))))
 refine r_nil (k_seq (k_reg (rO (o_mov ev_c) (r_nil (k_seq (k_seq (k_reg (rO (o_faddr (off := 0) (eV (z1 (z2 (z8 q3))))) (rO (o_load eZ (lN hh19 (lN hh17 (lN hh15 (lN hh13 (lN hh11 hr3))))) rfl) (r_nil ?_))))))))))
 refine k_cut (fun Ty ty ny => ∃ (okb : Bool) (op2 hi2 lo2 tm2 : Int) (vl2 : List Nat) (bb : Nat), Ty.get 9 = some (.bool okb) ∧ (okb = true ↔ nodeP ws x) ∧ Ty.get 8 = some (.ptr bb 0) ∧ hv ty bb = some (.row [.int .i64 0, .int .i64 op2, .int .i64 0, .nslice, .str vl2, .int .i64 hi2, .int .i64 lo2, .int .i64 tm2] true) ∧ Bare x op2 vl2 hi2 lo2 tm2 ∧ nx ≤ ny ∧ Keep t ty nx (fun _ => False)) ?_ ?_
 · refine k_block (k_seq (k_reg (rO (o_eql eZ ev_c) (m1 ds (r_nil ?_)))))
   refine k_if eZ (fun hc20 => ?_) (fun hc20 => ?_)
   · refine k_seq (k_reg (m1 (z1 (z2 (z4 (z8 q5)))) (rO (o_len_I hW eZ) ?_)))
     by_cases hs21 : (((ws.length : Nat) : Int) = 0)
     · have hwe := len0 hs21
       refine rO (dec_t (o_eql eZ ev_c) hs21) (m1 ds (r_op (o_faddr (off := 4) (eV (z1 (z2 (z16 q3))))) (want_on ds) (r_op (o_load eZ (lN hh19 (lN hh17 (lN hh15 (lN hh13 (lN hh11 hr3))))) rfl) (want_on (z1 ds)) (r_call (w_callF (evs_cons eZ evs_nil)) (want_on (z2 ds)) (WF.mono (lcheck_ok x.value hv256 hvl) ?_)))))
       rintro _ t22 n23 ⟨rl, rfl, hrl, hnl, hkl⟩
       by_cases hs24 : (rl = 0)
       · refine r_op (dec_t (o_eql eZ ev_c) hs24) (want_on (z1 (z2 ds))) (rO (o_pick_t (eV (z4 ds)) eZ) (m1 ds (r_op (o_faddr (off := 4) (eV (z1 (z8 (z16 q3))))) (want_on ds) (r_op (o_load eZ (Keep.look hkl (by omega) id (lN hh19 (lN hh17 (lN hh15 (lN hh13 (lN hh11 hr3)))))) rfl) (want_on (z1 ds)) (r_op (o_len_str eZ) (want_on (z2 ds)) (r_op (o_faddr (off := 2) (eV (z4 (z8 (z16 q3))))) (want_on (z1 (z2 ds))) (r_op (o_load eZ (Keep.look hkl (by omega) id (lN hh19 (lN hh17 (lN hh15 (lN hh13 (lN hh11 hr3)))))) rfl) (want_on (z4 ds)) ?_)))))))
         by_cases hs25 : (((x.value.length : Nat) : Int) = x.wide)
         · refine r_op (dec_t (o_eql (eV (z2 ds)) eZ) hs25) (want_on (z1 (z4 ds))) (rO (o_pick_t (eV (z2 (z4 ds))) eZ) (m1 ds (r_nil (k_reg (rO (o_faddr (off := 4) (eV (z2 (z4 (z8 (z16 ds)))))) (r_heap (o_store (n := 1) eZ ev_c (Keep.look hkl (by omega) id (lS hh19)) rfl rfl (leb rfl)) rfl (fun t26 (hh27 : hv t26 = upd (hv t22) nv (some (.row [(.int .i64 0), (.int .i64 x.op), (.int .i64 0), .nslice, (.str []), (.int .i64 x.hi), (.int .i64 x.lo), (.int .i64 x.time)] true))) => r_nil ?_)))))))
           have hfin : ((true : Bool) = true ↔ nodeP ws x) := by
             rw [nodeP1 (by omega)]
             refine ⟨fun _ => ?_, fun _ => rfl⟩
             exact ⟨hwe, hrl.elim (fun h => h.2) (fun h => by exfalso; omega), by omega⟩
           exact ⟨_, x.op, x.hi, x.lo, x.time, [], nv, (z2 ds), hfin, (z16 (z16 ds)), (lS hh27), (by unfold Bare; refine ⟨?_, ?_, ?_, ?_⟩ <;> first | omega | (split <;> first | rfl | omega)), by omega, kU (Keep.trans (kU (kU (kU (kU (kU (hkp) hh11) hh13) hh15) hh17) hh19) hkl (by omega) (fun d _ h => h)) hh27⟩
         refine r_op (dec_f (o_eql (eV (z2 ds)) eZ) hs25) (want_on (z1 (z4 ds))) (rO (o_pick_t (eV (z2 (z4 ds))) eZ) (m1 ds (r_nil (k_reg (rO (o_faddr (off := 4) (eV (z2 (z4 (z8 (z16 ds)))))) (r_heap (o_store (n := 1) eZ ev_c (Keep.look hkl (by omega) id (lS hh19)) rfl rfl (leb rfl)) rfl (fun t28 (hh29 : hv t28 = upd (hv t22) nv (some (.row [(.int .i64 0), (.int .i64 x.op), (.int .i64 0), .nslice, (.str []), (.int .i64 x.hi), (.int .i64 x.lo), (.int .i64 x.time)] true))) => r_nil ?_)))))))
         have hfin : ((false : Bool) = true ↔ nodeP ws x) := by
           rw [nodeP1 (by omega)]
           refine ⟨(fun h => by cases h), fun h_ => ?_⟩
           obtain ⟨h1_, h2_, h3_⟩ := h_
           have e_ : ((ws.length : Nat) : Int) = 0 := by rw [h1_]; rfl
           first | omega | (exact absurd h2_ (hrl.elim (fun e => by exfalso; omega) (fun e => e.2)))
         exact ⟨_, x.op, x.hi, x.lo, x.time, [], nv, (z2 ds), hfin, (z16 (z16 ds)), (lS hh29), (by unfold Bare; refine ⟨?_, ?_, ?_, ?_⟩ <;> first | omega | (split <;> first | rfl | omega)), by omega, kU (Keep.trans (kU (kU (kU (kU (kU (hkp) hh11) hh13) hh15) hh17) hh19) hkl (by omega) (fun d _ h => h)) hh29⟩
       refine r_op (dec_f (o_eql eZ ev_c) hs24) (want_on (z1 (z2 ds))) (rO (o_pick_t (eV (z4 ds)) eZ) (m1 ds (r_off (wN ds) (r_off (wN (z1 ds)) (r_off (wN (z2 ds)) (r_off (wN (z1 (z2 ds))) (r_off (wN (z4 ds)) (r_off (wN (z1 (z4 ds))) (rO (o_pick_f (eV (z2 (z4 ds))) ev_c) (m1 ds (r_nil (k_reg (rO (o_faddr (off := 4) (eV (z2 (z4 (z8 (z16 ds)))))) (r_heap (o_store (n := 1) eZ ev_c (Keep.look hkl (by omega) id (lS hh19)) rfl rfl (leb rfl)) rfl (fun t30 (hh31 : hv t30 = upd (hv t22) nv (some (.row [(.int .i64 0), (.int .i64 x.op), (.int .i64 0), .nslice, (.str []), (.int .i64 x.hi), (.int .i64 x.lo), (.int .i64 x.time)] true))) => r_nil ?_)))))))))))))))
       have hfin : ((false : Bool) = true ↔ nodeP ws x) := by
         rw [nodeP1 (by omega)]
         refine ⟨(fun h => by cases h), fun h_ => ?_⟩
         obtain ⟨h1_, h2_, h3_⟩ := h_
         have e_ : ((ws.length : Nat) : Int) = 0 := by rw [h1_]; rfl
         first | omega | (exact absurd h2_ (hrl.elim (fun e => by exfalso; omega) (fun e => e.2)))
       exact ⟨_, x.op, x.hi, x.lo, x.time, [], nv, (z2 ds), hfin, (z16 (z16 ds)), (lS hh31), (by unfold Bare; refine ⟨?_, ?_, ?_, ?_⟩ <;> first | omega | (split <;> first | rfl | omega)), by omega, kU (Keep.trans (kU (kU (kU (kU (kU (hkp) hh11) hh13) hh15) hh17) hh19) hkl (by omega) (fun d _ h => h)) hh31⟩
     refine rO (dec_f (o_eql eZ ev_c) hs21) (m1 ds (r_off (wN ds) (r_off (wN (z1 ds)) (r_off (wN (z2 ds)) (r_off (wN (z1 (z2 ds))) (rO (o_pick_f (eV (z4 ds)) ev_c) (m1 ds (r_off (wN ds) (r_off (wN (z1 ds)) (r_off (wN (z2 ds)) (r_off (wN (z1 (z2 ds))) (r_off (wN (z4 ds)) (r_off (wN (z1 (z4 ds))) (rO (o_pick_f (eV (z2 (z4 ds))) ev_c) (m1 ds (r_nil (k_reg (rO (o_faddr (off := 4) (eV (z2 (z4 (z8 (z16 ds)))))) (r_heap (o_store (n := 1) eZ ev_c (lS hh19) rfl rfl (leb rfl)) rfl (fun t32 (hh33 : hv t32 = upd (hv t18) nv (some (.row [(.int .i64 0), (.int .i64 x.op), (.int .i64 0), .nslice, (.str []), (.int .i64 x.hi), (.int .i64 x.lo), (.int .i64 x.time)] true))) => r_nil ?_))))))))))))))))))))
     have hfin : ((false : Bool) = true ↔ nodeP ws x) := by
       rw [nodeP1 (by omega)]
       refine ⟨(fun h => by cases h), fun h_ => ?_⟩
       obtain ⟨h1_, h2_, h3_⟩ := h_
       have e_ : ((ws.length : Nat) : Int) = 0 := by rw [h1_]; rfl
       first | omega | (exact absurd h2_ (hrl.elim (fun e => by exfalso; omega) (fun e => e.2)))
     exact ⟨_, x.op, x.hi, x.lo, x.time, [], nv, (z2 ds), hfin, (z16 (z16 ds)), (lS hh33), (by unfold Bare; refine ⟨?_, ?_, ?_, ?_⟩ <;> first | omega | (split <;> first | rfl | omega)), by omega, kU (kU (kU (kU (kU (kU (hkp) hh11) hh13) hh15) hh17) hh19) hh33⟩
   refine k_seq (k_reg (rO (o_eql (eV (z2 ds)) ev_c) (m1 ds (r_nil ?_))))
   refine k_if eZ (fun hc34 => ?_) (fun hc34 => ?_)
   · refine k_reg (m1 (z1 (z16 q5)) (rO (o_len_I hW eZ) ?_))
     by_cases hs35 : (((ws.length : Nat) : Int) = 0)
     · have hwe := len0 hs35
       refine rO (dec_t (o_eql eZ ev_c) hs35) (m1 ds (r_nil ?_))
       have hfin : ((true : Bool) = true ↔ nodeP ws x) := by
         rw [nodeP2 (by omega)]
         refine ⟨fun _ => ?_, fun _ => rfl⟩
         exact hwe
       exact ⟨_, x.op, x.hi, x.lo, x.time, x.value, nv, ds, hfin, (z2 (z16 ds)), (lS hh19), (by unfold Bare; refine ⟨?_, ?_, ?_, ?_⟩ <;> first | omega | (split <;> first | rfl | omega)), by omega, kU (kU (kU (kU (kU (hkp) hh11) hh13) hh15) hh17) hh19⟩
     refine rO (dec_f (o_eql eZ ev_c) hs35) (m1 ds (r_nil ?_))
     have hfin : ((false : Bool) = true ↔ nodeP ws x) := by
       rw [nodeP2 (by omega)]
       refine ⟨(fun h => by cases h), fun h_ => ?_⟩
       have h1_ := h_
       have e_ : ((ws.length : Nat) : Int) = 0 := by rw [h1_]; rfl
       first | omega | (rw [hwe] at h1_; simp only [List.cons.injEq, and_true, true_and] at h1_; omega)
     exact ⟨_, x.op, x.hi, x.lo, x.time, x.value, nv, ds, hfin, (z2 (z16 ds)), (lS hh19), (by unfold Bare; refine ⟨?_, ?_, ?_, ?_⟩ <;> first | omega | (split <;> first | rfl | omega)), by omega, kU (kU (kU (kU (kU (hkp) hh11) hh13) hh15) hh17) hh19⟩
   refine k_seq (k_reg (rO (o_eql (eV (z4 ds)) ev_c) (m1 ds (r_nil ?_))))
   refine k_if eZ (fun hc36 => ?_) (fun hc36 => ?_)
   · refine k_seq (k_draw (eO 0 rfl (o_loadA (n := 8) (eV (z1 (z2 (z16 q3)))) (lN hh19 (lN hh17 (lN hh15 (lN hh13 (lN hh11 hr3))))) (leb rfl) rfl) (eO 1 rfl (o_mov (eV (z4 (z16 q5)))) (eO 3 rfl (o_faddr (off := 2) (eV (z1 (z4 (z16 q3))))) (eO 4 rfl (o_load eZ (lN hh19 (lN hh17 (lN hh15 (lN hh13 (lN hh11 hr3))))) rfl) (d_call (ix := 2) (pr := [0, 1]) (d := (some 62)) (g := none) (F' := [(⟨4, [3], .o 64 (.load (.t 63))⟩, (.int .i64 x.wide)), (⟨3, [], .o 63 (.faddr (.t 3) 2)⟩, (.ptr (nx + 1) 2))]) (w_callF (evs_cons (eV (z1 (z2 ds))) (evs_cons (eV (z2 ds)) evs_nil))) rfl (by kernel_rfl) (by kernel_rfl) (by kernel_rfl) (by kernel_rfl) (WF.mono (operated_ok (bd := nv) x iv wv ws (hW.keep (kU (kU (kU (kU (kU kR hh11) hh13) hh15) hh17) hh19) (Nat.le_refl _)) (by omega) hwr (by omega)) ?_)))))))
     rintro _ t37 n38 ⟨ro, rfl, hro, hno, hko⟩
     refine ⟨?_, ?_⟩
     · exact (all_cons_ (still_op rfl rfl (o_load (eV (z2 ds)) (Keep.look hko (by omega) id (lN hh19 (lN hh17 (lN hh15 (lN hh13 (lN hh11 hr3)))))) rfl) (aeq_flat rfl)) (all_cons_ (still_op rfl rfl (o_faddr (off := 2) (eV (z8 (z16 q3)))) (aeq_flat rfl)) all_nil_))
     by_cases hs39 : (ro = x.wide)
     · refine eO 5 rfl (dec_t (o_eql eZ (eV (z1 ds))) hs39) (eO 6 rfl (o_mov eZ) (e_done (k_seq (k_reg (rO (o_faddr (off := 1) (eV (z1 (z2 (z4 (z16 ds)))))) (r_heap (o_store (n := 1) eZ ev_c (Keep.look hko (by omega) id (lS hh19)) rfl rfl (leb rfl)) rfl (fun t40 (hh41 : hv t40 = upd (hv t37) nv (some (.row [(.int .i64 0), (.int .i64 0), (.int .i64 0), .nslice, (.str x.value), (.int .i64 x.hi), (.int .i64 x.lo), (.int .i64 x.time)] true))) => r_nil (k_seq (k_reg (rO (o_faddr (off := 1) (eV (z4 (z8 (z16 q3))))) (rO (o_load eZ (lN hh41 (Keep.look hko (by omega) id (lN hh19 (lN hh17 (lN hh15 (lN hh13 (lN hh11 hr3))))))) rfl) (rO (o_eql eZ ev_c) (r_nil ?_)))))))))))))
       refine k_if eZ (fun hc42 => ?_) (fun hc42 => ?_)
       · refine k_reg (rO (o_faddr (off := 5) (eV (z4 (z8 (z16 ds))))) (r_heap (o_store (n := 1) eZ ev_c (lS hh41) rfl rfl (leb rfl)) rfl (fun t43 (hh44 : hv t43 = upd (hv t40) nv (some (.row [(.int .i64 0), (.int .i64 0), (.int .i64 0), .nslice, (.str x.value), (.int .i64 0), (.int .i64 x.lo), (.int .i64 x.time)] true))) => rO (o_faddr (off := 6) (eV (z2 (z4 (z8 (z16 ds)))))) (r_heap (o_store (n := 1) eZ ev_c (lS hh44) rfl rfl (leb rfl)) rfl (fun t45 (hh46 : hv t45 = upd (hv t43) nv (some (.row [(.int .i64 0), (.int .i64 0), (.int .i64 0), .nslice, (.str x.value), (.int .i64 0), (.int .i64 0), (.int .i64 x.time)] true))) => r_nil ?_)))))
         have hfin : ((true : Bool) = true ↔ nodeP ws x) := by
           rw [nodeP3 (by omega)]
           refine ⟨fun _ => ?_, fun _ => rfl⟩
           exact operA_eq hro (by omega) hxw hwr
         exact ⟨_, 0, 0, 0, x.time, x.value, nv, (z1 (z8 ds)), hfin, (z16 (z16 ds)), (lS hh46), (by unfold Bare; refine ⟨?_, ?_, ?_, ?_⟩ <;> first | omega | (split <;> first | rfl | omega)), by omega, kU (kU (kU (Keep.trans (kU (kU (kU (kU (kU (hkp) hh11) hh13) hh15) hh17) hh19) hko (by omega) (fun d _ h => h)) hh41) hh44) hh46⟩
       refine k_skip ?_
       have hfin : ((true : Bool) = true ↔ nodeP ws x) := by
         rw [nodeP3 (by omega)]
         refine ⟨fun _ => ?_, fun _ => rfl⟩
         exact operA_eq hro (by omega) hxw hwr
       exact ⟨_, 0, x.hi, x.lo, x.time, x.value, nv, (z1 (z4 ds)), hfin, (z4 (z8 (z16 ds))), (lS hh41), (by unfold Bare; refine ⟨?_, ?_, ?_, ?_⟩ <;> first | omega | (split <;> first | rfl | omega)), by omega, kU (Keep.trans (kU (kU (kU (kU (kU (hkp) hh11) hh13) hh15) hh17) hh19) hko (by omega) (fun d _ h => h)) hh41⟩
     refine eO 5 rfl (dec_f (o_eql eZ (eV (z1 ds))) hs39) (eO 6 rfl (o_mov eZ) (e_done (k_seq (k_reg (rO (o_faddr (off := 1) (eV (z1 (z2 (z4 (z16 ds)))))) (r_heap (o_store (n := 1) eZ ev_c (Keep.look hko (by omega) id (lS hh19)) rfl rfl (leb rfl)) rfl (fun t47 (hh48 : hv t47 = upd (hv t37) nv (some (.row [(.int .i64 0), (.int .i64 0), (.int .i64 0), .nslice, (.str x.value), (.int .i64 x.hi), (.int .i64 x.lo), (.int .i64 x.time)] true))) => r_nil (k_seq (k_reg (rO (o_faddr (off := 1) (eV (z4 (z8 (z16 q3))))) (rO (o_load eZ (lN hh48 (Keep.look hko (by omega) id (lN hh19 (lN hh17 (lN hh15 (lN hh13 (lN hh11 hr3))))))) rfl) (rO (o_eql eZ ev_c) (r_nil ?_)))))))))))))
     refine k_if eZ (fun hc49 => ?_) (fun hc49 => ?_)
     · refine k_reg (rO (o_faddr (off := 5) (eV (z4 (z8 (z16 ds))))) (r_heap (o_store (n := 1) eZ ev_c (lS hh48) rfl rfl (leb rfl)) rfl (fun t50 (hh51 : hv t50 = upd (hv t47) nv (some (.row [(.int .i64 0), (.int .i64 0), (.int .i64 0), .nslice, (.str x.value), (.int .i64 0), (.int .i64 x.lo), (.int .i64 x.time)] true))) => rO (o_faddr (off := 6) (eV (z2 (z4 (z8 (z16 ds)))))) (r_heap (o_store (n := 1) eZ ev_c (lS hh51) rfl rfl (leb rfl)) rfl (fun t52 (hh53 : hv t52 = upd (hv t50) nv (some (.row [(.int .i64 0), (.int .i64 0), (.int .i64 0), .nslice, (.str x.value), (.int .i64 0), (.int .i64 0), (.int .i64 x.time)] true))) => r_nil ?_)))))
       have hfin : ((false : Bool) = true ↔ nodeP ws x) := by
         rw [nodeP3 (by omega)]
         refine ⟨(fun h => by cases h), fun h_ => ?_⟩
         exact absurd (operA_eq2 hro h_ hxw) (by omega)
       exact ⟨_, 0, 0, 0, x.time, x.value, nv, (z1 (z8 ds)), hfin, (z16 (z16 ds)), (lS hh53), (by unfold Bare; refine ⟨?_, ?_, ?_, ?_⟩ <;> first | omega | (split <;> first | rfl | omega)), by omega, kU (kU (kU (Keep.trans (kU (kU (kU (kU (kU (hkp) hh11) hh13) hh15) hh17) hh19) hko (by omega) (fun d _ h => h)) hh48) hh51) hh53⟩
     refine k_skip ?_
     have hfin : ((false : Bool) = true ↔ nodeP ws x) := by
       rw [nodeP3 (by omega)]
       refine ⟨(fun h => by cases h), fun h_ => ?_⟩
       exact absurd (operA_eq2 hro h_ hxw) (by omega)
     exact ⟨_, 0, x.hi, x.lo, x.time, x.value, nv, (z1 (z4 ds)), hfin, (z4 (z8 (z16 ds))), (lS hh48), (by unfold Bare; refine ⟨?_, ?_, ?_, ?_⟩ <;> first | omega | (split <;> first | rfl | omega)), by omega, kU (Keep.trans (kU (kU (kU (kU (kU (hkp) hh11) hh13) hh15) hh17) hh19) hko (by omega) (fun d _ h => h)) hh48⟩
   refine k_seq (k_reg (rO (o_eql (eV (z2 (z4 ds))) ev_c) (m1 ds (r_nil ?_))))
   refine k_if eZ (fun hc54 => ?_) (fun hc54 => ?_)
   · refine k_draw (eO 0 rfl (o_mov (eV (z1 (z4 (z16 q5))))) (eO 1 rfl (o_len_I hW eZ) ?_))
     by_cases hs55 : (((ws.length : Nat) : Int) = 3)
     · obtain ⟨wa, wb, wc, hwe⟩ := len3 hs55
       rcases hW with ⟨-, h0⟩ | ⟨dw, ow, cw, exw, wrw, rw_, hwve, hdw, hrw, hrlw, hsegw⟩
       · rw [hwe] at h0; cases h0
       subst hwve
       rw [hwe] at hsegw
       refine eO 2 rfl (dec_t (o_eql eZ ev_c) hs55) (eO 3 rfl (o_mov eZ) (e_op 4 rfl (o_mov (eV (z1 (z8 (z16 q5))))) (want_on ds) (e_op 5 rfl (o_iaddr (i := 1) eZ ev_c (by omega)) (want_on (z1 ds)) ?_)))
       refine e_op 6 rfl (o_load eZ (lN hh19 (lN hh17 (lN hh15 (lN hh13 (lN hh11 hrw))))) (by rw [Nat.mul_one]; exact rowI_get (i := 1) hsegw rfl)) (want_on (z2 ds)) ?_
       refine e_op 7 rfl (o_faddr (off := 2) (eV (z4 (z8 (z16 q3))))) (want_on (z1 (z2 ds))) (e_op 8 rfl (o_load eZ (lN hh19 (lN hh17 (lN hh15 (lN hh13 (lN hh11 hr3))))) rfl) (want_on (z4 ds)) ?_)
       by_cases hs56 : (wb = x.wide)
       · refine e_op 9 rfl (dec_t (o_eql (eV (z2 ds)) eZ) hs56) (want_on (z1 (z4 ds))) (eO 10 rfl (o_pick_t (eV (z2 (z4 ds))) eZ) (eO 11 rfl (o_mov eZ) (e_op 12 rfl (o_mov (eV (z1 (z16 (z16 q5))))) (want_on ds) (e_op 13 rfl (o_iaddr (i := 2) eZ ev_c (by omega)) (want_on (z1 ds)) ?_))))
         refine e_op 14 rfl (o_load eZ (lN hh19 (lN hh17 (lN hh15 (lN hh13 (lN hh11 hrw))))) (by rw [Nat.mul_one]; exact rowI_get (i := 2) hsegw rfl)) (want_on (z2 ds)) ?_
         refine e_op 15 rfl (o_faddr (off := 2) (eV (z4 (z16 (z16 q3))))) (want_on (z1 (z2 ds))) (e_op 16 rfl (o_load eZ (lN hh19 (lN hh17 (lN hh15 (lN hh13 (lN hh11 hr3))))) rfl) (want_on (z4 ds)) ?_)
         by_cases hs57 : (wc = x.wide)
         · refine e_op 17 rfl (dec_t (o_eql (eV (z2 ds)) eZ) hs57) (want_on (z1 (z4 ds))) (eO 18 rfl (o_pick_t (eV (z2 (z4 ds))) eZ) (eO 19 rfl (o_mov eZ) (e_done ?_)))
           have hfin : ((true : Bool) = true ↔ nodeP ws x) := by
             rw [nodeP4 (by omega)]
             refine ⟨fun _ => ?_, fun _ => rfl⟩
             exact ⟨wa, by rw [hwe, show wb = x.wide from by omega, show wc = x.wide from by omega]⟩
           exact ⟨_, x.op, x.hi, x.lo, x.time, x.value, nv, ds, hfin, (z2 (z4 (z16 (z16 ds)))), (lS hh19), (by unfold Bare; refine ⟨?_, ?_, ?_, ?_⟩ <;> first | omega | (split <;> first | rfl | omega)), by omega, kU (kU (kU (kU (kU (hkp) hh11) hh13) hh15) hh17) hh19⟩
         refine e_op 17 rfl (dec_f (o_eql (eV (z2 ds)) eZ) hs57) (want_on (z1 (z4 ds))) (eO 18 rfl (o_pick_t (eV (z2 (z4 ds))) eZ) (eO 19 rfl (o_mov eZ) (e_done ?_)))
         have hfin : ((false : Bool) = true ↔ nodeP ws x) := by
           rw [nodeP4 (by omega)]
           refine ⟨(fun h => by cases h), fun h_ => ?_⟩
           obtain ⟨a_, h1_⟩ := h_
           have e_ : ((ws.length : Nat) : Int) = 3 := by rw [h1_]; rfl
           first | omega | (rw [hwe] at h1_; simp only [List.cons.injEq, and_true, true_and] at h1_; omega)
         exact ⟨_, x.op, x.hi, x.lo, x.time, x.value, nv, ds, hfin, (z2 (z4 (z16 (z16 ds)))), (lS hh19), (by unfold Bare; refine ⟨?_, ?_, ?_, ?_⟩ <;> first | omega | (split <;> first | rfl | omega)), by omega, kU (kU (kU (kU (kU (hkp) hh11) hh13) hh15) hh17) hh19⟩
       refine e_op 9 rfl (dec_f (o_eql (eV (z2 ds)) eZ) hs56) (want_on (z1 (z4 ds))) (eO 10 rfl (o_pick_t (eV (z2 (z4 ds))) eZ) (eO 11 rfl (o_mov eZ) (e_off 12 rfl (wN ds) (e_off 13 rfl (wN (z1 ds)) (e_off 14 rfl (wN (z2 ds)) (e_off 15 rfl (wN (z1 (z2 ds))) (e_off 16 rfl (wN (z4 ds)) (e_off 17 rfl (wN (z1 (z4 ds))) (eO 18 rfl (o_pick_f (eV (z2 (z4 ds))) ev_c) (eO 19 rfl (o_mov eZ) (e_done ?_)))))))))))
       have hfin : ((false : Bool) = true ↔ nodeP ws x) := by
         rw [nodeP4 (by omega)]
         refine ⟨(fun h => by cases h), fun h_ => ?_⟩
         obtain ⟨a_, h1_⟩ := h_
         have e_ : ((ws.length : Nat) : Int) = 3 := by rw [h1_]; rfl
         first | omega | (rw [hwe] at h1_; simp only [List.cons.injEq, and_true, true_and] at h1_; omega)
       exact ⟨_, x.op, x.hi, x.lo, x.time, x.value, nv, ds, hfin, (z2 (z4 (z16 (z16 ds)))), (lS hh19), (by unfold Bare; refine ⟨?_, ?_, ?_, ?_⟩ <;> first | omega | (split <;> first | rfl | omega)), by omega, kU (kU (kU (kU (kU (hkp) hh11) hh13) hh15) hh17) hh19⟩
     refine eO 2 rfl (dec_f (o_eql eZ ev_c) hs55) (eO 3 rfl (o_mov eZ) (e_off 4 rfl (wN ds) (e_off 5 rfl (wN (z1 ds)) (e_off 6 rfl (wN (z2 ds)) (e_off 7 rfl (wN (z1 (z2 ds))) (e_off 8 rfl (wN (z4 ds)) (e_off 9 rfl (wN (z1 (z4 ds))) (eO 10 rfl (o_pick_f (eV (z2 (z4 ds))) ev_c) (eO 11 rfl (o_mov eZ) (e_off 12 rfl (wN ds) (e_off 13 rfl (wN (z1 ds)) (e_off 14 rfl (wN (z2 ds)) (e_off 15 rfl (wN (z1 (z2 ds))) (e_off 16 rfl (wN (z4 ds)) (e_off 17 rfl (wN (z1 (z4 ds))) (eO 18 rfl (o_pick_f (eV (z2 (z4 ds))) ev_c) (eO 19 rfl (o_mov eZ) (e_done ?_))))))))))))))))))
     have hfin : ((false : Bool) = true ↔ nodeP ws x) := by
       rw [nodeP4 (by omega)]
       refine ⟨(fun h => by cases h), fun h_ => ?_⟩
       obtain ⟨a_, h1_⟩ := h_
       have e_ : ((ws.length : Nat) : Int) = 3 := by rw [h1_]; rfl
       first | omega | (rw [hwe] at h1_; simp only [List.cons.injEq, and_true, true_and] at h1_; omega)
     exact ⟨_, x.op, x.hi, x.lo, x.time, x.value, nv, ds, hfin, (z2 (z4 (z16 (z16 ds)))), (lS hh19), (by unfold Bare; refine ⟨?_, ?_, ?_, ?_⟩ <;> first | omega | (split <;> first | rfl | omega)), by omega, kU (kU (kU (kU (kU (hkp) hh11) hh13) hh15) hh17) hh19⟩
   refine k_seq (k_reg (rO (o_eql (eV (z8 ds)) ev_c) (m1 ds (r_nil ?_))))
   refine k_if eZ (fun hc58 => ?_) (fun hc58 => ?_)
   · refine k_draw (eO 0 rfl (o_mov (eV (z1 (z2 (z4 (z16 q5)))))) (eO 1 rfl (o_len_I hW eZ) ?_))
     by_cases hs59 : (((ws.length : Nat) : Int) = 2)
     · obtain ⟨wa, wb, hwe⟩ := len2 hs59
       rcases hW with ⟨-, h0⟩ | ⟨dw, ow, cw, exw, wrw, rw_, hwve, hdw, hrw, hrlw, hsegw⟩
       · rw [hwe] at h0; cases h0
       subst hwve
       rw [hwe] at hsegw
       refine eO 2 rfl (dec_t (o_eql eZ ev_c) hs59) (eO 3 rfl (o_mov eZ) (e_op 4 rfl (o_mov (eV (z1 (z2 (z8 (z16 q5)))))) (want_on ds) (e_op 5 rfl (o_iaddr (i := 0) eZ ev_c (by omega)) (want_on (z1 ds)) ?_)))
       refine e_op 6 rfl (o_load eZ (lN hh19 (lN hh17 (lN hh15 (lN hh13 (lN hh11 hrw))))) (by rw [Nat.mul_one]; exact rowI_get (i := 0) hsegw rfl)) (want_on (z2 ds)) ?_
       refine e_op 7 rfl (o_mov (eV (z2 (z4 (z8 (z16 q5)))))) (want_on (z1 (z2 ds))) (e_op 8 rfl (o_iaddr (i := 1) eZ ev_c (by omega)) (want_on (z4 ds)) ?_)
       refine e_op 9 rfl (o_load eZ (lN hh19 (lN hh17 (lN hh15 (lN hh13 (lN hh11 hrw))))) (by rw [Nat.mul_one]; exact rowI_get (i := 1) hsegw rfl)) (want_on (z1 (z4 ds))) ?_
       by_cases hs60 : (wa = wb)
       · refine e_op 10 rfl (dec_t (o_eql (eV (z1 (z2 ds))) eZ) hs60) (want_on (z2 (z4 ds))) (eO 11 rfl (o_pick_t (eV (z1 (z2 (z4 ds)))) eZ) (eO 12 rfl (o_mov eZ) (e_op 13 rfl (o_faddr (off := 2) (eV (z4 (z16 (z16 q3))))) (want_on ds) (e_op 14 rfl (o_load eZ (lN hh19 (lN hh17 (lN hh15 (lN hh13 (lN hh11 hr3))))) rfl) (want_on (z1 ds)) ?_))))
         by_cases hs61 : (x.wide = 1)
         · refine e_op 15 rfl (dec_t (o_eql eZ ev_c) hs61) (want_on (z2 ds)) (eO 16 rfl (o_pick_t (eV (z1 (z2 ds))) eZ) (eO 17 rfl (o_mov eZ) (e_done ?_)))
           have hfin : ((true : Bool) = true ↔ nodeP ws x) := by
             rw [nodeP5 (by omega)]
             refine ⟨fun _ => ?_, fun _ => rfl⟩
             exact ⟨⟨wa, by rw [hwe, show wb = wa from by omega]⟩, by omega⟩
           exact ⟨_, x.op, x.hi, x.lo, x.time, x.value, nv, ds, hfin, (z2 (z4 (z16 (z16 ds)))), (lS hh19), (by unfold Bare; refine ⟨?_, ?_, ?_, ?_⟩ <;> first | omega | (split <;> first | rfl | omega)), by omega, kU (kU (kU (kU (kU (hkp) hh11) hh13) hh15) hh17) hh19⟩
         refine e_op 15 rfl (dec_f (o_eql eZ ev_c) hs61) (want_on (z2 ds)) (eO 16 rfl (o_pick_t (eV (z1 (z2 ds))) eZ) (eO 17 rfl (o_mov eZ) (e_done ?_)))
         have hfin : ((false : Bool) = true ↔ nodeP ws x) := by
           rw [nodeP5 (by omega)]
           refine ⟨(fun h => by cases h), fun h_ => ?_⟩
           obtain ⟨⟨a_, h1_⟩, h3_⟩ := h_
           have e_ : ((ws.length : Nat) : Int) = 2 := by rw [h1_]; rfl
           first | omega | (rw [hwe] at h1_; simp only [List.cons.injEq, and_true, true_and] at h1_; omega)
         exact ⟨_, x.op, x.hi, x.lo, x.time, x.value, nv, ds, hfin, (z2 (z4 (z16 (z16 ds)))), (lS hh19), (by unfold Bare; refine ⟨?_, ?_, ?_, ?_⟩ <;> first | omega | (split <;> first | rfl | omega)), by omega, kU (kU (kU (kU (kU (hkp) hh11) hh13) hh15) hh17) hh19⟩
       refine e_op 10 rfl (dec_f (o_eql (eV (z1 (z2 ds))) eZ) hs60) (want_on (z2 (z4 ds))) (eO 11 rfl (o_pick_t (eV (z1 (z2 (z4 ds)))) eZ) (eO 12 rfl (o_mov eZ) (e_off 13 rfl (wN ds) (e_off 14 rfl (wN (z1 ds)) (e_off 15 rfl (wN (z2 ds)) (eO 16 rfl (o_pick_f (eV (z1 (z2 ds))) ev_c) (eO 17 rfl (o_mov eZ) (e_done ?_))))))))
       have hfin : ((false : Bool) = true ↔ nodeP ws x) := by
         rw [nodeP5 (by omega)]
         refine ⟨(fun h => by cases h), fun h_ => ?_⟩
         obtain ⟨⟨a_, h1_⟩, h3_⟩ := h_
         have e_ : ((ws.length : Nat) : Int) = 2 := by rw [h1_]; rfl
         first | omega | (rw [hwe] at h1_; simp only [List.cons.injEq, and_true, true_and] at h1_; omega)
       exact ⟨_, x.op, x.hi, x.lo, x.time, x.value, nv, ds, hfin, (z2 (z4 (z16 (z16 ds)))), (lS hh19), (by unfold Bare; refine ⟨?_, ?_, ?_, ?_⟩ <;> first | omega | (split <;> first | rfl | omega)), by omega, kU (kU (kU (kU (kU (hkp) hh11) hh13) hh15) hh17) hh19⟩
     refine eO 2 rfl (dec_f (o_eql eZ ev_c) hs59) (eO 3 rfl (o_mov eZ) (e_off 4 rfl (wN ds) (e_off 5 rfl (wN (z1 ds)) (e_off 6 rfl (wN (z2 ds)) (e_off 7 rfl (wN (z1 (z2 ds))) (e_off 8 rfl (wN (z4 ds)) (e_off 9 rfl (wN (z1 (z4 ds))) (e_off 10 rfl (wN (z2 (z4 ds))) (eO 11 rfl (o_pick_f (eV (z1 (z2 (z4 ds)))) ev_c) (eO 12 rfl (o_mov eZ) (e_off 13 rfl (wN ds) (e_off 14 rfl (wN (z1 ds)) (e_off 15 rfl (wN (z2 ds)) (eO 16 rfl (o_pick_f (eV (z1 (z2 ds))) ev_c) (eO 17 rfl (o_mov eZ) (e_done ?_))))))))))))))))
     have hfin : ((false : Bool) = true ↔ nodeP ws x) := by
       rw [nodeP5 (by omega)]
       refine ⟨(fun h => by cases h), fun h_ => ?_⟩
       obtain ⟨⟨a_, h1_⟩, h3_⟩ := h_
       have e_ : ((ws.length : Nat) : Int) = 2 := by rw [h1_]; rfl
       first | omega | (rw [hwe] at h1_; simp only [List.cons.injEq, and_true, true_and] at h1_; omega)
     exact ⟨_, x.op, x.hi, x.lo, x.time, x.value, nv, ds, hfin, (z2 (z4 (z16 (z16 ds)))), (lS hh19), (by unfold Bare; refine ⟨?_, ?_, ?_, ?_⟩ <;> first | omega | (split <;> first | rfl | omega)), by omega, kU (kU (kU (kU (kU (hkp) hh11) hh13) hh15) hh17) hh19⟩
   refine k_seq (k_reg (rO (o_eql (eV (z2 (z8 ds))) ev_c) (m1 ds (r_nil ?_))))
   refine k_if eZ (fun hc62 => ?_) (fun hc62 => ?_)
   · refine k_reg (m1 (z1 (z8 (z16 q5))) (rO (o_len_I hW eZ) ?_))
     by_cases hs63 : (((ws.length : Nat) : Int) = 1)
     · obtain ⟨wa, hwe⟩ := len1 hs63
       rcases hW with ⟨-, h0⟩ | ⟨dw, ow, cw, exw, wrw, rw_, hwve, hdw, hrw, hrlw, hsegw⟩
       · rw [hwe] at h0; cases h0
       subst hwve
       rw [hwe] at hsegw
       refine rO (dec_t (o_eql eZ ev_c) hs63) (m1 ds (r_nil ?_))
       have hfin : ((true : Bool) = true ↔ nodeP ws x) := by
         rw [nodeP6 (by omega)]
         refine ⟨fun _ => ?_, fun _ => rfl⟩
         exact ⟨wa, hwe⟩
       exact ⟨_, x.op, x.hi, x.lo, x.time, x.value, nv, ds, hfin, (z2 (z8 (z16 ds))), (lS hh19), (by unfold Bare; refine ⟨?_, ?_, ?_, ?_⟩ <;> first | omega | (split <;> first | rfl | omega)), by omega, kU (kU (kU (kU (kU (hkp) hh11) hh13) hh15) hh17) hh19⟩
     refine rO (dec_f (o_eql eZ ev_c) hs63) (m1 ds (r_nil ?_))
     have hfin : ((false : Bool) = true ↔ nodeP ws x) := by
       rw [nodeP6 (by omega)]
       refine ⟨(fun h => by cases h), fun h_ => ?_⟩
       obtain ⟨a_, h1_⟩ := h_
       have e_ : ((ws.length : Nat) : Int) = 1 := by rw [h1_]; rfl
       first | omega | (rw [hwe] at h1_; simp only [List.cons.injEq, and_true, true_and] at h1_; omega)
     exact ⟨_, x.op, x.hi, x.lo, x.time, x.value, nv, ds, hfin, (z2 (z8 (z16 ds))), (lS hh19), (by unfold Bare; refine ⟨?_, ?_, ?_, ?_⟩ <;> first | omega | (split <;> first | rfl | omega)), by omega, kU (kU (kU (kU (kU (hkp) hh11) hh13) hh15) hh17) hh19⟩
   refine k_seq (k_reg (rO (o_eql (eV (z4 (z8 ds))) ev_c) (m1 ds (r_nil ?_))))
   refine k_if eZ (fun hc64 => ?_) (fun hc64 => ?_)
   · refine k_draw (eO 0 rfl (o_mov (eV (z1 (z2 (z8 (z16 q5)))))) (eO 1 rfl (o_len_I hW eZ) ?_))
     by_cases hs65 : (((ws.length : Nat) : Int) = 2)
     · obtain ⟨wa, wb, hwe⟩ := len2 hs65
       rcases hW with ⟨-, h0⟩ | ⟨dw, ow, cw, exw, wrw, rw_, hwve, hdw, hrw, hrlw, hsegw⟩
       · rw [hwe] at h0; cases h0
       subst hwve
       rw [hwe] at hsegw
       refine eO 2 rfl (dec_t (o_eql eZ ev_c) hs65) (eO 3 rfl (o_mov eZ) (e_op 4 rfl (o_mov (eV (z1 (z2 (z4 (z8 (z16 q5))))))) (want_on ds) (e_op 5 rfl (o_iaddr (i := 1) eZ ev_c (by omega)) (want_on (z1 ds)) ?_)))
       refine e_op 6 rfl (o_load eZ (lN hh19 (lN hh17 (lN hh15 (lN hh13 (lN hh11 hrw))))) (by rw [Nat.mul_one]; exact rowI_get (i := 1) hsegw rfl)) (want_on (z2 ds)) ?_
       refine e_op 7 rfl (o_faddr (off := 2) (eV (z2 (z16 (z16 q3))))) (want_on (z1 (z2 ds))) (e_op 8 rfl (o_load eZ (lN hh19 (lN hh17 (lN hh15 (lN hh13 (lN hh11 hr3))))) rfl) (want_on (z4 ds)) ?_)
       by_cases hs66 : (wb = x.wide)
       · refine e_op 9 rfl (dec_t (o_eql (eV (z2 ds)) eZ) hs66) (want_on (z1 (z4 ds))) (eO 10 rfl (o_pick_t (eV (z2 (z4 ds))) eZ) (eO 11 rfl (o_mov eZ) (e_done ?_)))
         have hfin : ((true : Bool) = true ↔ nodeP ws x) := by
           rw [nodeP7 (by omega)]
           refine ⟨fun _ => ?_, fun _ => rfl⟩
           exact ⟨wa, by rw [hwe, show wb = x.wide from by omega]⟩
         exact ⟨_, x.op, x.hi, x.lo, x.time, x.value, nv, ds, hfin, (z4 (z16 (z16 ds))), (lS hh19), (by unfold Bare; refine ⟨?_, ?_, ?_, ?_⟩ <;> first | omega | (split <;> first | rfl | omega)), by omega, kU (kU (kU (kU (kU (hkp) hh11) hh13) hh15) hh17) hh19⟩
       refine e_op 9 rfl (dec_f (o_eql (eV (z2 ds)) eZ) hs66) (want_on (z1 (z4 ds))) (eO 10 rfl (o_pick_t (eV (z2 (z4 ds))) eZ) (eO 11 rfl (o_mov eZ) (e_done ?_)))
       have hfin : ((false : Bool) = true ↔ nodeP ws x) := by
         rw [nodeP7 (by omega)]
         refine ⟨(fun h => by cases h), fun h_ => ?_⟩
         obtain ⟨a_, h1_⟩ := h_
         have e_ : ((ws.length : Nat) : Int) = 2 := by rw [h1_]; rfl
         first | omega | (rw [hwe] at h1_; simp only [List.cons.injEq, and_true, true_and] at h1_; omega)
       exact ⟨_, x.op, x.hi, x.lo, x.time, x.value, nv, ds, hfin, (z4 (z16 (z16 ds))), (lS hh19), (by unfold Bare; refine ⟨?_, ?_, ?_, ?_⟩ <;> first | omega | (split <;> first | rfl | omega)), by omega, kU (kU (kU (kU (kU (hkp) hh11) hh13) hh15) hh17) hh19⟩
     refine eO 2 rfl (dec_f (o_eql eZ ev_c) hs65) (eO 3 rfl (o_mov eZ) (e_off 4 rfl (wN ds) (e_off 5 rfl (wN (z1 ds)) (e_off 6 rfl (wN (z2 ds)) (e_off 7 rfl (wN (z1 (z2 ds))) (e_off 8 rfl (wN (z4 ds)) (e_off 9 rfl (wN (z1 (z4 ds))) (eO 10 rfl (o_pick_f (eV (z2 (z4 ds))) ev_c) (eO 11 rfl (o_mov eZ) (e_done ?_))))))))))
     have hfin : ((false : Bool) = true ↔ nodeP ws x) := by
       rw [nodeP7 (by omega)]
       refine ⟨(fun h => by cases h), fun h_ => ?_⟩
       obtain ⟨a_, h1_⟩ := h_
       have e_ : ((ws.length : Nat) : Int) = 2 := by rw [h1_]; rfl
       first | omega | (rw [hwe] at h1_; simp only [List.cons.injEq, and_true, true_and] at h1_; omega)
     exact ⟨_, x.op, x.hi, x.lo, x.time, x.value, nv, ds, hfin, (z4 (z16 (z16 ds))), (lS hh19), (by unfold Bare; refine ⟨?_, ?_, ?_, ?_⟩ <;> first | omega | (split <;> first | rfl | omega)), by omega, kU (kU (kU (kU (kU (hkp) hh11) hh13) hh15) hh17) hh19⟩
   refine k_seq (k_reg (rO (o_eql (eV (z2 (z4 (z8 ds)))) ev_c) (m1 ds (r_nil ?_))))
   refine k_if eZ (fun hc67 => ?_) (fun hc67 => ?_)
   · refine k_seq (k_draw (eO 0 rfl (o_mov (eV (z1 (z4 (z8 (z16 q5)))))) (eO 1 rfl (o_len_I hW eZ) ?_)))
     by_cases hs68 : (((ws.length : Nat) : Int) = 1)
     · obtain ⟨wa, hwe⟩ := len1 hs68
       rcases hW with ⟨-, h0⟩ | ⟨dw, ow, cw, exw, wrw, rw_, hwve, hdw, hrw, hrlw, hsegw⟩
       · rw [hwe] at h0; cases h0
       subst hwve
       rw [hwe] at hsegw
       refine eO 2 rfl (dec_t (o_eql eZ ev_c) hs68) (eO 3 rfl (o_mov eZ) (e_op 4 rfl (o_mov (eV (z1 (z16 (z16 q5))))) (want_on ds) (e_op 5 rfl (o_iaddr (i := 0) eZ ev_c (by omega)) (want_on (z1 ds)) ?_)))
       refine e_op 6 rfl (o_load eZ (lN hh19 (lN hh17 (lN hh15 (lN hh13 (lN hh11 hrw))))) (by rw [Nat.mul_one]; exact rowI_get (i := 0) hsegw rfl)) (want_on (z2 ds)) ?_
       refine e_op 7 rfl (o_faddr (off := 2) (eV (z4 (z16 (z16 q3))))) (want_on (z1 (z2 ds))) (e_op 8 rfl (o_load eZ (lN hh19 (lN hh17 (lN hh15 (lN hh13 (lN hh11 hr3))))) rfl) (want_on (z4 ds)) ?_)
       by_cases hs69 : (wa = x.wide)
       · refine e_op 9 rfl (dec_t (o_eql (eV (z2 ds)) eZ) hs69) (want_on (z1 (z4 ds))) (eO 10 rfl (o_pick_t (eV (z2 (z4 ds))) eZ) (eO 11 rfl (o_mov eZ) (e_op 12 rfl (o_faddr (off := 7) (eV (z1 (z8 (z16 (z16 q3)))))) (want_on ds) (e_op 13 rfl (o_load eZ (lN hh19 (lN hh17 (lN hh15 (lN hh13 (lN hh11 hr3))))) rfl) (want_on (z1 ds)) ?_))))
         by_cases hs70 : (x.time < 1)
         · refine e_op 14 rfl (ndec_f (o_geq eZ ev_c) hs70) (want_on (z2 ds)) (eO 15 rfl (o_pick_t (eV (z1 (z2 ds))) eZ) (eO 16 rfl (o_mov eZ) (e_off 17 rfl (wN ds) (e_off 18 rfl (wN (z1 ds)) (e_off 19 rfl (wN (z2 ds)) (eO 20 rfl (o_pick_f (eV (z1 (z2 ds))) ev_c) (eO 21 rfl (o_mov eZ) (e_done (k_reg (rO (o_faddr (off := 7) (eV (z16 (z16 (z16 ds))))) (r_heap (o_store (n := 1) eZ ev_c (lS hh19) rfl rfl (leb rfl)) rfl (fun t71 (hh72 : hv t71 = upd (hv t18) nv (some (.row [(.int .i64 0), (.int .i64 x.op), (.int .i64 0), .nslice, (.str x.value), (.int .i64 x.hi), (.int .i64 x.lo), (.int .i64 0)] true))) => r_nil ?_))))))))))))
           have hfin : ((false : Bool) = true ↔ nodeP ws x) := by
             rw [nodeP8 (by omega)]
             refine ⟨(fun h => by cases h), fun h_ => ?_⟩
             obtain ⟨h1_, h2_, h3_⟩ := h_
             have e_ : ((ws.length : Nat) : Int) = 1 := by rw [h1_]; rfl
             first | omega | (rw [hwe] at h1_; simp only [List.cons.injEq, and_true, true_and] at h1_; omega)
           exact ⟨_, x.op, x.hi, x.lo, 0, x.value, nv, (z2 ds), hfin, (z2 (z16 (z16 (z16 ds)))), (lS hh72), (by unfold Bare; refine ⟨?_, ?_, ?_, ?_⟩ <;> first | omega | (split <;> first | rfl | omega)), by omega, kU (kU (kU (kU (kU (kU (hkp) hh11) hh13) hh15) hh17) hh19) hh72⟩
         refine e_op 14 rfl (ndec_t (o_geq eZ ev_c) hs70) (want_on (z2 ds)) (eO 15 rfl (o_pick_t (eV (z1 (z2 ds))) eZ) (eO 16 rfl (o_mov eZ) (e_op 17 rfl (o_faddr (off := 7) (eV (z2 (z4 (z8 (z16 (z16 q3))))))) (want_on ds) (e_op 18 rfl (o_load eZ (lN hh19 (lN hh17 (lN hh15 (lN hh13 (lN hh11 hr3))))) rfl) (want_on (z1 ds)) ?_))))
         by_cases hs73 : (1048576 < x.time)
         · refine e_op 19 rfl (ndec_f (o_leq eZ ev_c) hs73) (want_on (z2 ds)) (eO 20 rfl (o_pick_t (eV (z1 (z2 ds))) eZ) (eO 21 rfl (o_mov eZ) (e_done (k_reg (rO (o_faddr (off := 7) (eV (z16 (z16 (z16 ds))))) (r_heap (o_store (n := 1) eZ ev_c (lS hh19) rfl rfl (leb rfl)) rfl (fun t74 (hh75 : hv t74 = upd (hv t18) nv (some (.row [(.int .i64 0), (.int .i64 x.op), (.int .i64 0), .nslice, (.str x.value), (.int .i64 x.hi), (.int .i64 x.lo), (.int .i64 0)] true))) => r_nil ?_)))))))
           have hfin : ((false : Bool) = true ↔ nodeP ws x) := by
             rw [nodeP8 (by omega)]
             refine ⟨(fun h => by cases h), fun h_ => ?_⟩
             obtain ⟨h1_, h2_, h3_⟩ := h_
             have e_ : ((ws.length : Nat) : Int) = 1 := by rw [h1_]; rfl
             first | omega | (rw [hwe] at h1_; simp only [List.cons.injEq, and_true, true_and] at h1_; omega)
           exact ⟨_, x.op, x.hi, x.lo, 0, x.value, nv, (z2 ds), hfin, (z2 (z16 (z16 (z16 ds)))), (lS hh75), (by unfold Bare; refine ⟨?_, ?_, ?_, ?_⟩ <;> first | omega | (split <;> first | rfl | omega)), by omega, kU (kU (kU (kU (kU (kU (hkp) hh11) hh13) hh15) hh17) hh19) hh75⟩
         refine e_op 19 rfl (ndec_t (o_leq eZ ev_c) hs73) (want_on (z2 ds)) (eO 20 rfl (o_pick_t (eV (z1 (z2 ds))) eZ) (eO 21 rfl (o_mov eZ) (e_done (k_reg (rO (o_faddr (off := 7) (eV (z16 (z16 (z16 ds))))) (r_heap (o_store (n := 1) eZ ev_c (lS hh19) rfl rfl (leb rfl)) rfl (fun t76 (hh77 : hv t76 = upd (hv t18) nv (some (.row [(.int .i64 0), (.int .i64 x.op), (.int .i64 0), .nslice, (.str x.value), (.int .i64 x.hi), (.int .i64 x.lo), (.int .i64 0)] true))) => r_nil ?_)))))))
         have hfin : ((true : Bool) = true ↔ nodeP ws x) := by
           rw [nodeP8 (by omega)]
           refine ⟨fun _ => ?_, fun _ => rfl⟩
           exact ⟨by rw [hwe, show wa = x.wide from by omega], by omega, by omega⟩
         exact ⟨_, x.op, x.hi, x.lo, 0, x.value, nv, (z2 ds), hfin, (z2 (z16 (z16 (z16 ds)))), (lS hh77), (by unfold Bare; refine ⟨?_, ?_, ?_, ?_⟩ <;> first | omega | (split <;> first | rfl | omega)), by omega, kU (kU (kU (kU (kU (kU (hkp) hh11) hh13) hh15) hh17) hh19) hh77⟩
       refine e_op 9 rfl (dec_f (o_eql (eV (z2 ds)) eZ) hs69) (want_on (z1 (z4 ds))) (eO 10 rfl (o_pick_t (eV (z2 (z4 ds))) eZ) (eO 11 rfl (o_mov eZ) (e_off 12 rfl (wN ds) (e_off 13 rfl (wN (z1 ds)) (e_off 14 rfl (wN (z2 ds)) (eO 15 rfl (o_pick_f (eV (z1 (z2 ds))) ev_c) (eO 16 rfl (o_mov eZ) (e_off 17 rfl (wN ds) (e_off 18 rfl (wN (z1 ds)) (e_off 19 rfl (wN (z2 ds)) (eO 20 rfl (o_pick_f (eV (z1 (z2 ds))) ev_c) (eO 21 rfl (o_mov eZ) (e_done (k_reg (rO (o_faddr (off := 7) (eV (z16 (z16 (z16 ds))))) (r_heap (o_store (n := 1) eZ ev_c (lS hh19) rfl rfl (leb rfl)) rfl (fun t78 (hh79 : hv t78 = upd (hv t18) nv (some (.row [(.int .i64 0), (.int .i64 x.op), (.int .i64 0), .nslice, (.str x.value), (.int .i64 x.hi), (.int .i64 x.lo), (.int .i64 0)] true))) => r_nil ?_)))))))))))))))))
       have hfin : ((false : Bool) = true ↔ nodeP ws x) := by
         rw [nodeP8 (by omega)]
         refine ⟨(fun h => by cases h), fun h_ => ?_⟩
         obtain ⟨h1_, h2_, h3_⟩ := h_
         have e_ : ((ws.length : Nat) : Int) = 1 := by rw [h1_]; rfl
         first | omega | (rw [hwe] at h1_; simp only [List.cons.injEq, and_true, true_and] at h1_; omega)
       exact ⟨_, x.op, x.hi, x.lo, 0, x.value, nv, (z2 ds), hfin, (z2 (z16 (z16 (z16 ds)))), (lS hh79), (by unfold Bare; refine ⟨?_, ?_, ?_, ?_⟩ <;> first | omega | (split <;> first | rfl | omega)), by omega, kU (kU (kU (kU (kU (kU (hkp) hh11) hh13) hh15) hh17) hh19) hh79⟩
     refine eO 2 rfl (dec_f (o_eql eZ ev_c) hs68) (eO 3 rfl (o_mov eZ) (e_off 4 rfl (wN ds) (e_off 5 rfl (wN (z1 ds)) (e_off 6 rfl (wN (z2 ds)) (e_off 7 rfl (wN (z1 (z2 ds))) (e_off 8 rfl (wN (z4 ds)) (e_off 9 rfl (wN (z1 (z4 ds))) (eO 10 rfl (o_pick_f (eV (z2 (z4 ds))) ev_c) (eO 11 rfl (o_mov eZ) (e_off 12 rfl (wN ds) (e_off 13 rfl (wN (z1 ds)) (e_off 14 rfl (wN (z2 ds)) (eO 15 rfl (o_pick_f (eV (z1 (z2 ds))) ev_c) (eO 16 rfl (o_mov eZ) (e_off 17 rfl (wN ds) (e_off 18 rfl (wN (z1 ds)) (e_off 19 rfl (wN (z2 ds)) (eO 20 rfl (o_pick_f (eV (z1 (z2 ds))) ev_c) (eO 21 rfl (o_mov eZ) (e_done (k_reg (rO (o_faddr (off := 7) (eV (z16 (z16 (z16 ds))))) (r_heap (o_store (n := 1) eZ ev_c (lS hh19) rfl rfl (leb rfl)) rfl (fun t80 (hh81 : hv t80 = upd (hv t18) nv (some (.row [(.int .i64 0), (.int .i64 x.op), (.int .i64 0), .nslice, (.str x.value), (.int .i64 x.hi), (.int .i64 x.lo), (.int .i64 0)] true))) => r_nil ?_))))))))))))))))))))))))
     have hfin : ((false : Bool) = true ↔ nodeP ws x) := by
       rw [nodeP8 (by omega)]
       refine ⟨(fun h => by cases h), fun h_ => ?_⟩
       obtain ⟨h1_, h2_, h3_⟩ := h_
       have e_ : ((ws.length : Nat) : Int) = 1 := by rw [h1_]; rfl
       first | omega | (rw [hwe] at h1_; simp only [List.cons.injEq, and_true, true_and] at h1_; omega)
     exact ⟨_, x.op, x.hi, x.lo, 0, x.value, nv, (z2 ds), hfin, (z2 (z16 (z16 (z16 ds)))), (lS hh81), (by unfold Bare; refine ⟨?_, ?_, ?_, ?_⟩ <;> first | omega | (split <;> first | rfl | omega)), by omega, kU (kU (kU (kU (kU (kU (hkp) hh11) hh13) hh15) hh17) hh19) hh81⟩
   refine k_skip ?_
   have hfin : ((false : Bool) = true ↔ nodeP ws x) := by
     rw [nodeP0 (by omega)]
     exact ⟨(fun h => by cases h), False.elim⟩
   exact ⟨_, x.op, x.hi, x.lo, x.time, x.value, nv, (z2 (z16 ds)), hfin, (z2 (z8 (z16 ds))), (lS hh19), (by unfold Bare; refine ⟨?_, ?_, ?_, ?_⟩ <;> first | omega | (split <;> first | rfl | omega)), by omega, kU (kU (kU (kU (kU (hkp) hh11) hh13) hh15) hh17) hh19⟩
 rintro Ty ty ny ⟨okb, op2, hi2, lo2, tm2, vl2, bb, p9, hokb, p8, hbr, hbare, hny, hky⟩
 cases okb
 · refine k_seq (k_reg (m1 p9 (m1 ds (r_off (wN ds) (r_off (wN (z1 ds)) (r_off (wN (z2 ds)) (rO (o_pick_f (eV (z1 (z2 ds))) ev_c) (m1 ds (r_off (wN ds) (r_off (wN (z1 ds)) (r_off (wN (z2 ds)) (rO (o_pick_f (eV (z1 (z2 ds))) ev_c) (m1 ds (r_off (wN ds) (r_off (wN (z1 ds)) (r_off (wN (z2 ds)) (rO (o_pick_f (eV (z1 (z2 ds))) ev_c) (m1 ds (r_off (wN ds) (r_off (wN (z1 ds)) (r_off (wN (z2 ds)) (rO (o_pick_f (eV (z1 (z2 ds))) ev_c) (m1 ds (r_off (wN ds) (r_off (wN (z1 ds)) (r_off (wN (z2 ds)) (rO (o_pick_f (eV (z1 (z2 ds))) ev_c) (m1 ds (r_nil (k_ret ?_))))))))))))))))))))))))))))))
   have hfin : ((false : Bool) = true ↔ ndOK ws x) := by
     have hz := hbare.zero
     unfold ndOK
     rw [hz, ← hokb]
     simp_all
   exact ⟨_, ans_tmp ds, _, rfl, hfin, by omega, hky⟩
 refine k_seq (k_reg (m1 p9 (m1 ds (r_op (o_faddr (off := 1) (eV (z2 p8))) (want_on ds) (r_op (o_load eZ hbr rfl) (want_on (z1 ds)) ?_)))))
 by_cases hs82 : (op2 = 0)
 · refine r_op (dec_t (o_eql eZ ev_c) hs82) (want_on (z2 ds)) (rO (o_pick_t (eV (z1 (z2 ds))) eZ) (m1 ds (r_op (o_faddr (off := 4) (eV (z1 (z2 (z4 p8))))) (want_on ds) (r_op (o_load eZ hbr rfl) (want_on (z1 ds)) ?_))))
   by_cases hs83 : (vl2 = [])
   · refine r_op (dec_t (o_str_eql eZ ev_c) hs83) (want_on (z2 ds)) (rO (o_pick_t (eV (z1 (z2 ds))) eZ) (m1 ds (r_op (o_faddr (off := 5) (eV (z4 (z8 p8)))) (want_on ds) (r_op (o_load eZ hbr rfl) (want_on (z1 ds)) ?_))))
     by_cases hs84 : (hi2 = 0)
     · refine r_op (dec_t (o_eql eZ ev_c) hs84) (want_on (z2 ds)) (rO (o_pick_t (eV (z1 (z2 ds))) eZ) (m1 ds (r_op (o_faddr (off := 6) (eV (z1 (z16 p8)))) (want_on ds) (r_op (o_load eZ hbr rfl) (want_on (z1 ds)) ?_))))
       by_cases hs85 : (lo2 = 0)
       · refine r_op (dec_t (o_eql eZ ev_c) hs85) (want_on (z2 ds)) (rO (o_pick_t (eV (z1 (z2 ds))) eZ) (m1 ds (r_op (o_faddr (off := 7) (eV (z2 (z4 (z16 p8))))) (want_on ds) (r_op (o_load eZ hbr rfl) (want_on (z1 ds)) (r_op (o_eql eZ ev_c) (want_on (z2 ds)) (rO (o_pick_t (eV (z1 (z2 ds))) eZ) (m1 ds (r_nil (k_ret ?_)))))))))
         have hfin : (((decide (tm2 = 0)) : Bool) = true ↔ ndOK ws x) := by
           have hz := hbare.zero
           unfold ndOK
           rw [hz, ← hokb]
           simp_all
         exact ⟨_, ans_tmp ds, _, rfl, hfin, by omega, hky⟩
       refine r_op (dec_f (o_eql eZ ev_c) hs85) (want_on (z2 ds)) (rO (o_pick_t (eV (z1 (z2 ds))) eZ) (m1 ds (r_off (wN ds) (r_off (wN (z1 ds)) (r_off (wN (z2 ds)) (rO (o_pick_f (eV (z1 (z2 ds))) ev_c) (m1 ds (r_nil (k_ret ?_)))))))))
       have hfin : ((false : Bool) = true ↔ ndOK ws x) := by
         have hz := hbare.zero
         unfold ndOK
         rw [hz, ← hokb]
         simp_all
       exact ⟨_, ans_tmp ds, _, rfl, hfin, by omega, hky⟩
     refine r_op (dec_f (o_eql eZ ev_c) hs84) (want_on (z2 ds)) (rO (o_pick_t (eV (z1 (z2 ds))) eZ) (m1 ds (r_off (wN ds) (r_off (wN (z1 ds)) (r_off (wN (z2 ds)) (rO (o_pick_f (eV (z1 (z2 ds))) ev_c) (m1 ds (r_off (wN ds) (r_off (wN (z1 ds)) (r_off (wN (z2 ds)) (rO (o_pick_f (eV (z1 (z2 ds))) ev_c) (m1 ds (r_nil (k_ret ?_))))))))))))))
     have hfin : ((false : Bool) = true ↔ ndOK ws x) := by
       have hz := hbare.zero
       unfold ndOK
       rw [hz, ← hokb]
       simp_all
     exact ⟨_, ans_tmp ds, _, rfl, hfin, by omega, hky⟩
   refine r_op (dec_f (o_str_eql eZ ev_c) hs83) (want_on (z2 ds)) (rO (o_pick_t (eV (z1 (z2 ds))) eZ) (m1 ds (r_off (wN ds) (r_off (wN (z1 ds)) (r_off (wN (z2 ds)) (rO (o_pick_f (eV (z1 (z2 ds))) ev_c) (m1 ds (r_off (wN ds) (r_off (wN (z1 ds)) (r_off (wN (z2 ds)) (rO (o_pick_f (eV (z1 (z2 ds))) ev_c) (m1 ds (r_off (wN ds) (r_off (wN (z1 ds)) (r_off (wN (z2 ds)) (rO (o_pick_f (eV (z1 (z2 ds))) ev_c) (m1 ds (r_nil (k_ret ?_)))))))))))))))))))
   have hfin : ((false : Bool) = true ↔ ndOK ws x) := by
     have hz := hbare.zero
     unfold ndOK
     rw [hz, ← hokb]
     simp_all
   exact ⟨_, ans_tmp ds, _, rfl, hfin, by omega, hky⟩
 refine r_op (dec_f (o_eql eZ ev_c) hs82) (want_on (z2 ds)) (rO (o_pick_t (eV (z1 (z2 ds))) eZ) (m1 ds (r_off (wN ds) (r_off (wN (z1 ds)) (r_off (wN (z2 ds)) (rO (o_pick_f (eV (z1 (z2 ds))) ev_c) (m1 ds (r_off (wN ds) (r_off (wN (z1 ds)) (r_off (wN (z2 ds)) (rO (o_pick_f (eV (z1 (z2 ds))) ev_c) (m1 ds (r_off (wN ds) (r_off (wN (z1 ds)) (r_off (wN (z2 ds)) (rO (o_pick_f (eV (z1 (z2 ds))) ev_c) (m1 ds (r_off (wN ds) (r_off (wN (z1 ds)) (r_off (wN (z2 ds)) (rO (o_pick_f (eV (z1 (z2 ds))) ev_c) (m1 ds (r_nil (k_ret ?_))))))))))))))))))))))))
 have hfin : ((false : Bool) = true ↔ ndOK ws x) := by
   have hz := hbare.zero
   unfold ndOK
   rw [hz, ← hokb]
   simp_all
 exact ⟨_, ans_tmp ds, _, rfl, hfin, by omega, hky⟩
end
section
variable [Env]
theorem setVal_zero (x : AV × AV × Nat) (es : List (AV × AV × Nat)) (k v : AV) : setVal (x :: es) 0 k v = (k, v, x.2.2) :: es := rfl
theorem setVal_succ (x : AV × AV × Nat) (es : List (AV × AV × Nat)) (i : Nat) (k v : AV) : setVal (x :: es) (i + 1) k v = x :: setVal es i k v := rfl
theorem setVal_int : ∀ {es : List (AV × AV × Nat)} (_ : mInt es) {m : Nat} {k v v' : Int} {b : Nat} (_ : es[m]? = some (.int .i64 k, .int .i64 v, b)) (_ : ∀ n < m, ∀ e, es[n]? = some e → e.1 ≠ .int .i64 k), mInt (setVal es m (.int .i64 k) (.int .i64 v')) ∧ ∀ q, mget (setVal es m (.int .i64 k) (.int .i64 v')) q = if q = k then v' else mget es q
 | [], _, m, _, _, _, _, h, _ => by simp at h
 | e :: es, hi, 0, k, v, v', b, h, _ => by
   simp at h; subst h
   rw [setVal_zero]
   refine ⟨fun e he => ?_, fun q => ?_⟩
   · rcases List.mem_cons.1 he with rfl | he
     · exact ⟨_, _, _, rfl⟩
     · exact hi e (by simp [he])
   · simp only [mget]
     split <;> rfl
 | e :: es, hi, m + 1, k, v, v', b, h, hn => by
   obtain ⟨j, u, b', rfl⟩ := hi e (by simp)
   have hj : j ≠ k := by
     have h0 := hn 0 (by omega) _ rfl
     intro e; subst e; exact h0 rfl
   obtain ⟨h1, h2⟩ := setVal_int (es := es) (fun e he => hi e (by simp [he])) (m := m) (v' := v') (by simpa using h) (fun n hn' e he => hn (n + 1) (by omega) e (by simpa using he))
   rw [setVal_succ]
   refine ⟨fun e he => ?_, fun q => ?_⟩
   · rcases List.mem_cons.1 he with rfl | he
     · exact ⟨_, _, _, rfl⟩
     · exact h1 e he
   · simp only [mget]
     rw [h2 q]
     by_cases hq : q = j
     · subst hq; rw [if_pos rfl, if_neg hj, if_pos rfl]
     · rw [if_neg hq]; simp only [if_neg hq]
theorem find_first : ∀ {es : List (AV × AV × Nat)} (h : mInt es) {k : Int} {i m : Nat} {u : AV}, findK .int (.int .i64 k) es i = some (some (m, u)) → ∀ n < m - i, ∀ e, es[n]? = some e → e.1 ≠ .int .i64 k
 | [], _, k, i, m, u, h, n, hn, e, he => by simp at he
 | e0 :: es, hi, k, i, m, u, h, n, hn, e, he => by
   obtain ⟨j, v, b, rfl⟩ := hi e0 (by simp)
   have e1 : cellEq .int (.int .i64 k) (.int .i64 j) = some (decide (k = j)) := by
     show (match Nat.beq (kN .i64) (kN .i64) with | true => some (iEq k j) | false => none) = _
     rw [iEq_eq]; rfl
   have e2 : findK .int (.int .i64 k) ((.int .i64 j, .int .i64 v, b) :: es) i = (match cellEq .int (.int .i64 k) (.int .i64 j) with
     | some true => some (some (i, .int .i64 v))
     | some false => findK .int (.int .i64 k) es (Nat.succ i)
     | none => none) := rfl
   rw [e2, e1] at h
   by_cases hk : k = j
   · rw [decide_eq_true hk] at h; simp at h; omega
   · rw [decide_eq_false hk] at h
     cases n with
     | zero => simp at he; subst he; intro e'; cases e'; exact hk rfl
     | succ n => exact find_first (es := es) (fun e he => hi e (by simp [he])) h n (by omega) e (by simpa using he)
theorem mget_app : ∀ {es : List (AV × AV × Nat)} (_ : mInt es) {k v : Int} {b : Nat}, (∀ e ∈ es, e.1 ≠ .int .i64 k) → ∀ q, mget (es ++ [(.int .i64 k, .int .i64 v, b)]) q = if q = k then v else mget es q
 | [], _, k, v, b, _, q => by simp [mget]
 | e :: es, hi, k, v, b, hn, q => by
   obtain ⟨j, u, b', rfl⟩ := hi e (by simp)
   have hj : j ≠ k := by intro e; subst e; exact hn (.int .i64 j, .int .i64 u, b') (by simp) rfl
   have ih := mget_app (es := es) (fun e he => hi e (by simp [he])) (k := k) (v := v) (b := b) (fun e he => hn e (by simp [he])) q
   simp only [List.cons_append, mget]
   rw [ih]
   by_cases hq : q = j
   · subst hq; rw [if_pos rfl, if_neg hj, if_pos rfl]
   · rw [if_neg hq]; simp only [if_neg hq]
theorem o_mupd {T : TA} {t : TB} {nx : Nat} {x k y : Opd} {b : Nat} {es : List (AV × AV × Nat)} {clk : Nat} {j v : Int} (hx : x.ev T = some (.map b)) (hk : k.ev T = some (.int .i64 j)) (hy : y.ev T = some (.int .i64 v)) (hb : hv t b = some (.map es clk)) (hm : mInt es) :
   ∃ t', (IOp.mupd .int x k y).run T t nx = .ok .undef t' nx ∧ ∃ es' clk', hv t' = upd (hv t) b (some (.map es' clk')) ∧ mInt es' ∧ ∀ q, mget es' q = if q = j then v else mget es q := by
 have h1 := map_iff.1 hb
 simp only [IOp.run, hx, hy, hk, h1]
 rcases find_int hm j 0 with ⟨m, u, e1, e2, -, b', e3⟩ | ⟨e1, e2, e3⟩
 · rw [e1]
   rw [Nat.sub_zero] at e3
   obtain ⟨h2, h3⟩ := setVal_int (v' := v) hm e3 (fun n hn e he => find_first hm e1 n (by omega) e he)
   exact ⟨_, rfl, _, clk, by rw [hv_put]; rfl, h2, h3⟩
 · rw [e1]
   refine ⟨_, rfl, _, Nat.succ clk, by rw [hv_put]; rfl, ?_, ?_⟩
   · rw [lApp_eq]
     intro e he
     rcases List.mem_append.1 he with he | he
     · exact hm e he
     · simp at he; subst he; exact ⟨_, _, _, rfl⟩
   · rw [lApp_eq]
     exact mget_app hm e3
/-- What lower.Check answers OK to. -/
structure MayP (ns : List Nd) (ts : List Int) (p : Int) : Prop where
 few : ns.length ≤ 4096
 next : p = (ts.length : Int)
 nodes : ∀ x ∈ ns, (1 ≤ x.wide ∧ x.wide ≤ 256) ∧ ∀ k ∈ x.ins, 0 ≤ k ∧ k < (ns.length : Int)
 nets : ∀ k ∈ ts, 0 ≤ k ∧ k < (ns.length : Int)
 each : ∀ (i : Nat) (x : Nd), ns[i]? = some x → ndOK (x.ins.map (wdN ns)) x ∧ (x.kind = 2 → ts.count (i : Int) = 1)
theorem oper_len {x : Nd} {w : List Int} (h : operW x w = x.wide) (hx : 1 ≤ x.wide ∧ x.wide ≤ 256) : w.length ≤ 256 := by
 rcases Nat.lt_or_ge 256 w.length with hl | hl
 · exfalso
   have h2 : ∀ a : Int, w ≠ [a] := fun a e => by rw [e] at hl; simp at hl
   have h3 : ∀ a b : Int, w ≠ [a, b] := fun a b e => by rw [e] at hl; simp at hl
   have h4 : ∀ a b c : Int, w ≠ [a, b, c] := fun a b c e => by rw [e] at hl; simp at hl
   have hw : operW x w = -1 := by
     rcases w with _ | ⟨a, _ | ⟨b, _ | ⟨c, _ | ⟨d, w⟩⟩⟩⟩
     · simp at hl
     · simp at hl
     · simp at hl
     · simp at hl
     · unfold operW
       repeat' (first | rfl | (split; rfl) | (rw [if_neg (by omega)]) | split)
   omega
 · exact hl
theorem ndOK.len {ns : List Nd} {x : Nd} (h : ndOK (x.ins.map (wdN ns)) x) (hx : 1 ≤ x.wide ∧ x.wide ≤ 256) : x.ins.length ≤ 256 ∧ (∀ c ∈ x.value, c < 256) ∧ x.value.length ≤ 256 := by
 obtain ⟨⟨-, hz, -⟩, hn⟩ := h
 have e : (x.ins.map (wdN ns)).length = x.ins.length := by simp
 refine ⟨?_, ?_, ?_⟩
 · rw [← e]
   rcases hn with h | h | h | h | h | h | h | h
   · rw [h.2.1]; simp
   · rw [h.2]; simp
   · exact oper_len h.2 hx
   · obtain ⟨-, a, h⟩ := h; rw [h]; simp
   · obtain ⟨-, ⟨a, h⟩, -⟩ := h; rw [h]; simp
   · obtain ⟨-, a, h⟩ := h; rw [h]; simp
   · obtain ⟨-, a, h⟩ := h; rw [h]; simp
   · rw [h.2.1]; simp
 · rcases hz with hk | hv
   · rcases hn with h | h | h | h | h | h | h | h
     · intro c hc; have := h.2.2.1.2.2 c hc; unfold bitC at this; omega
     all_goals (have := h.1; omega)
   · rw [hv]; simp
 · rcases hz with hk | hv
   · rcases hn with h | h | h | h | h | h | h | h
     · exact h.2.2.1.2.1
     all_goals (have := h.1; omega)
   · rw [hv]; simp
theorem MayP.of {ns : List Nd} {ts : List Int} (hg : NetG ns) (hf : ns.length < 4000) (h1 : First2 ns) (hm : NetsM ts ns.length) (h2 : 2 ≤ ns.length) : MayP ns ts (ts.length : Int) := by
 obtain ⟨us, rfl, hu, hr⟩ := hm
 refine ⟨by omega, rfl, fun x hx => ?_, fun k hk => ?_, fun i x hx => ⟨(hg i x hx).ok, fun hk => ?_⟩⟩
 · obtain ⟨i, hi, rfl⟩ := List.mem_iff_getElem.1 hx
   have := hg i ns[i] (by simp [hi])
   exact ⟨this.wide, this.ins⟩
 · rcases List.mem_cons.1 hk with rfl | hk
   · omega
   · rcases List.mem_cons.1 hk with rfl | hk
     · omega
     · have := hr k hk; omega
 · have hi := (hg i x hx).inp hk
   have hz : us.count (i : Int) = 0 := List.count_eq_zero.2 (fun hc => by have := hr _ hc; omega)
   rcases (show i = 0 ∨ i = 1 by omega) with rfl | rfl
   · simp [List.count_cons, hz] 
     simpa using hz
   · simp [List.count_cons]
     simpa using hz
theorem nodeN_all {r ivs : List AV} {o i : Nat} {ns : List Nd} {x : Nd} {iv : AV} (h : (r.drop o).take (ns.length * 8) = flatN ns ivs) (hl : ivs.length = ns.length) (hx : ns[i]? = some x) (hv : ivs[i]? = some iv) : (r.drop (o + i * 8)).take 8 = ncells x iv := by
 have hi : i < ns.length := by
   rcases Nat.lt_or_ge i ns.length with h' | h'
   · exact h'
   · rw [List.getElem?_eq_none h'] at hx; cases hx
 rw [← flatN_drop hx hv hl, ← h, List.drop_take, List.take_take, List.drop_drop, Nat.min_eq_left (by omega)]
theorem RowN.cell {t : TB} {bd : Nat} {v : AV} {l : List Nd} (h : RowN t bd v l) : isCell v = true := by
 rcases h with ⟨rfl, -⟩ | ⟨d, o, c, ex, wr, r, ivs, rfl, -⟩ <;> rfl
theorem WF.decb {f : FuncId} {vs : List AV} {t : TB} {nx : Nat} {P : Prop} {Q : TB → Nat → Prop} (h : WF tb f vs t nx (fun v t' nx' => ∃ b : Bool, v = .bool b ∧ (b = true ↔ P) ∧ Q t' nx')) : WF tb f vs t nx (fun v t' nx' => ∃ b : Bool, v = .bool (decide (b = true)) ∧ (b = true ↔ P) ∧ Q t' nx') := by
 refine WF.mono h ?_
 rintro _ t' nx' ⟨b, rfl, h1, h2⟩
 exact ⟨b, by simp, h1, h2⟩
theorem count_snoc {l : List Int} {i : Nat} {k : Int} (h : l[i]? = some k) (q : Int) : (((l.take (i + 1)).count q : Nat) : Int) = if q = k then (((l.take i).count k : Nat) : Int) + 1 else (((l.take i).count q : Nat) : Int) := by
 rw [take_more h, List.count_append]
 by_cases e : q = k
 · subst e; simp
 · rw [if_neg e]
   have : [k].count q = 0 := List.count_eq_zero.2 (by simp [e])
   omega
theorem chk1_ok {t : TB} {nx bd pb : Nat} {vn vt : AV} {p k : Int} {ns : List Nd} (hN : RowN t bd vn ns) (hp : hv t pb = some (.row [vn, vt, .int .i64 p] true)) :
   WF tb 100 [.int .i64 k, .ptr pb 0] t nx (fun v t' nx' => ∃ b : Bool, v = .bool b ∧ (b = true ↔ 0 ≤ k ∧ k < (ns.length : Int)) ∧ nx ≤ nx' ∧ Keep t t' nx (fun _ => False)) := by
 refine k_fun chk1_tab rfl ?_
 unfold chk1_c
 change WC _ _ (Bt.put (some _) (Bt.put (some _) Bt.e 0) 1) _ _ _
 refine k_seq (k_reg (rO (o_mov ev_c) (r_nil (k_seq (k_reg (m1 (z1 (get_other rfl get_same)) ?_))))))
 by_cases hs1 : (k < 0)
 · refine rO (ndec_f (o_geq eZ ev_c) hs1) (m1 ds (r_off (wN ds) (r_off (wN (z1 ds)) (r_off (wN (z2 ds)) (r_off (wN (z1 (z2 ds))) (r_off (wN (z4 ds)) (rO (o_pick_f (eV (z1 (z4 ds))) ev_c) (m1 ds (r_nil (k_ret ?_))))))))))
   exact ⟨_, ans_tmp ds, _, rfl, ⟨(fun h => by cases h), fun h => by exfalso; omega⟩, by omega, kR⟩
 refine rO (ndec_t (o_geq eZ ev_c) hs1) (m1 ds (r_op (o_mov (eV (z4 (get_other rfl get_same)))) (want_on ds) (r_op (o_faddr (off := 0) (eV (z1 (z4 get_same)))) (want_on (z1 ds)) (r_op (o_load eZ hp rfl) (want_on (z2 ds)) (r_op (o_len_N hN eZ) (want_on (z1 (z2 ds))) ?_)))))
 by_cases hs2 : (k < ((ns.length : Nat) : Int))
 · refine r_op (dec_t (o_lss (eV (z1 (z2 ds))) eZ) hs2) (want_on (z4 ds)) (rO (o_pick_t (eV (z1 (z4 ds))) eZ) (m1 ds (r_nil (k_ret ?_))))
   exact ⟨_, ans_tmp ds, _, rfl, ⟨fun _ => by omega, fun _ => rfl⟩, by omega, kR⟩
 refine r_op (dec_f (o_lss (eV (z1 (z2 ds))) eZ) hs2) (want_on (z4 ds)) (rO (o_pick_t (eV (z1 (z4 ds))) eZ) (m1 ds (r_nil (k_ret ?_))))
 exact ⟨_, ans_tmp ds, _, rfl, ⟨(fun h => by cases h), fun h => by exfalso; omega⟩, by omega, kR⟩
theorem chk2_ok {t : TB} {nx bd pb fb : Nat} {vn vt : AV} {p k : Int} {ns : List Nd} (hN : RowN t bd vn ns) (hp : hv t pb = some (.row [vn, vt, .int .i64 p] true)) (hf : hv t fb = some (.row [.func 100 [] [.ptr pb 0]] true)) :
   WF tb 102 [.int .i64 k, .ptr fb 0] t nx (fun v t' nx' => ∃ b : Bool, v = .bool b ∧ (b = true ↔ ¬ (0 ≤ k ∧ k < (ns.length : Int))) ∧ nx ≤ nx' ∧ Keep t t' nx (fun _ => False)) := by
 refine k_fun chk2_tab rfl ?_
 unfold chk2_c
 change WC _ _ (Bt.put (some _) (Bt.put (some _) Bt.e 0) 1) _ _ _
 refine k_seq (k_reg (rO (o_mov ev_c) (r_nil (k_seq (k_reg (rO (o_load (eV (z1 get_same)) hf rfl) (m1 (z2 (get_other rfl get_same)) (r_call (w_callV (eV (z1 ds)) (evs_cons eZ evs_nil)) rfl (WF.mono (chk1_ok hN hp) ?_)))))))))
 rintro _ t1 n2 ⟨b, rfl, hb_b, hn_b, hk_b⟩
 refine rO (o_not eZ) (m1 ds (r_nil (k_ret ?_)))
 exact ⟨_, ans_tmp ds, _, rfl, (by rw [← hb_b]; cases b <;> simp), by omega, Keep.trans kR hk_b (by omega) (fun d _ h => h)⟩
theorem index_ok {t : TB} {nx bd pb fb : Nat} {vn vt iv : AV} {p : Int} {ns : List Nd} {l : List Int} (hN : RowN t bd vn ns) (hp : hv t pb = some (.row [vn, vt, .int .i64 p] true)) (hf : hv t fb = some (.row [.func 100 [] [.ptr pb 0]] true)) (hI : RowI t bd iv l) (hb : bd ≤ nx) (hpb : pb < nx) (hfb : fb < nx) (hl : l.length < 9223372036854775808) :
   WF tb 149 [iv, .func 102 [] [.ptr fb 0]] t nx (fun v t' nx' => ∃ r : Int, v = .int .i64 r ∧ (0 ≤ r ↔ ¬ ∀ k ∈ l, 0 ≤ k ∧ k < (ns.length : Int)) ∧ nx ≤ nx' ∧ Keep t t' nx (fun _ => False)) := by
 refine k_fun index_tab rfl ?_
 unfold index_c
 change WC _ _ (Bt.put (some _) (Bt.put (some _) Bt.e 0) 1) _ _ _
 refine k_seq (k_reg (rO (o_mov ev_c) (r_nil (k_seq (k_seq (k_reg (m1 (z1 (get_other rfl get_same)) (rO (o_len_I hI eZ) (rO (o_mov ev_c) (r_nil (k_block (k_loop (fun mm Tv tv nv => ∃ i : Nat, i ≤ l.length ∧ (∀ k ∈ l.take i, 0 ≤ k ∧ k < (ns.length : Int)) ∧ Tv.get 0 = some iv ∧ Tv.get 1 = some (.func 102 [] [(.ptr fb 0)]) ∧ Tv.get 7 = some (.int .i64 ((l.length : Nat) : Int)) ∧ Tv.get 8 = some (.int .i64 (i : Int)) ∧ nx ≤ nv ∧ Keep t tv nx (fun _ => False) ∧ mm + i = l.length) (fun mm Tv tv nv hI => ?_) (l.length) ⟨0, by omega, by simp, (z4 (get_other rfl get_same)), (z4 get_same), (z1 ds), ds, by omega, kR, by omega⟩))))))))))))
 obtain ⟨i, hi, hok, q0, q1, q7, q8, hnv, hkp, hmm⟩ := hI
 refine k_seq (k_reg (rO (o_lss (eV q8) (eV q7)) (r_nil (k_seq ?_))))
 refine k_if eZ (fun hc1 => ?_) (fun hc1 => ?_)
 · refine k_skip (k_seq (k_block (k_seq (k_reg (m1 (z1 q8) (m1 ds (r_nil (k_seq ?_))))))))
   have hNv := hN.keep (fun d hd hw => hkp d (by omega) hw) (Nat.le_refl bd)
   have hpv := hkp.look hpb id hp
   have hfv := hkp.look hfb id hf
   rcases hI with ⟨-, h0⟩ | ⟨di, oi, ci, exi, wri, ri, hie, hdi, hri, hrli, hsegi⟩
   · have h_ := congrArg List.length h0; simp only [List.length_nil] at h_; omega
   subst hie
   have hri1 := hkp.look (by omega) id hri
   obtain ⟨k, hk⟩ := some_at (l := l) (i := i) (by omega)
   refine k_reg (m1 (z1 (z2 q1)) (m1 (z4 q0) (m1 (z2 ds) (rO (o_iaddr (i := i) (eV (z1 ds)) eZ (by omega)) ?_))))
   refine rO (o_load eZ hri1 (by rw [Nat.mul_one]; exact rowI_get (i := i) hsegi hk)) ?_
   refine r_call (w_callV (eV (z4 ds)) (evs_cons eZ evs_nil)) rfl (WF.mono (chk2_ok hNv hpv hfv) ?_)
   rintro _ t2 n3 ⟨b, rfl, hb_b, hn_b, hk_b⟩
   refine r_nil ?_
   refine k_cond eZ (fun hc4 => ?_) (fun hc4 => ?_)
   · refine k_seq (k_reg (m1 (z2 (z4 ds)) (m1 ds (r_nil (k_ret ?_)))))
     exact ⟨_, ans_tmp ds, _, rfl, ⟨fun _ hall => hb_b.1 (by assumption) (hall k (List.mem_of_getElem? hk)), fun _ => by omega⟩, by omega, Keep.trans (hkp) hk_b (by omega) (fun d _ h => h)⟩
   refine k_skip (k_reg (rO (o_add (eV (z1 (z8 q8))) ev_c (by omega) (by omega)) (m1 ds (r_nil (⟨mm - 1, by omega, i + 1, by omega, fun j hj => ?_, (z1 (z2 (z8 q0))), (z1 (z2 (z8 q1))), (z1 (z2 (z8 q7))), ds, by omega, Keep.trans (hkp) hk_b (by omega) (fun d _ h => h), by omega⟩)))))
   rw [take_more hk] at hj
   rcases List.mem_append.1 hj with hj | hj
   · exact hok j hj
   simp only [List.mem_singleton] at hj; subst hj; exact Classical.not_not.1 (fun hc => absurd (hb_b.2 hc) (by rw [show b = false by assumption]; simp))
 refine k_exit (exK_same (k_seq (k_reg (rO (o_mov ev_c) (r_nil (k_ret ?_))))))
 have hti : l.take i = l := List.take_of_length_le (by omega)
 rw [hti] at hok
 exact ⟨_, ans_tmp ds, _, rfl, ⟨fun h => by exfalso; omega, fun h => absurd hok h⟩, by omega, hkp⟩
theorem contains_ok {t : TB} {nx bd pb fb : Nat} {vn vt iv : AV} {p : Int} {ns : List Nd} {l : List Int} (hN : RowN t bd vn ns) (hp : hv t pb = some (.row [vn, vt, .int .i64 p] true)) (hf : hv t fb = some (.row [.func 100 [] [.ptr pb 0]] true)) (hI : RowI t bd iv l) (hb : bd ≤ nx) (hpb : pb < nx) (hfb : fb < nx) (hl : l.length < 9223372036854775808) :
   WF tb 101 [iv, .func 102 [] [.ptr fb 0]] t nx (fun v t' nx' => ∃ b : Bool, v = .bool b ∧ (b = true ↔ ¬ ∀ k ∈ l, 0 ≤ k ∧ k < (ns.length : Int)) ∧ nx ≤ nx' ∧ Keep t t' nx (fun _ => False)) := by
 refine k_fun contains_tab rfl ?_
 unfold contains_c
 change WC _ _ (Bt.put (some _) (Bt.put (some _) Bt.e 0) 1) _ _ _
 refine k_seq (k_reg (rO (o_mov ev_c) (r_nil (k_seq (k_reg (m1 (z1 (get_other rfl get_same)) (m1 (z2 get_same) (r_call (w_callF (evs_cons (eV (z1 ds)) (evs_cons eZ evs_nil))) rfl (WF.mono (index_ok hN hp hf hI hb hpb hfb hl) ?_)))))))))
 rintro _ t1 n2 ⟨r, rfl, hr_, hn_r, hk_r⟩
 by_cases hs3 : (r < 0)
 · refine rO (ndec_f (o_geq eZ ev_c) hs3) (m1 ds (r_nil (k_ret ?_)))
   exact ⟨_, ans_tmp ds, _, rfl, ⟨(fun h => by cases h), fun h => by have := hr_.2 h; exfalso; omega⟩, by omega, Keep.trans kR hk_r (by omega) (fun d _ h => h)⟩
 refine rO (ndec_t (o_geq eZ ev_c) hs3) (m1 ds (r_nil (k_ret ?_)))
 exact ⟨_, ans_tmp ds, _, rfl, ⟨fun _ => hr_.1 (by omega), fun _ => rfl⟩, by omega, Keep.trans kR hk_r (by omega) (fun d _ h => h)⟩
set_option maxHeartbeats 8000000 in
theorem check_ok {t : TB} {nx bd : Nat} {vn vt : AV} {p : Int} {ns : List Nd} {ts : List Int} (hN : RowN t bd vn ns) (hT : RowI t bd vt ts) (hb : bd ≤ nx) (hnl : ns.length < 9223372036854775808) (htl : ts.length < 9223372036854775808)
   (hv256 : ∀ x ∈ ns, x.ins.length < 60000 ∧ (∀ c ∈ x.value, c < 256) ∧ x.value.length ≤ 9223372036854775807) :
   WF tb 48 [.agg [vn, vt, .int .i64 p]] t nx (fun v t' nx' => ∃ r : Int, v = .int .i64 r ∧ (r = 0 ∨ r = 1) ∧ (r = 0 ↔ MayP ns ts p) ∧ nx ≤ nx' ∧ Keep t t' nx (fun _ => False)) := by
 have hcn := hN.cell
 have hct := hT.cell
 refine k_fun chk_tab rfl ?_
 unfold chk_c
 change WC _ _ (Bt.put (some _) Bt.e 0) _ _ _
 refine k_seq (k_reg (r_heap (o_box (eV get_same)) rfl (fun t1 (hh2 : hv t1 = upd (hv t) nx (some (.row [vn, vt, (.int .i64 p)] true))) => rO (o_mov ev_c) (r_nil (k_seq (k_seq (k_reg (rO (o_faddr (off := 0) (eV (z1 ds))) (rO (o_load eZ (lS hh2) rfl) (rO (o_len_N hN eZ) ?_))))))))))
 by_cases hs3 : (4096 < ((ns.length : Nat) : Int))
 · refine rO (dec_t (o_gtr eZ ev_c) hs3) (m1 ds (r_off (wN ds) (r_off (wN (z1 ds)) (r_off (wN (z2 ds)) (r_off (wN (z1 (z2 ds))) (r_off (wN (z4 ds)) (r_off (wN (z1 (z4 ds))) (rO (o_pick_t (eV (z2 (z4 ds))) ev_c) (r_nil (k_cond_t eZ (k_seq (k_reg (rO (o_mov ev_c) (r_nil (k_ret ?_)))))))))))))))
   have hfin : ((1 : Int) = 0 ↔ MayP ns ts p) := by
     refine ⟨fun h => by omega, fun h => ?_⟩
     have h1 := h.few; have h2 := h.next; omega
   exact ⟨_, ans_tmp ds, _, rfl, by omega, hfin, by omega, kU kR hh2⟩
 refine rO (dec_f (o_gtr eZ ev_c) hs3) (m1 ds (r_op (o_faddr (off := 2) (eV (z2 (z4 ds)))) (want_on ds) (r_op (o_load eZ (lS hh2) rfl) (want_on (z1 ds)) (r_op (o_faddr (off := 1) (eV (z8 ds))) (want_on (z2 ds)) (r_op (o_load eZ (lS hh2) rfl) (want_on (z1 (z2 ds))) (r_op (o_len_I hT eZ) (want_on (z4 ds)) ?_))))))
 by_cases hs4 : (p = ((ts.length : Nat) : Int))
 · refine r_op (ndec_f (o_neq (eV (z1 (z2 ds))) eZ) hs4) (want_on (z1 (z4 ds))) (rO (o_pick_f (eV (z2 (z4 ds))) eZ) (r_nil (k_cond_f eZ (k_skip (k_seq (k_reg (rO (o_mkfn evs_nil (evs_cons (eV (z1 (z4 (z8 ds)))) evs_nil)) (r_heap (o_alloc) rfl (fun t5 (hh6 : hv t5 = upd (hv t1) (nx + 1) (some (.row [.nfunc] true))) => r_heap (o_store (n := 1) eZ (eV (z1 ds)) (lS hh6) rfl rfl (leb rfl)) rfl (fun t7 (hh8 : hv t7 = upd (hv t5) (nx + 1) (some (.row [(.func 100 [] [(.ptr nx 0)])] true))) => r_nil (k_seq (k_seq (k_reg (rO (o_faddr (off := 0) (eV (z16 ds))) (rO (o_load eZ (lN hh8 (lN hh6 (lS hh2))) rfl) (rO (o_len_N hN eZ) (rO (o_mov ev_c) (r_nil (k_block (k_loop (fun mm Tv tv nv => ∃ i : Nat, i ≤ ns.length ∧ (∀ x ∈ ns.take i, (1 ≤ x.wide ∧ x.wide ≤ 256) ∧ ∀ k ∈ x.ins, 0 ≤ k ∧ k < (ns.length : Int)) ∧ Tv.get 25 = some vn ∧ Tv.get 26 = some (.int .i64 ((ns.length : Nat) : Int)) ∧ Tv.get 27 = some (.int .i64 (i : Int)) ∧ nx + 2 ≤ nv ∧ (Tv.get 1 = some (.ptr nx 0) ∧ Tv.get 3 = some (.ptr (nx + 1) 0) ∧ hv tv nx = some (.row [vn, vt, .int .i64 p] true) ∧ hv tv (nx + 1) = some (.row [(.func 100 [] [(.ptr nx 0)])] true) ∧ Keep t tv nx (fun _ => False)) ∧ mm + i = ns.length) (fun mm Tv tv nv hI => ?_) (ns.length) ⟨0, by omega, by simp, (z2 ds), (z1 ds), ds, by omega, ⟨(z4 (z16 ds)), (z1 (z4 ds)), (lN hh8 (lN hh6 (lS hh2))), (lS hh8), kU (kU (kU kR hh2) hh6) hh8⟩, by omega⟩))))))))))))))))))))
   obtain ⟨i, hi, hok, q25, q26, q27, hnv, ⟨q1, q3, hr1, hr2, hkp⟩, hmm⟩ := hI
   refine k_seq (k_reg (rO (o_lss (eV q27) (eV q26)) (r_nil (k_seq ?_))))
   refine k_if eZ (fun hc9 => ?_) (fun hc9 => ?_)
   · refine k_skip (k_seq (k_block (k_seq ?_)))
     rcases hN with ⟨-, h0⟩ | ⟨dN, on, cn, exn, wrn, rn, ivs, hne, hdn, hrn, hrln, hsegn, hivl, hivr⟩
     · have h_ := congrArg List.length h0; simp only [List.length_nil] at h_; omega
     have hN : RowN t bd vn ns := .inr ⟨dN, on, cn, exn, wrn, rn, ivs, hne, hdn, hrn, hrln, hsegn, hivl, hivr⟩
     obtain ⟨x, hx⟩ := some_at (l := ns) (i := i) (by omega)
     obtain ⟨iv, hiv⟩ := some_at (l := ivs) (i := i) (by omega)
     have hI := hivr i x iv hx hiv
     have hic := hI.cell
     have hxm := List.mem_of_getElem? hx
     have hxv := hv256 x hxm
     have hrn1 := hkp.look (by omega) id hrn
     refine k_reg (rO (o_iaddr (i := i) (hne ▸ (eV (z1 q25))) (eV (z1 q27)) (by omega)) (rO (o_loadA (n := 8) eZ hrn1 (by omega) (nodeN_all hsegn hivl hx hiv)) (r_heap (o_alloc) rfl (fun t10 (hh11 : hv t10 = upd (hv tv) nv (some (.row [(.int .i64 0), (.int .i64 0), (.int .i64 0), .nslice, (.str []), (.int .i64 0), (.int .i64 0), (.int .i64 0)] true))) => r_heap (o_store (n := 8) eZ (eV (z1 ds)) (lS hh11) rfl (ncells_cell x hic) (leb rfl)) rfl (fun t12 (hh13 : hv t12 = upd (hv t10) nv (some (.row [(.int .i64 x.kind), (.int .i64 x.op), (.int .i64 x.wide), iv, (.str x.value), (.int .i64 x.hi), (.int .i64 x.lo), (.int .i64 x.time)] true))) => r_nil (k_seq (k_reg (rO (o_faddr (off := 2) (eV (z1 ds))) (rO (o_load eZ (lS hh13) rfl) ?_)))))))))
     by_cases hs14 : (x.wide < 1)
     · refine rO (dec_t (o_lss eZ ev_c) hs14) (m1 ds (r_off (wN ds) (r_off (wN (z1 ds)) (r_off (wN (z2 ds)) (rO (o_pick_t (eV (z1 (z2 ds))) ev_c) (m1 ds (r_off (wN ds) (r_off (wN (z1 ds)) (r_off (wN (z2 ds)) (r_off (wN (z1 (z2 ds))) (rO (o_pick_t (eV (z4 ds)) ev_c) (r_nil (k_cond_t eZ (k_seq (k_reg (rO (o_mov ev_c) (r_nil (k_ret ?_))))))))))))))))))
       have hfin : ((1 : Int) = 0 ↔ MayP ns ts p) := by
         refine ⟨fun h => by omega, fun h => ?_⟩
         have h1 := h.nodes x hxm; first | omega | (exact absurd h1.2 (hb_b.1 (by assumption)))
       exact ⟨_, ans_tmp ds, _, rfl, by omega, hfin, by omega, kU (kU (hkp) hh11) hh13⟩
     refine rO (dec_f (o_lss eZ ev_c) hs14) (m1 ds (r_op (o_faddr (off := 2) (eV (z1 (z4 ds)))) (want_on ds) (r_op (o_load eZ (lS hh13) rfl) (want_on (z1 ds)) ?_)))
     by_cases hs15 : (256 < x.wide)
     · refine r_op (dec_t (o_gtr eZ ev_c) hs15) (want_on (z2 ds)) (rO (o_pick_f (eV (z1 (z2 ds))) eZ) (m1 ds (r_off (wN ds) (r_off (wN (z1 ds)) (r_off (wN (z2 ds)) (r_off (wN (z1 (z2 ds))) (rO (o_pick_t (eV (z4 ds)) ev_c) (r_nil (k_cond_t eZ (k_seq (k_reg (rO (o_mov ev_c) (r_nil (k_ret ?_))))))))))))))
       have hfin : ((1 : Int) = 0 ↔ MayP ns ts p) := by
         refine ⟨fun h => by omega, fun h => ?_⟩
         have h1 := h.nodes x hxm; first | omega | (exact absurd h1.2 (hb_b.1 (by assumption)))
       exact ⟨_, ans_tmp ds, _, rfl, by omega, hfin, by omega, kU (kU (hkp) hh11) hh13⟩
     refine r_op (dec_f (o_gtr eZ ev_c) hs15) (want_on (z2 ds)) (rO (o_pick_f (eV (z1 (z2 ds))) eZ) (m1 ds (r_op (o_faddr (off := 3) (eV (z2 (z8 ds)))) (want_on ds) (r_op (o_load eZ (lS hh13) rfl) (want_on (z1 ds)) (r_op (o_mkfn evs_nil (evs_cons (eV (z16 q3)) evs_nil)) (want_on (z2 ds)) (r_call (w_callF (evs_cons (eV (z1 ds)) (evs_cons eZ evs_nil))) (want_on (z1 (z2 ds))) (WF.mono (contains_ok (hN.keep (fun d hd hw => (kU (kU (hkp) hh11) hh13) d (by omega) hw) (Nat.le_refl bd)) (lN hh13 (lN hh11 hr1)) (lN hh13 (lN hh11 hr2)) (hI.keep (fun d hd hw => (kU (kU (hkp) hh11) hh13) d (by omega) hw) (Nat.le_refl bd)) (by omega) (by omega) (by omega) (by omega)) ?_)))))))
     rintro _ t16 n17 ⟨b, rfl, hb_b, hn_b, hk_b⟩
     refine rO (o_pick_f (eV (z4 ds)) eZ) (r_nil ?_)
     refine k_cond eZ (fun hc18 => ?_) (fun hc18 => ?_)
     · refine k_seq (k_reg (rO (o_mov ev_c) (r_nil (k_ret ?_))))
       have hfin : ((1 : Int) = 0 ↔ MayP ns ts p) := by
         refine ⟨fun h => by omega, fun h => ?_⟩
         have h1 := h.nodes x hxm; first | omega | (exact absurd h1.2 (hb_b.1 (by assumption)))
       exact ⟨_, ans_tmp ds, _, rfl, by omega, hfin, by omega, Keep.trans (kU (kU (hkp) hh11) hh13) hk_b (by omega) (fun d _ h => h)⟩
     refine k_skip (k_reg (rO (o_add (eV (z1 (z2 (z16 q27)))) ev_c (by omega) (by omega)) (m1 ds (r_nil (⟨mm - 1, by omega, i + 1, by omega, fun y hy_ => ?_, (z1 (z4 (z16 q25))), (z1 (z4 (z16 q26))), ds, by omega, ⟨(z1 (z4 (z16 q1))), (z1 (z4 (z16 q3))), (Keep.look hk_b (by omega) id (lN hh13 (lN hh11 hr1))), (Keep.look hk_b (by omega) id (lN hh13 (lN hh11 hr2))), Keep.trans (kU (kU (hkp) hh11) hh13) hk_b (by omega) (fun d _ h => h)⟩, by omega⟩)))))
     rw [List.take_succ, hx] at hy_
     rcases List.mem_append.1 hy_ with hy_ | hy_
     · exact hok y hy_
     simp only [Option.toList_some, List.mem_singleton] at hy_; subst hy_; exact ⟨by omega, Classical.not_not.1 (fun hc => absurd (hb_b.2 hc) (by rw [show b = false by assumption]; simp))⟩
   refine k_exit (exK_same (k_seq ?_))
   have hnodes := hok
   rw [List.take_of_length_le (by omega)] at hnodes
   clear hok
   refine k_reg (r_heap (o_mkmap) rfl (fun t19 (hh20 : hv t19 = upd (hv tv) nv (some (.map [] 0))) => m1 ds (r_nil (k_seq (k_seq (k_reg (rO (o_faddr (off := 1) (eV (z1 (z2 q1)))) (rO (o_load eZ (lN hh20 hr1) rfl) (rO (o_len_I hT eZ) (rO (o_mov ev_c) (r_nil (k_block (k_loop (fun mm Tu tu nu => ∃ (i : Nat) (es : List (AV × AV × Nat)) (clk : Nat), i ≤ ts.length ∧ (∀ k ∈ ts.take i, 0 ≤ k ∧ k < (ns.length : Int)) ∧ hv tu nv = some (.map es clk) ∧ mInt es ∧ (∀ q, mget es q = (((ts.take i).count q : Nat) : Int)) ∧ Tu.get 6 = some (.map nv) ∧ Tu.get 48 = some vt ∧ Tu.get 49 = some (.int .i64 ((ts.length : Nat) : Int)) ∧ Tu.get 50 = some (.int .i64 (i : Int)) ∧ nv + 1 ≤ nu ∧ (Tu.get 1 = some (.ptr nx 0) ∧ Tu.get 3 = some (.ptr (nx + 1) 0) ∧ hv tu nx = some (.row [vn, vt, .int .i64 p] true) ∧ hv tu (nx + 1) = some (.row [(.func 100 [] [(.ptr nx 0)])] true) ∧ Keep t tu nx (fun _ => False)) ∧ mm + i = ts.length) (fun mm Tu tu nu hI => ?_) (ts.length) ⟨0, [], 0, by omega, by simp, (lS hh20), (fun e he => by cases he), (fun q => by simp [mget]), (z4 ds), (z2 ds), (z1 ds), ds, by omega, ⟨(z1 (z2 (z4 q1))), (z1 (z2 (z4 q3))), (lN hh20 hr1), (lN hh20 hr2), kU (hkp) hh20⟩, by omega⟩)))))))))))))
   obtain ⟨i, es, clk, hi, hok, hmr, hmi, hmg, q6, q48, q49, q50, hnu, ⟨q1, q3, hr1, hr2, hkp⟩, hmm⟩ := hI
   refine k_seq (k_reg (rO (o_lss (eV q50) (eV q49)) (r_nil (k_seq ?_))))
   refine k_if eZ (fun hc21 => ?_) (fun hc21 => ?_)
   · refine k_skip (k_seq (k_block (k_seq ?_)))
     rcases hT with ⟨-, h0⟩ | ⟨di, oi, ci, exi, wri, ri, hie, hdi, hri, hrli, hsegi⟩
     · have h_ := congrArg List.length h0; simp only [List.length_nil] at h_; omega
     obtain ⟨k, hk⟩ := some_at (l := ts) (i := i) (by omega)
     have hkm := List.mem_of_getElem? hk
     have hri1 := hkp.look (by omega) id hri
     have hNv := hN.keep (fun d hd hw => hkp d (by omega) hw) (Nat.le_refl bd)
     have hcl := List.count_le_length (a := k) (l := ts.take i)
     rw [List.length_take] at hcl
     have hmk := hmg k
     refine k_reg (rO (o_iaddr (i := i) (hie ▸ (eV (z1 q48))) (eV (z1 q50)) (by omega)) ?_)
     refine rO (o_load eZ hri1 (by rw [Nat.mul_one]; exact rowI_get (i := i) hsegi hk)) ?_
     refine m1 ds (r_nil (k_seq (k_seq (k_reg (rO (o_load (eV (z4 q3)) hr2 rfl) (m1 (z1 ds) (r_call (w_callV (eV (z1 ds)) (evs_cons eZ evs_nil)) rfl (WF.mono (chk1_ok hNv hr1) ?_))))))))
     rintro _ t22 n23 ⟨b, rfl, hb_b, hn_b, hk_b⟩
     refine rO (o_not eZ) (r_nil ?_)
     refine k_cond eZ (fun hc24 => ?_) (fun hc24 => ?_)
     · refine k_seq (k_reg (rO (o_mov ev_c) (r_nil (k_ret ?_))))
       have hfin : ((1 : Int) = 0 ↔ MayP ns ts p) := by
         refine ⟨fun h => by omega, fun h => ?_⟩
         have h1 := hb_b.2 (h.nets k hkm); simp_all
       exact ⟨_, ans_tmp ds, _, rfl, by omega, hfin, by omega, Keep.trans (hkp) hk_b (by omega) (fun d _ h => h)⟩
     refine k_skip (k_reg (m1 (z8 q6) (m1 (z1 (z4 ds)) (rO (o_look (eV (z1 ds)) eZ (Keep.look hk_b (by omega) id hmr) hmi) (rO (o_add eZ ev_c (by omega) (by omega)) (r_heap (o_mupd (eV (z1 (z2 ds))) (eV (z2 ds)) eZ (Keep.look hk_b (by omega) id hmr) hmi) rfl (fun tm ⟨es2, clk2, hq, hmi2, hmg2⟩ => r_nil (k_reg (rO (o_add (eV (z1 (z4 (z8 q50)))) ev_c (by omega) (by omega)) (m1 ds (r_nil ?_)))))))))))
     refine ⟨mm - 1, by omega, i + 1, es2, clk2, by omega, fun j hj => ?_, (lS hq), hmi2, (fun q => ?_), (z1 (z2 (z4 (z8 q6)))), (z1 (z2 (z4 (z8 q48)))), (z1 (z2 (z4 (z8 q49)))), ds, by omega, ⟨(z1 (z2 (z4 (z8 q1)))), (z1 (z2 (z4 (z8 q3)))), (lN hq (Keep.look hk_b (by omega) id hr1)), (lN hq (Keep.look hk_b (by omega) id hr2)), kU (Keep.trans (hkp) hk_b (by omega) (fun d _ h => h)) hq⟩, by omega⟩
     · rw [take_more hk] at hj
       rcases List.mem_append.1 hj with hj | hj
       · exact hok j hj
       simp only [List.mem_singleton] at hj; subst hj; exact hb_b.1 (by simpa using (by assumption : (!b) = false))
     rw [hmg2, hmg, hmg, count_snoc hk]
   refine k_exit (exK_same (k_seq (k_seq (k_reg (rO (o_faddr (off := 0) (eV (z1 q1))) (rO (o_load eZ hr1 rfl) (rO (o_len_N hN eZ) (rO (o_mov ev_c) (r_nil (k_block ?_))))))))))
   rw [List.take_of_length_le (by omega)] at hok
   rw [List.take_of_length_le (by omega)] at hmg
   refine k_loop (fun mm Tz tz nz => ∃ i : Nat, i ≤ ns.length ∧ (∀ (j : Nat) (y : Nd), j < i → ns[j]? = some y → ndOK (y.ins.map (wdN ns)) y ∧ (y.kind = 2 → ts.count (j : Int) = 1)) ∧ hv tz nv = some (.map es clk) ∧ Tz.get 6 = some (.map nv) ∧ Tz.get 64 = some vn ∧ Tz.get 65 = some (.int .i64 ((ns.length : Nat) : Int)) ∧ Tz.get 66 = some (.int .i64 (i : Int)) ∧ nv + 1 ≤ nz ∧ (Tz.get 1 = some (.ptr nx 0) ∧ Tz.get 3 = some (.ptr (nx + 1) 0) ∧ hv tz nx = some (.row [vn, vt, .int .i64 p] true) ∧ hv tz (nx + 1) = some (.row [(.func 100 [] [(.ptr nx 0)])] true) ∧ Keep t tz nx (fun _ => False)) ∧ mm + i = ns.length) (fun mm Tz tz nz hI => ?_) (ns.length) ⟨0, by omega, (fun j y hj => by omega), hmr, (z1 (z4 q6)), (z2 ds), (z1 ds), ds, by omega, ⟨(z1 (z4 q1)), (z1 (z4 q3)), hr1, hr2, hkp⟩, by omega⟩
   obtain ⟨i, hi, hok3, hmr, q6, q64, q65, q66, hnz, ⟨q1, q3, hr1, hr2, hkp⟩, hmm⟩ := hI
   refine k_seq (k_reg (rO (o_lss (eV q66) (eV q65)) (r_nil (k_seq ?_))))
   refine k_if eZ (fun hc25 => ?_) (fun hc25 => ?_)
   · refine k_skip (k_seq (k_block (k_seq ?_)))
     have hmgi := hmg (i : Int)
     rcases hN with ⟨-, h0⟩ | ⟨dN, on, cn, exn, wrn, rn, ivs, hne, hdn, hrn, hrln, hsegn, hivl, hivr⟩
     · have h_ := congrArg List.length h0; simp only [List.length_nil] at h_; omega
     have hN : RowN t bd vn ns := .inr ⟨dN, on, cn, exn, wrn, rn, ivs, hne, hdn, hrn, hrln, hsegn, hivl, hivr⟩
     obtain ⟨x, hx⟩ := some_at (l := ns) (i := i) (by omega)
     obtain ⟨iv, hiv⟩ := some_at (l := ivs) (i := i) (by omega)
     have hI := hivr i x iv hx hiv
     have hic := hI.cell
     have hxm := List.mem_of_getElem? hx
     have hxv := hv256 x hxm
     have hrn1 := hkp.look (by omega) id hrn
     refine k_reg (m1 (z1 q66) (rO (o_iaddr (i := i) (hne ▸ (eV (z2 q64))) (eV (z2 q66)) (by omega)) (rO (o_loadA (n := 8) eZ hrn1 (by omega) (nodeN_all hsegn hivl hx hiv)) (r_heap (o_alloc) rfl (fun t26 (hh27 : hv t26 = upd (hv tz) nz (some (.row [(.int .i64 0), (.int .i64 0), (.int .i64 0), .nslice, (.str []), (.int .i64 0), (.int .i64 0), (.int .i64 0)] true))) => m1 (z1 (z2 ds)) (r_heap (o_store (n := 8) (eV (z1 ds)) (eV (z2 ds)) (lS hh27) rfl (ncells_cell x hic) (leb rfl)) rfl (fun t28 (hh29 : hv t28 = upd (hv t26) nz (some (.row [(.int .i64 x.kind), (.int .i64 x.op), (.int .i64 x.wide), iv, (.str x.value), (.int .i64 x.hi), (.int .i64 x.lo), (.int .i64 x.time)] true))) => r_nil (k_seq (k_reg (rO (o_loadA (n := 3) (eV (z1 (z2 (z4 q1)))) (lN hh29 (lN hh27 hr1)) (leb rfl) rfl) (rO (o_loadA (n := 8) (eV (z1 (z2 ds))) (lS hh29) (leb rfl) rfl) (r_call (w_callF (evs_cons (eV (z1 ds)) (evs_cons eZ evs_nil))) rfl (WF.mono (WF.decb (may_ok x vn vt iv p ns (hN.keep (fun d hd hw => (kU (kU (hkp) hh27) hh29) d (by omega) hw) (Nat.le_refl bd)) (hI.keep (fun d hd hw => (kU (kU (hkp) hh27) hh29) d (by omega) hw) (Nat.le_refl bd)) (by omega) ⟨hcn, hct⟩ (hnodes x hxm).2 (fun y hy => (hnodes y hy).1) (hnodes x hxm).1 hxv.1 hxv.2.1 hxv.2.2)) ?_)))))))))))))
     rintro _ t30 n31 ⟨b, rfl, hb_b, hn_b, hk_b⟩
     by_cases hs32 : (b = true)
     · refine rO (ndec_f (o_not eZ) hs32) (m1 ds (r_op (o_faddr (off := 0) (eV (z1 (z2 (z4 ds))))) (want_on ds) (r_op (o_load eZ (Keep.look hk_b (by omega) id (lS hh29)) rfl) (want_on (z1 ds)) ?_)))
       by_cases hs33 : (x.kind = 2)
       · refine r_op (dec_t (o_eql eZ ev_c) hs33) (want_on (z2 ds)) (r_op (o_mov eZ) (want_on (z1 (z2 ds))) (r_op (o_mov (eV (z16 q6))) (want_on ds) (r_op (o_mov (eV (z1 (z2 (z8 ds))))) (want_on (z1 ds)) (r_op (o_look (eV (z1 ds)) eZ (Keep.look hk_b (by omega) id (lN hh29 (lN hh27 hmr))) hmi) (want_on (z2 ds)) ?_))))
         by_cases hs34 : ((mget es ((i : Nat) : Int)) = 1)
         · refine r_op (ndec_f (o_neq eZ ev_c) hs34) (want_on (z1 (z2 ds))) (r_op (o_pick_t (eV (z4 ds)) eZ) (want_on (z8 ds)) (rO (o_pick_f (eV (z1 (z8 ds))) eZ) (r_nil (k_cond_f eZ (k_skip (k_reg (rO (o_add (eV (z2 (z4 (z16 q66)))) ev_c (by omega) (by omega)) (m1 ds (r_nil (⟨mm - 1, by omega, i + 1, by omega, fun j y hj hy_ => ?_, (Keep.look hk_b (by omega) id (lN hh29 (lN hh27 hmr))), (z8 (z16 q6)), (z8 (z16 q64)), (z8 (z16 q65)), ds, by omega, ⟨(z8 (z16 q1)), (z8 (z16 q3)), (Keep.look hk_b (by omega) id (lN hh29 (lN hh27 hr1))), (Keep.look hk_b (by omega) id (lN hh29 (lN hh27 hr2))), Keep.trans (kU (kU (hkp) hh27) hh29) hk_b (by omega) (fun d _ h => h)⟩, by omega⟩))))))))))
           rcases (show j < i ∨ j = i by omega) with hj | rfl
           · exact hok3 j y hj hy_
           rw [hx] at hy_; cases hy_; exact ⟨hb_b.1 (by assumption), fun hk2 => by omega⟩
         refine r_op (ndec_t (o_neq eZ ev_c) hs34) (want_on (z1 (z2 ds))) (r_op (o_pick_t (eV (z4 ds)) eZ) (want_on (z8 ds)) (rO (o_pick_f (eV (z1 (z8 ds))) eZ) (r_nil (k_cond_t eZ (k_seq (k_reg (rO (o_mov ev_c) (r_nil (k_ret ?_)))))))))
         have hfin : ((1 : Int) = 0 ↔ MayP ns ts p) := by
           refine ⟨fun h => by omega, fun h => ?_⟩
           have h1 := h.each i x hx; first | exact absurd (hb_b.2 h1.1) (by assumption) | (have h2 := h1.2 (by omega); omega)
         exact ⟨_, ans_tmp ds, _, rfl, by omega, hfin, by omega, Keep.trans (kU (kU (hkp) hh27) hh29) hk_b (by omega) (fun d _ h => h)⟩
       refine r_op (dec_f (o_eql eZ ev_c) hs33) (want_on (z2 ds)) (r_op (o_mov eZ) (want_on (z1 (z2 ds))) (r_off (wN ds) (r_off (wN (z1 ds)) (r_off (wN (z2 ds)) (r_off (wN (z1 (z2 ds))) (r_op (o_pick_f (eV (z4 ds)) ev_c) (want_on (z8 ds)) (rO (o_pick_f (eV (z1 (z8 ds))) eZ) (r_nil (k_cond_f eZ (k_skip (k_reg (rO (o_add (eV (z2 (z4 (z16 q66)))) ev_c (by omega) (by omega)) (m1 ds (r_nil (⟨mm - 1, by omega, i + 1, by omega, fun j y hj hy_ => ?_, (Keep.look hk_b (by omega) id (lN hh29 (lN hh27 hmr))), (z8 (z16 q6)), (z8 (z16 q64)), (z8 (z16 q65)), ds, by omega, ⟨(z8 (z16 q1)), (z8 (z16 q3)), (Keep.look hk_b (by omega) id (lN hh29 (lN hh27 hr1))), (Keep.look hk_b (by omega) id (lN hh29 (lN hh27 hr2))), Keep.trans (kU (kU (hkp) hh27) hh29) hk_b (by omega) (fun d _ h => h)⟩, by omega⟩)))))))))))))))
       rcases (show j < i ∨ j = i by omega) with hj | rfl
       · exact hok3 j y hj hy_
       rw [hx] at hy_; cases hy_; exact ⟨hb_b.1 (by assumption), fun hk2 => by omega⟩
     refine rO (ndec_t (o_not eZ) hs32) (m1 ds (r_off (wN ds) (r_off (wN (z1 ds)) (r_off (wN (z2 ds)) (r_off (wN (z1 (z2 ds))) (r_off (want_undef ds) (r_off (want_undef (z1 ds)) (r_off (want_undef (z2 ds)) (r_off (want_undef (z1 (z2 ds))) (r_off (wN (z8 ds)) (rO (o_pick_t (eV (z1 (z8 ds))) ev_c) (r_nil (k_cond_t eZ (k_seq (k_reg (rO (o_mov ev_c) (r_nil (k_ret ?_))))))))))))))))))
     have hfin : ((1 : Int) = 0 ↔ MayP ns ts p) := by
       refine ⟨fun h => by omega, fun h => ?_⟩
       have h1 := h.each i x hx; first | exact absurd (hb_b.2 h1.1) (by assumption) | (have h2 := h1.2 (by omega); omega)
     exact ⟨_, ans_tmp ds, _, rfl, by omega, hfin, by omega, Keep.trans (kU (kU (hkp) hh27) hh29) hk_b (by omega) (fun d _ h => h)⟩
   refine k_exit (exK_same (k_seq (k_reg (rO (o_mov ev_c) (r_nil (k_ret ?_))))))
   have hfin : ((0 : Int) = 0 ↔ MayP ns ts p) := by
     exact ⟨fun _ => ⟨by omega, by omega, hnodes, hok, fun j y hy => hok3 j y (by have := (List.getElem?_eq_some_iff.1 hy).1; omega) hy⟩, fun _ => rfl⟩
   exact ⟨_, ans_tmp ds, _, rfl, by omega, hfin, by omega, hkp⟩
 refine r_op (ndec_t (o_neq (eV (z1 (z2 ds))) eZ) hs4) (want_on (z1 (z4 ds))) (rO (o_pick_f (eV (z2 (z4 ds))) eZ) (r_nil (k_cond_t eZ (k_seq (k_reg (rO (o_mov ev_c) (r_nil (k_ret ?_))))))))
 have hfin : ((1 : Int) = 0 ↔ MayP ns ts p) := by
   refine ⟨fun h => by omega, fun h => ?_⟩
   have h1 := h.few; have h2 := h.next; omega
 exact ⟨_, ans_tmp ds, _, rfl, by omega, hfin, by omega, kU kR hh2⟩
end
end Go.Proofs.YtpjohgnhmjceiaaGreatDoor.WX
