/- The program's functions in the evaluator's terms: the queue of events: what each of them answers, whatever comes in.
   Conditions: those of each theorem. -/
import Derived.Test.YtpjohgnhmjceiaaGreatDoorAx4
import Derived.Test.YtpjohgnhmjceiaaGreatDoorShelf
import Derived.Test.YtpjohgnhmjceiaaGreatDoorProg
set_option linter.all false
set_option linter.unusedVariables false
set_option linter.unusedSectionVars false
set_option maxRecDepth 100000
open Go Go.Proofs.YtpjohgnhmjceiaaGreatDoor.AX Go.Proofs
namespace Go.Proofs.YtpjohgnhmjceiaaGreatDoor.WX
noncomputable def bytesOf8 (s : List Nat) : List UInt8 := s.map UInt8.ofNat
noncomputable def trimN (s cs : List Nat) : List Nat := (Lib.trimS (bytesOf8 s) (bytesOf8 cs)).map UInt8.toNat
open Classical in
noncomputable def pTrim : List AV → TB → Option AV
 | [.str s, .str cs], _ => if (∀ c ∈ s, c < 256) ∧ s.length ≤ 9223372036854775807 ∧ cs = [48, 49, 120, 122] then some (.str (trimN s cs)) else none
 | _, _ => none
theorem enc_bytes (s : List Nat) : (enc s).data.toList = bytesOf8 s := by simp [enc, bytesOf8]
theorem pTrim_ok [Env] : PrimOK Tryz.prog 104 pTrim := by
 intro args t nx v h ρ vs w hh hr
 have hx : ∃ s cs, args = [.str s, .str cs] ∧ (∀ c ∈ s, c < 256) ∧ s.length ≤ 9223372036854775807 ∧ cs = [48, 49, 120, 122] ∧ v = .str (trimN s cs) := by
   unfold pTrim at h
   split at h
   · split at h
     · rename_i hc
       cases h
       exact ⟨_, _, rfl, hc.1, hc.2.1, hc.2.2, rfl⟩
     · cases h
   · cases h
 obtain ⟨s, cs, rfl, h1, h2, rfl, rfl⟩ := hx
 simp only [rels, AV.rel] at hr
 obtain ⟨v1, r1, rfl, ⟨rfl, -⟩, v2, r2, rfl, ⟨rfl, -⟩, rfl⟩ := hr
 refine (Tryz.strings_Trim_laid (enc s) (enc [48, 49, 120, 122]) w (by simp [enc, ByteArray.size]; omega) (by simp [enc, ByteArray.size]) ?_).mono (fun e w' ⟨e1, e2⟩ => ⟨_, e1, ?_, e2⟩)
 · intro j b hb
   rw [enc_bytes] at hb
   have hm := List.mem_of_getElem? hb
   simp [bytesOf8] at hm
   rcases hm with rfl | rfl | rfl | rfl <;> decide
 · rw [enc_bytes, enc_bytes]
   refine ⟨?_, fun c hc => ?_⟩
   · show Value.string _ = Value.string (enc (trimN s [48, 49, 120, 122]))
     congr 1
     simp [enc, trimN, Function.comp_def]
   · simp only [trimN, List.mem_map] at hc
     obtain ⟨b, -, rfl⟩ := hc
     exact b.toNat_lt
/-- Nothing is left where all bytes are among those that are cut off. -/
theorem drop_nil_ {α : Type} (p : α → Bool) : ∀ l : List α, l.dropWhile p = [] ↔ ∀ b ∈ l, p b = true
 | [] => by simp
 | b :: l => by
   rw [List.dropWhile_cons]
   by_cases h : p b = true
   · rw [if_pos h, drop_nil_ p l]; simp [h]
   · rw [if_neg h]; simp [h]
theorem take_mem_ {α : Type} (p : α → Bool) : ∀ (m : List α) (b : α), b ∈ m.takeWhile p → p b = true
 | [], b, h => by simp at h
 | c :: m, b, h => by
   rw [List.takeWhile_cons] at h
   by_cases hc : p c = true
   · rw [if_pos hc] at h
     rcases List.mem_cons.1 h with rfl | h
     · exact hc
     · exact take_mem_ p m b h
   · rw [if_neg hc] at h
     simp at h
theorem trim_nil (l cs : List UInt8) : Lib.trimS l cs = [] ↔ ∀ b ∈ l, b ∈ cs := by
 have hd : ∀ m : List UInt8, m.dropWhile (cs.contains ·) = [] ↔ ∀ b ∈ m, b ∈ cs := by
   intro m
   rw [drop_nil_]
   simp
 unfold Lib.trimS Lib.trimLeftS
 rw [hd]
 unfold Lib.trimRightS
 constructor
 · intro h b hb
   by_cases hn : b ∈ (l.reverse.dropWhile (cs.contains ·)).reverse
   · exact h b hn
   · have hall : ∀ x ∈ l.reverse.dropWhile (cs.contains ·), x ∈ cs := fun x hx => h x (List.mem_reverse.2 hx)
     have : l.reverse.takeWhile (cs.contains ·) ++ l.reverse.dropWhile (cs.contains ·) = l.reverse := List.takeWhile_append_dropWhile
     have hm : b ∈ l.reverse.takeWhile (cs.contains ·) ++ l.reverse.dropWhile (cs.contains ·) := by rw [this]; exact List.mem_reverse.2 hb
     rcases List.mem_append.1 hm with hm | hm
     · have := take_mem_ _ _ _ hm
       simpa using this
     · exact hall b hm
 · intro h b hb
   exact h b (List.mem_reverse.1 ((List.dropWhile_sublist _).subset (List.mem_reverse.1 hb)))
theorem trimN_nil {s : List Nat} (h : ∀ c ∈ s, c < 256) : trimN s [48, 49, 120, 122] = [] ↔ ∀ c ∈ s, c = 48 ∨ c = 49 ∨ c = 120 ∨ c = 122 := by
 unfold trimN
 rw [List.map_eq_nil_iff, trim_nil]
 simp only [bytesOf8, List.mem_map, forall_exists_index, and_imp, forall_apply_eq_imp_iff₂, List.map_cons, List.map_nil]
 constructor
 · intro k c hc
   have h1 := k c hc
   have h2 := h c hc
   simp only [List.mem_cons, List.not_mem_nil, or_false] at h1
   have e : ∀ d : Nat, d < 256 → UInt8.ofNat c = UInt8.ofNat d → c = d := fun d hd e => by
     have := congrArg UInt8.toNat e
     simp only [UInt8.toNat_ofNat'] at this
     omega
   rcases h1 with h1 | h1 | h1 | h1
   · exact .inl (e _ (by decide) h1)
   · exact .inr (.inl (e _ (by decide) h1))
   · exact .inr (.inr (.inl (e _ (by decide) h1)))
   · exact .inr (.inr (.inr (e _ (by decide) h1)))
 · intro k c hc
   rcases k c hc with rfl | rfl | rfl | rfl <;> simp
/-- A function without arguments that tells true. -/
noncomputable def pTrue : List AV → TB → Option AV
 | [], _ => some (.bool true)
 | _, _ => none
theorem pTrue_ok [Env] {P : Program} {f : FuncId} (h : ∀ w : World, Calls P f #[] w fun e w' => e = .returned (.bool true) ∧ RowKit.Below w.heap.size w w') : PrimOK P f pTrue := by
 intro args t nx v hv ρ vs w hh hr
 cases args with
 | nil =>
   cases hv
   rw [rels_nil.1 hr]
   exact (h w).mono (fun e w' ⟨e1, e2⟩ => ⟨_, e1, rfl, e2⟩)
 | cons a l => cases hv
noncomputable def tb (f : Nat) : Option AFn := bif f == 104 then some (.prim pTrim) else bif f == 28 then some (.prim pTrue) else fnOf Tryz.prog [9, 66, 109, 111, 193] f
theorem trim_tab : tb 104 = some (.prim pTrim) := rfl
theorem awake0_tab : tb 28 = some (.prim pTrue) := rfl
end Go.Proofs.YtpjohgnhmjceiaaGreatDoor.WX

set_option linter.all false
set_option linter.unusedVariables false
set_option linter.unusedSectionVars false
set_option maxRecDepth 100000
open Go Go.Proofs.YtpjohgnhmjceiaaGreatDoor.AX Go.Proofs
namespace Go.Proofs.YtpjohgnhmjceiaaGreatDoor.WX
structure Nd where
 kind : Int
 op : Int
 wide : Int
 ins : List Int
 value : List Nat
 hi : Int
 lo : Int
 time : Int
def i64 (n : Int) : AV := .int .i64 n
def ints (l : List Int) : List AV := l.map i64
def ncells (x : Nd) (iv : AV) : List AV := [.int .i64 x.kind, .int .i64 x.op, .int .i64 x.wide, iv, .str x.value, .int .i64 x.hi, .int .i64 x.lo, .int .i64 x.time]
def flatN : List Nd → List AV → List AV
 | x :: ns, iv :: ivs => ncells x iv ++ flatN ns ivs
 | _, _ => []
variable [Env]
/-- A row of numbers, somewhere in [lo, hi), and none of three blocks. -/
def InsV (t : TB) (lo hi x b c : Nat) (v : AV) (l : List Int) : Prop :=
 (v = .nslice ∧ l = []) ∨ ∃ d ex, v = .slice d 0 l.length l.length 1 ex ∧ hv t d = some (.row (ints l) true) ∧ lo ≤ d ∧ d < hi ∧ d ≠ x ∧ d ≠ b ∧ d ≠ c
theorem InsV.cell {t : TB} {lo hi x b c : Nat} {v : AV} {l : List Int} (h : InsV t lo hi x b c v l) : isCell v = true := by
 rcases h with ⟨rfl, -⟩ | ⟨d, ex, rfl, -⟩ <;> rfl
theorem InsV.keep {t t' : TB} {lo hi hi' x b b' c c' : Nat} {v : AV} {l : List Int} (h : InsV t lo hi x b c v l) (hh : hi ≤ hi') (k : ∀ d, d < hi → d ≠ x → d ≠ b → d ≠ c → hv t' d = hv t d) (hb : b' = b ∨ hi ≤ b') (hc : c' = c ∨ hi ≤ c') : InsV t' lo hi' x b' c' v l := by
 rcases h with h | ⟨d, ex, h1, h2, h3, h4, h5, h6, h7⟩
 · exact .inl h
 · exact .inr ⟨d, ex, h1, (k d h4 h5 h6 h7).trans h2, h3, by omega, h5, by omega, by omega⟩
/-- The nodes: a row that is full, b; numbers that go in lie elsewhere. -/
structure NodesV (t : TB) (lo hi x b c : Nat) (vn : AV) (ns : List Nd) (ivs : List AV) : Prop where
 v : vn = .slice b 0 ns.length ns.length 8 false
 row : hv t b = some (.row (flatN ns ivs) true)
 ge : lo ≤ b
 lt : b < hi
 ne : b ≠ x
 nc : b ≠ c
 len : ivs.length = ns.length
 ins : ∀ (i : Nat) (nd : Nd) (iv : AV), ns[i]? = some nd → ivs[i]? = some iv → InsV t lo hi x b c iv nd.ins
/-- What is listed: its own block x, nodes, nets' numbers (row c). -/
structure Lst (t : TB) (lo hi x b c : Nat) (ns : List Nd) (ivs : List AV) (vn vt : AV) (ts : List Int) (p : Int) : Prop where
 own : hv t x = some (.row [vn, vt, .int .i64 p] true)
 lx : lo ≤ x
 hx : x < hi
 nodes : (vn = .nslice ∧ ns = [] ∧ ivs = []) ∨ NodesV t lo hi x b c vn ns ivs
 nets : (vt = .nslice ∧ ts = []) ∨ ∃ ex, vt = .slice c 0 ts.length ts.length 1 ex ∧ hv t c = some (.row (ints ts) true) ∧ lo ≤ c ∧ c < hi ∧ c ≠ x
theorem some_at {α : Type} {l : List α} {i : Nat} (h : i < l.length) : ∃ x, l[i]? = some x := ⟨l[i], List.getElem?_eq_getElem h⟩
theorem Lst.keep {t t' : TB} {lo m hi' x b c : Nat} {ns : List Nd} {ivs : List AV} {vn vt : AV} {ts : List Int} {p : Int} (h : Lst t lo m x b c ns ivs vn vt ts p) (hk : Keep t t' m (fun _ => False)) (hh : m ≤ hi') : Lst t' lo hi' x b c ns ivs vn vt ts p := by
 have hx := h.hx
 refine ⟨(hk x h.hx id).trans h.own, h.lx, by omega, ?_, ?_⟩
 · rcases h.nodes with hn | hn
   · exact .inl hn
   · have hlt := hn.lt
     exact .inr ⟨hn.v, (hk b hn.lt id).trans hn.row, hn.ge, by omega, hn.ne, hn.nc, hn.len, fun i e jv h1 h2 => (hn.ins i e jv h1 h2).keep hh (fun d h3 _ _ _ => hk d h3 id) (.inl rfl) (.inl rfl)⟩
 · rcases h.nets with hn | ⟨ex, h1, h2, h3, h4, h5⟩
   · exact .inl hn
   · exact .inr ⟨ex, h1, (hk c h4 id).trans h2, h3, by omega, h5⟩
def bitC (c : Nat) : Prop := c = 48 ∨ c = 49 ∨ c = 120 ∨ c = 122
/-- An operator's width, by the widths of what goes in; -1: it may not be. -/
def operW (x : Nd) (w : List Int) : Int :=
 if x.op = 7 ∨ x.op = 9 then (match w with | [a] => a | _ => -1)
 else if x.op = 8 ∨ x.op = 10 ∨ x.op = 11 ∨ x.op = 12 then (match w with | [_] => 1 | _ => -1)
 else if x.op = 13 ∨ x.op = 14 ∨ x.op = 23 ∨ x.op = 25 ∨ x.op = 24 then (match w with | [a, b] => if a = b then a else -1 | _ => -1)
 else if x.op = 15 ∨ x.op = 16 then (match w with | [a, _] => a | _ => -1)
 else if 17 ≤ x.op ∧ x.op ≤ 22 then (match w with | [a, b] => if a = b then 1 else -1 | _ => -1)
 else if x.op = 26 ∨ x.op = 27 ∨ x.op = 3 then (match w with | [_, _] => 1 | _ => -1)
 else if x.op = 6 then (match w with | [_, a, b] => if a = b then a else -1 | _ => -1)
 else if x.op = 4 then (match w with | [a] => if 0 ≤ x.lo ∧ x.lo ≤ x.hi ∧ x.hi < a then x.hi - x.lo + 1 else -1 | _ => -1)
 else if x.op = 5 then (if 1 ≤ w.length ∧ w.length ≤ 256 then w.sum else -1)
 else -1
def isV (s : List Nat) : Prop := 1 ≤ s.length ∧ s.length ≤ 256 ∧ ∀ c ∈ s, bitC c
def zeroP (x : Nd) : Prop := (x.kind = 3 ∨ x.op = 0) ∧ (x.kind = 1 ∨ x.value = []) ∧ ((x.kind = 3 ∧ x.op = 4) ∨ (x.hi = 0 ∧ x.lo = 0)) ∧ (x.kind = 8 ∨ x.time = 0)
def nodeP (w : List Int) (x : Nd) : Prop :=
 (x.kind = 1 ∧ w = [] ∧ isV x.value ∧ (x.value.length : Int) = x.wide) ∨ (x.kind = 2 ∧ w = []) ∨ (x.kind = 3 ∧ operW x w = x.wide) ∨
 (x.kind = 4 ∧ ∃ a, w = [a, x.wide, x.wide]) ∨ (x.kind = 5 ∧ (∃ a, w = [a, a]) ∧ x.wide = 1) ∨ (x.kind = 6 ∧ ∃ a, w = [a]) ∨
 (x.kind = 7 ∧ ∃ a, w = [a, x.wide]) ∨ (x.kind = 8 ∧ w = [x.wide] ∧ 1 ≤ x.time ∧ x.time ≤ 1048576)
def ndOK (w : List Int) (x : Nd) : Prop := zeroP x ∧ nodeP w x
def wdN (ns : List Nd) (k : Int) : Int := match ns[k.toNat]? with | some x => x.wide | none => 0
def hangs (x : Nd) : List Int := if x.kind = 8 then [] else if x.kind = 7 then x.ins.take 1 else x.ins
structure NdG (ns : List Nd) (i : Nat) (x : Nd) : Prop where
 wide : 1 ≤ x.wide ∧ x.wide ≤ 256
 ins : ∀ k ∈ x.ins, 0 ≤ k ∧ k < (ns.length : Int)
 ok : ndOK (x.ins.map (wdN ns)) x
 hang : ∀ k ∈ hangs x, k < (i : Int)
 inp : x.kind = 2 → i < 2
 few : x.ins.length ≤ 3
def NetG (ns : List Nd) : Prop := ∀ (i : Nat) (x : Nd), ns[i]? = some x → NdG ns i x
theorem wdN_app {ns : List Nd} {x : Nd} {k : Int} (h0 : 0 ≤ k) (h : k < (ns.length : Int)) : wdN (ns ++ [x]) k = wdN ns k := by
 unfold wdN
 rw [List.getElem?_append_left (by omega)]
theorem hangs_sub {x : Nd} {k : Int} (h : k ∈ hangs x) : k ∈ x.ins := by
 unfold hangs at h
 split at h
 · cases h
 · split at h
   · exact List.mem_of_mem_take h
   · exact h
theorem NetG.add {ns : List Nd} (h : NetG ns) (x : Nd) (hw : 1 ≤ x.wide ∧ x.wide ≤ 256) (hi : ∀ k ∈ x.ins, 0 ≤ k ∧ k < (ns.length : Int)) (ho : ndOK (x.ins.map (wdN ns)) x) (hk : x.kind = 2 → ns.length < 2) (hf : x.ins.length ≤ 3 := by exact Nat.le_of_ble_eq_true rfl) : NetG (ns ++ [x]) := by
 have wid : ∀ y : Nd, (∀ k ∈ y.ins, 0 ≤ k ∧ k < (ns.length : Int)) → y.ins.map (wdN (ns ++ [x])) = y.ins.map (wdN ns) := by
   intro y hy
   exact List.map_congr_left (fun k hk => wdN_app (hy k hk).1 (hy k hk).2)
 intro i y hy
 by_cases hlt : i < ns.length
 · rw [List.getElem?_append_left hlt] at hy
   have g := h i y hy
   exact ⟨g.wide, fun k hk => by have := g.ins k hk; rw [List.length_append]; simp; omega, by rw [wid y g.ins]; exact g.ok, g.hang, g.inp, g.few⟩
 · have e : i = ns.length := by
     have : i < (ns ++ [x]).length := by
       rcases Nat.lt_or_ge i (ns ++ [x]).length with h' | h'
       · exact h'
       · rw [List.getElem?_eq_none h'] at hy; cases hy
     simp at this; omega
   subst e
   simp at hy
   subst hy
   exact ⟨hw, fun k hk => by have := hi k hk; rw [List.length_append]; simp; omega, by rw [wid x hi]; exact ho, fun k hk => (hi k (hangs_sub hk)).2, hk, hf⟩
section
variable {ns : List Nd} {w : Int}
end
/-- Numbers, so many an element: nil, or a row. -/
def Rows5 (t : TB) (bd : Nat) (gv : AV) (n sz : Nat) : Prop :=
 (gv = .nslice ∧ n = 0) ∨ ∃ (g o c : Nat) (ex wr : Bool) (r : List AV), gv = .slice g o n c sz ex ∧ g < bd ∧ hv t g = some (.row r wr) ∧ o + n * sz ≤ r.length ∧ ∀ i, i < n * sz → ∃ a : Int, r[o + i]? = some (.int .i64 a)
theorem Rows5.keep {t t' : TB} {bd n sz : Nat} {gv : AV} {W : Nat → Prop} (h : Rows5 t bd gv n sz) (k : Keep t t' bd W) (hw : ∀ d, d < bd → ¬ W d) : Rows5 t' bd gv n sz := by
 rcases h with h | ⟨g, o, c, ex, wr, r, h1, h2, h3, h4⟩
 · exact .inl h
 · exact .inr ⟨g, o, c, ex, wr, r, h1, h2, (k g h2 (hw g h2)).trans h3, h4⟩
def Nd.with (x : Nd) (l : List Int) : Nd := ⟨x.kind, x.op, x.wide, l, x.value, x.hi, x.lo, x.time⟩
/-- The same but for what goes in. -/
def SameN (ns ns' : List Nd) : Prop := ns'.length = ns.length ∧ ∀ (j : Nat) (x : Nd), ns[j]? = some x → ∃ l, ns'[j]? = some (x.with l)
theorem SameN.refl (ns : List Nd) : SameN ns ns := ⟨rfl, fun j x h => ⟨x.ins, h⟩⟩
theorem SameN.set {ns ns' : List Nd} (h : SameN ns ns') {i : Nat} {x : Nd} (hx : ns'[i]? = some x) (l : List Int) : SameN ns (ns'.set i (x.with l)) := by
 refine ⟨by simp [h.1], fun j y hy => ?_⟩
 obtain ⟨l1, h1⟩ := h.2 j y hy
 rw [List.getElem?_set]
 by_cases e : i = j
 · subst e
   have hl : i < ns'.length := by
     rcases Nat.lt_or_ge i ns'.length with h' | h'
     · exact h'
     · rw [List.getElem?_eq_none h'] at hx; cases hx
   rw [hx] at h1
   cases h1
   exact ⟨l, by simp [hl, Nd.with]⟩
 · exact ⟨l1, by rw [if_neg e]; exact h1⟩
theorem wdN_set {ns : List Nd} {i : Nat} {x : Nd} (hx : ns[i]? = some x) (l : List Int) (k : Int) : wdN (ns.set i (x.with l)) k = wdN ns k := by
 unfold wdN
 rw [List.getElem?_set]
 by_cases e : i = k.toNat
 · subst e
   have hl : k.toNat < ns.length := by
     rcases Nat.lt_or_ge k.toNat ns.length with h' | h'
     · exact h'
     · rw [List.getElem?_eq_none h'] at hx; cases hx
   rw [if_pos rfl, if_pos hl, hx]
   rfl
 · rw [if_neg e]
theorem NetG.set {ns : List Nd} (h : NetG ns) {i : Nat} {x : Nd} (hx : ns[i]? = some x) {l : List Int} (hl : ∀ k ∈ l, 0 ≤ k ∧ k < (ns.length : Int)) (ho : ndOK (l.map (wdN ns)) (x.with l)) (hh : ∀ k ∈ hangs (x.with l), k < (i : Int)) (hf : l.length ≤ 3 := by exact Nat.le_of_ble_eq_true rfl) : NetG (ns.set i (x.with l)) := by
 intro j y hy
 have hw : wdN (ns.set i (x.with l)) = wdN ns := funext (wdN_set hx l)
 rw [List.getElem?_set] at hy
 by_cases e : i = j
 · subst e
   have hlt : i < ns.length := by
     rcases Nat.lt_or_ge i ns.length with h' | h'
     · exact h'
     · rw [List.getElem?_eq_none h'] at hx; cases hx
   simp [hlt] at hy
   subst hy
   have g := h i x hx
   exact ⟨g.wide, by simpa [Nd.with] using hl, by rw [hw]; exact ho, hh, g.inp, by simpa [Nd.with] using hf⟩
 · rw [if_neg e] at hy
   have g := h j y hy
   exact ⟨g.wide, by simpa using g.ins, by rw [hw]; exact g.ok, g.hang, g.inp, g.few⟩
def inNd (w : Int) : Nd := ⟨2, 0, w, [], [], 0, 0, 0⟩
def First2 (ns : List Nd) : Prop := (∃ l, ns[0]? = some ((inNd 1).with l)) ∧ ∃ l, ns[1]? = some ((inNd 3).with l)
theorem First2.app {ns ms : List Nd} (h : First2 ns) (h2 : 2 ≤ ns.length) : First2 (ns ++ ms) := by
 obtain ⟨⟨l, h0⟩, k, h1⟩ := h
 exact ⟨⟨l, by rw [List.getElem?_append_left (by omega)]; exact h0⟩, k, by rw [List.getElem?_append_left (by omega)]; exact h1⟩
/-- Behind a row of which it is not told whether its room is known. -/
theorem app_any {t : TB} {nx sz k b o n : Nat} {ex : Bool} {y : AV} {l cs : List AV} (hl : srcLen y = some k) (hs : srcCells y k sz t = some cs) (hc : allCell cs = true) (hb : hv t b = some (.row l true)) (ho : o + n * sz ≤ l.length) (hn : 0 < k) (hk : (n + k) * sz ≤ 65536) :
   ∃ t', appendA sz (.slice b o n n sz ex) y t nx = .ok (.slice nx 0 (n + k) (n + k) sz false) t' (nx + 1) ∧ ∃ t1, (∀ d, d ≠ b → hv t1 d = hv t d) ∧ hv t' = upd (hv t1) nx (some (.row ((l.drop o).take (n * sz) ++ cs) true)) := by
 obtain ⟨t', h1, h2⟩ := app_new (t := t) (nx := nx) (ex := ex) (c := n) hl hs hc hb ho (by omega) hk (.inr rfl)
 refine ⟨t', h1, if ex then t else t.put none b, ?_, ?_⟩
 · intro d hd
   cases ex with
   | true => rfl
   | false => show hv (t.put none b) d = _; rw [hv_put, upd_ne _ _ _ _ hd]
 · rw [h2]
   cases ex with
   | true => rfl
   | false => show upd (upd (hv t) b none) nx _ = upd (hv (t.put none b)) nx _; rw [hv_put]; rfl
/-- A netlist's rows, as they are read. -/
def RowI (t : TB) (bd : Nat) (v : AV) (l : List Int) : Prop :=
 (v = .nslice ∧ l = []) ∨ ∃ (d o c : Nat) (ex wr : Bool) (r : List AV), v = .slice d o l.length c 1 ex ∧ d < bd ∧ hv t d = some (.row r wr) ∧ (o + l.length ≤ r.length ∧ l.length ≤ c) ∧ (r.drop o).take l.length = ints l
def RowN (t : TB) (bd : Nat) (v : AV) (ns : List Nd) : Prop :=
 (v = .nslice ∧ ns = []) ∨ ∃ (d o c : Nat) (ex wr : Bool) (r ivs : List AV), v = .slice d o ns.length c 8 ex ∧ d < bd ∧ hv t d = some (.row r wr) ∧ o + ns.length * 8 ≤ r.length ∧ (r.drop o).take (ns.length * 8) = flatN ns ivs ∧ ivs.length = ns.length ∧
   ∀ (i : Nat) (x : Nd) (iv : AV), ns[i]? = some x → ivs[i]? = some iv → RowI t bd iv x.ins
theorem RowI.keep {t t' : TB} {bd bd' : Nat} {v : AV} {l : List Int} (h : RowI t bd v l) (k : Keep t t' bd (fun _ => False)) (hb : bd ≤ bd') : RowI t' bd' v l := by
 rcases h with h | ⟨d, o, c, ex, wr, r, h1, h2, h3, h4⟩
 · exact .inl h
 · exact .inr ⟨d, o, c, ex, wr, r, h1, by omega, (k d h2 id).trans h3, h4⟩
theorem RowN.keep {t t' : TB} {bd bd' : Nat} {v : AV} {ns : List Nd} (h : RowN t bd v ns) (k : Keep t t' bd (fun _ => False)) (hb : bd ≤ bd') : RowN t' bd' v ns := by
 rcases h with h | ⟨d, o, c, ex, wr, r, ivs, h1, h2, h3, h4, h5, h6, h7⟩
 · exact .inl h
 · exact .inr ⟨d, o, c, ex, wr, r, ivs, h1, by omega, (k d h2 id).trans h3, h4, h5, h6, fun i x iv e1 e2 => (h7 i x iv e1 e2).keep k hb⟩
theorem ints_len (l : List Int) : (ints l).length = l.length := by simp [ints]
end Go.Proofs.YtpjohgnhmjceiaaGreatDoor.WX

set_option linter.all false
set_option linter.unusedVariables false
set_option linter.unusedSectionVars false
set_option maxRecDepth 100000
open Go Go.Proofs.YtpjohgnhmjceiaaGreatDoor.AX Go.Proofs
namespace Go.Proofs.YtpjohgnhmjceiaaGreatDoor.WX
def lcheck_r0 : List Ins := [.o 2 (.mov (kI 0))]
def lcheck_r1 : List Ins := [.mv 3 0,
 .o 4 (.len .str (.t 3)),
 .o 5 (.bin .lss (.t 4) (kI 1)),
 .mv 6 5,
 .g 7 6 false (.mov (.t 0)),
 .g 8 6 false (.len .str (.t 7)),
 .g 9 6 false (.bin .gtr (.t 8) (kI 256)),
 .o 10 (.pick (.t 6) (.c (.bool true)) (.t 9)),
 .mv 11 10,
 .g 12 11 false (.mov (.t 0)),
 ⟨(some 13), (some (11, false)), (.callF 104 [(.t 12), (.c (.str [48, 49, 120, 122]))])⟩,
 .g 14 11 false (.bin .neq (.t 13) (.c (.str []))),
 .o 15 (.pick (.t 11) (.c (.bool true)) (.t 14))]
def lcheck_r2 : List Ins := [.o 2 (.mov (kI 10))]
def lcheck_r3 : List Ins := [.o 2 (.mov (kI 0))]
def lcheck_c : IC := (.seq (.reg lcheck_r0) (.seq (.seq (.reg lcheck_r1) (.cond (.t 15) (.seq (.reg lcheck_r2) .ret) .skip)) (.seq (.reg lcheck_r3) .ret)))
theorem lcheck_tab : tb 49 = some (.code 1 16 lcheck_c [.tmp 2]) := by kernel_rfl
variable [Env]
theorem rowI_get {r : List AV} {o i : Nat} {l : List Int} {a : Int} (h : (r.drop o).take l.length = ints l) (hi : l[i]? = some a) : r[o + i]? = some (.int .i64 a) := by
 have hl : i < l.length := by
   rcases Nat.lt_or_ge i l.length with h' | h'
   · exact h'
   · rw [List.getElem?_eq_none h'] at hi; cases hi
 have e := congrArg (fun m => m[i]?) h
 simp only [List.getElem?_take, if_pos hl, List.getElem?_drop] at e
 rw [e]
 simp [ints, i64, hi]
theorem o_len_I {T : TA} {t t0 : TB} {nx bd : Nat} {l : List Int} {gv : AV} {x : Opd} (h : RowI t0 bd gv l) (hx : x.ev T = some gv) : (IOp.len .slc x).run T t nx = .ok (.int .i64 ((l.length : Nat) : Int)) t nx := by
 rcases h with ⟨rfl, rfl⟩ | ⟨g, o, c, ex, wr, r, rfl, -⟩
 · exact o_len_nslice hx
 · exact o_len_slice hx
theorem trim_ok {t : TB} {nx : Nat} (s : List Nat) (h : ∀ c ∈ s, c < 256) (hl : s.length ≤ 9223372036854775807) : WF tb 104 [.str s, .str [48, 49, 120, 122]] t nx (fun v t' nx' => v = .str (trimN s [48, 49, 120, 122]) ∧ nx ≤ nx' ∧ Keep t t' nx (fun _ => False)) := by
 refine k_prim trim_tab (v := .str (trimN s [48, 49, 120, 122])) ?_ ⟨rfl, Nat.le_refl _, kR⟩
 unfold pTrim
 exact if_pos ⟨h, hl, rfl⟩
theorem lcheck_ok {t : TB} {nx : Nat} (s : List Nat) (h : ∀ c ∈ s, c < 256) (hl : s.length ≤ 9223372036854775807) : WF tb 49 [.str s] t nx (fun v t' nx' => ∃ r, v = .int .i64 r ∧ (r = 0 ∧ isV s ∨ r = 10 ∧ ¬ isV s) ∧ nx ≤ nx' ∧ Keep t t' nx (fun _ => False)) := by
 have htr := trimN_nil h
 refine k_fun lcheck_tab rfl ?_
 unfold lcheck_c
 change WC _ _ (TA.put (some _) TA.e 0) _ _ _
 refine k_seq (k_reg (rO (o_mov ev_c) (r_nil (k_seq (k_seq (k_reg (m1 (z1 get_same) (rO (o_len_str eZ) ?_))))))))
 by_cases hs1 : (((s.length : Nat) : Int) < 1)
 · refine rO (dec_t (o_lss eZ ev_c) hs1) (m1 ds (r_off (wN ds) (r_off (wN (z1 ds)) (r_off (wN (z2 ds)) (rO (o_pick_t (eV (z1 (z2 ds))) ev_c) (m1 ds (r_off (wN ds) (r_off (wN (z1 ds)) (r_off (wN (z2 ds)) (rO (o_pick_t (eV (z1 (z2 ds))) ev_c) (r_nil (k_cond_t eZ (k_seq (k_reg (rO (o_mov ev_c) (r_nil (k_ret ?_)))))))))))))))))
   exact ⟨_, ans_tmp ds, _, rfl, .inr ⟨rfl, fun hv => by obtain ⟨h1_, h2_, h3_⟩ := hv; first | omega | exact absurd (htr.2 h3_) (by assumption)⟩, by omega, kR⟩
 refine rO (dec_f (o_lss eZ ev_c) hs1) (m1 ds (r_op (o_mov (eV (z1 (z4 get_same)))) (want_on ds) (r_op (o_len_str eZ) (want_on (z1 ds)) ?_)))
 by_cases hs2 : (256 < ((s.length : Nat) : Int))
 · refine r_op (dec_t (o_gtr eZ ev_c) hs2) (want_on (z2 ds)) (rO (o_pick_f (eV (z1 (z2 ds))) eZ) (m1 ds (r_off (wN ds) (r_off (wN (z1 ds)) (r_off (wN (z2 ds)) (rO (o_pick_t (eV (z1 (z2 ds))) ev_c) (r_nil (k_cond_t eZ (k_seq (k_reg (rO (o_mov ev_c) (r_nil (k_ret ?_)))))))))))))
   exact ⟨_, ans_tmp ds, _, rfl, .inr ⟨rfl, fun hv => by obtain ⟨h1_, h2_, h3_⟩ := hv; first | omega | exact absurd (htr.2 h3_) (by assumption)⟩, by omega, kR⟩
 refine r_op (dec_f (o_gtr eZ ev_c) hs2) (want_on (z2 ds)) (rO (o_pick_f (eV (z1 (z2 ds))) eZ) (m1 ds (r_op (o_mov (eV (z2 (z8 get_same)))) (want_on ds) (r_call (w_callF (evs_cons eZ (evs_cons ev_c evs_nil))) (want_on (z1 ds)) (WF.mono (trim_ok s h hl) ?_)))))
 rintro _ t3 n4 ⟨rfl, hnt, hkt⟩
 by_cases hs5 : ((trimN s [48, 49, 120, 122]) = [])
 · refine r_op (ndec_f (o_str_neq eZ ev_c) hs5) (want_on (z2 ds)) (rO (o_pick_f (eV (z1 (z2 ds))) eZ) (r_nil (k_cond_f eZ (k_skip (k_seq (k_reg (rO (o_mov ev_c) (r_nil (k_ret ?_)))))))))
   exact ⟨_, ans_tmp ds, _, rfl, .inl ⟨rfl, by omega, by omega, htr.1 (by assumption)⟩, by omega, Keep.trans kR hkt (by omega) (fun d _ h => h)⟩
 refine r_op (ndec_t (o_str_neq eZ ev_c) hs5) (want_on (z2 ds)) (rO (o_pick_f (eV (z1 (z2 ds))) eZ) (r_nil (k_cond_t eZ (k_seq (k_reg (rO (o_mov ev_c) (r_nil (k_ret ?_))))))))
 exact ⟨_, ans_tmp ds, _, rfl, .inr ⟨rfl, fun hv => by obtain ⟨h1_, h2_, h3_⟩ := hv; first | omega | exact absurd (htr.2 h3_) (by assumption)⟩, by omega, Keep.trans kR hkt (by omega) (fun d _ h => h)⟩
end Go.Proofs.YtpjohgnhmjceiaaGreatDoor.WX

set_option linter.all false
set_option linter.unusedVariables false
set_option linter.unusedSectionVars false
set_option maxRecDepth 100000
open Go Go.Proofs.YtpjohgnhmjceiaaGreatDoor.AX Go.Proofs
namespace Go.Proofs.YtpjohgnhmjceiaaGreatDoor.WX
variable [Env]
theorem RowI.cell {t : TB} {bd : Nat} {v : AV} {l : List Int} (h : RowI t bd v l) : isCell v = true := by
 rcases h with ⟨rfl, -⟩ | ⟨d, o, c, ex, wr, r, rfl, -⟩ <;> rfl
/-- A node without what its kind uses. -/
def Bare (x : Nd) (op : Int) (vl : List Nat) (hi lo tm : Int) : Prop :=
 (op = if x.kind = 3 then 0 else x.op) ∧ (vl = if x.kind = 1 then [] else x.value) ∧ ((x.kind = 3 ∧ x.op = 4 ∧ hi = 0 ∧ lo = 0) ∨ (¬ (x.kind = 3 ∧ x.op = 4) ∧ hi = x.hi ∧ lo = x.lo)) ∧ (tm = if x.kind = 8 then 0 else x.time)
theorem Bare.zero {x : Nd} {op : Int} {vl : List Nat} {hi lo tm : Int} (h : Bare x op vl hi lo tm) : zeroP x ↔ op = 0 ∧ vl = [] ∧ hi = 0 ∧ lo = 0 ∧ tm = 0 := by
 obtain ⟨rfl, rfl, h3, rfl⟩ := h
 unfold zeroP
 constructor
 · rintro ⟨h1, h2, h4, h5⟩
   refine ⟨?_, ?_, ?_, ?_, ?_⟩
   · split <;> omega
   · split
     · rfl
     · rcases h2 with h2 | h2
       · omega
       · exact h2
   · omega
   · omega
   · split <;> omega
 · rintro ⟨h1, h2, h4, h5, h6⟩
   refine ⟨?_, ?_, ?_, ?_⟩
   · split at h1 <;> omega
   · split at h2
     · exact .inl (by omega)
     · exact .inr h2
   · omega
   · split at h6 <;> omega
section
variable {w : List Int} {x : Nd}
end

end Go.Proofs.YtpjohgnhmjceiaaGreatDoor.WX

set_option linter.all false
set_option linter.unusedVariables false
set_option linter.unusedSectionVars false
set_option maxRecDepth 100000
open Go Go.Proofs.YtpjohgnhmjceiaaGreatDoor.AX Go.Proofs
namespace Go.Proofs.YtpjohgnhmjceiaaGreatDoor.WX
variable [Env]
theorem oper_len {x : Nd} {w : List Int} (h : operW x w = x.wide) (hx : 1 ≤ x.wide ∧ x.wide ≤ 256) : w.length ≤ 256 := by
 rcases Nat.lt_or_ge 256 w.length with hl | hl
 · exfalso
   have h2 : ∀ a : Int, w ≠ [a] := fun a e => by rw [e] at hl; simp at hl
   have h3 : ∀ a b : Int, w ≠ [a, b] := fun a b e => by rw [e] at hl; simp at hl
   have h4 : ∀ a b c : Int, w ≠ [a, b, c] := fun a b c e => by rw [e] at hl; simp at hl
   have hw : operW x w = -1 := by
     rcases w with _ | ⟨a, _ | ⟨b, _ | ⟨c, _ | ⟨d, w⟩⟩⟩⟩
     · simp at hl
     · simp at hl
     · simp at hl
     · simp at hl
     · unfold operW
       repeat' (first | rfl | (split; rfl) | (rw [if_neg (by omega)]) | split)
   omega
 · exact hl
theorem ndOK.len {ns : List Nd} {x : Nd} (h : ndOK (x.ins.map (wdN ns)) x) (hx : 1 ≤ x.wide ∧ x.wide ≤ 256) : x.ins.length ≤ 256 ∧ (∀ c ∈ x.value, c < 256) ∧ x.value.length ≤ 256 := by
 obtain ⟨⟨-, hz, -⟩, hn⟩ := h
 have e : (x.ins.map (wdN ns)).length = x.ins.length := by simp
 refine ⟨?_, ?_, ?_⟩
 · rw [← e]
   rcases hn with h | h | h | h | h | h | h | h
   · rw [h.2.1]; simp
   · rw [h.2]; simp
   · exact oper_len h.2 hx
   · obtain ⟨-, a, h⟩ := h; rw [h]; simp
   · obtain ⟨-, ⟨a, h⟩, -⟩ := h; rw [h]; simp
   · obtain ⟨-, a, h⟩ := h; rw [h]; simp
   · obtain ⟨-, a, h⟩ := h; rw [h]; simp
   · rw [h.2.1]; simp
 · rcases hz with hk | hv
   · rcases hn with h | h | h | h | h | h | h | h
     · intro c hc; have := h.2.2.1.2.2 c hc; unfold bitC at this; omega
     all_goals (have := h.1; omega)
   · rw [hv]; simp
 · rcases hz with hk | hv
   · rcases hn with h | h | h | h | h | h | h | h
     · exact h.2.2.1.2.1
     all_goals (have := h.1; omega)
   · rw [hv]; simp
theorem RowN.cell {t : TB} {bd : Nat} {v : AV} {l : List Nd} (h : RowN t bd v l) : isCell v = true := by
 rcases h with ⟨rfl, -⟩ | ⟨d, o, c, ex, wr, r, ivs, rfl, -⟩ <;> rfl
end Go.Proofs.YtpjohgnhmjceiaaGreatDoor.WX

set_option linter.all false
set_option linter.unusedVariables false
set_option linter.unusedSectionVars false
set_option maxRecDepth 100000
open Go Go.Proofs.YtpjohgnhmjceiaaGreatDoor.AX Go.Proofs
namespace Go.Proofs.YtpjohgnhmjceiaaGreatDoor.WX
variable [Env]
theorem o_iaddrE {T : TA} {t : TB} {nx : Nat} {sz : Nat} {x y : Opd} {w : AV} {b o n c i : Nat} {ex : Bool} {k : IntKind} (hx : x.ev T = some w) (hw : w = .slice b o n c sz ex) (hy : y.ev T = some (.int k (i : Int))) (hi : i < n) : (IOp.iaddr sz x y).run T t nx = .ok (.ptr b (o + i * sz)) t nx := o_iaddr (hx.trans (by rw [hw])) hy hi
theorem o_cslice_hi {T : TA} {t : TB} {nx : Nat} {sz : Nat} {x y : Opd} {w : AV} {b o n c m : Nat} {ex : Bool} {k : IntKind} (hx : x.ev T = some w) (hw : w = .slice b o n c sz ex) (hy : y.ev T = some (.int k (m : Int))) (hm : m ≤ c) : (IOp.cslice sz x none (some y) none).run T t nx = .ok (.slice b o m c sz ex) t nx := by
 subst hw
 have e : y.ev T = some (.int k (.ofNat m)) := hy
 have hbd : bnd y T c = some m := by
   unfold bnd
   rw [e]
   dsimp only [idx]
   rw [show Nat.ble m c = true from by simp; omega]
 have hbs : bnds T n c none (some y) none = some (0, m, c) := by
   unfold bnds
   dsimp only
   rw [hbd]
 simp only [IOp.run, hx, hbs]
 rw [show Nat.beq sz sz = true from by simp]
 simp only [fNat_eq]
 show V1.ok (AV.slice b (Nat.add o (Nat.mul 0 sz)) (Nat.sub m 0) (Nat.sub c 0) sz ex) t nx = _
 rw [show Nat.mul 0 sz = 0 from Nat.zero_mul sz]
 rfl
theorem nodup_len : ∀ (n : Nat) (l : List Nat), l.Nodup → (∀ a ∈ l, a < n) → l.length ≤ n
 | 0, [], _, _ => Nat.le_refl _
 | 0, a :: l, _, h => by have := h a (by simp); omega
 | n + 1, l, hn, h => by
   by_cases hm : n ∈ l
   · have h1 := nodup_len n (l.erase n) (hn.erase n) (fun a ha => by
       have h2 := h a (List.mem_of_mem_erase ha)
       have h3 : a ≠ n := by intro e; subst e; exact hn.not_mem_erase ha
       omega)
     rw [List.length_erase_of_mem hm] at h1
     omega
   · have h1 := nodup_len n l hn (fun a ha => by
       have h2 := h a ha
       have h3 : a ≠ n := by intro e; subst e; exact hm ha
       omega)
     omega
/-- How many of a list's numbers are not done. -/
def left (E : Nat → List Nat) (D : List Nat) (i : Nat) : Nat := (E i).countP (fun k => decide (k ∉ D))
theorem left_cons {E : Nat → List Nat} {D : List Nat} {d : Nat} (hd : d ∉ D) (i : Nat) : left E D i = left E (d :: D) i + (E i).count d := by
 unfold left
 induction E i with
 | nil => rfl
 | cons k l ih =>
   rw [List.countP_cons, List.countP_cons, List.count_cons, ih]
   by_cases e : k = d
   · subst e; simp [hd]; omega
   · by_cases e2 : k ∈ D
     · simp [e2, e]
     · simp [e2, e]; omega
/-- How the walk stands: done, ready, fans, what is left of the fan at hand. -/
structure Lv (E : Nat → List Nat) (n : Nat) (F : Nat → List Nat) (D S : List Nat) (Wt : List Int) (rest : List Nat) : Prop where
 dup : (S ++ D).Nodup
 lt : ∀ a ∈ S ++ D, a < n
 wl : Wt.length = n
 w : ∀ i, i < n → Wt[i]? = some ((left E D i + rest.count i : Nat) : Int)
 zero : ∀ i, i < n → (i ∈ S ++ D ↔ left E D i + rest.count i = 0)
theorem Lv.pop {E : Nat → List Nat} {n : Nat} {F : Nat → List Nat} {D S : List Nat} {Wt : List Int} {d : Nat} (h : Lv E n F D (S ++ [d]) Wt []) (hF : ∀ i, i < n → (F d).count i = (E i).count d) : Lv E n F (d :: D) S Wt (F d) := by
 have e : S ++ [d] ++ D = S ++ d :: D := by simp
 have hd : d ∉ D := by
   have := h.dup
   rw [e, List.nodup_append] at this
   exact (List.nodup_cons.1 this.2.1).1
 refine ⟨by rw [← e]; exact h.dup, by rw [← e]; exact h.lt, h.wl, fun i hi => ?_, fun i hi => ?_⟩
 · rw [h.w i hi, left_cons hd, hF i hi]; simp
 · rw [← e, h.zero i hi, left_cons hd, hF i hi]; simp
theorem Lv.few {E : Nat → List Nat} {n : Nat} {F : Nat → List Nat} {D S : List Nat} {Wt : List Int} {rest : List Nat} (h : Lv E n F D S Wt rest) : S.length + D.length ≤ n := by
 have := nodup_len n _ h.dup h.lt
 simpa using this
def nints (l : List Nat) : List Int := l.map (fun (k : Nat) => (k : Int))
theorem nints_len (l : List Nat) : (nints l).length = l.length := by simp [nints]
def fanV (l : List Nat) (d : Nat) : AV := match l with | [] => .nslice | _ => .slice d 0 l.length l.length 1 false
def fansR (n : Nat) (F : Nat → List Nat) (dF : Nat → Nat) : List AV := (List.range n).map (fun k => fanV (F k) (dF k))
def fset {α : Type} (f : Nat → α) (k : Nat) (v : α) : Nat → α := fun i => if i = k then v else f i
/-- The fans' own blocks: all different, from lo on, below hi, and not x. -/
structure Fans (t : TB) (lo hi x b : Nat) (n : Nat) (F : Nat → List Nat) (dF : Nat → Nat) : Prop where
 row : hv t b = some (.row (fansR n F dF) true)
 at_ : ∀ k, k < n → F k ≠ [] → hv t (dF k) = some (.row (ints (nints (F k))) true) ∧ lo ≤ dF k ∧ dF k < hi ∧ dF k ≠ x
 ne : ∀ j k, j < n → k < n → F j ≠ [] → F k ≠ [] → j ≠ k → dF j ≠ dF k
theorem Fans.keep {t t' : TB} {lo hi hi' x x' b n : Nat} {F : Nat → List Nat} {dF : Nat → Nat} (h : Fans t lo hi x b n F dF) (hb : b < lo) (hh : hi ≤ hi') (k : ∀ d, d < hi → (d = b ∨ (lo ≤ d ∧ d ≠ x)) → hv t' d = hv t d) (hx : x' = x ∨ hi ≤ x') (hlo : lo ≤ hi) : Fans t' lo hi' x' b n F dF := by
 refine ⟨(k b (by omega) (.inl rfl)).trans h.row, fun j hj hn => ?_, h.ne⟩
 obtain ⟨h1, h2, h3, h4⟩ := h.at_ j hj hn
 exact ⟨(k _ h3 (.inr ⟨h2, h4⟩)).trans h1, h2, by omega, by omega⟩
/-- Fan k grows. -/
theorem Fans.grow {t t' : TB} {lo hi x b n k i d : Nat} {F : Nat → List Nat} {dF : Nat → Nat} (h : Fans t lo hi x b n F dF) (hk : k < n) (hb : b < lo) (hlo : lo ≤ hi) (hd : hi ≤ d) (hx : x < hi)
   (hrow : hv t' b = some (.row (fansR n (fset F k (F k ++ [i])) (fset dF k d)) true)) (hnew : hv t' d = some (.row (ints (nints (F k ++ [i]))) true)) (hkeep : ∀ e, e < hi → e ≠ b → lo ≤ e → (F k ≠ [] → e ≠ dF k) → e ≠ x → hv t' e = hv t e) :
   Fans t' lo (d + 1) x b n (fset F k (F k ++ [i])) (fset dF k d) := by
 refine ⟨hrow, fun j hj hn => ?_, fun j l hj hl hjn hln hjl => ?_⟩
 · by_cases e : j = k
   · subst e
     simp only [fset, if_pos]
     exact ⟨hnew, by omega, by omega, by omega⟩
   · simp only [fset, if_neg e] at hn ⊢
     obtain ⟨h1, h2, h3, h4⟩ := h.at_ j hj hn
     exact ⟨(hkeep _ h3 (by omega) h2 (fun hkn => h.ne j k hj hk hn hkn e) h4).trans h1, h2, by omega, h4⟩
 · by_cases e : j = k
   · subst e
     have e2 : l ≠ j := fun e' => hjl e'.symm
     simp only [fset, if_neg e2, if_pos] at hln ⊢
     have := (h.at_ l hl hln).2.2.1
     omega
   · by_cases e2 : l = k
     · subst e2
       simp only [fset, if_neg e, if_pos] at hjn ⊢
       have := (h.at_ j hj hjn).2.2.1
       omega
     · simp only [fset, if_neg e, if_neg e2] at hjn hln ⊢
       exact h.ne j l hj hl hjn hln hjl
/-- The ready list. -/
def Rdy (t : TB) (d : Nat) (v : AV) (S : List Nat) : Prop :=
 (v = .nslice ∧ S = []) ∨ ∃ (c : Nat) (r : List AV), v = .slice d 0 S.length c 1 false ∧ hv t d = some (.row r true) ∧ S.length ≤ c ∧ c ≤ r.length ∧ r.take S.length = ints (nints S)
theorem nints_snoc (S : List Nat) (i : Nat) : ints (nints (S ++ [i])) = ints (nints S) ++ [.int .i64 (i : Int)] := by simp [nints, ints, i64]
theorem Rdy.nil {t : TB} {d i : Nat} (h : hv t d = some (.row [.int .i64 (i : Int)] true)) : Rdy t d (.slice d 0 1 1 1 false) ([] ++ [i]) :=
 .inr ⟨1, _, rfl, h, by simp, by simp, rfl⟩
theorem Rdy.last {t : TB} {d : Nat} {v : AV} {S : List Nat} (h : Rdy t d v S) (hn : 0 < S.length) : ∃ (S' : List Nat) (a c : Nat) (r : List AV), S = S' ++ [a] ∧ v = .slice d 0 S.length c 1 false ∧ hv t d = some (.row r true) ∧ S.length ≤ c ∧ c ≤ r.length ∧ r[S'.length]? = some (.int .i64 (a : Int)) ∧ Rdy t d (.slice d 0 S'.length c 1 false) S' := by
 rcases h with ⟨-, rfl⟩ | ⟨c, r, h1, h2, h3, h4, h5⟩
 · simp at hn
 · have hne : S ≠ [] := by intro e; subst e; simp at hn
   have e := List.dropLast_concat_getLast hne
   have hl : S.length = S.dropLast.length + 1 := by rw [List.length_dropLast]; omega
   have h6 : r.take S.length = ints (nints (S.dropLast ++ [S.getLast hne])) := by rw [e]; exact h5
   rw [nints_snoc, hl] at h6
   refine ⟨S.dropLast, S.getLast hne, c, r, e.symm, h1, h2, h3, h4, ?_, .inr ⟨c, r, rfl, h2, by omega, h4, ?_⟩⟩
   · have h7 := congrArg (fun m => m[S.dropLast.length]?) h6
     simp only [List.getElem?_take] at h7
     rw [if_pos (by omega)] at h7
     rw [h7, List.getElem?_append_right (by rw [ints_len, nints_len]; exact Nat.le_refl _), ints_len, nints_len]
     simp
   · have h7 := congrArg (List.take S.dropLast.length) h6
     rw [List.take_take, Nat.min_eq_left (by omega), List.take_append_of_le_length (by rw [ints_len, nints_len]; exact Nat.le_refl _), List.take_of_length_le (l := ints _) (by rw [ints_len, nints_len]; exact Nat.le_refl _)] at h7
     exact h7
theorem Rdy.keep {t t' : TB} {d : Nat} {v : AV} {S : List Nat} (h : Rdy t d v S) (k : hv t' d = hv t d) : Rdy t' d v S := by
 rcases h with h | ⟨c, r, h1, h2, h3⟩
 · exact .inl h
 · exact .inr ⟨c, r, h1, k.trans h2, h3⟩
def eOf (ns : List Nd) (i : Nat) : List Nat := match ns[i]? with | some x => (hangs x).map Int.toNat | none => []
structure P1 (ns : List Nd) (i m : Nat) (F : Nat → List Nat) : Prop where
 cnt : ∀ k, k < ns.length → ∀ j, (F k).count j = if j < i then (eOf ns j).count k else if j = i then ((eOf ns i).take m).count k else 0
 len : ∀ k, k < ns.length → (F k).length ≤ 3 * i + m
 lt : ∀ k, k < ns.length → ∀ a ∈ F k, a < ns.length
theorem P1.zero (ns : List Nd) : P1 ns 0 0 (fun _ => []) := ⟨fun k hk j => by simp, fun k hk => by simp, fun k hk a ha => by cases ha⟩
theorem P1.next {ns : List Nd} {i m : Nat} {F : Nat → List Nat} (h : P1 ns i m F) (hm : (eOf ns i).length ≤ m) (h3 : m ≤ 3) : P1 ns (i + 1) 0 F := by
 refine ⟨fun k hk j => ?_, fun k hk => by have := h.len k hk; omega, h.lt⟩
 rw [h.cnt k hk j]
 by_cases e : j < i
 · rw [if_pos e, if_pos (by omega)]
 · rw [if_neg e]
   by_cases e2 : j = i
   · subst e2; rw [if_pos rfl, if_pos (by omega), List.take_of_length_le hm]
   · rw [if_neg e2, if_neg (by omega)]
     split <;> simp
theorem P1.step {ns : List Nd} {i m k0 : Nat} {F : Nat → List Nat} (h : P1 ns i m F) (hi : i < ns.length) (hk : (eOf ns i)[m]? = some k0) (h0 : k0 < ns.length) : P1 ns i (m + 1) (fset F k0 (F k0 ++ [i])) := by
 have ht : (eOf ns i).take (m + 1) = (eOf ns i).take m ++ [k0] := by rw [List.take_succ, hk]; rfl
 refine ⟨fun k hkn j => ?_, fun k hkn => ?_, fun k hkn a ha => ?_⟩
 · have hc := h.cnt k hkn j
   by_cases e : k = k0
   · subst e
     simp only [fset, if_pos]
     rw [List.count_append, hc, ht, List.count_append]
     by_cases e1 : j < i
     · rw [if_pos e1, if_pos e1, List.count_eq_zero.2 (show j ∉ [i] by simp; omega)]; rfl
     · rw [if_neg e1, if_neg e1]
       by_cases e2 : j = i
       · subst e2; simp
       · rw [if_neg e2, if_neg e2, List.count_eq_zero.2 (show j ∉ [i] by simp; omega)]
   · simp only [fset, if_neg e]
     rw [hc, ht, List.count_append, List.count_eq_zero.2 (show k ∉ [k0] by simp [e])]
     simp
 · have := h.len k hkn
   by_cases e : k = k0
   · subst e; simp only [fset, if_pos]; rw [List.length_append]; simp; omega
   · simp only [fset, if_neg e]; omega
 · by_cases e : k = k0
   · subst e
     simp only [fset, if_pos] at ha
     rcases List.mem_append.1 ha with ha | ha
     · exact h.lt k hkn a ha
     · simp at ha; omega
   · simp only [fset, if_neg e] at ha
     exact h.lt k hkn a ha
/-- Waits and ready nodes behind the first i. -/
structure Q1 (ns : List Nd) (i : Nat) (Wt : List Int) (S : List Nat) : Prop where
 wl : Wt.length = ns.length
 w : ∀ j, j < ns.length → Wt[j]? = some (if j < i then ((eOf ns j).length : Int) else 0)
 dup : S.Nodup
 rdy : ∀ a, a ∈ S ↔ a < i ∧ eOf ns a = []
theorem Q1.zero (ns : List Nd) : Q1 ns 0 (List.replicate ns.length 0) [] := ⟨by simp, fun j hj => by simp [hj], by simp, fun a => by simp⟩
theorem Q1.next {ns : List Nd} {i : Nat} {Wt : List Int} {S : List Nat} (h : Q1 ns i Wt S) (hi : i < ns.length) :
   (eOf ns i = [] → Q1 ns (i + 1) (Wt.set i ((eOf ns i).length : Int)) (S ++ [i])) ∧ (eOf ns i ≠ [] → Q1 ns (i + 1) (Wt.set i ((eOf ns i).length : Int)) S) := by
 have hw : ∀ j, j < ns.length → (Wt.set i ((eOf ns i).length : Int))[j]? = some (if j < i + 1 then ((eOf ns j).length : Int) else 0) := by
   intro j hj
   rw [List.getElem?_set]
   by_cases e : i = j
   · subst e; rw [if_pos rfl, if_pos (by rw [h.wl]; exact hi), if_pos (by omega)]
   · rw [if_neg e, h.w j hj]
     by_cases e2 : j < i
     · rw [if_pos e2, if_pos (by omega)]
     · rw [if_neg e2, if_neg (by omega)]
 refine ⟨fun h0 => ⟨by rw [List.length_set]; exact h.wl, hw, ?_, fun a => ?_⟩, fun h0 => ⟨by rw [List.length_set]; exact h.wl, hw, h.dup, fun a => ?_⟩⟩
 · rw [List.nodup_append]
   refine ⟨h.dup, by simp, fun a ha b hb => ?_⟩
   simp at hb; subst hb
   intro e; subst e
   have := (h.rdy a).1 ha
   omega
 · rw [List.mem_append, h.rdy a, List.mem_singleton]
   constructor
   · rintro (h1 | rfl)
     · exact ⟨by omega, h1.2⟩
     · exact ⟨by omega, h0⟩
   · rintro ⟨h1, h2⟩
     by_cases e : a = i
     · exact .inr e
     · exact .inl ⟨by omega, h2⟩
 · rw [h.rdy a]
   refine ⟨fun h1 => ⟨by omega, h1.2⟩, fun h1 => ⟨?_, h1.2⟩⟩
   have : a ≠ i := by intro e; subst e; exact h0 h1.2
   omega
theorem Q1.few {ns : List Nd} {i : Nat} {Wt : List Int} {S : List Nat} (h : Q1 ns i Wt S) : S.length ≤ i := nodup_len i S h.dup (fun a ha => ((h.rdy a).1 ha).1)
end Go.Proofs.YtpjohgnhmjceiaaGreatDoor.WX

set_option linter.all false
set_option linter.unusedVariables false
set_option linter.unusedSectionVars false
set_option maxRecDepth 100000
open Go Go.Proofs.YtpjohgnhmjceiaaGreatDoor.AX Go.Proofs
namespace Go.Proofs.YtpjohgnhmjceiaaGreatDoor.WX
variable [Env]
theorem o_subN {T : TA} {t : TB} {nx : Nat} {x y : Opd} {a b : Nat} (hx : x.ev T = some (.int .i64 (a : Int))) (hy : y.ev T = some (.int .i64 (b : Int))) (h : b ≤ a) (h2 : a < 9223372036854775808) : (IOp.bin .sub x y).run T t nx = .ok (.int .i64 ((a - b : Nat) : Int)) t nx := by
 rw [o_sub hx hy (by omega) (by omega)]; congr 2; omega
theorem o_mulN {T : TA} {t : TB} {nx : Nat} {x y : Opd} {a b : Nat} (hx : x.ev T = some (.int .i64 (a : Int))) (hy : y.ev T = some (.int .i64 (b : Int))) (h : a * b < 9223372036854775808) : (IOp.bin .mul x y).run T t nx = .ok (.int .i64 ((a * b : Nat) : Int)) t nx := by
 have e : (a : Int) * (b : Int) = ((a * b : Nat) : Int) := by simp
 rw [o_mul hx hy (by rw [e]; omega) (by rw [e]; omega), e]
def g (l : List Int) (i : Nat) : Int := l.getD i 0
theorem g_set (l : List Int) (i j : Nat) (v : Int) : g (l.set i v) j = if i = j ∧ i < l.length then v else g l j := by
 unfold g
 rw [List.getD_eq_getElem?_getD, List.getD_eq_getElem?_getD, List.getElem?_set]
 by_cases h : i = j
 · subst h
   by_cases h2 : i < l.length
   · simp [h2]
   · simp [h2]
 · simp [h]
def sw (l : List Int) (i j : Nat) : List Int := (l.set i (g l j)).set j (g l i)
theorem g_sw {l : List Int} {i j : Nat} (hi : i < l.length) (hj : j < l.length) (m : Nat) : g (sw l i j) m = if m = j then g l i else if m = i then g l j else g l m := by
 unfold sw
 rw [g_set, g_set]
 by_cases h1 : m = j
 · subst h1; simp [hj]
 · rw [if_neg h1, if_neg (fun e => h1 e.1.symm)]
   by_cases h2 : m = i
   · subst h2; simp [hi]
   · rw [if_neg h2, if_neg (fun e => h2 e.1.symm)]
/-- A list whose part from a up to b was turned about. -/
structure SegP (a b : Nat) (l l' : List Int) : Prop where
 len : l'.length = l.length
 out : ∀ i, i < a ∨ b ≤ i → g l' i = g l i
 from_ : ∀ i, a ≤ i → i < b → ∃ j, a ≤ j ∧ j < b ∧ g l' i = g l j
 perm : l'.Perm l
theorem SegP.refl (a b : Nat) (l : List Int) : SegP a b l l := ⟨rfl, fun _ _ => rfl, fun i h1 h2 => ⟨i, h1, h2, rfl⟩, List.Perm.refl _⟩
theorem SegP.trans {a b : Nat} {l l' l'' : List Int} (h : SegP a b l l') (k : SegP a b l' l'') : SegP a b l l'' :=
 ⟨k.len.trans h.len, fun i hi => (k.out i hi).trans (h.out i hi), fun i h1 h2 => by
   obtain ⟨j, h3, h4, h5⟩ := k.from_ i h1 h2
   obtain ⟨m, h6, h7, h8⟩ := h.from_ j h3 h4
   exact ⟨m, h6, h7, h5.trans h8⟩, k.perm.trans h.perm⟩
theorem SegP.wide {a b a' b' : Nat} {l l' : List Int} (h : SegP a b l l') (ha : a' ≤ a) (hb : b ≤ b') : SegP a' b' l l' :=
 ⟨h.len, fun i hi => h.out i (by omega), fun i h1 h2 => by
   by_cases hc : a ≤ i ∧ i < b
   · obtain ⟨j, h3, h4, h5⟩ := h.from_ i hc.1 hc.2
     exact ⟨j, by omega, by omega, h5⟩
   · exact ⟨i, h1, h2, h.out i (by omega)⟩, h.perm⟩
section
variable (k : Int → Int)
def Srt (l : List Int) (a b : Nat) : Prop := ∀ i j, a ≤ i → i < j → j < b → k (g l i) ≤ k (g l j)
end
variable {k : Int → Int}
theorem Srt.sub {l : List Int} {a b a' b' : Nat} (h : Srt k l a b) (h1 : a ≤ a') (h2 : b' ≤ b) : Srt k l a' b' := fun i j h3 h4 h5 => h i j (by omega) h4 (by omega)
theorem Srt.small {l : List Int} {a b : Nat} (h : b ≤ a + 1) : Srt k l a b := fun i j h3 h4 h5 => by omega
theorem Srt.out {l l' : List Int} {a b x y : Nat} (h : Srt k l x y) (hs : SegP a b l l') (hd : y ≤ a ∨ b ≤ x) : Srt k l' x y := fun i j h3 h4 h5 => by
 rw [hs.out i (by omega), hs.out j (by omega)]; exact h i j h3 h4 h5
/-- Sorted up to i, but that what stands at j may be less than what stands ahead of it. -/
def InsO (k : Int → Int) (l : List Int) (a j i : Nat) : Prop := ∀ p q, a ≤ p → p < q → q ≤ i → q ≠ j → k (g l p) ≤ k (g l q)
theorem InsO.step {l : List Int} {a j i : Nat} (h : InsO k l a j i) (h1 : a < j) (h2 : j ≤ i) (h3 : i < l.length) (hk : k (g l j) < k (g l (j - 1))) : InsO k (sw l j (j - 1)) a (j - 1) i := by
 intro p q hp hpq hq hne
 rw [g_sw (by omega) (by omega), g_sw (by omega) (by omega)]
 by_cases e1 : q = j
 · subst e1
   rw [if_neg (show ¬ q = q - 1 by omega), if_pos rfl]
   by_cases e2 : p = q - 1
   · rw [if_pos e2]; omega
   · rw [if_neg e2, if_neg (by omega)]
     exact h p (q - 1) hp (by omega) (by omega) (by omega)
 · rw [if_neg hne, if_neg e1]
   by_cases e2 : p = j - 1
   · rw [if_pos e2]; exact h j q (by omega) (by omega) hq (by omega)
   · rw [if_neg e2]
     by_cases e3 : p = j
     · rw [if_pos e3]; exact h (j - 1) q (by omega) (by omega) hq (by omega)
     · rw [if_neg e3]; exact h p q hp hpq hq e1
theorem InsO.done {l : List Int} {a j i : Nat} (h : InsO k l a j i) (hj : j ≤ a ∨ ¬ k (g l j) < k (g l (j - 1))) : Srt k l a (i + 1) := by
 intro p q hp hpq hq
 by_cases e : q = j
 · subst e
   rcases hj with hj | hj
   · omega
   · by_cases e2 : p = q - 1
     · rw [e2]; omega
     · have := h p (q - 1) hp (by omega) (by omega) (by omega); omega
 · exact h p q hp hpq (by omega) e
def swR (l : List Int) (p q c i : Nat) : Int := if p ≤ i ∧ i < p + c then g l (i - p + q) else if q ≤ i ∧ i < q + c then g l (i - q + p) else g l i
def rotA (l : List Int) (x m y i : Nat) : Int := if x ≤ i ∧ i < x + (y - m) then g l (i + (m - x)) else if x + (y - m) ≤ i ∧ i < y then g l (i - (y - m)) else g l i
def IsSw (l l' : List Int) (p q c : Nat) : Prop := ∀ i, g l' i = swR l p q c i
def IsRot (l l' : List Int) (x m y : Nat) : Prop := ∀ i, g l' i = rotA l x m y i
theorem IsSw.zero (l : List Int) (p q : Nat) : IsSw l l p q 0 := fun i => by unfold swR; rw [if_neg (by omega), if_neg (by omega)]
theorem IsSw.step {l l' : List Int} {p q c : Nat} (h : IsSw l l' p q c) (hp : p + c < l'.length) (hq : q + c < l'.length) (hd : p + c < q) : IsSw l (sw l' (p + c) (q + c)) p q (c + 1) := by
 intro i
 rw [g_sw hp hq, h, h, h]
 unfold swR
 repeat' split
 all_goals first | rfl | (exfalso; omega) | (congr 1; omega)
theorem IsRot.none {l : List Int} {x m y : Nat} (h1 : x ≤ m) (h2 : m ≤ y) (h : m = x ∨ m = y) : IsRot l l x m y := fun i => by
 unfold rotA
 repeat' split
 all_goals first | rfl | (exfalso; omega) | (congr 1; omega)
theorem IsRot.less {l l2 l' : List Int} {m i j : Nat} (h : IsSw l l2 (m - i) m j) (hr : IsRot l2 l' (m - (i - j)) m (m + j)) (hi : i ≤ m) (hij : j < i) : IsRot l l' (m - i) m (m + j) := by
 intro q
 rw [hr q]
 unfold rotA
 rw [h, h, h]
 unfold swR
 repeat' split
 all_goals first | rfl | (exfalso; omega) | (congr 1; omega)
theorem IsRot.more {l l2 l' : List Int} {m i j : Nat} (h : IsSw l l2 (m - i) (m + j - i) i) (hr : IsRot l2 l' (m - i) m (m + (j - i))) (hi : i ≤ m) (hij : i < j) : IsRot l l' (m - i) m (m + j) := by
 intro q
 rw [hr q]
 unfold rotA
 rw [h, h, h]
 unfold swR
 repeat' split
 all_goals first | rfl | (exfalso; omega) | (congr 1; omega)
/-- Sorted blocks of a size: from the front up to a place; from a place on. -/
inductive Pre (k : Int → Int) (l : List Int) (bs : Nat) : Nat → Prop where
 | zero : Pre k l bs 0
 | step {a : Nat} : Pre k l bs a → Srt k l a (a + bs) → Pre k l bs (a + bs)
inductive Suf (k : Int → Int) (l : List Int) (bs n : Nat) : Nat → Prop where
 | last {a : Nat} : n ≤ a + bs → Srt k l a n → Suf k l bs n a
 | more {a : Nat} : Srt k l a (a + bs) → Suf k l bs n (a + bs) → Suf k l bs n a
theorem Pre.keep {l l' : List Int} {bs x y a : Nat} (h : Pre k l bs a) (hs : SegP x y l l') (ha : a ≤ x) : Pre k l' bs a := by
 induction h with
 | zero => exact .zero
 | step h1 h2 ih => exact .step (ih (by omega)) (h2.out hs (.inl ha))
theorem Suf.keep {l l' : List Int} {bs n x y a : Nat} (h : Suf k l bs n a) (hs : SegP x y l l') (ha : y ≤ a) : Suf k l' bs n a := by
 induction h with
 | last h1 h2 => exact .last h1 (h2.out hs (.inr ha))
 | more h1 h2 ih => exact .more (h1.out hs (.inr ha)) (ih (by omega))
theorem Suf.one {l : List Int} {bs n a : Nat} (h : Suf k l bs n a) (ha : n ≤ a + 2 * bs) : Srt k l a (min (a + bs) n) ∧ Srt k l (a + bs) n := by
 cases h with
 | last h1 h2 => exact ⟨h2.sub (Nat.le_refl _) (by omega), Srt.small (by omega)⟩
 | more h1 h2 =>
   cases h2 with
   | last h3 h4 => exact ⟨h1.sub (Nat.le_refl _) (by omega), h4⟩
   | more h3 h4 => exact ⟨h1.sub (Nat.le_refl _) (by omega), h3.sub (Nat.le_refl _) (by omega)⟩
def isnan_r0 : List Ins := [.o 2 (.mov (.c (.bool false)))]
def isnan_r1 : List Ins := [.mv 3 0,
 .mv 4 0,
 .o 5 (.bin .neq (.t 3) (.t 4)),
 .mv 2 5]
def isnan_c : IC := (.seq (.reg isnan_r0) (.seq (.reg isnan_r1) .ret))
theorem isnan_tab : tb 105 = some (.code 1 6 isnan_c [.tmp 2]) := by kernel_rfl
def compare_r0 : List Ins := [.o 4 (.mov (kI 0))]
def compare_r1 : List Ins := [.mv 7 0,
 .f 8 105 [(.t 7)],
 .mv 5 8]
def compare_r2 : List Ins := [.mv 9 1,
 .f 10 105 [(.t 9)],
 .mv 6 10]
def compare_r3 : List Ins := [.mv 11 5]
def compare_r4 : List Ins := [.mv 12 6]
def compare_r5 : List Ins := [.o 4 (.mov (kI 0))]
def compare_r6 : List Ins := [.o 4 (.mov (kI (-1)))]
def compare_r7 : List Ins := [.mv 13 6]
def compare_r8 : List Ins := [.o 4 (.mov (kI 1))]
def compare_r9 : List Ins := [.mv 14 0,
 .mv 15 1,
 .o 16 (.bin .lss (.t 14) (.t 15))]
def compare_r10 : List Ins := [.o 4 (.mov (kI (-1)))]
def compare_r11 : List Ins := [.mv 17 0,
 .mv 18 1,
 .o 19 (.bin .gtr (.t 17) (.t 18))]
def compare_r12 : List Ins := [.o 4 (.mov (kI 1))]
def compare_r13 : List Ins := [.o 4 (.mov (kI 0))]
def compare_c : IC := (.seq (.reg compare_r0) (.seq (.reg compare_r1) (.seq (.reg compare_r2) (.seq (.seq (.reg compare_r3) (.cond (.t 11) (.seq (.seq (.reg compare_r4) (.cond (.t 12) (.seq (.reg compare_r5) .ret) .skip)) (.seq (.reg compare_r6) .ret)) .skip)) (.seq (.seq (.reg compare_r7) (.cond (.t 13) (.seq (.reg compare_r8) .ret) .skip)) (.seq (.seq (.reg compare_r9) (.cond (.t 16) (.seq (.reg compare_r10) .ret) .skip)) (.seq (.seq (.reg compare_r11) (.cond (.t 19) (.seq (.reg compare_r12) .ret) .skip)) (.seq (.reg compare_r13) .ret))))))))
theorem compare_tab : tb 51 = some (.code 2 20 compare_c [.tmp 4]) := by kernel_rfl
theorem isnan_ok {t : TB} {nx : Nat} (a : Int) : WF tb 105 [.int .i64 a] t nx (fun v t' nx' => v = .bool false ∧ nx ≤ nx' ∧ Keep t t' nx (fun _ => False)) := by
 refine k_fun isnan_tab rfl ?_
 unfold isnan_c
 change WC _ _ (TA.put (some _) TA.e 0) _ _ _
 refine k_seq (k_reg (rO (o_mov ev_c) (r_nil (k_seq (k_reg (m1 (z1 get_same) (m1 (z2 get_same) ?_)))))))
 by_cases hs1 : (a = a)
 · refine rO (ndec_f (o_neq (eV (z1 ds)) eZ) hs1) (m1 ds (r_nil (k_ret ?_)))
   exact ⟨_, ans_tmp ds, rfl, by omega, kR⟩
 refine rO (ndec_t (o_neq (eV (z1 ds)) eZ) hs1) (m1 ds (r_nil (k_ret ?_)))
 exact absurd rfl (by assumption)
theorem compare_ok {t : TB} {nx : Nat} (a b : Int) : WF tb 51 [.int .i64 a, .int .i64 b] t nx (fun v t' nx' => ∃ r : Int, v = .int .i64 r ∧ (a < b ∧ r = -1 ∨ a = b ∧ r = 0 ∨ b < a ∧ r = 1) ∧ nx ≤ nx' ∧ Keep t t' nx (fun _ => False)) := by
 refine k_fun compare_tab rfl ?_
 unfold compare_c
 change WC _ _ (TA.put (some _) (TA.put (some _) TA.e 0) 1) _ _ _
 refine k_seq (k_reg (rO (o_mov ev_c) (r_nil (k_seq (k_reg (m1 (z1 (get_other rfl get_same)) (r_call (w_callF (evs_cons eZ evs_nil)) rfl (WF.mono (isnan_ok a) ?_))))))))
 rintro _ t1 n2 ⟨rfl, hn1, hk1⟩
 refine m1 ds (r_nil (k_seq (k_reg (m1 (z4 get_same) (r_call (w_callF (evs_cons eZ evs_nil)) rfl (WF.mono (isnan_ok b) ?_))))))
 rintro _ t3 n4 ⟨rfl, hn2, hk2⟩
 refine m1 ds (r_nil (k_seq (k_seq (k_reg (m1 (z1 (z2 ds)) (r_nil (k_cond_f eZ (k_skip (k_seq (k_seq (k_reg (m1 (z1 ds) (r_nil (k_cond_f eZ (k_skip (k_seq (k_seq (k_reg (m1 (z1 (z8 (get_other rfl get_same))) (m1 (z2 (z8 get_same)) (rO (o_lss (eV (z1 ds)) eZ) (r_nil ?_))))))))))))))))))))))
 refine k_if eZ (fun hc5 => ?_) (fun hc5 => ?_)
 · refine k_seq (k_reg (rO (o_mov ev_c) (r_nil (k_ret ?_))))
   exact ⟨_, ans_tmp ds, _, rfl, by omega, by omega, Keep.trans (Keep.trans kR hk1 (by omega) (fun d _ h => h)) hk2 (by omega) (fun d _ h => h)⟩
 refine k_skip (k_seq (k_seq (k_reg (m1 (z4 (z8 (get_other rfl get_same))) (m1 (z1 (z4 (z8 get_same))) (rO (o_gtr (eV (z1 ds)) eZ) (r_nil ?_)))))))
 refine k_if eZ (fun hc6 => ?_) (fun hc6 => ?_)
 · refine k_seq (k_reg (rO (o_mov ev_c) (r_nil (k_ret ?_))))
   exact ⟨_, ans_tmp ds, _, rfl, by omega, by omega, Keep.trans (Keep.trans kR hk1 (by omega) (fun d _ h => h)) hk2 (by omega) (fun d _ h => h)⟩
 refine k_skip (k_seq (k_reg (rO (o_mov ev_c) (r_nil (k_ret ?_)))))
 exact ⟨_, ans_tmp ds, _, rfl, by omega, by omega, Keep.trans (Keep.trans kR hk1 (by omega) (fun d _ h => h)) hk2 (by omega) (fun d _ h => h)⟩
end Go.Proofs.YtpjohgnhmjceiaaGreatDoor.WX

set_option linter.all false
set_option linter.unusedVariables false
set_option linter.unusedSectionVars false
set_option maxRecDepth 100000
open Go Go.Proofs.YtpjohgnhmjceiaaGreatDoor.AX Go.Proofs
namespace Go.Proofs.YtpjohgnhmjceiaaGreatDoor.WX
def or__r0 : List Ins := [.o 2 (.mov (kI 0))]
def or__r1 : List Ins := [.o 3 (.mov (kI 0))]
def or__r2 : List Ins := [.mv 6 0,
 .o 7 (.len .slc (.t 6)),
 .o 8 (.mov (kI 0))]
def or__r3 : List Ins := [.o 9 (.bin .lss (.t 8) (.t 7))]
def or__r4 : List Ins := [.o 10 (.iaddr 1 (.t 6) (.t 8)),
 .o 11 (.load (.t 10)),
 .mv 5 11]
def or__r5 : List Ins := [.mv 12 5,
 .mv 13 3,
 .o 14 (.bin .neq (.t 12) (.t 13))]
def or__r6 : List Ins := [.mv 15 5,
 .mv 2 15]
def or__r7 : List Ins := [.o 16 (.bin .add (.t 8) (kI 1)),
 .mv 8 16]
def or__r8 : List Ins := [.mv 17 3,
 .mv 2 17]
def or__c : IC := (.seq (.reg or__r0) (.seq (.reg or__r1) (.seq (.seq (.reg or__r2) (.block 0 (.loop (.seq (.reg or__r3) (.seq (.cond (.t 9) .skip (.exit 0)) (.seq (.block 1 (.seq (.reg or__r4) (.seq (.reg or__r5) (.cond (.t 14) (.seq (.reg or__r6) .ret) .skip)))) (.reg or__r7))))))) (.seq (.reg or__r8) .ret))))
theorem or__tab : tb 50 = some (.code 1 18 or__c [.tmp 2]) := by kernel_rfl
variable [Env]
/-- The first number that is not 0. -/
def orL : List Int → Int
 | [] => 0
 | a :: l => if a = 0 then orL l else a
theorem orL_at {l : List Int} {i : Nat} {k : Int} (h : l[i]? = some k) : orL (l.drop i) = if k = 0 then orL (l.drop (i + 1)) else k := by
 obtain ⟨hi, rfl⟩ := List.getElem?_eq_some_iff.1 h
 rw [List.drop_eq_getElem_cons hi]
 rfl
/-- A change of an input. -/
structure Chg where
 at_ : Int
 net : Int
 val : List Nat
def ccells (c : Chg) : List AV := [.int .i64 c.at_, .int .i64 c.net, .str c.val]
def flatC3 (cs : List Chg) : List AV := cs.flatMap ccells
def RowC (t : TB) (bd : Nat) (v : AV) (cs : List Chg) : Prop :=
 (v = .nslice ∧ cs = []) ∨ ∃ (d o c : Nat) (ex wr : Bool) (r : List AV), v = .slice d o cs.length c 3 ex ∧ d < bd ∧ hv t d = some (.row r wr) ∧ o + cs.length * 3 ≤ r.length ∧ (r.drop o).take (cs.length * 3) = flatC3 cs
theorem RowC.keep {t t' : TB} {bd bd' : Nat} {v : AV} {l : List Chg} (h : RowC t bd v l) (k : Keep t t' bd (fun _ => False)) (hb : bd ≤ bd') : RowC t' bd' v l := by
 rcases h with h | ⟨d, o, c, ex, wr, r, h1, h2, h3, h4⟩
 · exact .inl h
 · exact .inr ⟨d, o, c, ex, wr, r, h1, by omega, (k d h2 id).trans h3, h4⟩
theorem or_ok {t : TB} {nx bd : Nat} {sv : AV} {l : List Int} (hI : RowI t bd sv l) (hb : bd ≤ nx) (hl : l.length < 9223372036854775808) : WF tb 50 [sv] t nx (fun v t' nx' => v = .int .i64 (orL l) ∧ nx ≤ nx' ∧ Keep t t' nx (fun _ => False)) := by
 refine k_fun or__tab rfl ?_
 unfold or__c
 change WC _ _ (TA.put (some _) TA.e 0) _ _ _
 refine k_seq (k_reg (rO (o_mov ev_c) (r_nil (k_seq (k_reg (rO (o_mov ev_c) (r_nil (k_seq (k_seq (k_reg (m1 (z2 get_same) (rO (o_len_I hI eZ) (rO (o_mov ev_c) (r_nil (k_block (k_loop (fun mm Tv tv nv => ∃ i : Nat, i ≤ l.length ∧ orL l = orL (l.drop i) ∧ Tv.get 3 = some (.int .i64 0) ∧ Tv.get 6 = some sv ∧ Tv.get 7 = some (.int .i64 ((l.length : Nat) : Int)) ∧ Tv.get 8 = some (.int .i64 (i : Int)) ∧ nx ≤ nv ∧ Keep t tv nx (fun _ => False) ∧ mm + i = l.length) (fun mm Tv tv nv hI => ?_) (l.length) ⟨0, by omega, rfl, (z1 (z2 ds)), (z2 ds), (z1 ds), ds, by omega, kR, by omega⟩))))))))))))))))
 obtain ⟨i, hi, hor, q3, q6, q7, q8, hnv, hkp, hmm⟩ := hI
 refine k_seq (k_reg (rO (o_lss (eV q8) (eV q7)) (r_nil (k_seq ?_))))
 refine k_if eZ (fun hc1 => ?_) (fun hc1 => ?_)
 · refine k_skip (k_seq (k_block (k_seq ?_)))
   rcases hI with ⟨-, h0⟩ | ⟨di, oi, ci, exi, wri, ri, hie, hdi, hri, hrli, hsegi⟩
   · have h_ := congrArg List.length h0; simp only [List.length_nil] at h_; omega
   obtain ⟨k, hk⟩ := some_at (l := l) (i := i) (by omega)
   have hri1 := hkp.look (by omega) id hri
   refine k_reg (rO (o_iaddrE (i := i) (eV (z1 q6)) hie (eV (z1 q8)) (by omega)) ?_)
   refine rO (o_load eZ hri1 (by rw [Nat.mul_one]; exact rowI_get (i := i) hsegi hk)) ?_
   refine m1 ds (r_nil (k_seq (k_reg (m1 ds (m1 (z1 (z4 q3)) (rO (o_neq (eV (z1 ds)) eZ) (r_nil ?_)))))))
   refine k_in eZ (fun hc2 => ?_) (fun hc2 => ?_)
   · refine k_seq (k_reg (m1 (z1 (z2 ds)) (m1 ds (r_nil (k_ret ?_)))))
     exact ⟨_, ans_tmp ds, by rw [hor, orL_at hk, if_neg (by assumption)], by omega, hkp⟩
   refine k_skip (k_reg (rO (o_add (eV (z1 (z2 (z4 q8)))) ev_c (by omega) (by omega)) (m1 ds (r_nil ?_))))
   exact ⟨mm - 1, by omega, i + 1, by omega, by rw [hor, orL_at hk, if_pos (by assumption)], (z1 (z8 q3)), (z1 (z8 q6)), (z1 (z8 q7)), ds, by omega, hkp, by omega⟩
 refine k_exit (exK_same (k_seq (k_reg (m1 (z1 q3) (m1 ds (r_nil (k_ret ?_)))))))
 exact ⟨_, ans_tmp ds, by rw [hor, List.drop_eq_nil_of_le (by omega)]; rfl, by omega, hkp⟩
end Go.Proofs.YtpjohgnhmjceiaaGreatDoor.WX

set_option linter.all false
set_option linter.unusedVariables false
set_option linter.unusedSectionVars false
set_option maxRecDepth 100000
open Go Go.Proofs.YtpjohgnhmjceiaaGreatDoor.AX Go.Proofs
namespace Go.Proofs.YtpjohgnhmjceiaaGreatDoor.WX
variable [Env]
structure Ev where
 time : Int
 node : Int
 val : List Nat
 frm : Int
 seq : Int
 anti : Bool
def ecells (e : Ev) : List AV := [.int .i64 e.time, .int .i64 e.node, .str e.val, .int .i64 e.frm, .int .i64 e.seq, .bool e.anti]
def flatE (es : List Ev) : List AV := es.flatMap ecells
theorem flatE_len (es : List Ev) : (flatE es).length = es.length * 6 := by
 induction es with
 | nil => rfl
 | cons e es ih => show (ecells e ++ flatE es).length = _; rw [List.length_append, ih]; simp [ecells]; omega
theorem flatE_app (a b : List Ev) : flatE (a ++ b) = flatE a ++ flatE b := by simp [flatE]
theorem flatE_get : ∀ {es : List Ev} {i : Nat} {e : Ev}, es[i]? = some e → ((flatE es).drop (i * 6)).take 6 = ecells e
 | [], i, e, h => by simp at h
 | q :: es, 0, e, h => by simp at h; subst h; show ((ecells q ++ flatE es).drop (0 * 6)).take 6 = _; simp [ecells]
 | q :: es, i + 1, e, h => by
   have := flatE_get (es := es) (i := i) (e := e) (by simpa using h)
   show ((ecells q ++ flatE es).drop ((i + 1) * 6)).take 6 = _
   rw [show (i + 1) * 6 = 6 + i * 6 by omega, ← List.drop_drop, show (ecells q ++ flatE es).drop 6 = flatE es from by simp [ecells]]
   exact this
/-- A row that begins with events. -/
structure RE (r : List AV) (c : Nat) (es : List Ev) : Prop where
 len : r.length = c * 6
 fits : es.length ≤ c
 has : r.take (es.length * 6) = flatE es
theorem RE.get {r : List AV} {c : Nat} {es : List Ev} (h : RE r c es) {i : Nat} {e : Ev} (hi : es[i]? = some e) : (r.drop (i * 6)).take 6 = ecells e := by
 have hl := (List.getElem?_eq_some_iff.1 hi).1
 rw [← flatE_get hi, ← h.has, List.drop_take, List.take_take, Nat.min_eq_left (by omega)]
theorem splice_take {r us : List AV} {o : Nat} (h : o + us.length ≤ r.length) : (splice r o us).take (o + us.length) = r.take o ++ us := by
 unfold splice
 rw [List.take_append_of_le_length (by simp; omega)]
 rw [List.take_of_length_le (by simp; omega)]
theorem flatE_set {es : List Ev} {i : Nat} {e : Ev} (hi : i < es.length) : flatE (es.set i e) = (flatE es).take (i * 6) ++ ecells e ++ (flatE es).drop (i * 6 + 6) := by
 induction es generalizing i with
 | nil => simp at hi
 | cons q es ih =>
   cases i with
   | zero => show ecells e ++ flatE es = _; show _ = ((ecells q ++ flatE es).take (0 * 6)) ++ ecells e ++ (ecells q ++ flatE es).drop (0 * 6 + 6); simp [ecells]
   | succ i =>
     have := ih (i := i) (by simpa using hi)
     show ecells q ++ flatE (es.set i e) = (ecells q ++ flatE es).take ((i + 1) * 6) ++ ecells e ++ (ecells q ++ flatE es).drop ((i + 1) * 6 + 6)
     rw [this, show (i + 1) * 6 = i * 6 + 6 by omega]
     simp [ecells]
theorem RE.set {r : List AV} {c : Nat} {es : List Ev} (h : RE r c es) {i : Nat} (e : Ev) (hi : i < es.length) : RE (splice r (i * 6) (ecells e)) c (es.set i e) := by
 have h1 := h.len
 have h2 := h.fits
 have hl : (ecells e).length = 6 := rfl
 have hb : i * 6 + (ecells e).length ≤ r.length := by rw [hl]; omega
 refine ⟨by rw [splice_len hb]; exact h1, by rw [List.length_set]; exact h2, ?_⟩
 rw [List.length_set, flatE_set hi]
 have h3 := h.has
 apply List.ext_getElem?
 intro j
 rw [← h3, List.getElem?_take, splice_get hb]
 by_cases hj : j < es.length * 6
 · rw [if_pos hj]
   by_cases h4 : j < i * 6
   · rw [if_neg (by omega), List.append_assoc, List.getElem?_append_left (by simp; omega), List.getElem?_take, if_pos h4, List.getElem?_take, if_pos hj]
   · by_cases h5 : j < i * 6 + 6
     · rw [if_pos ⟨by omega, by rw [hl]; omega⟩, List.append_assoc, List.getElem?_append_right (by simp; omega), List.getElem?_append_left (by simp; omega)]
       congr 1; simp; omega
     · rw [if_neg (by rw [hl]; omega), List.getElem?_append_right (by simp; omega), List.getElem?_drop, List.getElem?_take, if_pos (by simp; omega)]
       congr 1; simp; omega
 · rw [if_neg hj, List.getElem?_eq_none (by simp; omega)]
theorem RE.push {r : List AV} {c : Nat} {es : List Ev} (h : RE r c es) (e : Ev) (hi : es.length < c) : RE (splice r (es.length * 6) (ecells e)) c (es ++ [e]) := by
 have h1 := h.len
 have hl : (ecells e).length = 6 := rfl
 have hb : es.length * 6 + (ecells e).length ≤ r.length := by rw [hl]; omega
 refine ⟨by rw [splice_len hb]; exact h1, by simp; omega, ?_⟩
 rw [List.length_append, flatE_app, ← h.has]
 have := splice_take hb
 rw [hl] at this
 rw [show (es.length + [e].length) * 6 = es.length * 6 + 6 by simp; omega, this]
 simp [flatE]
theorem RE.pop {r : List AV} {c : Nat} {es : List Ev} {e : Ev} (h : RE r c (es ++ [e])) : RE r c es := by
 have h2 := h.fits
 have h3 := h.has
 simp at h2
 refine ⟨h.len, by omega, ?_⟩
 rw [flatE_app] at h3
 have := congrArg (List.take (es.length * 6)) h3
 rw [List.take_take, Nat.min_eq_left (by simp; omega), List.take_append_of_le_length (by rw [flatE_len]; omega), List.take_of_length_le (l := flatE es) (by rw [flatE_len]; omega)] at this
 exact this
theorem RE.own (es : List Ev) : RE (flatE es) es.length es := ⟨flatE_len es, Nat.le_refl _, List.take_of_length_le (by rw [flatE_len]; omega)⟩
def QV (t : TB) (lo : Nat → Prop) (bd : Nat) (v : AV) (es : List Ev) : Prop := (v = .nslice ∧ es = []) ∨ ∃ (d c : Nat) (r : List AV), v = .slice d 0 es.length c 6 false ∧ lo d ∧ d < bd ∧ hv t d = some (.row r true) ∧ RE r c es
def QS (t : TB) (q : Nat) (lo : Nat → Prop) (bd : Nat) (lim : Int) (es : List Ev) : Prop := ∃ v, hv t q = some (.row [v, .int .i64 lim] true) ∧ QV t lo bd v es
theorem recv_load {t : TB} {b o : Nat} {l : List AV} {wr : Bool} {v : AV} (hb : hv t b = some (.row l wr)) (hl : l[o]? = some v) : recvA (some (1, false)) (.ptr b o) t = some v := by
 obtain ⟨c, h1, h2⟩ := row_iff.1 hb
 simp only [recvA, h1]
 rw [h2 o (List.getElem?_eq_some_iff.1 hl).1, hl]
theorem o_tassert {T : TA} {t : TB} {nx : Nat} {ty : Nat} {z u : AV} {x : Opd} (hx : x.ev T = some (.iface ty u)) : (IOp.tassert ty z x false).run T t nx = .ok u t nx := by
 simp only [IOp.run, hx]
 simp
theorem src_E {t : TB} {e : Nat} {cs : List AV} {wr ex : Bool} (he : hv t e = some (.row cs wr)) (hcs : cs.length = 6) : srcCells (.slice e 0 1 1 6 ex) 1 6 t = some cs := by
 rw [src_row (k := 1) he (by omega), Nat.one_mul]
 congr 1
 exact whole hcs
theorem app_E0 {t : TB} {nx e : Nat} {cs : List AV} {wr ex : Bool} (he : hv t e = some (.row cs wr)) (hcs : cs.length = 6) (hc : allCell cs = true) :
   ∃ t', appendA 6 .nslice (.slice e 0 1 1 6 ex) t nx = .ok (.slice nx 0 1 1 6 false) t' (nx + 1) ∧ hv t' = upd (hv t) nx (some (.row cs true)) :=
 app_nil (sz := 6) (k := 1) rfl (src_E he hcs) hc (by decide) (by omega)
theorem app_E1 {t : TB} {nx d n c e : Nat} {r cs : List AV} {wr ex : Bool} (he : hv t e = some (.row cs wr)) (hcs : cs.length = 6) (hc : allCell cs = true) (hr : hv t d = some (.row r true)) (hn : n < c) (hl : r.length = c * 6) :
   ∃ t', appendA 6 (.slice d 0 n c 6 false) (.slice e 0 1 1 6 ex) t nx = .ok (.slice d 0 (n + 1) c 6 false) t' nx ∧ hv t' = upd (hv t) d (some (.row (splice r (n * 6) cs) true)) := by
 have := app_in (sz := 6) (k := 1) (o := 0) (ex := false) (n := n) (c := c) (nx := nx) rfl (src_E (ex := ex) he hcs) hc hr (by omega) (by rw [hcs]; omega)
 rw [Nat.zero_add] at this
 exact this
theorem app_E2 {t : TB} {nx d n e : Nat} {r cs : List AV} {wr ex : Bool} (he : hv t e = some (.row cs wr)) (hcs : cs.length = 6) (hc : allCell cs = true) (hr : hv t d = some (.row r true)) (hl : r.length = n * 6) (hs : (n + 1) * 6 ≤ 65536) :
   ∃ t', appendA 6 (.slice d 0 n n 6 false) (.slice e 0 1 1 6 ex) t nx = .ok (.slice nx 0 (n + 1) (n + 1) 6 false) t' (nx + 1) ∧ ∃ t1, hv t1 = upd (hv t) d none ∧ hv t' = upd (hv t1) nx (some (.row (r ++ cs) true)) := by
 obtain ⟨t', h1, t1, h2, h3⟩ := app_new_f (t := t) (nx := nx) (sz := 6) (k := 1) (o := 0) (n := n) (c := n) rfl (src_E (ex := ex) he hcs) hc hr (by omega) (by omega) hs
 have e1 : (r.drop 0).take (n * 6) ++ cs = r ++ cs := by rw [whole hl]
 rw [e1] at h3
 exact ⟨t', h1, t1, h2, h3⟩
theorem RE.grow {r : List AV} {es : List Ev} (h : RE r es.length es) (e : Ev) : RE (r ++ ecells e) (es.length + 1) (es ++ [e]) := by
 have h1 := h.len
 have h3 := h.has
 rw [List.take_of_length_le (by omega)] at h3
 subst h3
 have : flatE es ++ ecells e = flatE (es ++ [e]) := by rw [flatE_app]; simp [flatE]
 rw [this]
 have := RE.own (es ++ [e])
 simpa using this
theorem o_iface {T : TA} {t : TB} {nx ty : Nat} {x : Opd} {v : AV} (hx : x.ev T = some v) : (IOp.iface ty x).run T t nx = .ok (.iface ty v) t nx := by
 simp only [IOp.run, hx]

def order_r0 : List Ins := [.o 2 (.box (.t 0)),
 .o 3 (.box (.t 1)),
 .o 4 (.mov (kI 0))]
def order_r1 : List DIns := [⟨0, [], .o 5 (.faddr (.t 2) 0)⟩,
 ⟨1, [0], .o 6 (.load (.t 5))⟩,
 ⟨2, [], .o 7 (.faddr (.t 3) 0)⟩,
 ⟨3, [2], .o 8 (.load (.t 7))⟩,
 ⟨4, [1, 3], .f 9 51 [(.t 6), (.t 8)]⟩,
 ⟨5, [], .o 10 (.faddr (.t 2) 1)⟩,
 ⟨6, [5], .o 11 (.load (.t 10))⟩,
 ⟨7, [], .o 12 (.faddr (.t 3) 1)⟩,
 ⟨8, [7], .o 13 (.load (.t 12))⟩,
 ⟨9, [6, 8, 4], .f 14 51 [(.t 11), (.t 13)]⟩,
 ⟨10, [], .o 15 (.faddr (.t 2) 3)⟩,
 ⟨11, [10], .o 16 (.load (.t 15))⟩,
 ⟨12, [], .o 17 (.faddr (.t 3) 3)⟩,
 ⟨13, [12], .o 18 (.load (.t 17))⟩,
 ⟨14, [11, 13, 9], .f 19 51 [(.t 16), (.t 18)]⟩,
 ⟨15, [], .o 20 (.faddr (.t 2) 4)⟩,
 ⟨16, [15], .o 21 (.load (.t 20))⟩,
 ⟨17, [], .o 22 (.faddr (.t 3) 4)⟩,
 ⟨18, [17], .o 23 (.load (.t 22))⟩,
 ⟨19, [16, 18, 14], .f 24 51 [(.t 21), (.t 23)]⟩,
 ⟨20, [4, 9, 14, 19], .o 25 (.bslice 1 4 [(.int .i64 0)] [(0, 1, (.t 9)), (1, 1, (.t 14)), (2, 1, (.t 19)), (3, 1, (.t 24))])⟩,
 ⟨21, [20, 19], .f 26 50 [(.t 25)]⟩,
 ⟨22, [21, 21, 0, 1, 2, 3, 4, 5, 6, 7, 8, 9, 10, 11, 12, 13, 14, 15, 16, 17, 18, 19, 20, 21], .mv 4 26⟩]
def order_c : IC := (.seq (.reg order_r0) (.seq (.draw order_r1) .ret))
theorem order_tab : tb 290 = some (.code 2 27 order_c [.tmp 4]) := by kernel_rfl
theorem order_ok {t : TB} {nx : Nat} (a b : Ev) : WF tb 290 [.agg (ecells a), .agg (ecells b)] t nx (fun v t' nx' => ∃ r : Int, v = .int .i64 r ∧ (r < 0 → a.time ≤ b.time) ∧ (0 ≤ r → b.time ≤ a.time) ∧ nx ≤ nx' ∧ Keep t t' nx (fun _ => False)) := by
 unfold ecells
 refine k_fun order_tab rfl ?_
 unfold order_c
 change WC _ _ (TA.put (some _) (TA.put (some _) TA.e 0) 1) _ _ _
 refine k_seq (k_reg (r_heap (o_box (eV (get_other rfl get_same))) rfl (fun t1 (hh2 : hv t1 = upd (hv t) nx (some (.row [(.int .i64 a.time), (.int .i64 a.node), (.str a.val), (.int .i64 a.frm), (.int .i64 a.seq), (.bool a.anti)] true))) => r_heap (o_box (eV (z1 get_same))) rfl (fun t3 (hh4 : hv t3 = upd (hv t1) (nx + 1) (some (.row [(.int .i64 b.time), (.int .i64 b.node), (.str b.val), (.int .i64 b.frm), (.int .i64 b.seq), (.bool b.anti)] true))) => rO (o_mov ev_c) (r_nil (k_seq (k_draw (eO 0 rfl (o_faddr (off := 0) (eV (z2 ds))) (eO 1 rfl (o_load eZ (lN hh4 (lS hh2)) rfl) (eO 2 rfl (o_faddr (off := 0) (eV (z1 (z2 ds)))) (eO 3 rfl (o_load eZ (lS hh4) rfl) (eO 5 rfl (o_faddr (off := 1) (eV (z2 (z4 ds)))) (eO 6 rfl (o_load eZ (lN hh4 (lS hh2)) rfl) (eO 7 rfl (o_faddr (off := 1) (eV (z1 (z2 (z4 ds))))) (eO 8 rfl (o_load eZ (lS hh4) rfl) (eO 10 rfl (o_faddr (off := 3) (eV (z2 (z8 ds)))) (eO 11 rfl (o_load eZ (lN hh4 (lS hh2)) rfl) (eO 12 rfl (o_faddr (off := 3) (eV (z1 (z2 (z8 ds))))) (eO 13 rfl (o_load eZ (lS hh4) rfl) (eO 15 rfl (o_faddr (off := 4) (eV (z2 (z4 (z8 ds))))) (eO 16 rfl (o_load eZ (lN hh4 (lS hh2)) rfl) (eO 17 rfl (o_faddr (off := 4) (eV (z1 (z2 (z4 (z8 ds)))))) (eO 18 rfl (o_load eZ (lS hh4) rfl) ?_)))))))))))))))))))))))
 refine d_call (ix := 4) (pr := [1, 3]) (d := (some 9)) (g := none) (F' := [(⟨18, [17], .o 23 (.load (.t 22))⟩, (.int .i64 b.seq)), (⟨17, [], .o 22 (.faddr (.t 3) 4)⟩, (.ptr (nx + 1) 4)), (⟨16, [15], .o 21 (.load (.t 20))⟩, (.int .i64 a.seq)), (⟨15, [], .o 20 (.faddr (.t 2) 4)⟩, (.ptr nx 4)), (⟨13, [12], .o 18 (.load (.t 17))⟩, (.int .i64 b.frm)), (⟨12, [], .o 17 (.faddr (.t 3) 3)⟩, (.ptr (nx + 1) 3)), (⟨11, [10], .o 16 (.load (.t 15))⟩, (.int .i64 a.frm)), (⟨10, [], .o 15 (.faddr (.t 2) 3)⟩, (.ptr nx 3)), (⟨8, [7], .o 13 (.load (.t 12))⟩, (.int .i64 b.node)), (⟨7, [], .o 12 (.faddr (.t 3) 1)⟩, (.ptr (nx + 1) 1)), (⟨6, [5], .o 11 (.load (.t 10))⟩, (.int .i64 a.node)), (⟨5, [], .o 10 (.faddr (.t 2) 1)⟩, (.ptr nx 1))]) (w_callF (evs_cons (eV (z2 (z4 (z8 ds)))) (evs_cons (eV (z4 (z8 ds))) evs_nil))) rfl (by kernel_rfl) (by kernel_rfl) (by kernel_rfl) (by kernel_rfl) (WF.mono (compare_ok a.time b.time) ?_)
 rintro _ t5 n6 ⟨r1, rfl, hr1, hn1, hk1⟩
 refine ⟨?_, ?_⟩
 · exact (all_cons_ (still_op rfl rfl (o_load (eV (z2 ds)) (Keep.look hk1 (by omega) id (lS hh4)) rfl) (aeq_flat rfl)) (all_cons_ (still_op rfl rfl (o_faddr (off := 4) (eV (z2 (z8 (z8 ds))))) (aeq_flat rfl)) (all_cons_ (still_op rfl rfl (o_load (eV (z4 ds)) (Keep.look hk1 (by omega) id (lN hh4 (lS hh2))) rfl) (aeq_flat rfl)) (all_cons_ (still_op rfl rfl (o_faddr (off := 4) (eV (z1 (z2 (z8 (z8 ds)))))) (aeq_flat rfl)) (all_cons_ (still_op rfl rfl (o_load (eV (z2 (z4 ds))) (Keep.look hk1 (by omega) id (lS hh4)) rfl) (aeq_flat rfl)) (all_cons_ (still_op rfl rfl (o_faddr (off := 3) (eV (z2 (z8 (z8 ds))))) (aeq_flat rfl)) (all_cons_ (still_op rfl rfl (o_load (eV (z8 ds)) (Keep.look hk1 (by omega) id (lN hh4 (lS hh2))) rfl) (aeq_flat rfl)) (all_cons_ (still_op rfl rfl (o_faddr (off := 3) (eV (z1 (z2 (z8 (z8 ds)))))) (aeq_flat rfl)) (all_cons_ (still_op rfl rfl (o_load (eV (z2 (z8 ds))) (Keep.look hk1 (by omega) id (lS hh4)) rfl) (aeq_flat rfl)) (all_cons_ (still_op rfl rfl (o_faddr (off := 1) (eV (z2 (z8 (z8 ds))))) (aeq_flat rfl)) (all_cons_ (still_op rfl rfl (o_load (eV (z4 (z8 ds))) (Keep.look hk1 (by omega) id (lN hh4 (lS hh2))) rfl) (aeq_flat rfl)) (all_cons_ (still_op rfl rfl (o_faddr (off := 1) (eV (z1 (z2 (z8 (z8 ds)))))) (aeq_flat rfl)) all_nil_))))))))))))
 refine d_call (ix := 9) (pr := [6, 8, 4]) (d := (some 14)) (g := none) (F' := [(⟨18, [17], .o 23 (.load (.t 22))⟩, (.int .i64 b.seq)), (⟨17, [], .o 22 (.faddr (.t 3) 4)⟩, (.ptr (nx + 1) 4)), (⟨16, [15], .o 21 (.load (.t 20))⟩, (.int .i64 a.seq)), (⟨15, [], .o 20 (.faddr (.t 2) 4)⟩, (.ptr nx 4)), (⟨13, [12], .o 18 (.load (.t 17))⟩, (.int .i64 b.frm)), (⟨12, [], .o 17 (.faddr (.t 3) 3)⟩, (.ptr (nx + 1) 3)), (⟨11, [10], .o 16 (.load (.t 15))⟩, (.int .i64 a.frm)), (⟨10, [], .o 15 (.faddr (.t 2) 3)⟩, (.ptr nx 3))]) (w_callF (evs_cons (eV (z1 (z2 (z8 ds)))) (evs_cons (eV (z1 (z8 ds))) evs_nil))) rfl (by kernel_rfl) (by kernel_rfl) (by kernel_rfl) (by kernel_rfl) (WF.mono (compare_ok a.node b.node) ?_)
 rintro _ t7 n8 ⟨r2, rfl, hr2, hn2, hk2⟩
 refine ⟨?_, ?_⟩
 · exact (all_cons_ (still_op rfl rfl (o_load (eV (z1 (z2 ds))) (Keep.look hk2 (by omega) id (Keep.look hk1 (by omega) id (lS hh4))) rfl) (aeq_flat rfl)) (all_cons_ (still_op rfl rfl (o_faddr (off := 4) (eV (z1 (z2 (z8 (z8 ds)))))) (aeq_flat rfl)) (all_cons_ (still_op rfl rfl (o_load (eV (z1 (z4 ds))) (Keep.look hk2 (by omega) id (Keep.look hk1 (by omega) id (lN hh4 (lS hh2)))) rfl) (aeq_flat rfl)) (all_cons_ (still_op rfl rfl (o_faddr (off := 4) (eV (z4 (z8 (z8 ds))))) (aeq_flat rfl)) (all_cons_ (still_op rfl rfl (o_load (eV (z1 (z2 (z4 ds)))) (Keep.look hk2 (by omega) id (Keep.look hk1 (by omega) id (lS hh4))) rfl) (aeq_flat rfl)) (all_cons_ (still_op rfl rfl (o_faddr (off := 3) (eV (z1 (z2 (z8 (z8 ds)))))) (aeq_flat rfl)) (all_cons_ (still_op rfl rfl (o_load (eV (z1 (z8 ds))) (Keep.look hk2 (by omega) id (Keep.look hk1 (by omega) id (lN hh4 (lS hh2)))) rfl) (aeq_flat rfl)) (all_cons_ (still_op rfl rfl (o_faddr (off := 3) (eV (z4 (z8 (z8 ds))))) (aeq_flat rfl)) all_nil_))))))))
 refine d_call (ix := 14) (pr := [11, 13, 9]) (d := (some 19)) (g := none) (F' := [(⟨18, [17], .o 23 (.load (.t 22))⟩, (.int .i64 b.seq)), (⟨17, [], .o 22 (.faddr (.t 3) 4)⟩, (.ptr (nx + 1) 4)), (⟨16, [15], .o 21 (.load (.t 20))⟩, (.int .i64 a.seq)), (⟨15, [], .o 20 (.faddr (.t 2) 4)⟩, (.ptr nx 4))]) (w_callF (evs_cons (eV (z8 ds)) (evs_cons (eV (z2 (z4 ds))) evs_nil))) rfl (by kernel_rfl) (by kernel_rfl) (by kernel_rfl) (by kernel_rfl) (WF.mono (compare_ok a.frm b.frm) ?_)
 rintro _ t9 n10 ⟨r3, rfl, hr3, hn3, hk3⟩
 refine ⟨?_, ?_⟩
 · exact (all_cons_ (still_op rfl rfl (o_load (eV (z4 ds)) (Keep.look hk3 (by omega) id (Keep.look hk2 (by omega) id (Keep.look hk1 (by omega) id (lS hh4)))) rfl) (aeq_flat rfl)) (all_cons_ (still_op rfl rfl (o_faddr (off := 4) (eV (z4 (z8 (z8 ds))))) (aeq_flat rfl)) (all_cons_ (still_op rfl rfl (o_load (eV (z2 (z4 ds))) (Keep.look hk3 (by omega) id (Keep.look hk2 (by omega) id (Keep.look hk1 (by omega) id (lN hh4 (lS hh2))))) rfl) (aeq_flat rfl)) (all_cons_ (still_op rfl rfl (o_faddr (off := 4) (eV (z1 (z4 (z8 (z8 ds)))))) (aeq_flat rfl)) all_nil_))))
 refine d_call (ix := 19) (pr := [16, 18, 14]) (d := (some 24)) (g := none) (F' := []) (w_callF (evs_cons (eV (z1 (z4 ds))) (evs_cons (eV (z1 (z2 ds))) evs_nil))) rfl (by kernel_rfl) (by kernel_rfl) (by kernel_rfl) (by kernel_rfl) (WF.mono (compare_ok a.seq b.seq) ?_)
 rintro _ t11 n12 ⟨r4, rfl, hr4, hn4, hk4⟩
 refine ⟨?_, ?_⟩
 · exact all_nil_
 refine d_heap (ix := 20) (pr := [4, 9, 14, 19]) (d := (some 25)) (g := none) (F' := []) (o := (.bslice 1 4 [(.int .i64 0)] [(0, 1, (.t 9)), (1, 1, (.t 14)), (2, 1, (.t 19)), (3, 1, (.t 24))])) (o_bslice (fill_cons (eV (z1 (z2 ds))) rfl rfl (fill_cons (eV (z2 ds)) rfl rfl (fill_cons (eV (z1 ds)) rfl rfl (fill_cons eZ rfl rfl fill_nil))))) rfl (by kernel_rfl) (by kernel_rfl) (by kernel_rfl) (by kernel_rfl) (fun t13 (hh14 : hv t13 = upd (hv t11) n12 (some (.row [(.int .i64 r1), (.int .i64 r2), (.int .i64 r3), (.int .i64 r4)] true))) => ⟨?_, ?_⟩)
 · exact all_nil_
 refine d_call (ix := 21) (pr := [20, 19]) (d := (some 26)) (g := none) (F' := []) (w_callF (evs_cons eZ evs_nil)) rfl (by kernel_rfl) (by kernel_rfl) (by kernel_rfl) (by kernel_rfl) (WF.mono (or_ok (l := [r1, r2, r3, r4]) (.inr ⟨n12, 0, 4, true, true, _, rfl, by omega, (lS hh14), by simp, rfl⟩) (Nat.le_refl _) (by simp)) ?_)
 rintro _ t15 n16 ⟨rfl, hno, hko⟩
 refine ⟨?_, ?_⟩
 · exact all_nil_
 refine eO 22 rfl (o_mov eZ) (e_done (k_ret ?_))
 exact ⟨_, ans_tmp ds, _, rfl, (by simp only [orL]; intro h_; split at h_ <;> omega), (by simp only [orL]; intro h_; split at h_ <;> omega), by omega, Keep.trans (kU (Keep.trans (Keep.trans (Keep.trans (Keep.trans (kU (kU kR hh2) hh4) hk1 (by omega) (fun d _ h => h)) hk2 (by omega) (fun d _ h => h)) hk3 (by omega) (fun d _ h => h)) hk4 (by omega) (fun d _ h => h)) hh14) hko (by omega) (fun d _ h => h)⟩
def evless_r0 : List Ins := [.o 6 (.mov (.c (.bool false)))]
def evless_r1 : List DIns := [⟨0, [], .mv 7 0⟩,
 ⟨1, [], .mv 8 1⟩,
 ⟨2, [0, 1], .o 9 (.iaddr 6 (.t 7) (.t 8))⟩,
 ⟨3, [2], .o 10 (.loadA 6 (.t 9))⟩,
 ⟨4, [], .mv 11 0⟩,
 ⟨5, [], .mv 12 2⟩,
 ⟨6, [4, 5], .o 13 (.iaddr 6 (.t 11) (.t 12))⟩,
 ⟨7, [6], .o 14 (.loadA 6 (.t 13))⟩,
 ⟨8, [3, 7], .f 15 290 [(.t 10), (.t 14)]⟩,
 ⟨9, [8], .o 16 (.bin .lss (.t 15) (kI 0))⟩,
 ⟨10, [9, 8, 0, 1, 2, 3, 4, 5, 6, 7, 8, 9], .mv 6 16⟩]
def evless_c : IC := (.seq (.reg evless_r0) (.seq (.draw evless_r1) .ret))
theorem evless_tab : tb 288 = some (.code 3 17 evless_c [.tmp 6]) := by kernel_rfl
theorem evless_ok {t : TB} {nx d n c : Nat} {ex : Bool} {r : List AV} {es : List Ev} (hr : hv t d = some (.row r true)) (hd : d < nx) (hE : RE r c es) (hn : es.length = n) {i j : Nat} (hi : i < n) (hj : j < n) {a b : Ev} (ha : es[i]? = some a) (hb : es[j]? = some b) : WF tb 288 [.slice d 0 n c 6 ex, .int .i64 (i : Int), .int .i64 (j : Int)] t nx (fun v t' nx' => ∃ q : Bool, v = .bool (decide (q = true)) ∧ (q = true → a.time ≤ b.time) ∧ (q ≠ true → b.time ≤ a.time) ∧ nx ≤ nx' ∧ Keep t t' nx (fun _ => False)) := by
 have hga : (r.drop (0 + i * 6)).take 6 = [.int .i64 a.time, .int .i64 a.node, .str a.val, .int .i64 a.frm, .int .i64 a.seq, .bool a.anti] := by rw [Nat.zero_add]; exact hE.get ha
 have hgb : (r.drop (0 + j * 6)).take 6 = [.int .i64 b.time, .int .i64 b.node, .str b.val, .int .i64 b.frm, .int .i64 b.seq, .bool b.anti] := by rw [Nat.zero_add]; exact hE.get hb
 refine k_fun evless_tab rfl ?_
 unfold evless_c
 change WC _ _ (TA.put (some _) (TA.put (some _) (TA.put (some _) TA.e 0) 1) 2) _ _ _
 refine k_seq (k_reg (rO (o_mov ev_c) (r_nil (k_seq (k_draw (eO 0 rfl (o_mov (eV (z1 (get_other rfl (get_other rfl get_same))))) (eO 1 rfl (o_mov (eV (z2 (get_other rfl get_same)))) (eO 2 rfl (o_iaddr (i := i) (eV (z1 ds)) eZ (by omega)) ?_))))))))
 refine eO 3 rfl (o_loadA (n := 6) eZ hr (by have h_ := hE.len; have h2_ := hE.fits; omega) hga) ?_
 refine eO 4 rfl (o_mov (eV (z1 (z4 (get_other rfl (get_other rfl get_same)))))) (eO 5 rfl (o_mov (eV (z2 (z4 get_same)))) (eO 6 rfl (o_iaddr (i := j) (eV (z1 ds)) eZ (by omega)) ?_))
 refine eO 7 rfl (o_loadA (n := 6) eZ hr (by have h_ := hE.len; have h2_ := hE.fits; omega) hgb) ?_
 refine d_call (ix := 8) (pr := [3, 7]) (d := (some 15)) (g := none) (F' := []) (w_callF (evs_cons (eV (z4 ds)) (evs_cons eZ evs_nil))) rfl (by kernel_rfl) (by kernel_rfl) (by kernel_rfl) (by kernel_rfl) (WF.mono (order_ok a b) ?_)
 rintro _ t1 n2 ⟨q, rfl, hq1, hq2, hno, hko⟩
 refine ⟨?_, ?_⟩
 · exact all_nil_
 refine eO 9 rfl (o_lss eZ ev_c) (eO 10 rfl (o_mov eZ) (e_done (k_ret ?_)))
 exact ⟨_, ans_tmp ds, decide (q < 0), by simp, fun h_ => hq1 (of_decide_eq_true h_), fun h_ => hq2 (by have := of_decide_eq_false (Bool.eq_false_iff.2 h_); omega), by omega, Keep.trans kR hko (by omega) (fun d _ h => h)⟩
def evlen_r0 : List Ins := [.o 2 (.mov (kI 0))]
def evlen_r1 : List Ins := [.mv 3 0,
 .o 4 (.len .slc (.t 3)),
 .mv 2 4]
def evlen_c : IC := (.seq (.reg evlen_r0) (.seq (.reg evlen_r1) .ret))
theorem evlen_tab : tb 287 = some (.code 1 5 evlen_c [.tmp 2]) := by kernel_rfl
theorem evlen_ok {t : TB} {nx d n c : Nat} {ex : Bool} : WF tb 287 [.slice d 0 n c 6 ex] t nx (fun v t' nx' => v = .int .i64 ((n : Nat) : Int) ∧ nx ≤ nx' ∧ Keep t t' nx (fun _ => False)) := by
 refine k_fun evlen_tab rfl ?_
 unfold evlen_c
 change WC _ _ (TA.put (some _) TA.e 0) _ _ _
 refine k_seq (k_reg (rO (o_mov ev_c) (r_nil (k_seq (k_reg (m1 (z1 get_same) (rO (o_len_slice eZ) (m1 ds (r_nil (k_ret ?_))))))))))
 exact ⟨_, ans_tmp ds, rfl, by omega, kR⟩
def evswap_r0 : List DIns := [⟨0, [], .mv 6 0⟩,
 ⟨1, [], .mv 7 1⟩,
 ⟨2, [], .mv 8 0⟩,
 ⟨3, [], .mv 9 2⟩,
 ⟨4, [], .mv 10 0⟩,
 ⟨5, [], .mv 11 2⟩,
 ⟨6, [4, 5], .o 12 (.iaddr 6 (.t 10) (.t 11))⟩,
 ⟨7, [6], .o 13 (.loadA 6 (.t 12))⟩,
 ⟨8, [], .mv 14 0⟩,
 ⟨9, [], .mv 15 1⟩,
 ⟨10, [8, 9], .o 16 (.iaddr 6 (.t 14) (.t 15))⟩,
 ⟨11, [10], .o 17 (.loadA 6 (.t 16))⟩,
 ⟨12, [0, 1, 0, 1, 4, 5, 6, 7, 11], .o 18 (.iaddr 6 (.t 6) (.t 7))⟩,
 ⟨13, [12, 7, 0, 1, 4, 5, 6, 7, 11], .x (.store 6 (.t 18) (.t 13))⟩,
 ⟨14, [2, 3, 0, 1, 2, 3, 4, 5, 6, 7, 8, 9, 10, 11, 12, 13], .o 19 (.iaddr 6 (.t 8) (.t 9))⟩,
 ⟨15, [14, 11, 13, 0, 1, 2, 3, 4, 5, 6, 7, 8, 9, 10, 11, 12, 13], .x (.store 6 (.t 19) (.t 17))⟩]
def evswap_c : IC := (.draw evswap_r0)
theorem evswap_tab : tb 289 = some (.code 3 20 evswap_c []) := by kernel_rfl
theorem evswap_ok {t : TB} {nx d n c : Nat} {ex : Bool} {r : List AV} {es : List Ev} (hr : hv t d = some (.row r true)) (hd : d < nx) (hE : RE r c es) (hn : es.length = n) {i j : Nat} (hi : i < n) (hj : j < n) {a b : Ev} (ha : es[i]? = some a) (hb : es[j]? = some b) : WF tb 289 [.slice d 0 n c 6 ex, .int .i64 (i : Int), .int .i64 (j : Int)] t nx (fun v t' nx' => ∃ r' : List AV, v = .tup [] ∧ hv t' d = some (.row r' true) ∧ RE r' c ((es.set i b).set j a) ∧ nx ≤ nx' ∧ Keep t t' nx (fun e => e = d)) := by
 have hga : (r.drop (0 + i * 6)).take 6 = [.int .i64 a.time, .int .i64 a.node, .str a.val, .int .i64 a.frm, .int .i64 a.seq, .bool a.anti] := by rw [Nat.zero_add]; exact hE.get ha
 have hgb : (r.drop (0 + j * 6)).take 6 = [.int .i64 b.time, .int .i64 b.node, .str b.val, .int .i64 b.frm, .int .i64 b.seq, .bool b.anti] := by rw [Nat.zero_add]; exact hE.get hb
 have hE1 : RE (splice r (0 + i * 6) (ecells b)) c (es.set i b) := by rw [Nat.zero_add]; exact hE.set b (by omega)
 have hE2 : RE (splice (splice r (0 + i * 6) (ecells b)) (0 + j * 6) (ecells a)) c ((es.set i b).set j a) := by rw [Nat.zero_add (j * 6)]; exact hE1.set a (by rw [List.length_set]; omega)
 refine k_fun evswap_tab rfl ?_
 unfold evswap_c
 change WC _ _ (TA.put (some _) (TA.put (some _) (TA.put (some _) TA.e 0) 1) 2) _ _ _
 refine k_draw (eO 0 rfl (o_mov (eV (get_other rfl (get_other rfl get_same)))) (eO 1 rfl (o_mov (eV (z1 (get_other rfl get_same)))) (eO 2 rfl (o_mov (eV (z2 (get_other rfl (get_other rfl get_same))))) (eO 3 rfl (o_mov (eV (z1 (z2 get_same)))) (eO 4 rfl (o_mov (eV (z4 (get_other rfl (get_other rfl get_same))))) (eO 5 rfl (o_mov (eV (z1 (z4 get_same)))) (eO 6 rfl (o_iaddr (i := j) (eV (z1 ds)) eZ (by omega)) ?_)))))))
 refine eO 7 rfl (o_loadA (n := 6) eZ hr (by have h_ := hE.len; have h2_ := hE.fits; omega) hgb) ?_
 refine eO 8 rfl (o_mov (eV (z8 (get_other rfl (get_other rfl get_same))))) (eO 9 rfl (o_mov (eV (z1 (z8 (get_other rfl get_same))))) (eO 10 rfl (o_iaddr (i := i) (eV (z1 ds)) eZ (by omega)) ?_))
 refine eO 11 rfl (o_loadA (n := 6) eZ hr (by have h_ := hE.len; have h2_ := hE.fits; omega) hga) ?_
 refine eO 12 rfl (o_iaddr (i := i) (eV (z1 (z2 (z8 ds)))) (eV (z2 (z8 ds))) (by omega)) ?_
 refine d_heap (ix := 13) (pr := [12, 7, 0, 1, 4, 5, 6, 7, 11]) (d := none) (g := none) (F' := [(⟨3, [], .mv 9 2⟩, (.int .i64 ((j : Nat) : Int))), (⟨2, [], .mv 8 0⟩, (.slice d 0 n c 6 ex))]) (o := (.store 6 (.t 18) (.t 13))) (o_store (n := 6) eZ (eV (z1 (z4 ds))) hr rfl rfl (by have h_ := hE.len; have h2_ := hE.fits; omega)) rfl (by kernel_rfl) (by kernel_rfl) (by kernel_rfl) (by kernel_rfl) (fun t1 (hh2 : hv t1 = upd (hv t) d (some (.row (splice r (0 + i * 6) (ecells b)) true))) => ⟨?_, ?_⟩)
 · exact (all_cons_ (still_op rfl rfl (o_mov (eV (z2 (z4 (z8 get_same))))) (aeq_flat rfl)) (all_cons_ (still_op rfl rfl (o_mov (eV (z2 (z4 (z8 (get_other rfl (get_other rfl get_same))))))) (aeq_flat rfl)) all_nil_))
 refine eO 14 rfl (o_iaddr (i := j) (eV (z1 (z2 (z8 ds)))) (eV (z2 (z8 ds))) (by omega)) ?_
 refine d_heap (ix := 15) (pr := [14, 11, 13, 0, 1, 2, 3, 4, 5, 6, 7, 8, 9, 10, 11, 12, 13]) (d := none) (g := none) (F' := []) (o := (.store 6 (.t 19) (.t 17))) (o_store (n := 6) eZ (eV (z1 (z2 ds))) (lS hh2) rfl rfl (by have h_ := hE1.len; have h2_ := hE.fits; omega)) rfl (by kernel_rfl) (by kernel_rfl) (by kernel_rfl) (by kernel_rfl) (fun t3 (hh4 : hv t3 = upd (hv t1) d (some (.row (splice (splice r (0 + i * 6) (ecells b)) (0 + j * 6) (ecells a)) true))) => ⟨?_, ?_⟩)
 · exact all_nil_
 refine e_done ?_
 exact ⟨_, ans_none, _, rfl, (lS hh4), hE2, by omega, Keep.upd (Keep.upd kR hh2 (.inr rfl)) hh4 (.inr rfl)⟩
def evpush_r0 : List DIns := [⟨0, [], .mv 4 0⟩,
 ⟨1, [], .mv 5 0⟩,
 ⟨2, [1], .o 6 (.nilck (.t 5))⟩,
 ⟨3, [2], .o 7 (.load (.t 6))⟩,
 ⟨4, [], .mv 8 1⟩,
 ⟨5, [4], .o 9 (.tassert 66 (.agg [(.int .i64 0), (.int .i64 0), (.str []), (.int .i64 0), (.int .i64 0), (.bool false)]) (.t 8) false)⟩,
 ⟨6, [5], .o 10 (.bslice 6 1 [(.int .i64 0), (.int .i64 0), (.str []), (.int .i64 0), (.int .i64 0), (.bool false)] [(0, 6, (.t 9))])⟩,
 ⟨7, [3, 6], .o 11 (.app 6 (.t 7) (.t 10))⟩,
 ⟨8, [0, 0, 1, 2, 3, 4, 5, 6, 7], .o 12 (.nilck (.t 4))⟩,
 ⟨9, [8, 7, 7, 0, 1, 2, 3, 4, 5, 6, 7], .x (.store 1 (.t 12) (.t 11))⟩]
def evpush_c : IC := (.draw evpush_r0)
theorem evpush_tab : tb 293 = some (.code 2 13 evpush_c []) := by kernel_rfl
theorem evpush_ok {t : TB} {nx q : Nat} {lo : Nat → Prop} {lim : Int} {es : List Ev} {e : Ev} (hq : QS t q lo nx lim es) (hql : ¬ lo q) (hlo : ∀ b, nx ≤ b → lo b) (hs : (es.length + 1) * 6 ≤ 65536) : WF tb 293 [.ptr q 0, .iface 66 (.agg (ecells e))] t nx (fun v t' nx' => v = .tup [] ∧ QS t' q lo nx' lim (es ++ [e]) ∧ nx ≤ nx' ∧ Keep t t' nx (fun b => b = q ∨ lo b)) := by
 have hqn : q < nx := Nat.lt_of_not_le (fun h => hql (hlo q h))
 obtain ⟨v, hqr, hv_⟩ := hq
 rcases hv_ with ⟨rfl, rfl⟩ | ⟨d, c, r, rfl, hd1, hd2, hr, hE⟩
 · unfold ecells
   refine k_fun evpush_tab rfl ?_
   unfold evpush_c
   change WC _ _ (TA.put (some _) (TA.put (some _) TA.e 0) 1) _ _ _
   refine k_draw (eO 0 rfl (o_mov (eV (get_other rfl get_same))) (eO 1 rfl (o_mov (eV (z1 (get_other rfl get_same)))) (eO 2 rfl (o_nilck eZ) (eO 3 rfl (o_load eZ hqr rfl) (eO 4 rfl (o_mov (eV (z4 get_same))) (eO 5 rfl (o_tassert eZ) ?_))))))
   refine d_heap (ix := 6) (pr := [5]) (d := (some 10)) (g := none) (F' := [(⟨3, [2], .o 7 (.load (.t 6))⟩, .nslice), (⟨2, [1], .o 6 (.nilck (.t 5))⟩, (.ptr q 0)), (⟨1, [], .mv 5 0⟩, (.ptr q 0)), (⟨0, [], .mv 4 0⟩, (.ptr q 0))]) (o := (.bslice 6 1 [(.int .i64 0), (.int .i64 0), (.str []), (.int .i64 0), (.int .i64 0), (.bool false)] [(0, 6, (.t 9))])) (o_bslice (fill_cons eZ rfl rfl fill_nil)) rfl (by kernel_rfl) (by kernel_rfl) (by kernel_rfl) (by kernel_rfl) (fun t1 (hh2 : hv t1 = upd (hv t) nx (some (.row [(.int .i64 e.time), (.int .i64 e.node), (.str e.val), (.int .i64 e.frm), (.int .i64 e.seq), (.bool e.anti)] true))) => ⟨?_, ?_⟩)
   · exact (all_cons_ (still_op rfl rfl (o_load (eV (z4 ds)) (lN hh2 hqr) rfl) (aeq_flat rfl)) (all_cons_ (still_op rfl rfl (o_nilck (eV (z1 (z4 ds)))) (aeq_flat rfl)) (all_cons_ (still_op rfl rfl (o_mov (eV (z1 (z2 (z4 (get_other rfl get_same)))))) (aeq_flat rfl)) (all_cons_ (still_op rfl rfl (o_mov (eV (z1 (z2 (z4 (get_other rfl get_same)))))) (aeq_flat rfl)) all_nil_))))
   refine d_heap (ix := 7) (pr := [3, 6]) (d := (some 11)) (g := none) (F' := [(⟨0, [], .mv 4 0⟩, (.ptr q 0))]) (o := (.app 6 (.t 7) (.t 10))) (o_appE (eV (z1 (z2 ds))) eZ (app_E0 (lS hh2) rfl rfl)) rfl (by kernel_rfl) (by kernel_rfl) (by kernel_rfl) (by kernel_rfl) (fun t3 (hh4 : hv t3 = upd (hv t1) (nx + 1) (some (.row [(.int .i64 e.time), (.int .i64 e.node), (.str e.val), (.int .i64 e.frm), (.int .i64 e.seq), (.bool e.anti)] true))) => ⟨?_, ?_⟩)
   · exact (all_cons_ (still_op rfl rfl (o_mov (eV (z8 (get_other rfl get_same)))) (aeq_flat rfl)) all_nil_)
   refine eO 8 rfl (o_nilck (eV (z1 (z2 (z4 ds))))) ?_
   refine d_heap (ix := 9) (pr := [8, 7, 7, 0, 1, 2, 3, 4, 5, 6, 7]) (d := none) (g := none) (F' := []) (o := (.store 1 (.t 12) (.t 11))) (o_store (n := 1) eZ (eV (z1 ds)) (lN hh4 (lN hh2 hqr)) rfl rfl (leb rfl)) rfl (by kernel_rfl) (by kernel_rfl) (by kernel_rfl) (by kernel_rfl) (fun t5 (hh6 : hv t5 = upd (hv t3) q (some (.row [(.slice (nx + 1) 0 1 1 6 false), (.int .i64 lim)] true))) => ⟨?_, ?_⟩)
   · exact all_nil_
   refine e_done ?_
   exact ⟨_, ans_none, rfl, ⟨_, (lS hh6), .inr ⟨(nx + 1), 1, _, rfl, hlo _ (by omega), by omega, (lN hh6 (lS hh4)), by have h_ := RE.own [e]; exact h_⟩⟩, by omega, Keep.upd (kU (kU kR hh2) hh4) hh6 (.inr (.inl rfl))⟩
 have hqnd : q ≠ d := fun e_ => hql (by rw [e_]; exact hd1)
 by_cases hc : es.length < c
 · unfold ecells
   refine k_fun evpush_tab rfl ?_
   unfold evpush_c
   change WC _ _ (TA.put (some _) (TA.put (some _) TA.e 0) 1) _ _ _
   refine k_draw (eO 0 rfl (o_mov (eV (get_other rfl get_same))) (eO 1 rfl (o_mov (eV (z1 (get_other rfl get_same)))) (eO 2 rfl (o_nilck eZ) (eO 3 rfl (o_load eZ hqr rfl) (eO 4 rfl (o_mov (eV (z4 get_same))) (eO 5 rfl (o_tassert eZ) ?_))))))
   refine d_heap (ix := 6) (pr := [5]) (d := (some 10)) (g := none) (F' := [(⟨3, [2], .o 7 (.load (.t 6))⟩, (.slice d 0 es.length c 6 false)), (⟨2, [1], .o 6 (.nilck (.t 5))⟩, (.ptr q 0)), (⟨1, [], .mv 5 0⟩, (.ptr q 0)), (⟨0, [], .mv 4 0⟩, (.ptr q 0))]) (o := (.bslice 6 1 [(.int .i64 0), (.int .i64 0), (.str []), (.int .i64 0), (.int .i64 0), (.bool false)] [(0, 6, (.t 9))])) (o_bslice (fill_cons eZ rfl rfl fill_nil)) rfl (by kernel_rfl) (by kernel_rfl) (by kernel_rfl) (by kernel_rfl) (fun t1 (hh2 : hv t1 = upd (hv t) nx (some (.row [(.int .i64 e.time), (.int .i64 e.node), (.str e.val), (.int .i64 e.frm), (.int .i64 e.seq), (.bool e.anti)] true))) => ⟨?_, ?_⟩)
   · exact (all_cons_ (still_op rfl rfl (o_load (eV (z4 ds)) (lN hh2 hqr) rfl) (aeq_flat rfl)) (all_cons_ (still_op rfl rfl (o_nilck (eV (z1 (z4 ds)))) (aeq_flat rfl)) (all_cons_ (still_op rfl rfl (o_mov (eV (z1 (z2 (z4 (get_other rfl get_same)))))) (aeq_flat rfl)) (all_cons_ (still_op rfl rfl (o_mov (eV (z1 (z2 (z4 (get_other rfl get_same)))))) (aeq_flat rfl)) all_nil_))))
   refine d_heap (ix := 7) (pr := [3, 6]) (d := (some 11)) (g := none) (F' := [(⟨0, [], .mv 4 0⟩, (.ptr q 0))]) (o := (.app 6 (.t 7) (.t 10))) (o_appE (eV (z1 (z2 ds))) eZ (app_E1 (lS hh2) rfl rfl (lN hh2 hr) hc hE.len)) rfl (by kernel_rfl) (by kernel_rfl) (by kernel_rfl) (by kernel_rfl) (fun t3 (hh4 : hv t3 = upd (hv t1) d (some (.row (splice r (es.length * 6) (ecells e)) true))) => ⟨?_, ?_⟩)
   · exact (all_cons_ (still_op rfl rfl (o_mov (eV (z8 (get_other rfl get_same)))) (aeq_flat rfl)) all_nil_)
   refine eO 8 rfl (o_nilck (eV (z1 (z2 (z4 ds))))) ?_
   refine d_heap (ix := 9) (pr := [8, 7, 7, 0, 1, 2, 3, 4, 5, 6, 7]) (d := none) (g := none) (F' := []) (o := (.store 1 (.t 12) (.t 11))) (o_store (n := 1) eZ (eV (z1 ds)) (lN hh4 (lN hh2 hqr)) rfl rfl (leb rfl)) rfl (by kernel_rfl) (by kernel_rfl) (by kernel_rfl) (by kernel_rfl) (fun t5 (hh6 : hv t5 = upd (hv t3) q (some (.row [(.slice d 0 (es.length + 1) c 6 false), (.int .i64 lim)] true))) => ⟨?_, ?_⟩)
   · exact all_nil_
   refine e_done ?_
   exact ⟨_, ans_none, rfl, ⟨_, (lS hh6), .inr ⟨d, c, _, by simp, hd1, by omega, (lN hh6 (lS hh4)), hE.push e hc⟩⟩, by omega, Keep.upd (Keep.upd (kU kR hh2) hh4 (.inr (.inr hd1))) hh6 (.inr (.inl rfl))⟩
 obtain rfl : es.length = c := by have := hE.fits; omega
 unfold ecells
 refine k_fun evpush_tab rfl ?_
 unfold evpush_c
 change WC _ _ (TA.put (some _) (TA.put (some _) TA.e 0) 1) _ _ _
 refine k_draw (eO 0 rfl (o_mov (eV (get_other rfl get_same))) (eO 1 rfl (o_mov (eV (z1 (get_other rfl get_same)))) (eO 2 rfl (o_nilck eZ) (eO 3 rfl (o_load eZ hqr rfl) (eO 4 rfl (o_mov (eV (z4 get_same))) (eO 5 rfl (o_tassert eZ) ?_))))))
 refine d_heap (ix := 6) (pr := [5]) (d := (some 10)) (g := none) (F' := [(⟨3, [2], .o 7 (.load (.t 6))⟩, (.slice d 0 es.length es.length 6 false)), (⟨2, [1], .o 6 (.nilck (.t 5))⟩, (.ptr q 0)), (⟨1, [], .mv 5 0⟩, (.ptr q 0)), (⟨0, [], .mv 4 0⟩, (.ptr q 0))]) (o := (.bslice 6 1 [(.int .i64 0), (.int .i64 0), (.str []), (.int .i64 0), (.int .i64 0), (.bool false)] [(0, 6, (.t 9))])) (o_bslice (fill_cons eZ rfl rfl fill_nil)) rfl (by kernel_rfl) (by kernel_rfl) (by kernel_rfl) (by kernel_rfl) (fun t1 (hh2 : hv t1 = upd (hv t) nx (some (.row [(.int .i64 e.time), (.int .i64 e.node), (.str e.val), (.int .i64 e.frm), (.int .i64 e.seq), (.bool e.anti)] true))) => ⟨?_, ?_⟩)
 · exact (all_cons_ (still_op rfl rfl (o_load (eV (z4 ds)) (lN hh2 hqr) rfl) (aeq_flat rfl)) (all_cons_ (still_op rfl rfl (o_nilck (eV (z1 (z4 ds)))) (aeq_flat rfl)) (all_cons_ (still_op rfl rfl (o_mov (eV (z1 (z2 (z4 (get_other rfl get_same)))))) (aeq_flat rfl)) (all_cons_ (still_op rfl rfl (o_mov (eV (z1 (z2 (z4 (get_other rfl get_same)))))) (aeq_flat rfl)) all_nil_))))
 refine d_heap (ix := 7) (pr := [3, 6]) (d := (some 11)) (g := none) (F' := [(⟨0, [], .mv 4 0⟩, (.ptr q 0))]) (o := (.app 6 (.t 7) (.t 10))) (o_appE (eV (z1 (z2 ds))) eZ (app_E2 (lS hh2) rfl rfl (lN hh2 hr) hE.len hs)) rfl (by kernel_rfl) (by kernel_rfl) (by kernel_rfl) (by kernel_rfl) (fun ta ⟨tb_, hh_a, hh_b⟩ => ⟨?_, ?_⟩)
 · exact (all_cons_ (still_op rfl rfl (o_mov (eV (z8 (get_other rfl get_same)))) (aeq_flat rfl)) all_nil_)
 refine eO 8 rfl (o_nilck (eV (z1 (z2 (z4 ds))))) ?_
 refine d_heap (ix := 9) (pr := [8, 7, 7, 0, 1, 2, 3, 4, 5, 6, 7]) (d := none) (g := none) (F' := []) (o := (.store 1 (.t 12) (.t 11))) (o_store (n := 1) eZ (eV (z1 ds)) (lN hh_b (lN hh_a (lN hh2 hqr))) rfl rfl (leb rfl)) rfl (by kernel_rfl) (by kernel_rfl) (by kernel_rfl) (by kernel_rfl) (fun t3 (hh4 : hv t3 = upd (hv ta) q (some (.row [(.slice (nx + 1) 0 (es.length + 1) (es.length + 1) 6 false), (.int .i64 lim)] true))) => ⟨?_, ?_⟩)
 · exact all_nil_
 refine e_done ?_
 exact ⟨_, ans_none, rfl, ⟨_, (lS hh4), .inr ⟨(nx + 1), es.length + 1, _, by simp, hlo _ (by omega), by omega, (lN hh4 (lS hh_b)), hE.grow e⟩⟩, by omega, Keep.upd (kU (Keep.upd (kU kR hh2) hh_a (.inr (.inr hd1))) hh_b) hh4 (.inr (.inl rfl))⟩
def evpop_r0 : List Ins := [.o 2 (.mov (.c .niface))]
def evpop_r1 : List Ins := [.mv 5 0,
 .o 6 (.nilck (.t 5)),
 .o 7 (.load (.t 6)),
 .o 8 (.len .slc (.t 7)),
 .o 9 (.bin .sub (.t 8) (kI 1)),
 .mv 3 9]
def evpop_r2 : List Ins := [.mv 10 0,
 .o 11 (.nilck (.t 10)),
 .o 12 (.load (.t 11)),
 .mv 13 3,
 .o 14 (.iaddr 6 (.t 12) (.t 13)),
 .o 15 (.loadA 6 (.t 14)),
 .o 4 (.alloc [(.int .i64 0), (.int .i64 0), (.str []), (.int .i64 0), (.int .i64 0), (.bool false)]),
 .x (.store 6 (.t 4) (.t 15))]
def evpop_r3 : List Ins := [.mv 16 0,
 .mv 17 0,
 .o 18 (.nilck (.t 17)),
 .o 19 (.load (.t 18)),
 .mv 20 3,
 .o 21 (.cslice 6 (.t 19) none (some (.t 20)) none),
 .o 22 (.nilck (.t 16)),
 .x (.store 1 (.t 22) (.t 21))]
def evpop_r4 : List Ins := [.o 23 (.loadA 6 (.t 4)),
 .o 24 (.iface 66 (.t 23)),
 .mv 2 24]
def evpop_c : IC := (.seq (.reg evpop_r0) (.seq (.reg evpop_r1) (.seq (.reg evpop_r2) (.seq (.reg evpop_r3) (.seq (.reg evpop_r4) .ret)))))
theorem evpop_tab : tb 292 = some (.code 1 25 evpop_c [.tmp 2]) := by kernel_rfl
theorem evpop_ok {t : TB} {nx q : Nat} {lo : Nat → Prop} {lim : Int} {es : List Ev} {e : Ev} (hq : QS t q lo nx lim (es ++ [e])) (hql : ¬ lo q) (hlo : ∀ b, nx ≤ b → lo b) (hs : es.length < 65536) : WF tb 292 [.ptr q 0] t nx (fun v t' nx' => v = .iface 66 (.agg (ecells e)) ∧ QS t' q lo nx' lim es ∧ nx ≤ nx' ∧ Keep t t' nx (fun b => b = q ∨ lo b)) := by
 have hqn : q < nx := Nat.lt_of_not_le (fun h => hql (hlo q h))
 obtain ⟨v, hqr, hv_⟩ := hq
 rcases hv_ with ⟨-, h0⟩ | ⟨d, c, r, hve, hd1, hd2, hr, hE⟩
 · simp at h0
 rw [show (es ++ [e]).length = es.length + 1 by simp] at hve
 subst hve
 have hqnd : q ≠ d := fun e_ => hql (by rw [e_]; exact hd1)
 have hge : (r.drop (0 + (es.length + 1 - 1) * 6)).take 6 = [.int .i64 e.time, .int .i64 e.node, .str e.val, .int .i64 e.frm, .int .i64 e.seq, .bool e.anti] := by rw [Nat.zero_add, Nat.add_sub_cancel]; exact hE.get (by simp)
 have hfit := hE.pop.fits
 have hfit2 : es.length + 1 ≤ c := by have := hE.fits; simpa using this
 have hrl := hE.len
 refine k_fun evpop_tab rfl ?_
 unfold evpop_c
 change WC _ _ (TA.put (some _) TA.e 0) _ _ _
 refine k_seq (k_reg (rO (o_mov ev_c) (r_nil (k_seq (k_reg (m1 (z1 get_same) (rO (o_nilck eZ) (rO (o_load eZ hqr rfl) (rO (o_len_slice eZ) (rO (o_subN (a := (es.length + 1)) (b := 1) eZ ev_c (by omega) (by omega)) (m1 ds (r_nil (k_seq (k_reg (m1 (z1 (z2 (z4 get_same))) (rO (o_nilck eZ) (rO (o_load eZ hqr rfl) (m1 (z1 (z2 ds)) (rO (o_iaddr (i := ((es.length + 1) - 1)) (eV (z1 ds)) eZ (by omega)) (rO (o_loadA (n := 6) eZ hr (by omega) hge) (r_heap (o_alloc) rfl (fun t1 (hh2 : hv t1 = upd (hv t) nx (some (.row [(.int .i64 0), (.int .i64 0), (.str []), (.int .i64 0), (.int .i64 0), (.bool false)] true))) => r_heap (o_store (n := 6) eZ (eV (z1 ds)) (lS hh2) rfl rfl (leb rfl)) rfl (fun t3 (hh4 : hv t3 = upd (hv t1) nx (some (.row [(.int .i64 e.time), (.int .i64 e.node), (.str e.val), (.int .i64 e.frm), (.int .i64 e.seq), (.bool e.anti)] true))) => r_nil (k_seq (k_reg (m1 (z1 (z2 (z4 (z8 get_same)))) (m1 (z8 (z8 get_same)) (rO (o_nilck eZ) (rO (o_load eZ (lN hh4 (lN hh2 hqr)) rfl) (m1 (z4 (z8 ds)) (rO (o_cslice_hi (m := es.length + 1 - 1) (eV (z1 ds)) rfl eZ (by omega)) (rO (o_nilck (eV (z1 (z4 ds)))) (r_heap (o_store (n := 1) eZ (eV (z1 ds)) (lN hh4 (lN hh2 hqr)) rfl rfl (leb rfl)) rfl (fun t5 (hh6 : hv t5 = upd (hv t3) q (some (.row [(.slice d 0 (es.length + 1 - 1) c 6 false), (.int .i64 lim)] true))) => ?_))))))))))))))))))))))))))))))))))
 refine r_nil (k_seq (k_reg (rO (o_loadA (n := 6) (eV (z1 (z8 ds))) (lN hh6 (lS hh4)) (leb rfl) rfl) (rO (o_iface eZ) (m1 ds (r_nil (k_ret ?_)))))))
 exact ⟨_, ans_tmp ds, rfl, ⟨_, (lS hh6), .inr ⟨d, c, r, by rw [Nat.add_sub_cancel], hd1, by omega, (lN hh6 (lN hh4 (lN hh2 hr))), hE.pop⟩⟩, by omega, Keep.upd (kU (kU kR hh2) hh4) hh6 (.inr (.inl rfl))⟩
end Go.Proofs.YtpjohgnhmjceiaaGreatDoor.WX

set_option linter.all false
set_option linter.unusedVariables false
set_option linter.unusedSectionVars false
set_option maxRecDepth 100000
open Go Go.Proofs.YtpjohgnhmjceiaaGreatDoor.AX Go.Proofs
namespace Go.Proofs.YtpjohgnhmjceiaaGreatDoor.WX
variable [Env]
def tm (es : List Ev) (k : Nat) : Int := match es[k]? with | some e => e.time | none => 0
theorem tm_at {es : List Ev} {k : Nat} {e : Ev} (h : es[k]? = some e) : tm es k = e.time := by unfold tm; rw [h]
/-- Two of a list change places. -/
def swE (es : List Ev) (i j : Nat) (a b : Ev) : List Ev := (es.set i b).set j a
theorem swE_len (es : List Ev) (i j : Nat) (a b : Ev) : (swE es i j a b).length = es.length := by simp [swE]
theorem swE_get {es : List Ev} {i j : Nat} {a b : Ev} (hi : es[i]? = some a) (hj : es[j]? = some b) (k : Nat) : (swE es i j a b)[k]? = if k = j then some a else if k = i then some b else es[k]? := by
 have h1 := (List.getElem?_eq_some_iff.1 hi).1
 have h2 := (List.getElem?_eq_some_iff.1 hj).1
 unfold swE
 rw [List.getElem?_set, List.getElem?_set]
 by_cases e1 : k = j
 · subst e1; simp [h2]
 · rw [if_neg (fun e => e1 e.symm), if_neg e1]
   by_cases e2 : k = i
   · subst e2; simp [h1]
   · rw [if_neg (fun e => e2 e.symm), if_neg e2]
theorem tm_sw {es : List Ev} {i j : Nat} {a b : Ev} (hi : es[i]? = some a) (hj : es[j]? = some b) (k : Nat) : tm (swE es i j a b) k = if k = j then tm es i else if k = i then tm es j else tm es k := by
 rw [tm_at hi, tm_at hj]
 unfold tm
 rw [swE_get hi hj k]
 by_cases e1 : k = j
 · rw [if_pos e1, if_pos e1]
 · rw [if_neg e1, if_neg e1]
   by_cases e2 : k = i
   · rw [if_pos e2, if_pos e2]
   · rw [if_neg e2, if_neg e2]
theorem swE_perm {es : List Ev} {i j : Nat} {a b : Ev} (hi : es[i]? = some a) (hj : es[j]? = some b) : (swE es i j a b).Perm es := by
 obtain ⟨h1, rfl⟩ := List.getElem?_eq_some_iff.1 hi
 obtain ⟨h2, rfl⟩ := List.getElem?_eq_some_iff.1 hj
 have h := Array.swap_perm (xs := es.toArray) (i := i) (j := j) (by simpa using h1) (by simpa using h2)
 have e : (es.toArray.swap i j (by simpa using h1) (by simpa using h2)).toList = swE es i j es[i] es[j] := by
   unfold swE
   simp
 have := h.toList
 rw [e] at this
 simpa using this
def HpN (es : List Ev) (n : Nat) : Prop := ∀ k, 0 < k → k < n → tm es ((k - 1) / 2) ≤ tm es k
structure HU (es : List Ev) (n j : Nat) : Prop where
 rest : ∀ k, 0 < k → k < n → k ≠ j → tm es ((k - 1) / 2) ≤ tm es k
 kids : ∀ k, 0 < k → k < n → (k - 1) / 2 = j → 0 < j → tm es ((j - 1) / 2) ≤ tm es k
theorem HU.done {es : List Ev} {n j : Nat} (h : HU es n j) (hj : j = 0 ∨ tm es ((j - 1) / 2) ≤ tm es j) : HpN es n := fun k h1 h2 => by
 by_cases e : k = j
 · subst e; rcases hj with h3 | h3
   · omega
   · exact h3
 · exact h.rest k h1 h2 e
theorem HU.up {es : List Ev} {n j : Nat} {a b : Ev} (h : HU es n j) (h0 : 0 < j) (hj : j < n) (hi : es[(j - 1) / 2]? = some a) (hb : es[j]? = some b) (hl : tm es j ≤ tm es ((j - 1) / 2)) : HU (swE es ((j - 1) / 2) j a b) n ((j - 1) / 2) := by
 have T := tm_sw hi hb
 refine ⟨fun k h1 h2 h3 => ?_, fun k h1 h2 h3 h4 => ?_⟩
 · rw [T k, T ((k - 1) / 2)]
   by_cases e : k = j
   · subst e
     rw [if_pos rfl, if_neg (by omega), if_pos rfl]; exact hl
   · rw [if_neg e, if_neg h3]
     by_cases e2 : (k - 1) / 2 = j
     · rw [if_pos e2]; exact h.kids k h1 h2 e2 h0
     · rw [if_neg e2]
       have h5 := h.rest k h1 h2 e
       by_cases e3 : (k - 1) / 2 = (j - 1) / 2
       · rw [if_pos e3]; rw [e3] at h5; omega
       · rw [if_neg e3]; exact h5
 · have h5 := h.rest ((j - 1) / 2) h4 (by omega) (by omega)
   rw [T k, T (((j - 1) / 2 - 1) / 2), if_neg (by omega), if_neg (by omega)]
   by_cases e : k = j
   · rw [if_pos e]; exact h5
   · rw [if_neg e, if_neg (by omega)]
     have h6 := h.rest k h1 h2 e
     rw [h3] at h6; omega
/-- The first n are a heap but for what hangs on i; what hangs on i is not before i's father. -/
structure HD (es : List Ev) (n i : Nat) : Prop where
 rest : ∀ k, 0 < k → k < n → (k - 1) / 2 ≠ i → tm es ((k - 1) / 2) ≤ tm es k
 kids : ∀ k, 0 < k → k < n → (k - 1) / 2 = i → 0 < i → tm es ((i - 1) / 2) ≤ tm es k
theorem HD.done {es : List Ev} {n i : Nat} (h : HD es n i) (hi : ∀ k, 0 < k → k < n → (k - 1) / 2 = i → tm es i ≤ tm es k) : HpN es n := fun k h1 h2 => by
 by_cases e : (k - 1) / 2 = i
 · rw [e]; exact hi k h1 h2 e
 · exact h.rest k h1 h2 e
theorem HD.down {es : List Ev} {n i j : Nat} {a b : Ev} (h : HD es n i) (hj : j < n) (hp : (j - 1) / 2 = i) (h0 : 0 < j) (hi : es[i]? = some a) (hb : es[j]? = some b) (hl : tm es j ≤ tm es i) (hm : ∀ k, 0 < k → k < n → (k - 1) / 2 = i → tm es j ≤ tm es k) (hup : i = 0 ∨ tm es ((i - 1) / 2) ≤ tm es i) : HD (swE es i j a b) n j ∧ (tm (swE es i j a b) ((j - 1) / 2) ≤ tm (swE es i j a b) j) := by
 have T := tm_sw hi hb
 refine ⟨⟨fun k h1 h2 h3 => ?_, fun k h1 h2 h3 h4 => ?_⟩, ?_⟩
 · rw [T k, T ((k - 1) / 2), if_neg h3]
   by_cases e : k = j
   · subst e; rw [if_pos rfl, if_pos hp]; exact hl
   · rw [if_neg e]
     by_cases e2 : (k - 1) / 2 = i
     · rw [if_pos e2]
       by_cases e3 : k = i
       · omega
       · rw [if_neg e3]; exact hm k h1 h2 e2
     · rw [if_neg e2]
       have h5 := h.rest k h1 h2 e2
       by_cases e3 : k = i
       · subst e3; rw [if_pos rfl]; exact h.kids j h0 hj hp h1
       · rw [if_neg e3]; exact h5
 · rw [T k, T ((j - 1) / 2), if_neg (by omega), if_pos hp, if_neg (by omega), if_neg (by omega)]
   have := h.rest k h1 h2 (by omega)
   rw [h3] at this; exact this
 · rw [T j, T ((j - 1) / 2), if_pos rfl, if_neg (by omega), if_pos hp]; exact hl
theorem o_half1 {T : TA} {t : TB} {nx : Nat} {x : Opd} {j : Nat} (hx : x.ev T = some (.int .i64 ((j : Int) - 1))) (hj : j < 9223372036854775808) : (IOp.bin .quo x (kI 2)).run T t nx = .ok (.int .i64 (((j - 1) / 2 : Nat) : Int)) t nx := by
 refine o_bin hx ev_c rfl (by decide) (by decide) ?_
 show (match iEq 2 0 with | true => none | false => some (AV.int .i64 (wrapF .i64 (Int.tdiv ((j : Int) - 1) 2)))) = _
 have e : Int.tdiv ((j : Int) - 1) 2 = (((j - 1) / 2 : Nat) : Int) := by
   cases j with
   | zero => decide
   | succ k => rw [show ((k + 1 : Nat) : Int) - 1 = (k : Int) by omega, Nat.add_sub_cancel]; rfl
 rw [e, show iEq 2 0 = false from rfl]
 dsimp only
 rw [wrap_in _ (by omega) (by omega)]
/-- The first n are a heap but for i: what hangs on i may be before it, and it before its father; what hangs on i is not before i's father. -/
structure HW (es : List Ev) (n i : Nat) : Prop where
 rest : ∀ k, 0 < k → k < n → (k - 1) / 2 ≠ i → k ≠ i → tm es ((k - 1) / 2) ≤ tm es k
 kids : ∀ k, 0 < k → k < n → (k - 1) / 2 = i → 0 < i → tm es ((i - 1) / 2) ≤ tm es k
theorem HW.done {es : List Ev} {n i : Nat} (h : HW es n i) (hf : i = 0 ∨ tm es ((i - 1) / 2) ≤ tm es i) (hi : ∀ k, 0 < k → k < n → (k - 1) / 2 = i → tm es i ≤ tm es k) : HpN es n := fun k h1 h2 => by
 by_cases e : (k - 1) / 2 = i
 · rw [e]; exact hi k h1 h2 e
 · by_cases e2 : k = i
   · subst e2; rcases hf with h3 | h3
     · omega
     · exact h3
   · exact h.rest k h1 h2 e e2
theorem HW.down {es : List Ev} {n i j : Nat} {a b : Ev} (h : HW es n i) (hj : j < n) (hp : (j - 1) / 2 = i) (h0 : 0 < j) (hi : es[i]? = some a) (hb : es[j]? = some b) (hl : tm es j ≤ tm es i) (hm : ∀ k, 0 < k → k < n → (k - 1) / 2 = i → tm es j ≤ tm es k) : HW (swE es i j a b) n j ∧ tm (swE es i j a b) ((j - 1) / 2) ≤ tm (swE es i j a b) j := by
 have T := tm_sw hi hb
 refine ⟨⟨fun k h1 h2 h3 h4 => ?_, fun k h1 h2 h3 h4 => ?_⟩, ?_⟩
 · rw [T k, T ((k - 1) / 2), if_neg h3, if_neg h4]
   by_cases e2 : (k - 1) / 2 = i
   · rw [if_pos e2, if_neg (by omega)]; exact hm k h1 h2 e2
   · rw [if_neg e2]
     by_cases e3 : k = i
     · subst e3; rw [if_pos rfl]; exact h.kids j h0 hj hp h1
     · rw [if_neg e3]; exact h.rest k h1 h2 e2 e3
 · rw [T k, T ((j - 1) / 2), if_neg (by omega), if_pos hp, if_neg (by omega), if_neg (by omega)]
   have := h.rest k h1 h2 (by omega) (by omega)
   rw [h3] at this; exact this
 · rw [T j, T ((j - 1) / 2), if_pos rfl, if_neg (by omega), if_pos hp]; exact hl
theorem tm_app {es : List Ev} {e : Ev} {k : Nat} (h : k < es.length) : tm (es ++ [e]) k = tm es k := by unfold tm; rw [List.getElem?_append_left h]
theorem HU.push {es : List Ev} (h : HpN es es.length) (e : Ev) : HU (es ++ [e]) (es ++ [e]).length ((es ++ [e]).length - 1) := by
 have hl : (es ++ [e]).length = es.length + 1 := by simp
 rw [hl, Nat.add_sub_cancel]
 refine ⟨fun k h1 h2 h3 => ?_, fun k h1 h2 h3 h4 => by omega⟩
 rw [tm_app (by omega), tm_app (by omega)]
 exact h k h1 (by omega)
theorem HW.pop {es : List Ev} {a b : Ev} (h : HpN es es.length) (ha : es[0]? = some a) (hb : es[es.length - 1]? = some b) : HW (swE es 0 (es.length - 1) a b) (es.length - 1) 0 := by
 refine ⟨fun k h1 h2 h3 h4 => ?_, fun k h1 h2 h3 h4 => by omega⟩
 rw [tm_sw ha hb k, tm_sw ha hb ((k - 1) / 2), if_neg (by omega), if_neg (by omega), if_neg (by omega), if_neg h4]
 exact h k h1 (by omega)
theorem last_split {es : List Ev} {n : Nat} {e : Ev} (hl : es.length = n + 1) (h : es[n]? = some e) : es = es.take n ++ [e] := by
 obtain ⟨h1, rfl⟩ := List.getElem?_eq_some_iff.1 h
 rw [← List.take_succ_eq_append_getElem h1, List.take_of_length_le (by omega)]
theorem HpN.take {es : List Ev} {n : Nat} (h : HpN es n) (hn : n ≤ es.length) : HpN (es.take n) (es.take n).length := fun k h1 h2 => by
 rw [List.length_take] at h2
 have e : ∀ m, m < n → tm (es.take n) m = tm es m := fun m hm => by unfold tm; rw [List.getElem?_take, if_pos hm]
 rw [e k (by omega), e ((k - 1) / 2) (by omega)]
 exact h k h1 (by omega)
theorem HW.rem {es : List Ev} {k n : Nat} {a b : Ev} (h : HpN es es.length) (hn : es.length = n + 1) (hk : k < n) (ha : es[k]? = some a) (hb : es[n]? = some b) : HW (swE es k n a b) n k := by
 have T := tm_sw ha hb
 refine ⟨fun m h1 h2 h3 h4 => ?_, fun m h1 h2 h3 h4 => ?_⟩
 · rw [T m, T ((m - 1) / 2), if_neg (by omega), if_neg h3, if_neg (by omega), if_neg h4]
   exact h m h1 (by omega)
 · rw [T m, T ((k - 1) / 2), if_neg (by omega), if_neg (by omega), if_neg (by omega), if_neg (by omega)]
   have h5 := h m h1 (by omega)
   have h6 := h k h4 (by omega)
   rw [h3] at h5; omega
theorem HW.hu {es : List Ev} {n k : Nat} (h : HW es n k) (hc : ∀ m, 0 < m → m < n → (m - 1) / 2 = k → tm es k ≤ tm es m) : HU es n k :=
 ⟨fun m h1 h2 h3 => by
   by_cases e : (m - 1) / 2 = k
   · rw [e]; exact hc m h1 h2 e
   · exact h.rest m h1 h2 e h3, h.kids⟩
theorem HpN.less {es : List Ev} {n m : Nat} (h : HpN es n) (hm : m ≤ n) : HpN es m := fun k h1 h2 => h k h1 (by omega)

def up_r0 : List Ins := [.mv 5 1,
 .o 6 (.bin .sub (.t 5) (kI 1)),
 .o 7 (.bin .quo (.t 6) (kI 2)),
 .mv 4 7]
def up_r1 : List Ins := [.mv 8 4,
 .mv 9 1,
 .o 10 (.bin .eql (.t 8) (.t 9)),
 .mv 11 10,
 .g 12 11 false (.mov (.t 0)),
 .g 13 11 false (.mov (.t 1)),
 .g 14 11 false (.mov (.t 4)),
 ⟨(some 15), (some (11, false)), (.callM [(111, 282, (some (1, false))), (193, 288, (some (1, false)))] (.t 12) [(.t 13), (.t 14)])⟩,
 .g 16 11 false (.not (.t 15)),
 .o 17 (.pick (.t 11) (.c (.bool true)) (.t 16))]
def up_r2 : List Ins := [.mv 18 0,
 .mv 19 4,
 .mv 20 1,
 ⟨(some 21), none, (.callM [(111, 283, (some (1, false))), (193, 289, (some (1, false)))] (.t 18) [(.t 19), (.t 20)])⟩]
def up_r3 : List Ins := [.mv 22 4,
 .mv 1 22]
def up_c : IC := (.block 0 (.loop (.block 1 (.seq (.reg up_r0) (.seq (.seq (.reg up_r1) (.cond (.t 17) (.exit 0) .skip)) (.seq (.reg up_r2) (.reg up_r3)))))))
theorem up_tab : tb 161 = some (.code 2 23 up_c []) := by kernel_rfl
set_option maxHeartbeats 2000000 in
theorem up_ok {t : TB} {nx q : Nat} {lo : Nat → Prop} {lim : Int} {es : List Ev} (hq : QS t q lo nx lim es) (hql : ¬ lo q) (hlo : ∀ b, nx ≤ b → lo b) (hs : es.length < 10000) {j n : Nat} (hj : j < n) (hn : n ≤ es.length) (hH : HU es n j) : WF tb 161 [.iface 193 (.ptr q 0), .int .i64 (j : Int)] t nx (fun v t' nx' => ∃ es', v = .tup [] ∧ QS t' q lo nx' lim es' ∧ es'.Perm es ∧ es'.length = es.length ∧ (∀ k, n ≤ k → es'[k]? = es[k]?) ∧ HpN es' n ∧ nx ≤ nx' ∧ Keep t t' nx (fun b => b = q ∨ lo b)) := by
 have hqn : q < nx := Nat.lt_of_not_le (fun h => hql (hlo q h))
 refine k_fun up_tab rfl ?_
 unfold up_c
 change WC _ _ (TA.put (some _) (TA.put (some _) TA.e 0) 1) _ _ _
 refine k_block (k_loop (fun mm Tv tv nv => ∃ (i : Nat) (es2 : List Ev), i < n ∧ QS tv q lo nv lim es2 ∧ es2.Perm es ∧ es2.length = es.length ∧ (∀ k, n ≤ k → es2[k]? = es[k]?) ∧ HU es2 n i ∧ (Tv.get 0 = some (.iface 193 (.ptr q 0)) ∧ Tv.get 1 = some (.int .i64 ((i : Nat) : Int))) ∧ nx ≤ nv ∧ Keep t tv nx (fun b => b = q ∨ lo b) ∧ mm = i) (fun mm Tv tv nv hI => ?_) (j) ⟨j, es, hj, hq, List.Perm.refl _, rfl, fun _ _ => rfl, hH, ⟨(get_other rfl get_same), get_same⟩, by omega, kR, rfl⟩)
 obtain ⟨i, es2, hi, hqs, hperm, hlen, hout, hHU, ⟨q0, q1⟩, hnv, hkv, hmm⟩ := hI
 refine k_block (k_seq ?_)
 obtain ⟨v, hqr, hv_⟩ := hqs
 rcases hv_ with ⟨-, h0⟩ | ⟨d, c, r, rfl, hd1, hd2, hr, hE⟩
 · subst h0; simp at hlen; omega
 have hqnd : q ≠ d := fun e_ => hql (by rw [e_]; exact hd1)
 obtain ⟨a, ha⟩ := some_at (l := es2) (i := ((i - 1) / 2)) (by omega)
 obtain ⟨b, hb⟩ := some_at (l := es2) (i := i) (by omega)
 refine k_reg (m1 q1 (rO (o_sub eZ ev_c (by omega) (by omega)) (rO (o_half1 eZ (by omega)) (m1 ds (r_nil (k_seq (k_seq (k_reg (m1 ds (m1 (z1 (z4 q1)) ?_))))))))))
 by_cases hs1 : (((((i - 1) / 2) : Nat) : Int) = ((i : Nat) : Int))
 · refine rO (dec_t (o_eql (eV (z1 ds)) eZ) hs1) (m1 ds (r_off (wN ds) (r_off (wN (z1 ds)) (r_off (wN (z2 ds)) (r_off (wN (z1 (z2 ds))) (r_off (wN (z4 ds)) (rO (o_pick_t (eV (z1 (z4 ds))) ev_c) (r_nil (k_cond_t eZ (k_exit (exK_other rfl (exK_same ?_))))))))))))
   exact ⟨_, ans_none, es2, rfl, ⟨_, hqr, .inr ⟨d, c, r, rfl, hd1, by omega, hr, hE⟩⟩, hperm, hlen, hout, hHU.done (.inl (by omega)), by omega, hkv⟩
 refine rO (dec_f (o_eql (eV (z1 ds)) eZ) hs1) (m1 ds (r_op (o_mov (eV (z8 q0))) (want_on ds) (r_op (o_mov (eV (z1 (z8 q1)))) (want_on (z1 ds)) (r_op (o_mov (eV (z2 (z4 ds)))) (want_on (z2 ds)) (r_call (w_callM (eV (z2 ds)) (evs_cons (eV (z1 ds)) (evs_cons eZ evs_nil)) rfl (recv_load hqr rfl)) (want_on (z1 (z2 ds))) (WF.mono (evless_ok (i := i) (j := ((i - 1) / 2)) hr (by omega) hE rfl (by omega) (by omega) hb ha) ?_))))))
 rintro _ t2 n3 ⟨bl, rfl, hbl1, hbl2, hnl, hkl⟩
 refine r_op (o_not eZ) (want_on (z4 ds)) (rO (o_pick_f (eV (z1 (z4 ds))) eZ) (r_nil ?_))
 refine k_in eZ (fun hc4 => ?_) (fun hc4 => ?_)
 · refine k_exit (exK_other rfl (exK_same ?_))
   exact ⟨_, ans_none, es2, rfl, ⟨_, (Keep.look hkl (by omega) id hqr), .inr ⟨d, c, r, rfl, hd1, by omega, (Keep.look hkl (by omega) id hr), hE⟩⟩, hperm, hlen, hout, hHU.done (.inr (by rw [tm_at ha, tm_at hb]; exact hbl2 (by simp_all))), by omega, Keep.trans (hkv) hkl (by omega) ((fun _ _ h => h.elim))⟩
 refine k_skip (k_seq ?_)
 have hle : tm es2 i ≤ tm es2 ((i - 1) / 2) := by rw [tm_at ha, tm_at hb]; exact hbl1 (by simp_all)
 refine k_reg (m1 (z2 (z4 (z8 q0))) (m1 (z1 (z2 (z8 ds))) (m1 (z8 (z8 q1)) (r_call (w_callM (eV (z2 ds)) (evs_cons (eV (z1 ds)) (evs_cons eZ evs_nil)) rfl (recv_load (Keep.look hkl (by omega) id hqr) rfl)) rfl (WF.mono (evswap_ok (i := ((i - 1) / 2)) (j := i) (Keep.look hkl (by omega) id hr) (by omega) hE rfl (by omega) (by omega) ha hb) ?_)))))
 rintro _ t5 n6 ⟨rs, rfl, hrs, hEs, hns, hks⟩
 refine r_nil (k_reg (m1 (z2 (z4 (z8 ds))) (m1 ds (r_nil ?_))))
 exact ⟨((i - 1) / 2), by omega, ((i - 1) / 2), swE es2 ((i - 1) / 2) i a b, by omega, ⟨_, (Keep.look hks (by omega) (fun h_ => absurd (show q = d from h_) (by omega)) (Keep.look hkl (by omega) id hqr)), .inr ⟨d, c, _, by rw [swE_len], hd1, by omega, hrs, hEs⟩⟩, (swE_perm ha hb).trans hperm, by rw [swE_len]; exact hlen, (fun k hk => by rw [swE_get ha hb, if_neg (by omega), if_neg (by omega)]; exact hout k hk), hHU.up (by omega) hi ha hb hle, ⟨(z4 (z8 (z8 q0))), ds⟩, by omega, Keep.trans (Keep.trans (hkv) hkl (by omega) ((fun _ _ h => h.elim))) hks (by omega) ((fun b hb e => .inr (by have e_ : b = d := e; rw [e_]; exact hd1))), rfl⟩
def down_r0 : List Ins := [.o 6 (.mov (.c (.bool false)))]
def down_r1 : List Ins := [.mv 11 1,
 .mv 7 11]
def down_r2 : List Ins := [.mv 12 7,
 .o 13 (.bin .mul (kI 2) (.t 12)),
 .o 14 (.bin .add (.t 13) (kI 1)),
 .mv 8 14]
def down_r3 : List Ins := [.mv 15 8,
 .mv 16 2,
 .o 17 (.bin .geq (.t 15) (.t 16)),
 .mv 18 17,
 .g 19 18 false (.mov (.t 8)),
 .g 20 18 false (.bin .lss (.t 19) (kI 0)),
 .o 21 (.pick (.t 18) (.c (.bool true)) (.t 20))]
def down_r4 : List Ins := [.mv 22 8,
 .mv 9 22]
def down_r5 : List Ins := [.mv 23 8,
 .o 24 (.bin .add (.t 23) (kI 1)),
 .mv 10 24]
def down_r6 : List Ins := [.mv 25 10,
 .mv 26 2,
 .o 27 (.bin .lss (.t 25) (.t 26)),
 .mv 28 27,
 .g 29 28 true (.mov (.t 0)),
 .g 30 28 true (.mov (.t 10)),
 .g 31 28 true (.mov (.t 8)),
 ⟨(some 32), (some (28, true)), (.callM [(111, 282, (some (1, false))), (193, 288, (some (1, false)))] (.t 29) [(.t 30), (.t 31)])⟩,
 .o 33 (.pick (.t 28) (.t 32) (.c (.bool false)))]
def down_r7 : List Ins := [.mv 34 10,
 .mv 9 34]
def down_r8 : List Ins := [.mv 35 0,
 .mv 36 9,
 .mv 37 7,
 ⟨(some 38), none, (.callM [(111, 282, (some (1, false))), (193, 288, (some (1, false)))] (.t 35) [(.t 36), (.t 37)])⟩,
 .o 39 (.not (.t 38))]
def down_r9 : List Ins := [.mv 40 0,
 .mv 41 7,
 .mv 42 9,
 ⟨(some 43), none, (.callM [(111, 283, (some (1, false))), (193, 289, (some (1, false)))] (.t 40) [(.t 41), (.t 42)])⟩]
def down_r10 : List Ins := [.mv 44 9,
 .mv 7 44]
def down_r11 : List Ins := [.mv 45 7,
 .mv 46 1,
 .o 47 (.bin .gtr (.t 45) (.t 46)),
 .mv 6 47]
def down_c : IC := (.seq (.reg down_r0) (.seq (.reg down_r1) (.seq (.block 0 (.loop (.block 1 (.seq (.reg down_r2) (.seq (.seq (.reg down_r3) (.cond (.t 21) (.exit 0) .skip)) (.seq (.reg down_r4) (.seq (.seq (.reg down_r5) (.seq (.reg down_r6) (.cond (.t 33) (.reg down_r7) .skip))) (.seq (.seq (.reg down_r8) (.cond (.t 39) (.exit 0) .skip)) (.seq (.reg down_r9) (.reg down_r10)))))))))) (.seq (.reg down_r11) .ret))))
theorem down_tab : tb 109 = some (.code 3 48 down_c [.tmp 6]) := by kernel_rfl
set_option maxHeartbeats 4000000 in
theorem down_ok {t : TB} {nx q : Nat} {lo : Nat → Prop} {lim : Int} {es : List Ev} (hq : QS t q lo nx lim es) (hql : ¬ lo q) (hlo : ∀ b, nx ≤ b → lo b) (hs : es.length < 10000) {i0 n : Nat} (hi0 : i0 < n ∨ n = 0 ∧ i0 = 0) (hn : n ≤ es.length) (h1 : 0 < es.length) (hH : HW es n i0) : WF tb 109 [.iface 193 (.ptr q 0), .int .i64 (i0 : Int), .int .i64 (n : Int)] t nx (fun v t' nx' => ∃ (es' : List Ev) (mv : Bool), v = .bool mv ∧ QS t' q lo nx' lim es' ∧ es'.Perm es ∧ es'.length = es.length ∧ (∀ k, n ≤ k → es'[k]? = es[k]?) ∧ (mv = true → HpN es' n) ∧ (mv = false → es' = es ∧ ∀ k, 0 < k → k < n → (k - 1) / 2 = i0 → tm es i0 ≤ tm es k) ∧ nx ≤ nx' ∧ Keep t t' nx (fun b => b = q ∨ lo b)) := by
 have hqn : q < nx := Nat.lt_of_not_le (fun h => hql (hlo q h))
 refine k_fun down_tab rfl ?_
 unfold down_c
 change WC _ _ (TA.put (some _) (TA.put (some _) (TA.put (some _) TA.e 0) 1) 2) _ _ _
 refine k_seq (k_reg (rO (o_mov ev_c) (r_nil (k_seq (k_reg (m1 (z1 (get_other rfl get_same)) (m1 ds (r_nil (k_seq (k_block (k_loop (fun mm Tv tv nv => ∃ (i : Nat) (es2 : List Ev), (i < n ∨ n = 0 ∧ i = 0) ∧ QS tv q lo nv lim es2 ∧ es2.Perm es ∧ es2.length = es.length ∧ (∀ k, n ≤ k → es2[k]? = es[k]?) ∧ HW es2 n i ∧ (i = i0 ∧ es2 = es ∨ i0 < i ∧ tm es2 ((i - 1) / 2) ≤ tm es2 i) ∧ (Tv.get 0 = some (.iface 193 (.ptr q 0)) ∧ Tv.get 1 = some (.int .i64 ((i0 : Nat) : Int)) ∧ Tv.get 2 = some (.int .i64 ((n : Nat) : Int)) ∧ Tv.get 7 = some (.int .i64 ((i : Nat) : Int))) ∧ nx ≤ nv ∧ Keep t tv nx (fun b => b = q ∨ lo b) ∧ mm + i = n) (fun mm Tv tv nv hI => ?_) ((n - i0)) ⟨i0, es, hi0, hq, List.Perm.refl _, rfl, fun _ _ => rfl, hH, .inl ⟨rfl, rfl⟩, ⟨(z1 (z2 (get_other rfl (get_other rfl get_same)))), (z1 (z2 (get_other rfl get_same))), (z1 (z2 get_same)), ds⟩, by omega, kR, by omega⟩)))))))))))
 obtain ⟨i, es2, hi, hqs, hperm, hlen, hout, hHW, hst, ⟨q0, q1, q2, q7⟩, hnv, hkv, hmm⟩ := hI
 refine k_block (k_seq ?_)
 obtain ⟨v, hqr, hv_⟩ := hqs
 rcases hv_ with ⟨-, h0⟩ | ⟨d, c, r, rfl, hd1, hd2, hr, hE⟩
 · subst h0; simp at hlen; omega
 have hqnd : q ≠ d := fun e_ => hql (by rw [e_]; exact hd1)
 refine k_reg (m1 q7 (rO (o_mulN (a := 2) (b := i) ev_c eZ (by omega)) (rO (o_addN (a := (2 * i)) (b := 1) eZ ev_c (by omega)) (m1 ds (r_nil (k_seq (k_seq (k_reg (m1 ds (m1 (z1 (z4 q2)) ?_))))))))))
 by_cases hs1 : ((((2 * i) + 1 : Nat) : Int) < ((n : Nat) : Int))
 · refine rO (ndec_f (o_geq (eV (z1 ds)) eZ) hs1) (m1 ds (r_op (o_mov (eV (z4 ds))) (want_on ds) (r_op (o_lss eZ ev_c) (want_on (z1 ds)) (rO (o_pick_f (eV (z2 ds)) eZ) (r_nil ?_)))))
   refine k_if eZ (fun hc2 => ?_) (fun hc2 => ?_)
   · refine k_exit (exK_other rfl (exK_same (k_seq ?_)))
     have hch : ∀ k, 0 < k → k < n → (k - 1) / 2 = i → tm es2 i ≤ tm es2 k := fun k k1 k2 k3 => by omega
     refine k_reg (m1 (z1 (z2 (z8 q7))) (m1 (z4 (z8 q1)) (rO (o_gtr (eV (z1 ds)) eZ) (m1 ds (r_nil (k_ret ?_))))))
     refine ⟨_, ans_tmp ds, es2, _, rfl, ⟨_, hqr, .inr ⟨d, c, r, rfl, hd1, by omega, hr, hE⟩⟩, hperm, hlen, hout, fun hm_ => ?_, fun hm_ => ?_, by omega, hkv⟩
     · have hm2 := of_decide_eq_true hm_
       rcases hst with ⟨e1, -⟩ | ⟨-, e2⟩
       · omega
       exact hHW.done (.inr e2) hch
     have hm2 := of_decide_eq_false hm_
     rcases hst with ⟨e1, e2⟩ | ⟨e1, -⟩
     · subst e1; subst e2; exact ⟨rfl, hch⟩
     omega
   refine k_skip (k_seq ?_)
   obtain ⟨a, ha⟩ := some_at (l := es2) (i := i) (by omega)
   obtain ⟨b1, hb1⟩ := some_at (l := es2) (i := 2 * i + 1) (by omega)
   refine k_reg (m1 (z1 (z2 (z4 ds))) (m1 ds (r_nil (k_seq (k_seq (k_reg (m1 (z1 (z8 ds)) (rO (o_addN (a := ((2 * i) + 1)) (b := 1) eZ ev_c (by omega)) (m1 ds (r_nil (k_seq (k_reg (m1 ds (m1 (z1 (z8 (z8 q2))) ?_))))))))))))))
   by_cases hs3 : (((((2 * i) + 1) + 1 : Nat) : Int) < ((n : Nat) : Int))
   · refine rO (dec_t (o_lss (eV (z1 ds)) eZ) hs3) (m1 ds (r_op (o_mov (eV (z4 (z8 (z8 q0))))) (want_on ds) (r_op (o_mov (eV (z1 (z4 ds)))) (want_on (z1 ds)) (r_op (o_mov (eV (z2 (z8 (z8 ds))))) (want_on (z2 ds)) ?_))))
     obtain ⟨b2, hb2⟩ := some_at (l := es2) (i := 2 * i + 1 + 1) (by omega)
     refine r_call (w_callM (eV (z2 ds)) (evs_cons (eV (z1 ds)) (evs_cons eZ evs_nil)) rfl (recv_load hqr rfl)) (want_on (z1 (z2 ds))) (WF.mono (evless_ok (i := (2 * i + 1 + 1)) (j := (2 * i + 1)) hr (by omega) hE rfl (by omega) (by omega) hb2 hb1) ?_)
     rintro _ t4 n5 ⟨bl, rfl, hbl1, hbl2, hnl, hkl⟩
     refine rO (o_pick_t (eV (z4 ds)) eZ) (r_nil ?_)
     refine k_if eZ (fun hc6 => ?_) (fun hc6 => ?_)
     · refine k_reg (m1 (z1 (z8 ds)) (m1 ds (r_nil (k_seq (k_seq ?_)))))
       have hc12 : tm es2 (2 * i + 1 + 1) ≤ tm es2 (2 * i + 1) := by rw [tm_at hb1, tm_at hb2]; exact hbl1 (by simp_all)
       have hmin : ∀ k, 0 < k → k < n → (k - 1) / 2 = i → tm es2 (2 * i + 1 + 1) ≤ tm es2 k := fun k k1 k2 k3 => by
         rcases (show k = (2 * i + 1) ∨ k = (2 * i + 1 + 1) by omega) with rfl | rfl
         · exact hc12
         exact Int.le_refl _
       refine k_reg (m1 (z1 (z2 (z8 (z8 (z8 q0))))) (m1 (z1 ds) (m1 (z1 (z4 (z8 (z8 (z8 q7))))) (r_call (w_callM (eV (z2 ds)) (evs_cons (eV (z1 ds)) (evs_cons eZ evs_nil)) rfl (recv_load (Keep.look hkl (by omega) id hqr) rfl)) rfl (WF.mono (evless_ok (i := (2 * i + 1 + 1)) (j := i) (Keep.look hkl (by omega) id hr) (by omega) hE rfl (by omega) (by omega) hb2 ha) ?_)))))
       rintro _ t7 n8 ⟨bm, rfl, hbm1, hbm2, hnm, hkm⟩
       refine rO (o_not eZ) (r_nil ?_)
       refine k_in eZ (fun hc9 => ?_) (fun hc9 => ?_)
       · refine k_exit (exK_other rfl (exK_same (k_seq ?_)))
         have hch : ∀ k, 0 < k → k < n → (k - 1) / 2 = i → tm es2 i ≤ tm es2 k := fun k k1 k2 k3 => Int.le_trans (by rw [tm_at ha, tm_at hb2]; exact hbm2 (by simp_all)) (hmin k k1 k2 k3)
         refine k_reg (m1 (z8 (z8 (z8 (z8 q7)))) (m1 (z1 (z8 (z8 (z8 (z8 q1))))) (rO (o_gtr (eV (z1 ds)) eZ) (m1 ds (r_nil (k_ret ?_))))))
         refine ⟨_, ans_tmp ds, es2, _, rfl, ⟨_, (Keep.look hkm (by omega) id (Keep.look hkl (by omega) id hqr)), .inr ⟨d, c, r, rfl, hd1, by omega, (Keep.look hkm (by omega) id (Keep.look hkl (by omega) id hr)), hE⟩⟩, hperm, hlen, hout, fun hm_ => ?_, fun hm_ => ?_, by omega, Keep.trans (Keep.trans (hkv) hkl (by omega) ((fun _ _ h => h.elim))) hkm (by omega) ((fun _ _ h => h.elim))⟩
         · have hm2 := of_decide_eq_true hm_
           rcases hst with ⟨e1, -⟩ | ⟨-, e2⟩
           · omega
           exact hHW.done (.inr e2) hch
         have hm2 := of_decide_eq_false hm_
         rcases hst with ⟨e1, e2⟩ | ⟨e1, -⟩
         · subst e1; subst e2; exact ⟨rfl, hch⟩
         omega
       refine k_skip (k_seq ?_)
       have hle : tm es2 (2 * i + 1 + 1) ≤ tm es2 i := by rw [tm_at ha, tm_at hb2]; exact hbm1 (by simp_all)
       refine k_reg (m1 (z8 (z8 (z8 (z8 q0)))) (m1 (z1 (z8 (z8 (z8 (z8 q7))))) (m1 (z1 (z2 (z4 ds))) (r_call (w_callM (eV (z2 ds)) (evs_cons (eV (z1 ds)) (evs_cons eZ evs_nil)) rfl (recv_load (Keep.look hkm (by omega) id (Keep.look hkl (by omega) id hqr)) rfl)) rfl (WF.mono (evswap_ok (i := i) (j := (2 * i + 1 + 1)) (Keep.look hkm (by omega) id (Keep.look hkl (by omega) id hr)) (by omega) hE rfl (by omega) (by omega) ha hb2) ?_)))))
       rintro _ t10 n11 ⟨rs, rfl, hrs, hEs, hns, hks⟩
       refine r_nil (k_reg (m1 (z1 (z8 ds)) (m1 ds (r_nil ?_))))
       obtain ⟨hW1, hW2⟩ := hHW.down (j := (((2 * i) + 1) + 1)) (by omega) (by omega) (by omega) ha hb2 hle hmin
       exact ⟨n - (((2 * i) + 1) + 1), by omega, (((2 * i) + 1) + 1), swE es2 i (((2 * i) + 1) + 1) a b2, by omega, ⟨_, (Keep.look hks (by omega) (fun h_ => absurd (show q = d from h_) (by omega)) (Keep.look hkm (by omega) id (Keep.look hkl (by omega) id hqr))), .inr ⟨d, c, _, by rw [swE_len], hd1, by omega, hrs, hEs⟩⟩, (swE_perm ha hb2).trans hperm, by rw [swE_len]; exact hlen, (fun k hk => by rw [swE_get ha hb2, if_neg (by omega), if_neg (by omega)]; exact hout k hk), hW1, .inr ⟨by omega, hW2⟩, ⟨(z2 (z4 (z8 (z8 (z8 (z8 q0)))))), (z2 (z4 (z8 (z8 (z8 (z8 q1)))))), (z2 (z4 (z8 (z8 (z8 (z8 q2)))))), ds⟩, by omega, Keep.trans (Keep.trans (Keep.trans (hkv) hkl (by omega) ((fun _ _ h => h.elim))) hkm (by omega) ((fun _ _ h => h.elim))) hks (by omega) ((fun b hb e => .inr (by have e_ : b = d := e; rw [e_]; exact hd1))), by omega⟩
     refine k_skip (k_seq (k_seq ?_))
     have hc12 : tm es2 (2 * i + 1) ≤ tm es2 (2 * i + 1 + 1) := by rw [tm_at hb1, tm_at hb2]; exact hbl2 (by simp_all)
     have hmin : ∀ k, 0 < k → k < n → (k - 1) / 2 = i → tm es2 (2 * i + 1) ≤ tm es2 k := fun k k1 k2 k3 => by
       rcases (show k = (2 * i + 1) ∨ k = (2 * i + 1 + 1) by omega) with rfl | rfl
       · exact Int.le_refl _
       exact hc12
     refine k_reg (m1 (z1 (z8 (z8 (z8 q0)))) (m1 (z1 (z4 (z8 ds))) (m1 (z1 (z2 (z8 (z8 (z8 q7))))) (r_call (w_callM (eV (z2 ds)) (evs_cons (eV (z1 ds)) (evs_cons eZ evs_nil)) rfl (recv_load (Keep.look hkl (by omega) id hqr) rfl)) rfl (WF.mono (evless_ok (i := (2 * i + 1)) (j := i) (Keep.look hkl (by omega) id hr) (by omega) hE rfl (by omega) (by omega) hb1 ha) ?_)))))
     rintro _ t12 n13 ⟨bm, rfl, hbm1, hbm2, hnm, hkm⟩
     refine rO (o_not eZ) (r_nil ?_)
     refine k_in eZ (fun hc14 => ?_) (fun hc14 => ?_)
     · refine k_exit (exK_other rfl (exK_same (k_seq ?_)))
       have hch : ∀ k, 0 < k → k < n → (k - 1) / 2 = i → tm es2 i ≤ tm es2 k := fun k k1 k2 k3 => Int.le_trans (by rw [tm_at ha, tm_at hb1]; exact hbm2 (by simp_all)) (hmin k k1 k2 k3)
       refine k_reg (m1 (z2 (z4 (z8 (z8 (z8 q7))))) (rO (o_mov (eV (z1 (z2 (z4 (z8 (z8 (z8 q1)))))))) (rO (o_gtr (eV (z1 ds)) eZ) (m1 ds (r_nil (k_ret ?_))))))
       refine ⟨_, ans_tmp ds, es2, _, rfl, ⟨_, (Keep.look hkm (by omega) id (Keep.look hkl (by omega) id hqr)), .inr ⟨d, c, r, rfl, hd1, by omega, (Keep.look hkm (by omega) id (Keep.look hkl (by omega) id hr)), hE⟩⟩, hperm, hlen, hout, fun hm_ => ?_, fun hm_ => ?_, by omega, Keep.trans (Keep.trans (hkv) hkl (by omega) ((fun _ _ h => h.elim))) hkm (by omega) ((fun _ _ h => h.elim))⟩
       · have hm2 := of_decide_eq_true hm_
         rcases hst with ⟨e1, -⟩ | ⟨-, e2⟩
         · omega
         exact hHW.done (.inr e2) hch
       have hm2 := of_decide_eq_false hm_
       rcases hst with ⟨e1, e2⟩ | ⟨e1, -⟩
       · subst e1; subst e2; exact ⟨rfl, hch⟩
       omega
     refine k_skip (k_seq ?_)
     have hle : tm es2 (2 * i + 1) ≤ tm es2 i := by rw [tm_at ha, tm_at hb1]; exact hbm1 (by simp_all)
     refine k_reg (m1 (z2 (z4 (z8 (z8 (z8 q0))))) (rO (o_mov (eV (z1 (z2 (z4 (z8 (z8 (z8 q7)))))))) (m1 (z1 (z2 (z8 (z8 ds)))) (r_call (w_callM (eV (z2 ds)) (evs_cons (eV (z1 ds)) (evs_cons eZ evs_nil)) rfl (recv_load (Keep.look hkm (by omega) id (Keep.look hkl (by omega) id hqr)) rfl)) rfl (WF.mono (evswap_ok (i := i) (j := (2 * i + 1)) (Keep.look hkm (by omega) id (Keep.look hkl (by omega) id hr)) (by omega) hE rfl (by omega) (by omega) ha hb1) ?_)))))
     rintro _ t15 n16 ⟨rs, rfl, hrs, hEs, hns, hks⟩
     refine r_nil (k_reg (m1 (z1 (z4 (z8 (z8 ds)))) (m1 ds (r_nil ?_))))
     obtain ⟨hW1, hW2⟩ := hHW.down (j := ((2 * i) + 1)) (by omega) (by omega) (by omega) ha hb1 hle hmin
     exact ⟨n - ((2 * i) + 1), by omega, ((2 * i) + 1), swE es2 i ((2 * i) + 1) a b1, by omega, ⟨_, (Keep.look hks (by omega) (fun h_ => absurd (show q = d from h_) (by omega)) (Keep.look hkm (by omega) id (Keep.look hkl (by omega) id hqr))), .inr ⟨d, c, _, by rw [swE_len], hd1, by omega, hrs, hEs⟩⟩, (swE_perm ha hb1).trans hperm, by rw [swE_len]; exact hlen, (fun k hk => by rw [swE_get ha hb1, if_neg (by omega), if_neg (by omega)]; exact hout k hk), hW1, .inr ⟨by omega, hW2⟩, ⟨(z4 (z8 (z8 (z8 (z8 q0))))), (z4 (z8 (z8 (z8 (z8 q1))))), (z4 (z8 (z8 (z8 (z8 q2))))), ds⟩, by omega, Keep.trans (Keep.trans (Keep.trans (hkv) hkl (by omega) ((fun _ _ h => h.elim))) hkm (by omega) ((fun _ _ h => h.elim))) hks (by omega) ((fun b hb e => .inr (by have e_ : b = d := e; rw [e_]; exact hd1))), by omega⟩
   refine rO (dec_f (o_lss (eV (z1 ds)) eZ) hs3) (m1 ds (r_off (wN ds) (r_off (wN (z1 ds)) (r_off (wN (z2 ds)) (r_off (wN (z1 (z2 ds))) (rO (o_pick_f (eV (z4 ds)) ev_c) (r_nil (k_cond_f eZ (k_skip (k_seq (k_seq ?_)))))))))))
   have hmin : ∀ k, 0 < k → k < n → (k - 1) / 2 = i → tm es2 (2 * i + 1) ≤ tm es2 k := fun k k1 k2 k3 => by
     rcases (show k = (2 * i + 1) ∨ k = (2 * i + 1 + 1) by omega) with rfl | rfl
     · exact Int.le_refl _
     exact absurd k2 (by omega)
   refine k_reg (m1 (z1 (z8 (z8 (z8 q0)))) (m1 (z1 (z4 (z8 ds))) (m1 (z1 (z2 (z8 (z8 (z8 q7))))) (r_call (w_callM (eV (z2 ds)) (evs_cons (eV (z1 ds)) (evs_cons eZ evs_nil)) rfl (recv_load hqr rfl)) rfl (WF.mono (evless_ok (i := (2 * i + 1)) (j := i) hr (by omega) hE rfl (by omega) (by omega) hb1 ha) ?_)))))
   rintro _ t17 n18 ⟨bm, rfl, hbm1, hbm2, hnm, hkm⟩
   refine rO (o_not eZ) (r_nil ?_)
   refine k_in eZ (fun hc19 => ?_) (fun hc19 => ?_)
   · refine k_exit (exK_other rfl (exK_same (k_seq ?_)))
     have hch : ∀ k, 0 < k → k < n → (k - 1) / 2 = i → tm es2 i ≤ tm es2 k := fun k k1 k2 k3 => Int.le_trans (by rw [tm_at ha, tm_at hb1]; exact hbm2 (by simp_all)) (hmin k k1 k2 k3)
     refine k_reg (m1 (z2 (z4 (z8 (z8 (z8 q7))))) (rO (o_mov (eV (z1 (z2 (z4 (z8 (z8 (z8 q1)))))))) (rO (o_gtr (eV (z1 ds)) eZ) (m1 ds (r_nil (k_ret ?_))))))
     refine ⟨_, ans_tmp ds, es2, _, rfl, ⟨_, (Keep.look hkm (by omega) id hqr), .inr ⟨d, c, r, rfl, hd1, by omega, (Keep.look hkm (by omega) id hr), hE⟩⟩, hperm, hlen, hout, fun hm_ => ?_, fun hm_ => ?_, by omega, Keep.trans (hkv) hkm (by omega) ((fun _ _ h => h.elim))⟩
     · have hm2 := of_decide_eq_true hm_
       rcases hst with ⟨e1, -⟩ | ⟨-, e2⟩
       · omega
       exact hHW.done (.inr e2) hch
     have hm2 := of_decide_eq_false hm_
     rcases hst with ⟨e1, e2⟩ | ⟨e1, -⟩
     · subst e1; subst e2; exact ⟨rfl, hch⟩
     omega
   refine k_skip (k_seq ?_)
   have hle : tm es2 (2 * i + 1) ≤ tm es2 i := by rw [tm_at ha, tm_at hb1]; exact hbm1 (by simp_all)
   refine k_reg (m1 (z2 (z4 (z8 (z8 (z8 q0))))) (rO (o_mov (eV (z1 (z2 (z4 (z8 (z8 (z8 q7)))))))) (m1 (z1 (z2 (z8 (z8 ds)))) (r_call (w_callM (eV (z2 ds)) (evs_cons (eV (z1 ds)) (evs_cons eZ evs_nil)) rfl (recv_load (Keep.look hkm (by omega) id hqr) rfl)) rfl (WF.mono (evswap_ok (i := i) (j := (2 * i + 1)) (Keep.look hkm (by omega) id hr) (by omega) hE rfl (by omega) (by omega) ha hb1) ?_)))))
   rintro _ t20 n21 ⟨rs, rfl, hrs, hEs, hns, hks⟩
   refine r_nil (k_reg (m1 (z1 (z4 (z8 (z8 ds)))) (m1 ds (r_nil ?_))))
   obtain ⟨hW1, hW2⟩ := hHW.down (j := ((2 * i) + 1)) (by omega) (by omega) (by omega) ha hb1 hle hmin
   exact ⟨n - ((2 * i) + 1), by omega, ((2 * i) + 1), swE es2 i ((2 * i) + 1) a b1, by omega, ⟨_, (Keep.look hks (by omega) (fun h_ => absurd (show q = d from h_) (by omega)) (Keep.look hkm (by omega) id hqr)), .inr ⟨d, c, _, by rw [swE_len], hd1, by omega, hrs, hEs⟩⟩, (swE_perm ha hb1).trans hperm, by rw [swE_len]; exact hlen, (fun k hk => by rw [swE_get ha hb1, if_neg (by omega), if_neg (by omega)]; exact hout k hk), hW1, .inr ⟨by omega, hW2⟩, ⟨(z4 (z8 (z8 (z8 (z8 q0))))), (z4 (z8 (z8 (z8 (z8 q1))))), (z4 (z8 (z8 (z8 (z8 q2))))), ds⟩, by omega, Keep.trans (Keep.trans (hkv) hkm (by omega) ((fun _ _ h => h.elim))) hks (by omega) ((fun b hb e => .inr (by have e_ : b = d := e; rw [e_]; exact hd1))), by omega⟩
 refine rO (ndec_t (o_geq (eV (z1 ds)) eZ) hs1) (m1 ds (r_off (wN ds) (r_off (wN (z1 ds)) (rO (o_pick_t (eV (z2 ds)) ev_c) (r_nil (k_cond_t eZ (k_exit (exK_other rfl (exK_same (k_seq ?_))))))))))
 have hch : ∀ k, 0 < k → k < n → (k - 1) / 2 = i → tm es2 i ≤ tm es2 k := fun k k1 k2 k3 => by omega
 refine k_reg (m1 (z1 (z2 (z8 q7))) (m1 (z4 (z8 q1)) (rO (o_gtr (eV (z1 ds)) eZ) (m1 ds (r_nil (k_ret ?_))))))
 refine ⟨_, ans_tmp ds, es2, _, rfl, ⟨_, hqr, .inr ⟨d, c, r, rfl, hd1, by omega, hr, hE⟩⟩, hperm, hlen, hout, fun hm_ => ?_, fun hm_ => ?_, by omega, hkv⟩
 · have hm2 := of_decide_eq_true hm_
   rcases hst with ⟨e1, -⟩ | ⟨-, e2⟩
   · omega
   exact hHW.done (.inr e2) hch
 have hm2 := of_decide_eq_false hm_
 rcases hst with ⟨e1, e2⟩ | ⟨e1, -⟩
 · subst e1; subst e2; exact ⟨rfl, hch⟩
 omega
def hpush_r0 : List Ins := [.mv 4 0,
 .mv 5 1,
 ⟨(some 6), none, (.callM [(111, 285, none), (193, 293, none)] (.t 4) [(.t 5)])⟩]
def hpush_r1 : List Ins := [.mv 7 0,
 .mv 8 0,
 ⟨(some 9), none, (.callM [(111, 281, (some (1, false))), (193, 287, (some (1, false)))] (.t 8) [])⟩,
 .o 10 (.bin .sub (.t 9) (kI 1)),
 .f 11 161 [(.t 7), (.t 10)]]
def hpush_c : IC := (.seq (.reg hpush_r0) (.reg hpush_r1))
theorem hpush_tab : tb 111 = some (.code 2 12 hpush_c []) := by kernel_rfl
theorem hpush_ok {t : TB} {nx q : Nat} {lo : Nat → Prop} {lim : Int} {es : List Ev} (hq : QS t q lo nx lim es) (hql : ¬ lo q) (hlo : ∀ b, nx ≤ b → lo b) (hs : es.length < 9999) {e : Ev} (hH : HpN es es.length) : WF tb 111 [.iface 193 (.ptr q 0), .iface 66 (.agg (ecells e))] t nx (fun v t' nx' => ∃ es', v = .tup [] ∧ QS t' q lo nx' lim es' ∧ es'.Perm (es ++ [e]) ∧ HpN es' es'.length ∧ nx ≤ nx' ∧ Keep t t' nx (fun b => b = q ∨ lo b)) := by
 have hqn : q < nx := Nat.lt_of_not_le (fun h => hql (hlo q h))
 have hl : (es ++ [e]).length = es.length + 1 := by simp
 refine k_fun hpush_tab rfl ?_
 unfold hpush_c
 change WC _ _ (TA.put (some _) (TA.put (some _) TA.e 0) 1) _ _ _
 refine k_seq (k_reg (m1 (get_other rfl get_same) (m1 (z1 get_same) (r_call (w_callM (eV (z1 ds)) (evs_cons eZ evs_nil) rfl rfl) rfl (WF.mono (evpush_ok hq hql hlo (by omega)) ?_)))))
 rintro _ t1 n2 ⟨rfl, hqs, hn_p, hk_p⟩
 obtain ⟨v, hqr, hv_⟩ := hqs
 rcases hv_ with ⟨-, h0⟩ | ⟨d, c, r, rfl, hd1, hd2, hr, hE⟩
 · simp at h0
 have hqnd : q ≠ d := fun e_ => hql (by rw [e_]; exact hd1)
 have hqs2 : QS t1 q lo n2 lim (es ++ [e]) := ⟨_, hqr, .inr ⟨d, c, r, rfl, hd1, hd2, hr, hE⟩⟩
 refine r_nil (k_reg (m1 (z1 (z2 (get_other rfl get_same))) (m1 (z4 (get_other rfl get_same)) (r_call (w_callM eZ evs_nil rfl (recv_load hqr rfl)) rfl (WF.mono (evlen_ok) ?_)))))
 rintro _ t3 n4 ⟨rfl, hn_l, hk_l⟩
 have hqs3 : QS t3 q lo n4 lim (es ++ [e]) := ⟨_, hk_l.look (by omega) id hqr, .inr ⟨d, c, r, rfl, hd1, by omega, hk_l.look (by omega) id hr, hE⟩⟩
 refine rO (o_subN (a := ((es ++ [e]).length)) (b := 1) eZ ev_c (by omega) (by omega)) (r_call (w_callF (evs_cons (eV (z1 (z2 ds))) (evs_cons eZ evs_nil))) rfl (WF.mono (up_ok (es := es ++ [e]) (j := (es ++ [e]).length - 1) (n := (es ++ [e]).length) hqs3 hql (fun b hb => hlo b (by omega)) (by omega) (by omega) (Nat.le_refl _) (HU.push hH e)) ?_))
 rintro _ t5 n6 ⟨es2, rfl, hqu, hpu, hlu, hou, hhu, hn_u, hk_u⟩
 refine r_nil ?_
 exact ⟨_, ans_none, es2, rfl, hqu, hpu, by rw [hlu]; exact hhu, by omega, Keep.trans (Keep.trans (Keep.trans kR hk_p (by omega) ((fun _ _ h => h))) hk_l (by omega) ((fun _ _ h => h.elim))) hk_u (by omega) ((fun _ _ h => h))⟩
def hpop_r0 : List Ins := [.o 2 (.mov (.c .niface))]
def hpop_r1 : List Ins := [.mv 4 0,
 ⟨(some 5), none, (.callM [(111, 281, (some (1, false))), (193, 287, (some (1, false)))] (.t 4) [])⟩,
 .o 6 (.bin .sub (.t 5) (kI 1)),
 .mv 3 6]
def hpop_r2 : List Ins := [.mv 7 0,
 .mv 8 3,
 ⟨(some 9), none, (.callM [(111, 283, (some (1, false))), (193, 289, (some (1, false)))] (.t 7) [(kI 0), (.t 8)])⟩]
def hpop_r3 : List Ins := [.mv 10 0,
 .mv 11 3,
 .f 12 109 [(.t 10), (kI 0), (.t 11)]]
def hpop_r4 : List Ins := [.mv 13 0,
 ⟨(some 14), none, (.callM [(111, 284, none), (193, 292, none)] (.t 13) [])⟩,
 .mv 2 14]
def hpop_c : IC := (.seq (.reg hpop_r0) (.seq (.reg hpop_r1) (.seq (.reg hpop_r2) (.seq (.reg hpop_r3) (.seq (.reg hpop_r4) .ret)))))
theorem hpop_tab : tb 56 = some (.code 1 15 hpop_c [.tmp 2]) := by kernel_rfl
theorem hpop_ok {t : TB} {nx q : Nat} {lo : Nat → Prop} {lim : Int} {es : List Ev} (hq : QS t q lo nx lim es) (hql : ¬ lo q) (hlo : ∀ b, nx ≤ b → lo b) (hs : es.length < 10000) {e : Ev} (hH : HpN es es.length) (ha : es[0]? = some e) : WF tb 56 [.iface 193 (.ptr q 0)] t nx (fun v t' nx' => ∃ es', v = .iface 66 (.agg (ecells e)) ∧ QS t' q lo nx' lim es' ∧ (es' ++ [e]).Perm es ∧ HpN es' es'.length ∧ nx ≤ nx' ∧ Keep t t' nx (fun b => b = q ∨ lo b)) := by
 have hqn : q < nx := Nat.lt_of_not_le (fun h => hql (hlo q h))
 have hl0 : 0 < es.length := (List.getElem?_eq_some_iff.1 ha).1
 obtain ⟨b, hb⟩ := some_at (l := es) (i := es.length - 1) (by omega)
 obtain ⟨v, hqr, hv_⟩ := hq
 rcases hv_ with ⟨-, h0⟩ | ⟨d, c, r, rfl, hd1, hd2, hr, hE⟩
 · subst h0; simp at hl0
 have hqnd : q ≠ d := fun e_ => hql (by rw [e_]; exact hd1)
 refine k_fun hpop_tab rfl ?_
 unfold hpop_c
 change WC _ _ (TA.put (some _) TA.e 0) _ _ _
 refine k_seq (k_reg (rO (o_mov ev_c) (r_nil (k_seq (k_reg (m1 (z1 get_same) (r_call (w_callM eZ evs_nil rfl (recv_load hqr rfl)) rfl (WF.mono (evlen_ok) ?_))))))))
 rintro _ t1 n2 ⟨rfl, hn_l, hk_l⟩
 refine rO (o_subN (a := es.length) (b := 1) eZ ev_c (by omega) (by omega)) (m1 ds (r_nil (k_seq (k_reg (m1 (z1 (z4 get_same)) (m1 (z1 ds) (r_call (w_callM (eV (z1 ds)) (evs_cons ev_c (evs_cons eZ evs_nil)) rfl (recv_load (Keep.look hk_l (by omega) id hqr) rfl)) rfl (WF.mono (evswap_ok (i := 0) (j := (es.length - 1)) (Keep.look hk_l (by omega) id hr) (by omega) hE rfl (by omega) (by omega) ha hb) ?_))))))))
 rintro _ t3 n4 ⟨rs, rfl, hrs, hEs, hns, hks⟩
 have hqs2 : QS t3 q lo n4 lim (swE es 0 (es.length - 1) e b) := ⟨_, (Keep.look hks (by omega) (fun h_ => absurd (show q = d from h_) (by omega)) (Keep.look hk_l (by omega) id hqr)), .inr ⟨d, c, _, by rw [swE_len], hd1, by omega, hrs, hEs⟩⟩
 refine r_nil (k_seq (k_reg (m1 (z8 get_same) (m1 (z4 ds) ?_))))
 refine r_call (w_callF (evs_cons (eV (z1 ds)) (evs_cons ev_c (evs_cons eZ evs_nil)))) rfl (WF.mono (down_ok (es := (swE es 0 (es.length - 1) e b)) (i0 := 0) (n := es.length - 1) hqs2 hql (fun b hb => hlo b (by omega)) (by rw [swE_len]; omega) (by omega) (by rw [swE_len]; omega) (by rw [swE_len]; omega) (HW.pop hH ha hb)) ?_)
 rintro _ t5 n6 ⟨es2, mv, rfl, hqd, hpd, hld, hod, hmt, hmf, hn_d, hk_d⟩
 have hhp : HpN es2 (es.length - 1) := by
   cases mv with
   | true => exact hmt rfl
   | false => obtain ⟨rfl, hch⟩ := hmf rfl; exact (HW.pop hH ha hb).done (.inl rfl) hch
 rw [swE_len] at hld
 have hsp := last_split (n := es.length - 1) (es := es2) (e := e) (by omega) (by rw [hod _ (Nat.le_refl _), swE_get ha hb, if_pos rfl])
 rw [hsp] at hqd
 refine r_nil (k_seq (k_reg (m1 (z1 (z2 (z8 get_same))) ?_)))
 refine r_call (w_callM eZ evs_nil rfl rfl) rfl (WF.mono (evpop_ok (es := es2.take (es.length - 1)) (e := e) hqd hql (fun b hb => hlo b (by omega)) (by rw [List.length_take]; omega)) ?_)
 rintro _ t7 n8 ⟨rfl, hqp, hn_p, hk_p⟩
 refine m1 ds (r_nil (k_ret ?_))
 exact ⟨_, ans_tmp ds, _, rfl, hqp, (by rw [← hsp]; exact hpd.trans (swE_perm ha hb)), hhp.take (by omega), by omega, Keep.trans (Keep.trans (Keep.trans (Keep.trans kR hk_l (by omega) ((fun _ _ h => h.elim))) hks (by omega) ((fun b hb e => .inr (by have e_ : b = d := e; rw [e_]; exact hd1)))) hk_d (by omega) ((fun _ _ h => h))) hk_p (by omega) ((fun _ _ h => h))⟩
def hrem_r0 : List Ins := [.o 4 (.mov (.c .niface))]
def hrem_r1 : List Ins := [.mv 6 0,
 ⟨(some 7), none, (.callM [(111, 281, (some (1, false))), (193, 287, (some (1, false)))] (.t 6) [])⟩,
 .o 8 (.bin .sub (.t 7) (kI 1)),
 .mv 5 8]
def hrem_r2 : List Ins := [.mv 9 5,
 .mv 10 1,
 .o 11 (.bin .neq (.t 9) (.t 10))]
def hrem_r3 : List Ins := [.mv 12 0,
 .mv 13 1,
 .mv 14 5,
 ⟨(some 15), none, (.callM [(111, 283, (some (1, false))), (193, 289, (some (1, false)))] (.t 12) [(.t 13), (.t 14)])⟩]
def hrem_r4 : List Ins := [.mv 16 0,
 .mv 17 1,
 .mv 18 5,
 .f 19 109 [(.t 16), (.t 17), (.t 18)],
 .o 20 (.not (.t 19))]
def hrem_r5 : List Ins := [.mv 21 0,
 .mv 22 1,
 .f 23 161 [(.t 21), (.t 22)]]
def hrem_r6 : List Ins := [.mv 24 0,
 ⟨(some 25), none, (.callM [(111, 284, none), (193, 292, none)] (.t 24) [])⟩,
 .mv 4 25]
def hrem_c : IC := (.seq (.reg hrem_r0) (.seq (.reg hrem_r1) (.seq (.seq (.reg hrem_r2) (.cond (.t 11) (.seq (.reg hrem_r3) (.seq (.reg hrem_r4) (.cond (.t 20) (.reg hrem_r5) .skip))) .skip)) (.seq (.reg hrem_r6) .ret))))
theorem hrem_tab : tb 125 = some (.code 2 26 hrem_c [.tmp 4]) := by kernel_rfl
set_option maxHeartbeats 2000000 in
theorem hrem_ok {t : TB} {nx q : Nat} {lo : Nat → Prop} {lim : Int} {es : List Ev} (hq : QS t q lo nx lim es) (hql : ¬ lo q) (hlo : ∀ b, nx ≤ b → lo b) (hs : es.length < 10000) {e : Ev} {k : Nat} (hH : HpN es es.length) (ha : es[k]? = some e) : WF tb 125 [.iface 193 (.ptr q 0), .int .i64 (k : Int)] t nx (fun v t' nx' => ∃ es', v = .iface 66 (.agg (ecells e)) ∧ QS t' q lo nx' lim es' ∧ (es' ++ [e]).Perm es ∧ HpN es' es'.length ∧ nx ≤ nx' ∧ Keep t t' nx (fun b => b = q ∨ lo b)) := by
 have hqn : q < nx := Nat.lt_of_not_le (fun h => hql (hlo q h))
 have hl0 : k < es.length := (List.getElem?_eq_some_iff.1 ha).1
 obtain ⟨b, hb⟩ := some_at (l := es) (i := es.length - 1) (by omega)
 have hq0 := hq
 obtain ⟨v, hqr, hv_⟩ := hq
 rcases hv_ with ⟨-, h0⟩ | ⟨d, c, r, rfl, hd1, hd2, hr, hE⟩
 · subst h0; simp at hl0
 have hqnd : q ≠ d := fun e_ => hql (by rw [e_]; exact hd1)
 refine k_fun hrem_tab rfl ?_
 unfold hrem_c
 change WC _ _ (TA.put (some _) (TA.put (some _) TA.e 0) 1) _ _ _
 refine k_seq (k_reg (rO (o_mov ev_c) (r_nil (k_seq (k_reg (m1 (z1 (get_other rfl get_same)) (r_call (w_callM eZ evs_nil rfl (recv_load hqr rfl)) rfl (WF.mono (evlen_ok) ?_))))))))
 rintro _ t1 n2 ⟨rfl, hn_l, hk_l⟩
 have hqs0 : QS t1 q lo n2 lim es := ⟨_, (Keep.look hk_l (by omega) id hqr), .inr ⟨d, c, _, rfl, hd1, by omega, (Keep.look hk_l (by omega) id hr), hE⟩⟩
 refine rO (o_subN (a := es.length) (b := 1) eZ ev_c (by omega) (by omega)) (m1 ds (r_nil (k_seq (k_seq (k_reg (m1 ds (m1 (z2 (z4 get_same)) (rO (o_neq (eV (z1 ds)) eZ) (r_nil ?_)))))))))
 refine k_in eZ (fun hc3 => ?_) (fun hc3 => ?_)
 · refine k_seq (k_reg (m1 (z8 (get_other rfl get_same)) (m1 (z1 (z8 get_same)) (m1 (z1 (z4 ds)) (r_call (w_callM (eV (z2 ds)) (evs_cons (eV (z1 ds)) (evs_cons eZ evs_nil)) rfl (recv_load (Keep.look hk_l (by omega) id hqr) rfl)) rfl (WF.mono (evswap_ok (i := k) (j := (es.length - 1)) (Keep.look hk_l (by omega) id hr) (by omega) hE rfl (by omega) (by omega) ha hb) ?_))))))
   rintro _ t4 n5 ⟨rs, rfl, hrs, hEs, hns, hks⟩
   have hqs2 : QS t4 q lo n5 lim (swE es k (es.length - 1) e b) := ⟨_, (Keep.look hks (by omega) (fun h_ => absurd (show q = d from h_) (by omega)) (Keep.look hk_l (by omega) id hqr)), .inr ⟨d, c, _, by rw [swE_len], hd1, by omega, hrs, hEs⟩⟩
   refine r_nil (k_seq (k_reg (m1 (z4 (z8 (get_other rfl get_same))) (m1 (z1 (z4 (z8 get_same))) (m1 (z1 (z8 ds)) ?_)))))
   have hHW := HW.rem (n := es.length - 1) hH (by omega) (by omega) ha hb
   refine r_call (w_callF (evs_cons (eV (z2 ds)) (evs_cons (eV (z1 ds)) (evs_cons eZ evs_nil)))) rfl (WF.mono (down_ok (es := (swE es k (es.length - 1) e b)) (i0 := k) (n := es.length - 1) hqs2 hql (fun b hb => hlo b (by omega)) (by rw [swE_len]; omega) (by omega) (by rw [swE_len]; omega) (by rw [swE_len]; omega) hHW) ?_)
   rintro _ t6 n7 ⟨es2, mv, rfl, hqd, hpd, hld, hod, hmt, hmf, hn_d, hk_d⟩
   rw [swE_len] at hld
   refine rO (o_not eZ) (r_nil ?_)
   refine k_cond eZ (fun hc8 => ?_) (fun hc8 => ?_)
   · refine k_reg (m1 (z1 (z8 (z8 (get_other rfl get_same)))) (m1 (z2 (z8 (z8 get_same))) ?_))
     obtain ⟨rfl, hch⟩ := hmf (by simpa using hc8)
     refine r_call (w_callF (evs_cons (eV (z1 ds)) (evs_cons eZ evs_nil))) rfl (WF.mono (up_ok (es := (swE es k (es.length - 1) e b)) (j := k) (n := es.length - 1) hqd hql (fun b hb => hlo b (by omega)) (by rw [swE_len]; omega) (by omega) (by rw [swE_len]; omega) (hHW.hu hch)) ?_)
     rintro _ t9 n10 ⟨es3, rfl, hqu, hpu, hlu, hou, hhu, hn_u, hk_u⟩
     rw [swE_len] at hlu
     refine r_nil (k_seq (k_reg (m1 (z4 (z8 (z8 (get_other rfl get_same)))) ?_)))
     have hsp := last_split (n := es.length - 1) (es := es3) (e := e) (by omega) (by rw [hou _ (Nat.le_refl _), swE_get ha hb, if_pos rfl])
     have hqx := hqu
     rw [hsp] at hqx
     refine r_call (w_callM eZ evs_nil rfl rfl) rfl (WF.mono (evpop_ok (es := es3.take (es.length - 1)) (e := e) hqx hql (fun b hb => hlo b (by omega)) (by rw [List.length_take]; omega)) ?_)
     rintro _ t11 n12 ⟨rfl, hqp, hn_p, hk_p⟩
     refine m1 ds (r_nil (k_ret ?_))
     exact ⟨_, ans_tmp ds, _, rfl, hqp, (by rw [← hsp]; exact hpu.trans (swE_perm ha hb)), hhu.take (by omega), by omega, Keep.trans (Keep.trans (Keep.trans (Keep.trans (Keep.trans kR hk_l (by omega) ((fun _ _ h => h.elim))) hks (by omega) ((fun b hb e => .inr (by have e_ : b = d := e; rw [e_]; exact hd1)))) hk_d (by omega) ((fun _ _ h => h))) hk_u (by omega) ((fun _ _ h => h))) hk_p (by omega) ((fun _ _ h => h))⟩
   refine k_skip (k_seq (k_reg (m1 (z1 (z8 (z8 (get_other rfl get_same)))) ?_)))
   have hsp := last_split (n := es.length - 1) (es := es2) (e := e) (by omega) (by rw [hod _ (Nat.le_refl _), swE_get ha hb, if_pos rfl])
   have hqx := hqd
   rw [hsp] at hqx
   refine r_call (w_callM eZ evs_nil rfl rfl) rfl (WF.mono (evpop_ok (es := es2.take (es.length - 1)) (e := e) hqx hql (fun b hb => hlo b (by omega)) (by rw [List.length_take]; omega)) ?_)
   rintro _ t13 n14 ⟨rfl, hqp, hn_p, hk_p⟩
   refine m1 ds (r_nil (k_ret ?_))
   exact ⟨_, ans_tmp ds, _, rfl, hqp, (by rw [← hsp]; exact hpd.trans (swE_perm ha hb)), (hmt (by simpa using hc8)).take (by omega), by omega, Keep.trans (Keep.trans (Keep.trans (Keep.trans kR hk_l (by omega) ((fun _ _ h => h.elim))) hks (by omega) ((fun b hb e => .inr (by have e_ : b = d := e; rw [e_]; exact hd1)))) hk_d (by omega) ((fun _ _ h => h))) hk_p (by omega) ((fun _ _ h => h))⟩
 refine k_skip (k_seq (k_reg (m1 (z8 (get_other rfl get_same)) ?_)))
 have hsp := last_split (n := es.length - 1) (es := es) (e := e) (by omega) (by rw [show es.length - 1 = k by omega]; exact ha)
 have hqx := hqs0
 rw [hsp] at hqx
 refine r_call (w_callM eZ evs_nil rfl rfl) rfl (WF.mono (evpop_ok (es := es.take (es.length - 1)) (e := e) hqx hql (fun b hb => hlo b (by omega)) (by rw [List.length_take]; omega)) ?_)
 rintro _ t15 n16 ⟨rfl, hqp, hn_p, hk_p⟩
 refine m1 ds (r_nil (k_ret ?_))
 exact ⟨_, ans_tmp ds, _, rfl, hqp, (by rw [← hsp]), (hH.less (by omega)).take (by omega), by omega, Keep.trans (Keep.trans kR hk_l (by omega) ((fun _ _ h => h.elim))) hk_p (by omega) ((fun _ _ h => h))⟩
end Go.Proofs.YtpjohgnhmjceiaaGreatDoor.WX

set_option linter.all false
set_option linter.unusedVariables false
set_option linter.unusedSectionVars false
set_option maxRecDepth 100000
open Go Go.Proofs.YtpjohgnhmjceiaaGreatDoor.AX Go.Proofs
namespace Go.Proofs.YtpjohgnhmjceiaaGreatDoor.WX
variable [Env]
def put1_r0 : List Ins := [.o 2 (.box (.t 0)),
 .o 3 (.mov (.c (.bool false)))]
def put1_r1 : List Ins := [.o 4 (.faddr (.t 2) 3),
 .o 5 (.load (.t 4)),
 .o 6 (.faddr (.t 1) 3),
 .o 7 (.load (.t 6)),
 .o 8 (.bin .eql (.t 5) (.t 7)),
 .mv 9 8,
 .g 10 9 true (.faddr (.t 2) 4),
 .g 11 9 true (.load (.t 10)),
 .g 12 9 true (.faddr (.t 1) 4),
 .g 13 9 true (.load (.t 12)),
 .g 14 9 true (.bin .eql (.t 11) (.t 13)),
 .o 15 (.pick (.t 9) (.t 14) (.c (.bool false))),
 .mv 3 15]
def put1_c : IC := (.seq (.reg put1_r0) (.seq (.reg put1_r1) .ret))
theorem put1_tab : tb 122 = some (.code 2 16 put1_c [.tmp 3]) := by kernel_rfl
theorem put1_ok {t : TB} {nx eb : Nat} {e : Ev} (x : Ev) (he : hv t eb = some (.row (ecells e) true)) (heb : eb < nx) : WF tb 122 [.agg (ecells x), .ptr eb 0] t nx (fun v t' nx' => ∃ b : Bool, v = .bool (decide (b = true)) ∧ (b = true ↔ x.frm = e.frm ∧ x.seq = e.seq) ∧ nx ≤ nx' ∧ Keep t t' nx (fun _ => False)) := by
 unfold ecells at he ⊢
 refine k_fun put1_tab rfl ?_
 unfold put1_c
 change WC _ _ (TA.put (some _) (TA.put (some _) TA.e 0) 1) _ _ _
 refine k_seq (k_reg (r_heap (o_box (eV (get_other rfl get_same))) rfl (fun t1 (hh2 : hv t1 = upd (hv t) nx (some (.row [(.int .i64 x.time), (.int .i64 x.node), (.str x.val), (.int .i64 x.frm), (.int .i64 x.seq), (.bool x.anti)] true))) => rO (o_mov ev_c) (r_nil (k_seq (k_reg (rO (o_faddr (off := 3) (eV (z1 ds))) (rO (o_load eZ (lS hh2) rfl) (rO (o_faddr (off := 3) (eV (z4 get_same))) (rO (o_load eZ (lN hh2 he) rfl) ?_))))))))))
 by_cases hs3 : (x.frm = e.frm)
 · refine rO (dec_t (o_eql (eV (z2 ds)) eZ) hs3) (m1 ds (r_op (o_faddr (off := 4) (eV (z1 (z2 (z4 ds))))) (want_on ds) (r_op (o_load eZ (lS hh2) rfl) (want_on (z1 ds)) (r_op (o_faddr (off := 4) (eV (z2 (z8 get_same)))) (want_on (z2 ds)) (r_op (o_load eZ (lN hh2 he) rfl) (want_on (z1 (z2 ds))) (r_op (o_eql (eV (z2 ds)) eZ) (want_on (z4 ds)) (rO (o_pick_t (eV (z1 (z4 ds))) eZ) (m1 ds (r_nil (k_ret ?_))))))))))
   exact ⟨_, ans_tmp ds, decide (x.seq = e.seq), (by simp), (by simp; omega), by omega, kU kR hh2⟩
 refine rO (dec_f (o_eql (eV (z2 ds)) eZ) hs3) (m1 ds (r_off (wN ds) (r_off (wN (z1 ds)) (r_off (wN (z2 ds)) (r_off (wN (z1 (z2 ds))) (r_off (wN (z4 ds)) (rO (o_pick_f (eV (z1 (z4 ds))) ev_c) (m1 ds (r_nil (k_ret ?_))))))))))
 exact ⟨_, ans_tmp ds, false, (by simp), (by simp; omega), by omega, kU kR hh2⟩
def canc1_r0 : List Ins := [.o 3 (.box (.t 0)),
 .o 4 (.mov (.c (.bool false)))]
def canc1_r1 : List Ins := [.o 5 (.faddr (.t 3) 3),
 .o 6 (.load (.t 5)),
 .o 7 (.load (.t 1)),
 .o 8 (.bin .eql (.t 6) (.t 7)),
 .mv 9 8,
 .g 10 9 true (.faddr (.t 3) 4),
 .g 11 9 true (.load (.t 10)),
 .g 12 9 true (.load (.t 2)),
 .g 13 9 true (.bin .eql (.t 11) (.t 12)),
 .o 14 (.pick (.t 9) (.t 13) (.c (.bool false))),
 .mv 4 14]
def canc1_c : IC := (.seq (.reg canc1_r0) (.seq (.reg canc1_r1) .ret))
theorem canc1_tab : tb 124 = some (.code 3 15 canc1_c [.tmp 4]) := by kernel_rfl
theorem canc1_ok {t : TB} {nx fb sb : Nat} {fr sq : Int} (x : Ev) (hf : hv t fb = some (.row [.int .i64 fr] true)) (hs : hv t sb = some (.row [.int .i64 sq] true)) (hfb : fb < nx) (hsb : sb < nx) : WF tb 124 [.agg (ecells x), .ptr fb 0, .ptr sb 0] t nx (fun v t' nx' => ∃ b : Bool, v = .bool (decide (b = true)) ∧ (b = true ↔ x.frm = fr ∧ x.seq = sq) ∧ nx ≤ nx' ∧ Keep t t' nx (fun _ => False)) := by
 unfold ecells
 refine k_fun canc1_tab rfl ?_
 unfold canc1_c
 change WC _ _ (TA.put (some _) (TA.put (some _) (TA.put (some _) TA.e 0) 1) 2) _ _ _
 refine k_seq (k_reg (r_heap (o_box (eV (get_other rfl (get_other rfl get_same)))) rfl (fun t1 (hh2 : hv t1 = upd (hv t) nx (some (.row [(.int .i64 x.time), (.int .i64 x.node), (.str x.val), (.int .i64 x.frm), (.int .i64 x.seq), (.bool x.anti)] true))) => rO (o_mov ev_c) (r_nil (k_seq (k_reg (rO (o_faddr (off := 3) (eV (z1 ds))) (rO (o_load eZ (lS hh2) rfl) (rO (o_load (eV (z4 (get_other rfl get_same))) (lN hh2 hf) rfl) ?_)))))))))
 by_cases hs3 : (x.frm = fr)
 · refine rO (dec_t (o_eql (eV (z1 ds)) eZ) hs3) (m1 ds (r_op (o_faddr (off := 4) (eV (z2 (z4 ds)))) (want_on ds) (r_op (o_load eZ (lS hh2) rfl) (want_on (z1 ds)) (r_op (o_load (eV (z1 (z8 get_same))) (lN hh2 hs) rfl) (want_on (z2 ds)) (r_op (o_eql (eV (z1 ds)) eZ) (want_on (z1 (z2 ds))) (rO (o_pick_t (eV (z4 ds)) eZ) (m1 ds (r_nil (k_ret ?_)))))))))
   exact ⟨_, ans_tmp ds, decide (x.seq = sq), (by simp), (by simp; omega), by omega, kU kR hh2⟩
 refine rO (dec_f (o_eql (eV (z1 ds)) eZ) hs3) (m1 ds (r_off (wN ds) (r_off (wN (z1 ds)) (r_off (wN (z2 ds)) (r_off (wN (z1 (z2 ds))) (rO (o_pick_f (eV (z4 ds)) ev_c) (m1 ds (r_nil (k_ret ?_)))))))))
 exact ⟨_, ans_tmp ds, false, (by simp), (by simp; omega), by omega, kU kR hh2⟩
def evindex_r0 : List Ins := [.o 4 (.mov (kI 0))]
def evindex_r1 : List Ins := [.mv 6 0,
 .o 7 (.len .slc (.t 6)),
 .o 8 (.mov (kI 0))]
def evindex_r2 : List Ins := [.o 9 (.bin .lss (.t 8) (.t 7))]
def evindex_r3 : List Ins := [.mv 10 8,
 .mv 5 10]
def evindex_r4 : List Ins := [.mv 11 1,
 .mv 12 0,
 .mv 13 5,
 .o 14 (.iaddr 6 (.t 12) (.t 13)),
 .o 15 (.loadA 6 (.t 14)),
 ⟨(some 16), none, (.callV (.t 11) [(.t 15)])⟩]
def evindex_r5 : List Ins := [.mv 17 5,
 .mv 4 17]
def evindex_r6 : List Ins := [.o 18 (.bin .add (.t 8) (kI 1)),
 .mv 8 18]
def evindex_r7 : List Ins := [.o 4 (.mov (kI (-1)))]
def evindex_c : IC := (.seq (.reg evindex_r0) (.seq (.seq (.reg evindex_r1) (.block 0 (.loop (.seq (.reg evindex_r2) (.seq (.cond (.t 9) .skip (.exit 0)) (.seq (.block 1 (.seq (.reg evindex_r3) (.seq (.reg evindex_r4) (.cond (.t 16) (.seq (.reg evindex_r5) .ret) .skip)))) (.reg evindex_r6))))))) (.seq (.reg evindex_r7) .ret)))
theorem evindex_tab : tb 123 = some (.code 2 19 evindex_c [.tmp 4]) := by kernel_rfl
/-- A closure that tells of an event whether P, and leaves all but new memory as it is. -/
def ClOK (t0 : TB) (n0 : Nat) (P : Ev → Prop) (cv : AV) : Prop := ∃ f a b, cv = .func f a b ∧ ∀ (x : Ev) (t : TB) (nx : Nat), n0 ≤ nx → Keep t0 t n0 (fun _ => False) → WF tb f (a ++ ([.agg (ecells x)] ++ b)) t nx (fun v t' nx' => ∃ q : Bool, v = .bool (decide (q = true)) ∧ (q = true ↔ P x) ∧ nx ≤ nx' ∧ Keep t t' nx (fun _ => False))
/-- A list of events that is only read. -/
def QR (t : TB) (bd : Nat) (v : AV) (es : List Ev) : Prop := (v = .nslice ∧ es = []) ∨ ∃ (d c : Nat) (ex wr : Bool) (r : List AV), v = .slice d 0 es.length c 6 ex ∧ d < bd ∧ hv t d = some (.row r wr) ∧ RE r c es
theorem o_len_E {T : TA} {t t0 : TB} {nx bd : Nat} {v : AV} {es : List Ev} {x : Opd} (h : QR t0 bd v es) (hx : x.ev T = some v) : (IOp.len .slc x).run T t nx = .ok (.int .i64 ((es.length : Nat) : Int)) t nx := by
 rcases h with ⟨rfl, rfl⟩ | ⟨d, c, ex, wr, r, rfl, -⟩
 · exact o_len_nslice hx
 · exact o_len_slice hx

theorem evindex_ok {t : TB} {nx : Nat} {lv : AV} {es : List Ev} (hq : QR t nx lv es) (hs : es.length < 10000) {P : Ev → Prop} {cv : AV} (hcl : ClOK t nx P cv) : WF tb 123 [lv, cv] t nx (fun v t' nx' => ∃ r : Int, v = .int .i64 r ∧ (r = -1 ∧ (∀ x ∈ es, ¬ P x) ∨ ∃ (i : Nat) (e : Ev), r = (i : Int) ∧ es[i]? = some e ∧ P e) ∧ nx ≤ nx' ∧ Keep t t' nx (fun _ => False)) := by
 obtain ⟨cf, ca, cb, rfl, hcf⟩ := hcl
 refine k_fun evindex_tab rfl ?_
 unfold evindex_c
 change WC _ _ (TA.put (some _) (TA.put (some _) TA.e 0) 1) _ _ _
 refine k_seq (k_reg (rO (o_mov ev_c) (r_nil (k_seq (k_seq (k_reg (m1 (z1 (get_other rfl get_same)) (rO (o_len_E hq eZ) (rO (o_mov ev_c) (r_nil (k_block (k_loop (fun mm Tv tv nv => ∃ (i : Nat), i ≤ es.length ∧ (∀ j x, j < i → es[j]? = some x → ¬ P x) ∧ (Tv.get 0 = some lv ∧ Tv.get 1 = some (.func cf ca cb) ∧ Tv.get 7 = some (.int .i64 ((es.length : Nat) : Int)) ∧ Tv.get 8 = some (.int .i64 ((i : Nat) : Int))) ∧ nx ≤ nv ∧ Keep t tv nx (fun _ => False) ∧ mm + i = es.length) (fun mm Tv tv nv hI => ?_) (es.length) ⟨0, by omega, fun j x hj => by omega, ⟨(z4 (get_other rfl get_same)), (z4 get_same), (z1 ds), ds⟩, by omega, kR, by omega⟩))))))))))))
 obtain ⟨i, hi, hno, ⟨q0, q1, q7, q8⟩, hnv, hkv, hmm⟩ := hI
 refine k_seq (k_reg (rO (o_lss (eV q8) (eV q7)) (r_nil (k_seq ?_))))
 refine k_if eZ (fun hc1 => ?_) (fun hc1 => ?_)
 · refine k_skip (k_seq (k_block (k_seq (k_reg (m1 (z1 q8) (m1 ds (r_nil (k_seq ?_))))))))
   have hq_ := hq
   rcases hq_ with ⟨-, h0⟩ | ⟨d, c, ex, wr, r, hqe, hd, hr, hE⟩
   · have h_ := congrArg List.length h0; simp only [List.length_nil] at h_; omega
   obtain ⟨x, hx⟩ := some_at (l := es) (i := i) (by omega)
   have hgx : (r.drop (0 + i * 6)).take 6 = ecells x := by rw [Nat.zero_add]; exact hE.get hx
   have hr1 := hkv.look (by omega) id hr
   refine k_reg (m1 (z1 (z2 q1)) (m1 (z4 q0) (m1 (z2 ds) (rO (o_iaddrE (i := i) (eV (z1 ds)) hqe eZ (by omega)) ?_))))
   refine rO (o_loadA (n := 6) eZ hr1 (by have h_ := hE.len; have h2_ := hE.fits; omega) hgx) ?_
   refine r_call (w_callV (eV (z4 ds)) (evs_cons eZ evs_nil)) rfl (WF.mono (hcf x tv nv (by omega) (hkv)) ?_)
   rintro _ t2 n3 ⟨bc, rfl, hbc, hnc, hkc⟩
   refine r_nil ?_
   refine k_if eZ (fun hc4 => ?_) (fun hc4 => ?_)
   · refine k_seq (k_reg (m1 (z2 (z4 ds)) (m1 ds (r_nil (k_ret ?_)))))
     exact ⟨_, ans_tmp ds, _, rfl, .inr ⟨i, x, rfl, hx, hbc.1 (by simp_all)⟩, by omega, Keep.trans (hkv) hkc (by omega) (fun d _ h => h)⟩
   refine k_skip (k_reg (rO (o_addN (a := i) (b := 1) (eV (z1 (z8 q8))) ev_c (by omega)) (m1 ds (r_nil ?_))))
   exact ⟨mm - 1, by omega, i + 1, by omega, (fun j y hj hy => by
     by_cases hji : j = i
     · subst hji; rw [hx] at hy; cases hy; exact fun h_ => absurd (hbc.2 h_) (by simp_all)
     exact hno j y (by omega) hy), ⟨(z1 (z2 (z8 q0))), (z1 (z2 (z8 q1))), (z1 (z2 (z8 q7))), ds⟩, by omega, Keep.trans (hkv) hkc (by omega) (fun d _ h => h), by omega⟩
 refine k_exit (exK_same (k_seq (k_reg (rO (o_mov ev_c) (r_nil (k_ret ?_))))))
 exact ⟨_, ans_tmp ds, _, rfl, .inl ⟨rfl, fun x hx => by obtain ⟨j, hj, rfl⟩ := List.mem_iff_getElem.1 hx; exact hno j _ (by omega) (List.getElem?_eq_getElem hj)⟩, by omega, hkv⟩
def evcont_r0 : List Ins := [.o 4 (.mov (.c (.bool false)))]
def evcont_r1 : List Ins := [.mv 5 0,
 .mv 6 1,
 .f 7 123 [(.t 5), (.t 6)],
 .o 8 (.bin .geq (.t 7) (kI 0)),
 .mv 4 8]
def evcont_c : IC := (.seq (.reg evcont_r0) (.seq (.reg evcont_r1) .ret))
theorem evcont_tab : tb 121 = some (.code 2 9 evcont_c [.tmp 4]) := by kernel_rfl
theorem evcont_ok {t : TB} {nx : Nat} {lv : AV} {es : List Ev} (hq : QR t nx lv es) (hs : es.length < 10000) {P : Ev → Prop} {cv : AV} (hcl : ClOK t nx P cv) : WF tb 121 [lv, cv] t nx (fun v t' nx' => ∃ q : Bool, v = .bool (decide (q = true)) ∧ (q = true ↔ ∃ x ∈ es, P x) ∧ nx ≤ nx' ∧ Keep t t' nx (fun _ => False)) := by
 refine k_fun evcont_tab rfl ?_
 unfold evcont_c
 change WC _ _ (TA.put (some _) (TA.put (some _) TA.e 0) 1) _ _ _
 refine k_seq (k_reg (rO (o_mov ev_c) (r_nil (k_seq (k_reg (m1 (z1 (get_other rfl get_same)) (m1 (z2 get_same) (r_call (w_callF (evs_cons (eV (z1 ds)) (evs_cons eZ evs_nil))) rfl (WF.mono (evindex_ok hq hs hcl) ?_)))))))))
 rintro _ t1 n2 ⟨r, rfl, hr, hni, hki⟩
 refine rO (o_geq eZ ev_c) (m1 ds (r_nil (k_ret ?_)))
 refine ⟨_, ans_tmp ds, decide (¬ r < 0), (by by_cases h_ : r < 0 <;> simp [h_]), ⟨fun h_ => ?_, fun h_ => ?_⟩, by omega, Keep.trans kR hki (by omega) (fun d _ h => h)⟩
 · have h2 := of_decide_eq_true h_; rcases hr with ⟨h3, -⟩ | ⟨i, e, -, h4, h5⟩
   · omega
   exact ⟨e, List.mem_of_getElem? h4, h5⟩
 obtain ⟨x, hx, hp⟩ := h_; rcases hr with ⟨-, h3⟩ | ⟨i, e, h3, -, -⟩
 · exact absurd hp (h3 x hx)
 exact decide_eq_true (by omega)
end Go.Proofs.YtpjohgnhmjceiaaGreatDoor.WX

set_option linter.all false
set_option linter.unusedVariables false
set_option linter.unusedSectionVars false
set_option maxRecDepth 100000
open Go Go.Proofs.YtpjohgnhmjceiaaGreatDoor.AX Go.Proofs
namespace Go.Proofs.YtpjohgnhmjceiaaGreatDoor.WX
variable [Env]
def qgiven_r0 : List Ins := [.o 2 (.mov (.c (.bool false)))]
def qgiven_r1 : List Ins := [.mv 3 0,
 .o 4 (.eqv true .ptr (.t 3) (.c .nil)),
 .mv 5 4,
 .g 6 5 true (.mov (.t 0)),
 .g 7 5 true (.nilck (.t 6)),
 .g 8 5 true (.faddr (.t 7) 1),
 .g 9 5 true (.load (.t 8)),
 .g 10 5 true (.bin .gtr (.t 9) (kI 0)),
 .o 11 (.pick (.t 5) (.t 10) (.c (.bool false))),
 .mv 2 11]
def qgiven_c : IC := (.seq (.reg qgiven_r0) (.seq (.reg qgiven_r1) .ret))
theorem qgiven_tab : tb 120 = some (.code 1 12 qgiven_c [.tmp 2]) := by kernel_rfl
theorem o_ptr_nil {T : TA} {t : TB} {nx : Nat} {x : Opd} {b o : Nat} {ng : Bool} (hx : x.ev T = some (.ptr b o)) : (IOp.eqv ng .ptr x (.c .nil)).run T t nx = .ok (.bool ng) t nx := by
 have e : (Opd.c AV.nil).ev T = some .nil := rfl
 simp only [IOp.run, hx, e]
 rfl

theorem qgiven_ok {t : TB} {nx q bd : Nat} {lo : Nat → Prop} {lim : Int} {es : List Ev} (hq : QS t q lo bd lim es) (hl : 0 < lim) : WF tb 120 [.ptr q 0] t nx (fun v t' nx' => v = .bool true ∧ nx ≤ nx' ∧ Keep t t' nx (fun _ => False)) := by
 obtain ⟨lv, hqr, -⟩ := hq
 refine k_fun qgiven_tab rfl ?_
 unfold qgiven_c
 change WC _ _ (TA.put (some _) TA.e 0) _ _ _
 refine k_seq (k_reg (rO (o_mov ev_c) (r_nil (k_seq (k_reg (m1 (z1 get_same) (rO (o_ptr_nil eZ) (m1 ds (r_op (o_mov (eV (z4 get_same))) (want_on ds) (r_op (o_nilck eZ) (want_on (z1 ds)) (r_op (o_faddr (off := 1) eZ) (want_on (z2 ds)) (r_op (o_load eZ hqr rfl) (want_on (z1 (z2 ds))) (r_op (o_gtr eZ ev_c) (want_on (z4 ds)) (rO (o_pick_t (eV (z1 (z4 ds))) eZ) (m1 ds (r_nil (k_ret ?_)))))))))))))))))
 exact ⟨_, ans_tmp ds, by simp; omega, by omega, kR⟩
end Go.Proofs.YtpjohgnhmjceiaaGreatDoor.WX

set_option linter.all false
set_option linter.unusedVariables false
set_option linter.unusedSectionVars false
set_option maxRecDepth 100000
open Go Go.Proofs.YtpjohgnhmjceiaaGreatDoor.AX Go.Proofs
namespace Go.Proofs.YtpjohgnhmjceiaaGreatDoor.WX
variable [Env]
theorem QS.mono {t : TB} {q bd : Nat} {lim : Int} {es : List Ev} {O O' : Nat → Prop} (h : QS t q O bd lim es) (hO : ∀ b, O b → O' b) : QS t q O' bd lim es := by
 obtain ⟨v, h1, h2 | ⟨d, c, r, h2, h3, h4⟩⟩ := h
 · exact ⟨v, h1, .inl h2⟩
 · exact ⟨v, h1, .inr ⟨d, c, r, h2, hO _ h3, h4⟩⟩
theorem QS.keep {t t' : TB} {q n n' : Nat} {lim : Int} {es : List Ev} {O : Nat → Prop} {W : Nat → Prop} (h : QS t q O n lim es) (hk : Keep t t' n W) (hq : q < n) (hw : ¬ W q) (hO : ∀ b, O b → ¬ W b) (hn : n ≤ n') : QS t' q O n' lim es := by
 obtain ⟨v, h1, h2 | ⟨d, c, r, h2, h3, h4, h5, h6⟩⟩ := h
 · exact ⟨v, (hk q hq hw).trans h1, .inl h2⟩
 · exact ⟨v, (hk q hq hw).trans h1, .inr ⟨d, c, r, h2, h3, by omega, (hk d h4 (hO d h3)).trans h5, h6⟩⟩
theorem QV.keep {t t' : TB} {n n' : Nat} {v : AV} {es : List Ev} {O : Nat → Prop} {W : Nat → Prop} (h : QV t O n v es) (hk : Keep t t' n W) (hO : ∀ b, O b → b < n → ¬ W b) (hn : n ≤ n') : QV t' O n' v es := by
 rcases h with h2 | ⟨d, c, r, h2, h3, h4, h5, h6⟩
 · exact .inl h2
 · exact .inr ⟨d, c, r, h2, h3, by omega, (hk d h4 (hO d h3 h4)).trans h5, h6⟩
/-- One block holds a queue's events. -/
theorem QS.one {t : TB} {q n m : Nat} {lim : Int} {es : List Ev} {O : Nat → Prop} (h : QS t q O n lim es) (hm : O m) : ∃ d, O d ∧ (d = m ∨ d < n) ∧ QS t q (fun b => b = d) n lim es := by
 obtain ⟨v, h1, h2 | ⟨d, c, r, h2, h3, h4⟩⟩ := h
 · exact ⟨m, hm, .inl rfl, v, h1, .inl h2⟩
 · exact ⟨d, h3, .inr h4.1, v, h1, .inr ⟨d, c, r, h2, rfl, h4⟩⟩
theorem QV.qr {t : TB} {bd : Nat} {v : AV} {es : List Ev} {O : Nat → Prop} (h : QV t O bd v es) : QR t bd v es := by
 rcases h with h | ⟨d, c, r, h2, h3, h4, h5, h6⟩
 · exact .inl h
 · exact .inr ⟨d, c, false, true, r, h2, h4, h5, h6⟩
def Bad (es : List Ev) (e : Ev) : Prop := e.time < 0 ∨ e.anti = true ∨ ∃ x ∈ es, x.frm = e.frm ∧ x.seq = e.seq
def PutR (es : List Ev) (e : Ev) (r : Int) (es' : List Ev) : Prop := (r = 1 ∧ es' = es ∧ Bad es e) ∨ (r = 140 ∧ es' = es ∧ ¬ Bad es e ∧ 4611686018427387903 < e.time) ∨ (r = 0 ∧ es'.Perm (es ++ [e]) ∧ ¬ Bad es e ∧ e.time ≤ 4611686018427387903)
theorem not_bad {es : List Ev} {e : Ev} {qc : Bool} (h1 : ¬ e.time < 0) (h2 : e.anti = false) (h3 : qc = true ↔ ∃ x ∈ es, x.frm = e.frm ∧ x.seq = e.seq) (h4 : ¬ qc = true) : ¬ Bad es e := fun h => by
 rcases h with h | h | h
 · exact h1 h
 · rw [h2] at h; cases h
 · exact h4 (h3.2 h)
/-- A queue and the one block d that holds its events. -/
def QD (t : TB) (q d nx : Nat) (lim : Int) (es : List Ev) : Prop := d < nx ∧ d ≠ q ∧ q < nx ∧ QS t q (fun b => b = d) nx lim es
theorem QD.keep {t t' : TB} {q d n n' : Nat} {lim : Int} {es : List Ev} {W : Nat → Prop} (h : QD t q d n lim es) (hk : Keep t t' n W) (hq : ¬ W q) (hd : ¬ W d) (hn : n ≤ n') : QD t' q d n' lim es :=
 ⟨by have := h.1; omega, h.2.1, by have := h.2.2.1; omega, h.2.2.2.keep hk h.2.2.1 hq (fun b e => by rw [e]; exact hd) hn⟩
theorem QD.out {t : TB} {q d n m : Nat} {lim : Int} {es : List Ev} (h : QS t q (fun b => b = d ∨ m ≤ b) n lim es) (h1 : d < m) (h2 : m ≤ n) (h3 : d ≠ q) (h4 : q < m) : ∃ d', (d' = d ∨ m ≤ d') ∧ QD t q d' n lim es := by
 obtain ⟨d', e1, e2, e3⟩ := h.one (m := d) (.inl rfl)
 exact ⟨d', e1, by omega, by omega, by omega, e3⟩
theorem QD.inn {t : TB} {q d n : Nat} {lim : Int} {es : List Ev} (h : QD t q d n lim es) : QS t q (fun b => b = d ∨ n ≤ b) n lim es ∧ ¬ (q = d ∨ n ≤ q) := ⟨h.2.2.2.mono (fun _ e => .inl e), by have h1 := h.2.1; have h2 := h.2.2.1; omega⟩
theorem keep_d {t t' : TB} {q d n m : Nat} (h : Keep t t' n (fun b => b = q ∨ (b = d ∨ m ≤ b))) (hm : n ≤ m) : Keep t t' n (fun b => b = q ∨ b = d) := fun b hb hw => h b hb (fun e => e.elim (fun e => hw (.inl e)) (fun e => e.elim (fun e => hw (.inr e)) (fun e => absurd hb (by omega))))

def put_r0 : List Ins := [.o 3 (.box (.t 1)),
 .o 4 (.mov (kI 0))]
def put_r1 : List Ins := [.mv 6 0,
 .f 7 120 [(.t 6)],
 .o 8 (.not (.t 7)),
 .mv 9 8,
 .g 10 9 false (.faddr (.t 3) 0),
 .g 11 9 false (.load (.t 10)),
 .g 12 9 false (.bin .lss (.t 11) (kI 0)),
 .o 13 (.pick (.t 9) (.c (.bool true)) (.t 12)),
 .mv 14 13,
 .g 15 14 false (.faddr (.t 3) 5),
 .g 16 14 false (.load (.t 15)),
 .o 17 (.pick (.t 14) (.c (.bool true)) (.t 16)),
 .mv 5 17]
def put_r2 : List Ins := [.o 4 (.mov (kI 1))]
def put_r3 : List Ins := [.mv 19 0,
 .o 20 (.nilck (.t 19)),
 .o 21 (.faddr (.t 20) 0),
 .o 22 (.load (.t 21)),
 .o 23 (.mkfn 122 [] [(.t 3)]),
 .f 24 121 [(.t 22), (.t 23)],
 .mv 18 24]
def put_r4 : List Ins := [.o 4 (.mov (kI 1))]
def put_r5 : List Ins := [.o 26 (.faddr (.t 3) 0),
 .o 27 (.load (.t 26)),
 .o 28 (.bin .gtr (.t 27) (kI 4611686018427387903)),
 .mv 25 28]
def put_r6 : List Ins := [.o 4 (.mov (kI 140))]
def put_r7 : List DIns := [⟨0, [], .mv 30 0⟩,
 ⟨1, [0], .o 31 (.nilck (.t 30))⟩,
 ⟨2, [1], .o 32 (.faddr (.t 31) 0)⟩,
 ⟨3, [2], .o 33 (.load (.t 32))⟩,
 ⟨4, [3], .o 34 (.len .slc (.t 33))⟩,
 ⟨5, [], .mv 35 0⟩,
 ⟨6, [5], .o 36 (.nilck (.t 35))⟩,
 ⟨7, [6], .o 37 (.faddr (.t 36) 1)⟩,
 ⟨8, [7], .o 38 (.load (.t 37))⟩,
 ⟨9, [4, 8], .o 39 (.bin .geq (.t 34) (.t 38))⟩,
 ⟨10, [9], .mv 29 39⟩]
def put_r8 : List Ins := [.o 4 (.mov (kI 141))]
def put_r9 : List DIns := [⟨0, [], .mv 40 0⟩,
 ⟨1, [0], .o 41 (.nilck (.t 40))⟩,
 ⟨2, [1], .o 42 (.faddr (.t 41) 0)⟩,
 ⟨3, [2], .o 43 (.iface 193 (.t 42))⟩,
 ⟨4, [], .o 44 (.loadA 6 (.t 3))⟩,
 ⟨5, [4], .o 45 (.iface 66 (.t 44))⟩,
 ⟨6, [3, 5], .f 46 111 [(.t 43), (.t 45)]⟩]
def put_r10 : List Ins := [.o 4 (.mov (kI 0))]
def put_c : IC := (.seq (.reg put_r0) (.seq (.block 0 (.seq (.reg put_r1) (.cond (.t 5) (.seq (.reg put_r2) .ret) (.seq (.reg put_r3) (.cond (.t 18) (.seq (.reg put_r4) .ret) (.seq (.reg put_r5) (.cond (.t 25) (.seq (.reg put_r6) .ret) (.seq (.draw put_r7) (.cond (.t 29) (.seq (.reg put_r8) .ret) .skip))))))))) (.seq (.draw put_r9) (.seq (.reg put_r10) .ret))))
theorem put_tab : tb 73 = some (.code 2 47 put_c [.tmp 4]) := by kernel_rfl
theorem put_ok {t : TB} {nx q : Nat} {lo : Nat → Prop} {lim : Int} {es : List Ev} {e : Ev} (hq : QS t q lo nx lim es) (hql : ¬ lo q) (hlo : ∀ b, nx ≤ b → lo b) (hs : es.length < 9999) (hl : (es.length : Int) < lim) (hH : HpN es es.length) : WF tb 73 [.ptr q 0, .agg (ecells e)] t nx (fun v t' nx' => ∃ (r : Int) (es' : List Ev), v = .int .i64 r ∧ QS t' q lo nx' lim es' ∧ HpN es' es'.length ∧ PutR es e r es' ∧ nx ≤ nx' ∧ Keep t t' nx (fun b => b = q ∨ lo b)) := by
 have hl : 0 < lim ∧ (es.length : Int) < lim := ⟨by omega, hl⟩
 obtain ⟨hl, hlim⟩ := hl
 unfold ecells
 have hqn : q < nx := Nat.lt_of_not_le (fun h => hql (hlo q h))
 obtain ⟨lv, hqr, hv_⟩ := hq
 have hq : QS t q lo nx lim es := ⟨lv, hqr, hv_⟩
 refine k_fun put_tab rfl ?_
 unfold put_c
 change WC _ _ (TA.put (some _) (TA.put (some _) TA.e 0) 1) _ _ _
 refine k_seq (k_reg (r_heap (o_box (eV get_same)) rfl (fun t1 (hh2 : hv t1 = upd (hv t) nx (some (.row [(.int .i64 e.time), (.int .i64 e.node), (.str e.val), (.int .i64 e.frm), (.int .i64 e.seq), (.bool e.anti)] true))) => rO (o_mov ev_c) (r_nil (k_seq (k_block (k_seq (k_reg (m1 (z2 (get_other rfl get_same)) (r_call (w_callF (evs_cons eZ evs_nil)) rfl (WF.mono (qgiven_ok (hq.keep (n' := (nx + 1)) (show Keep t t1 nx (fun _ => False) from kU kR hh2) hqn (fun h => h) (fun _ _ h => h) (by omega)) hl) ?_)))))))))))
 rintro _ t3 n4 ⟨rfl, hn_g, hk_g⟩
 refine rO (o_not eZ) (m1 ds (r_op (o_faddr (off := 0) (eV (z1 (z4 ds)))) (want_on ds) (r_op (o_load eZ (Keep.look hk_g (by omega) id (lS hh2)) rfl) (want_on (z1 ds)) ?_)))
 by_cases hs5 : (e.time < 0)
 · refine r_op (dec_t (o_lss eZ ev_c) hs5) (want_on (z2 ds)) (rO (o_pick_f (eV (z1 (z2 ds))) eZ) (m1 ds (r_off (wN ds) (r_off (wN (z1 ds)) (rO (o_pick_t (eV (z2 ds)) ev_c) (m1 ds (r_nil (k_cond_t eZ (k_seq (k_reg (rO (o_mov ev_c) (r_nil (k_ret ?_)))))))))))))
   exact ⟨_, ans_tmp ds, _, es, rfl, (hq.keep (n' := n4) (show Keep t t3 nx (fun _ => False) from Keep.trans (kU kR hh2) hk_g (by omega) (fun d _ h => h)) hqn (fun h => h) (fun _ _ h => h) (by omega)), hH, .inl ⟨rfl, rfl, by first | exact .inl (by assumption) | exact .inr (.inl (by assumption)) | exact .inr (.inr (hqc.1 (by assumption)))⟩, by omega, Keep.trans (kU kR hh2) hk_g (by omega) ((fun _ _ h => h.elim))⟩
 refine r_op (dec_f (o_lss eZ ev_c) hs5) (want_on (z2 ds)) (rO (o_pick_f (eV (z1 (z2 ds))) eZ) (m1 ds (r_op (o_faddr (off := 5) (eV (z2 (z8 ds)))) (want_on ds) (r_op (o_load eZ (Keep.look hk_g (by omega) id (lS hh2)) rfl) (want_on (z1 ds)) (rO (o_pick_f (eV (z2 ds)) eZ) (m1 ds (r_nil ?_)))))))
 refine k_cond eZ (fun hc6 => ?_) (fun hc6 => ?_)
 · refine k_seq (k_reg (rO (o_mov ev_c) (r_nil (k_ret ?_))))
   exact ⟨_, ans_tmp ds, _, es, rfl, (hq.keep (n' := n4) (show Keep t t3 nx (fun _ => False) from Keep.trans (kU kR hh2) hk_g (by omega) (fun d _ h => h)) hqn (fun h => h) (fun _ _ h => h) (by omega)), hH, .inl ⟨rfl, rfl, by first | exact .inl (by assumption) | exact .inr (.inl (by assumption)) | exact .inr (.inr (hqc.1 (by assumption)))⟩, by omega, Keep.trans (kU kR hh2) hk_g (by omega) ((fun _ _ h => h.elim))⟩
 refine k_seq (k_reg (m1 (z1 (z2 (z4 (z8 (get_other rfl get_same))))) (rO (o_nilck eZ) (rO (o_faddr (off := 0) eZ) (rO (o_load eZ (Keep.look hk_g (by omega) id (lN hh2 hqr)) rfl) (rO (o_mkfn evs_nil (evs_cons (eV (z2 (z8 (z8 ds)))) evs_nil)) (r_call (w_callF (evs_cons (eV (z1 ds)) (evs_cons eZ evs_nil))) rfl (WF.mono (evcont_ok (P := fun x => x.frm = e.frm ∧ x.seq = e.seq) (hv_.keep (n' := n4) (show Keep t t3 nx (fun _ => False) from Keep.trans (kU kR hh2) hk_g (by omega) (fun d _ h => h)) (fun _ _ _ h => h) (by omega)).qr (by omega) ⟨122, [], [.ptr nx 0], rfl, fun x t2 n2 h2 k2 => put1_ok (e := e) (eb := nx) (nx := n2) x (k2.look (by omega) id (Keep.look hk_g (by omega) id (lS hh2))) (by omega)⟩) ?_))))))))
 rintro _ t7 n8 ⟨qc, rfl, hqc, hn_c, hk_c⟩
 refine m1 ds (r_nil ?_)
 refine k_if eZ (fun hc9 => ?_) (fun hc9 => ?_)
 · refine k_seq (k_reg (rO (o_mov ev_c) (r_nil (k_ret ?_))))
   exact ⟨_, ans_tmp ds, _, es, rfl, (hq.keep (n' := n8) (show Keep t t7 nx (fun _ => False) from Keep.trans (Keep.trans (kU kR hh2) hk_g (by omega) (fun d _ h => h)) hk_c (by omega) (fun d _ h => h)) hqn (fun h => h) (fun _ _ h => h) (by omega)), hH, .inl ⟨rfl, rfl, by first | exact .inl (by assumption) | exact .inr (.inl (by assumption)) | exact .inr (.inr (hqc.1 (by assumption)))⟩, by omega, Keep.trans (Keep.trans (kU kR hh2) hk_g (by omega) ((fun _ _ h => h.elim))) hk_c (by omega) ((fun _ _ h => h.elim))⟩
 refine k_seq (k_reg (rO (o_faddr (off := 0) (eV (z1 (z4 (z8 (z8 ds)))))) (rO (o_load eZ (Keep.look hk_c (by omega) id (Keep.look hk_g (by omega) id (lS hh2))) rfl) (rO (o_gtr eZ ev_c) (m1 ds (r_nil ?_))))))
 refine k_if eZ (fun hc10 => ?_) (fun hc10 => ?_)
 · refine k_seq (k_reg (rO (o_mov ev_c) (r_nil (k_ret ?_))))
   exact ⟨_, ans_tmp ds, _, es, rfl, (hq.keep (n' := n8) (show Keep t t7 nx (fun _ => False) from Keep.trans (Keep.trans (kU kR hh2) hk_g (by omega) (fun d _ h => h)) hk_c (by omega) (fun d _ h => h)) hqn (fun h => h) (fun _ _ h => h) (by omega)), hH, .inr (.inl ⟨rfl, rfl, not_bad (by assumption) (by assumption) hqc (by assumption), by omega⟩), by omega, Keep.trans (Keep.trans (kU kR hh2) hk_g (by omega) ((fun _ _ h => h.elim))) hk_c (by omega) ((fun _ _ h => h.elim))⟩
 refine k_seq (k_draw (eO 0 rfl (o_mov (eV (z2 (z8 (z8 (z8 (get_other rfl get_same))))))) (eO 1 rfl (o_nilck eZ) (eO 2 rfl (o_faddr (off := 0) eZ) (eO 3 rfl (o_load eZ (Keep.look hk_c (by omega) id (Keep.look hk_g (by omega) id (lN hh2 hqr))) rfl) (eO 4 rfl (o_len_E (hv_.keep (n' := n8) (show Keep t t7 nx (fun _ => False) from Keep.trans (Keep.trans (kU kR hh2) hk_g (by omega) (fun d _ h => h)) hk_c (by omega) (fun d _ h => h)) (fun _ _ _ h => h) (by omega)).qr eZ) (eO 5 rfl (o_mov (eV (z1 (z2 (z4 (z8 (z8 (z8 (get_other rfl get_same))))))))) (eO 6 rfl (o_nilck eZ) (eO 7 rfl (o_faddr (off := 1) eZ) (eO 8 rfl (o_load eZ (Keep.look hk_c (by omega) id (Keep.look hk_g (by omega) id (lN hh2 hqr))) rfl) (eO 9 rfl (o_geq (eV (z4 ds)) eZ) (eO 10 rfl (o_mov eZ) (e_done ?_)))))))))))))
 refine k_in eZ (fun hc11 => ?_) (fun hc11 => ?_)
 · refine k_seq (k_reg (rO (o_mov ev_c) (r_nil (k_ret ?_))))
   exfalso; omega
 refine k_skip (k_seq (k_draw (eO 0 rfl (o_mov (eV (z1 (z4 (z8 (z8 (z8 (z8 (get_other rfl get_same))))))))) (eO 1 rfl (o_nilck eZ) (eO 2 rfl (o_faddr (off := 0) eZ) (eO 3 rfl (o_iface eZ) (eO 4 rfl (o_loadA (n := 6) (eV (z8 (z8 (z8 (z8 (z8 ds)))))) (Keep.look hk_c (by omega) id (Keep.look hk_g (by omega) id (lS hh2))) (leb rfl) rfl) (eO 5 rfl (o_iface eZ) (d_call (ix := 6) (pr := [3, 5]) (d := (some 46)) (g := none) (F' := []) (w_callF (evs_cons (eV (z2 ds)) (evs_cons eZ evs_nil))) rfl (by kernel_rfl) (by kernel_rfl) (by kernel_rfl) (by kernel_rfl) (WF.mono (hpush_ok (e := e) (hq.keep (n' := n8) (show Keep t t7 nx (fun _ => False) from Keep.trans (Keep.trans (kU kR hh2) hk_g (by omega) (fun d _ h => h)) hk_c (by omega) (fun d _ h => h)) hqn (fun h => h) (fun _ _ h => h) (by omega)) hql (fun b hb => hlo b (by omega)) (by omega) hH) ?_))))))))))
 rintro _ t12 n13 ⟨es2, rfl, hqp, hpp, hhp, hn_p, hk_p⟩
 refine ⟨?_, ?_⟩
 · exact all_nil_
 refine e_done (k_seq (k_reg (rO (o_mov ev_c) (r_nil (k_ret ?_)))))
 exact ⟨_, ans_tmp ds, _, es2, rfl, hqp, hhp, .inr (.inr ⟨rfl, hpp, not_bad (by assumption) (by assumption) hqc (by assumption), by omega⟩), by omega, Keep.trans (Keep.trans (Keep.trans (kU kR hh2) hk_g (by omega) ((fun _ _ h => h.elim))) hk_c (by omega) ((fun _ _ h => h.elim))) hk_p (by omega) ((fun _ _ h => h))⟩
def canc_r0 : List Ins := [.o 4 (.box (.t 1)),
 .o 5 (.box (.t 2)),
 .o 6 (.mov (.c (.bool false)))]
def canc_r1 : List Ins := [.mv 8 0,
 .f 9 120 [(.t 8)],
 .o 10 (.not (.t 9))]
def canc_r2 : List Ins := [.o 6 (.mov (.c (.bool false)))]
def canc_r3 : List Ins := [.mv 11 0,
 .o 12 (.nilck (.t 11)),
 .o 13 (.faddr (.t 12) 0),
 .o 14 (.load (.t 13)),
 .o 15 (.mkfn 124 [] [(.t 4), (.t 5)]),
 .f 16 123 [(.t 14), (.t 15)],
 .mv 7 16]
def canc_r4 : List Ins := [.mv 17 7,
 .o 18 (.bin .lss (.t 17) (kI 0))]
def canc_r5 : List Ins := [.o 6 (.mov (.c (.bool false)))]
def canc_r6 : List Ins := [.mv 19 0,
 .o 20 (.nilck (.t 19)),
 .o 21 (.faddr (.t 20) 0),
 .o 22 (.iface 193 (.t 21)),
 .mv 23 7,
 .f 24 125 [(.t 22), (.t 23)]]
def canc_r7 : List Ins := [.o 6 (.mov (.c (.bool true)))]
def canc_c : IC := (.seq (.reg canc_r0) (.seq (.seq (.reg canc_r1) (.cond (.t 10) (.seq (.reg canc_r2) .ret) .skip)) (.seq (.reg canc_r3) (.seq (.seq (.reg canc_r4) (.cond (.t 18) (.seq (.reg canc_r5) .ret) .skip)) (.seq (.reg canc_r6) (.seq (.reg canc_r7) .ret))))))
theorem canc_tab : tb 74 = some (.code 3 25 canc_c [.tmp 6]) := by kernel_rfl
theorem canc_ok {t : TB} {nx q : Nat} {lo : Nat → Prop} {lim fr sq : Int} {es : List Ev} (hq : QS t q lo nx lim es) (hql : ¬ lo q) (hlo : ∀ b, nx ≤ b → lo b) (hs : es.length < 10000) (hl : 0 < lim) (hH : HpN es es.length) : WF tb 74 [.ptr q 0, .int .i64 fr, .int .i64 sq] t nx (fun v t' nx' => ∃ (b : Bool) (es' : List Ev), v = .bool (decide (b = true)) ∧ QS t' q lo nx' lim es' ∧ HpN es' es'.length ∧ (b = true → ∃ e, e.frm = fr ∧ e.seq = sq ∧ (es' ++ [e]).Perm es) ∧ (b ≠ true → es' = es ∧ ∀ x ∈ es, ¬ (x.frm = fr ∧ x.seq = sq)) ∧ nx ≤ nx' ∧ Keep t t' nx (fun b => b = q ∨ lo b)) := by
 have hqn : q < nx := Nat.lt_of_not_le (fun h => hql (hlo q h))
 obtain ⟨lv, hqr, hv_⟩ := hq
 have hq : QS t q lo nx lim es := ⟨lv, hqr, hv_⟩
 refine k_fun canc_tab rfl ?_
 unfold canc_c
 change WC _ _ (TA.put (some _) (TA.put (some _) (TA.put (some _) TA.e 0) 1) 2) _ _ _
 refine k_seq (k_reg (r_heap (o_box (eV (get_other rfl get_same))) rfl (fun t1 (hh2 : hv t1 = upd (hv t) nx (some (.row [(.int .i64 fr)] true))) => r_heap (o_box (eV (z1 get_same))) rfl (fun t3 (hh4 : hv t3 = upd (hv t1) (nx + 1) (some (.row [(.int .i64 sq)] true))) => rO (o_mov ev_c) (r_nil (k_seq (k_seq (k_reg (m1 (z1 (z2 (get_other rfl (get_other rfl get_same)))) (r_call (w_callF (evs_cons eZ evs_nil)) rfl (WF.mono (qgiven_ok (hq.keep (n' := ((nx + 1) + 1)) (show Keep t t3 nx (fun _ => False) from kU (kU kR hh2) hh4) hqn (fun h => h) (fun _ _ h => h) (by omega)) hl) ?_)))))))))))
 rintro _ t5 n6 ⟨rfl, hn_g, hk_g⟩
 refine rO (o_not eZ) (r_nil (k_cond_f eZ (k_skip (k_seq (k_reg (m1 (z2 (z4 (get_other rfl (get_other rfl get_same)))) (rO (o_nilck eZ) (rO (o_faddr (off := 0) eZ) (rO (o_load eZ (Keep.look hk_g (by omega) id (lN hh4 (lN hh2 hqr))) rfl) (rO (o_mkfn evs_nil (evs_cons (eV (z1 (z8 ds))) (evs_cons (eV (z8 ds)) evs_nil))) (r_call (w_callF (evs_cons (eV (z1 ds)) (evs_cons eZ evs_nil))) rfl (WF.mono (evindex_ok (P := fun x => x.frm = fr ∧ x.seq = sq) (hv_.keep (n' := n6) (show Keep t t5 nx (fun _ => False) from Keep.trans (kU (kU kR hh2) hh4) hk_g (by omega) (fun d _ h => h)) (fun _ _ _ h => h) (by omega)).qr (by omega) ⟨124, [], [.ptr nx 0, .ptr (nx + 1) 0], rfl, fun x t2 n2 h2 k2 => canc1_ok x (k2.look (by omega) id (Keep.look hk_g (by omega) id (lN hh4 (lS hh2)))) (k2.look (by omega) id (Keep.look hk_g (by omega) id (lS hh4))) (by omega) (by omega)⟩) ?_))))))))))))
 rintro _ t7 n8 ⟨r, rfl, hr, hn_c, hk_c⟩
 refine m1 ds (r_nil (k_seq (k_seq (k_reg (m1 ds (rO (o_lss eZ ev_c) (r_nil ?_)))))))
 refine k_if eZ (fun hc9 => ?_) (fun hc9 => ?_)
 · refine k_seq (k_reg (rO (o_mov ev_c) (r_nil (k_ret ?_))))
   exact ⟨_, ans_tmp ds, false, es, (by simp), (hq.keep (n' := n8) (show Keep t t7 nx (fun _ => False) from Keep.trans (Keep.trans (kU (kU kR hh2) hh4) hk_g (by omega) (fun d _ h => h)) hk_c (by omega) (fun d _ h => h)) hqn (fun h => h) (fun _ _ h => h) (by omega)), hH, (by simp), (fun _ => ⟨rfl, hr.elim (fun h => h.2) (fun ⟨i, e, hri, _, _⟩ => absurd hri (by omega))⟩), by omega, Keep.trans (Keep.trans (kU (kU kR hh2) hh4) hk_g (by omega) ((fun _ _ h => h.elim))) hk_c (by omega) ((fun _ _ h => h.elim))⟩
 refine k_skip (k_seq ?_)
 rcases hr with ⟨h3, -⟩ | ⟨i, e, hri, h4, h5⟩
 · omega
 subst hri
 refine k_reg (rO (o_mov (eV (z1 (z2 (z4 (z8 (get_other rfl (get_other rfl get_same)))))))) (rO (o_nilck eZ) (rO (o_faddr (off := 0) eZ) (rO (o_iface eZ) (m1 (z2 (z4 ds)) (r_call (w_callF (evs_cons (eV (z1 ds)) (evs_cons eZ evs_nil))) rfl (WF.mono (hrem_ok (e := e) (k := i) (hq.keep (n' := n8) (show Keep t t7 nx (fun _ => False) from Keep.trans (Keep.trans (kU (kU kR hh2) hh4) hk_g (by omega) (fun d _ h => h)) hk_c (by omega) (fun d _ h => h)) hqn (fun h => h) (fun _ _ h => h) (by omega)) hql (fun b hb => hlo b (by omega)) (by omega) hH h4) ?_)))))))
 rintro _ t10 n11 ⟨es2, rfl, hqp, hpp, hhp, hn_p, hk_p⟩
 refine r_nil (k_seq (k_reg (rO (o_mov ev_c) (r_nil (k_ret ?_)))))
 exact ⟨_, ans_tmp ds, true, es2, (by simp), hqp, hhp, (fun _ => ⟨e, h5.1, h5.2, hpp⟩), (fun h_ => absurd rfl h_), by omega, Keep.trans (Keep.trans (Keep.trans (kU (kU kR hh2) hh4) hk_g (by omega) ((fun _ _ h => h.elim))) hk_c (by omega) ((fun _ _ h => h.elim))) hk_p (by omega) ((fun _ _ h => h))⟩
def qmin_r0 : List Ins := [.o 2 (.alloc [(.int .i64 0), (.int .i64 0), (.str []), (.int .i64 0), (.int .i64 0), (.bool false)]),
 .o 3 (.mov (.c (.bool false)))]
def qmin_r1 : List Ins := [.mv 4 0,
 .f 5 120 [(.t 4)],
 .o 6 (.not (.t 5)),
 .mv 7 6,
 .g 8 7 false (.mov (.t 0)),
 .g 9 7 false (.nilck (.t 8)),
 .g 10 7 false (.faddr (.t 9) 0),
 .g 11 7 false (.load (.t 10)),
 .g 12 7 false (.len .slc (.t 11)),
 .g 13 7 false (.bin .eql (.t 12) (kI 0)),
 .o 14 (.pick (.t 7) (.c (.bool true)) (.t 13))]
def qmin_r2 : List Ins := [.o 15 (.build [(.int .i64 0), (.int .i64 0), (.str []), (.int .i64 0), (.int .i64 0), (.bool false)] []),
 .x (.store 6 (.t 2) (.t 15)),
 .o 3 (.mov (.c (.bool false)))]
def qmin_r3 : List Ins := [.mv 16 0,
 .o 17 (.nilck (.t 16)),
 .o 18 (.faddr (.t 17) 0),
 .o 19 (.load (.t 18)),
 .o 20 (.iaddr 6 (.t 19) (kI 0)),
 .o 21 (.loadA 6 (.t 20)),
 .x (.store 6 (.t 2) (.t 21)),
 .o 3 (.mov (.c (.bool true)))]
def qmin_c : IC := (.seq (.reg qmin_r0) (.seq (.seq (.reg qmin_r1) (.cond (.t 14) (.seq (.reg qmin_r2) .ret) .skip)) (.seq (.reg qmin_r3) .ret)))
theorem qmin_tab : tb 69 = some (.code 1 22 qmin_c [.cell 2 6 true, .tmp 3]) := by kernel_rfl
theorem qmin_ok {t : TB} {nx q : Nat} {lo : Nat → Prop} {lim : Int} {es : List Ev} (hq : QS t q lo nx lim es) (hqn : q < nx) (hs : es.length < 10000) (hl : 0 < lim) : WF tb 69 [.ptr q 0] t nx (fun v t' nx' => ∃ (e : Ev) (m : Bool), v = .tup [.agg (ecells e), .bool (decide (m = true))] ∧ (m = true → es[0]? = some e) ∧ (m ≠ true → es = []) ∧ nx ≤ nx' ∧ Keep t t' nx (fun _ => False)) := by
 obtain ⟨lv, hqr, hv_⟩ := hq
 have hq : QS t q lo nx lim es := ⟨lv, hqr, hv_⟩
 refine k_fun qmin_tab rfl ?_
 unfold qmin_c
 change WC _ _ (TA.put (some _) TA.e 0) _ _ _
 refine k_seq (k_reg (r_heap (o_alloc) rfl (fun t1 (hh2 : hv t1 = upd (hv t) nx (some (.row [(.int .i64 0), (.int .i64 0), (.str []), (.int .i64 0), (.int .i64 0), (.bool false)] true))) => rO (o_mov ev_c) (r_nil (k_seq (k_seq (k_reg (m1 (z2 get_same) (r_call (w_callF (evs_cons eZ evs_nil)) rfl (WF.mono (qgiven_ok (hq.keep (n' := (nx + 1)) (show Keep t t1 nx (fun _ => False) from kU kR hh2) hqn (fun h => h) (fun _ _ h => h) (by omega)) hl) ?_))))))))))
 rintro _ t3 n4 ⟨rfl, hn_g, hk_g⟩
 refine rO (o_not eZ) (m1 ds (r_op (o_mov (eV (z2 (z4 get_same)))) (want_on ds) (r_op (o_nilck eZ) (want_on (z1 ds)) (r_op (o_faddr (off := 0) eZ) (want_on (z2 ds)) (r_op (o_load eZ (Keep.look hk_g (by omega) id (lN hh2 hqr)) rfl) (want_on (z1 (z2 ds))) (r_op (o_len_E (hv_.keep (n' := n4) (show Keep t t3 nx (fun _ => False) from Keep.trans (kU kR hh2) hk_g (by omega) (fun d _ h => h)) (fun _ _ _ h => h) (by omega)).qr eZ) (want_on (z4 ds)) (r_op (o_eql eZ ev_c) (want_on (z1 (z4 ds))) (rO (o_pick_f (eV (z2 (z4 ds))) eZ) (r_nil ?_)))))))))
 refine k_if eZ (fun hc5 => ?_) (fun hc5 => ?_)
 · refine k_seq (k_reg (rO (o_build fill_nil) (r_heap (o_store (n := 6) (eV (z1 (z4 (z8 ds)))) eZ (Keep.look hk_g (by omega) id (lS hh2)) rfl rfl (leb rfl)) rfl (fun t6 (hh7 : hv t6 = upd (hv t3) nx (some (.row [(.int .i64 0), (.int .i64 0), (.str []), (.int .i64 0), (.int .i64 0), (.bool false)] true))) => rO (o_mov ev_c) (r_nil (k_ret ?_))))))
   exact ⟨_, ans_two (res_cell (z1 (z2 (z4 (z8 ds)))) (lS hh7) (leb rfl) rfl (res_tmp ds res_nil)), ⟨0, 0, [], 0, 0, false⟩, false, (by simp [ecells]), (by simp), (fun _ => List.eq_nil_of_length_eq_zero (by omega)), by omega, kU (Keep.trans (kU kR hh2) hk_g (by omega) (fun d _ h => h)) hh7⟩
 refine k_skip (k_seq ?_)
 obtain ⟨e, ha⟩ := some_at (l := es) (i := 0) (by omega)
 have hq_ := hv_
 rcases hq_ with ⟨-, h0⟩ | ⟨d, c, r, hlv, hd1, hd2, hr, hE⟩
 · subst h0; simp at ha
 have hge : (r.drop (0 + 0 * 6)).take 6 = [.int .i64 e.time, .int .i64 e.node, .str e.val, .int .i64 e.frm, .int .i64 e.seq, .bool e.anti] := by rw [Nat.zero_add]; exact hE.get ha
 have hr1 := (show Keep t t3 nx (fun _ => False) from Keep.trans (kU kR hh2) hk_g (by omega) (fun d _ h => h)).look (by omega) id hr
 refine k_reg (m1 (z1 (z4 (z8 get_same))) (rO (o_nilck eZ) (rO (o_faddr (off := 0) eZ) (rO (o_load eZ (Keep.look hk_g (by omega) id (lN hh2 hqr)) rfl) (rO (o_iaddrE (i := 0) eZ hlv ev_c (by omega)) ?_)))))
 refine rO (o_loadA (n := 6) eZ hr1 (by have h_ := hE.len; have h2_ := hE.fits; omega) hge) ?_
 refine r_heap (o_store (n := 6) (eV (z2 (z8 (z8 ds)))) eZ (Keep.look hk_g (by omega) id (lS hh2)) rfl rfl (leb rfl)) rfl (fun t8 (hh9 : hv t8 = upd (hv t3) nx (some (.row [(.int .i64 e.time), (.int .i64 e.node), (.str e.val), (.int .i64 e.frm), (.int .i64 e.seq), (.bool e.anti)] true))) => rO (o_mov ev_c) (r_nil (k_ret ?_)))
 exact ⟨_, ans_two (res_cell (z4 (z8 (z8 ds))) (lS hh9) (leb rfl) rfl (res_tmp ds res_nil)), e, true, (by simp [ecells]), (fun _ => ha), (fun h_ => absurd rfl h_), by omega, kU (Keep.trans (kU kR hh2) hk_g (by omega) (fun d _ h => h)) hh9⟩
def qtake_r0 : List Ins := [.o 2 (.alloc [(.int .i64 0), (.int .i64 0), (.str []), (.int .i64 0), (.int .i64 0), (.bool false)]),
 .o 3 (.mov (.c (.bool false)))]
def qtake_r1 : List Ins := [.mv 4 0,
 .f 5 120 [(.t 4)],
 .o 6 (.not (.t 5)),
 .mv 7 6,
 .g 8 7 false (.mov (.t 0)),
 .g 9 7 false (.nilck (.t 8)),
 .g 10 7 false (.faddr (.t 9) 0),
 .g 11 7 false (.load (.t 10)),
 .g 12 7 false (.len .slc (.t 11)),
 .g 13 7 false (.bin .eql (.t 12) (kI 0)),
 .o 14 (.pick (.t 7) (.c (.bool true)) (.t 13))]
def qtake_r2 : List Ins := [.o 15 (.build [(.int .i64 0), (.int .i64 0), (.str []), (.int .i64 0), (.int .i64 0), (.bool false)] []),
 .x (.store 6 (.t 2) (.t 15)),
 .o 3 (.mov (.c (.bool false)))]
def qtake_r3 : List Ins := [.mv 16 0,
 .o 17 (.nilck (.t 16)),
 .o 18 (.faddr (.t 17) 0),
 .o 19 (.iface 193 (.t 18)),
 .f 20 56 [(.t 19)],
 .o 21 (.tassert 66 (.agg [(.int .i64 0), (.int .i64 0), (.str []), (.int .i64 0), (.int .i64 0), (.bool false)]) (.t 20) false),
 .x (.store 6 (.t 2) (.t 21)),
 .o 3 (.mov (.c (.bool true)))]
def qtake_c : IC := (.seq (.reg qtake_r0) (.seq (.seq (.reg qtake_r1) (.cond (.t 14) (.seq (.reg qtake_r2) .ret) .skip)) (.seq (.reg qtake_r3) .ret)))
theorem qtake_tab : tb 70 = some (.code 1 22 qtake_c [.cell 2 6 true, .tmp 3]) := by kernel_rfl
theorem put_d {t : TB} {nx q d : Nat} {lim : Int} {es : List Ev} {e : Ev} (hq : QD t q d nx lim es) (hs : es.length < 9999) (hl : (es.length : Int) < lim) (hH : HpN es es.length) : WF tb 73 [.ptr q 0, .agg (ecells e)] t nx (fun v t' nx' => ∃ (r : Int) (es' : List Ev) (d' : Nat), v = .int .i64 r ∧ (d' = d ∨ nx ≤ d') ∧ QD t' q d' nx' lim es' ∧ HpN es' es'.length ∧ PutR es e r es' ∧ nx ≤ nx' ∧ Keep t t' nx (fun b => b = q ∨ b = d)) :=
 (put_ok (e := e) hq.inn.1 hq.inn.2 (fun _ h => .inr h) hs hl hH).mono (fun v t' nx' ⟨r, es', h1, h2, h3, h4, h5, h6⟩ => by
   obtain ⟨d', e1, e2⟩ := QD.out h2 hq.1 h5 hq.2.1 hq.2.2.1
   exact ⟨r, es', d', h1, e1, e2, h3, h4, h5, keep_d h6 (Nat.le_refl _)⟩)
theorem canc_d {t : TB} {nx q d : Nat} {lim fr sq : Int} {es : List Ev} (hq : QD t q d nx lim es) (hs : es.length < 10000) (hl : 0 < lim) (hH : HpN es es.length) : WF tb 74 [.ptr q 0, .int .i64 fr, .int .i64 sq] t nx (fun v t' nx' => ∃ (b : Bool) (es' : List Ev) (d' : Nat), v = .bool (decide (b = true)) ∧ (d' = d ∨ nx ≤ d') ∧ QD t' q d' nx' lim es' ∧ HpN es' es'.length ∧ (b = true → ∃ e, e.frm = fr ∧ e.seq = sq ∧ (es' ++ [e]).Perm es) ∧ (b ≠ true → es' = es ∧ ∀ x ∈ es, ¬ (x.frm = fr ∧ x.seq = sq)) ∧ nx ≤ nx' ∧ Keep t t' nx (fun b => b = q ∨ b = d)) :=
 (canc_ok hq.inn.1 hq.inn.2 (fun _ h => .inr h) hs hl hH).mono (fun v t' nx' ⟨r, es', h1, h2, h3, h4, h4', h5, h6⟩ => by
   obtain ⟨d', e1, e2⟩ := QD.out h2 hq.1 h5 hq.2.1 hq.2.2.1
   exact ⟨r, es', d', h1, e1, e2, h3, h4, h4', h5, keep_d h6 (Nat.le_refl _)⟩)

theorem qtake_ok {t : TB} {nx q d : Nat} {lim : Int} {es : List Ev} {e : Ev} (hQ : QD t q d nx lim es) (hs : es.length < 10000) (hl : 0 < lim) (hH : HpN es es.length) (ha : es[0]? = some e) : WF tb 70 [.ptr q 0] t nx (fun v t' nx' => ∃ (es' : List Ev) (d' : Nat), v = .tup [.agg (ecells e), .bool true] ∧ (d' = d ∨ nx ≤ d') ∧ QD t' q d' nx' lim es' ∧ (es' ++ [e]).Perm es ∧ HpN es' es'.length ∧ nx ≤ nx' ∧ Keep t t' nx (fun b => b = q ∨ b = d)) := by
 have h00 : 0 < es.length := (List.getElem?_eq_some_iff.1 ha).1
 obtain ⟨hdn, hdq, hqn, hq⟩ := hQ
 obtain ⟨lv, hqr, hv_⟩ := hq
 have hq : QS t q (fun b => b = d) nx lim es := ⟨lv, hqr, hv_⟩
 refine k_fun qtake_tab rfl ?_
 unfold qtake_c
 change WC _ _ (TA.put (some _) TA.e 0) _ _ _
 refine k_seq (k_reg (r_heap (o_alloc) rfl (fun t1 (hh2 : hv t1 = upd (hv t) nx (some (.row [(.int .i64 0), (.int .i64 0), (.str []), (.int .i64 0), (.int .i64 0), (.bool false)] true))) => rO (o_mov ev_c) (r_nil (k_seq (k_seq (k_reg (m1 (z2 get_same) (r_call (w_callF (evs_cons eZ evs_nil)) rfl (WF.mono (qgiven_ok (hq.keep (n' := (nx + 1)) (show Keep t t1 nx (fun _ => False) from kU kR hh2) hqn (fun h => h) (fun _ _ h => h) (by omega)) hl) ?_))))))))))
 rintro _ t3 n4 ⟨rfl, hn_g, hk_g⟩
 refine rO (o_not eZ) (m1 ds (r_op (o_mov (eV (z2 (z4 get_same)))) (want_on ds) (r_op (o_nilck eZ) (want_on (z1 ds)) (r_op (o_faddr (off := 0) eZ) (want_on (z2 ds)) (r_op (o_load eZ (Keep.look hk_g (by omega) id (lN hh2 hqr)) rfl) (want_on (z1 (z2 ds))) (r_op (o_len_E (hv_.keep (n' := n4) (show Keep t t3 nx (fun _ => False) from Keep.trans (kU kR hh2) hk_g (by omega) (fun d _ h => h)) (fun _ _ _ h => h) (by omega)).qr eZ) (want_on (z4 ds)) (r_op (o_eql eZ ev_c) (want_on (z1 (z4 ds))) (rO (o_pick_f (eV (z2 (z4 ds))) eZ) (r_nil ?_)))))))))
 refine k_if eZ (fun hc5 => ?_) (fun hc5 => ?_)
 · refine k_seq (k_reg (rO (o_build fill_nil) (r_heap (o_store (n := 6) (eV (z1 (z4 (z8 ds)))) eZ (Keep.look hk_g (by omega) id (lS hh2)) rfl rfl (leb rfl)) rfl (fun t6 (hh7 : hv t6 = upd (hv t3) nx (some (.row [(.int .i64 0), (.int .i64 0), (.str []), (.int .i64 0), (.int .i64 0), (.bool false)] true))) => rO (o_mov ev_c) (r_nil (k_ret ?_))))))
   exfalso; omega
 refine k_skip (k_seq (k_reg (m1 (z1 (z4 (z8 get_same))) (rO (o_nilck eZ) (rO (o_faddr (off := 0) eZ) (rO (o_iface eZ) (r_call (w_callF (evs_cons eZ evs_nil)) rfl (WF.mono (hpop_ok (e := e) (lo := fun b => b = d ∨ n4 ≤ b) ((hq.keep (n' := n4) (show Keep t t3 nx (fun _ => False) from Keep.trans (kU kR hh2) hk_g (by omega) (fun d _ h => h)) hqn (fun h => h) (fun _ _ h => h) (by omega)).mono (fun _ e_ => .inl e_)) (by omega) (fun b hb => .inr hb) (by omega) hH ha) ?_))))))))
 rintro _ t8 n9 ⟨es2, rfl, hqp, hpp, hhp, hn_p, hk_p⟩
 obtain ⟨d2, hd2, hQ2⟩ := QD.out hqp (by omega) (by omega) hdq (by omega)
 refine rO (o_tassert eZ) (r_heap (o_store (n := 6) (eV (z2 (z8 (z8 ds)))) eZ (Keep.look hk_p (by omega) (fun h_ => by rcases h_ with h_ | h_ | h_ <;> omega) (Keep.look hk_g (by omega) id (lS hh2))) rfl rfl (leb rfl)) rfl (fun t10 (hh11 : hv t10 = upd (hv t8) nx (some (.row [(.int .i64 e.time), (.int .i64 e.node), (.str e.val), (.int .i64 e.frm), (.int .i64 e.seq), (.bool e.anti)] true))) => rO (o_mov ev_c) (r_nil (k_ret ?_))))
 exact ⟨_, ans_two (res_cell (z4 (z8 (z8 ds))) (lS hh11) (leb rfl) rfl (res_tmp ds res_nil)), es2, d2, (by simp [ecells]), by omega, hQ2.keep (show Keep t8 t10 n9 (fun b => b = nx) from Keep.upd (Keep.refl t8 n9 _) hh11 (by first | exact .inl (by omega) | (right; first | exact rfl | (show _ ∨ _; omega) | omega))) (by omega) (by omega) (by omega), hpp, hhp, by omega, kU (Keep.trans (Keep.trans (kU kR hh2) hk_g (by omega) ((fun _ _ h => h.elim))) hk_p (by omega) ((fun b hb h_ => h_.elim .inl (fun h_ => h_.elim .inr (fun h_ => absurd hb (by omega)))))) hh11⟩
end Go.Proofs.YtpjohgnhmjceiaaGreatDoor.WX

