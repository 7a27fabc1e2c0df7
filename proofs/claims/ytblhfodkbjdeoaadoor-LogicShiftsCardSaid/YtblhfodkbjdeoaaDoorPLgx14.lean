-- By this session's program prinj.py, out of the translation and contracts proved by hand. Not trusted: Lean checks it.
import Derived.Test.YtblhfodkbjdeoaaDoorPLgx0
import Derived.Test.YtblhfodkbjdeoaaDoorPLgx4
import Derived.Test.YtblhfodkbjdeoaaDoorPLgx5
import Derived.Test.YtblhfodkbjdeoaaDoorPLgx6
import Derived.Test.YtblhfodkbjdeoaaDoorPLgx13
namespace Go.Proofs.YtblhfodkbjdeoaaDoor.PLg
open Go.RowKit Go.Proofs.YtblhfodkbjdeoaaDoorW.PrintWords Go.Proofs.YtblhfodkbjdeoaaDoorW.PrintLast Go.Proofs.YtblhfodkbjdeoaaDoorW.PrintMore
attribute [local go_sem] max2_int min2_int max_two min_two max_three min_three max_four min_four   -- for this text's walks alone
attribute [local go_sem] str_leq str_gtr str_geq
set_option linter.unusedVariables false
set_option linter.unusedSimpArgs false

/-! ### silkwormlaw01_LogicShifts: function 6 -/
mutual
def silkwormlaw01_LogicShifts.j0 : Nat → ByteArray → Int → ByteArray → ByteArray → ByteArray → Bool → Option (Bool)
  | 0, _, _, _, _, _, _ => none
  | k + 1, x0, x7, x9, x11, x13, x59 => if x59 = true then (some false) else ((logic_Binary.f k 15 x0 x9).bind fun bt329 => ((logic_Binary.f k 16 bt329.1 x9).bind fun bt331 => ((logic_Binary.f k 15 bt329.1 x11).bind fun bt333 => ((logic_Binary.f k 15 x0 x13).bind fun bt335 => (if bt329.2 = 0 then (if bt331.2 = 0 then (if bt333.2 = 0 then (if bt335.2 = 0 then (if bt333.1.toList = bt335.1.toList then (silkwormlaw01_LogicShifts.j1 k x0 x7 bt331.1 ((bt331.1.size : Int) != (x0.size : Int))) else (silkwormlaw01_LogicShifts.j1 k x0 x7 bt331.1 true)) else (silkwormlaw01_LogicShifts.j1 k x0 x7 bt331.1 true)) else (silkwormlaw01_LogicShifts.j1 k x0 x7 bt331.1 true)) else (silkwormlaw01_LogicShifts.j1 k x0 x7 bt331.1 true)) else (silkwormlaw01_LogicShifts.j1 k x0 x7 bt331.1 true))))))
def silkwormlaw01_LogicShifts.j1 : Nat → ByteArray → Int → ByteArray → Bool → Option (Bool)
  | 0, _, _, _, _ => none
  | k + 1, x0, x7, x17, x109 => if x109 = true then (some false) else (silkwormlaw01_LogicShifts.l0 k x0 x7 x17 0)
def silkwormlaw01_LogicShifts.l0 : Nat → ByteArray → Int → ByteArray → Int → Option (Bool)
  | 0, _, _, _, _ => none
  | k + 1, x0, x7, x17, x23 => if x23 < (x0.size : Int) then (if x23 ≥ x7 then (if 0 ≤ x23 then (if x23 < (x17.size : Int) then (if (bt x17 x23) = (bt x0 x23) then (silkwormlaw01_LogicShifts.l0 k x0 x7 x17 (wrap64 (x23 + 1))) else (some false)) else (none)) else (none)) else (if 0 ≤ x23 then (if x23 < (x17.size : Int) then (if (bt x17 x23) = 48 then (silkwormlaw01_LogicShifts.l0 k x0 x7 x17 (wrap64 (x23 + 1))) else (some false)) else (none)) else (none))) else ((silkwormlaw01_awake.f k).bind fun t337 => (some t337))
end
def silkwormlaw01_LogicShifts.f (k : Nat) (a0 : ByteArray) (a1 : Int) (a2 : Int) : Option (Bool) := (silkwormref01_May.f k a0).bind fun t321 => (if t321 = true then ((logic_Of.f k (Go.bits .and .i64 a1 63) 9).bind fun bt323 => ((logic_Of.f k (Go.bits .and .i64 a2 63) 9).bind fun bt325 => ((logic_Of.f k (wrap64 ((Go.bits .and .i64 a1 63) + (Go.bits .and .i64 a2 63))) 9).bind fun bt327 => (if bt323.2 = 0 then (if bt325.2 = 0 then (silkwormlaw01_LogicShifts.j0 k a0 (Go.bits .and .i64 a1 63) bt323.1 bt325.1 bt327.1 (bt327.2 != 0)) else (silkwormlaw01_LogicShifts.j0 k a0 (Go.bits .and .i64 a1 63) bt323.1 bt325.1 bt327.1 true)) else (silkwormlaw01_LogicShifts.j0 k a0 (Go.bits .and .i64 a1 63) bt323.1 bt325.1 bt327.1 true))))) else ((silkwormlaw01_awake.f k).bind fun t322 => (some t322)))
theorem silkwormlaw01_LogicShifts.mono_l : ∀ k, (∀ y0 y1 y2 y3 y4 y5, LeO (silkwormlaw01_LogicShifts.j0 k y0 y1 y2 y3 y4 y5) (silkwormlaw01_LogicShifts.j0 (k + 1) y0 y1 y2 y3 y4 y5)) ∧ (∀ y0 y1 y2 y3, LeO (silkwormlaw01_LogicShifts.j1 k y0 y1 y2 y3) (silkwormlaw01_LogicShifts.j1 (k + 1) y0 y1 y2 y3)) ∧ (∀ y0 y1 y2 y3, LeO (silkwormlaw01_LogicShifts.l0 k y0 y1 y2 y3) (silkwormlaw01_LogicShifts.l0 (k + 1) y0 y1 y2 y3))
  | 0 => ⟨fun _ _ _ _ _ _ r h => by simp [silkwormlaw01_LogicShifts.j0] at h, fun _ _ _ _ r h => by simp [silkwormlaw01_LogicShifts.j1] at h, fun _ _ _ _ r h => by simp [silkwormlaw01_LogicShifts.l0] at h⟩
  | k + 1 => by
    obtain ⟨ih0, ih1, ih2⟩ := silkwormlaw01_LogicShifts.mono_l k
    refine ⟨?_, ?_, ?_⟩
    · intro y0 y1 y2 y3 y4 y5
      unfold silkwormlaw01_LogicShifts.j0
      repeat' first
      | (with_reducible exact ih0 _ _ _ _ _ _)
      | (with_reducible exact ih1 _ _ _ _)
      | (with_reducible exact ih2 _ _ _ _)
      | (with_reducible exact logic_Binary.mono _ _ _ _)
      | (with_reducible exact logic_Of.mono _ _ _)
      | (with_reducible exact silkwormlaw01_awake.mono _)
      | (with_reducible exact silkwormref01_May.mono _ _)
      | (with_reducible exact LeO.refl _)
      | (with_reducible exact LeO.none _)
      | (with_reducible refine LeO.ite ?_ ?_)
      | (with_reducible refine LeO.bind ?_ (fun _ => ?_))
      | exact ih0 _ _ _ _ _ _
      | exact ih1 _ _ _ _
      | exact ih2 _ _ _ _
      | exact logic_Binary.mono _ _ _ _
      | exact logic_Of.mono _ _ _
      | exact silkwormlaw01_awake.mono _
      | exact silkwormref01_May.mono _ _
      | exact LeO.none _
      | refine LeO.ite ?_ ?_
      | refine LeO.bind ?_ (fun _ => ?_)
    · intro y0 y1 y2 y3
      unfold silkwormlaw01_LogicShifts.j1
      repeat' first
      | (with_reducible exact ih0 _ _ _ _ _ _)
      | (with_reducible exact ih1 _ _ _ _)
      | (with_reducible exact ih2 _ _ _ _)
      | (with_reducible exact logic_Binary.mono _ _ _ _)
      | (with_reducible exact logic_Of.mono _ _ _)
      | (with_reducible exact silkwormlaw01_awake.mono _)
      | (with_reducible exact silkwormref01_May.mono _ _)
      | (with_reducible exact LeO.refl _)
      | (with_reducible exact LeO.none _)
      | (with_reducible refine LeO.ite ?_ ?_)
      | (with_reducible refine LeO.bind ?_ (fun _ => ?_))
      | exact ih0 _ _ _ _ _ _
      | exact ih1 _ _ _ _
      | exact ih2 _ _ _ _
      | exact logic_Binary.mono _ _ _ _
      | exact logic_Of.mono _ _ _
      | exact silkwormlaw01_awake.mono _
      | exact silkwormref01_May.mono _ _
      | exact LeO.none _
      | refine LeO.ite ?_ ?_
      | refine LeO.bind ?_ (fun _ => ?_)
    · intro y0 y1 y2 y3
      unfold silkwormlaw01_LogicShifts.l0
      repeat' first
      | (with_reducible exact ih0 _ _ _ _ _ _)
      | (with_reducible exact ih1 _ _ _ _)
      | (with_reducible exact ih2 _ _ _ _)
      | (with_reducible exact logic_Binary.mono _ _ _ _)
      | (with_reducible exact logic_Of.mono _ _ _)
      | (with_reducible exact silkwormlaw01_awake.mono _)
      | (with_reducible exact silkwormref01_May.mono _ _)
      | (with_reducible exact LeO.refl _)
      | (with_reducible exact LeO.none _)
      | (with_reducible refine LeO.ite ?_ ?_)
      | (with_reducible refine LeO.bind ?_ (fun _ => ?_))
      | exact ih0 _ _ _ _ _ _
      | exact ih1 _ _ _ _
      | exact ih2 _ _ _ _
      | exact logic_Binary.mono _ _ _ _
      | exact logic_Of.mono _ _ _
      | exact silkwormlaw01_awake.mono _
      | exact silkwormref01_May.mono _ _
      | exact LeO.none _
      | refine LeO.ite ?_ ?_
      | refine LeO.bind ?_ (fun _ => ?_)
theorem silkwormlaw01_LogicShifts.mono : ∀ a0 a1 a2 k, LeO (silkwormlaw01_LogicShifts.f k a0 a1 a2) (silkwormlaw01_LogicShifts.f (k + 1) a0 a1 a2) := by
  intro a0 a1 a2 k
  obtain ⟨ih0, ih1, ih2⟩ := silkwormlaw01_LogicShifts.mono_l k
  unfold silkwormlaw01_LogicShifts.f
  repeat' first
      | (with_reducible exact ih0 _ _ _ _ _ _)
      | (with_reducible exact ih1 _ _ _ _)
      | (with_reducible exact ih2 _ _ _ _)
      | (with_reducible exact logic_Binary.mono _ _ _ _)
      | (with_reducible exact logic_Of.mono _ _ _)
      | (with_reducible exact silkwormlaw01_awake.mono _)
      | (with_reducible exact silkwormref01_May.mono _ _)
      | (with_reducible exact LeO.refl _)
      | (with_reducible exact LeO.none _)
      | (with_reducible refine LeO.ite ?_ ?_)
      | (with_reducible refine LeO.bind ?_ (fun _ => ?_))
      | exact ih0 _ _ _ _ _ _
      | exact ih1 _ _ _ _
      | exact ih2 _ _ _ _
      | exact logic_Binary.mono _ _ _ _
      | exact logic_Of.mono _ _ _
      | exact silkwormlaw01_awake.mono _
      | exact silkwormref01_May.mono _ _
      | exact LeO.none _
      | refine LeO.ite ?_ ?_
      | refine LeO.bind ?_ (fun _ => ?_)
set_option maxHeartbeats 8000000 in
set_option maxRecDepth 100000 in
theorem silkwormlaw01_LogicShifts.calls (k : Nat) (a0 : ByteArray) (a1 : Int) (a2 : Int) (r : Bool) (w : World) (h : silkwormlaw01_LogicShifts.f k a0 a1 a2 = some r) :
    Calls Tryd.prog 6 #[.string a0, .int .i64 a1, .int .i64 a2] w fun e w' => e = .returned (.bool r) ∧ Below w.heap.size w w' := by
  have HB := Aside0.mk (Below.refl w.heap.size w)
  have H : ((silkwormref01_May.f k a0).bind fun t321 => (if t321 = true then ((logic_Of.f k (Go.bits .and .i64 a1 63) 9).bind fun bt323 => ((logic_Of.f k (Go.bits .and .i64 a2 63) 9).bind fun bt325 => ((logic_Of.f k (wrap64 ((Go.bits .and .i64 a1 63) + (Go.bits .and .i64 a2 63))) 9).bind fun bt327 => (if bt323.2 = 0 then (if bt325.2 = 0 then (silkwormlaw01_LogicShifts.j0 k a0 (Go.bits .and .i64 a1 63) bt323.1 bt325.1 bt327.1 (bt327.2 != 0)) else (silkwormlaw01_LogicShifts.j0 k a0 (Go.bits .and .i64 a1 63) bt323.1 bt325.1 bt327.1 true)) else (silkwormlaw01_LogicShifts.j0 k a0 (Go.bits .and .i64 a1 63) bt323.1 bt325.1 bt327.1 true))))) else ((silkwormlaw01_awake.f k).bind fun t322 => (some t322)))) = some r := h
  clear h
  replace H := Option.bind_eq_some_iff.mp H
  obtain ⟨t321, A40, H⟩ := H
  replace H : (if t321 = true then ((logic_Of.f k (Go.bits .and .i64 a1 63) 9).bind fun bt323 => ((logic_Of.f k (Go.bits .and .i64 a2 63) 9).bind fun bt325 => ((logic_Of.f k (wrap64 ((Go.bits .and .i64 a1 63) + (Go.bits .and .i64 a2 63))) 9).bind fun bt327 => (if bt323.2 = 0 then (if bt325.2 = 0 then (silkwormlaw01_LogicShifts.j0 k a0 (Go.bits .and .i64 a1 63) bt323.1 bt325.1 bt327.1 (bt327.2 != 0)) else (silkwormlaw01_LogicShifts.j0 k a0 (Go.bits .and .i64 a1 63) bt323.1 bt325.1 bt327.1 true)) else (silkwormlaw01_LogicShifts.j0 k a0 (Go.bits .and .i64 a1 63) bt323.1 bt325.1 bt327.1 true))))) else ((silkwormlaw01_awake.f k).bind fun t322 => (some t322))) = some r := H
  have A4 := Aside0.mk A40
  clear A40
  by_cases c5 : t321 = true
  · subst c5
    have H1 : ((logic_Of.f k (Go.bits .and .i64 a1 63) 9).bind fun bt323 => ((logic_Of.f k (Go.bits .and .i64 a2 63) 9).bind fun bt325 => ((logic_Of.f k (wrap64 ((Go.bits .and .i64 a1 63) + (Go.bits .and .i64 a2 63))) 9).bind fun bt327 => (if bt323.2 = 0 then (if bt325.2 = 0 then (silkwormlaw01_LogicShifts.j0 k a0 (Go.bits .and .i64 a1 63) bt323.1 bt325.1 bt327.1 (bt327.2 != 0)) else (silkwormlaw01_LogicShifts.j0 k a0 (Go.bits .and .i64 a1 63) bt323.1 bt325.1 bt327.1 true)) else (silkwormlaw01_LogicShifts.j0 k a0 (Go.bits .and .i64 a1 63) bt323.1 bt325.1 bt327.1 true))))) = some r := by rw [if_pos rfl] at H; exact H
    clear H
    have H := H1
    clear H1
    replace H := Option.bind_eq_some_iff.mp H
    obtain ⟨⟨t323, t324⟩, A60, H⟩ := H
    replace H : ((logic_Of.f k (Go.bits .and .i64 a2 63) 9).bind fun bt325 => ((logic_Of.f k (wrap64 ((Go.bits .and .i64 a1 63) + (Go.bits .and .i64 a2 63))) 9).bind fun bt327 => (if t324 = 0 then (if bt325.2 = 0 then (silkwormlaw01_LogicShifts.j0 k a0 (Go.bits .and .i64 a1 63) t323 bt325.1 bt327.1 (bt327.2 != 0)) else (silkwormlaw01_LogicShifts.j0 k a0 (Go.bits .and .i64 a1 63) t323 bt325.1 bt327.1 true)) else (silkwormlaw01_LogicShifts.j0 k a0 (Go.bits .and .i64 a1 63) t323 bt325.1 bt327.1 true)))) = some r := H
    have A6 := Aside0.mk A60
    clear A60
    replace H := Option.bind_eq_some_iff.mp H
    obtain ⟨⟨t325, t326⟩, A70, H⟩ := H
    replace H : ((logic_Of.f k (wrap64 ((Go.bits .and .i64 a1 63) + (Go.bits .and .i64 a2 63))) 9).bind fun bt327 => (if t324 = 0 then (if t326 = 0 then (silkwormlaw01_LogicShifts.j0 k a0 (Go.bits .and .i64 a1 63) t323 t325 bt327.1 (bt327.2 != 0)) else (silkwormlaw01_LogicShifts.j0 k a0 (Go.bits .and .i64 a1 63) t323 t325 bt327.1 true)) else (silkwormlaw01_LogicShifts.j0 k a0 (Go.bits .and .i64 a1 63) t323 t325 bt327.1 true))) = some r := H
    have A7 := Aside0.mk A70
    clear A70
    replace H := Option.bind_eq_some_iff.mp H
    obtain ⟨⟨t327, t328⟩, A80, H⟩ := H
    replace H : (if t324 = 0 then (if t326 = 0 then (silkwormlaw01_LogicShifts.j0 k a0 (Go.bits .and .i64 a1 63) t323 t325 t327 (t328 != 0)) else (silkwormlaw01_LogicShifts.j0 k a0 (Go.bits .and .i64 a1 63) t323 t325 t327 true)) else (silkwormlaw01_LogicShifts.j0 k a0 (Go.bits .and .i64 a1 63) t323 t325 t327 true)) = some r := H
    have A8 := Aside0.mk A80
    clear A80
    have HC9 := Aside0.mk H
    clear H
    go_enter Tryd.func6, Tryd.ntmps6
    go_upto_region 7 with (first | ((with_reducible refine gate_callee (f := 17) rfl ?_); refine goesL_ (some 26) rfl rfl Tryd.func17 (by kernel_rfl) rfl #[.string a0] rfl (by (try simp only [List.map_toArray, List.map_cons, List.map_nil]); first | done | rfl | (simp only [List.length_drop, List.length_take]; rfl)) ?_; (with_reducible refine (silkwormref01_May.calls k a0 true _ A4.out).mono ?_); rintro e w' ⟨rfl, ⟨nd, rfl⟩⟩; refine ⟨_, rfl, ?_⟩) | ((with_reducible refine gate_callee (f := 23) rfl ?_); refine goesL_ (some 35) rfl rfl Tryd.func23 (by kernel_rfl) rfl #[.int .i64 (Go.bits .and .i64 a1 63), .int .i64 9] rfl (by (try simp only [List.map_toArray, List.map_cons, List.map_nil]); first | done | rfl | (simp only [List.length_drop, List.length_take]; rfl)) ?_; (with_reducible refine (logic_Of.calls k (Go.bits .and .i64 a1 63) 9 t323 t324 _ A6.out).mono ?_); rintro e w10 ⟨rfl, hb⟩; refine ⟨_, rfl, ?_⟩; have n0_ := Aside0.mk (below_step (by repeat (first | (with_reducible first | exact HB.out | apply below_alloc | apply pw_below_drewN | apply below_drew1) | exact HB.out)) hb); clear HB; have HB := n0_; clear n0_; (try clear hb); (try clear hb2); (try clear hk); (try clear hi)) | ((with_reducible refine gate_callee (f := 23) rfl ?_); refine goesL_ (some 40) rfl rfl Tryd.func23 (by kernel_rfl) rfl #[.int .i64 (Go.bits .and .i64 a2 63), .int .i64 9] rfl (by (try simp only [List.map_toArray, List.map_cons, List.map_nil]); first | done | rfl | (simp only [List.length_drop, List.length_take]; rfl)) ?_; (with_reducible refine (logic_Of.calls k (Go.bits .and .i64 a2 63) 9 t325 t326 _ A7.out).mono ?_); rintro e w11 ⟨rfl, hb⟩; refine ⟨_, rfl, ?_⟩; have n0_ := Aside0.mk (below_step (by repeat (first | (with_reducible first | exact HB.out | apply below_alloc | apply pw_below_drewN | apply below_drew1) | exact HB.out)) hb); clear HB; have HB := n0_; clear n0_; (try clear hb); (try clear hb2); (try clear hk); (try clear hi)) | ((with_reducible refine gate_callee (f := 23) rfl ?_); refine goesL_ (some 47) rfl rfl Tryd.func23 (by kernel_rfl) rfl #[.int .i64 (wrap64 ((Go.bits .and .i64 a1 63) + (Go.bits .and .i64 a2 63))), .int .i64 9] rfl (by (try simp only [List.map_toArray, List.map_cons, List.map_nil]); first | done | rfl | (simp only [List.length_drop, List.length_take]; rfl)) ?_; (with_reducible refine (logic_Of.calls k (wrap64 ((Go.bits .and .i64 a1 63) + (Go.bits .and .i64 a2 63))) 9 t327 t328 _ A8.out).mono ?_); rintro e w12 ⟨rfl, hb⟩; refine ⟨_, rfl, ?_⟩; have n0_ := Aside0.mk (below_step (by repeat (first | (with_reducible first | exact HB.out | apply below_alloc | apply pw_below_drewN | apply below_drew1) | exact HB.out)) hb); clear HB; have HB := n0_; clear n0_; (try clear hb); (try clear hb2); (try clear hk); (try clear hi)))
    (try simp only [Act.put, List.setIfInBounds_toArray, List.set_cons_zero, List.set_cons_succ])
    go_cut [59] (fun v59 wc => ∃ (kq : Nat) (x59_8 : Bool), v59 = .bool x59_8 ∧ Aside0 (silkwormlaw01_LogicShifts.j0 kq a0 (Go.bits .and .i64 a1 63) t323 t325 t327 x59_8 = some r) ∧ Aside0 (kq ≤ k) ∧ Aside0 (Below w.heap.size w wc))
    case first =>
      have H := HC9.out
      clear HC9
      by_cases c13 : t324 = 0
      · rw [if_pos c13] at H
        have c13b0 : (t324 == 0) = true := beq_iff_eq.mpr c13
        have c13b1 : (t324 != 0) = false := bne_eq_false_iff_eq.mpr c13
        clear c13
        (first | rw [c13b0] | (simp only [i64_w, i32_w]; rw [c13b0]) | skip)
        by_cases c14 : t326 = 0
        · rw [if_pos c14] at H
          have c14b0 : (t326 == 0) = true := beq_iff_eq.mpr c14
          have c14b1 : (t326 != 0) = false := bne_eq_false_iff_eq.mpr c14
          clear c14
          have H' := Aside0.mk H
          clear H
          go_wp2
          go_meet
          case rel => exact ⟨_, ((t328 != 0)), (by first | rfl | (simp; done) | (simp [*]; done)), H', ⟨by first | omega | exact Nat.le_refl _⟩, ⟨by repeat (first | (with_reducible first | exact HB.out | apply below_alloc | apply pw_below_drewN | apply below_drew1) | exact HB.out)⟩⟩
        · rw [if_neg c14] at H
          have c14b0 : (t326 == 0) = false := beq_eq_false_iff_ne.mpr c14
          have c14b1 : (t326 != 0) = true := bne_iff_ne.mpr c14
          have H' := Aside0.mk H
          clear H
          go_wp2
          go_meet
          case rel => exact ⟨_, (true), (by first | rfl | (simp; done) | (simp [*]; done)), H', ⟨by first | omega | exact Nat.le_refl _⟩, ⟨by repeat (first | (with_reducible first | exact HB.out | apply below_alloc | apply pw_below_drewN | apply below_drew1) | exact HB.out)⟩⟩
      · rw [if_neg c13] at H
        have c13b0 : (t324 == 0) = false := beq_eq_false_iff_ne.mpr c13
        have c13b1 : (t324 != 0) = true := bne_iff_ne.mpr c13
        (first | rw [c13b0] | (simp only [i64_w, i32_w]; rw [c13b0]) | skip)
        have H' := Aside0.mk H
        clear H
        go_wp2
        go_meet
        case rel => exact ⟨_, (true), (by first | rfl | (simp; done) | (simp [*]; done)), H', ⟨by first | omega | exact Nat.le_refl _⟩, ⟨by repeat (first | (with_reducible first | exact HB.out | apply below_alloc | apply pw_below_drewN | apply below_drew1) | exact HB.out)⟩⟩
    case rest =>
      clear HC9
      try clear c1
      try clear c2
      try clear p2
      try clear c5
      try clear c6
      try clear p6
      try clear c13
      try clear c13b0
      try clear c13b1
      try clear c14
      try clear c14b0
      try clear c14b1
      obtain ⟨kq, x59_8, rfl, HA, HJ8, HB⟩ := hcut
      cases kq with
      | zero => exact absurd HA.out (by simp [silkwormlaw01_LogicShifts.j0])
      | succ kj8 =>
        have H := HA.out
        clear HA
        simp only [silkwormlaw01_LogicShifts.j0] at H
        by_cases c15 : x59_8 = true
        · subst c15
          have H1 : (some false) = some r := by rw [if_pos rfl] at H; exact H
          clear H
          have H := H1
          clear H1
          obtain rfl := Option.some.inj H
          go_wp2
          go_ret
          exact ⟨by first | rfl | (simp [errW_none, errW_some] <;> rfl) | (simp [*, errW_none, errW_some] <;> rfl), by repeat (first | (with_reducible first | exact HB.out | apply below_alloc | apply pw_below_drewN | apply below_drew1) | exact HB.out)⟩
        · replace c15 := Bool.eq_false_iff.mpr c15
          subst c15
          have H1 : ((logic_Binary.f kj8 15 a0 t323).bind fun bt329 => ((logic_Binary.f kj8 16 bt329.1 t323).bind fun bt331 => ((logic_Binary.f kj8 15 bt329.1 t325).bind fun bt333 => ((logic_Binary.f kj8 15 a0 t327).bind fun bt335 => (if bt329.2 = 0 then (if bt331.2 = 0 then (if bt333.2 = 0 then (if bt335.2 = 0 then (if bt333.1.toList = bt335.1.toList then (silkwormlaw01_LogicShifts.j1 kj8 a0 (Go.bits .and .i64 a1 63) bt331.1 ((bt331.1.size : Int) != (a0.size : Int))) else (silkwormlaw01_LogicShifts.j1 kj8 a0 (Go.bits .and .i64 a1 63) bt331.1 true)) else (silkwormlaw01_LogicShifts.j1 kj8 a0 (Go.bits .and .i64 a1 63) bt331.1 true)) else (silkwormlaw01_LogicShifts.j1 kj8 a0 (Go.bits .and .i64 a1 63) bt331.1 true)) else (silkwormlaw01_LogicShifts.j1 kj8 a0 (Go.bits .and .i64 a1 63) bt331.1 true)) else (silkwormlaw01_LogicShifts.j1 kj8 a0 (Go.bits .and .i64 a1 63) bt331.1 true)))))) = some r := by rw [if_neg (show ¬ (false = true) by decide)] at H; exact H
          clear H
          have H := H1
          clear H1
          replace H := Option.bind_eq_some_iff.mp H
          obtain ⟨⟨t329, t330⟩, A160, H⟩ := H
          replace H : ((logic_Binary.f kj8 16 t329 t323).bind fun bt331 => ((logic_Binary.f kj8 15 t329 t325).bind fun bt333 => ((logic_Binary.f kj8 15 a0 t327).bind fun bt335 => (if t330 = 0 then (if bt331.2 = 0 then (if bt333.2 = 0 then (if bt335.2 = 0 then (if bt333.1.toList = bt335.1.toList then (silkwormlaw01_LogicShifts.j1 kj8 a0 (Go.bits .and .i64 a1 63) bt331.1 ((bt331.1.size : Int) != (a0.size : Int))) else (silkwormlaw01_LogicShifts.j1 kj8 a0 (Go.bits .and .i64 a1 63) bt331.1 true)) else (silkwormlaw01_LogicShifts.j1 kj8 a0 (Go.bits .and .i64 a1 63) bt331.1 true)) else (silkwormlaw01_LogicShifts.j1 kj8 a0 (Go.bits .and .i64 a1 63) bt331.1 true)) else (silkwormlaw01_LogicShifts.j1 kj8 a0 (Go.bits .and .i64 a1 63) bt331.1 true)) else (silkwormlaw01_LogicShifts.j1 kj8 a0 (Go.bits .and .i64 a1 63) bt331.1 true))))) = some r := H
          have A16 := Aside0.mk A160
          clear A160
          replace H := Option.bind_eq_some_iff.mp H
          obtain ⟨⟨t331, t332⟩, A170, H⟩ := H
          replace H : ((logic_Binary.f kj8 15 t329 t325).bind fun bt333 => ((logic_Binary.f kj8 15 a0 t327).bind fun bt335 => (if t330 = 0 then (if t332 = 0 then (if bt333.2 = 0 then (if bt335.2 = 0 then (if bt333.1.toList = bt335.1.toList then (silkwormlaw01_LogicShifts.j1 kj8 a0 (Go.bits .and .i64 a1 63) t331 ((t331.size : Int) != (a0.size : Int))) else (silkwormlaw01_LogicShifts.j1 kj8 a0 (Go.bits .and .i64 a1 63) t331 true)) else (silkwormlaw01_LogicShifts.j1 kj8 a0 (Go.bits .and .i64 a1 63) t331 true)) else (silkwormlaw01_LogicShifts.j1 kj8 a0 (Go.bits .and .i64 a1 63) t331 true)) else (silkwormlaw01_LogicShifts.j1 kj8 a0 (Go.bits .and .i64 a1 63) t331 true)) else (silkwormlaw01_LogicShifts.j1 kj8 a0 (Go.bits .and .i64 a1 63) t331 true)))) = some r := H
          have A17 := Aside0.mk A170
          clear A170
          replace H := Option.bind_eq_some_iff.mp H
          obtain ⟨⟨t333, t334⟩, A180, H⟩ := H
          replace H : ((logic_Binary.f kj8 15 a0 t327).bind fun bt335 => (if t330 = 0 then (if t332 = 0 then (if t334 = 0 then (if bt335.2 = 0 then (if t333.toList = bt335.1.toList then (silkwormlaw01_LogicShifts.j1 kj8 a0 (Go.bits .and .i64 a1 63) t331 ((t331.size : Int) != (a0.size : Int))) else (silkwormlaw01_LogicShifts.j1 kj8 a0 (Go.bits .and .i64 a1 63) t331 true)) else (silkwormlaw01_LogicShifts.j1 kj8 a0 (Go.bits .and .i64 a1 63) t331 true)) else (silkwormlaw01_LogicShifts.j1 kj8 a0 (Go.bits .and .i64 a1 63) t331 true)) else (silkwormlaw01_LogicShifts.j1 kj8 a0 (Go.bits .and .i64 a1 63) t331 true)) else (silkwormlaw01_LogicShifts.j1 kj8 a0 (Go.bits .and .i64 a1 63) t331 true))) = some r := H
          have A18 := Aside0.mk A180
          clear A180
          replace H := Option.bind_eq_some_iff.mp H
          obtain ⟨⟨t335, t336⟩, A190, H⟩ := H
          replace H : (if t330 = 0 then (if t332 = 0 then (if t334 = 0 then (if t336 = 0 then (if t333.toList = t335.toList then (silkwormlaw01_LogicShifts.j1 kj8 a0 (Go.bits .and .i64 a1 63) t331 ((t331.size : Int) != (a0.size : Int))) else (silkwormlaw01_LogicShifts.j1 kj8 a0 (Go.bits .and .i64 a1 63) t331 true)) else (silkwormlaw01_LogicShifts.j1 kj8 a0 (Go.bits .and .i64 a1 63) t331 true)) else (silkwormlaw01_LogicShifts.j1 kj8 a0 (Go.bits .and .i64 a1 63) t331 true)) else (silkwormlaw01_LogicShifts.j1 kj8 a0 (Go.bits .and .i64 a1 63) t331 true)) else (silkwormlaw01_LogicShifts.j1 kj8 a0 (Go.bits .and .i64 a1 63) t331 true)) = some r := H
          have A19 := Aside0.mk A190
          clear A190
          have HC20 := Aside0.mk H
          clear H
          go_upto_region 13 with (first | ((with_reducible refine gate_callee (f := 16) rfl ?_); refine goesL_ (some 63) rfl rfl Tryd.func16 (by kernel_rfl) rfl #[.int .i64 15, .string a0, .string t323] rfl (by (try simp only [List.map_toArray, List.map_cons, List.map_nil]); first | done | rfl | (simp only [List.length_drop, List.length_take]; rfl)) ?_; (with_reducible refine (logic_Binary.calls kj8 15 a0 t323 t329 t330 _ A16.out).mono ?_); rintro e w21 ⟨rfl, hb⟩; refine ⟨_, rfl, ?_⟩; have n0_ := Aside0.mk (below_step (by repeat (first | (with_reducible first | exact HB.out | apply below_alloc | apply pw_below_drewN | apply below_drew1) | exact HB.out)) hb); clear HB; have HB := n0_; clear n0_; (try clear hb); (try clear hb2); (try clear hk); (try clear hi)) | ((with_reducible refine gate_callee (f := 16) rfl ?_); refine goesL_ (some 69) rfl rfl Tryd.func16 (by kernel_rfl) rfl #[.int .i64 16, .string t329, .string t323] rfl (by (try simp only [List.map_toArray, List.map_cons, List.map_nil]); first | done | rfl | (simp only [List.length_drop, List.length_take]; rfl)) ?_; (with_reducible refine (logic_Binary.calls kj8 16 t329 t323 t331 t332 _ A17.out).mono ?_); rintro e w22 ⟨rfl, hb⟩; refine ⟨_, rfl, ?_⟩; have n0_ := Aside0.mk (below_step (by repeat (first | (with_reducible first | exact HB.out | apply below_alloc | apply pw_below_drewN | apply below_drew1) | exact HB.out)) hb); clear HB; have HB := n0_; clear n0_; (try clear hb); (try clear hb2); (try clear hk); (try clear hi)) | ((with_reducible refine gate_callee (f := 16) rfl ?_); refine goesL_ (some 75) rfl rfl Tryd.func16 (by kernel_rfl) rfl #[.int .i64 15, .string t329, .string t325] rfl (by (try simp only [List.map_toArray, List.map_cons, List.map_nil]); first | done | rfl | (simp only [List.length_drop, List.length_take]; rfl)) ?_; (with_reducible refine (logic_Binary.calls kj8 15 t329 t325 t333 t334 _ A18.out).mono ?_); rintro e w23 ⟨rfl, hb⟩; refine ⟨_, rfl, ?_⟩; have n0_ := Aside0.mk (below_step (by repeat (first | (with_reducible first | exact HB.out | apply below_alloc | apply pw_below_drewN | apply below_drew1) | exact HB.out)) hb); clear HB; have HB := n0_; clear n0_; (try clear hb); (try clear hb2); (try clear hk); (try clear hi)) | ((with_reducible refine gate_callee (f := 16) rfl ?_); refine goesL_ (some 81) rfl rfl Tryd.func16 (by kernel_rfl) rfl #[.int .i64 15, .string a0, .string t327] rfl (by (try simp only [List.map_toArray, List.map_cons, List.map_nil]); first | done | rfl | (simp only [List.length_drop, List.length_take]; rfl)) ?_; (with_reducible refine (logic_Binary.calls kj8 15 a0 t327 t335 t336 _ A19.out).mono ?_); rintro e w24 ⟨rfl, hb⟩; refine ⟨_, rfl, ?_⟩; have n0_ := Aside0.mk (below_step (by repeat (first | (with_reducible first | exact HB.out | apply below_alloc | apply pw_below_drewN | apply below_drew1) | exact HB.out)) hb); clear HB; have HB := n0_; clear n0_; (try clear hb); (try clear hb2); (try clear hk); (try clear hi)))
          (try simp only [Act.put, List.setIfInBounds_toArray, List.set_cons_zero, List.set_cons_succ])
          go_cut [109] (fun v109 wc => ∃ (kq : Nat) (x109_19 : Bool), v109 = .bool x109_19 ∧ Aside0 (silkwormlaw01_LogicShifts.j1 kq a0 (Go.bits .and .i64 a1 63) t331 x109_19 = some r) ∧ Aside0 (kq ≤ kj8) ∧ Aside0 (Below w.heap.size w wc))
          case first =>
            have H := HC20.out
            clear HC20
            by_cases c25 : t330 = 0
            · rw [if_pos c25] at H
              have c25b0 : (t330 == 0) = true := beq_iff_eq.mpr c25
              have c25b1 : (t330 != 0) = false := bne_eq_false_iff_eq.mpr c25
              clear c25
              (first | rw [c25b0] | (simp only [i64_w, i32_w]; rw [c25b0]) | skip)
              by_cases c26 : t332 = 0
              · rw [if_pos c26] at H
                have c26b0 : (t332 == 0) = true := beq_iff_eq.mpr c26
                have c26b1 : (t332 != 0) = false := bne_eq_false_iff_eq.mpr c26
                clear c26
                by_cases c27 : t334 = 0
                · rw [if_pos c27] at H
                  have c27b0 : (t334 == 0) = true := beq_iff_eq.mpr c27
                  have c27b1 : (t334 != 0) = false := bne_eq_false_iff_eq.mpr c27
                  clear c27
                  by_cases c28 : t336 = 0
                  · rw [if_pos c28] at H
                    have c28b0 : (t336 == 0) = true := beq_iff_eq.mpr c28
                    have c28b1 : (t336 != 0) = false := bne_eq_false_iff_eq.mpr c28
                    clear c28
                    by_cases c29 : t333.toList = t335.toList
                    · rw [if_pos c29] at H
                      have c29b0 : (t333.toList == t335.toList) = true := beq_iff_eq.mpr c29
                      have c29b1 : (t333.toList != t335.toList) = false := bne_eq_false_iff_eq.mpr c29
                      clear c29
                      have H' := Aside0.mk H
                      clear H
                      go_wp2
                      go_meet
                      case rel => exact ⟨_, (((t331.size : Int) != (a0.size : Int))), (by first | rfl | (simp; done) | (simp [*]; done)), H', ⟨by have := HJ8.out; first | omega | exact Nat.le_refl _⟩, ⟨by repeat (first | (with_reducible first | exact HB.out | apply below_alloc | apply pw_below_drewN | apply below_drew1) | exact HB.out)⟩⟩
                    · rw [if_neg c29] at H
                      have c29b0 : (t333.toList == t335.toList) = false := beq_eq_false_iff_ne.mpr c29
                      have c29b1 : (t333.toList != t335.toList) = true := bne_iff_ne.mpr c29
                      have H' := Aside0.mk H
                      clear H
                      go_wp2
                      go_meet
                      case rel => exact ⟨_, (true), (by first | rfl | (simp; done) | (simp [*]; done)), H', ⟨by have := HJ8.out; first | omega | exact Nat.le_refl _⟩, ⟨by repeat (first | (with_reducible first | exact HB.out | apply below_alloc | apply pw_below_drewN | apply below_drew1) | exact HB.out)⟩⟩
                  · rw [if_neg c28] at H
                    have c28b0 : (t336 == 0) = false := beq_eq_false_iff_ne.mpr c28
                    have c28b1 : (t336 != 0) = true := bne_iff_ne.mpr c28
                    have H' := Aside0.mk H
                    clear H
                    go_wp2
                    go_meet
                    case rel => exact ⟨_, (true), (by first | rfl | (simp; done) | (simp [*]; done)), H', ⟨by have := HJ8.out; first | omega | exact Nat.le_refl _⟩, ⟨by repeat (first | (with_reducible first | exact HB.out | apply below_alloc | apply pw_below_drewN | apply below_drew1) | exact HB.out)⟩⟩
                · rw [if_neg c27] at H
                  have c27b0 : (t334 == 0) = false := beq_eq_false_iff_ne.mpr c27
                  have c27b1 : (t334 != 0) = true := bne_iff_ne.mpr c27
                  have H' := Aside0.mk H
                  clear H
                  go_wp2
                  go_meet
                  case rel => exact ⟨_, (true), (by first | rfl | (simp; done) | (simp [*]; done)), H', ⟨by have := HJ8.out; first | omega | exact Nat.le_refl _⟩, ⟨by repeat (first | (with_reducible first | exact HB.out | apply below_alloc | apply pw_below_drewN | apply below_drew1) | exact HB.out)⟩⟩
              · rw [if_neg c26] at H
                have c26b0 : (t332 == 0) = false := beq_eq_false_iff_ne.mpr c26
                have c26b1 : (t332 != 0) = true := bne_iff_ne.mpr c26
                have H' := Aside0.mk H
                clear H
                go_wp2
                go_meet
                case rel => exact ⟨_, (true), (by first | rfl | (simp; done) | (simp [*]; done)), H', ⟨by have := HJ8.out; first | omega | exact Nat.le_refl _⟩, ⟨by repeat (first | (with_reducible first | exact HB.out | apply below_alloc | apply pw_below_drewN | apply below_drew1) | exact HB.out)⟩⟩
            · rw [if_neg c25] at H
              have c25b0 : (t330 == 0) = false := beq_eq_false_iff_ne.mpr c25
              have c25b1 : (t330 != 0) = true := bne_iff_ne.mpr c25
              (first | rw [c25b0] | (simp only [i64_w, i32_w]; rw [c25b0]) | skip)
              have H' := Aside0.mk H
              clear H
              go_wp2
              go_meet
              case rel => exact ⟨_, (true), (by first | rfl | (simp; done) | (simp [*]; done)), H', ⟨by have := HJ8.out; first | omega | exact Nat.le_refl _⟩, ⟨by repeat (first | (with_reducible first | exact HB.out | apply below_alloc | apply pw_below_drewN | apply below_drew1) | exact HB.out)⟩⟩
          case rest =>
            clear HC20
            try clear c1
            try clear c2
            try clear p2
            try clear c5
            try clear c6
            try clear p6
            try clear c13
            try clear c13b0
            try clear c13b1
            try clear c14
            try clear c14b0
            try clear c14b1
            try clear c15
            try clear c16
            try clear c17
            try clear c23
            try clear c25
            try clear c25b0
            try clear c25b1
            try clear c26
            try clear c26b0
            try clear c26b1
            try clear c27
            try clear c27b0
            try clear c27b1
            try clear c28
            try clear c28b0
            try clear c28b1
            try clear c29
            try clear c29b0
            try clear c29b1
            try clear p2
            try clear p6
            obtain ⟨kq, x109_19, rfl, HA, HJ19, HB⟩ := hcut
            cases kq with
            | zero => exact absurd HA.out (by simp [silkwormlaw01_LogicShifts.j1])
            | succ kj19 =>
              have H := HA.out
              clear HA
              simp only [silkwormlaw01_LogicShifts.j1] at H
              by_cases c30 : x109_19 = true
              · subst c30
                have H1 : (some false) = some r := by rw [if_pos rfl] at H; exact H
                clear H
                have H := H1
                clear H1
                obtain rfl := Option.some.inj H
                go_wp2
                go_ret
                exact ⟨by first | rfl | (simp [errW_none, errW_some] <;> rfl) | (simp [*, errW_none, errW_some] <;> rfl), by repeat (first | (with_reducible first | exact HB.out | apply below_alloc | apply pw_below_drewN | apply below_drew1) | exact HB.out)⟩
              · replace c30 := Bool.eq_false_iff.mpr c30
                subst c30
                have H1 : (silkwormlaw01_LogicShifts.l0 kj19 a0 (Go.bits .and .i64 a1 63) t331 0) = some r := by rw [if_neg (show ¬ (false = true) by decide)] at H; exact H
                clear H
                have H := H1
                clear H1
                have H' := Aside0.mk H
                clear H
                go_wp2
                go_loopg [23] kj19 (fun kq v23 w' => ∃ (x23_3 : Int), v23 = .int .i64 x23_3 ∧ Aside0 (silkwormlaw01_LogicShifts.l0 kq a0 (Go.bits .and .i64 a1 63) t331 x23_3 = some r) ∧ Aside0 (kq ≤ kj19) ∧ Aside0 (Below w.heap.size w w'))
                case atStart => exact ⟨(0), (by first | rfl | (simp; done) | (simp [*]; done)), H', ⟨Nat.le_refl _⟩, ⟨by repeat (first | (with_reducible first | exact HB.out | apply below_alloc | apply pw_below_drewN | apply below_drew1) | exact HB.out)⟩⟩
                case round =>
                  clear H'
                  try clear c1
                  try clear c2
                  try clear p2
                  try clear c3
                  try clear c5
                  try clear c6
                  try clear p6
                  try clear c13
                  try clear c13b0
                  try clear c13b1
                  try clear c14
                  try clear c14b0
                  try clear c14b1
                  try clear c15
                  try clear c16
                  try clear c17
                  try clear c23
                  try clear c25
                  try clear c25b0
                  try clear c25b1
                  try clear c26
                  try clear c26b0
                  try clear c26b1
                  try clear c27
                  try clear c27b0
                  try clear c27b1
                  try clear c28
                  try clear c28b0
                  try clear c28b1
                  try clear c29
                  try clear c29b0
                  try clear c29b1
                  try clear c30
                  try clear p2
                  try clear p6
                  obtain ⟨x23_3, rfl, HA, HK3, HB⟩ := hrel
                  cases gk with
                  | zero => exact absurd HA.out (by simp [silkwormlaw01_LogicShifts.l0])
                  | succ k3 =>
                    have H := HA.out
                    clear HA
                    simp only [silkwormlaw01_LogicShifts.l0] at H
                    by_cases c31 : x23_3 < (a0.size : Int)
                    · rw [if_pos c31] at H
                      have c31b0 : decide (x23_3 < (a0.size : Int)) = true := decide_eq_true c31
                      clear c31
                      by_cases c32 : x23_3 ≥ (Go.bits .and .i64 a1 63)
                      · rw [if_pos c32] at H
                        have c32b0 : decide ((Go.bits .and .i64 a1 63) ≤ x23_3) = true := decide_eq_true c32
                        clear c32
                        by_cases c33 : 0 ≤ x23_3
                        · rw [if_pos c33] at H
                          have c33b0 : decide (0 ≤ x23_3) = true := decide_eq_true c33
                          clear c33
                          by_cases c35 : x23_3 < (t331.size : Int)
                          · rw [if_pos c35] at H
                            have c35b0 : decide (x23_3 < (t331.size : Int)) = true := decide_eq_true c35
                            clear c35
                            by_cases c37 : (bt t331 x23_3) = (bt a0 x23_3)
                            · rw [if_pos c37] at H
                              have c37b0 : ((bt t331 x23_3) == (bt a0 x23_3)) = true := beq_iff_eq.mpr c37
                              have c37b1 : ((bt t331 x23_3) != (bt a0 x23_3)) = false := bne_eq_false_iff_eq.mpr c37
                              clear c37
                              have H' := Aside0.mk H
                              clear H
                              have p34 : 0 ≤ (x23_3 : Int) := of_decide_eq_true (by first | (with_reducible assumption) | assumption)
                              have q34 : x23_3 < (a0.size : Int) := of_decide_eq_true (by first | (with_reducible assumption) | assumption)
                              have hx34 := bt_at a0 x23_3
                              replace p34 := eq_true p34
                              replace q34 := eq_true q34
                              have p36 : 0 ≤ (x23_3 : Int) := of_decide_eq_true (by first | (with_reducible assumption) | assumption)
                              have q36 : x23_3 < (t331.size : Int) := of_decide_eq_true (by first | (with_reducible assumption) | assumption)
                              have hx36 := bt_at t331 x23_3
                              replace p36 := eq_true p36
                              replace q36 := eq_true q36
                              go_wp2
                              go_roundg k3
                              case measure => have := HJ8.out; have := HJ19.out; have := HK3.out; omega
                              case rel => exact ⟨(wrap64 (x23_3 + 1)), (by first | rfl | (simp; done) | (simp [*]; done)), H', ⟨by have := HJ8.out; have := HJ19.out; have := HK3.out; omega⟩, ⟨by repeat (first | (with_reducible first | exact HB.out | apply below_alloc | apply pw_below_drewN | apply below_drew1) | exact HB.out)⟩⟩
                            · rw [if_neg c37] at H
                              have c37b0 : ((bt t331 x23_3) == (bt a0 x23_3)) = false := beq_eq_false_iff_ne.mpr c37
                              have c37b1 : ((bt t331 x23_3) != (bt a0 x23_3)) = true := bne_iff_ne.mpr c37
                              obtain rfl := Option.some.inj H
                              have p34 : 0 ≤ (x23_3 : Int) := of_decide_eq_true (by first | (with_reducible assumption) | assumption)
                              have q34 : x23_3 < (a0.size : Int) := of_decide_eq_true (by first | (with_reducible assumption) | assumption)
                              have hx34 := bt_at a0 x23_3
                              replace p34 := eq_true p34
                              replace q34 := eq_true q34
                              have p36 : 0 ≤ (x23_3 : Int) := of_decide_eq_true (by first | (with_reducible assumption) | assumption)
                              have q36 : x23_3 < (t331.size : Int) := of_decide_eq_true (by first | (with_reducible assumption) | assumption)
                              have hx36 := bt_at t331 x23_3
                              replace p36 := eq_true p36
                              replace q36 := eq_true q36
                              go_wp2
                              go_ret
                              exact ⟨by first | rfl | (simp [errW_none, errW_some] <;> rfl) | (simp [*, errW_none, errW_some] <;> rfl), by repeat (first | (with_reducible first | exact HB.out | apply below_alloc | apply pw_below_drewN | apply below_drew1) | exact HB.out)⟩
                          · rw [if_neg c35] at H
                            exact absurd H (by simp)
                        · rw [if_neg c33] at H
                          exact absurd H (by simp)
                      · rw [if_neg c32] at H
                        have c32b0 : decide ((Go.bits .and .i64 a1 63) ≤ x23_3) = false := decide_eq_false c32
                        clear c32
                        by_cases c38 : 0 ≤ x23_3
                        · rw [if_pos c38] at H
                          have c38b0 : decide (0 ≤ x23_3) = true := decide_eq_true c38
                          clear c38
                          by_cases c39 : x23_3 < (t331.size : Int)
                          · rw [if_pos c39] at H
                            have c39b0 : decide (x23_3 < (t331.size : Int)) = true := decide_eq_true c39
                            clear c39
                            by_cases c41 : (bt t331 x23_3) = 48
                            · rw [if_pos c41] at H
                              have c41b0 : ((bt t331 x23_3) == 48) = true := beq_iff_eq.mpr c41
                              have c41b1 : ((bt t331 x23_3) != 48) = false := bne_eq_false_iff_eq.mpr c41
                              clear c41
                              have H' := Aside0.mk H
                              clear H
                              have p40 : 0 ≤ (x23_3 : Int) := of_decide_eq_true (by first | (with_reducible assumption) | assumption)
                              have q40 : x23_3 < (t331.size : Int) := of_decide_eq_true (by first | (with_reducible assumption) | assumption)
                              have hx40 := bt_at t331 x23_3
                              replace p40 := eq_true p40
                              replace q40 := eq_true q40
                              go_wp2
                              go_roundg k3
                              case measure => have := HJ8.out; have := HJ19.out; have := HK3.out; omega
                              case rel => exact ⟨(wrap64 (x23_3 + 1)), (by first | rfl | (simp; done) | (simp [*]; done)), H', ⟨by have := HJ8.out; have := HJ19.out; have := HK3.out; omega⟩, ⟨by repeat (first | (with_reducible first | exact HB.out | apply below_alloc | apply pw_below_drewN | apply below_drew1) | exact HB.out)⟩⟩
                            · rw [if_neg c41] at H
                              have c41b0 : ((bt t331 x23_3) == 48) = false := beq_eq_false_iff_ne.mpr c41
                              have c41b1 : ((bt t331 x23_3) != 48) = true := bne_iff_ne.mpr c41
                              obtain rfl := Option.some.inj H
                              have p40 : 0 ≤ (x23_3 : Int) := of_decide_eq_true (by first | (with_reducible assumption) | assumption)
                              have q40 : x23_3 < (t331.size : Int) := of_decide_eq_true (by first | (with_reducible assumption) | assumption)
                              have hx40 := bt_at t331 x23_3
                              replace p40 := eq_true p40
                              replace q40 := eq_true q40
                              go_wp2
                              go_ret
                              exact ⟨by first | rfl | (simp [errW_none, errW_some] <;> rfl) | (simp [*, errW_none, errW_some] <;> rfl), by repeat (first | (with_reducible first | exact HB.out | apply below_alloc | apply pw_below_drewN | apply below_drew1) | exact HB.out)⟩
                          · rw [if_neg c39] at H
                            exact absurd H (by simp)
                        · rw [if_neg c38] at H
                          exact absurd H (by simp)
                    · rw [if_neg c31] at H
                      have c31b0 : decide (x23_3 < (a0.size : Int)) = false := decide_eq_false c31
                      clear c31
                      replace H := Option.bind_eq_some_iff.mp H
                      obtain ⟨t337, A420, H⟩ := H
                      replace H : (some t337) = some r := H
                      have A42 := Aside0.mk A420
                      clear A420
                      obtain rfl := Option.some.inj H
                      go_wp2_with (first | ((with_reducible refine gate_callee (f := 19) rfl ?_); refine goesL_ (some 127) rfl rfl Tryd.func19 (by kernel_rfl) rfl #[] rfl (by (try simp only [List.map_toArray, List.map_cons, List.map_nil]); first | done | rfl | (simp only [List.length_drop, List.length_take]; rfl)) ?_; (with_reducible refine (silkwormlaw01_awake.calls k3  t337 _ A42.out).mono ?_); rintro e w43 ⟨rfl, hb⟩; refine ⟨_, rfl, ?_⟩; have n0_ := Aside0.mk (below_step (by repeat (first | (with_reducible first | exact HB.out | apply below_alloc | apply pw_below_drewN | apply below_drew1) | exact HB.out)) hb); clear HB; have HB := n0_; clear n0_; (try clear hb); (try clear hb2); (try clear hk); (try clear hi)))
                      go_ret
                      exact ⟨by first | rfl | (simp [errW_none, errW_some] <;> rfl) | (simp [*, errW_none, errW_some] <;> rfl), by repeat (first | (with_reducible first | exact HB.out | apply below_alloc | apply pw_below_drewN | apply below_drew1) | exact HB.out)⟩
  · replace c5 := Bool.eq_false_iff.mpr c5
    subst c5
    have H1 : ((silkwormlaw01_awake.f k).bind fun t322 => (some t322)) = some r := by rw [if_neg (show ¬ (false = true) by decide)] at H; exact H
    clear H
    have H := H1
    clear H1
    replace H := Option.bind_eq_some_iff.mp H
    obtain ⟨t322, A440, H⟩ := H
    replace H : (some t322) = some r := H
    have A44 := Aside0.mk A440
    clear A440
    obtain rfl := Option.some.inj H
    go_enter Tryd.func6, Tryd.ntmps6
    go_wp2_with (first | ((with_reducible refine gate_callee (f := 17) rfl ?_); refine goesL_ (some 26) rfl rfl Tryd.func17 (by kernel_rfl) rfl #[.string a0] rfl (by (try simp only [List.map_toArray, List.map_cons, List.map_nil]); first | done | rfl | (simp only [List.length_drop, List.length_take]; rfl)) ?_; (with_reducible refine (silkwormref01_May.calls k a0 false _ A4.out).mono ?_); rintro e w' ⟨rfl, ⟨nd, rfl⟩⟩; refine ⟨_, rfl, ?_⟩) | ((with_reducible refine gate_callee (f := 19) rfl ?_); refine goesL_ (some 28) rfl rfl Tryd.func19 (by kernel_rfl) rfl #[] rfl (by (try simp only [List.map_toArray, List.map_cons, List.map_nil]); first | done | rfl | (simp only [List.length_drop, List.length_take]; rfl)) ?_; (with_reducible refine (silkwormlaw01_awake.calls k  t322 _ A44.out).mono ?_); rintro e w45 ⟨rfl, hb⟩; refine ⟨_, rfl, ?_⟩; have n0_ := Aside0.mk (below_step (by repeat (first | (with_reducible first | exact HB.out | apply below_alloc | apply pw_below_drewN | apply below_drew1) | exact HB.out)) hb); clear HB; have HB := n0_; clear n0_; (try clear hb); (try clear hb2); (try clear hk); (try clear hi)))
    go_ret
    exact ⟨by first | rfl | (simp [errW_none, errW_some] <;> rfl) | (simp [*, errW_none, errW_some] <;> rfl), by repeat (first | (with_reducible first | exact HB.out | apply below_alloc | apply pw_below_drewN | apply below_drew1) | exact HB.out)⟩

/-- THE ONE PURE STATEMENT of silkwormlaw01_LogicShifts: yours. -/
def silkwormlaw01_LogicShifts.Pure : Prop := ∀ (a0 : ByteArray) (a1 : Int) (a2 : Int), a0.size ≤ 140737488351232 → (Lit.int .i64 a1).wf = true → (Lit.int .i64 a2).wf = true → ∃ k, silkwormlaw01_LogicShifts.f k a0 a1 a2 = some true
theorem silkwormlaw01_LogicShifts.walk (P : silkwormlaw01_LogicShifts.Pure) (a0 : ByteArray) (a1 : Int) (a2 : Int) (w : World) (w0 : a0.size ≤ 140737488351232) (w1 : (Lit.int .i64 a1).wf = true) (w2 : (Lit.int .i64 a2).wf = true) :
    Calls Tryd.prog 6 #[.string a0, .int .i64 a1, .int .i64 a2] w fun e w' => e = .returned (.bool true) ∧ Below w.heap.size w w' := by
  obtain ⟨k, h⟩ := P a0 a1 a2 w0 w1 w2
  refine (silkwormlaw01_LogicShifts.calls k a0 a1 a2 true w h).mono ?_
  rintro e w' ⟨rfl, hd⟩
  exact ⟨rfl, hd⟩

end Go.Proofs.YtblhfodkbjdeoaaDoor.PLg
