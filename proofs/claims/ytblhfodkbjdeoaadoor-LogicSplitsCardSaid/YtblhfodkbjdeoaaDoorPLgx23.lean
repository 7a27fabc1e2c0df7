-- By this session's program prinj.py, out of the translation and contracts proved by hand. Not trusted: Lean checks it.
import Derived.Test.YtblhfodkbjdeoaaDoorPLgx0
import Derived.Test.YtblhfodkbjdeoaaDoorPLgx5
import Derived.Test.YtblhfodkbjdeoaaDoorPLgx6
import Derived.Test.YtblhfodkbjdeoaaDoorPLgx13
import Derived.Test.YtblhfodkbjdeoaaDoorPLgx22
namespace Go.Proofs.YtblhfodkbjdeoaaDoor.PLg
open Go.RowKit Go.Proofs.YtblhfodkbjdeoaaDoorW.PrintWords Go.Proofs.YtblhfodkbjdeoaaDoorW.PrintLast Go.Proofs.YtblhfodkbjdeoaaDoorW.PrintMore
attribute [local go_sem] max2_int min2_int max_two min_two max_three min_three max_four min_four   -- for this text's walks alone
attribute [local go_sem] str_leq str_gtr str_geq
set_option linter.unusedVariables false
set_option linter.unusedSimpArgs false

/-! ### silkwormlaw01_LogicSplits: function 12 -/
mutual
def silkwormlaw01_LogicSplits.j0 : Nat → ByteArray → Int → Int → Option (Bool)
  | 0, _, _, _ => none
  | k + 1, x0, x5, x6 => (logic_Part.f x0 x6 0).bind fun bt463 => ((logic_Part.f x0 x6 x6).bind fun bt465 => ((logic_Of.f k x6 9).bind fun bt467 => ((logic_Bit.f k x0 bt467.1).bind fun bt469 => (if bt463.2 = 0 then (if bt465.2 = 0 then (if bt467.2 = 0 then (if bt469.2 = 0 then (silkwormlaw01_LogicSplits.j1 k x0 x5 x6 bt463.1 (bt465.1.toList != bt469.1.toList)) else (silkwormlaw01_LogicSplits.j1 k x0 x5 x6 bt463.1 true)) else (silkwormlaw01_LogicSplits.j1 k x0 x5 x6 bt463.1 true)) else (silkwormlaw01_LogicSplits.j1 k x0 x5 x6 bt463.1 true)) else (silkwormlaw01_LogicSplits.j1 k x0 x5 x6 bt463.1 true)))))
def silkwormlaw01_LogicSplits.j1 : Nat → ByteArray → Int → Int → ByteArray → Bool → Option (Bool)
  | 0, _, _, _, _, _ => none
  | k + 1, x0, x5, x6, x7, x72 => if x72 = true then (some false) else (if x6 = (wrap64 (x5 - 1)) then (if x7.toList = x0.toList then ((silkwormlaw01_awake.f k).bind fun t471 => (some t471)) else (some false)) else ((logic_Part.f x0 (wrap64 (x5 - 1)) (wrap64 (x6 + 1))).bind fun bt472 => (if bt472.2 = 0 then (if bt472.1.size + x7.size ≤ 9223372036854775807 then (if (bt472.1 ++ x7).toList = x0.toList then ((silkwormlaw01_awake.f k).bind fun t474 => (some t474)) else (some false)) else (none)) else (some false))))
end
def silkwormlaw01_LogicSplits.f (k : Nat) (a0 : ByteArray) (a1 : Int) : Option (Bool) := (silkwormref01_May.f k a0).bind fun t461 => (if t461 = true then (if (a0.size : Int) = 0 then (none) else (if (Int.tmod a1 (a0.size : Int)) < 0 then (silkwormlaw01_LogicSplits.j0 k a0 (a0.size : Int) (wrap64 (-(Int.tmod a1 (a0.size : Int))))) else (silkwormlaw01_LogicSplits.j0 k a0 (a0.size : Int) (Int.tmod a1 (a0.size : Int))))) else ((silkwormlaw01_awake.f k).bind fun t462 => (some t462)))
theorem silkwormlaw01_LogicSplits.mono_l : ∀ k, (∀ y0 y1 y2, LeO (silkwormlaw01_LogicSplits.j0 k y0 y1 y2) (silkwormlaw01_LogicSplits.j0 (k + 1) y0 y1 y2)) ∧ (∀ y0 y1 y2 y3 y4, LeO (silkwormlaw01_LogicSplits.j1 k y0 y1 y2 y3 y4) (silkwormlaw01_LogicSplits.j1 (k + 1) y0 y1 y2 y3 y4))
  | 0 => ⟨fun _ _ _ r h => by simp [silkwormlaw01_LogicSplits.j0] at h, fun _ _ _ _ _ r h => by simp [silkwormlaw01_LogicSplits.j1] at h⟩
  | k + 1 => by
    obtain ⟨ih0, ih1⟩ := silkwormlaw01_LogicSplits.mono_l k
    refine ⟨?_, ?_⟩
    · intro y0 y1 y2
      unfold silkwormlaw01_LogicSplits.j0
      repeat' first
      | (with_reducible exact ih0 _ _ _)
      | (with_reducible exact ih1 _ _ _ _ _)
      | (with_reducible exact logic_Bit.mono _ _ _)
      | (with_reducible exact logic_Of.mono _ _ _)
      | (with_reducible exact silkwormlaw01_awake.mono _)
      | (with_reducible exact silkwormref01_May.mono _ _)
      | (with_reducible exact LeO.refl _)
      | (with_reducible exact LeO.none _)
      | (with_reducible refine LeO.ite ?_ ?_)
      | (with_reducible refine LeO.bind ?_ (fun _ => ?_))
      | exact ih0 _ _ _
      | exact ih1 _ _ _ _ _
      | exact logic_Bit.mono _ _ _
      | exact logic_Of.mono _ _ _
      | exact silkwormlaw01_awake.mono _
      | exact silkwormref01_May.mono _ _
      | exact LeO.none _
      | refine LeO.ite ?_ ?_
      | refine LeO.bind ?_ (fun _ => ?_)
    · intro y0 y1 y2 y3 y4
      unfold silkwormlaw01_LogicSplits.j1
      repeat' first
      | (with_reducible exact ih0 _ _ _)
      | (with_reducible exact ih1 _ _ _ _ _)
      | (with_reducible exact logic_Bit.mono _ _ _)
      | (with_reducible exact logic_Of.mono _ _ _)
      | (with_reducible exact silkwormlaw01_awake.mono _)
      | (with_reducible exact silkwormref01_May.mono _ _)
      | (with_reducible exact LeO.refl _)
      | (with_reducible exact LeO.none _)
      | (with_reducible refine LeO.ite ?_ ?_)
      | (with_reducible refine LeO.bind ?_ (fun _ => ?_))
      | exact ih0 _ _ _
      | exact ih1 _ _ _ _ _
      | exact logic_Bit.mono _ _ _
      | exact logic_Of.mono _ _ _
      | exact silkwormlaw01_awake.mono _
      | exact silkwormref01_May.mono _ _
      | exact LeO.none _
      | refine LeO.ite ?_ ?_
      | refine LeO.bind ?_ (fun _ => ?_)
theorem silkwormlaw01_LogicSplits.mono : ∀ a0 a1 k, LeO (silkwormlaw01_LogicSplits.f k a0 a1) (silkwormlaw01_LogicSplits.f (k + 1) a0 a1) := by
  intro a0 a1 k
  obtain ⟨ih0, ih1⟩ := silkwormlaw01_LogicSplits.mono_l k
  unfold silkwormlaw01_LogicSplits.f
  repeat' first
      | (with_reducible exact ih0 _ _ _)
      | (with_reducible exact ih1 _ _ _ _ _)
      | (with_reducible exact logic_Bit.mono _ _ _)
      | (with_reducible exact logic_Of.mono _ _ _)
      | (with_reducible exact silkwormlaw01_awake.mono _)
      | (with_reducible exact silkwormref01_May.mono _ _)
      | (with_reducible exact LeO.refl _)
      | (with_reducible exact LeO.none _)
      | (with_reducible refine LeO.ite ?_ ?_)
      | (with_reducible refine LeO.bind ?_ (fun _ => ?_))
      | exact ih0 _ _ _
      | exact ih1 _ _ _ _ _
      | exact logic_Bit.mono _ _ _
      | exact logic_Of.mono _ _ _
      | exact silkwormlaw01_awake.mono _
      | exact silkwormref01_May.mono _ _
      | exact LeO.none _
      | refine LeO.ite ?_ ?_
      | refine LeO.bind ?_ (fun _ => ?_)
set_option maxHeartbeats 8000000 in
set_option maxRecDepth 100000 in
theorem silkwormlaw01_LogicSplits.calls (k : Nat) (a0 : ByteArray) (a1 : Int) (r : Bool) (w : World) (h : silkwormlaw01_LogicSplits.f k a0 a1 = some r) :
    Calls Tryd.prog 12 #[.string a0, .int .i64 a1] w fun e w' => e = .returned (.bool r) ∧ Below w.heap.size w w' := by
  have HB := Aside0.mk (Below.refl w.heap.size w)
  have H : ((silkwormref01_May.f k a0).bind fun t461 => (if t461 = true then (if (a0.size : Int) = 0 then (none) else (if (Int.tmod a1 (a0.size : Int)) < 0 then (silkwormlaw01_LogicSplits.j0 k a0 (a0.size : Int) (wrap64 (-(Int.tmod a1 (a0.size : Int))))) else (silkwormlaw01_LogicSplits.j0 k a0 (a0.size : Int) (Int.tmod a1 (a0.size : Int))))) else ((silkwormlaw01_awake.f k).bind fun t462 => (some t462)))) = some r := h
  clear h
  replace H := Option.bind_eq_some_iff.mp H
  obtain ⟨t461, A30, H⟩ := H
  replace H : (if t461 = true then (if (a0.size : Int) = 0 then (none) else (if (Int.tmod a1 (a0.size : Int)) < 0 then (silkwormlaw01_LogicSplits.j0 k a0 (a0.size : Int) (wrap64 (-(Int.tmod a1 (a0.size : Int))))) else (silkwormlaw01_LogicSplits.j0 k a0 (a0.size : Int) (Int.tmod a1 (a0.size : Int))))) else ((silkwormlaw01_awake.f k).bind fun t462 => (some t462))) = some r := H
  have A3 := Aside0.mk A30
  clear A30
  by_cases c4 : t461 = true
  · subst c4
    have H1 : (if (a0.size : Int) = 0 then (none) else (if (Int.tmod a1 (a0.size : Int)) < 0 then (silkwormlaw01_LogicSplits.j0 k a0 (a0.size : Int) (wrap64 (-(Int.tmod a1 (a0.size : Int))))) else (silkwormlaw01_LogicSplits.j0 k a0 (a0.size : Int) (Int.tmod a1 (a0.size : Int))))) = some r := by rw [if_pos rfl] at H; exact H
    clear H
    have H := H1
    clear H1
    by_cases c5 : (a0.size : Int) = 0
    · rw [if_pos c5] at H
      exact absurd H (by simp)
    · rw [if_neg c5] at H
      have c5b0 : ((a0.size : Int) == 0) = false := beq_eq_false_iff_ne.mpr c5
      have c5b1 : ((a0.size : Int) != 0) = true := bne_iff_ne.mpr c5
      have HC6 := Aside0.mk H
      clear H
      go_enter Tryd.func12, Tryd.ntmps12
      go_upto_if 27 with (first | ((with_reducible refine gate_callee (f := 17) rfl ?_); refine goesL_ (some 18) rfl rfl Tryd.func17 (by kernel_rfl) rfl #[.string a0] rfl (by (try simp only [List.map_toArray, List.map_cons, List.map_nil]); first | done | rfl | (simp only [List.length_drop, List.length_take]; rfl)) ?_; (with_reducible refine (silkwormref01_May.calls k a0 true _ A3.out).mono ?_); rintro e w' ⟨rfl, ⟨nd, rfl⟩⟩; refine ⟨_, rfl, ?_⟩))
      (try simp only [Act.put, List.setIfInBounds_toArray, List.set_cons_zero, List.set_cons_succ])
      go_cut [6] (fun v6 wc => ∃ (kq : Nat) (x6_5 : Int), v6 = .int .i64 x6_5 ∧ Aside0 (silkwormlaw01_LogicSplits.j0 kq a0 (a0.size : Int) x6_5 = some r) ∧ Aside0 (kq ≤ k) ∧ Aside0 (Below w.heap.size w wc))
      case first =>
        have H := HC6.out
        clear HC6
        by_cases c7 : (Int.tmod a1 (a0.size : Int)) < 0
        · rw [if_pos c7] at H
          have c7b0 : decide ((Int.tmod a1 (a0.size : Int)) < 0) = true := decide_eq_true c7
          clear c7
          (first | rw [c7b0] | (simp only [i64_w, i32_w]; rw [c7b0]) | skip)
          have H' := Aside0.mk H
          clear H
          go_wp2
          go_meet
          case rel => exact ⟨_, (wrap64 (-(Int.tmod a1 (a0.size : Int)))), (by first | rfl | (simp; done) | (simp [*]; done)), H', ⟨by first | omega | exact Nat.le_refl _⟩, ⟨by repeat (first | (with_reducible first | exact HB.out | apply below_alloc | apply pw_below_drewN | apply below_drew1) | exact HB.out)⟩⟩
        · rw [if_neg c7] at H
          have c7b0 : decide ((Int.tmod a1 (a0.size : Int)) < 0) = false := decide_eq_false c7
          clear c7
          (first | rw [c7b0] | (simp only [i64_w, i32_w]; rw [c7b0]) | skip)
          have H' := Aside0.mk H
          clear H
          go_wp2
          go_meet
          case rel => exact ⟨_, (Int.tmod a1 (a0.size : Int)), (by first | rfl | (simp; done) | (simp [*]; done)), H', ⟨by first | omega | exact Nat.le_refl _⟩, ⟨by repeat (first | (with_reducible first | exact HB.out | apply below_alloc | apply pw_below_drewN | apply below_drew1) | exact HB.out)⟩⟩
      case rest =>
        clear HC6
        try clear c1
        try clear p2
        try clear c4
        try clear c5
        try clear c5b0
        try clear c5b1
        try clear p6
        try clear c7
        try clear c7b0
        obtain ⟨kq, x6_5, rfl, HA, HJ5, HB⟩ := hcut
        cases kq with
        | zero => exact absurd HA.out (by simp [silkwormlaw01_LogicSplits.j0])
        | succ kj5 =>
          have H := HA.out
          clear HA
          simp only [silkwormlaw01_LogicSplits.j0] at H
          replace H := Option.bind_eq_some_iff.mp H
          obtain ⟨⟨t463, t464⟩, A80, H⟩ := H
          replace H : ((logic_Part.f a0 x6_5 x6_5).bind fun bt465 => ((logic_Of.f kj5 x6_5 9).bind fun bt467 => ((logic_Bit.f kj5 a0 bt467.1).bind fun bt469 => (if t464 = 0 then (if bt465.2 = 0 then (if bt467.2 = 0 then (if bt469.2 = 0 then (silkwormlaw01_LogicSplits.j1 kj5 a0 (a0.size : Int) x6_5 t463 (bt465.1.toList != bt469.1.toList)) else (silkwormlaw01_LogicSplits.j1 kj5 a0 (a0.size : Int) x6_5 t463 true)) else (silkwormlaw01_LogicSplits.j1 kj5 a0 (a0.size : Int) x6_5 t463 true)) else (silkwormlaw01_LogicSplits.j1 kj5 a0 (a0.size : Int) x6_5 t463 true)) else (silkwormlaw01_LogicSplits.j1 kj5 a0 (a0.size : Int) x6_5 t463 true))))) = some r := H
          have A8 := Aside0.mk A80
          clear A80
          replace H := Option.bind_eq_some_iff.mp H
          obtain ⟨⟨t465, t466⟩, A90, H⟩ := H
          replace H : ((logic_Of.f kj5 x6_5 9).bind fun bt467 => ((logic_Bit.f kj5 a0 bt467.1).bind fun bt469 => (if t464 = 0 then (if t466 = 0 then (if bt467.2 = 0 then (if bt469.2 = 0 then (silkwormlaw01_LogicSplits.j1 kj5 a0 (a0.size : Int) x6_5 t463 (t465.toList != bt469.1.toList)) else (silkwormlaw01_LogicSplits.j1 kj5 a0 (a0.size : Int) x6_5 t463 true)) else (silkwormlaw01_LogicSplits.j1 kj5 a0 (a0.size : Int) x6_5 t463 true)) else (silkwormlaw01_LogicSplits.j1 kj5 a0 (a0.size : Int) x6_5 t463 true)) else (silkwormlaw01_LogicSplits.j1 kj5 a0 (a0.size : Int) x6_5 t463 true)))) = some r := H
          have A9 := Aside0.mk A90
          clear A90
          replace H := Option.bind_eq_some_iff.mp H
          obtain ⟨⟨t467, t468⟩, A100, H⟩ := H
          replace H : ((logic_Bit.f kj5 a0 t467).bind fun bt469 => (if t464 = 0 then (if t466 = 0 then (if t468 = 0 then (if bt469.2 = 0 then (silkwormlaw01_LogicSplits.j1 kj5 a0 (a0.size : Int) x6_5 t463 (t465.toList != bt469.1.toList)) else (silkwormlaw01_LogicSplits.j1 kj5 a0 (a0.size : Int) x6_5 t463 true)) else (silkwormlaw01_LogicSplits.j1 kj5 a0 (a0.size : Int) x6_5 t463 true)) else (silkwormlaw01_LogicSplits.j1 kj5 a0 (a0.size : Int) x6_5 t463 true)) else (silkwormlaw01_LogicSplits.j1 kj5 a0 (a0.size : Int) x6_5 t463 true))) = some r := H
          have A10 := Aside0.mk A100
          clear A100
          replace H := Option.bind_eq_some_iff.mp H
          obtain ⟨⟨t469, t470⟩, A110, H⟩ := H
          replace H : (if t464 = 0 then (if t466 = 0 then (if t468 = 0 then (if t470 = 0 then (silkwormlaw01_LogicSplits.j1 kj5 a0 (a0.size : Int) x6_5 t463 (t465.toList != t469.toList)) else (silkwormlaw01_LogicSplits.j1 kj5 a0 (a0.size : Int) x6_5 t463 true)) else (silkwormlaw01_LogicSplits.j1 kj5 a0 (a0.size : Int) x6_5 t463 true)) else (silkwormlaw01_LogicSplits.j1 kj5 a0 (a0.size : Int) x6_5 t463 true)) else (silkwormlaw01_LogicSplits.j1 kj5 a0 (a0.size : Int) x6_5 t463 true)) = some r := H
          have A11 := Aside0.mk A110
          clear A110
          have HC12 := Aside0.mk H
          clear H
          go_upto_region 11 with (first | ((with_reducible refine gate_callee (f := 32) rfl ?_); refine goesL_ (some 33) rfl rfl Tryd.func32 (by kernel_rfl) rfl #[.string a0, .int .i64 x6_5, .int .i64 0] rfl (by (try simp only [List.map_toArray, List.map_cons, List.map_nil]); first | done | rfl | (simp only [List.length_drop, List.length_take]; rfl)) ?_; (with_reducible refine (logic_Part.calls a0 x6_5 0 t463 t464 _ A8.out).mono ?_); rintro e w13 ⟨rfl, hb⟩; refine ⟨_, rfl, ?_⟩; have n0_ := Aside0.mk (below_step (by repeat (first | (with_reducible first | exact HB.out | apply below_alloc | apply pw_below_drewN | apply below_drew1) | exact HB.out)) hb); clear HB; have HB := n0_; clear n0_; (try clear hb); (try clear hb2); (try clear hk); (try clear hi)) | ((with_reducible refine gate_callee (f := 32) rfl ?_); refine goesL_ (some 40) rfl rfl Tryd.func32 (by kernel_rfl) rfl #[.string a0, .int .i64 x6_5, .int .i64 x6_5] rfl (by (try simp only [List.map_toArray, List.map_cons, List.map_nil]); first | done | rfl | (simp only [List.length_drop, List.length_take]; rfl)) ?_; (with_reducible refine (logic_Part.calls a0 x6_5 x6_5 t465 t466 _ A9.out).mono ?_); rintro e w14 ⟨rfl, hb⟩; refine ⟨_, rfl, ?_⟩; have n0_ := Aside0.mk (below_step (by repeat (first | (with_reducible first | exact HB.out | apply below_alloc | apply pw_below_drewN | apply below_drew1) | exact HB.out)) hb); clear HB; have HB := n0_; clear n0_; (try clear hb); (try clear hb2); (try clear hk); (try clear hi)) | ((with_reducible refine gate_callee (f := 23) rfl ?_); refine goesL_ (some 45) rfl rfl Tryd.func23 (by kernel_rfl) rfl #[.int .i64 x6_5, .int .i64 9] rfl (by (try simp only [List.map_toArray, List.map_cons, List.map_nil]); first | done | rfl | (simp only [List.length_drop, List.length_take]; rfl)) ?_; (with_reducible refine (logic_Of.calls kj5 x6_5 9 t467 t468 _ A10.out).mono ?_); rintro e w15 ⟨rfl, hb⟩; refine ⟨_, rfl, ?_⟩; have n0_ := Aside0.mk (below_step (by repeat (first | (with_reducible first | exact HB.out | apply below_alloc | apply pw_below_drewN | apply below_drew1) | exact HB.out)) hb); clear HB; have HB := n0_; clear n0_; (try clear hb); (try clear hb2); (try clear hk); (try clear hi)) | ((with_reducible refine gate_callee (f := 33) rfl ?_); refine goesL_ (some 51) rfl rfl Tryd.func33 (by kernel_rfl) rfl #[.string a0, .string t467] rfl (by (try simp only [List.map_toArray, List.map_cons, List.map_nil]); first | done | rfl | (simp only [List.length_drop, List.length_take]; rfl)) ?_; (with_reducible refine (logic_Bit.calls kj5 a0 t467 t469 t470 _ A11.out).mono ?_); rintro e w16 ⟨rfl, hb⟩; refine ⟨_, rfl, ?_⟩; have n0_ := Aside0.mk (below_step (by repeat (first | (with_reducible first | exact HB.out | apply below_alloc | apply pw_below_drewN | apply below_drew1) | exact HB.out)) hb); clear HB; have HB := n0_; clear n0_; (try clear hb); (try clear hb2); (try clear hk); (try clear hi)))
          (try simp only [Act.put, List.setIfInBounds_toArray, List.set_cons_zero, List.set_cons_succ])
          go_cut [72] (fun v72 wc => ∃ (kq : Nat) (x72_11 : Bool), v72 = .bool x72_11 ∧ Aside0 (silkwormlaw01_LogicSplits.j1 kq a0 (a0.size : Int) x6_5 t463 x72_11 = some r) ∧ Aside0 (kq ≤ kj5) ∧ Aside0 (Below w.heap.size w wc))
          case first =>
            have H := HC12.out
            clear HC12
            by_cases c17 : t464 = 0
            · rw [if_pos c17] at H
              have c17b0 : (t464 == 0) = true := beq_iff_eq.mpr c17
              have c17b1 : (t464 != 0) = false := bne_eq_false_iff_eq.mpr c17
              clear c17
              (first | rw [c17b0] | (simp only [i64_w, i32_w]; rw [c17b0]) | skip)
              by_cases c18 : t466 = 0
              · rw [if_pos c18] at H
                have c18b0 : (t466 == 0) = true := beq_iff_eq.mpr c18
                have c18b1 : (t466 != 0) = false := bne_eq_false_iff_eq.mpr c18
                clear c18
                by_cases c19 : t468 = 0
                · rw [if_pos c19] at H
                  have c19b0 : (t468 == 0) = true := beq_iff_eq.mpr c19
                  have c19b1 : (t468 != 0) = false := bne_eq_false_iff_eq.mpr c19
                  clear c19
                  by_cases c20 : t470 = 0
                  · rw [if_pos c20] at H
                    have c20b0 : (t470 == 0) = true := beq_iff_eq.mpr c20
                    have c20b1 : (t470 != 0) = false := bne_eq_false_iff_eq.mpr c20
                    clear c20
                    have H' := Aside0.mk H
                    clear H
                    go_wp2
                    go_meet
                    case rel => exact ⟨_, ((t465.toList != t469.toList)), (by first | rfl | (simp; done) | (simp [*]; done)), H', ⟨by have := HJ5.out; first | omega | exact Nat.le_refl _⟩, ⟨by repeat (first | (with_reducible first | exact HB.out | apply below_alloc | apply pw_below_drewN | apply below_drew1) | exact HB.out)⟩⟩
                  · rw [if_neg c20] at H
                    have c20b0 : (t470 == 0) = false := beq_eq_false_iff_ne.mpr c20
                    have c20b1 : (t470 != 0) = true := bne_iff_ne.mpr c20
                    have H' := Aside0.mk H
                    clear H
                    go_wp2
                    go_meet
                    case rel => exact ⟨_, (true), (by first | rfl | (simp; done) | (simp [*]; done)), H', ⟨by have := HJ5.out; first | omega | exact Nat.le_refl _⟩, ⟨by repeat (first | (with_reducible first | exact HB.out | apply below_alloc | apply pw_below_drewN | apply below_drew1) | exact HB.out)⟩⟩
                · rw [if_neg c19] at H
                  have c19b0 : (t468 == 0) = false := beq_eq_false_iff_ne.mpr c19
                  have c19b1 : (t468 != 0) = true := bne_iff_ne.mpr c19
                  have H' := Aside0.mk H
                  clear H
                  go_wp2
                  go_meet
                  case rel => exact ⟨_, (true), (by first | rfl | (simp; done) | (simp [*]; done)), H', ⟨by have := HJ5.out; first | omega | exact Nat.le_refl _⟩, ⟨by repeat (first | (with_reducible first | exact HB.out | apply below_alloc | apply pw_below_drewN | apply below_drew1) | exact HB.out)⟩⟩
              · rw [if_neg c18] at H
                have c18b0 : (t466 == 0) = false := beq_eq_false_iff_ne.mpr c18
                have c18b1 : (t466 != 0) = true := bne_iff_ne.mpr c18
                have H' := Aside0.mk H
                clear H
                go_wp2
                go_meet
                case rel => exact ⟨_, (true), (by first | rfl | (simp; done) | (simp [*]; done)), H', ⟨by have := HJ5.out; first | omega | exact Nat.le_refl _⟩, ⟨by repeat (first | (with_reducible first | exact HB.out | apply below_alloc | apply pw_below_drewN | apply below_drew1) | exact HB.out)⟩⟩
            · rw [if_neg c17] at H
              have c17b0 : (t464 == 0) = false := beq_eq_false_iff_ne.mpr c17
              have c17b1 : (t464 != 0) = true := bne_iff_ne.mpr c17
              (first | rw [c17b0] | (simp only [i64_w, i32_w]; rw [c17b0]) | skip)
              have H' := Aside0.mk H
              clear H
              go_wp2
              go_meet
              case rel => exact ⟨_, (true), (by first | rfl | (simp; done) | (simp [*]; done)), H', ⟨by have := HJ5.out; first | omega | exact Nat.le_refl _⟩, ⟨by repeat (first | (with_reducible first | exact HB.out | apply below_alloc | apply pw_below_drewN | apply below_drew1) | exact HB.out)⟩⟩
          case rest =>
            clear HC12
            try clear c1
            try clear c2
            try clear p2
            try clear c3
            try clear c4
            try clear c5
            try clear c5b0
            try clear c5b1
            try clear p6
            try clear c7
            try clear c7b0
            try clear c12
            try clear c17
            try clear c17b0
            try clear c17b1
            try clear c18
            try clear c18b0
            try clear c18b1
            try clear c19
            try clear c19b0
            try clear c19b1
            try clear c20
            try clear c20b0
            try clear c20b1
            try clear p2
            try clear p6
            obtain ⟨kq, x72_11, rfl, HA, HJ11, HB⟩ := hcut
            cases kq with
            | zero => exact absurd HA.out (by simp [silkwormlaw01_LogicSplits.j1])
            | succ kj11 =>
              have H := HA.out
              clear HA
              simp only [silkwormlaw01_LogicSplits.j1] at H
              by_cases c21 : x72_11 = true
              · subst c21
                have H1 : (some false) = some r := by rw [if_pos rfl] at H; exact H
                clear H
                have H := H1
                clear H1
                obtain rfl := Option.some.inj H
                go_wp2
                go_ret
                exact ⟨by first | rfl | (simp [errW_none, errW_some] <;> rfl) | (simp [*, errW_none, errW_some] <;> rfl), by repeat (first | (with_reducible first | exact HB.out | apply below_alloc | apply pw_below_drewN | apply below_drew1) | exact HB.out)⟩
              · replace c21 := Bool.eq_false_iff.mpr c21
                subst c21
                have H1 : (if x6_5 = (wrap64 ((a0.size : Int) - 1)) then (if t463.toList = a0.toList then ((silkwormlaw01_awake.f kj11).bind fun t471 => (some t471)) else (some false)) else ((logic_Part.f a0 (wrap64 ((a0.size : Int) - 1)) (wrap64 (x6_5 + 1))).bind fun bt472 => (if bt472.2 = 0 then (if bt472.1.size + t463.size ≤ 9223372036854775807 then (if (bt472.1 ++ t463).toList = a0.toList then ((silkwormlaw01_awake.f kj11).bind fun t474 => (some t474)) else (some false)) else (none)) else (some false)))) = some r := by rw [if_neg (show ¬ (false = true) by decide)] at H; exact H
                clear H
                have H := H1
                clear H1
                by_cases c22 : x6_5 = (wrap64 ((a0.size : Int) - 1))
                · rw [if_pos c22] at H
                  have c22b0 : (x6_5 == (wrap64 ((a0.size : Int) - 1))) = true := beq_iff_eq.mpr c22
                  have c22b1 : (x6_5 != (wrap64 ((a0.size : Int) - 1))) = false := bne_eq_false_iff_eq.mpr c22
                  clear c22
                  by_cases c23 : t463.toList = a0.toList
                  · rw [if_pos c23] at H
                    have c23b0 : (t463.toList == a0.toList) = true := beq_iff_eq.mpr c23
                    have c23b1 : (t463.toList != a0.toList) = false := bne_eq_false_iff_eq.mpr c23
                    clear c23
                    replace H := Option.bind_eq_some_iff.mp H
                    obtain ⟨t471, A240, H⟩ := H
                    replace H : (some t471) = some r := H
                    have A24 := Aside0.mk A240
                    clear A240
                    obtain rfl := Option.some.inj H
                    go_wp2_with (first | (go_at_call 19; (with_reducible refine (silkwormlaw01_awake.calls kj11  t471 _ A24.out).mono ?_); rintro e w25 ⟨rfl, hb⟩; have n0_ := Aside0.mk (below_step (by repeat (first | (with_reducible first | exact HB.out | apply below_alloc | apply pw_below_drewN | apply below_drew1) | exact HB.out)) hb); clear HB; have HB := n0_; clear n0_; (try clear hb); (try clear hb2); (try clear hk); (try clear hi)))
                    go_ret
                    exact ⟨by first | rfl | (simp [errW_none, errW_some] <;> rfl) | (simp [*, errW_none, errW_some] <;> rfl), by repeat (first | (with_reducible first | exact HB.out | apply below_alloc | apply pw_below_drewN | apply below_drew1) | exact HB.out)⟩
                  · rw [if_neg c23] at H
                    have c23b0 : (t463.toList == a0.toList) = false := beq_eq_false_iff_ne.mpr c23
                    have c23b1 : (t463.toList != a0.toList) = true := bne_iff_ne.mpr c23
                    obtain rfl := Option.some.inj H
                    go_wp2
                    go_ret
                    exact ⟨by first | rfl | (simp [errW_none, errW_some] <;> rfl) | (simp [*, errW_none, errW_some] <;> rfl), by repeat (first | (with_reducible first | exact HB.out | apply below_alloc | apply pw_below_drewN | apply below_drew1) | exact HB.out)⟩
                · rw [if_neg c22] at H
                  have c22b0 : (x6_5 == (wrap64 ((a0.size : Int) - 1))) = false := beq_eq_false_iff_ne.mpr c22
                  have c22b1 : (x6_5 != (wrap64 ((a0.size : Int) - 1))) = true := bne_iff_ne.mpr c22
                  replace H := Option.bind_eq_some_iff.mp H
                  obtain ⟨⟨t472, t473⟩, A260, H⟩ := H
                  replace H : (if t473 = 0 then (if t472.size + t463.size ≤ 9223372036854775807 then (if (t472 ++ t463).toList = a0.toList then ((silkwormlaw01_awake.f kj11).bind fun t474 => (some t474)) else (some false)) else (none)) else (some false)) = some r := H
                  have A26 := Aside0.mk A260
                  clear A260
                  by_cases c27 : t473 = 0
                  · rw [if_pos c27] at H
                    have c27b0 : (t473 == 0) = true := beq_iff_eq.mpr c27
                    have c27b1 : (t473 != 0) = false := bne_eq_false_iff_eq.mpr c27
                    clear c27
                    by_cases c28 : t472.size + t463.size ≤ 9223372036854775807
                    · rw [if_pos c28] at H
                      have c28b0 := eq_true c28
                      have c28b1 : decide (t472.size + t463.size ≤ 9223372036854775807) = true := decide_eq_true c28
                      try have c28b2 : (9223372036854775807 < t472.size + t463.size) = False := eq_false (Nat.not_lt.2 c28)
                      by_cases c29 : (t472 ++ t463).toList = a0.toList
                      · rw [if_pos c29] at H
                        have c29b0 : ((t472 ++ t463).toList == a0.toList) = true := beq_iff_eq.mpr c29
                        have c29b1 : ((t472 ++ t463).toList != a0.toList) = false := bne_eq_false_iff_eq.mpr c29
                        clear c29
                        replace H := Option.bind_eq_some_iff.mp H
                        obtain ⟨t474, A300, H⟩ := H
                        replace H : (some t474) = some r := H
                        have A30 := Aside0.mk A300
                        clear A300
                        obtain rfl := Option.some.inj H
                        go_wp2_with (first | ((with_reducible refine gate_callee (f := 32) rfl ?_); refine goesL_ (some 89) rfl rfl Tryd.func32 (by kernel_rfl) rfl #[.string a0, .int .i64 (wrap64 ((a0.size : Int) - 1)), .int .i64 (wrap64 (x6_5 + 1))] rfl (by (try simp only [List.map_toArray, List.map_cons, List.map_nil]); first | done | rfl | (simp only [List.length_drop, List.length_take]; rfl)) ?_; (with_reducible refine (logic_Part.calls a0 (wrap64 ((a0.size : Int) - 1)) (wrap64 (x6_5 + 1)) t472 t473 _ A26.out).mono ?_); rintro e w31 ⟨rfl, hb⟩; refine ⟨_, rfl, ?_⟩; have n0_ := Aside0.mk (below_step (by repeat (first | (with_reducible first | exact HB.out | apply below_alloc | apply pw_below_drewN | apply below_drew1) | exact HB.out)) hb); clear HB; have HB := n0_; clear n0_; (try clear hb); (try clear hb2); (try clear hk); (try clear hi)) | (go_at_call 19; (with_reducible refine (silkwormlaw01_awake.calls kj11  t474 _ A30.out).mono ?_); rintro e w32 ⟨rfl, hb⟩; have n0_ := Aside0.mk (below_step (by repeat (first | (with_reducible first | exact HB.out | apply below_alloc | apply pw_below_drewN | apply below_drew1) | exact HB.out)) hb); clear HB; have HB := n0_; clear n0_; (try clear hb); (try clear hb2); (try clear hk); (try clear hi)))
                        go_ret
                        exact ⟨by first | rfl | (simp [errW_none, errW_some] <;> rfl) | (simp [*, errW_none, errW_some] <;> rfl), by repeat (first | (with_reducible first | exact HB.out | apply below_alloc | apply pw_below_drewN | apply below_drew1) | exact HB.out)⟩
                      · rw [if_neg c29] at H
                        have c29b0 : ((t472 ++ t463).toList == a0.toList) = false := beq_eq_false_iff_ne.mpr c29
                        have c29b1 : ((t472 ++ t463).toList != a0.toList) = true := bne_iff_ne.mpr c29
                        obtain rfl := Option.some.inj H
                        go_wp2_with (first | ((with_reducible refine gate_callee (f := 32) rfl ?_); refine goesL_ (some 89) rfl rfl Tryd.func32 (by kernel_rfl) rfl #[.string a0, .int .i64 (wrap64 ((a0.size : Int) - 1)), .int .i64 (wrap64 (x6_5 + 1))] rfl (by (try simp only [List.map_toArray, List.map_cons, List.map_nil]); first | done | rfl | (simp only [List.length_drop, List.length_take]; rfl)) ?_; (with_reducible refine (logic_Part.calls a0 (wrap64 ((a0.size : Int) - 1)) (wrap64 (x6_5 + 1)) t472 t473 _ A26.out).mono ?_); rintro e w33 ⟨rfl, hb⟩; refine ⟨_, rfl, ?_⟩; have n0_ := Aside0.mk (below_step (by repeat (first | (with_reducible first | exact HB.out | apply below_alloc | apply pw_below_drewN | apply below_drew1) | exact HB.out)) hb); clear HB; have HB := n0_; clear n0_; (try clear hb); (try clear hb2); (try clear hk); (try clear hi)))
                        go_ret
                        exact ⟨by first | rfl | (simp [errW_none, errW_some] <;> rfl) | (simp [*, errW_none, errW_some] <;> rfl), by repeat (first | (with_reducible first | exact HB.out | apply below_alloc | apply pw_below_drewN | apply below_drew1) | exact HB.out)⟩
                    · rw [if_neg c28] at H
                      exact absurd H (by simp)
                  · rw [if_neg c27] at H
                    have c27b0 : (t473 == 0) = false := beq_eq_false_iff_ne.mpr c27
                    have c27b1 : (t473 != 0) = true := bne_iff_ne.mpr c27
                    obtain rfl := Option.some.inj H
                    go_wp2_with (first | ((with_reducible refine gate_callee (f := 32) rfl ?_); refine goesL_ (some 89) rfl rfl Tryd.func32 (by kernel_rfl) rfl #[.string a0, .int .i64 (wrap64 ((a0.size : Int) - 1)), .int .i64 (wrap64 (x6_5 + 1))] rfl (by (try simp only [List.map_toArray, List.map_cons, List.map_nil]); first | done | rfl | (simp only [List.length_drop, List.length_take]; rfl)) ?_; (with_reducible refine (logic_Part.calls a0 (wrap64 ((a0.size : Int) - 1)) (wrap64 (x6_5 + 1)) t472 t473 _ A26.out).mono ?_); rintro e w34 ⟨rfl, hb⟩; refine ⟨_, rfl, ?_⟩; have n0_ := Aside0.mk (below_step (by repeat (first | (with_reducible first | exact HB.out | apply below_alloc | apply pw_below_drewN | apply below_drew1) | exact HB.out)) hb); clear HB; have HB := n0_; clear n0_; (try clear hb); (try clear hb2); (try clear hk); (try clear hi)))
                    go_ret
                    exact ⟨by first | rfl | (simp [errW_none, errW_some] <;> rfl) | (simp [*, errW_none, errW_some] <;> rfl), by repeat (first | (with_reducible first | exact HB.out | apply below_alloc | apply pw_below_drewN | apply below_drew1) | exact HB.out)⟩
  · replace c4 := Bool.eq_false_iff.mpr c4
    subst c4
    have H1 : ((silkwormlaw01_awake.f k).bind fun t462 => (some t462)) = some r := by rw [if_neg (show ¬ (false = true) by decide)] at H; exact H
    clear H
    have H := H1
    clear H1
    replace H := Option.bind_eq_some_iff.mp H
    obtain ⟨t462, A350, H⟩ := H
    replace H : (some t462) = some r := H
    have A35 := Aside0.mk A350
    clear A350
    obtain rfl := Option.some.inj H
    go_enter Tryd.func12, Tryd.ntmps12
    go_wp2_with (first | ((with_reducible refine gate_callee (f := 17) rfl ?_); refine goesL_ (some 18) rfl rfl Tryd.func17 (by kernel_rfl) rfl #[.string a0] rfl (by (try simp only [List.map_toArray, List.map_cons, List.map_nil]); first | done | rfl | (simp only [List.length_drop, List.length_take]; rfl)) ?_; (with_reducible refine (silkwormref01_May.calls k a0 false _ A3.out).mono ?_); rintro e w' ⟨rfl, ⟨nd, rfl⟩⟩; refine ⟨_, rfl, ?_⟩) | ((with_reducible refine gate_callee (f := 19) rfl ?_); refine goesL_ (some 20) rfl rfl Tryd.func19 (by kernel_rfl) rfl #[] rfl (by (try simp only [List.map_toArray, List.map_cons, List.map_nil]); first | done | rfl | (simp only [List.length_drop, List.length_take]; rfl)) ?_; (with_reducible refine (silkwormlaw01_awake.calls k  t462 _ A35.out).mono ?_); rintro e w36 ⟨rfl, hb⟩; refine ⟨_, rfl, ?_⟩; have n0_ := Aside0.mk (below_step (by repeat (first | (with_reducible first | exact HB.out | apply below_alloc | apply pw_below_drewN | apply below_drew1) | exact HB.out)) hb); clear HB; have HB := n0_; clear n0_; (try clear hb); (try clear hb2); (try clear hk); (try clear hi)))
    go_ret
    exact ⟨by first | rfl | (simp [errW_none, errW_some] <;> rfl) | (simp [*, errW_none, errW_some] <;> rfl), by repeat (first | (with_reducible first | exact HB.out | apply below_alloc | apply pw_below_drewN | apply below_drew1) | exact HB.out)⟩

/-- THE ONE PURE STATEMENT of silkwormlaw01_LogicSplits: yours. -/
def silkwormlaw01_LogicSplits.Pure : Prop := ∀ (a0 : ByteArray) (a1 : Int), a0.size ≤ 140737488351232 → (Lit.int .i64 a1).wf = true → ∃ k, silkwormlaw01_LogicSplits.f k a0 a1 = some true
theorem silkwormlaw01_LogicSplits.walk (P : silkwormlaw01_LogicSplits.Pure) (a0 : ByteArray) (a1 : Int) (w : World) (w0 : a0.size ≤ 140737488351232) (w1 : (Lit.int .i64 a1).wf = true) :
    Calls Tryd.prog 12 #[.string a0, .int .i64 a1] w fun e w' => e = .returned (.bool true) ∧ Below w.heap.size w w' := by
  obtain ⟨k, h⟩ := P a0 a1 w0 w1
  refine (silkwormlaw01_LogicSplits.calls k a0 a1 true w h).mono ?_
  rintro e w' ⟨rfl, hd⟩
  exact ⟨rfl, hd⟩

end Go.Proofs.YtblhfodkbjdeoaaDoor.PLg
