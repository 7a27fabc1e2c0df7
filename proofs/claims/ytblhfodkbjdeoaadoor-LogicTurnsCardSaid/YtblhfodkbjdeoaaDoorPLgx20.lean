-- By this session's program prinj.py, out of the translation and contracts proved by hand. Not trusted: Lean checks it.
import Derived.Test.YtblhfodkbjdeoaaDoorPLgx0
import Derived.Test.YtblhfodkbjdeoaaDoorPLgx4
import Derived.Test.YtblhfodkbjdeoaaDoorPLgx5
import Derived.Test.YtblhfodkbjdeoaaDoorPLgx6
import Derived.Test.YtblhfodkbjdeoaaDoorPLgx17
import Derived.Test.YtblhfodkbjdeoaaDoorPLgx19
namespace Go.Proofs.YtblhfodkbjdeoaaDoor.PLg
open Go.RowKit Go.Proofs.YtblhfodkbjdeoaaDoorW.PrintWords Go.Proofs.YtblhfodkbjdeoaaDoorW.PrintLast Go.Proofs.YtblhfodkbjdeoaaDoorW.PrintMore
attribute [local go_sem] max2_int min2_int max_two min_two max_three min_three max_four min_four   -- for this text's walks alone
attribute [local go_sem] str_leq str_gtr str_geq
set_option linter.unusedVariables false
set_option linter.unusedSimpArgs false

/-! ### silkwormlaw01_LogicTurns: function 10 -/
mutual
def silkwormlaw01_LogicTurns.j0 : Nat → ByteArray → ByteArray → Bool → Option (Bool)
  | 0, _, _, _ => none
  | k + 1, x0, x1, x25 => if x25 = true then ((silkwormlaw01_awake.f k).bind fun t418 => (some t418)) else ((silkwormref01_Fit.f k x0 (mx (x0.size : Int) (x1.size : Int))).bind fun t419 => ((silkwormref01_Fit.f k x1 (mx (x0.size : Int) (x1.size : Int))).bind fun t420 => ((logic_Unary.f k 7 t419).bind fun bt421 => ((logic_Unary.f k 7 t420).bind fun bt423 => ((logic_Binary.f k 23 t419 t420).bind fun bt425 => ((logic_Binary.f k 25 bt421.1 bt423.1).bind fun bt427 => ((logic_Unary.f k 7 bt425.1).bind fun bt429 => ((logic_Unary.f k 7 bt421.1).bind fun bt431 => (if bt421.2 = 0 then (if bt423.2 = 0 then (if bt425.2 = 0 then (if bt427.2 = 0 then (if bt429.2 = 0 then (if bt431.2 = 0 then (silkwormlaw01_LogicTurns.j1 k t419 (mx (x0.size : Int) (x1.size : Int)) bt431.1 (bt429.1.toList != bt427.1.toList)) else (silkwormlaw01_LogicTurns.j1 k t419 (mx (x0.size : Int) (x1.size : Int)) bt431.1 true)) else (silkwormlaw01_LogicTurns.j1 k t419 (mx (x0.size : Int) (x1.size : Int)) bt431.1 true)) else (silkwormlaw01_LogicTurns.j1 k t419 (mx (x0.size : Int) (x1.size : Int)) bt431.1 true)) else (silkwormlaw01_LogicTurns.j1 k t419 (mx (x0.size : Int) (x1.size : Int)) bt431.1 true)) else (silkwormlaw01_LogicTurns.j1 k t419 (mx (x0.size : Int) (x1.size : Int)) bt431.1 true)) else (silkwormlaw01_LogicTurns.j1 k t419 (mx (x0.size : Int) (x1.size : Int)) bt431.1 true))))))))))
def silkwormlaw01_LogicTurns.j1 : Nat → ByteArray → Int → ByteArray → Bool → Option (Bool)
  | 0, _, _, _, _ => none
  | k + 1, x0, x5, x16, x96 => if x96 = true then (some false) else ((silkwormlaw01_knows.f k x16 x0).bind fun t433 => (if t433 = true then (if (x16.size : Int) = x5 then ((silkwormlaw01_awake.f k).bind fun t434 => (some t434)) else (some false)) else (some false)))
end
def silkwormlaw01_LogicTurns.f (k : Nat) (a0 : ByteArray) (a1 : ByteArray) : Option (Bool) := (silkwormref01_May.f k a0).bind fun t416 => (if t416 = true then ((silkwormref01_May.f k a1).bind fun t417 => (silkwormlaw01_LogicTurns.j0 k a0 a1 (!t417))) else (silkwormlaw01_LogicTurns.j0 k a0 a1 true))
theorem silkwormlaw01_LogicTurns.mono_l : ∀ k, (∀ y0 y1 y2, LeO (silkwormlaw01_LogicTurns.j0 k y0 y1 y2) (silkwormlaw01_LogicTurns.j0 (k + 1) y0 y1 y2)) ∧ (∀ y0 y1 y2 y3, LeO (silkwormlaw01_LogicTurns.j1 k y0 y1 y2 y3) (silkwormlaw01_LogicTurns.j1 (k + 1) y0 y1 y2 y3))
  | 0 => ⟨fun _ _ _ r h => by simp [silkwormlaw01_LogicTurns.j0] at h, fun _ _ _ _ r h => by simp [silkwormlaw01_LogicTurns.j1] at h⟩
  | k + 1 => by
    obtain ⟨ih0, ih1⟩ := silkwormlaw01_LogicTurns.mono_l k
    refine ⟨?_, ?_⟩
    · intro y0 y1 y2
      unfold silkwormlaw01_LogicTurns.j0
      repeat' first
      | (with_reducible exact ih0 _ _ _)
      | (with_reducible exact ih1 _ _ _ _)
      | (with_reducible exact logic_Binary.mono _ _ _ _)
      | (with_reducible exact logic_Unary.mono _ _ _)
      | (with_reducible exact silkwormlaw01_awake.mono _)
      | (with_reducible exact silkwormlaw01_knows.mono _ _ _)
      | (with_reducible exact silkwormref01_Fit.mono _ _ _)
      | (with_reducible exact silkwormref01_May.mono _ _)
      | (with_reducible exact LeO.refl _)
      | (with_reducible exact LeO.none _)
      | (with_reducible refine LeO.ite ?_ ?_)
      | (with_reducible refine LeO.bind ?_ (fun _ => ?_))
      | exact ih0 _ _ _
      | exact ih1 _ _ _ _
      | exact logic_Binary.mono _ _ _ _
      | exact logic_Unary.mono _ _ _
      | exact silkwormlaw01_awake.mono _
      | exact silkwormlaw01_knows.mono _ _ _
      | exact silkwormref01_Fit.mono _ _ _
      | exact silkwormref01_May.mono _ _
      | exact LeO.none _
      | refine LeO.ite ?_ ?_
      | refine LeO.bind ?_ (fun _ => ?_)
    · intro y0 y1 y2 y3
      unfold silkwormlaw01_LogicTurns.j1
      repeat' first
      | (with_reducible exact ih0 _ _ _)
      | (with_reducible exact ih1 _ _ _ _)
      | (with_reducible exact logic_Binary.mono _ _ _ _)
      | (with_reducible exact logic_Unary.mono _ _ _)
      | (with_reducible exact silkwormlaw01_awake.mono _)
      | (with_reducible exact silkwormlaw01_knows.mono _ _ _)
      | (with_reducible exact silkwormref01_Fit.mono _ _ _)
      | (with_reducible exact silkwormref01_May.mono _ _)
      | (with_reducible exact LeO.refl _)
      | (with_reducible exact LeO.none _)
      | (with_reducible refine LeO.ite ?_ ?_)
      | (with_reducible refine LeO.bind ?_ (fun _ => ?_))
      | exact ih0 _ _ _
      | exact ih1 _ _ _ _
      | exact logic_Binary.mono _ _ _ _
      | exact logic_Unary.mono _ _ _
      | exact silkwormlaw01_awake.mono _
      | exact silkwormlaw01_knows.mono _ _ _
      | exact silkwormref01_Fit.mono _ _ _
      | exact silkwormref01_May.mono _ _
      | exact LeO.none _
      | refine LeO.ite ?_ ?_
      | refine LeO.bind ?_ (fun _ => ?_)
theorem silkwormlaw01_LogicTurns.mono : ∀ a0 a1 k, LeO (silkwormlaw01_LogicTurns.f k a0 a1) (silkwormlaw01_LogicTurns.f (k + 1) a0 a1) := by
  intro a0 a1 k
  obtain ⟨ih0, ih1⟩ := silkwormlaw01_LogicTurns.mono_l k
  unfold silkwormlaw01_LogicTurns.f
  repeat' first
      | (with_reducible exact ih0 _ _ _)
      | (with_reducible exact ih1 _ _ _ _)
      | (with_reducible exact logic_Binary.mono _ _ _ _)
      | (with_reducible exact logic_Unary.mono _ _ _)
      | (with_reducible exact silkwormlaw01_awake.mono _)
      | (with_reducible exact silkwormlaw01_knows.mono _ _ _)
      | (with_reducible exact silkwormref01_Fit.mono _ _ _)
      | (with_reducible exact silkwormref01_May.mono _ _)
      | (with_reducible exact LeO.refl _)
      | (with_reducible exact LeO.none _)
      | (with_reducible refine LeO.ite ?_ ?_)
      | (with_reducible refine LeO.bind ?_ (fun _ => ?_))
      | exact ih0 _ _ _
      | exact ih1 _ _ _ _
      | exact logic_Binary.mono _ _ _ _
      | exact logic_Unary.mono _ _ _
      | exact silkwormlaw01_awake.mono _
      | exact silkwormlaw01_knows.mono _ _ _
      | exact silkwormref01_Fit.mono _ _ _
      | exact silkwormref01_May.mono _ _
      | exact LeO.none _
      | refine LeO.ite ?_ ?_
      | refine LeO.bind ?_ (fun _ => ?_)
set_option maxHeartbeats 8000000 in
set_option maxRecDepth 100000 in
theorem silkwormlaw01_LogicTurns.calls (k : Nat) (a0 : ByteArray) (a1 : ByteArray) (r : Bool) (w : World) (h : silkwormlaw01_LogicTurns.f k a0 a1 = some r) :
    Calls Tryd.prog 10 #[.string a0, .string a1] w fun e w' => e = .returned (.bool r) ∧ Below w.heap.size w w' := by
  have HB := Aside0.mk (Below.refl w.heap.size w)
  have H : ((silkwormref01_May.f k a0).bind fun t416 => (if t416 = true then ((silkwormref01_May.f k a1).bind fun t417 => (silkwormlaw01_LogicTurns.j0 k a0 a1 (!t417))) else (silkwormlaw01_LogicTurns.j0 k a0 a1 true))) = some r := h
  clear h
  have HC3 := Aside0.mk H
  clear H
  go_enter Tryd.func10, Tryd.ntmps10
  go_upto_region 1 with (fail)
  go_cut [25] (fun v25 wc => ∃ (kq : Nat) (x25_2 : Bool), v25 = .bool x25_2 ∧ Aside0 (silkwormlaw01_LogicTurns.j0 kq a0 a1 x25_2 = some r) ∧ Aside0 (kq ≤ k) ∧ Aside0 (Below w.heap.size w wc))
  case first =>
    have H := HC3.out
    clear HC3
    replace H := Option.bind_eq_some_iff.mp H
    obtain ⟨t416, A40, H⟩ := H
    replace H : (if t416 = true then ((silkwormref01_May.f k a1).bind fun t417 => (silkwormlaw01_LogicTurns.j0 k a0 a1 (!t417))) else (silkwormlaw01_LogicTurns.j0 k a0 a1 true)) = some r := H
    have A4 := Aside0.mk A40
    clear A40
    by_cases c5 : t416 = true
    · subst c5
      have H1 : ((silkwormref01_May.f k a1).bind fun t417 => (silkwormlaw01_LogicTurns.j0 k a0 a1 (!t417))) = some r := by rw [if_pos rfl] at H; exact H
      clear H
      have H := H1
      clear H1
      replace H := Option.bind_eq_some_iff.mp H
      obtain ⟨t417, A60, H⟩ := H
      replace H : (silkwormlaw01_LogicTurns.j0 k a0 a1 (!t417)) = some r := H
      have A6 := Aside0.mk A60
      clear A60
      have H' := Aside0.mk H
      clear H
      go_wp2_with (first | ((with_reducible refine gate_callee (f := 17) rfl ?_); refine goesL_ (some 19) rfl rfl Tryd.func17 (by kernel_rfl) rfl #[.string a0] rfl (by (try simp only [List.map_toArray, List.map_cons, List.map_nil]); first | done | rfl | (simp only [List.length_drop, List.length_take]; rfl)) ?_; (with_reducible refine (silkwormref01_May.calls k a0 true _ A4.out).mono ?_); rintro e w' ⟨rfl, ⟨nd, rfl⟩⟩; refine ⟨_, rfl, ?_⟩) | (go_at_call 17; (with_reducible refine (silkwormref01_May.calls k a1 t417 _ A6.out).mono ?_); rintro e w' ⟨rfl, ⟨nd, rfl⟩⟩))
      go_meet
      case rel => exact ⟨_, (!t417), (by first | rfl | (simp; done) | (simp [*]; done)), H', ⟨by first | omega | exact Nat.le_refl _⟩, ⟨by repeat (first | (with_reducible first | exact HB.out | apply below_alloc | apply pw_below_drewN | apply below_drew1) | exact HB.out)⟩⟩
    · replace c5 := Bool.eq_false_iff.mpr c5
      subst c5
      have H1 : (silkwormlaw01_LogicTurns.j0 k a0 a1 true) = some r := by rw [if_neg (show ¬ (false = true) by decide)] at H; exact H
      clear H
      have H := H1
      clear H1
      have H' := Aside0.mk H
      clear H
      go_wp2_with (first | ((with_reducible refine gate_callee (f := 17) rfl ?_); refine goesL_ (some 19) rfl rfl Tryd.func17 (by kernel_rfl) rfl #[.string a0] rfl (by (try simp only [List.map_toArray, List.map_cons, List.map_nil]); first | done | rfl | (simp only [List.length_drop, List.length_take]; rfl)) ?_; (with_reducible refine (silkwormref01_May.calls k a0 false _ A4.out).mono ?_); rintro e w' ⟨rfl, ⟨nd, rfl⟩⟩; refine ⟨_, rfl, ?_⟩))
      go_meet
      case rel => exact ⟨_, (true), (by first | rfl | (simp; done) | (simp [*]; done)), H', ⟨by first | omega | exact Nat.le_refl _⟩, ⟨by repeat (first | (with_reducible first | exact HB.out | apply below_alloc | apply pw_below_drewN | apply below_drew1) | exact HB.out)⟩⟩
  case rest =>
    clear HC3
    try clear c1
    try clear p2
    try clear c5
    obtain ⟨kq, x25_2, rfl, HA, HJ2, HB⟩ := hcut
    cases kq with
    | zero => exact absurd HA.out (by simp [silkwormlaw01_LogicTurns.j0])
    | succ kj2 =>
      have H := HA.out
      clear HA
      simp only [silkwormlaw01_LogicTurns.j0] at H
      by_cases c7 : x25_2 = true
      · subst c7
        have H1 : ((silkwormlaw01_awake.f kj2).bind fun t418 => (some t418)) = some r := by rw [if_pos rfl] at H; exact H
        clear H
        have H := H1
        clear H1
        replace H := Option.bind_eq_some_iff.mp H
        obtain ⟨t418, A80, H⟩ := H
        replace H : (some t418) = some r := H
        have A8 := Aside0.mk A80
        clear A80
        obtain rfl := Option.some.inj H
        go_wp2_with (first | ((with_reducible refine gate_callee (f := 19) rfl ?_); refine goesL_ (some 26) rfl rfl Tryd.func19 (by kernel_rfl) rfl #[] rfl (by (try simp only [List.map_toArray, List.map_cons, List.map_nil]); first | done | rfl | (simp only [List.length_drop, List.length_take]; rfl)) ?_; (with_reducible refine (silkwormlaw01_awake.calls kj2  t418 _ A8.out).mono ?_); rintro e w9 ⟨rfl, hb⟩; refine ⟨_, rfl, ?_⟩; have n0_ := Aside0.mk (below_step (by repeat (first | (with_reducible first | exact HB.out | apply below_alloc | apply pw_below_drewN | apply below_drew1) | exact HB.out)) hb); clear HB; have HB := n0_; clear n0_; (try clear hb); (try clear hb2); (try clear hk); (try clear hi)))
        go_ret
        exact ⟨by first | rfl | (simp [errW_none, errW_some] <;> rfl) | (simp [*, errW_none, errW_some] <;> rfl), by repeat (first | (with_reducible first | exact HB.out | apply below_alloc | apply pw_below_drewN | apply below_drew1) | exact HB.out)⟩
      · replace c7 := Bool.eq_false_iff.mpr c7
        subst c7
        have H1 : ((silkwormref01_Fit.f kj2 a0 (mx (a0.size : Int) (a1.size : Int))).bind fun t419 => ((silkwormref01_Fit.f kj2 a1 (mx (a0.size : Int) (a1.size : Int))).bind fun t420 => ((logic_Unary.f kj2 7 t419).bind fun bt421 => ((logic_Unary.f kj2 7 t420).bind fun bt423 => ((logic_Binary.f kj2 23 t419 t420).bind fun bt425 => ((logic_Binary.f kj2 25 bt421.1 bt423.1).bind fun bt427 => ((logic_Unary.f kj2 7 bt425.1).bind fun bt429 => ((logic_Unary.f kj2 7 bt421.1).bind fun bt431 => (if bt421.2 = 0 then (if bt423.2 = 0 then (if bt425.2 = 0 then (if bt427.2 = 0 then (if bt429.2 = 0 then (if bt431.2 = 0 then (silkwormlaw01_LogicTurns.j1 kj2 t419 (mx (a0.size : Int) (a1.size : Int)) bt431.1 (bt429.1.toList != bt427.1.toList)) else (silkwormlaw01_LogicTurns.j1 kj2 t419 (mx (a0.size : Int) (a1.size : Int)) bt431.1 true)) else (silkwormlaw01_LogicTurns.j1 kj2 t419 (mx (a0.size : Int) (a1.size : Int)) bt431.1 true)) else (silkwormlaw01_LogicTurns.j1 kj2 t419 (mx (a0.size : Int) (a1.size : Int)) bt431.1 true)) else (silkwormlaw01_LogicTurns.j1 kj2 t419 (mx (a0.size : Int) (a1.size : Int)) bt431.1 true)) else (silkwormlaw01_LogicTurns.j1 kj2 t419 (mx (a0.size : Int) (a1.size : Int)) bt431.1 true)) else (silkwormlaw01_LogicTurns.j1 kj2 t419 (mx (a0.size : Int) (a1.size : Int)) bt431.1 true)))))))))) = some r := by rw [if_neg (show ¬ (false = true) by decide)] at H; exact H
        clear H
        have H := H1
        clear H1
        obtain ⟨ji10, hji10⟩ : ∃ j_ : Int, (mx (a0.size : Int) (a1.size : Int)) = j_ := ⟨_, rfl⟩
        replace H : ((silkwormref01_Fit.f kj2 a0 (ji10)).bind fun t419 => ((silkwormref01_Fit.f kj2 a1 (ji10)).bind fun t420 => ((logic_Unary.f kj2 7 t419).bind fun bt421 => ((logic_Unary.f kj2 7 t420).bind fun bt423 => ((logic_Binary.f kj2 23 t419 t420).bind fun bt425 => ((logic_Binary.f kj2 25 bt421.1 bt423.1).bind fun bt427 => ((logic_Unary.f kj2 7 bt425.1).bind fun bt429 => ((logic_Unary.f kj2 7 bt421.1).bind fun bt431 => (if bt421.2 = 0 then (if bt423.2 = 0 then (if bt425.2 = 0 then (if bt427.2 = 0 then (if bt429.2 = 0 then (if bt431.2 = 0 then (silkwormlaw01_LogicTurns.j1 kj2 t419 ji10 bt431.1 (bt429.1.toList != bt427.1.toList)) else (silkwormlaw01_LogicTurns.j1 kj2 t419 ji10 bt431.1 true)) else (silkwormlaw01_LogicTurns.j1 kj2 t419 ji10 bt431.1 true)) else (silkwormlaw01_LogicTurns.j1 kj2 t419 ji10 bt431.1 true)) else (silkwormlaw01_LogicTurns.j1 kj2 t419 ji10 bt431.1 true)) else (silkwormlaw01_LogicTurns.j1 kj2 t419 ji10 bt431.1 true)) else (silkwormlaw01_LogicTurns.j1 kj2 t419 ji10 bt431.1 true)))))))))) = some r := by first | (rw [hji10] at H; exact H) | (simp only [hji10] at H ⊢; exact H)
        have hji10_ : (if (a0.size : Int) < (a1.size : Int) then (a1.size : Int) else (a0.size : Int)) = ji10 := hji10
        try have hji10__ : (if a0.size < a1.size then (a1.size : Int) else (a0.size : Int)) = ji10 := by rw [← hji10_]; simp only [Int.ofNat_lt]
        replace H := Option.bind_eq_some_iff.mp H
        obtain ⟨t419, A110, H⟩ := H
        replace H : ((silkwormref01_Fit.f kj2 a1 (ji10)).bind fun t420 => ((logic_Unary.f kj2 7 t419).bind fun bt421 => ((logic_Unary.f kj2 7 t420).bind fun bt423 => ((logic_Binary.f kj2 23 t419 t420).bind fun bt425 => ((logic_Binary.f kj2 25 bt421.1 bt423.1).bind fun bt427 => ((logic_Unary.f kj2 7 bt425.1).bind fun bt429 => ((logic_Unary.f kj2 7 bt421.1).bind fun bt431 => (if bt421.2 = 0 then (if bt423.2 = 0 then (if bt425.2 = 0 then (if bt427.2 = 0 then (if bt429.2 = 0 then (if bt431.2 = 0 then (silkwormlaw01_LogicTurns.j1 kj2 t419 ji10 bt431.1 (bt429.1.toList != bt427.1.toList)) else (silkwormlaw01_LogicTurns.j1 kj2 t419 ji10 bt431.1 true)) else (silkwormlaw01_LogicTurns.j1 kj2 t419 ji10 bt431.1 true)) else (silkwormlaw01_LogicTurns.j1 kj2 t419 ji10 bt431.1 true)) else (silkwormlaw01_LogicTurns.j1 kj2 t419 ji10 bt431.1 true)) else (silkwormlaw01_LogicTurns.j1 kj2 t419 ji10 bt431.1 true)) else (silkwormlaw01_LogicTurns.j1 kj2 t419 ji10 bt431.1 true))))))))) = some r := H
        have A11 := Aside0.mk A110
        clear A110
        replace H := Option.bind_eq_some_iff.mp H
        obtain ⟨t420, A120, H⟩ := H
        replace H : ((logic_Unary.f kj2 7 t419).bind fun bt421 => ((logic_Unary.f kj2 7 t420).bind fun bt423 => ((logic_Binary.f kj2 23 t419 t420).bind fun bt425 => ((logic_Binary.f kj2 25 bt421.1 bt423.1).bind fun bt427 => ((logic_Unary.f kj2 7 bt425.1).bind fun bt429 => ((logic_Unary.f kj2 7 bt421.1).bind fun bt431 => (if bt421.2 = 0 then (if bt423.2 = 0 then (if bt425.2 = 0 then (if bt427.2 = 0 then (if bt429.2 = 0 then (if bt431.2 = 0 then (silkwormlaw01_LogicTurns.j1 kj2 t419 ji10 bt431.1 (bt429.1.toList != bt427.1.toList)) else (silkwormlaw01_LogicTurns.j1 kj2 t419 ji10 bt431.1 true)) else (silkwormlaw01_LogicTurns.j1 kj2 t419 ji10 bt431.1 true)) else (silkwormlaw01_LogicTurns.j1 kj2 t419 ji10 bt431.1 true)) else (silkwormlaw01_LogicTurns.j1 kj2 t419 ji10 bt431.1 true)) else (silkwormlaw01_LogicTurns.j1 kj2 t419 ji10 bt431.1 true)) else (silkwormlaw01_LogicTurns.j1 kj2 t419 ji10 bt431.1 true)))))))) = some r := H
        have A12 := Aside0.mk A120
        clear A120
        replace H := Option.bind_eq_some_iff.mp H
        obtain ⟨⟨t421, t422⟩, A130, H⟩ := H
        replace H : ((logic_Unary.f kj2 7 t420).bind fun bt423 => ((logic_Binary.f kj2 23 t419 t420).bind fun bt425 => ((logic_Binary.f kj2 25 t421 bt423.1).bind fun bt427 => ((logic_Unary.f kj2 7 bt425.1).bind fun bt429 => ((logic_Unary.f kj2 7 t421).bind fun bt431 => (if t422 = 0 then (if bt423.2 = 0 then (if bt425.2 = 0 then (if bt427.2 = 0 then (if bt429.2 = 0 then (if bt431.2 = 0 then (silkwormlaw01_LogicTurns.j1 kj2 t419 ji10 bt431.1 (bt429.1.toList != bt427.1.toList)) else (silkwormlaw01_LogicTurns.j1 kj2 t419 ji10 bt431.1 true)) else (silkwormlaw01_LogicTurns.j1 kj2 t419 ji10 bt431.1 true)) else (silkwormlaw01_LogicTurns.j1 kj2 t419 ji10 bt431.1 true)) else (silkwormlaw01_LogicTurns.j1 kj2 t419 ji10 bt431.1 true)) else (silkwormlaw01_LogicTurns.j1 kj2 t419 ji10 bt431.1 true)) else (silkwormlaw01_LogicTurns.j1 kj2 t419 ji10 bt431.1 true))))))) = some r := H
        have A13 := Aside0.mk A130
        clear A130
        replace H := Option.bind_eq_some_iff.mp H
        obtain ⟨⟨t423, t424⟩, A140, H⟩ := H
        replace H : ((logic_Binary.f kj2 23 t419 t420).bind fun bt425 => ((logic_Binary.f kj2 25 t421 t423).bind fun bt427 => ((logic_Unary.f kj2 7 bt425.1).bind fun bt429 => ((logic_Unary.f kj2 7 t421).bind fun bt431 => (if t422 = 0 then (if t424 = 0 then (if bt425.2 = 0 then (if bt427.2 = 0 then (if bt429.2 = 0 then (if bt431.2 = 0 then (silkwormlaw01_LogicTurns.j1 kj2 t419 ji10 bt431.1 (bt429.1.toList != bt427.1.toList)) else (silkwormlaw01_LogicTurns.j1 kj2 t419 ji10 bt431.1 true)) else (silkwormlaw01_LogicTurns.j1 kj2 t419 ji10 bt431.1 true)) else (silkwormlaw01_LogicTurns.j1 kj2 t419 ji10 bt431.1 true)) else (silkwormlaw01_LogicTurns.j1 kj2 t419 ji10 bt431.1 true)) else (silkwormlaw01_LogicTurns.j1 kj2 t419 ji10 bt431.1 true)) else (silkwormlaw01_LogicTurns.j1 kj2 t419 ji10 bt431.1 true)))))) = some r := H
        have A14 := Aside0.mk A140
        clear A140
        replace H := Option.bind_eq_some_iff.mp H
        obtain ⟨⟨t425, t426⟩, A150, H⟩ := H
        replace H : ((logic_Binary.f kj2 25 t421 t423).bind fun bt427 => ((logic_Unary.f kj2 7 t425).bind fun bt429 => ((logic_Unary.f kj2 7 t421).bind fun bt431 => (if t422 = 0 then (if t424 = 0 then (if t426 = 0 then (if bt427.2 = 0 then (if bt429.2 = 0 then (if bt431.2 = 0 then (silkwormlaw01_LogicTurns.j1 kj2 t419 ji10 bt431.1 (bt429.1.toList != bt427.1.toList)) else (silkwormlaw01_LogicTurns.j1 kj2 t419 ji10 bt431.1 true)) else (silkwormlaw01_LogicTurns.j1 kj2 t419 ji10 bt431.1 true)) else (silkwormlaw01_LogicTurns.j1 kj2 t419 ji10 bt431.1 true)) else (silkwormlaw01_LogicTurns.j1 kj2 t419 ji10 bt431.1 true)) else (silkwormlaw01_LogicTurns.j1 kj2 t419 ji10 bt431.1 true)) else (silkwormlaw01_LogicTurns.j1 kj2 t419 ji10 bt431.1 true))))) = some r := H
        have A15 := Aside0.mk A150
        clear A150
        replace H := Option.bind_eq_some_iff.mp H
        obtain ⟨⟨t427, t428⟩, A160, H⟩ := H
        replace H : ((logic_Unary.f kj2 7 t425).bind fun bt429 => ((logic_Unary.f kj2 7 t421).bind fun bt431 => (if t422 = 0 then (if t424 = 0 then (if t426 = 0 then (if t428 = 0 then (if bt429.2 = 0 then (if bt431.2 = 0 then (silkwormlaw01_LogicTurns.j1 kj2 t419 ji10 bt431.1 (bt429.1.toList != t427.toList)) else (silkwormlaw01_LogicTurns.j1 kj2 t419 ji10 bt431.1 true)) else (silkwormlaw01_LogicTurns.j1 kj2 t419 ji10 bt431.1 true)) else (silkwormlaw01_LogicTurns.j1 kj2 t419 ji10 bt431.1 true)) else (silkwormlaw01_LogicTurns.j1 kj2 t419 ji10 bt431.1 true)) else (silkwormlaw01_LogicTurns.j1 kj2 t419 ji10 bt431.1 true)) else (silkwormlaw01_LogicTurns.j1 kj2 t419 ji10 bt431.1 true)))) = some r := H
        have A16 := Aside0.mk A160
        clear A160
        replace H := Option.bind_eq_some_iff.mp H
        obtain ⟨⟨t429, t430⟩, A170, H⟩ := H
        replace H : ((logic_Unary.f kj2 7 t421).bind fun bt431 => (if t422 = 0 then (if t424 = 0 then (if t426 = 0 then (if t428 = 0 then (if t430 = 0 then (if bt431.2 = 0 then (silkwormlaw01_LogicTurns.j1 kj2 t419 ji10 bt431.1 (t429.toList != t427.toList)) else (silkwormlaw01_LogicTurns.j1 kj2 t419 ji10 bt431.1 true)) else (silkwormlaw01_LogicTurns.j1 kj2 t419 ji10 bt431.1 true)) else (silkwormlaw01_LogicTurns.j1 kj2 t419 ji10 bt431.1 true)) else (silkwormlaw01_LogicTurns.j1 kj2 t419 ji10 bt431.1 true)) else (silkwormlaw01_LogicTurns.j1 kj2 t419 ji10 bt431.1 true)) else (silkwormlaw01_LogicTurns.j1 kj2 t419 ji10 bt431.1 true))) = some r := H
        have A17 := Aside0.mk A170
        clear A170
        replace H := Option.bind_eq_some_iff.mp H
        obtain ⟨⟨t431, t432⟩, A180, H⟩ := H
        replace H : (if t422 = 0 then (if t424 = 0 then (if t426 = 0 then (if t428 = 0 then (if t430 = 0 then (if t432 = 0 then (silkwormlaw01_LogicTurns.j1 kj2 t419 ji10 t431 (t429.toList != t427.toList)) else (silkwormlaw01_LogicTurns.j1 kj2 t419 ji10 t431 true)) else (silkwormlaw01_LogicTurns.j1 kj2 t419 ji10 t431 true)) else (silkwormlaw01_LogicTurns.j1 kj2 t419 ji10 t431 true)) else (silkwormlaw01_LogicTurns.j1 kj2 t419 ji10 t431 true)) else (silkwormlaw01_LogicTurns.j1 kj2 t419 ji10 t431 true)) else (silkwormlaw01_LogicTurns.j1 kj2 t419 ji10 t431 true)) = some r := H
        have A18 := Aside0.mk A180
        clear A180
        have HC19 := Aside0.mk H
        clear H
        go_upto_region 11 with (first | ((with_reducible refine gate_callee (f := 30) rfl ?_); refine goesL_ (some 34) rfl rfl Tryd.func30 (by kernel_rfl) rfl #[.string a0, .int .i64 ji10] rfl (by (try simp only [List.map_toArray, List.map_cons, List.map_nil]); first | done | (simp only [hji10]; rfl) | rfl | (simp only [List.length_drop, List.length_take]; rfl)) ?_; (with_reducible refine (silkwormref01_Fit.calls kj2 a0 ji10 t419 _ A11.out).mono ?_); rintro e w20 ⟨rfl, hb⟩; refine ⟨_, rfl, ?_⟩; have n0_ := Aside0.mk (below_step (by repeat (first | (with_reducible first | exact HB.out | apply below_alloc | apply pw_below_drewN | apply below_drew1) | exact HB.out)) hb); clear HB; have HB := n0_; clear n0_; (try clear hb); (try clear hb2); (try clear hk); (try clear hi)) | ((with_reducible refine gate_callee (f := 30) rfl ?_); refine goesL_ (some 37) rfl rfl Tryd.func30 (by kernel_rfl) rfl #[.string a1, .int .i64 ji10] rfl (by (try simp only [List.map_toArray, List.map_cons, List.map_nil]); first | done | (simp only [hji10]; rfl) | rfl | (simp only [List.length_drop, List.length_take]; rfl)) ?_; (with_reducible refine (silkwormref01_Fit.calls kj2 a1 ji10 t420 _ A12.out).mono ?_); rintro e w21 ⟨rfl, hb⟩; refine ⟨_, rfl, ?_⟩; have n0_ := Aside0.mk (below_step (by repeat (first | (with_reducible first | exact HB.out | apply below_alloc | apply pw_below_drewN | apply below_drew1) | exact HB.out)) hb); clear HB; have HB := n0_; clear n0_; (try clear hb); (try clear hb2); (try clear hk); (try clear hi)) | ((with_reducible refine gate_callee (f := 28) rfl ?_); refine goesL_ (some 40) rfl rfl Tryd.func28 (by kernel_rfl) rfl #[.int .i64 7, .string t419] rfl (by (try simp only [List.map_toArray, List.map_cons, List.map_nil]); first | done | rfl | (simp only [List.length_drop, List.length_take]; rfl)) ?_; (with_reducible refine (logic_Unary.calls kj2 7 t419 t421 t422 _ A13.out).mono ?_); rintro e w22 ⟨rfl, hb⟩; refine ⟨_, rfl, ?_⟩; have n0_ := Aside0.mk (below_step (by repeat (first | (with_reducible first | exact HB.out | apply below_alloc | apply pw_below_drewN | apply below_drew1) | exact HB.out)) hb); clear HB; have HB := n0_; clear n0_; (try clear hb); (try clear hb2); (try clear hk); (try clear hi)) | ((with_reducible refine gate_callee (f := 28) rfl ?_); refine goesL_ (some 45) rfl rfl Tryd.func28 (by kernel_rfl) rfl #[.int .i64 7, .string t420] rfl (by (try simp only [List.map_toArray, List.map_cons, List.map_nil]); first | done | rfl | (simp only [List.length_drop, List.length_take]; rfl)) ?_; (with_reducible refine (logic_Unary.calls kj2 7 t420 t423 t424 _ A14.out).mono ?_); rintro e w23 ⟨rfl, hb⟩; refine ⟨_, rfl, ?_⟩; have n0_ := Aside0.mk (below_step (by repeat (first | (with_reducible first | exact HB.out | apply below_alloc | apply pw_below_drewN | apply below_drew1) | exact HB.out)) hb); clear HB; have HB := n0_; clear n0_; (try clear hb); (try clear hb2); (try clear hk); (try clear hi)) | ((with_reducible refine gate_callee (f := 16) rfl ?_); refine goesL_ (some 51) rfl rfl Tryd.func16 (by kernel_rfl) rfl #[.int .i64 23, .string t419, .string t420] rfl (by (try simp only [List.map_toArray, List.map_cons, List.map_nil]); first | done | rfl | (simp only [List.length_drop, List.length_take]; rfl)) ?_; (with_reducible refine (logic_Binary.calls kj2 23 t419 t420 t425 t426 _ A15.out).mono ?_); rintro e w24 ⟨rfl, hb⟩; refine ⟨_, rfl, ?_⟩; have n0_ := Aside0.mk (below_step (by repeat (first | (with_reducible first | exact HB.out | apply below_alloc | apply pw_below_drewN | apply below_drew1) | exact HB.out)) hb); clear HB; have HB := n0_; clear n0_; (try clear hb); (try clear hb2); (try clear hk); (try clear hi)) | ((with_reducible refine gate_callee (f := 16) rfl ?_); refine goesL_ (some 57) rfl rfl Tryd.func16 (by kernel_rfl) rfl #[.int .i64 25, .string t421, .string t423] rfl (by (try simp only [List.map_toArray, List.map_cons, List.map_nil]); first | done | rfl | (simp only [List.length_drop, List.length_take]; rfl)) ?_; (with_reducible refine (logic_Binary.calls kj2 25 t421 t423 t427 t428 _ A16.out).mono ?_); rintro e w25 ⟨rfl, hb⟩; refine ⟨_, rfl, ?_⟩; have n0_ := Aside0.mk (below_step (by repeat (first | (with_reducible first | exact HB.out | apply below_alloc | apply pw_below_drewN | apply below_drew1) | exact HB.out)) hb); clear HB; have HB := n0_; clear n0_; (try clear hb); (try clear hb2); (try clear hk); (try clear hi)) | ((with_reducible refine gate_callee (f := 28) rfl ?_); refine goesL_ (some 62) rfl rfl Tryd.func28 (by kernel_rfl) rfl #[.int .i64 7, .string t425] rfl (by (try simp only [List.map_toArray, List.map_cons, List.map_nil]); first | done | rfl | (simp only [List.length_drop, List.length_take]; rfl)) ?_; (with_reducible refine (logic_Unary.calls kj2 7 t425 t429 t430 _ A17.out).mono ?_); rintro e w26 ⟨rfl, hb⟩; refine ⟨_, rfl, ?_⟩; have n0_ := Aside0.mk (below_step (by repeat (first | (with_reducible first | exact HB.out | apply below_alloc | apply pw_below_drewN | apply below_drew1) | exact HB.out)) hb); clear HB; have HB := n0_; clear n0_; (try clear hb); (try clear hb2); (try clear hk); (try clear hi)) | ((with_reducible refine gate_callee (f := 28) rfl ?_); refine goesL_ (some 67) rfl rfl Tryd.func28 (by kernel_rfl) rfl #[.int .i64 7, .string t421] rfl (by (try simp only [List.map_toArray, List.map_cons, List.map_nil]); first | done | rfl | (simp only [List.length_drop, List.length_take]; rfl)) ?_; (with_reducible refine (logic_Unary.calls kj2 7 t421 t431 t432 _ A18.out).mono ?_); rintro e w27 ⟨rfl, hb⟩; refine ⟨_, rfl, ?_⟩; have n0_ := Aside0.mk (below_step (by repeat (first | (with_reducible first | exact HB.out | apply below_alloc | apply pw_below_drewN | apply below_drew1) | exact HB.out)) hb); clear HB; have HB := n0_; clear n0_; (try clear hb); (try clear hb2); (try clear hk); (try clear hi)))
        (try simp only [Act.put, List.setIfInBounds_toArray, List.set_cons_zero, List.set_cons_succ])
        go_cut [96] (fun v96 wc => ∃ (kq : Nat) (x96_18 : Bool), v96 = .bool x96_18 ∧ Aside0 (silkwormlaw01_LogicTurns.j1 kq t419 ji10 t431 x96_18 = some r) ∧ Aside0 (kq ≤ kj2) ∧ Aside0 (Below w.heap.size w wc))
        case first =>
          have H := HC19.out
          clear HC19
          by_cases c28 : t422 = 0
          · rw [if_pos c28] at H
            have c28b0 : (t422 == 0) = true := beq_iff_eq.mpr c28
            have c28b1 : (t422 != 0) = false := bne_eq_false_iff_eq.mpr c28
            clear c28
            (first | rw [c28b0] | (simp only [i64_w, i32_w]; rw [c28b0]) | skip)
            by_cases c29 : t424 = 0
            · rw [if_pos c29] at H
              have c29b0 : (t424 == 0) = true := beq_iff_eq.mpr c29
              have c29b1 : (t424 != 0) = false := bne_eq_false_iff_eq.mpr c29
              clear c29
              by_cases c30 : t426 = 0
              · rw [if_pos c30] at H
                have c30b0 : (t426 == 0) = true := beq_iff_eq.mpr c30
                have c30b1 : (t426 != 0) = false := bne_eq_false_iff_eq.mpr c30
                clear c30
                by_cases c31 : t428 = 0
                · rw [if_pos c31] at H
                  have c31b0 : (t428 == 0) = true := beq_iff_eq.mpr c31
                  have c31b1 : (t428 != 0) = false := bne_eq_false_iff_eq.mpr c31
                  clear c31
                  by_cases c32 : t430 = 0
                  · rw [if_pos c32] at H
                    have c32b0 : (t430 == 0) = true := beq_iff_eq.mpr c32
                    have c32b1 : (t430 != 0) = false := bne_eq_false_iff_eq.mpr c32
                    clear c32
                    by_cases c33 : t432 = 0
                    · rw [if_pos c33] at H
                      have c33b0 : (t432 == 0) = true := beq_iff_eq.mpr c33
                      have c33b1 : (t432 != 0) = false := bne_eq_false_iff_eq.mpr c33
                      clear c33
                      have H' := Aside0.mk H
                      clear H
                      go_wp2
                      go_meet
                      case rel => exact ⟨_, ((t429.toList != t427.toList)), (by first | rfl | (simp; done) | (simp [*]; done)), H', ⟨by have := HJ2.out; first | omega | exact Nat.le_refl _⟩, ⟨by repeat (first | (with_reducible first | exact HB.out | apply below_alloc | apply pw_below_drewN | apply below_drew1) | exact HB.out)⟩⟩
                    · rw [if_neg c33] at H
                      have c33b0 : (t432 == 0) = false := beq_eq_false_iff_ne.mpr c33
                      have c33b1 : (t432 != 0) = true := bne_iff_ne.mpr c33
                      have H' := Aside0.mk H
                      clear H
                      go_wp2
                      go_meet
                      case rel => exact ⟨_, (true), (by first | rfl | (simp; done) | (simp [*]; done)), H', ⟨by have := HJ2.out; first | omega | exact Nat.le_refl _⟩, ⟨by repeat (first | (with_reducible first | exact HB.out | apply below_alloc | apply pw_below_drewN | apply below_drew1) | exact HB.out)⟩⟩
                  · rw [if_neg c32] at H
                    have c32b0 : (t430 == 0) = false := beq_eq_false_iff_ne.mpr c32
                    have c32b1 : (t430 != 0) = true := bne_iff_ne.mpr c32
                    have H' := Aside0.mk H
                    clear H
                    go_wp2
                    go_meet
                    case rel => exact ⟨_, (true), (by first | rfl | (simp; done) | (simp [*]; done)), H', ⟨by have := HJ2.out; first | omega | exact Nat.le_refl _⟩, ⟨by repeat (first | (with_reducible first | exact HB.out | apply below_alloc | apply pw_below_drewN | apply below_drew1) | exact HB.out)⟩⟩
                · rw [if_neg c31] at H
                  have c31b0 : (t428 == 0) = false := beq_eq_false_iff_ne.mpr c31
                  have c31b1 : (t428 != 0) = true := bne_iff_ne.mpr c31
                  have H' := Aside0.mk H
                  clear H
                  go_wp2
                  go_meet
                  case rel => exact ⟨_, (true), (by first | rfl | (simp; done) | (simp [*]; done)), H', ⟨by have := HJ2.out; first | omega | exact Nat.le_refl _⟩, ⟨by repeat (first | (with_reducible first | exact HB.out | apply below_alloc | apply pw_below_drewN | apply below_drew1) | exact HB.out)⟩⟩
              · rw [if_neg c30] at H
                have c30b0 : (t426 == 0) = false := beq_eq_false_iff_ne.mpr c30
                have c30b1 : (t426 != 0) = true := bne_iff_ne.mpr c30
                have H' := Aside0.mk H
                clear H
                go_wp2
                go_meet
                case rel => exact ⟨_, (true), (by first | rfl | (simp; done) | (simp [*]; done)), H', ⟨by have := HJ2.out; first | omega | exact Nat.le_refl _⟩, ⟨by repeat (first | (with_reducible first | exact HB.out | apply below_alloc | apply pw_below_drewN | apply below_drew1) | exact HB.out)⟩⟩
            · rw [if_neg c29] at H
              have c29b0 : (t424 == 0) = false := beq_eq_false_iff_ne.mpr c29
              have c29b1 : (t424 != 0) = true := bne_iff_ne.mpr c29
              have H' := Aside0.mk H
              clear H
              go_wp2
              go_meet
              case rel => exact ⟨_, (true), (by first | rfl | (simp; done) | (simp [*]; done)), H', ⟨by have := HJ2.out; first | omega | exact Nat.le_refl _⟩, ⟨by repeat (first | (with_reducible first | exact HB.out | apply below_alloc | apply pw_below_drewN | apply below_drew1) | exact HB.out)⟩⟩
          · rw [if_neg c28] at H
            have c28b0 : (t422 == 0) = false := beq_eq_false_iff_ne.mpr c28
            have c28b1 : (t422 != 0) = true := bne_iff_ne.mpr c28
            (first | rw [c28b0] | (simp only [i64_w, i32_w]; rw [c28b0]) | skip)
            have H' := Aside0.mk H
            clear H
            go_wp2
            go_meet
            case rel => exact ⟨_, (true), (by first | rfl | (simp; done) | (simp [*]; done)), H', ⟨by have := HJ2.out; first | omega | exact Nat.le_refl _⟩, ⟨by repeat (first | (with_reducible first | exact HB.out | apply below_alloc | apply pw_below_drewN | apply below_drew1) | exact HB.out)⟩⟩
        case rest =>
          clear HC19
          try clear c1
          try clear c2
          try clear p2
          try clear c3
          try clear c5
          try clear c7
          try clear c10
          try clear c16
          try clear c17
          try clear c19
          try clear c28
          try clear c28b0
          try clear c28b1
          try clear c29
          try clear c29b0
          try clear c29b1
          try clear c30
          try clear c30b0
          try clear c30b1
          try clear c31
          try clear c31b0
          try clear c31b1
          try clear c32
          try clear c32b0
          try clear c32b1
          try clear c33
          try clear c33b0
          try clear c33b1
          try clear p2
          obtain ⟨kq, x96_18, rfl, HA, HJ18, HB⟩ := hcut
          cases kq with
          | zero => exact absurd HA.out (by simp [silkwormlaw01_LogicTurns.j1])
          | succ kj18 =>
            have H := HA.out
            clear HA
            simp only [silkwormlaw01_LogicTurns.j1] at H
            by_cases c34 : x96_18 = true
            · subst c34
              have H1 : (some false) = some r := by rw [if_pos rfl] at H; exact H
              clear H
              have H := H1
              clear H1
              obtain rfl := Option.some.inj H
              go_wp2
              go_ret
              exact ⟨by first | rfl | (simp [errW_none, errW_some] <;> rfl) | (simp only [← hji10]; first | rfl | (simp [errW_none, errW_some] <;> rfl)) | (simp [*, errW_none, errW_some] <;> rfl), by repeat (first | (with_reducible first | exact HB.out | apply below_alloc | apply pw_below_drewN | apply below_drew1) | exact HB.out)⟩
            · replace c34 := Bool.eq_false_iff.mpr c34
              subst c34
              have H1 : ((silkwormlaw01_knows.f kj18 t431 t419).bind fun t433 => (if t433 = true then (if (t431.size : Int) = ji10 then ((silkwormlaw01_awake.f kj18).bind fun t434 => (some t434)) else (some false)) else (some false))) = some r := by rw [if_neg (show ¬ (false = true) by decide)] at H; exact H
              clear H
              have H := H1
              clear H1
              replace H := Option.bind_eq_some_iff.mp H
              obtain ⟨t433, A350, H⟩ := H
              replace H : (if t433 = true then (if (t431.size : Int) = ji10 then ((silkwormlaw01_awake.f kj18).bind fun t434 => (some t434)) else (some false)) else (some false)) = some r := H
              have A35 := Aside0.mk A350
              clear A350
              by_cases c36 : t433 = true
              · subst c36
                have H1 : (if (t431.size : Int) = ji10 then ((silkwormlaw01_awake.f kj18).bind fun t434 => (some t434)) else (some false)) = some r := by rw [if_pos rfl] at H; exact H
                clear H
                have H := H1
                clear H1
                by_cases c37 : (t431.size : Int) = ji10
                · rw [if_pos c37] at H
                  have c37b0 : ((t431.size : Int) == ji10) = true := beq_iff_eq.mpr c37
                  have c37b1 : ((t431.size : Int) != ji10) = false := bne_eq_false_iff_eq.mpr c37
                  clear c37
                  replace H := Option.bind_eq_some_iff.mp H
                  obtain ⟨t434, A380, H⟩ := H
                  replace H : (some t434) = some r := H
                  have A38 := Aside0.mk A380
                  clear A380
                  obtain rfl := Option.some.inj H
                  go_wp2_with (first | ((with_reducible refine gate_callee (f := 31) rfl ?_); refine goesL_ (some 99) rfl rfl Tryd.func31 (by kernel_rfl) rfl #[.string t431, .string t419] rfl (by (try simp only [List.map_toArray, List.map_cons, List.map_nil]); first | done | rfl | (simp only [List.length_drop, List.length_take]; rfl)) ?_; (with_reducible refine (silkwormlaw01_knows.calls kj18 t431 t419 true _ A35.out).mono ?_); rintro e w' ⟨rfl, ⟨nd, rfl⟩⟩; refine ⟨_, rfl, ?_⟩) | (go_at_call 19; (with_reducible refine (silkwormlaw01_awake.calls kj18  t434 _ A38.out).mono ?_); rintro e w39 ⟨rfl, hb⟩; have n0_ := Aside0.mk (below_step (by repeat (first | (with_reducible first | exact HB.out | apply below_alloc | apply pw_below_drewN | apply below_drew1) | exact HB.out)) hb); clear HB; have HB := n0_; clear n0_; (try clear hb); (try clear hb2); (try clear hk); (try clear hi)))
                  go_ret
                  exact ⟨by first | rfl | (simp [errW_none, errW_some] <;> rfl) | (simp only [← hji10]; first | rfl | (simp [errW_none, errW_some] <;> rfl)) | (simp [*, errW_none, errW_some] <;> rfl), by repeat (first | (with_reducible first | exact HB.out | apply below_alloc | apply pw_below_drewN | apply below_drew1) | exact HB.out)⟩
                · rw [if_neg c37] at H
                  have c37b0 : ((t431.size : Int) == ji10) = false := beq_eq_false_iff_ne.mpr c37
                  have c37b1 : ((t431.size : Int) != ji10) = true := bne_iff_ne.mpr c37
                  obtain rfl := Option.some.inj H
                  go_wp2_with (first | ((with_reducible refine gate_callee (f := 31) rfl ?_); refine goesL_ (some 99) rfl rfl Tryd.func31 (by kernel_rfl) rfl #[.string t431, .string t419] rfl (by (try simp only [List.map_toArray, List.map_cons, List.map_nil]); first | done | rfl | (simp only [List.length_drop, List.length_take]; rfl)) ?_; (with_reducible refine (silkwormlaw01_knows.calls kj18 t431 t419 true _ A35.out).mono ?_); rintro e w' ⟨rfl, ⟨nd, rfl⟩⟩; refine ⟨_, rfl, ?_⟩))
                  go_ret
                  exact ⟨by first | rfl | (simp [errW_none, errW_some] <;> rfl) | (simp only [← hji10]; first | rfl | (simp [errW_none, errW_some] <;> rfl)) | (simp [*, errW_none, errW_some] <;> rfl), by repeat (first | (with_reducible first | exact HB.out | apply below_alloc | apply pw_below_drewN | apply below_drew1) | exact HB.out)⟩
              · replace c36 := Bool.eq_false_iff.mpr c36
                subst c36
                have H1 : (some false) = some r := by rw [if_neg (show ¬ (false = true) by decide)] at H; exact H
                clear H
                have H := H1
                clear H1
                obtain rfl := Option.some.inj H
                go_wp2_with (first | ((with_reducible refine gate_callee (f := 31) rfl ?_); refine goesL_ (some 99) rfl rfl Tryd.func31 (by kernel_rfl) rfl #[.string t431, .string t419] rfl (by (try simp only [List.map_toArray, List.map_cons, List.map_nil]); first | done | rfl | (simp only [List.length_drop, List.length_take]; rfl)) ?_; (with_reducible refine (silkwormlaw01_knows.calls kj18 t431 t419 false _ A35.out).mono ?_); rintro e w' ⟨rfl, ⟨nd, rfl⟩⟩; refine ⟨_, rfl, ?_⟩))
                go_ret
                exact ⟨by first | rfl | (simp [errW_none, errW_some] <;> rfl) | (simp only [← hji10]; first | rfl | (simp [errW_none, errW_some] <;> rfl)) | (simp [*, errW_none, errW_some] <;> rfl), by repeat (first | (with_reducible first | exact HB.out | apply below_alloc | apply pw_below_drewN | apply below_drew1) | exact HB.out)⟩

/-- THE ONE PURE STATEMENT of silkwormlaw01_LogicTurns: yours. -/
def silkwormlaw01_LogicTurns.Pure : Prop := ∀ (a0 : ByteArray) (a1 : ByteArray), a0.size ≤ 140737488351232 → a1.size ≤ 140737488351232 → ∃ k, silkwormlaw01_LogicTurns.f k a0 a1 = some true
theorem silkwormlaw01_LogicTurns.walk (P : silkwormlaw01_LogicTurns.Pure) (a0 : ByteArray) (a1 : ByteArray) (w : World) (w0 : a0.size ≤ 140737488351232) (w1 : a1.size ≤ 140737488351232) :
    Calls Tryd.prog 10 #[.string a0, .string a1] w fun e w' => e = .returned (.bool true) ∧ Below w.heap.size w w' := by
  obtain ⟨k, h⟩ := P a0 a1 w0 w1
  refine (silkwormlaw01_LogicTurns.calls k a0 a1 true w h).mono ?_
  rintro e w' ⟨rfl, hd⟩
  exact ⟨rfl, hd⟩

end Go.Proofs.YtblhfodkbjdeoaaDoor.PLg
