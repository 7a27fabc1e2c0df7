-- By this session's program prinj.py, out of the translation and contracts proved by hand. Not trusted: Lean checks it.
import Derived.Test.YtblhfodkbjdeoaaDoorPLgx0
import Derived.Test.YtblhfodkbjdeoaaDoorPLgx4
import Derived.Test.YtblhfodkbjdeoaaDoorPLgx5
import Derived.Test.YtblhfodkbjdeoaaDoorPLgx6
namespace Go.Proofs.YtblhfodkbjdeoaaDoor.PLg
open Go.RowKit Go.Proofs.YtblhfodkbjdeoaaDoorW.PrintWords Go.Proofs.YtblhfodkbjdeoaaDoorW.PrintLast Go.Proofs.YtblhfodkbjdeoaaDoorW.PrintMore
attribute [local go_sem] max2_int min2_int max_two min_two max_three min_three max_four min_four   -- for this text's walks alone
attribute [local go_sem] str_leq str_gtr str_geq
set_option linter.unusedVariables false
set_option linter.unusedSimpArgs false

/-! ### silkwormlaw01_LogicRows: function 5 -/
mutual
def silkwormlaw01_LogicRows.j0 : Nat → ByteArray → ByteArray → Bool → Option (Bool)
  | 0, _, _, _ => none
  | k + 1, x0, x1, x20 => if x20 = true then ((silkwormlaw01_awake.f k).bind fun t299 => (some t299)) else (silkwormlaw01_LogicRows.l0 k x0 x1 (([17, 21, 19] : List Int)) (([20, 22, 18] : List Int)) 0 0)
def silkwormlaw01_LogicRows.l0 : Nat → ByteArray → ByteArray → List Int → List Int → Int → Int → Option (Bool)
  | 0, _, _, _, _, _, _ => none
  | k + 1, x0, x1, x5, x6, x7, x8 => if x8 < 3 then (if 0 ≤ x8 then (if x8 < (x5.length : Int) then ((logic_Binary.f k (rd x5 x8) x0 x1).bind fun bt309 => (if x8 < (x6.length : Int) then ((logic_Binary.f k (rd x6 x8) x0 x1).bind fun bt312 => (if bt309.2 = 0 then (if bt312.2 = 0 then (if x0.size + x1.size ≤ 9223372036854775807 then ((silkwormref01_Known.f k (x0 ++ x1)).bind fun t314 => (if t314 = true then ((silkwormref01_Known.f k (x0 ++ x1)).bind fun t315 => (if t315 = true then (silkwormlaw01_LogicRows.j2 k x0 x1 x5 x6 x7 x8 bt309.1 (bt309.1.toList == bt312.1.toList)) else (silkwormlaw01_LogicRows.j2 k x0 x1 x5 x6 x7 x8 bt309.1 false))) else (if bt309.1.toList = ([120] : List UInt8) then (if bt312.1.toList = ([120] : List UInt8) then ((silkwormref01_Known.f k (x0 ++ x1)).bind fun t316 => (if t316 = true then (silkwormlaw01_LogicRows.j2 k x0 x1 x5 x6 x7 x8 bt309.1 (bt309.1.toList == bt312.1.toList)) else (silkwormlaw01_LogicRows.j2 k x0 x1 x5 x6 x7 x8 bt309.1 false))) else (silkwormlaw01_LogicRows.j2 k x0 x1 x5 x6 x7 x8 bt309.1 true)) else (silkwormlaw01_LogicRows.j2 k x0 x1 x5 x6 x7 x8 bt309.1 true)))) else (none)) else (silkwormlaw01_LogicRows.j2 k x0 x1 x5 x6 x7 x8 bt309.1 true)) else (silkwormlaw01_LogicRows.j2 k x0 x1 x5 x6 x7 x8 bt309.1 true))) else (none))) else (none)) else (none)) else (if x0.size + x1.size ≤ 9223372036854775807 then ((silkwormref01_Known.f k (x0 ++ x1)).bind fun t306 => (if ((x7 == 1) == t306) = true then ((silkwormlaw01_awake.f k).bind fun t307 => (some t307)) else (some false))) else (none))
def silkwormlaw01_LogicRows.j2 : Nat → ByteArray → ByteArray → List Int → List Int → Int → Int → ByteArray → Bool → Option (Bool)
  | 0, _, _, _, _, _, _, _, _ => none
  | k + 1, x0, x1, x5, x6, x7, x8, x9, x79 => if x79 = true then (some false) else (if x9.toList = ([49] : List UInt8) then (silkwormlaw01_LogicRows.l0 k x0 x1 x5 x6 (wrap64 (x7 + 1)) (wrap64 (x8 + 1))) else (silkwormlaw01_LogicRows.l0 k x0 x1 x5 x6 x7 (wrap64 (x8 + 1))))
end
def silkwormlaw01_LogicRows.f (k : Nat) (a0 : ByteArray) (a1 : ByteArray) : Option (Bool) := (silkwormref01_May.f k a0).bind fun t297 => (if t297 = true then ((silkwormref01_May.f k a1).bind fun t298 => (silkwormlaw01_LogicRows.j0 k a0 a1 (!t298))) else (silkwormlaw01_LogicRows.j0 k a0 a1 true))
theorem silkwormlaw01_LogicRows.mono_l : ∀ k, (∀ y0 y1 y2, LeO (silkwormlaw01_LogicRows.j0 k y0 y1 y2) (silkwormlaw01_LogicRows.j0 (k + 1) y0 y1 y2)) ∧ (∀ y0 y1 y2 y3 y4 y5, LeO (silkwormlaw01_LogicRows.l0 k y0 y1 y2 y3 y4 y5) (silkwormlaw01_LogicRows.l0 (k + 1) y0 y1 y2 y3 y4 y5)) ∧ (∀ y0 y1 y2 y3 y4 y5 y6 y7, LeO (silkwormlaw01_LogicRows.j2 k y0 y1 y2 y3 y4 y5 y6 y7) (silkwormlaw01_LogicRows.j2 (k + 1) y0 y1 y2 y3 y4 y5 y6 y7))
  | 0 => ⟨fun _ _ _ r h => by simp [silkwormlaw01_LogicRows.j0] at h, fun _ _ _ _ _ _ r h => by simp [silkwormlaw01_LogicRows.l0] at h, fun _ _ _ _ _ _ _ _ r h => by simp [silkwormlaw01_LogicRows.j2] at h⟩
  | k + 1 => by
    obtain ⟨ih0, ih1, ih2⟩ := silkwormlaw01_LogicRows.mono_l k
    refine ⟨?_, ?_, ?_⟩
    · intro y0 y1 y2
      unfold silkwormlaw01_LogicRows.j0
      repeat' first
      | (with_reducible exact ih0 _ _ _)
      | (with_reducible exact ih1 _ _ _ _ _ _)
      | (with_reducible exact ih2 _ _ _ _ _ _ _ _)
      | (with_reducible exact logic_Binary.mono _ _ _ _)
      | (with_reducible exact silkwormlaw01_awake.mono _)
      | (with_reducible exact silkwormref01_Known.mono _ _)
      | (with_reducible exact silkwormref01_May.mono _ _)
      | (with_reducible exact LeO.refl _)
      | (with_reducible exact LeO.none _)
      | (with_reducible refine LeO.ite ?_ ?_)
      | (with_reducible refine LeO.bind ?_ (fun _ => ?_))
      | exact ih0 _ _ _
      | exact ih1 _ _ _ _ _ _
      | exact ih2 _ _ _ _ _ _ _ _
      | exact logic_Binary.mono _ _ _ _
      | exact silkwormlaw01_awake.mono _
      | exact silkwormref01_Known.mono _ _
      | exact silkwormref01_May.mono _ _
      | exact LeO.none _
      | refine LeO.ite ?_ ?_
      | refine LeO.bind ?_ (fun _ => ?_)
    · intro y0 y1 y2 y3 y4 y5
      unfold silkwormlaw01_LogicRows.l0
      repeat' first
      | (with_reducible exact ih0 _ _ _)
      | (with_reducible exact ih1 _ _ _ _ _ _)
      | (with_reducible exact ih2 _ _ _ _ _ _ _ _)
      | (with_reducible exact logic_Binary.mono _ _ _ _)
      | (with_reducible exact silkwormlaw01_awake.mono _)
      | (with_reducible exact silkwormref01_Known.mono _ _)
      | (with_reducible exact silkwormref01_May.mono _ _)
      | (with_reducible exact LeO.refl _)
      | (with_reducible exact LeO.none _)
      | (with_reducible refine LeO.ite ?_ ?_)
      | (with_reducible refine LeO.bind ?_ (fun _ => ?_))
      | exact ih0 _ _ _
      | exact ih1 _ _ _ _ _ _
      | exact ih2 _ _ _ _ _ _ _ _
      | exact logic_Binary.mono _ _ _ _
      | exact silkwormlaw01_awake.mono _
      | exact silkwormref01_Known.mono _ _
      | exact silkwormref01_May.mono _ _
      | exact LeO.none _
      | refine LeO.ite ?_ ?_
      | refine LeO.bind ?_ (fun _ => ?_)
    · intro y0 y1 y2 y3 y4 y5 y6 y7
      unfold silkwormlaw01_LogicRows.j2
      repeat' first
      | (with_reducible exact ih0 _ _ _)
      | (with_reducible exact ih1 _ _ _ _ _ _)
      | (with_reducible exact ih2 _ _ _ _ _ _ _ _)
      | (with_reducible exact logic_Binary.mono _ _ _ _)
      | (with_reducible exact silkwormlaw01_awake.mono _)
      | (with_reducible exact silkwormref01_Known.mono _ _)
      | (with_reducible exact silkwormref01_May.mono _ _)
      | (with_reducible exact LeO.refl _)
      | (with_reducible exact LeO.none _)
      | (with_reducible refine LeO.ite ?_ ?_)
      | (with_reducible refine LeO.bind ?_ (fun _ => ?_))
      | exact ih0 _ _ _
      | exact ih1 _ _ _ _ _ _
      | exact ih2 _ _ _ _ _ _ _ _
      | exact logic_Binary.mono _ _ _ _
      | exact silkwormlaw01_awake.mono _
      | exact silkwormref01_Known.mono _ _
      | exact silkwormref01_May.mono _ _
      | exact LeO.none _
      | refine LeO.ite ?_ ?_
      | refine LeO.bind ?_ (fun _ => ?_)
theorem silkwormlaw01_LogicRows.mono : ∀ a0 a1 k, LeO (silkwormlaw01_LogicRows.f k a0 a1) (silkwormlaw01_LogicRows.f (k + 1) a0 a1) := by
  intro a0 a1 k
  obtain ⟨ih0, ih1, ih2⟩ := silkwormlaw01_LogicRows.mono_l k
  unfold silkwormlaw01_LogicRows.f
  repeat' first
      | (with_reducible exact ih0 _ _ _)
      | (with_reducible exact ih1 _ _ _ _ _ _)
      | (with_reducible exact ih2 _ _ _ _ _ _ _ _)
      | (with_reducible exact logic_Binary.mono _ _ _ _)
      | (with_reducible exact silkwormlaw01_awake.mono _)
      | (with_reducible exact silkwormref01_Known.mono _ _)
      | (with_reducible exact silkwormref01_May.mono _ _)
      | (with_reducible exact LeO.refl _)
      | (with_reducible exact LeO.none _)
      | (with_reducible refine LeO.ite ?_ ?_)
      | (with_reducible refine LeO.bind ?_ (fun _ => ?_))
      | exact ih0 _ _ _
      | exact ih1 _ _ _ _ _ _
      | exact ih2 _ _ _ _ _ _ _ _
      | exact logic_Binary.mono _ _ _ _
      | exact silkwormlaw01_awake.mono _
      | exact silkwormref01_Known.mono _ _
      | exact silkwormref01_May.mono _ _
      | exact LeO.none _
      | refine LeO.ite ?_ ?_
      | refine LeO.bind ?_ (fun _ => ?_)
set_option maxHeartbeats 8000000 in
set_option maxRecDepth 100000 in
theorem silkwormlaw01_LogicRows.calls (k : Nat) (a0 : ByteArray) (a1 : ByteArray) (r : Bool) (w : World) (h : silkwormlaw01_LogicRows.f k a0 a1 = some r) :
    Calls Tryd.prog 5 #[.string a0, .string a1] w fun e w' => e = .returned (.bool r) ∧ Below w.heap.size w w' := by
  have HB := Aside0.mk (Below.refl w.heap.size w)
  have H : ((silkwormref01_May.f k a0).bind fun t297 => (if t297 = true then ((silkwormref01_May.f k a1).bind fun t298 => (silkwormlaw01_LogicRows.j0 k a0 a1 (!t298))) else (silkwormlaw01_LogicRows.j0 k a0 a1 true))) = some r := h
  clear h
  have HC3 := Aside0.mk H
  clear H
  go_enter Tryd.func5, Tryd.ntmps5
  go_upto_region 1 with (fail)
  go_cut [20] (fun v20 wc => ∃ (kq : Nat) (x20_2 : Bool), v20 = .bool x20_2 ∧ Aside0 (silkwormlaw01_LogicRows.j0 kq a0 a1 x20_2 = some r) ∧ Aside0 (kq ≤ k) ∧ Aside0 (Below w.heap.size w wc))
  case first =>
    have H := HC3.out
    clear HC3
    replace H := Option.bind_eq_some_iff.mp H
    obtain ⟨t297, A40, H⟩ := H
    replace H : (if t297 = true then ((silkwormref01_May.f k a1).bind fun t298 => (silkwormlaw01_LogicRows.j0 k a0 a1 (!t298))) else (silkwormlaw01_LogicRows.j0 k a0 a1 true)) = some r := H
    have A4 := Aside0.mk A40
    clear A40
    by_cases c5 : t297 = true
    · subst c5
      have H1 : ((silkwormref01_May.f k a1).bind fun t298 => (silkwormlaw01_LogicRows.j0 k a0 a1 (!t298))) = some r := by rw [if_pos rfl] at H; exact H
      clear H
      have H := H1
      clear H1
      replace H := Option.bind_eq_some_iff.mp H
      obtain ⟨t298, A60, H⟩ := H
      replace H : (silkwormlaw01_LogicRows.j0 k a0 a1 (!t298)) = some r := H
      have A6 := Aside0.mk A60
      clear A60
      have H' := Aside0.mk H
      clear H
      go_wp2_with (first | ((with_reducible refine gate_callee (f := 17) rfl ?_); refine goesL_ (some 14) rfl rfl Tryd.func17 (by kernel_rfl) rfl #[.string a0] rfl (by (try simp only [List.map_toArray, List.map_cons, List.map_nil]); first | done | rfl | (simp only [List.length_drop, List.length_take]; rfl)) ?_; (with_reducible refine (silkwormref01_May.calls k a0 true _ A4.out).mono ?_); rintro e w' ⟨rfl, ⟨nd, rfl⟩⟩; refine ⟨_, rfl, ?_⟩) | (go_at_call 17; (with_reducible refine (silkwormref01_May.calls k a1 t298 _ A6.out).mono ?_); rintro e w' ⟨rfl, ⟨nd, rfl⟩⟩))
      go_meet
      case rel => exact ⟨_, (!t298), (by first | rfl | (simp; done) | (simp [*]; done)), H', ⟨by first | omega | exact Nat.le_refl _⟩, ⟨by repeat (first | (with_reducible first | exact HB.out | apply below_alloc | apply pw_below_drewN | apply below_drew1) | exact HB.out)⟩⟩
    · replace c5 := Bool.eq_false_iff.mpr c5
      subst c5
      have H1 : (silkwormlaw01_LogicRows.j0 k a0 a1 true) = some r := by rw [if_neg (show ¬ (false = true) by decide)] at H; exact H
      clear H
      have H := H1
      clear H1
      have H' := Aside0.mk H
      clear H
      go_wp2_with (first | ((with_reducible refine gate_callee (f := 17) rfl ?_); refine goesL_ (some 14) rfl rfl Tryd.func17 (by kernel_rfl) rfl #[.string a0] rfl (by (try simp only [List.map_toArray, List.map_cons, List.map_nil]); first | done | rfl | (simp only [List.length_drop, List.length_take]; rfl)) ?_; (with_reducible refine (silkwormref01_May.calls k a0 false _ A4.out).mono ?_); rintro e w' ⟨rfl, ⟨nd, rfl⟩⟩; refine ⟨_, rfl, ?_⟩))
      go_meet
      case rel => exact ⟨_, (true), (by first | rfl | (simp; done) | (simp [*]; done)), H', ⟨by first | omega | exact Nat.le_refl _⟩, ⟨by repeat (first | (with_reducible first | exact HB.out | apply below_alloc | apply pw_below_drewN | apply below_drew1) | exact HB.out)⟩⟩
  case rest =>
    clear HC3
    try clear c1
    try clear p2
    try clear c5
    obtain ⟨kq, x20_2, rfl, HA, HJ2, HB⟩ := hcut
    cases kq with
    | zero => exact absurd HA.out (by simp [silkwormlaw01_LogicRows.j0])
    | succ kj2 =>
      have H := HA.out
      clear HA
      simp only [silkwormlaw01_LogicRows.j0] at H
      by_cases c7 : x20_2 = true
      · subst c7
        have H1 : ((silkwormlaw01_awake.f kj2).bind fun t299 => (some t299)) = some r := by rw [if_pos rfl] at H; exact H
        clear H
        have H := H1
        clear H1
        replace H := Option.bind_eq_some_iff.mp H
        obtain ⟨t299, A80, H⟩ := H
        replace H : (some t299) = some r := H
        have A8 := Aside0.mk A80
        clear A80
        obtain rfl := Option.some.inj H
        go_wp2_with (first | ((with_reducible refine gate_callee (f := 19) rfl ?_); refine goesL_ (some 21) rfl rfl Tryd.func19 (by kernel_rfl) rfl #[] rfl (by (try simp only [List.map_toArray, List.map_cons, List.map_nil]); first | done | rfl | (simp only [List.length_drop, List.length_take]; rfl)) ?_; (with_reducible refine (silkwormlaw01_awake.calls kj2  t299 _ A8.out).mono ?_); rintro e w9 ⟨rfl, hb⟩; refine ⟨_, rfl, ?_⟩; have n0_ := Aside0.mk (below_step (by repeat (first | (with_reducible first | exact HB.out | apply below_alloc | apply pw_below_drewN | apply below_drew1) | exact HB.out)) hb); clear HB; have HB := n0_; clear n0_; (try clear hb); (try clear hb2); (try clear hk); (try clear hi)))
        go_ret
        exact ⟨by first | rfl | (simp [errW_none, errW_some] <;> rfl) | (simp [*, errW_none, errW_some] <;> rfl), by repeat (first | (with_reducible first | exact HB.out | apply below_alloc | apply pw_below_drewN | apply below_drew1) | exact HB.out)⟩
      · replace c7 := Bool.eq_false_iff.mpr c7
        subst c7
        have H1 : (silkwormlaw01_LogicRows.l0 kj2 a0 a1 (([17, 21, 19] : List Int)) (([20, 22, 18] : List Int)) 0 0) = some r := by rw [if_neg (show ¬ (false = true) by decide)] at H; exact H
        clear H
        have H := H1
        clear H1
        obtain ⟨y300, hy300⟩ : ∃ y_ : List Int, y_ = (([17, 21, 19] : List Int)) := ⟨_, rfl⟩
        replace H : (silkwormlaw01_LogicRows.l0 kj2 a0 a1 y300 (([20, 22, 18] : List Int)) 0 0) = some r := by first | (rw [hy300]; with_reducible exact H) | (have H2_ := (Option.bind_some _ _).symm.trans H; rw [hy300]; with_reducible exact H2_) | (have H2_ := (Option.bind_some _ _).symm.trans H; with_reducible exact H2_) | with_reducible exact H | (rw [hy300]; exact H) | exact H
        have Ny300 := Aside0.mk hy300
        clear hy300
        obtain ⟨y303, hy303⟩ : ∃ y_ : List Int, y_ = (([20, 22, 18] : List Int)) := ⟨_, rfl⟩
        replace H : (silkwormlaw01_LogicRows.l0 kj2 a0 a1 y300 y303 0 0) = some r := by first | (rw [hy303]; with_reducible exact H) | (have H2_ := (Option.bind_some _ _).symm.trans H; rw [hy303]; with_reducible exact H2_) | (have H2_ := (Option.bind_some _ _).symm.trans H; with_reducible exact H2_) | with_reducible exact H | (rw [hy303]; exact H) | exact H
        have Ny303 := Aside0.mk hy303
        clear hy303
        have H' := Aside0.mk H
        clear H
        go_wp2_with (first | ((with_reducible refine gate_dst (N := 22) rfl ?_); refine Kd.R_lit (Kd.int .i64) _ 3 ?hg (N := 22) ?hd (xs := ([17, 21, 19] : List Int)) (inner := [.int .i64 17, .int .i64 21, .int .i64 19]) (ok := fun _ => True) (okp := fun _ => True) ?hr ?hp (fun _ hk => hk) trivial (Below.refl _ _) (Nat.le_refl _) (by simp) ?_; (case hd => rfl); (case hg => rfl); (case hr => first | (go_simp; done) | (go_simp; rfl)); (case hp => exact (Reps.one (show Kd.M (Kd.int .i64) _ _ _ 17 [.int .i64 17] from rfl) (Reps.one (show Kd.M (Kd.int .i64) _ _ _ 21 [.int .i64 21] from rfl) (Reps.one (show Kd.M (Kd.int .i64) _ _ _ 19 [.int .i64 19] from rfl) (Reps.none _ _))))); intro v301 w10 ho11 hb hg_ hnew_; clear hg_ hnew_; (first | rw [← Ny300.out] at ho11 | (simp only [Int.reduceToNat] at ho11; rw [← Ny300.out] at ho11)); have n0_ := Aside0.mk (Kd.R_lower ho11 (below_size (by repeat (first | (with_reducible first | exact HB.out | apply below_alloc | apply pw_below_drewN | apply below_drew1) | exact HB.out)))); have n1_ := Aside0.mk (below_step (by repeat (first | (with_reducible first | exact HB.out | apply below_alloc | apply pw_below_drewN | apply below_drew1) | exact HB.out)) hb); clear HB; have HO302 := n0_; have HB := n1_; clear n0_ n1_; clear hb ho11) | ((with_reducible refine gate_dst (N := 23) rfl ?_); refine Kd.R_lit (Kd.int .i64) _ 3 ?hg (N := 23) ?hd (xs := ([20, 22, 18] : List Int)) (inner := [.int .i64 20, .int .i64 22, .int .i64 18]) (ok := fun _ => True) (okp := fun _ => True) ?hr ?hp (fun _ hk => hk) trivial (Below.refl _ _) (Nat.le_refl _) (by simp) ?_; (case hd => rfl); (case hg => rfl); (case hr => first | (go_simp; done) | (go_simp; rfl)); (case hp => exact (Reps.one (show Kd.M (Kd.int .i64) _ _ _ 20 [.int .i64 20] from rfl) (Reps.one (show Kd.M (Kd.int .i64) _ _ _ 22 [.int .i64 22] from rfl) (Reps.one (show Kd.M (Kd.int .i64) _ _ _ 18 [.int .i64 18] from rfl) (Reps.none _ _))))); intro v304 w12 ho13 hb hg_ hnew_; clear hg_ hnew_; (first | rw [← Ny303.out] at ho13 | (simp only [Int.reduceToNat] at ho13; rw [← Ny303.out] at ho13)); have n0_ := Aside0.mk (Kd.R_elder' (by (with_reducible repeat (first | apply Kd.R_alloc | apply Kd.R_drewN | apply Kd.R_drew)); exact HO302.out) (Kd.R_base ho13) hb); have n1_ := Aside0.mk (Kd.R_lower (Kd.R_new' ho13 (Kd.R_lt (by (with_reducible repeat (first | apply Kd.R_alloc | apply Kd.R_drewN | apply Kd.R_drew)); exact HO302.out))) (below_size (by repeat (first | (with_reducible first | exact HB.out | apply below_alloc | apply pw_below_drewN | apply below_drew1) | exact HB.out)))); have n2_ := Aside0.mk (below_step (by repeat (first | (with_reducible first | exact HB.out | apply below_alloc | apply pw_below_drewN | apply below_drew1) | exact HB.out)) hb); clear HO302; clear HB; have HO302 := n0_; have HO305 := n1_; have HB := n2_; clear n0_ n1_ n2_; clear hb ho13))
        go_loopg [7, 8] kj2 (fun kq v7 v8 w' => ∃ (x7_2 : Int) (x8_2 : Int), v7 = .int .i64 x7_2 ∧ v8 = .int .i64 x8_2 ∧ Aside0 (silkwormlaw01_LogicRows.l0 kq a0 a1 y300 y303 x7_2 x8_2 = some r) ∧ Aside0 (kq ≤ kj2) ∧ Aside0 (Kd.R (Kd.int .i64) 3 w' w.heap.size (fun k_ => some k_ ≠ (v304 : Value).ownBlock) v301 y300) ∧ Aside0 (Kd.R (Kd.int .i64) 3 w' w.heap.size (fun k_ => some k_ ≠ (v301 : Value).ownBlock) v304 y303) ∧ Aside0 (Below w.heap.size w w'))
        case atStart => exact ⟨(0), (0), (by first | rfl | (simp; done) | (simp [*]; done)), (by first | rfl | (simp; done) | (simp [*]; done)), H', ⟨Nat.le_refl _⟩, ⟨by (with_reducible repeat (first | apply Kd.R_alloc | apply Kd.R_drewN | apply Kd.R_drew)); exact Kd.R_mono HO302.out (fun _ hk => hk.2)⟩, ⟨by (with_reducible repeat (first | apply Kd.R_alloc | apply Kd.R_drewN | apply Kd.R_drew)); exact Kd.R_mono HO305.out (fun _ hk => hk.2)⟩, ⟨by repeat (first | (with_reducible first | exact HB.out | apply below_alloc | apply pw_below_drewN | apply below_drew1) | exact HB.out)⟩⟩
        case round =>
          clear H'
          try clear c1
          try clear p2
          try clear c5
          try clear c7
          try clear p2
          obtain ⟨x7_2, x8_2, rfl, rfl, HA, HK2, HO_5, HO_6, HB⟩ := hrel
          cases gk with
          | zero => exact absurd HA.out (by simp [silkwormlaw01_LogicRows.l0])
          | succ k2 =>
            have H := HA.out
            clear HA
            simp only [silkwormlaw01_LogicRows.l0] at H
            by_cases c14 : x8_2 < 3
            · rw [if_pos c14] at H
              have c14b0 : decide (x8_2 < 3) = true := decide_eq_true c14
              clear c14
              by_cases c15 : 0 ≤ x8_2
              · rw [if_pos c15] at H
                have c15b0 : decide (0 ≤ x8_2) = true := decide_eq_true c15
                clear c15
                by_cases c16 : x8_2 < (y300.length : Int)
                · rw [if_pos c16] at H
                  have c16b0 : decide (x8_2 < (y300.length : Int)) = true := decide_eq_true c16
                  clear c16
                  replace H := Option.bind_eq_some_iff.mp H
                  obtain ⟨⟨t309, t310⟩, A170, H⟩ := H
                  replace H : (if x8_2 < (y303.length : Int) then ((logic_Binary.f k2 (rd y303 x8_2) a0 a1).bind fun bt312 => (if t310 = 0 then (if bt312.2 = 0 then (if a0.size + a1.size ≤ 9223372036854775807 then ((silkwormref01_Known.f k2 (a0 ++ a1)).bind fun t314 => (if t314 = true then ((silkwormref01_Known.f k2 (a0 ++ a1)).bind fun t315 => (if t315 = true then (silkwormlaw01_LogicRows.j2 k2 a0 a1 y300 y303 x7_2 x8_2 t309 (t309.toList == bt312.1.toList)) else (silkwormlaw01_LogicRows.j2 k2 a0 a1 y300 y303 x7_2 x8_2 t309 false))) else (if t309.toList = ([120] : List UInt8) then (if bt312.1.toList = ([120] : List UInt8) then ((silkwormref01_Known.f k2 (a0 ++ a1)).bind fun t316 => (if t316 = true then (silkwormlaw01_LogicRows.j2 k2 a0 a1 y300 y303 x7_2 x8_2 t309 (t309.toList == bt312.1.toList)) else (silkwormlaw01_LogicRows.j2 k2 a0 a1 y300 y303 x7_2 x8_2 t309 false))) else (silkwormlaw01_LogicRows.j2 k2 a0 a1 y300 y303 x7_2 x8_2 t309 true)) else (silkwormlaw01_LogicRows.j2 k2 a0 a1 y300 y303 x7_2 x8_2 t309 true)))) else (none)) else (silkwormlaw01_LogicRows.j2 k2 a0 a1 y300 y303 x7_2 x8_2 t309 true)) else (silkwormlaw01_LogicRows.j2 k2 a0 a1 y300 y303 x7_2 x8_2 t309 true))) else (none)) = some r := H
                  have A17 := Aside0.mk A170
                  clear A170
                  by_cases c18 : x8_2 < (y303.length : Int)
                  · rw [if_pos c18] at H
                    have c18b0 : decide (x8_2 < (y303.length : Int)) = true := decide_eq_true c18
                    clear c18
                    replace H := Option.bind_eq_some_iff.mp H
                    obtain ⟨⟨t312, t313⟩, A190, H⟩ := H
                    replace H : (if t310 = 0 then (if t313 = 0 then (if a0.size + a1.size ≤ 9223372036854775807 then ((silkwormref01_Known.f k2 (a0 ++ a1)).bind fun t314 => (if t314 = true then ((silkwormref01_Known.f k2 (a0 ++ a1)).bind fun t315 => (if t315 = true then (silkwormlaw01_LogicRows.j2 k2 a0 a1 y300 y303 x7_2 x8_2 t309 (t309.toList == t312.toList)) else (silkwormlaw01_LogicRows.j2 k2 a0 a1 y300 y303 x7_2 x8_2 t309 false))) else (if t309.toList = ([120] : List UInt8) then (if t312.toList = ([120] : List UInt8) then ((silkwormref01_Known.f k2 (a0 ++ a1)).bind fun t316 => (if t316 = true then (silkwormlaw01_LogicRows.j2 k2 a0 a1 y300 y303 x7_2 x8_2 t309 (t309.toList == t312.toList)) else (silkwormlaw01_LogicRows.j2 k2 a0 a1 y300 y303 x7_2 x8_2 t309 false))) else (silkwormlaw01_LogicRows.j2 k2 a0 a1 y300 y303 x7_2 x8_2 t309 true)) else (silkwormlaw01_LogicRows.j2 k2 a0 a1 y300 y303 x7_2 x8_2 t309 true)))) else (none)) else (silkwormlaw01_LogicRows.j2 k2 a0 a1 y300 y303 x7_2 x8_2 t309 true)) else (silkwormlaw01_LogicRows.j2 k2 a0 a1 y300 y303 x7_2 x8_2 t309 true)) = some r := H
                    have A19 := Aside0.mk A190
                    clear A190
                    have HC20 := Aside0.mk H
                    clear H
                    obtain ⟨Ao21, co21, eo21⟩ := Kd.R_slice HO_5.out
                    subst eo21
                    have p308 : 0 ≤ (x8_2 : Int) := of_decide_eq_true (by first | (with_reducible assumption) | assumption)
                    have q308 : x8_2 < (y300.length : Int) := of_decide_eq_true (by first | (with_reducible assumption) | assumption)
                    obtain ⟨ad308, e308, hx308_0⟩ := Kd.at_int (Kd.R_reads' HO_5.out).2.2 x8_2 p308 q308
                    cases e308
                    replace p308 := eq_true p308
                    replace q308 := eq_true q308
                    go_upto_region 11 with (first | ((with_reducible refine gate_callee (f := 16) rfl ?_); refine goesL_ (some 35) rfl rfl Tryd.func16 (by kernel_rfl) rfl #[.int .i64 (rd y300 x8_2), .string a0, .string a1] rfl (by (try simp only [List.map_toArray, List.map_cons, List.map_nil]); first | done | rfl | (simp only [List.length_drop, List.length_take]; rfl)) ?_; (with_reducible refine (logic_Binary.calls k2 (rd y300 x8_2) a0 a1 t309 t310 _ A17.out).mono ?_); rintro e w22 ⟨rfl, hb⟩; refine ⟨_, rfl, ?_⟩; have n0_ := Aside0.mk (Kd.R_below (by (with_reducible repeat (first | apply Kd.R_alloc | apply Kd.R_drewN | apply Kd.R_drew)); exact HO_5.out) hb); have n1_ := Aside0.mk (Kd.R_below (by (with_reducible repeat (first | apply Kd.R_alloc | apply Kd.R_drewN | apply Kd.R_drew)); exact HO_6.out) hb); have n2_ := Aside0.mk (below_step (by repeat (first | (with_reducible first | exact HB.out | apply below_alloc | apply pw_below_drewN | apply below_drew1) | exact HB.out)) hb); clear HO_5; clear HO_6; clear HB; have HO_5 := n0_; have HO_6 := n1_; have HB := n2_; clear n0_ n1_ n2_; (try clear hb); (try clear hb2); (try clear hk); (try clear hi); obtain ⟨Ao23, co23, eo23⟩ := Kd.R_slice HO_6.out; subst eo23; have p311 : 0 ≤ (x8_2 : Int) := of_decide_eq_true (by first | (with_reducible assumption) | assumption); have q311 : x8_2 < (y303.length : Int) := of_decide_eq_true (by first | (with_reducible assumption) | assumption); obtain ⟨ad311, e311, hx311_0⟩ := Kd.at_int (Kd.R_reads' HO_6.out).2.2 x8_2 p311 q311; cases e311; replace p311 := eq_true p311; replace q311 := eq_true q311) | ((with_reducible refine gate_callee (f := 16) rfl ?_); refine goesL_ (some 45) rfl rfl Tryd.func16 (by kernel_rfl) rfl #[.int .i64 (rd y303 x8_2), .string a0, .string a1] rfl (by (try simp only [List.map_toArray, List.map_cons, List.map_nil]); first | done | rfl | (simp only [List.length_drop, List.length_take]; rfl)) ?_; (with_reducible refine (logic_Binary.calls k2 (rd y303 x8_2) a0 a1 t312 t313 _ A19.out).mono ?_); rintro e w24 ⟨rfl, hb⟩; refine ⟨_, rfl, ?_⟩; have n0_ := Aside0.mk (Kd.R_below (by (with_reducible repeat (first | apply Kd.R_alloc | apply Kd.R_drewN | apply Kd.R_drew)); exact HO_5.out) hb); have n1_ := Aside0.mk (Kd.R_below (by (with_reducible repeat (first | apply Kd.R_alloc | apply Kd.R_drewN | apply Kd.R_drew)); exact HO_6.out) hb); have n2_ := Aside0.mk (below_step (by repeat (first | (with_reducible first | exact HB.out | apply below_alloc | apply pw_below_drewN | apply below_drew1) | exact HB.out)) hb); clear HO_5; clear HO_6; clear HB; have HO_5 := n0_; have HO_6 := n1_; have HB := n2_; clear n0_ n1_ n2_; (try clear hb); (try clear hb2); (try clear hk); (try clear hi)))
                    (try simp only [Act.put, List.setIfInBounds_toArray, List.set_cons_zero, List.set_cons_succ])
                    go_cut [79] (fun v79 wc => ∃ (kq : Nat) (x79_19 : Bool), v79 = .bool x79_19 ∧ Aside0 (silkwormlaw01_LogicRows.j2 kq a0 a1 y300 y303 x7_2 x8_2 t309 x79_19 = some r) ∧ Aside0 (kq ≤ k2) ∧ Aside0 (Kd.R (Kd.int .i64) 3 wc w.heap.size (fun k_ => some k_ ≠ ((.slice (some ad311) y303.length co23) : Value).ownBlock) (.slice (some ad308) y300.length co21) y300) ∧ Aside0 (Kd.R (Kd.int .i64) 3 wc w.heap.size (fun k_ => some k_ ≠ ((.slice (some ad308) y300.length co21) : Value).ownBlock) (.slice (some ad311) y303.length co23) y303) ∧ Aside0 (Below w.heap.size w wc))
                    case first =>
                      have H := HC20.out
                      clear HC20
                      by_cases c25 : t310 = 0
                      · rw [if_pos c25] at H
                        have c25b0 : (t310 == 0) = true := beq_iff_eq.mpr c25
                        have c25b1 : (t310 != 0) = false := bne_eq_false_iff_eq.mpr c25
                        clear c25
                        (first | rw [c25b0] | (simp only [i64_w, i32_w]; rw [c25b0]) | skip)
                        by_cases c26 : t313 = 0
                        · rw [if_pos c26] at H
                          have c26b0 : (t313 == 0) = true := beq_iff_eq.mpr c26
                          have c26b1 : (t313 != 0) = false := bne_eq_false_iff_eq.mpr c26
                          clear c26
                          by_cases c27 : a0.size + a1.size ≤ 9223372036854775807
                          · rw [if_pos c27] at H
                            have c27b0 := eq_true c27
                            have c27b1 : decide (a0.size + a1.size ≤ 9223372036854775807) = true := decide_eq_true c27
                            try have c27b2 : (9223372036854775807 < a0.size + a1.size) = False := eq_false (Nat.not_lt.2 c27)
                            replace H := Option.bind_eq_some_iff.mp H
                            obtain ⟨t314, A280, H⟩ := H
                            replace H : (if t314 = true then ((silkwormref01_Known.f k2 (a0 ++ a1)).bind fun t315 => (if t315 = true then (silkwormlaw01_LogicRows.j2 k2 a0 a1 y300 y303 x7_2 x8_2 t309 (t309.toList == t312.toList)) else (silkwormlaw01_LogicRows.j2 k2 a0 a1 y300 y303 x7_2 x8_2 t309 false))) else (if t309.toList = ([120] : List UInt8) then (if t312.toList = ([120] : List UInt8) then ((silkwormref01_Known.f k2 (a0 ++ a1)).bind fun t316 => (if t316 = true then (silkwormlaw01_LogicRows.j2 k2 a0 a1 y300 y303 x7_2 x8_2 t309 (t309.toList == t312.toList)) else (silkwormlaw01_LogicRows.j2 k2 a0 a1 y300 y303 x7_2 x8_2 t309 false))) else (silkwormlaw01_LogicRows.j2 k2 a0 a1 y300 y303 x7_2 x8_2 t309 true)) else (silkwormlaw01_LogicRows.j2 k2 a0 a1 y300 y303 x7_2 x8_2 t309 true))) = some r := H
                            have A28 := Aside0.mk A280
                            clear A280
                            by_cases c29 : t314 = true
                            · subst c29
                              have H1 : ((silkwormref01_Known.f k2 (a0 ++ a1)).bind fun t315 => (if t315 = true then (silkwormlaw01_LogicRows.j2 k2 a0 a1 y300 y303 x7_2 x8_2 t309 (t309.toList == t312.toList)) else (silkwormlaw01_LogicRows.j2 k2 a0 a1 y300 y303 x7_2 x8_2 t309 false))) = some r := by rw [if_pos rfl] at H; exact H
                              clear H
                              have H := H1
                              clear H1
                              replace H := Option.bind_eq_some_iff.mp H
                              obtain ⟨t315, A300, H⟩ := H
                              replace H : (if t315 = true then (silkwormlaw01_LogicRows.j2 k2 a0 a1 y300 y303 x7_2 x8_2 t309 (t309.toList == t312.toList)) else (silkwormlaw01_LogicRows.j2 k2 a0 a1 y300 y303 x7_2 x8_2 t309 false)) = some r := H
                              have A30 := Aside0.mk A300
                              clear A300
                              by_cases c31 : t315 = true
                              · subst c31
                                have H1 : (silkwormlaw01_LogicRows.j2 k2 a0 a1 y300 y303 x7_2 x8_2 t309 (t309.toList == t312.toList)) = some r := by rw [if_pos rfl] at H; exact H
                                clear H
                                have H := H1
                                clear H1
                                have H' := Aside0.mk H
                                clear H
                                go_wp2_with (first | (go_at_call 22; (with_reducible refine (silkwormref01_Known.calls k2 (a0 ++ a1) true _ A28.out).mono ?_); rintro e w' ⟨rfl, ⟨nd, rfl⟩⟩) | (go_at_call 22; (with_reducible refine (silkwormref01_Known.calls k2 (a0 ++ a1) true _ A30.out).mono ?_); rintro e w' ⟨rfl, ⟨nd, rfl⟩⟩))
                                go_meet
                                case rel => exact ⟨_, ((t309.toList == t312.toList)), (by first | rfl | (simp; done) | (simp [*]; done)), H', ⟨by have := HJ2.out; have := HK2.out; first | omega | exact Nat.le_refl _⟩, ⟨by (with_reducible repeat (first | apply Kd.R_alloc | apply Kd.R_drewN | apply Kd.R_drew)); exact HO_5.out⟩, ⟨by (with_reducible repeat (first | apply Kd.R_alloc | apply Kd.R_drewN | apply Kd.R_drew)); exact HO_6.out⟩, ⟨by repeat (first | (with_reducible first | exact HB.out | apply below_alloc | apply pw_below_drewN | apply below_drew1) | exact HB.out)⟩⟩
                              · replace c31 := Bool.eq_false_iff.mpr c31
                                subst c31
                                have H1 : (silkwormlaw01_LogicRows.j2 k2 a0 a1 y300 y303 x7_2 x8_2 t309 false) = some r := by rw [if_neg (show ¬ (false = true) by decide)] at H; exact H
                                clear H
                                have H := H1
                                clear H1
                                have H' := Aside0.mk H
                                clear H
                                exact absurd (A28.out.symm.trans A30.out) (by simp)
                            · replace c29 := Bool.eq_false_iff.mpr c29
                              subst c29
                              have H1 : (if t309.toList = ([120] : List UInt8) then (if t312.toList = ([120] : List UInt8) then ((silkwormref01_Known.f k2 (a0 ++ a1)).bind fun t316 => (if t316 = true then (silkwormlaw01_LogicRows.j2 k2 a0 a1 y300 y303 x7_2 x8_2 t309 (t309.toList == t312.toList)) else (silkwormlaw01_LogicRows.j2 k2 a0 a1 y300 y303 x7_2 x8_2 t309 false))) else (silkwormlaw01_LogicRows.j2 k2 a0 a1 y300 y303 x7_2 x8_2 t309 true)) else (silkwormlaw01_LogicRows.j2 k2 a0 a1 y300 y303 x7_2 x8_2 t309 true)) = some r := by rw [if_neg (show ¬ (false = true) by decide)] at H; exact H
                              clear H
                              have H := H1
                              clear H1
                              by_cases c32 : t309.toList = ([120] : List UInt8)
                              · rw [if_pos c32] at H
                                have c32b0 : (t309.toList == ([120] : List UInt8)) = true := beq_iff_eq.mpr c32
                                have c32b1 : (t309.toList != ([120] : List UInt8)) = false := bne_eq_false_iff_eq.mpr c32
                                clear c32
                                by_cases c33 : t312.toList = ([120] : List UInt8)
                                · rw [if_pos c33] at H
                                  have c33b0 : (t312.toList == ([120] : List UInt8)) = true := beq_iff_eq.mpr c33
                                  have c33b1 : (t312.toList != ([120] : List UInt8)) = false := bne_eq_false_iff_eq.mpr c33
                                  clear c33
                                  replace H := Option.bind_eq_some_iff.mp H
                                  obtain ⟨t316, A340, H⟩ := H
                                  replace H : (if t316 = true then (silkwormlaw01_LogicRows.j2 k2 a0 a1 y300 y303 x7_2 x8_2 t309 (t309.toList == t312.toList)) else (silkwormlaw01_LogicRows.j2 k2 a0 a1 y300 y303 x7_2 x8_2 t309 false)) = some r := H
                                  have A34 := Aside0.mk A340
                                  clear A340
                                  by_cases c35 : t316 = true
                                  · subst c35
                                    have H1 : (silkwormlaw01_LogicRows.j2 k2 a0 a1 y300 y303 x7_2 x8_2 t309 (t309.toList == t312.toList)) = some r := by rw [if_pos rfl] at H; exact H
                                    clear H
                                    have H := H1
                                    clear H1
                                    have H' := Aside0.mk H
                                    clear H
                                    exact absurd (A28.out.symm.trans A34.out) (by simp)
                                  · replace c35 := Bool.eq_false_iff.mpr c35
                                    subst c35
                                    have H1 : (silkwormlaw01_LogicRows.j2 k2 a0 a1 y300 y303 x7_2 x8_2 t309 false) = some r := by rw [if_neg (show ¬ (false = true) by decide)] at H; exact H
                                    clear H
                                    have H := H1
                                    clear H1
                                    have H' := Aside0.mk H
                                    clear H
                                    go_wp2_with (first | (go_at_call 22; (with_reducible refine (silkwormref01_Known.calls k2 (a0 ++ a1) false _ A28.out).mono ?_); rintro e w' ⟨rfl, ⟨nd, rfl⟩⟩) | (go_at_call 22; (with_reducible refine (silkwormref01_Known.calls k2 (a0 ++ a1) false _ A34.out).mono ?_); rintro e w' ⟨rfl, ⟨nd, rfl⟩⟩))
                                    go_meet
                                    case rel => exact ⟨_, (false), (by first | rfl | (simp; done) | (simp [*]; done)), H', ⟨by have := HJ2.out; have := HK2.out; first | omega | exact Nat.le_refl _⟩, ⟨by (with_reducible repeat (first | apply Kd.R_alloc | apply Kd.R_drewN | apply Kd.R_drew)); exact HO_5.out⟩, ⟨by (with_reducible repeat (first | apply Kd.R_alloc | apply Kd.R_drewN | apply Kd.R_drew)); exact HO_6.out⟩, ⟨by repeat (first | (with_reducible first | exact HB.out | apply below_alloc | apply pw_below_drewN | apply below_drew1) | exact HB.out)⟩⟩
                                · rw [if_neg c33] at H
                                  have c33b0 : (t312.toList == ([120] : List UInt8)) = false := beq_eq_false_iff_ne.mpr c33
                                  have c33b1 : (t312.toList != ([120] : List UInt8)) = true := bne_iff_ne.mpr c33
                                  have H' := Aside0.mk H
                                  clear H
                                  go_wp2_with (first | (go_at_call 22; (with_reducible refine (silkwormref01_Known.calls k2 (a0 ++ a1) false _ A28.out).mono ?_); rintro e w' ⟨rfl, ⟨nd, rfl⟩⟩))
                                  go_meet
                                  case rel => exact ⟨_, (true), (by first | rfl | (simp; done) | (simp [*]; done)), H', ⟨by have := HJ2.out; have := HK2.out; first | omega | exact Nat.le_refl _⟩, ⟨by (with_reducible repeat (first | apply Kd.R_alloc | apply Kd.R_drewN | apply Kd.R_drew)); exact HO_5.out⟩, ⟨by (with_reducible repeat (first | apply Kd.R_alloc | apply Kd.R_drewN | apply Kd.R_drew)); exact HO_6.out⟩, ⟨by repeat (first | (with_reducible first | exact HB.out | apply below_alloc | apply pw_below_drewN | apply below_drew1) | exact HB.out)⟩⟩
                              · rw [if_neg c32] at H
                                have c32b0 : (t309.toList == ([120] : List UInt8)) = false := beq_eq_false_iff_ne.mpr c32
                                have c32b1 : (t309.toList != ([120] : List UInt8)) = true := bne_iff_ne.mpr c32
                                have H' := Aside0.mk H
                                clear H
                                go_wp2_with (first | (go_at_call 22; (with_reducible refine (silkwormref01_Known.calls k2 (a0 ++ a1) false _ A28.out).mono ?_); rintro e w' ⟨rfl, ⟨nd, rfl⟩⟩))
                                go_meet
                                case rel => exact ⟨_, (true), (by first | rfl | (simp; done) | (simp [*]; done)), H', ⟨by have := HJ2.out; have := HK2.out; first | omega | exact Nat.le_refl _⟩, ⟨by (with_reducible repeat (first | apply Kd.R_alloc | apply Kd.R_drewN | apply Kd.R_drew)); exact HO_5.out⟩, ⟨by (with_reducible repeat (first | apply Kd.R_alloc | apply Kd.R_drewN | apply Kd.R_drew)); exact HO_6.out⟩, ⟨by repeat (first | (with_reducible first | exact HB.out | apply below_alloc | apply pw_below_drewN | apply below_drew1) | exact HB.out)⟩⟩
                          · rw [if_neg c27] at H
                            exact absurd H (by simp)
                        · rw [if_neg c26] at H
                          have c26b0 : (t313 == 0) = false := beq_eq_false_iff_ne.mpr c26
                          have c26b1 : (t313 != 0) = true := bne_iff_ne.mpr c26
                          have H' := Aside0.mk H
                          clear H
                          go_wp2
                          go_meet
                          case rel => exact ⟨_, (true), (by first | rfl | (simp; done) | (simp [*]; done)), H', ⟨by have := HJ2.out; have := HK2.out; first | omega | exact Nat.le_refl _⟩, ⟨by (with_reducible repeat (first | apply Kd.R_alloc | apply Kd.R_drewN | apply Kd.R_drew)); exact HO_5.out⟩, ⟨by (with_reducible repeat (first | apply Kd.R_alloc | apply Kd.R_drewN | apply Kd.R_drew)); exact HO_6.out⟩, ⟨by repeat (first | (with_reducible first | exact HB.out | apply below_alloc | apply pw_below_drewN | apply below_drew1) | exact HB.out)⟩⟩
                      · rw [if_neg c25] at H
                        have c25b0 : (t310 == 0) = false := beq_eq_false_iff_ne.mpr c25
                        have c25b1 : (t310 != 0) = true := bne_iff_ne.mpr c25
                        (first | rw [c25b0] | (simp only [i64_w, i32_w]; rw [c25b0]) | skip)
                        have H' := Aside0.mk H
                        clear H
                        go_wp2
                        go_meet
                        case rel => exact ⟨_, (true), (by first | rfl | (simp; done) | (simp [*]; done)), H', ⟨by have := HJ2.out; have := HK2.out; first | omega | exact Nat.le_refl _⟩, ⟨by (with_reducible repeat (first | apply Kd.R_alloc | apply Kd.R_drewN | apply Kd.R_drew)); exact HO_5.out⟩, ⟨by (with_reducible repeat (first | apply Kd.R_alloc | apply Kd.R_drewN | apply Kd.R_drew)); exact HO_6.out⟩, ⟨by repeat (first | (with_reducible first | exact HB.out | apply below_alloc | apply pw_below_drewN | apply below_drew1) | exact HB.out)⟩⟩
                    case rest =>
                      clear HC20
                      try clear c1
                      try clear c2
                      try clear p2
                      try clear c3
                      try clear p3
                      try clear q3
                      try clear hx3
                      try clear c5
                      try clear c7
                      try clear c14
                      try clear c14b0
                      try clear c15
                      try clear c15b0
                      try clear c16
                      try clear c16b0
                      try clear c17
                      try clear c18
                      try clear c18b0
                      try clear c19
                      try clear c25
                      try clear c25b0
                      try clear c25b1
                      try clear c26
                      try clear c26b0
                      try clear c26b1
                      try clear c27
                      try clear c27b0
                      try clear c27b1
                      try clear c27b2
                      try clear c29
                      try clear p30
                      try clear q30
                      try clear hx30
                      try clear c31
                      try clear p31
                      try clear q31
                      try clear hx31
                      try clear c32
                      try clear c32b0
                      try clear c32b1
                      try clear c33
                      try clear c33b0
                      try clear c33b1
                      try clear c35
                      try clear hx308_0
                      try clear hx311_0
                      try clear p2
                      try clear p308
                      try clear p311
                      try clear q308
                      try clear q311
                      obtain ⟨kq, x79_19, rfl, HA, HJ19, HO_5, HO_6, HB⟩ := hcut
                      cases kq with
                      | zero => exact absurd HA.out (by simp [silkwormlaw01_LogicRows.j2])
                      | succ kj19 =>
                        have H := HA.out
                        clear HA
                        simp only [silkwormlaw01_LogicRows.j2] at H
                        by_cases c36 : x79_19 = true
                        · subst c36
                          have H1 : (some false) = some r := by rw [if_pos rfl] at H; exact H
                          clear H
                          have H := H1
                          clear H1
                          obtain rfl := Option.some.inj H
                          go_wp2
                          go_ret
                          exact ⟨by first | rfl | (simp [errW_none, errW_some] <;> rfl) | (simp [*, errW_none, errW_some] <;> rfl), by repeat (first | (with_reducible first | exact HB.out | apply below_alloc | apply pw_below_drewN | apply below_drew1) | exact HB.out)⟩
                        · replace c36 := Bool.eq_false_iff.mpr c36
                          subst c36
                          have H1 : (if t309.toList = ([49] : List UInt8) then (silkwormlaw01_LogicRows.l0 kj19 a0 a1 y300 y303 (wrap64 (x7_2 + 1)) (wrap64 (x8_2 + 1))) else (silkwormlaw01_LogicRows.l0 kj19 a0 a1 y300 y303 x7_2 (wrap64 (x8_2 + 1)))) = some r := by rw [if_neg (show ¬ (false = true) by decide)] at H; exact H
                          clear H
                          have H := H1
                          clear H1
                          by_cases c37 : t309.toList = ([49] : List UInt8)
                          · rw [if_pos c37] at H
                            have c37b0 : (t309.toList == ([49] : List UInt8)) = true := beq_iff_eq.mpr c37
                            have c37b1 : (t309.toList != ([49] : List UInt8)) = false := bne_eq_false_iff_eq.mpr c37
                            clear c37
                            have H' := Aside0.mk H
                            clear H
                            go_wp2
                            go_roundg kj19
                            case measure => have := HJ2.out; have := HK2.out; have := HJ19.out; omega
                            case rel => exact ⟨(wrap64 (x7_2 + 1)), (wrap64 (x8_2 + 1)), (by first | rfl | (simp; done) | (simp [*]; done)), (by first | rfl | (simp; done) | (simp [*]; done)), H', ⟨by have := HJ2.out; have := HK2.out; have := HJ19.out; omega⟩, ⟨by (with_reducible repeat (first | apply Kd.R_alloc | apply Kd.R_drewN | apply Kd.R_drew)); exact HO_5.out⟩, ⟨by (with_reducible repeat (first | apply Kd.R_alloc | apply Kd.R_drewN | apply Kd.R_drew)); exact HO_6.out⟩, ⟨by repeat (first | (with_reducible first | exact HB.out | apply below_alloc | apply pw_below_drewN | apply below_drew1) | exact HB.out)⟩⟩
                          · rw [if_neg c37] at H
                            have c37b0 : (t309.toList == ([49] : List UInt8)) = false := beq_eq_false_iff_ne.mpr c37
                            have c37b1 : (t309.toList != ([49] : List UInt8)) = true := bne_iff_ne.mpr c37
                            have H' := Aside0.mk H
                            clear H
                            go_wp2
                            go_roundg kj19
                            case measure => have := HJ2.out; have := HK2.out; have := HJ19.out; omega
                            case rel => exact ⟨(x7_2), (wrap64 (x8_2 + 1)), (by first | rfl | (simp; done) | (simp [*]; done)), (by first | rfl | (simp; done) | (simp [*]; done)), H', ⟨by have := HJ2.out; have := HK2.out; have := HJ19.out; omega⟩, ⟨by (with_reducible repeat (first | apply Kd.R_alloc | apply Kd.R_drewN | apply Kd.R_drew)); exact HO_5.out⟩, ⟨by (with_reducible repeat (first | apply Kd.R_alloc | apply Kd.R_drewN | apply Kd.R_drew)); exact HO_6.out⟩, ⟨by repeat (first | (with_reducible first | exact HB.out | apply below_alloc | apply pw_below_drewN | apply below_drew1) | exact HB.out)⟩⟩
                  · rw [if_neg c18] at H
                    exact absurd H (by simp)
                · rw [if_neg c16] at H
                  exact absurd H (by simp)
              · rw [if_neg c15] at H
                exact absurd H (by simp)
            · rw [if_neg c14] at H
              have c14b0 : decide (x8_2 < 3) = false := decide_eq_false c14
              clear c14
              by_cases c38 : a0.size + a1.size ≤ 9223372036854775807
              · rw [if_pos c38] at H
                have c38b0 := eq_true c38
                have c38b1 : decide (a0.size + a1.size ≤ 9223372036854775807) = true := decide_eq_true c38
                try have c38b2 : (9223372036854775807 < a0.size + a1.size) = False := eq_false (Nat.not_lt.2 c38)
                replace H := Option.bind_eq_some_iff.mp H
                obtain ⟨t306, A390, H⟩ := H
                replace H : (if ((x7_2 == 1) == t306) = true then ((silkwormlaw01_awake.f k2).bind fun t307 => (some t307)) else (some false)) = some r := H
                have A39 := Aside0.mk A390
                clear A390
                by_cases c40 : ((x7_2 == 1) == t306) = true
                · rw [if_pos c40] at H
                  have c40b0 : ((x7_2 == 1) == t306) = true := c40
                  (try (have c40b1 : decide ((x7_2 == 1) = t306) = true := by simpa using c40))
                  (try (have c40b2 : ((x7_2 == 1) == t306) = true := by simpa using c40))
                  clear c40
                  replace H := Option.bind_eq_some_iff.mp H
                  obtain ⟨t307, A410, H⟩ := H
                  replace H : (some t307) = some r := H
                  have A41 := Aside0.mk A410
                  clear A410
                  obtain rfl := Option.some.inj H
                  go_wp2_with (first | ((with_reducible refine gate_callee (f := 22) rfl ?_); refine goesL_ (some 89) rfl rfl Tryd.func22 (by kernel_rfl) rfl #[.string (a0 ++ a1)] rfl (by (try simp only [List.map_toArray, List.map_cons, List.map_nil]); first | done | rfl | (simp only [List.length_drop, List.length_take]; rfl)) ?_; (with_reducible refine (silkwormref01_Known.calls k2 (a0 ++ a1) t306 _ A39.out).mono ?_); rintro e w' ⟨rfl, ⟨nd, rfl⟩⟩; refine ⟨_, rfl, ?_⟩) | (go_at_call 19; (with_reducible refine (silkwormlaw01_awake.calls k2  t307 _ A41.out).mono ?_); rintro e w42 ⟨rfl, hb⟩; have n0_ := Aside0.mk (Kd.R_below (by (with_reducible repeat (first | apply Kd.R_alloc | apply Kd.R_drewN | apply Kd.R_drew)); exact HO_5.out) hb); have n1_ := Aside0.mk (Kd.R_below (by (with_reducible repeat (first | apply Kd.R_alloc | apply Kd.R_drewN | apply Kd.R_drew)); exact HO_6.out) hb); have n2_ := Aside0.mk (below_step (by repeat (first | (with_reducible first | exact HB.out | apply below_alloc | apply pw_below_drewN | apply below_drew1) | exact HB.out)) hb); clear HO_5; clear HO_6; clear HB; have HO_5 := n0_; have HO_6 := n1_; have HB := n2_; clear n0_ n1_ n2_; (try clear hb); (try clear hb2); (try clear hk); (try clear hi)))
                  go_ret
                  exact ⟨by first | rfl | (simp [errW_none, errW_some] <;> rfl) | (simp [*, errW_none, errW_some] <;> rfl), by repeat (first | (with_reducible first | exact HB.out | apply below_alloc | apply pw_below_drewN | apply below_drew1) | exact HB.out)⟩
                · rw [if_neg c40] at H
                  have c40b0 : ((x7_2 == 1) == t306) = false := by simpa using c40
                  (try (have c40b1 : decide ((x7_2 == 1) = t306) = false := by simpa using c40))
                  (try (have c40b2 : ((x7_2 == 1) == t306) = false := by simpa using c40))
                  (try (have c40b3 : ¬ ((x7_2 == 1) = t306) := by simpa using c40))
                  clear c40
                  obtain rfl := Option.some.inj H
                  go_wp2_with (first | ((with_reducible refine gate_callee (f := 22) rfl ?_); refine goesL_ (some 89) rfl rfl Tryd.func22 (by kernel_rfl) rfl #[.string (a0 ++ a1)] rfl (by (try simp only [List.map_toArray, List.map_cons, List.map_nil]); first | done | rfl | (simp only [List.length_drop, List.length_take]; rfl)) ?_; (with_reducible refine (silkwormref01_Known.calls k2 (a0 ++ a1) t306 _ A39.out).mono ?_); rintro e w' ⟨rfl, ⟨nd, rfl⟩⟩; refine ⟨_, rfl, ?_⟩))
                  go_ret
                  exact ⟨by first | rfl | (simp [errW_none, errW_some] <;> rfl) | (simp [*, errW_none, errW_some] <;> rfl), by repeat (first | (with_reducible first | exact HB.out | apply below_alloc | apply pw_below_drewN | apply below_drew1) | exact HB.out)⟩
              · rw [if_neg c38] at H
                exact absurd H (by simp)

/-- THE ONE PURE STATEMENT of silkwormlaw01_LogicRows: yours. -/
def silkwormlaw01_LogicRows.Pure : Prop := ∀ (a0 : ByteArray) (a1 : ByteArray), a0.size ≤ 140737488351232 → a1.size ≤ 140737488351232 → ∃ k, silkwormlaw01_LogicRows.f k a0 a1 = some true
theorem silkwormlaw01_LogicRows.walk (P : silkwormlaw01_LogicRows.Pure) (a0 : ByteArray) (a1 : ByteArray) (w : World) (w0 : a0.size ≤ 140737488351232) (w1 : a1.size ≤ 140737488351232) :
    Calls Tryd.prog 5 #[.string a0, .string a1] w fun e w' => e = .returned (.bool true) ∧ Below w.heap.size w w' := by
  obtain ⟨k, h⟩ := P a0 a1 w0 w1
  refine (silkwormlaw01_LogicRows.calls k a0 a1 true w h).mono ?_
  rintro e w' ⟨rfl, hd⟩
  exact ⟨rfl, hd⟩

end Go.Proofs.YtblhfodkbjdeoaaDoor.PLg
