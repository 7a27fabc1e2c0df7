/- What the reference's Cond answers. -/
import Derived.Test.YtblhfodkbjdeoaaDoorPureR
import Derived.Test.YtblhfodkbjdeoaaDoorPLgx11
namespace Go.Proofs.YtblhfodkbjdeoaaDoor.PureL
open Go.RowKit Go.Proofs.YtblhfodkbjdeoaaDoorW.PrintWords Go.Proofs.YtblhfodkbjdeoaaDoorW.PrintLast Go.Proofs.YtblhfodkbjdeoaaDoorW.PrintMore Go.Proofs.YtblhfodkbjdeoaaDoor.Vec Go.Proofs.YtblhfodkbjdeoaaDoor.PLg
set_option linter.unusedVariables false

/-! ### Cond -/
theorem ev_Cond (c a b : ByteArray) (sc : c.size ≤ 140737488355328) (sa : a.size ≤ 65536) (hl : a.size = b.size) : Ev (fun k => silkwormref01_Cond.f k c a b) (strOfNums (Vec.cond (V c) (V a) (V b))) := by
  unfold silkwormref01_Cond.f Vec.cond
  refine Ev.bind (ev_Truth c sc) ?_
  by_cases t1 : truth (V c) = 49
  · rw [if_pos t1]
    refine ev_pos t1 (ev_some fun _ => ?_)
    rw [str_bytesOf]
  rw [if_neg t1]
  refine ev_neg t1 ?_
  by_cases t2 : truth (V c) = 48
  · rw [if_pos t2]
    refine ev_pos t2 (ev_some fun _ => ?_)
    rw [str_bytesOf]
  rw [if_neg t2]
  refine ev_neg t2 (ev_pos (by omega) (ev_pos (by omega) ?_))
  have key := fill_up a.size (fun k xs i => silkwormref01_Cond.l0 k a b xs i) (fun _ i => some (condB ((V a).getD i 0) ((V b).getD i 0))) (fun i => condB ((V a).getD i 0) ((V b).getD i 0)) strOfNums (fun k xs i hi hx => by
    simp only [silkwormref01_Cond.l0]
    rw [if_pos (by omega), if_pos (by omega), if_pos (by omega), bt_V, bt_V, w64_in (x := (i : Int) + 1) (by omega) (by omega)]
    simp only [Option.bind_some, Int.toNat_natCast, List.set_set]
    rw [if_pos (by omega)]
    unfold condB
    by_cases h1 : (V a).getD i 0 = (V b).getD i 0
    · rw [if_pos h1]
      by_cases h2 : (V a).getD i 0 = 48
      · rw [if_pos h2, if_pos ⟨h1, .inl h2⟩]; rfl
      by_cases h3 : (V a).getD i 0 = 49
      · rw [if_neg h2, if_pos h3, if_pos ⟨h1, .inr h3⟩]; rfl
      rw [if_neg h2, if_neg h3, if_neg (fun h => by rcases h.2 with h | h; (· exact h2 h); exact h3 h)]; rfl
    · rw [if_neg h1, if_neg (fun h => h1 h.1)]; rfl) (fun i hi => ev_some fun _ => rfl) (fun k xs hx => by
    simp only [silkwormref01_Cond.l0]
    rw [if_neg (by omega)]) a.size 0 (List.replicate a.size 0) (by omega) (by simp)
  refine ev_congr key ?_
  rw [List.take_zero, List.nil_append]
  congr 1
  have := map_range'_zip condB (V a) (V b) (by rw [← size_len, ← size_len]; omega)
  rw [← size_len] at this
  exact this

end Go.Proofs.YtblhfodkbjdeoaaDoor.PureL
