/- What the reference's Of answers. -/
import Derived.Test.YtblhfodkbjdeoaaDoorPureT
import Derived.Test.YtblhfodkbjdeoaaDoorPLgx16
namespace Go.Proofs.YtblhfodkbjdeoaaDoor.PureL
open Go.RowKit Go.Proofs.YtblhfodkbjdeoaaDoorW.PrintWords Go.Proofs.YtblhfodkbjdeoaaDoorW.PrintLast Go.Proofs.YtblhfodkbjdeoaaDoorW.PrintMore Go.Proofs.YtblhfodkbjdeoaaDoor.Vec Go.Proofs.YtblhfodkbjdeoaaDoor.PLg
set_option linter.unusedVariables false

theorem ev_Of (n : Int) (w : Nat) (h0 : 0 ≤ n) (hn : n ≤ 9223372036854775807) (hw : w ≤ 65536) : Ev (fun k => silkwormref01_Of.f k n (w : Int)) (strOfNums (ofL w n)) := by
  unfold silkwormref01_Of.f
  refine ev_pos (by omega) (ev_pos (by omega) ?_)
  rw [w64_in (by omega) (by omega), Int.toNat_natCast]
  have key := fill_down w (fun n : Int => 0 ≤ n ∧ n ≤ 9223372036854775807) (fun k n xs i => silkwormref01_Of.l0 k n xs i) (fun _ n => 48 + n % 2) (fun _ n => n / 2) strOfNums
    (fun i n hi hn => by omega)
    (fun k n xs i hi hn hx => by
      simp only [silkwormref01_Of.l0]
      rw [if_pos (by omega), if_pos (by omega), if_pos (by omega), Int.tdiv_eq_ediv_of_nonneg hn.1, Int.tmod_eq_emod_of_nonneg hn.1, w64_in (x := n / 2) (by omega) (by omega), w64_in (x := 48 + n % 2) (by omega) (by omega), w64_in (by omega) (by omega)]
      congr 1
      rw [Int.toNat_natCast]
      congr 1
      omega)
    (fun k n xs hx => by
      simp only [silkwormref01_Of.l0]
      rw [if_neg (by omega)]) (fun i n => ofL i n) (fun n => rfl) (fun i n hi hn => rfl) w n (List.replicate w 0) (Nat.le_refl _) ⟨h0, hn⟩ (by simp)
  refine ev_congr key ?_
  rw [List.drop_of_length_le (by simp), List.append_nil]

end Go.Proofs.YtblhfodkbjdeoaaDoor.PureL
