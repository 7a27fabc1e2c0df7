/- The pure statement of the law LogicBinary. -/
import Derived.Test.YtblhfodkbjdeoaaDoorPureS
import Derived.Test.YtblhfodkbjdeoaaDoorPLgx10
namespace Go.Proofs.YtblhfodkbjdeoaaDoor.Pure
open Go.RowKit Go.Proofs.YtblhfodkbjdeoaaDoorW.PrintWords Go.Proofs.YtblhfodkbjdeoaaDoorW.PrintLast Go.Proofs.YtblhfodkbjdeoaaDoorW.PrintMore Go.Proofs.YtblhfodkbjdeoaaDoor.Vec Go.Proofs.YtblhfodkbjdeoaaDoor.PLg Go.Proofs.YtblhfodkbjdeoaaDoor.PureL
set_option linter.unusedVariables false

theorem LogicBinary : silkwormlaw01_LogicBinary.Pure := by
  intro op a b wo wa wb
  suffices h : Ev (fun k => silkwormlaw01_LogicBinary.f k op a b) true from h.rounds
  unfold silkwormlaw01_LogicBinary.f
  have eB := ev_binary op a b (by omega) (by omega)
  have zero : isVec ⟨#[48]⟩ = true := by decide +kernel
  have e0 := ev_Binary op ⟨#[48]⟩ ⟨#[48]⟩ zero zero
  refine Ev.bind eB (Ev.bind (ev_may a (by omega)) ?_)
  have bad : ¬ (isVec a = true ∧ isVec b = true) → Ev (fun k => silkwormlaw01_LogicBinary.j0 k op a b (binS op a b).1 (binS op a b).2 true) true := by
    intro hn
    refine Ev.step (fun k => silkwormlaw01_LogicBinary.j0.eq_2 _ _ _ _ _ _ k) (ev_pos rfl (Ev.bind e0 ?_))
    unfold binS BinS
    by_cases ho : op < 13 ∨ 27 < op
    · rw [if_pos ho, if_pos ho]
      exact ev_neg (by decide) (ev_pos nil_list (ev_pos rfl (ev_awake' rfl)))
    · rw [if_neg ho, if_neg ho, if_neg hn]
      exact ev_pos rfl (ev_pos nil_list (ev_pos rfl (ev_awake' rfl)))
  by_cases ha : isVec a = true
  · refine ev_pos ha (Ev.bind (ev_may b (by omega)) ?_)
    by_cases hb : isVec b = true
    · rw [hb]
      refine Ev.step (fun k => silkwormlaw01_LogicBinary.j0.eq_2 _ _ _ _ _ _ k) (ev_neg (by decide) (Ev.bind (ev_Binary op a b ha hb) ?_))
      unfold binS BinS
      by_cases ho : op < 13 ∨ 27 < op
      · rw [if_pos ho, if_pos ho]
        exact ev_neg (by decide) (ev_pos nil_list (ev_pos rfl (ev_awake' rfl)))
      · rw [if_neg ho, if_neg ho, if_pos ⟨ha, hb⟩]
        exact ev_pos rfl (ev_pos rfl (ev_pos rfl (ev_awake' rfl)))
    · rw [show (!isVec b) = true by simp [hb]]
      exact bad (fun h => hb h.2)
  · exact ev_neg ha (bad (fun h => ha h.1))
end Go.Proofs.YtblhfodkbjdeoaaDoor.Pure
