/- The pure statement of the law LogicCond. -/
import Derived.Test.YtblhfodkbjdeoaaDoorPureTCond
namespace Go.Proofs.YtblhfodkbjdeoaaDoor.Pure
open Go.RowKit Go.Proofs.YtblhfodkbjdeoaaDoorW.PrintWords Go.Proofs.YtblhfodkbjdeoaaDoorW.PrintLast Go.Proofs.YtblhfodkbjdeoaaDoorW.PrintMore Go.Proofs.YtblhfodkbjdeoaaDoor.Vec Go.Proofs.YtblhfodkbjdeoaaDoor.PLg Go.Proofs.YtblhfodkbjdeoaaDoor.PureL
set_option linter.unusedVariables false

theorem LogicCond : silkwormlaw01_LogicCond.Pure := by
  intro c a b wc wa wb
  suffices h : Ev (fun k => silkwormlaw01_LogicCond.f k c a b) true from h.rounds
  unfold silkwormlaw01_LogicCond.f
  refine Ev.bind (ev_cond c a b (by omega) (by omega) (by omega)) (Ev.bind (ev_may a (by omega)) ?_)
  have bad : ¬ (isVec c = true ∧ isVec a = true ∧ isVec b = true) → Ev (fun k => silkwormlaw01_LogicCond.j0 k c a b (condS c a b).1 (condS c a b).2 true) true := by
    intro hn
    refine Ev.step (fun k => silkwormlaw01_LogicCond.j0.eq_2 _ _ _ _ _ _ k) (ev_pos rfl ?_)
    unfold condS
    rw [if_neg hn]
    exact ev_pos nil_list (ev_pos rfl (ev_awake' rfl))
  by_cases ha : isVec a = true
  · refine ev_pos ha (Ev.bind (ev_may b (by omega)) ?_)
    by_cases hb : isVec b = true
    · refine ev_pos hb (Ev.bind (ev_may c (by omega)) ?_)
      by_cases hc : isVec c = true
      · rw [hc]
        refine Ev.step (fun k => silkwormlaw01_LogicCond.j0.eq_2 _ _ _ _ _ _ k) (ev_neg (by decide) ?_)
        unfold condS
        rw [if_pos ⟨hc, ha, hb⟩]
        have za := vec_size ha
        by_cases hl : a.size = b.size
        · rw [if_pos hl]
          exact ev_pos (by omega) (Ev.bind (ev_Cond c a b (by omega) (by omega) hl) (ev_pos rfl (ev_pos rfl (ev_awake' rfl))))
        · rw [if_neg hl]
          exact ev_neg (by omega) (ev_pos nil_list (ev_pos rfl (ev_awake' rfl)))
      · rw [show (!isVec c) = true by simp [hc]]
        exact bad (fun h => hc h.1)
    · exact ev_neg hb (bad (fun h => hb h.2.2))
  · exact ev_neg ha (bad (fun h => ha h.2.1))

end Go.Proofs.YtblhfodkbjdeoaaDoor.Pure
