/- The pure statement of the law LogicRises. -/
import Derived.Test.YtblhfodkbjdeoaaDoorPureTRise
namespace Go.Proofs.YtblhfodkbjdeoaaDoor.Pure
open Go.RowKit Go.Proofs.YtblhfodkbjdeoaaDoorW.PrintWords Go.Proofs.YtblhfodkbjdeoaaDoorW.PrintLast Go.Proofs.YtblhfodkbjdeoaaDoorW.PrintMore Go.Proofs.YtblhfodkbjdeoaaDoor.Vec Go.Proofs.YtblhfodkbjdeoaaDoor.PLg Go.Proofs.YtblhfodkbjdeoaaDoor.PureL
set_option linter.unusedVariables false

theorem LogicRises : silkwormlaw01_LogicRises.Pure := by
  intro a b wa wb
  suffices h : Ev (fun k => silkwormlaw01_LogicRises.f k a b) true from h.rounds
  unfold silkwormlaw01_LogicRises.f
  refine Ev.bind (ev_rise a b (by omega) (by omega)) (Ev.bind (ev_Rise a b (by omega) (by omega)) (ev_pos (by simp) (ev_awake' rfl)))

end Go.Proofs.YtblhfodkbjdeoaaDoor.Pure
