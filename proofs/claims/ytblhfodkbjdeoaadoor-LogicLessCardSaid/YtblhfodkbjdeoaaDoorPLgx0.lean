-- By this session's program prinj.py, out of the translation and contracts proved by hand. Not trusted: Lean checks it.
import Derived.Test.YtblhfodkbjdeoaaDoorProg
import Derived.Below
import Derived.Deep.Draws
import Derived.Deep.AppendLies
import Derived.Maps.AppendAt
import Derived.OwnWalk
import Derived.Laws.BytesArg
import Derived.Laws.MakeOwn
import Derived.Laws.OwnMore
import Derived.Deep.OwnRows
import Derived.Tactics
import Derived.Lib.ConvBytes
import Derived.Laws.Slices
import Derived.WalkKit
import Derived.KernelRfl
import Derived.RowKit3
import Derived.Deep.LoopGhost
import Derived.Deep.QuietTactic
import Derived.BigQuiet
import Derived.WideLaws
import Derived.Deep.DeepCutAuto
import Derived.Deep.CutBlock
import Derived.Deep.RegionHeld3
import Derived.Laws.Rows
import Derived.Lib.AppendStr
import Derived.ArgAppend
import Derived.Laws.IdiomCopy
import Derived.OrdersHeld
import Derived.Laws.BitsLemmas
import Derived.RowKit
import Derived.Test.YtblhfodkbjdeoaaDoorGiven
import Derived.Test.YtblhfodkbjdeoaaDoorWWords
import Derived.Test.YtblhfodkbjdeoaaDoorWLast
import Derived.Test.YtblhfodkbjdeoaaDoorWTab
import Derived.Test.YtblhfodkbjdeoaaDoorWFour
import Derived.Test.YtblhfodkbjdeoaaDoorWQPut
import Derived.Test.YtblhfodkbjdeoaaDoorWApart
import Derived.Test.YtblhfodkbjdeoaaDoorWArr
import Derived.Test.YtblhfodkbjdeoaaDoorWZeros
import Derived.Test.YtblhfodkbjdeoaaDoorWFoot
import Derived.Test.YtblhfodkbjdeoaaDoorWKept
import Derived.Test.YtblhfodkbjdeoaaDoorWShare
import Derived.Test.YtblhfodkbjdeoaaDoorWN
import Derived.Test.YtblhfodkbjdeoaaDoorWFootNe
import Derived.Test.YtblhfodkbjdeoaaDoorWAt
import Derived.Test.YtblhfodkbjdeoaaDoorWEqStruct
import Derived.Test.YtblhfodkbjdeoaaDoorWRepsOne
import Derived.Test.YtblhfodkbjdeoaaDoorWInv
import Derived.Test.YtblhfodkbjdeoaaDoorWInvWords
import Derived.Test.YtblhfodkbjdeoaaDoorWGuard
import Derived.Test.YtblhfodkbjdeoaaDoorWNEv
import Derived.Test.YtblhfodkbjdeoaaDoorWMore
namespace Go.Proofs.YtblhfodkbjdeoaaDoor.PLg
open Go.RowKit Go.Proofs.YtblhfodkbjdeoaaDoorW.PrintWords Go.Proofs.YtblhfodkbjdeoaaDoorW.PrintLast Go.Proofs.YtblhfodkbjdeoaaDoorW.PrintMore
attribute [local go_sem] max2_int min2_int max_two min_two max_three min_three max_four min_four   -- for this text's walks alone
attribute [local go_sem] str_leq str_gtr str_geq
set_option linter.unusedVariables false
set_option linter.unusedSimpArgs false



def errW : Option Int → Value
  | none => .nilIface
  | some c => .iface 0 (.int .i64 c)
theorem errW_none : errW none = .nilIface := rfl
theorem errW_some (c : Int) : errW (some c) = .iface 0 (.int .i64 c) := rfl

theorem info3 : (Tryd.prog.info? 3).map (fun i => (i.zero, i.size, i.bytes)) = some (some (.int .i64 0), 1, 8) := by kernel_rfl
theorem info4 : (Tryd.prog.info? 4).map (fun i => (i.zero, i.size, i.bytes)) = some (some (.bool false), 1, 1) := by kernel_rfl
theorem info5 : (Tryd.prog.info? 5).map (fun i => (i.zero, i.size, i.bytes)) = some (some (.int .u8 0), 1, 1) := by kernel_rfl
theorem info9 : (Tryd.prog.info? 9).map (fun i => (i.zero, i.size, i.bytes)) = some (some (.string ⟨#[]⟩), 1, 16) := by kernel_rfl
-- the values' own types

end Go.Proofs.YtblhfodkbjdeoaaDoor.PLg
