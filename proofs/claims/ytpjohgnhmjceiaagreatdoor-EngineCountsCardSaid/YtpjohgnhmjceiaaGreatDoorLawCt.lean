/- The law EngineCounts of layer 12: true, whatever numbers come in.
   Conditions: none beyond what is said of the rows. -/
import Derived.Test.YtpjohgnhmjceiaaGreatDoorWx5
import Derived.Test.YtpjohgnhmjceiaaGreatDoorAwk0
import Derived.Test.YtpjohgnhmjceiaaGreatDoorProg
import Derived.WalkKit
set_option linter.unusedVariables false
set_option linter.unusedSectionVars false
set_option maxRecDepth 100000
open Go Go.Proofs.YtpjohgnhmjceiaaGreatDoor.AX Go.Proofs
namespace Go.Proofs.YtpjohgnhmjceiaaGreatDoor.WX
/-! ### The law EngineChecks, of rows as they come in -/
theorem fn_code {P : Program} {ts : List TypeId} {f : FuncId} {af : AFn} (h : fnOf P ts f = some af) : ∃ np nt body res, af = .code np nt body res := by
  unfold fnOf at h
  split at h
  · cases h
  · split at h
    · cases h
    · split at h
      · cases h
      · split at h
        · cases h
        · cases h
          exact ⟨_, _, _, _, rfl⟩
theorem two_ways {g : Nat → Option AFn} {p : List AV → TB → Option AV} {n f : Nat} {af : AFn} (h : (bif f == n then some (.prim p) else g f) = some af) : (f = n ∧ af = .prim p) ∨ g f = some af := by
  by_cases hf : f = n
  · subst hf
    simp at h
    exact .inl ⟨rfl, h.symm⟩
  · have e : (f == n) = false := by simpa using hf
    rw [e] at h
    exact .inr h

theorem tb_ok [Env] : TabOK Tryz.prog [9, 66, 109, 111, 193] tb := by
  intro f af h
  unfold tb at h
  rcases two_ways (g := fun f => bif f == 242 then some (.prim pAny) else bif f == 241 then some (.prim pCon) else bif f == 244 then some (.prim pCmp) else bif f == 104 then some (.prim pTrim) else bif f == 17 then some (.prim pTrue) else fnOf Tryz.prog [9, 66, 109, 111, 193] f) h with ⟨rfl, rfl⟩ | h
  · exact ⟨pRep_ok, Tryz.f62, Tryz.func62, by kernel_rfl, of_decide_eq_true (by kernel_rfl)⟩
  rcases two_ways (g := fun f => bif f == 241 then some (.prim pCon) else bif f == 244 then some (.prim pCmp) else bif f == 104 then some (.prim pTrim) else bif f == 17 then some (.prim pTrue) else fnOf Tryz.prog [9, 66, 109, 111, 193] f) h with ⟨rfl, rfl⟩ | h
  · exact ⟨pAny_ok, Tryz.f242, Tryz.func242, by kernel_rfl, of_decide_eq_true (by kernel_rfl)⟩
  rcases two_ways (g := fun f => bif f == 244 then some (.prim pCmp) else bif f == 104 then some (.prim pTrim) else bif f == 17 then some (.prim pTrue) else fnOf Tryz.prog [9, 66, 109, 111, 193] f) h with ⟨rfl, rfl⟩ | h
  · exact ⟨pCon_ok, Tryz.f241, Tryz.func241, by kernel_rfl, of_decide_eq_true (by kernel_rfl)⟩
  rcases two_ways (g := fun f => bif f == 104 then some (.prim pTrim) else bif f == 17 then some (.prim pTrue) else fnOf Tryz.prog [9, 66, 109, 111, 193] f) h with ⟨rfl, rfl⟩ | h
  · exact ⟨pCmp_ok, Tryz.f244, Tryz.func244, by kernel_rfl, of_decide_eq_true (by kernel_rfl)⟩
  rcases two_ways (g := fun f => bif f == 17 then some (.prim pTrue) else fnOf Tryz.prog [9, 66, 109, 111, 193] f) h with ⟨rfl, rfl⟩ | h
  · exact ⟨pTrim_ok, Tryz.f104, Tryz.func104, by kernel_rfl, of_decide_eq_true (by kernel_rfl)⟩
  rcases two_ways (g := fun f => fnOf Tryz.prog [9, 66, 109, 111, 193] f) h with ⟨rfl, rfl⟩ | h
  · exact ⟨pTrue_ok Awk0.awake_calls, Tryz.f17, Tryz.func17, by kernel_rfl, of_decide_eq_true (by kernel_rfl)⟩
  obtain ⟨np, nt, body, res, rfl⟩ := fn_code h
  exact h

theorem walk (x0 x1 : Int) (w : World) (h0 : (Lit.int .i64 x0).wf = true) (h1 : (Lit.int .i64 x1).wf = true) :
    Calls Tryz.prog 6 #[.int .i64 x0, .int .i64 x1] w fun e w' => e = .returned (.bool true) ∧ RowKit.Below w.heap.size w w' := by
  letI : Env := ⟨fun _ => .bool true⟩
  obtain ⟨n, v, t', nx', e, rfl⟩ := law_ok (t := .e) (nx := 0) (a := x0) (b := x1)
  refine (ax_calls tb_ok n e [.int .i64 x0, .int .i64 x1] ?_ w).mono (fun e w' ⟨ρ', cv, h1, h2, h3⟩ => ⟨?_, h3⟩)
  · exact ⟨_, _, rfl, rfl, _, _, rfl, rfl, rfl⟩
  · rw [h1, rel_bool h2]

end Go.Proofs.YtpjohgnhmjceiaaGreatDoor.WX
