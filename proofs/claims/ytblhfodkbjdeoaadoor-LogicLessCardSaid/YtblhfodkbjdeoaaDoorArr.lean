/- Arrays of three numbers, or of three strings, by value: opened out of their reading, and shut again. No program in sight. -/
import Derived.WalkKit
import Derived.ProofKit
import Derived.OpenShut
import Derived.ChangeMaps5
import Derived.SizedLaws
import Derived.Laws.IdiomArrays
namespace Go.Proofs.YtblhfodkbjdeoaaDoor.Arr
open Go.ChangeShapes Go.WideShapes
variable {H : Type} {enc : TypeId × Value → H} {P : Program} {w : World} {base : Nat} {sp : Nat → Bool} {held : Bool}

theorem list3 {α : Type} (l : List α) (h : (⟨l⟩ : Array α).size = 3) : ∃ a b c, l = [a, b, c] := by
  match l, h with
  | [a, b, c], _ => exact ⟨a, b, c, rfl⟩
theorem open3 {r : Reach} {b0 : Nat} {t e : TypeId} {v : Value} {d : DataW H} {ps : List MemPlace} (ht : P.underlying t = some (.array 3 e)) (hce : P.cellsOf e = 1) (hct : P.cellsOf t = 3) (hval : Value.okWide P w r b0 t v)
    (hd : DataW.Trod enc P w base sp held t v d ps) :
    ∃ c0 c1 c2 y0 y1 y2 n, v = .agg #[c0, c1, c2] ∧ d = .agg [y0.1, y1.1, y2.1] ∧ ps = y0.2 ++ (y1.2 ++ y2.2) ∧ DataW.trod enc P w base sp held n e [c0] = some y0 ∧ DataW.trod enc P w base sp held n e [c1] = some y1 ∧ DataW.trod enc P w base sp held n e [c2] = some y2 := by
  obtain ⟨cs, rfl, hsz⟩ : ∃ cs, v = .agg cs ∧ cs.size = P.cellsOf t := by
    have := hval
    simp [Value.okWide, ht] at this
    obtain ⟨cs, h1, h2, _⟩ := this
    exact ⟨cs, h1, h2⟩
  rw [hct] at hsz
  obtain ⟨l⟩ := cs
  obtain ⟨c0, c1, c2, rfl⟩ := list3 l hsz
  obtain ⟨fuel, hf⟩ := hd
  obtain ⟨y0, y1, y2, n, hx, h0, h1, h2⟩ := trod_array3 ht hce hf
  simp only [Prod.mk.injEq] at hx
  exact ⟨c0, c1, c2, y0, y1, y2, n, rfl, hx.1, hx.2, h0, h1, h2⟩
theorem open_ints3 {r : Reach} {b0 : Nat} {t e : TypeId} {k : IntKind} {v : Value} {d : DataW H} {ps : List MemPlace} (ht : P.underlying t = some (.array 3 e)) (he : P.underlying e = some (.int k)) (hce : P.cellsOf e = 1) (hct : P.cellsOf t = 3)
    (hval : Value.okWide P w r b0 t v) (hd : DataW.Trod enc P w base sp held t v d ps) :
    ∃ x0 x1 x2, v = .agg #[.int k x0, .int k x1, .int k x2] ∧ d = .agg [.lit (.int k x0), .lit (.int k x1), .lit (.int k x2)] ∧ ps = [] ∧ (Lit.int k x0).wf = true ∧ (Lit.int k x1).wf = true ∧ (Lit.int k x2).wf = true := by
  obtain ⟨c0, c1, c2, y0, y1, y2, n, rfl, rfl, rfl, h0, h1, h2⟩ := open3 ht hce hct hval hd
  obtain ⟨x0, e0, rfl, w0⟩ := DataW.trod_int he h0
  obtain ⟨x1, e1, rfl, w1⟩ := DataW.trod_int he h1
  obtain ⟨x2, e2, rfl, w2⟩ := DataW.trod_int he h2
  simp at e0 e1 e2
  subst e0 e1 e2
  exact ⟨x0, x1, x2, rfl, rfl, rfl, w0, w1, w2⟩
theorem shut_ints3 {t e : TypeId} {k : IntKind} {x0 x1 x2 : Int} (ht : P.underlying t = some (.array 3 e)) (he : P.underlying e = some (.int k)) (hce : P.cellsOf e = 1) (hct : P.cellsOf t = 3) (w0 : (Lit.int k x0).wf = true) (w1 : (Lit.int k x1).wf = true) (w2 : (Lit.int k x2).wf = true) :
    DataW.Trod enc P w base sp held t (.agg #[.int k x0, .int k x1, .int k x2]) (.agg [.lit (.int k x0), .lit (.int k x1), .lit (.int k x2)]) [] :=
  ⟨2, by simp [DataW.trod, Value.cells, ht, he, hce, hct, w0, w1, w2, show List.range 3 = [0, 1, 2] from rfl]⟩
end Go.Proofs.YtblhfodkbjdeoaaDoor.Arr
