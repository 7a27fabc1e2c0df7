/- Arrays of three strings by value: opened out of their reading, and shut again. No program in sight. -/
import Derived.Test.YtblhfodkbjdeoaaDoorArr
import Derived.WalkKit
import Derived.ProofKit
import Derived.OpenShut
import Derived.ChangeMaps5
import Derived.SizedLaws
import Derived.Laws.IdiomArrays
namespace Go.Proofs.YtblhfodkbjdeoaaDoor.Arr
open Go.ChangeShapes Go.WideShapes
variable {H : Type} {enc : TypeId × Value → H} {P : Program} {w : World} {base : Nat} {sp : Nat → Bool} {held : Bool}

theorem open_strs3 {r : Reach} {b0 : Nat} {t e : TypeId} {v : Value} {d : DataW H} {ps : List MemPlace} (ht : P.underlying t = some (.array 3 e)) (he : P.underlying e = some .string) (hce : P.cellsOf e = 1) (hct : P.cellsOf t = 3)
    (hval : Value.okWide P w r b0 t v) (hd : DataW.Trod enc P w base sp held t v d ps) :
    ∃ s0 s1 s2 : ByteArray, v = .agg #[.string s0, .string s1, .string s2] ∧ d = .agg [.lit (.string s0.data.toList), .lit (.string s1.data.toList), .lit (.string s2.data.toList)] ∧ ps = [] ∧ s0.size ≤ maxLen ∧ s1.size ≤ maxLen ∧ s2.size ≤ maxLen := by
  obtain ⟨c0, c1, c2, y0, y1, y2, n, rfl, rfl, rfl, h0, h1, h2⟩ := open3 ht hce hct hval hd
  obtain ⟨x0, e0, rfl, w0⟩ := DataW.trod_string he h0
  obtain ⟨x1, e1, rfl, w1⟩ := DataW.trod_string he h1
  obtain ⟨x2, e2, rfl, w2⟩ := DataW.trod_string he h2
  simp at e0 e1 e2
  subst e0 e1 e2
  exact ⟨x0, x1, x2, rfl, rfl, rfl, w0, w1, w2⟩
theorem shut_strs3 {t e : TypeId} {s0 s1 s2 : ByteArray} (ht : P.underlying t = some (.array 3 e)) (he : P.underlying e = some .string) (hce : P.cellsOf e = 1) (hct : P.cellsOf t = 3) (w0 : s0.size ≤ maxLen) (w1 : s1.size ≤ maxLen) (w2 : s2.size ≤ maxLen) :
    DataW.Trod enc P w base sp held t (.agg #[.string s0, .string s1, .string s2]) (.agg [.lit (.string s0.data.toList), .lit (.string s1.data.toList), .lit (.string s2.data.toList)]) [] :=
  ⟨2, by simp [DataW.trod, Value.cells, ht, he, hce, hct, w0, w1, w2, show List.range 3 = [0, 1, 2] from rfl]⟩
theorem sized_strs3 {ts : List TypeId} {ds : List (DataW H)} (h : (DataW.weightsEach P ts ds).all (· ≤ reachBytes) = true) {j : Nat} {t e : TypeId} {b0 b1 b2 : List UInt8} (ht : ts[j]? = some t)
    (hd : ds[j]? = some (.agg [.lit (.string b0), .lit (.string b1), .lit (.string b2)])) (hu : P.underlying t = some (.array 3 e)) : b0.length ≤ reachBytes ∧ b1.length ≤ reachBytes ∧ b2.length ≤ reachBytes := by
  have go : ∀ n, n ∈ DataW.weights P t (.agg [.lit (.string b0), .lit (.string b1), .lit (.string b2)] : DataW H) → n ≤ reachBytes := fun n hn => by
    have := List.all_eq_true.1 h _ (DataW.weights_mem_each ht hd n hn)
    simpa using this
  exact ⟨go _ (by simp [DataW.weights, DataW.weightsAll, hu]), go _ (by simp [DataW.weights, DataW.weightsAll, hu]), go _ (by simp [DataW.weights, DataW.weightsAll, hu])⟩
end Go.Proofs.YtblhfodkbjdeoaaDoor.Arr
