/-
  The law LpNobody of layer 15: for every input the Go function returns true, and each argument reads behind the call as it read before.
  Conditions: the listed package-level variables of unicode/utf8 read as the program's text lays them (tied by the card).
-/
import Derived.Test.YtljgjhcjpmmkkabGreatDoorRows
import Derived.Test.YtljgjhcjpmmkkabGreatDoorCards
import Derived.Test.YtljgjhcjpmmkkabGreatDoorTie
import Derived.Test.YtljgjhcjpmmkkabGreatDoorRun
import Derived.WalkKit
import Derived.ProofKit
import Derived.OpenShut
import Derived.ShutString
import Derived.ChangeOld
import Derived.Below
import Derived.SizedLaws
import Derived.Lay
import Derived.LaidOnce
import Derived.SevenTiedAt
namespace Go.Proofs.YtljgjhcjpmmkkabGreatDoor.lpNobody
open Go.ChangeShapes Go.WideShapes Go.ChangeAt Go.RowKit
open Go.ChangeMaps (open_string shut_string)
set_option linter.unusedVariables false
theorem own : ownKnob Tryz.prog.godebug = none := by kernel_rfl
theorem cells23 : Tryz.prog.cellsOf 23 = 6 := by kernel_rfl
theorem cell3_ : Tryz.prog.cellsOf 3 = 1 := by kernel_rfl
theorem cell4_ : Tryz.prog.cellsOf 4 = 1 := by kernel_rfl
theorem cell9_ : Tryz.prog.cellsOf 9 = 1 := by kernel_rfl
theorem list23 {α : Type} (l : List α) (h : (⟨l⟩ : Array α).size = 6) : ∃ c0 c1 c2 c3 c4 c5, l = [c0, c1, c2, c3, c4, c5] := by
  match l, h with
  | [c0, c1, c2, c3, c4, c5], _ => exact ⟨c0, c1, c2, c3, c4, c5, rfl⟩
set_option maxRecDepth 100000 in
/-- The struct by value: opened, and read so in every world. -/
theorem open_s23 {H : Type} {enc : TypeId × Value → H} {W : World} {base b0 : Nat} {r : Reach} {sp : Nat → Bool} {held : Bool} {v : Value} {d : DataW H} {ps : List MemPlace} (hval : Value.okWide Tryz.prog W r b0 23 v) (hd : DataW.Trod enc Tryz.prog W base sp held 23 v d ps) :
    ∃ x0 x1 x2 x3 x4 x5, v = .agg #[.int .i64 x0, .int .i64 x1, .string x2, .int .i64 x3, .int .i64 x4, .bool x5] ∧ ps = [] ∧ ∀ (W' : World) (sp' : Nat → Bool), DataW.Trod enc Tryz.prog W' base sp' held 23 v d [] := by
  obtain ⟨cs, rfl, hsz⟩ := okWide_struct Tryz.underlying23 hval
  rw [cells23] at hsz
  obtain ⟨l⟩ := cs
  obtain ⟨c0, c1, c2, c3, c4, c5, rfl⟩ := list23 l hsz
  obtain ⟨fuel, hf⟩ := hd
  obtain ⟨xs, n, _, hx, hl, hlen, hf⟩ := DataW.trod_struct Tryz.underlying23 hf
  match xs, hlen with
  | [y0, y1, y2, y3, y4, y5], _ =>
    have h0 := hf 0 _ rfl
    simp [Value.cells, cell3_] at h0
    obtain ⟨x0, e0, rfl, w0⟩ := DataW.trod_int Tryz.underlying3 h0
    simp at e0
    subst e0
    have h1 := hf 1 _ rfl
    simp [Value.cells, cell3_] at h1
    obtain ⟨x1, e1, rfl, w1⟩ := DataW.trod_int Tryz.underlying3 h1
    simp at e1
    subst e1
    have h2 := hf 2 _ rfl
    simp [Value.cells, cell9_] at h2
    obtain ⟨x2, e2, rfl, w2⟩ := DataW.trod_string Tryz.underlying9 h2
    simp at e2
    subst e2
    have h3 := hf 3 _ rfl
    simp [Value.cells, cell3_] at h3
    obtain ⟨x3, e3, rfl, w3⟩ := DataW.trod_int Tryz.underlying3 h3
    simp at e3
    subst e3
    have h4 := hf 4 _ rfl
    simp [Value.cells, cell3_] at h4
    obtain ⟨x4, e4, rfl, w4⟩ := DataW.trod_int Tryz.underlying3 h4
    simp at e4
    subst e4
    have h5 := hf 5 _ rfl
    simp [Value.cells, cell4_] at h5
    obtain ⟨x5, e5, rfl⟩ := DataW.trod_bool Tryz.underlying4 h5
    simp at e5
    subst e5
    simp only [Prod.mk.injEq] at hx
    obtain ⟨rfl, rfl⟩ := hx
    exact ⟨x0, x1, x2, x3, x4, x5, rfl, rfl, fun W' sp' => ⟨2, by simp [DataW.trod, Value.cells, Tryz.underlying23, cells23, Tryz.underlying3, cell3_, Tryz.underlying4, cell4_, Tryz.underlying9, cell9_, w0, w1, w2, w3, w4]⟩⟩
set_option maxRecDepth 100000 in
theorem lifted (os : Os) (started : os.Started) (H : Type) (enc : TypeId × Value → H) :
    ReturnsInHanded {} Tryz.checked os 3 .any (fun w args => (Rows.lpNobodySpec.pre enc Tryz.prog Tryz.f3 [] false w args ∧ laidMetH Tryz.prog Rows.lpNobodyRow.laid w) ∧ sizedMet enc Tryz.prog Tryz.f3 (OpenSpec.ofChange Rows.lpNobodySpec) false w args)
      (Rows.lpNobodySpec.post enc Tryz.prog Tryz.f3 false true false false) := by
  refine returnsInHanded_of_change_and (C := Tryz.checked) (X := fun w _ => laidMetH Tryz.prog Rows.lpNobodyRow.laid w) (fun _ _ _ hh h => h.of_heap hh) own started (by kernel_rfl) Tryz.func3
    (ChangeSpec.witness_shaped (enc := enc) (C := Tryz.checked) (os := os) (X := fun w _ => laidMetH Tryz.prog Rows.lpNobodyRow.laid w) false (World.laidAll Tryz.prog os Rows.lpNobodyRow.laid) #[.agg #[.int .i64 0, .int .i64 0, .string ByteArray.empty, .int .i64 0, .int .i64 0, .bool false], .int .i64 0] 8 (World.laidAll_os _ _ _)
      (World.shaped_of_ZipB (by kernel_rfl) (by kernel_rfl)) (by kernel_rfl) (by kernel_rfl) (by kernel_rfl)
      (by rw [MakeChecks.laidMetH_plain _ _ _ (by kernel_rfl)]; exact laidMet_laidAll _ (by kernel_rfl) (by kernel_rfl))) ?_
  intro W base args ds gs before hval0 hW hcnd hsz0 hL _
  have hsz : (DataW.weightsEach Tryz.prog (Tryz.f3.params.toList ++ Rows.lpNobodySpec.plain.varTypes Tryz.prog) (ds ++ gs)).all (· ≤ reachBytes) = true := hsz0
  have hval : ∀ (j : Nat) t v, Tryz.f3.params[j]? = some t → args[j]? = some v → Value.okWide Tryz.prog W .any base t v := hval0
  have hW' := hW
  obtain ⟨p, q, hA0, hV, rfl, hfz, hnd⟩ := hW
  have hA : DataW.TrodAll enc Tryz.prog W 0 (fun _ => true) true Tryz.f3.params.toList args.toList ds p := hA0
  rw [Tryz.params3] at hA hval hsz
  obtain ⟨v0, vs0, d0, ds0, p0, q0, hargs, rfl, rfl, h0, r0⟩ := trodAll_cons hA
  obtain ⟨v1, vs1, d1, ds1, p1, q1, rfl, rfl, rfl, h1, r1⟩ := trodAll_cons r0
  obtain ⟨rfl, rfl, rfl⟩ := trodAll_nil r1
  obtain rfl : args = #[v0, v1] := by cases args; simp_all
  obtain ⟨rfl, rfl⟩ := trodVars_none hV
  obtain ⟨a0_0, a0_1, a0_2, a0_3, a0_4, a0_5, rfl, rfl, z0⟩ := open_s23 (hval 0 23 v0 rfl rfl) h0
  obtain ⟨a1, rfl, rfl, rfl, w1⟩ := open_int Tryz.underlying3 (hval 1 3 v1 rfl rfl) h1
  clear hA0 hval0 hsz0 hsz
  refine (Run.walk a0_0 a0_1 a0_2 a0_3 a0_4 a0_5 a1 W w1).mono fun e W' ⟨he, bel⟩ => ?_
  subst he
  exact ⟨_, rfl, _, _, _, [], _, [], hW', trodAll_mk1 (shut_bool Tryz.underlying4 _), (trodAll_cons_mk (z0 _ _) (trodAll_cons_mk (shut_int Tryz.underlying3 w1) trodAll_mk0)), rfl, bel.frame _, fun h => by cases h⟩
theorem said : Rows.LpNobodySaid :=
  OpenClaim.holds_of_wide 3 Tryz.f3 rfl rfl rfl rfl rfl rfl rfl ⟨rfl, rfl, rfl, rfl, rfl⟩ rfl rfl rfl rfl rfl (by kernel_rfl) Tryz.func3 (by kernel_rfl)
    (of_decide_eq_true (by kernel_rfl)) (by unfold Func.isWrapper; first | (rw [if_pos (by decide +kernel)]; kernel_rfl) | (rw [if_neg (by decide +kernel)]; exact ⟨rfl, rfl⟩))
    (fun os started H enc _ => lifted os started H enc)
/-- THE CARD. -/
theorem card : Rows.LpNobodyCardSaid :=
  Claim7.holds_tied_plain_at .later [] [.data, .pinned] true (true, "af5939ea3d390b56660a6967e64566ec5e898c1d3062a5f4fa284ebfe1622ea3") true said (fun _ h => by cases h) (by kernel_rfl) (fun _ h => by cases h) lpNobody_row_tie rfl ⟨rfl, rfl⟩ (by kernel_rfl) rfl
    (fun f fn hf hfn => by
      obtain rfl : f = 3 := Option.some.inj ((show Tryz.prog.funcNamed "silkworm/silkwormlaw15.LpNobody" = some 3 by kernel_rfl).symm.trans hf) |>.symm
      obtain rfl : fn = Tryz.f3 := (Option.some.inj (Tryz.func3.symm.trans hfn)).symm
      exact ⟨by kernel_rfl, fun j t ht => by
        rw [Tryz.params3] at ht
        have hm : t ∈ [23, 3] := by simpa using Array.mem_of_getElem? ht
        have hall : ([23, 3].all fun u => !Tryz.prog.wantsStandIn u) = true := by kernel_rfl
        exact (show Tryz.prog.wantsStandIn t = false by simpa using List.all_eq_true.1 hall t hm)⟩)
    (by kernel_rfl)
end Go.Proofs.YtljgjhcjpmmkkabGreatDoor.lpNobody
namespace Go.Proofs.YtljgjhcjpmmkkabGreatDoor
/-- The card, under a short name, for the claim. -/
theorem lpNobody_card : Rows.LpNobodyCardSaid := lpNobody.card
#print axioms lpNobody_card
end Go.Proofs.YtljgjhcjpmmkkabGreatDoor
