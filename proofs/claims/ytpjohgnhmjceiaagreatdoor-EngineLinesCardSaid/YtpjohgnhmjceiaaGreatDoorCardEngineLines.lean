/-
  The law EngineLines of layer 12: for every input the Go function returns true, and each argument reads behind the call as it read before.
  Conditions: the listed package-level variables of unicode/utf8 read as the program's text lays them (tied by the card).
-/
import Derived.Test.YtpjohgnhmjceiaaGreatDoorRows
import Derived.Test.YtpjohgnhmjceiaaGreatDoorCards
import Derived.Test.YtpjohgnhmjceiaaGreatDoorTie
import Derived.Test.YtpjohgnhmjceiaaGreatDoorLawEl
import Derived.WalkKit
import Derived.ProofKit
import Derived.OpenShut
import Derived.ShutString
import Derived.ChangeOld
import Derived.Below
import Derived.Carry
import Derived.SizedLaws
import Derived.Lay
import Derived.LaidOnce
import Derived.SevenTiedAt
set_option linter.unusedVariables false
namespace Go.Proofs.YtpjohgnhmjceiaaGreatDoor.engineLines
open Go.ChangeShapes Go.WideShapes Go.ChangeAt Go.RowKit Go.Proofs.YtpjohgnhmjceiaaGreatDoor.AX
open Go.ChangeMaps (open_string shut_string)
theorem own : ownKnob Tryz.prog.godebug = none := by kernel_rfl
theorem laidOut_ : laidOutB Tryz.prog = true := by kernel_rfl
theorem flat3 : flatB Tryz.prog 3 = some [.int .i64] := by kernel_rfl
set_option maxRecDepth 100000 in
theorem lifted (os : Os) (started : os.Started) (H : Type) (enc : TypeId × Value → H) :
    ReturnsInHanded {} Tryz.checked os 5 .any (fun w args => (Rows.engineLinesSpec.pre enc Tryz.prog Tryz.f5 [] false w args ∧ laidMetH Tryz.prog Rows.engineLinesRow.laid w) ∧ sizedMet enc Tryz.prog Tryz.f5 (OpenSpec.ofChange Rows.engineLinesSpec) false w args)
      (Rows.engineLinesSpec.post enc Tryz.prog Tryz.f5 false true false false) := by
  refine returnsInHanded_of_change_and (C := Tryz.checked) (X := fun w _ => laidMetH Tryz.prog Rows.engineLinesRow.laid w) (fun _ _ _ hh h => h.of_heap hh) own started (by kernel_rfl) Tryz.func5
    (ChangeSpec.witness_shaped (enc := enc) (C := Tryz.checked) (os := os) (X := fun w _ => laidMetH Tryz.prog Rows.engineLinesRow.laid w) false (World.laidAll Tryz.prog os Rows.engineLinesRow.laid) #[.slice none 0 0, .int .i64 0] 8 (World.laidAll_os _ _ _)
      (World.shaped_of_ZipB (by kernel_rfl) (by kernel_rfl)) (by kernel_rfl) (by kernel_rfl) (by kernel_rfl)
      (by rw [MakeChecks.laidMetH_plain _ _ _ (by kernel_rfl)]; exact laidMet_laidAll _ (by kernel_rfl) (by kernel_rfl))) ?_
  intro W base args ds gs before hval0 hW hcnd hsz0 hL _
  letI : Env := ⟨fun _ => .bool true⟩
  have hval : ∀ (j : Nat) t v, Tryz.f5.params[j]? = some t → args[j]? = some v → Value.okWide Tryz.prog W .any base t v := hval0
  have hW' := hW
  obtain ⟨p, q, hA0, hV, rfl, hfz, hnd⟩ := hW
  have hA : DataW.TrodAll enc Tryz.prog W 0 (fun _ => true) true Tryz.f5.params.toList args.toList ds p := hA0
  rw [Tryz.params5] at hA hval
  obtain ⟨v0, vs0, d0, ds0, p0, q0, hargs, rfl, rfl, h0, r0⟩ := trodAll_cons hA
  obtain ⟨v1, vs1, d1, ds1, p1, q1, rfl, rfl, rfl, h1, r1⟩ := trodAll_cons r0
  obtain ⟨rfl, rfl, rfl⟩ := trodAll_nil r1
  obtain rfl : args = #[v0, v1] := by cases args; simp_all
  obtain ⟨rfl, rfl⟩ := trodVars_none hV
  have hz0 : W.noneFrozen p0 := fun b off h => hfz b off (by simp [h])
  obtain ⟨x0, m0, tb0, ρ0, e0, hh0, ro0, le0, kp0, rk0, fm0⟩ := open_rows Tryz.underlying25 flat3 (by decide) (hval 0 25 v0 rfl rfl) h0 hz0 (HRel.none W) RO.none
  obtain ⟨a1, rfl, rfl, rfl, w1⟩ := open_int Tryz.underlying3 (hval 1 3 v1 rfl rfl) h1
  clear hA0 hval0 hsz0
  refine (wf_calls WX.tb_ok (WX.el_wf rk0 a1 w1) ro0 hh0 (rels_cons.2 ⟨_, _, rfl, e0, rels_cons.2 ⟨_, _, rfl, (by simp [AV.rel]), rels_nil.2 rfl⟩⟩)).mono fun e W' ⟨he, bel⟩ => ?_
  subst he
  exact ⟨_, rfl, _, _, _, [], _, [], hW', trodAll_mk1 (shut_bool Tryz.underlying4 _), (trodAll_cons_mk (Below.trod laidOut_ (by kernel_rfl) (of_decide_eq_true (by kernel_rfl)) h0 bel (fun x hx => hW'.lt x (by simp [hx]))) (trodAll_cons_mk (shut_int Tryz.underlying3 w1) trodAll_mk0)), rfl, bel.frame _, fun h => by cases h⟩
theorem jf_laidOut : laidOutB Tryz.prog = true := by kernel_rfl
theorem jf_mapsRowed : mapsRowed Tryz.prog = true := by kernel_rfl
theorem jf_inPlace : (Rows.engineLinesRow.inPlace == Tryz.prog.inPlace 5) = true := by kernel_rfl
theorem jf_unf : (Rows.engineLinesRow.unfollowed == Tryz.prog.unfollowed 5) = true := by kernel_rfl
theorem jf_rec : (Rows.engineLinesRow.recurses == Tryz.prog.recurses 5) = true := by kernel_rfl
theorem jf_named : (Rows.engineLinesRow.named == Tryz.prog.varsNamed 5) = true := by kernel_rfl
theorem jf_heard : Tryz.prog.stopsHeard = true := by kernel_rfl
theorem jf_mayEnter : Tryz.prog.mayEnter = true := by kernel_rfl
theorem jf_lifted : (Rows.engineLinesRow.lifted == Tryz.prog.liftsFinal) = true := by kernel_rfl
theorem jf_make : (Tryz.prog.make == some Rows.engineLinesRow.make) = true := by kernel_rfl
theorem closed : joinedFacts Tryz.prog 5 Tryz.f5 Rows.engineLinesSpec Rows.engineLinesRow = true := by
  unfold joinedFacts
  rw [jf_laidOut, jf_mapsRowed, jf_inPlace, jf_unf, jf_rec, jf_named, jf_heard, jf_mayEnter, jf_lifted, jf_make]
  kernel_rfl
theorem said : Rows.EngineLinesSaid :=
  OpenClaim.holds_of_wide 5 Tryz.f5 rfl rfl rfl rfl rfl rfl rfl ⟨rfl, rfl, rfl, rfl, rfl⟩ rfl rfl rfl rfl rfl (by kernel_rfl) Tryz.func5 closed
    (of_decide_eq_true (by kernel_rfl)) (by unfold Func.isWrapper; first | (rw [if_pos (by decide +kernel)]; kernel_rfl) | (rw [if_neg (by decide +kernel)]; exact ⟨rfl, rfl⟩))
    (fun os started H enc _ => lifted os started H enc)
/-- THE CARD. -/
theorem card : Rows.EngineLinesCardSaid :=
  Claim7.holds_tied_plain_at .later [] [.data, .pinned] true (true, "00b0f082f84db19c46bb996ee2cdde60d72420e371fc5aef477bda24bc063efa") true said (fun _ h => by cases h) (by kernel_rfl) (fun _ h => by cases h) engineLines_row_tie rfl ⟨rfl, rfl⟩ (by kernel_rfl) rfl
    (fun f fn hf hfn => by
      obtain rfl : f = 5 := Option.some.inj ((show Tryz.prog.funcNamed "silkworm/silkwormlaw12.EngineLines" = some 5 by kernel_rfl).symm.trans hf) |>.symm
      obtain rfl : fn = Tryz.f5 := (Option.some.inj (Tryz.func5.symm.trans hfn)).symm
      exact ⟨by kernel_rfl, fun j t ht => by
        rw [Tryz.params5] at ht
        have hm : t ∈ [25, 3] := by simpa using Array.mem_of_getElem? ht
        have hall : ([25, 3].all fun u => !Tryz.prog.wantsStandIn u) = true := by kernel_rfl
        exact (show Tryz.prog.wantsStandIn t = false by simpa using List.all_eq_true.1 hall t hm)⟩)
    (by kernel_rfl)
end Go.Proofs.YtpjohgnhmjceiaaGreatDoor.engineLines
namespace Go.Proofs.YtpjohgnhmjceiaaGreatDoor
/-- The card, under a short name, for the claim. -/
theorem engineLines_card : Rows.EngineLinesCardSaid := engineLines.card
#print axioms engineLines_card
end Go.Proofs.YtpjohgnhmjceiaaGreatDoor
