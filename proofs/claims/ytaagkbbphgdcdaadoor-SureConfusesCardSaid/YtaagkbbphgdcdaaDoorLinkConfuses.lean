/-
  SureConfuses: Confusions gives the graph in which two signals are near where an output is common to both, and Back the one divided by the greatest sum that weights can have where no output weighs more than one; both as the reference finds them, and both refuse what is no channel
  No conditions beyond the statement's own.
-/
import Derived.Test.YtaagkbbphgdcdaaDoorPk4
import Derived.Test.YtaagkbbphgdcdaaDoorTie
import Derived.Test.YtaagkbbphgdcdaaDoorCards
import Derived.Test.YtaagkbbphgdcdaaDoorChecked
import Derived.Test.YtaagkbbphgdcdaaDoorPk6
import Derived.Test.YtaagkbbphgdcdaaDoorPk12
import Derived.Stop.Joined
set_option linter.all false
namespace Go.Proofs.YtaagkbbphgdcdaaDoor
open Go Go.Am Go.ChangeShapes Go.WideShapes Go.ChangeAt Go.WideMaps Go.WideElems Go.RowKit

theorem own : ownKnob Tryd.prog.godebug = none := by kernel_rfl

theorem door_met (os : Os) (args : Array Value) : laidMetH Tryd.prog laid1 ((World.doorLaid Tryd.prog 400 os).forCall (fun _ _ => 0) ⟨#[], args, []⟩).memory :=
  laidMetH_of_parts3 (fuel := 8) (laidMet_of_run' 8 (by kernel_rfl) (by kernel_rfl)) (by kernel_rfl) (by kernel_rfl)

set_option maxRecDepth 100000 in
theorem sureConfuses_lifted (os : Os) (started : os.Started) (H : Type) (enc : TypeId × Value → H) :
    ReturnsInHanded {} Tryd.checked os 12 .any (fun w args => (Rows.sureConfusesSpec.pre enc Tryd.prog Tryd.f12 [] false w args ∧ laidMetH Tryd.prog laid1 w) ∧ sizedMet enc Tryd.prog Tryd.f12 (OpenSpec.ofChange Rows.sureConfusesSpec) false w args)
      (Rows.sureConfusesSpec.post enc Tryd.prog Tryd.f12 false true false false) := by
  refine returnsInHanded_of_change_and (C := Tryd.checked) (X := fun w _ => laidMetH Tryd.prog laid1 w) (fun _ _ _ hh h => h.of_heap hh) own started (by kernel_rfl) Tryd.func12
    (ChangeSpec.witness_shaped (enc := enc) (C := Tryd.checked) (os := os) (X := fun w _ => laidMetH Tryd.prog laid1 w) false (World.doorLaid Tryd.prog 400 os) #[.slice none 0 0] 8 rfl (World.shaped_of_RefB (by kernel_rfl) (by kernel_rfl)) (by kernel_rfl) (by kernel_rfl) (by kernel_rfl) (door_met os _)) ?_
  intro W base args ds gs before hval0 hW _ _ hL _
  have hval : ∀ (j : Nat) t v, Tryd.f12.params[j]? = some t → args[j]? = some v → Value.okWide Tryd.prog W .any base t v := hval0
  have hW' := hW
  obtain ⟨p, q, hA0, hV, rfl, hfz, hnd⟩ := hW
  have hA : DataW.TrodAll enc Tryd.prog W 0 (fun _ => true) true Tryd.f12.params.toList args.toList ds p := hA0
  rw [Tryd.params12] at hA hval
  obtain ⟨e, fr, htab⟩ := tab_of hL
  letI : BitTab Tryd.prog 0 := { tabs := [(0, _)], et := e, fr := fr, eq := rfl }
  obtain ⟨v0, d0, rfl, rfl, h0⟩ := trodAll_one hA
  obtain ⟨rfl, rfl⟩ := trodVars_none hV
  obtain ⟨xs0, hv0, hkeep0, hx0, hl0⟩ := intSl_of Tryd.underlying22 Tryd.underlying3 (by kernel_rfl) (hval 0 22 v0 rfl rfl) h0
  have hcall := (Tryd.Am.law_confuses hv0 (by omega) hx0).calls_true (w := W) (fun p hp => by
    obtain rfl : p = _ := List.mem_singleton.1 hp
    exact htab) (fun v hv => by
    obtain rfl := List.mem_singleton.1 hv; exact hkeep0)
  refine hcall.mono ?_
  rintro en W' ⟨rfl, hb⟩
  exact ⟨_, rfl, post_true (by kernel_rfl) (by kernel_rfl) rfl Tryd.underlying4 rfl hW' ⟨rfl, rfl, rfl⟩ hb⟩

theorem sureConfuses_holds : Rows.SureConfusesSaid :=
  OpenClaim.holds_of_wide 12 Tryd.f12 rfl rfl rfl rfl rfl rfl rfl ⟨rfl, rfl, rfl, rfl, rfl⟩ rfl rfl rfl rfl rfl (by kernel_rfl) Tryd.func12 (by kernel_rfl)
    (of_decide_eq_true (by kernel_rfl)) (by unfold Func.isWrapper; first | (rw [if_pos (by decide +kernel)]; kernel_rfl) | (rw [if_neg (by decide +kernel)]; exact ⟨rfl, rfl⟩))
    (fun os started H enc _ => sureConfuses_lifted os started H enc)

theorem sureConfuses_card : Rows.SureConfusesCardSaid :=
  Claim7.holds_tied_plain_at .later [] [.data] true (true, "ef801bc4ed7054c903ecdc27431cace0190a71628027c53b7b8603f391d82306") false
    sureConfuses_holds (fun _ h => by cases h) (by kernel_rfl) (fun _ h => by cases h) sureConfuses_row_tie rfl ⟨rfl, rfl⟩ (by kernel_rfl) rfl
    (fun f fn hf hfn => by
      obtain rfl : f = 12 := Option.some.inj ((show Tryd.prog.funcNamed "planchet/planchetlaw05.SureConfuses" = some 12 by kernel_rfl).symm.trans hf) |>.symm
      obtain rfl : fn = Tryd.f12 := (Option.some.inj (Tryd.func12.symm.trans hfn)).symm
      exact ⟨by kernel_rfl, fun j t ht => by
        rw [Tryd.params12] at ht
        have hm : t ∈ [22] := by simpa using Array.mem_of_getElem? ht
        have hall : ([22].all fun u => !Tryd.prog.wantsStandIn u) = true := by kernel_rfl
        exact (show Tryd.prog.wantsStandIn t = false by simpa using List.all_eq_true.1 hall t hm)⟩)
    (by kernel_rfl)
end Go.Proofs.YtaagkbbphgdcdaaDoor
