/-
  OrderNeeds: Check accepts Sort with Need, whose power of two is at least the lines; a pair more never makes it greater; free elements need the known numbers
  No conditions beyond the statement's own.
-/
import Derived.Test.YtnjacpfahhjpiaaDoorPk4
import Derived.Test.YtnjacpfahhjpiaaDoorTie
import Derived.Test.YtnjacpfahhjpiaaDoorCards
import Derived.Test.YtnjacpfahhjpiaaDoorChecked
import Derived.Test.YtnjacpfahhjpiaaDoorPk6
import Derived.Test.YtnjacpfahhjpiaaDoorPk12
import Derived.Stop.Joined
set_option linter.all false
namespace Go.Proofs.YtnjacpfahhjpiaaDoor
open Go Go.Am Go.ChangeShapes Go.WideShapes Go.ChangeAt Go.WideMaps Go.WideElems Go.RowKit

theorem own : ownKnob Tryd.prog.godebug = none := by kernel_rfl

theorem door_met (os : Os) (args : Array Value) : laidMetH Tryd.prog laid2 ((World.doorLaid Tryd.prog 400 os).forCall (fun _ _ => 0) ⟨#[], args, []⟩).memory :=
  laidMetH_of_parts3 (fuel := 8) (laidMet_of_run' 8 (by kernel_rfl) (by kernel_rfl)) (by kernel_rfl) (by kernel_rfl)

set_option maxRecDepth 100000 in
theorem orderNeeds_lifted (os : Os) (started : os.Started) (H : Type) (enc : TypeId × Value → H) :
    ReturnsInHanded {} Tryd.checked os 13 .any (fun w args => (Rows.orderNeedsSpec.pre enc Tryd.prog Tryd.f13 [] false w args ∧ laidMetH Tryd.prog laid2 w) ∧ sizedMet enc Tryd.prog Tryd.f13 (OpenSpec.ofChange Rows.orderNeedsSpec) false w args)
      (Rows.orderNeedsSpec.post enc Tryd.prog Tryd.f13 false true false false) := by
  refine returnsInHanded_of_change_and (C := Tryd.checked) (X := fun w _ => laidMetH Tryd.prog laid2 w) (fun _ _ _ hh h => h.of_heap hh) own started (by kernel_rfl) Tryd.func13
    (ChangeSpec.witness_shaped (enc := enc) (C := Tryd.checked) (os := os) (X := fun w _ => laidMetH Tryd.prog laid2 w) false (World.doorLaid Tryd.prog 400 os) #[.slice none 0 0, .int .i64 0, .int .i64 0] 8 rfl (World.shaped_of_RefB (by kernel_rfl) (by kernel_rfl)) (by kernel_rfl) (by kernel_rfl) (by kernel_rfl) (door_met os _)) ?_
  intro W base args ds gs before hval0 hW _ _ hL _
  have hval : ∀ (j : Nat) t v, Tryd.f13.params[j]? = some t → args[j]? = some v → Value.okWide Tryd.prog W .any base t v := hval0
  have hW' := hW
  obtain ⟨p, q, hA0, hV, rfl, hfz, hnd⟩ := hW
  have hA : DataW.TrodAll enc Tryd.prog W 0 (fun _ => true) true Tryd.f13.params.toList args.toList ds p := hA0
  rw [Tryd.params13] at hA hval
  obtain ⟨e, fr, htab⟩ := tab_of hL
  letI : BitTab Tryd.prog 1 := { tabs := [(1, _)], et := e, fr := fr, eq := rfl }
  obtain ⟨v0, v1, v2, d0, d1, d2, p0, p1, p2, rfl, rfl, rfl, h0, h1, h2⟩ := trodAll_three hA
  obtain ⟨rfl, rfl⟩ := trodVars_none hV
  obtain ⟨xs0, hv0, hkeep0, hx0, hl0⟩ := intSl_of Tryd.underlying22 Tryd.underlying3 (by kernel_rfl) (hval 0 22 v0 rfl rfl) h0
  obtain ⟨k1, rfl, rfl, rfl, hk1⟩ := open_int Tryd.underlying3 (hval 1 3 v1 rfl rfl) h1
  obtain ⟨k2, rfl, rfl, rfl, hk2⟩ := open_int Tryd.underlying3 (hval 2 3 v2 rfl rfl) h2
  have hcall := (Tryd.Am.law_needs hv0 (by omega) hx0 k1 k2).calls_true (w := W) (fun p hp => by
    obtain rfl : p = _ := List.mem_singleton.1 hp
    exact htab) (fun v hv => by
    rcases List.mem_cons.1 hv with rfl | hv
    · exact hkeep0
    rcases List.mem_cons.1 hv with rfl | hv
    · rfl
    obtain rfl := List.mem_singleton.1 hv; rfl)
  refine hcall.mono ?_
  rintro en W' ⟨rfl, hb⟩
  exact ⟨_, rfl, post_true (by kernel_rfl) (by kernel_rfl) rfl Tryd.underlying4 rfl hW' ⟨rfl, rfl, rfl⟩ hb⟩

theorem orderNeeds_holds : Rows.OrderNeedsSaid :=
  OpenClaim.holds_of_wide 13 Tryd.f13 rfl rfl rfl rfl rfl rfl rfl ⟨rfl, rfl, rfl, rfl, rfl⟩ rfl rfl rfl rfl rfl (by kernel_rfl) Tryd.func13 (by kernel_rfl)
    (of_decide_eq_true (by kernel_rfl)) (by unfold Func.isWrapper; first | (rw [if_pos (by decide +kernel)]; kernel_rfl) | (rw [if_neg (by decide +kernel)]; exact ⟨rfl, rfl⟩))
    (fun os started H enc _ => orderNeeds_lifted os started H enc)

theorem orderNeeds_card : Rows.OrderNeedsCardSaid :=
  Claim7.holds_tied_plain_at .later [] [.data, .data] true (true, "70f2802ad7a629d5e6cb855a707ce5e9e1d54c6da40cb5f3fa7d48da0451793d") false
    orderNeeds_holds (fun _ h => by cases h) (by kernel_rfl) (fun _ h => by cases h) orderNeeds_row_tie rfl ⟨rfl, rfl⟩ (by kernel_rfl) rfl
    (fun f fn hf hfn => by
      obtain rfl : f = 13 := Option.some.inj ((show Tryd.prog.funcNamed "planchet/planchetlaw07.OrderNeeds" = some 13 by kernel_rfl).symm.trans hf) |>.symm
      obtain rfl : fn = Tryd.f13 := (Option.some.inj (Tryd.func13.symm.trans hfn)).symm
      exact ⟨by kernel_rfl, fun j t ht => by
        rw [Tryd.params13] at ht
        have hm : t ∈ [22, 3, 3] := by simpa using Array.mem_of_getElem? ht
        have hall : ([22, 3, 3].all fun u => !Tryd.prog.wantsStandIn u) = true := by kernel_rfl
        exact (show Tryd.prog.wantsStandIn t = false by simpa using List.all_eq_true.1 hall t hm)⟩)
    (by kernel_rfl)
end Go.Proofs.YtnjacpfahhjpiaaDoor
