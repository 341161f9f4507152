/-
  BetsKept: no change of what is kept helps: over the horses that may win, chance divided by what there is sums to at most one, and to just one if something is kept.
  No conditions beyond the statement's own.
-/
import Derived.Test.YtcmindinomacbaaPk5
import Derived.Test.YtcmindinomacbaaRows
import Derived.Test.YtcmindinomacbaaChecked
import Derived.Test.YtcmindinomacbaaPk11
import Derived.Stop.Joined
import Derived.Handed
import Derived.JoinedOf
set_option linter.all false
namespace Go.Proofs.Ytcmindinomacbaa
open Go Go.Am Go.ChangeShapes Go.WideShapes Go.ChangeAt Go.WideMaps Go.WideElems Go.RowKit

theorem own : ownKnob Try.prog.godebug = none := by kernel_rfl

set_option maxRecDepth 100000 in
theorem betsKept_lifted (os : Os) (started : os.Started) (H : Type) (enc : TypeId × Value → H) :
    ReturnsInHanded {} Try.checked os 16 .any (Rows.betsKeptSpec.pre6 enc Try.prog Try.f16 [] false) (Rows.betsKeptSpec.post enc Try.prog Try.f16 false true false false) := by
  refine returnsInHanded_of_change (C := Try.checked) own started (by kernel_rfl) Try.func16
    (ChangeSpec.witness6 (enc := enc) (C := Try.checked) false ⟨#[], #[.slice none 0 0, .slice none 0 0], []⟩ 8 (by kernel_rfl) (by kernel_rfl) (by kernel_rfl) (by kernel_rfl)) ?_
  intro W base args ds gs before hval0 hW _ _
  have hval : ∀ (j : Nat) t v, Try.f16.params[j]? = some t → args[j]? = some v → Value.okWide Try.prog W .any base t v := hval0
  have hW' := hW
  obtain ⟨p, q, hA0, hV, rfl, hfz, hnd⟩ := hW
  have hA : DataW.TrodAll enc Try.prog W 0 (fun _ => true) true Try.f16.params.toList args.toList ds p := hA0
  rw [Try.params16] at hA hval
  letI : Tabs Try.prog := { tabs := [] }
  obtain ⟨v0, v1, d0, d1, p0, p1, rfl, rfl, rfl, h0, h1⟩ := trodAll_two hA
  obtain ⟨rfl, rfl⟩ := trodVars_none hV
  obtain ⟨xs0, hv0, hkeep0, hx0, hl0⟩ := intSl_of Try.underlying38 Try.underlying3 (by kernel_rfl) (hval 0 38 v0 rfl rfl) h0
  obtain ⟨xs1, hv1, hkeep1, hx1, hl1⟩ := intSl_of Try.underlying38 Try.underlying3 (by kernel_rfl) (hval 1 38 v1 rfl rfl) h1
  have hcall := (Try.Am.law_kept hv0 (by omega) hx0 hv1 (by omega) hx1).calls_true (w := W) (fun p hp => by cases hp) (fun v hv => by
    rcases List.mem_cons.1 hv with rfl | hv
    · exact hkeep0
    obtain rfl := List.mem_singleton.1 hv; exact hkeep1)
  refine hcall.mono ?_
  rintro en W' ⟨rfl, hb⟩
  exact ⟨_, rfl, post_true (by kernel_rfl) (by kernel_rfl) rfl Try.underlying4 rfl hW' ⟨rfl, rfl, rfl⟩ hb⟩

theorem betsKept_holds : Rows.BetsKeptSaid :=
  OpenClaim.holds_of_wide 16 Try.f16 rfl rfl rfl rfl rfl rfl rfl ⟨rfl, rfl, rfl, rfl, rfl⟩ rfl rfl rfl rfl rfl (by kernel_rfl) Try.func16 (by kernel_rfl)
    (of_decide_eq_true (by kernel_rfl)) (by unfold Func.isWrapper; first | (rw [if_pos (by decide +kernel)]; kernel_rfl) | (rw [if_neg (by decide +kernel)]; exact ⟨rfl, rfl⟩))
    (fun os started H enc _ => betsKept_lifted os started H enc)
end Go.Proofs.Ytcmindinomacbaa
