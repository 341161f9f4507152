/-
  BetsEither: BetsEither: just one of Sound and Beat returns OK; Agrees accepts the belief, and Beats the Book.
  No conditions beyond the statement's own.
-/
import Derived.Test.YtcmindinomacbaaPk5
import Derived.Test.YtcmindinomacbaaRows
import Derived.Test.YtcmindinomacbaaChecked
import Derived.Test.YtcmindinomacbaaPk11
import Derived.Stop.Joined
import Derived.Handed
import Derived.JoinedOf
set_option linter.all false
namespace Go.Proofs.Ytcmindinomacbaa
open Go Go.Am Go.ChangeShapes Go.WideShapes Go.ChangeAt Go.WideMaps Go.WideElems Go.RowKit

theorem own : ownKnob Try.prog.godebug = none := by kernel_rfl

set_option maxRecDepth 100000 in
theorem betsEither_lifted (os : Os) (started : os.Started) (H : Type) (enc : TypeId × Value → H) :
    ReturnsInHanded {} Try.checked os 13 .any (Rows.betsEitherSpec.pre6 enc Try.prog Try.f13 [] false) (Rows.betsEitherSpec.post enc Try.prog Try.f13 false true false false) := by
  refine returnsInHanded_of_change (C := Try.checked) own started (by kernel_rfl) Try.func13
    (ChangeSpec.witness6 (enc := enc) (C := Try.checked) false ⟨#[], #[.int .i64 0, .slice none 0 0], []⟩ 8 (by kernel_rfl) (by kernel_rfl) (by kernel_rfl) (by kernel_rfl)) ?_
  intro W base args ds gs before hval0 hW _ _
  have hval : ∀ (j : Nat) t v, Try.f13.params[j]? = some t → args[j]? = some v → Value.okWide Try.prog W .any base t v := hval0
  have hW' := hW
  obtain ⟨p, q, hA0, hV, rfl, hfz, hnd⟩ := hW
  have hA : DataW.TrodAll enc Try.prog W 0 (fun _ => true) true Try.f13.params.toList args.toList ds p := hA0
  rw [Try.params13] at hA hval
  letI : Tabs Try.prog := { tabs := [] }
  obtain ⟨v0, v1, d0, d1, p0, p1, rfl, rfl, rfl, h0, h1⟩ := trodAll_two hA
  obtain ⟨rfl, rfl⟩ := trodVars_none hV
  obtain ⟨k0, rfl, rfl, rfl, hk0⟩ := open_int Try.underlying3 (hval 0 3 v0 rfl rfl) h0
  obtain ⟨xs1, hv1, hkeep1, hx1, hl1⟩ := pairSt_of Try.underlying22 Try.underlying24 ⟨rfl, rfl⟩ ⟨rfl, rfl⟩ Try.underlying3 (by kernel_rfl) (by kernel_rfl) (hval 1 22 v1 rfl rfl) h1
  have hcall := (Try.Am.law_either k0 hv1 (by omega) hx1).calls_true (w := W) (fun p hp => by cases hp) (fun v hv => by
    rcases List.mem_cons.1 hv with rfl | hv
    · rfl
    obtain rfl := List.mem_singleton.1 hv; exact hkeep1)
  refine hcall.mono ?_
  rintro en W' ⟨rfl, hb⟩
  exact ⟨_, rfl, post_true (by kernel_rfl) (by kernel_rfl) rfl Try.underlying4 rfl hW' ⟨rfl, rfl, rfl⟩ hb⟩

theorem betsEither_holds : Rows.BetsEitherSaid :=
  OpenClaim.holds_of_wide 13 Try.f13 rfl rfl rfl rfl rfl rfl rfl ⟨rfl, rfl, rfl, rfl, rfl⟩ rfl rfl rfl rfl rfl (by kernel_rfl) Try.func13 (by kernel_rfl)
    (of_decide_eq_true (by kernel_rfl)) (by unfold Func.isWrapper; first | (rw [if_pos (by decide +kernel)]; kernel_rfl) | (rw [if_neg (by decide +kernel)]; exact ⟨rfl, rfl⟩))
    (fun os started H enc _ => betsEither_lifted os started H enc)
end Go.Proofs.Ytcmindinomacbaa
