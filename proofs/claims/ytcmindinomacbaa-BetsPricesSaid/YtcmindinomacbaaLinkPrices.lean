/-
  BetsPrices: the prices that leave the bets sound are all cents between the bounds; one bet more at such a price leaves them sound, at another one not.
  No conditions beyond the statement's own.
-/
import Derived.Test.YtcmindinomacbaaPk5
import Derived.Test.YtcmindinomacbaaRows
import Derived.Test.YtcmindinomacbaaChecked
import Derived.Test.YtcmindinomacbaaPk11
import Derived.Stop.Joined
import Derived.Handed
import Derived.JoinedOf
import Derived.HandedShaped
import Derived.SizedLaws
set_option linter.all false
namespace Go.Proofs.Ytcmindinomacbaa
open Go Go.Am Go.ChangeShapes Go.WideShapes Go.ChangeAt Go.WideMaps Go.WideElems Go.RowKit

theorem own : ownKnob Try.prog.godebug = none := by kernel_rfl

set_option maxRecDepth 100000 in
theorem betsPrices_lifted (os : Os) (started : os.Started) (H : Type) (enc : TypeId × Value → H) :
    ReturnsInHanded {} Try.checked os 10 .any (Rows.betsPricesSpec.pre6 enc Try.prog Try.f10 [] false) (Rows.betsPricesSpec.post enc Try.prog Try.f10 false true false false) := by
  refine returnsInHanded_of_change_shaped (C := Try.checked) own started (by kernel_rfl) Try.func10
    (ChangeSpec.witness6 (enc := enc) (C := Try.checked) false ⟨#[], #[.int .i64 0, .slice none 0 0, .int .i64 0, .int .i64 0], []⟩ 8 (by kernel_rfl) (by kernel_rfl) (by kernel_rfl) (by kernel_rfl)) ?_
  intro W base args ds gs before hval0 hW _ hwt _ _
  have hval : ∀ (j : Nat) t v, Try.f10.params[j]? = some t → args[j]? = some v → Value.okWide Try.prog W .any base t v := hval0
  have hW' := hW
  obtain ⟨p, q, hA0, hV, rfl, hfz, hnd⟩ := hW
  have hA : DataW.TrodAll enc Try.prog W 0 (fun _ => true) true Try.f10.params.toList args.toList ds p := hA0
  rw [Try.params10] at hA hval
  letI : Tabs Try.prog := { tabs := [] }
  obtain ⟨v0, v1, v2, v3, d0, d1, d2, d3, p0, p1, p2, p3, rfl, rfl, rfl, h0, h1, h2, h3⟩ := trods4 hA
  obtain ⟨rfl, rfl⟩ := trodVars_none hV
  obtain ⟨k0, rfl, rfl, rfl, hk0⟩ := open_int Try.underlying3 (hval 0 3 v0 rfl rfl) h0
  obtain ⟨xs1, hv1, hkeep1, hx1, hl1⟩ := pairSt_of Try.underlying22 Try.underlying24 ⟨rfl, rfl⟩ ⟨rfl, rfl⟩ Try.underlying3 (by kernel_rfl) (by kernel_rfl) (hval 1 22 v1 rfl rfl) h1
  have hb1 : xs1.length * 16 ≤ 140737488351232 := by
    rcases slice_weight Try.underlying22 h1 hv1 with hz | ⟨es, sp, hd, hlen⟩
    · omega
    · subst hd
      have h9 := sized_slice hwt (j := 1) (t := 22) (e := 24) rfl rfl Try.underlying22
      have h8 : Try.checked.prog.bytesOf 24 = 16 := by kernel_rfl
      rw [h8] at h9
      have h7 : reachBytes = 140737488351232 := rfl
      omega
  obtain ⟨k2, rfl, rfl, rfl, hk2⟩ := open_int Try.underlying3 (hval 2 3 v2 rfl rfl) h2
  obtain ⟨k3, rfl, rfl, rfl, hk3⟩ := open_int Try.underlying3 (hval 3 3 v3 rfl rfl) h3
  have hcall := (Try.Am.law_prices k0 hv1 (by omega) hx1 hb1 k2 k3).calls_true (w := W) (fun p hp => by cases hp) (fun v hv => by
    rcases List.mem_cons.1 hv with rfl | hv
    · rfl
    rcases List.mem_cons.1 hv with rfl | hv
    · exact hkeep1
    rcases List.mem_cons.1 hv with rfl | hv
    · rfl
    obtain rfl := List.mem_singleton.1 hv; rfl)
  refine hcall.mono ?_
  rintro en W' ⟨rfl, hb⟩
  exact ⟨_, rfl, post_true (by kernel_rfl) (by kernel_rfl) rfl Try.underlying4 rfl hW' ⟨rfl, rfl, rfl⟩ hb⟩

theorem betsPrices_holds : Rows.BetsPricesSaid :=
  OpenClaim.holds_of_wide 10 Try.f10 rfl rfl rfl rfl rfl rfl rfl ⟨rfl, rfl, rfl, rfl, rfl⟩ rfl rfl rfl rfl rfl (by kernel_rfl) Try.func10 (by kernel_rfl)
    (of_decide_eq_true (by kernel_rfl)) (by unfold Func.isWrapper; first | (rw [if_pos (by decide +kernel)]; kernel_rfl) | (rw [if_neg (by decide +kernel)]; exact ⟨rfl, rfl⟩))
    (fun os started H enc _ => betsPrices_lifted os started H enc)
end Go.Proofs.Ytcmindinomacbaa
