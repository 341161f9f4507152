/-
  sure: TrailingZeros64 of math/bits, on the model's own worlds, and as a contract.
-/
import Derived.Test.YtaagkbbphgdcdaaDoorProg
import Derived.Test.YtaagkbbphgdcdaaDoorAmO
import Derived.Shelf.Spec.TrailingZeros
import Derived.Shelf.Abstract
import Derived.TacticsInMore
import Derived.LoopNIn
import Derived.LoopIn
set_option linter.all false
namespace Go.Proofs.Tryd
open Go.RowKit Go.Am

set_option maxHeartbeats 1000000 in
theorem tz64_core (x k idx : Nat) (w : World) (hx0 : ((x : Int) == 0) = false)
    (key : IntKind.u64.wrap (bits BinOp.and IntKind.u64 (x : Int) (IntKind.u64.wrap (-(x : Int))) * 285870213051353865) / 288230376151711744 = (idx : Int))
    (hi : idx < 64) (hk : k < 64) (hcell : w.cell? ⟨0, idx, none⟩ = some (.int .u8 k)) :
    Calls prog 78 #[.int .u64 x] w fun e w' => e = .returned (.int .i64 k) ∧ w' = w := by
  go_enter func78, ntmps78
  go_wp2_with (simp only [key])
  go_ret
  exact ⟨rfl, rfl⟩

theorem tz64_zero (w : World) : Calls prog 78 #[.int .u64 0] w fun e w' => e = .returned (.int .i64 64) ∧ w' = w := by
  go_enter func78, ntmps78
  go_wp2
  go_ret
  exact ⟨rfl, rfl⟩
theorem tz64 (x : Nat) (hx : x < 18446744073709551616) (w : World) (hT : x ≠ 0 → TabAt 0 Lib.deBruijn64tab w) :
    Calls prog 78 #[.int .u64 x] w fun e w' => e = .returned (.int .i64 (Lib.ctz 64 x)) ∧ w' = w := by
  by_cases hx0 : x = 0
  · subst hx0; exact tz64_zero w
  · obtain ⟨hlow, hk⟩ := Lib.lowest_bit 64 x hx0 hx
    obtain ⟨hi, htab⟩ := Lib.deBruijn64_at _ hk
    have hcell := hT hx0 _ hi
    rw [htab] at hcell
    exact tz64_core x _ _ w (by simp; omega) (tz64_key x _ hx hx0 hlow) hi hk hcell
theorem tabAt_of [T : BitTab prog 0] {w : World} (h : ∀ p ∈ Tabs.tabs prog, w.heap[p.1]? = some p.2) : TabAt 0 Lib.deBruijn64tab w := by
  intro j hj
  have := h (0, _) (by rw [T.eq]; exact List.mem_singleton.2 rfl)
  simp only [World.cell?, this]
  simp [hj]
namespace Am
theorem tz_call [BitTab prog 0] {h : Heap} {x : Nat} (hx : x < 18446744073709551616) : APure prog 78 [.int .u64 (x : Int)] h (.int .i64 (Lib.ctz 64 x : Nat)) := by
  refine ⟨enters_of func78 (by kernel_rfl) rfl, fun n ρ args' w s hr => ?_⟩
  have e : args' = #[.int .u64 (x : Int)] := by
    apply Array.ext'
    obtain ⟨v', l', e1, h1, h2⟩ := hr.cons_inv
    have e2 : l' = [] := List.length_eq_zero_iff.1 h2.1.symm
    rw [e1, h1.int, e2]
  subst e
  refine callsIn_wide.2 ((tz64 x hx w fun _ => tabAt_of fun p hp => (s.tab p hp).1).mono ?_)
  rintro en w' ⟨rfl, rfl⟩
  exact ⟨_, _, ρ, h, rfl, ⟨rfl, rfl⟩, VRel.atom rfl, Evo.refl _ _ _, s⟩
end Am
end Go.Proofs.Tryd
