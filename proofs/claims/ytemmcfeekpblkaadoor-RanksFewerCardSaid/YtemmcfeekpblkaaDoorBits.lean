/-
  The seat's bits: TrailingZeros64 and TrailingZeros of math/bits, on the model's own worlds.
-/
import Derived.Test.YtemmcfeekpblkaaDoorProg
import Derived.Test.YtemmcfeekpblkaaDoorAmO
import Derived.Shelf.Spec.TrailingZeros
import Derived.Shelf.Abstract
import Derived.TacticsInMore
import Derived.LoopNIn
import Derived.LoopIn
set_option linter.all false
namespace Go.Proofs.Tryd
open Go.RowKit Go.Am

set_option maxHeartbeats 1000000 in
theorem tz64_core (x k idx : Nat) (w : World) (hx0 : ((x : Int) == 0) = false)
    (key : IntKind.u64.wrap (bits BinOp.and IntKind.u64 (x : Int) (IntKind.u64.wrap (-(x : Int))) * 285870213051353865) / 288230376151711744 = (idx : Int))
    (hi : idx < 64) (hk : k < 64) (hcell : w.cell? ⟨1, idx, none⟩ = some (.int .u8 k)) :
    Calls prog 106 #[.int .u64 x] w fun e w' => e = .returned (.int .i64 k) ∧ w' = w := by
  go_enter func106, ntmps106
  go_wp2_with (simp only [key])
  go_ret
  exact ⟨rfl, rfl⟩

theorem tz64_zero (w : World) : Calls prog 106 #[.int .u64 0] w fun e w' => e = .returned (.int .i64 64) ∧ w' = w := by
  go_enter func106, ntmps106
  go_wp2
  go_ret
  exact ⟨rfl, rfl⟩
theorem tz64 (x : Nat) (hx : x < 18446744073709551616) (w : World) (hT : x ≠ 0 → TabAt 1 Lib.deBruijn64tab w) :
    Calls prog 106 #[.int .u64 x] w fun e w' => e = .returned (.int .i64 (Lib.ctz 64 x)) ∧ w' = w := by
  by_cases hx0 : x = 0
  · subst hx0; exact tz64_zero w
  · obtain ⟨hlow, hk⟩ := Lib.lowest_bit 64 x hx0 hx
    obtain ⟨hi, htab⟩ := Lib.deBruijn64_at _ hk
    have hcell := hT hx0 _ hi
    rw [htab] at hcell
    exact tz64_core x _ _ w (by simp; omega) (tz64_key x _ hx hx0 hlow) hi hk hcell
theorem tz (x : Nat) (hx : x < 18446744073709551616) (w : World) (hT : x ≠ 0 → TabAt 1 Lib.deBruijn64tab w) :
    Calls prog 94 #[.int .u64 x] w fun e w' => e = .returned (.int .i64 (Lib.ctz 64 x)) ∧ w' = w := by
  have c64 := tz64 x hx w hT
  have e29 : ∀ args w, (callFunc 106 args).run prog w = .ok (.enter 106 args) w := enters_of func106 (by kernel_rfl) rfl
  have hw : IntKind.u64.wrap (x : Int) = (x : Int) := by rw [IntKind.wrap_u64]; omega
  go_enter func94, ntmps94
  go_wp2_with (go_at_fn 106; refine c64.mono ?_; rintro e w' ⟨rfl, hw'⟩; rw [hw'])
  go_ret
  exact ⟨rfl, rfl⟩

theorem and_pred_lt (s : Nat) (h : s ≠ 0) : s &&& (s - 1) < s := Nat.lt_of_le_of_lt Nat.and_le_right (by omega)

/-- What is left of a set, in its box. -/
def boxLeft (B : Nat) (w : World) : Nat := match w.cell? ⟨B, 0, none⟩ with | some (.int _ n) => n.toNat | _ => 0
theorem boxLeft_eq {B s : Nat} {w : World} (h : w.cell? ⟨B, 0, none⟩ = some (.int .i64 s)) : boxLeft B w = s := by simp [boxLeft, h]

attribute [local go_sem] Oper.semAt_some

set_option maxRecDepth 100000 in
set_option maxHeartbeats 2000000 in
theorem players1 (l B s : Nat) (J Jx : List Nat → World → Prop) (W : World) (hs : s < 9223372036854775808) (hB : W.cell? ⟨B, 0, none⟩ = some (.int .i64 s)) (hfz : W.frozen? ⟨B, 0, none⟩ = false)
    (hT : ∀ pre W, J pre W → TabAt 1 Lib.deBruijn64tab W)
    (hst : ∀ pre W v, J pre W → J pre (W.setCell ⟨B, 0, none⟩ v))
    (hY : ∀ pre (x : Nat) W, J pre W → pre ++ [x] <+: Am.bits s → YieldAt Fence.wide 0 prog l #[.int .i64 x] W fun en W' =>
      (en = .returned (.bool true) ∧ J (pre ++ [x]) W' ∧ W'.cell? ⟨B, 0, none⟩ = W.cell? ⟨B, 0, none⟩ ∧ W'.frozen? ⟨B, 0, none⟩ = W.frozen? ⟨B, 0, none⟩) ∨ (en = .returned (.bool false) ∧ Jx (pre ++ [x]) W'))
    (h0 : J [] W) :
    CallsIn Fence.wide 1 prog 93 #[.func (.yield l) #[] #[], .pointer (some ⟨B, 0, none⟩)] W fun en W' => (∃ v, en = .returned v) ∧ (J (Am.bits s) W' ∨ ∃ pre, Jx pre W') := by
  refine callsIn_of_wp func93 rfl trivial ?_ rfl
  simp only [ntmps93, List.size_toArray, List.length_cons, List.length_nil, Nat.reduceAdd, Nat.reduceSub, Array.replicate_succ, Array.replicate_zero, List.push_toArray, List.append_toArray, List.nil_append, List.cons_append]
  have e94 : ∀ args w, (callFunc 94 args).run prog w = .ok (.enter 94 args) w := enters_of func94 (by kernel_rfl) rfl
  gi_wp2
  gi_loopw [3] (fun _ wr => ∃ (pre : List Nat) (t : Nat), t < 9223372036854775808 ∧ Am.bits s = pre ++ Am.bits t ∧ wr.cell? ⟨B, 0, none⟩ = some (.int .i64 t) ∧ wr.frozen? ⟨B, 0, none⟩ = false ∧ J pre wr)
    (fun _ wr => boxLeft B wr)
  case atStart => exact ⟨[], s, hs, rfl, hB, hfz, h0⟩
  case round =>
    obtain ⟨pre, t, ht, hx, hc, hf, hJ⟩ := hrel
    by_cases ht0 : t = 0
    · subst ht0
      gi_wp2
      go_end0
      exact ⟨⟨_, rfl⟩, .inl (by rw [hx, show Am.bits 0 = [] from rfl, List.append_nil]; exact hJ)⟩
    · have hw : IntKind.u64.wrap (t : Int) = (t : Int) := by rw [IntKind.wrap_u64]; omega
      have htz := tz t (by omega) wr (fun _ => hT _ _ hJ)
      have hy := hY pre (Lib.ctz 64 t) wr hJ (by rw [hx, Am.bits_step t ht ht0]; simp)
      have hne : ((t : Int) == 0) = false := by simpa using ht0
      have htz' : CallsIn Fence.wide 0 prog 94 #[.int .u64 t] wr fun e w' => e = .returned (.int .i64 (Lib.ctz 64 t)) ∧ w' = wr := callsIn_wide.2 htz
      obtain ⟨fn, tmps, assign, body, hy1, hR⟩ := hy
      gi_wp2
      refine ⟨trivial, htz'.mono ?_⟩
      rintro e w2 ⟨rfl, rfl⟩
      gi_wp2
      refine hR.mono ?_
      rintro e W3 (⟨rfl, hJ3, hc3, hf3⟩ | ⟨rfl, hJx3⟩)
      · rw [hc] at hc3
        rw [hf] at hf3
        gi_wp2
        have hand : bits BinOp.and IntKind.i64 (t : Int) ((t : Int) - 1) = ((t &&& (t - 1) : Nat) : Int) := by
          have := bitsV_and (a := t) (b := t - 1) ht (by omega)
          rw [← this, show ((t - 1 : Nat) : Int) = (t : Int) - 1 by omega]; rfl
        have hlt := and_pred_lt t ht0
        rw [hand]
        have hcell : (W3.setCell ⟨B, 0, none⟩ (.int .i64 ((t &&& (t - 1) : Nat) : Int))).cell? ⟨B, 0, none⟩ = some (.int .i64 ((t &&& (t - 1) : Nat) : Int)) := World.cell?_setCell_same' _ _ _ (by rw [hc3]; rfl)
        refine ⟨⟨_, _, _, _, _, _, _, _, _, _, _, _, ⟨pre ++ [Lib.ctz 64 t], t &&& (t - 1), by omega, by rw [hx, Am.bits_step t ht ht0]; simp, hcell, by rw [World.frozen?_setCell]; exact hf3, hst _ _ _ hJ3⟩, rfl⟩, ?_⟩
        rw [boxLeft_eq hcell, boxLeft_eq hc]
        exact hlt
      · gi_wp2
        refine bodyPost_ret (results_none rfl _ _ _) rfl ?_
        exact ⟨⟨_, rfl⟩, .inr ⟨_, hJx3⟩⟩

theorem tabAt_of [T : BitTab prog 1] {w : World} (h : ∀ p ∈ Tabs.tabs prog, w.heap[p.1]? = some p.2) : TabAt 1 Lib.deBruijn64tab w := by
  intro j hj
  have := h (1, _) (by rw [T.eq]; exact List.mem_singleton.2 rfl)
  simp only [World.cell?, this]
  simp [hj]

theorem bitIter [BitTab prog 1] : BitIter prog 93 := by
  refine ⟨enters_of func93 (by kernel_rfl) rfl, ?_⟩
  intro r l B s J Jx W hs hB hfz hT hst hY h0
  cases r with
  | none => exact players1 l B s J Jx W hs hB hfz (fun pre W hJ => tabAt_of (hT pre W hJ)) hst hY h0
  | some l0 => exact CallsIn.inRound l0 (players1 l B s J Jx W hs hB hfz (fun pre W hJ => tabAt_of (hT pre W hJ)) hst hY h0)
#print axioms bitIter
end Go.Proofs.Tryd
