/-
  bets: the reference's equations as they lie in memory.
  bets: the reference's elimination.
  bets: the reference's corner.
  bets: the reference's corners; whether bets are sound.
  Printed by gen.py: the code of some functions, without what no step looks at; held against the program's own by the kernel.
  bets: law Sound.
  bets: the bounds of an event.
  bets: bounds and prices.
  bets: bounds and prices, in the reference.
  bets: bets cloned and one more; small numbers told; the bounds and a belief.
  bets: law More.
  bets: a number among numbers; numbers in order.
-/
import Derived.Test.YtcmindinomacbaaPk9
import Derived.Test.YtcmindinomacbaaPk8
import Derived.Test.YtcmindinomacbaaPk5
import Derived.Test.YtcmindinomacbaaPk3
import Derived.Test.YtcmindinomacbaaProg
import Derived.KernelRfl
import Derived.Shelf.Abstract
set_option linter.all false
namespace Go.Proofs.Try.Am
open Go.Am Bq
set_option maxRecDepth 100000
set_option maxHeartbeats 1000000

section
variable {h h' : Zh} {B m k C : Nat} {w : Nat → Value} {bk : Nat → Nat} {T T' : Xv}
end
/-- Equations as they grow, from none on. -/
def RowsN (hp0 : Nat) (G : Zh) (q : Value) (ws : List Value) (k : Nat) (T : Xv) : Prop := (ws = [] ∧ q = .slice none 0 0) ∨ (Rows hp0 G q ws k T ∧ OwnV 47 G q ws)
/-- One row more. -/
theorem Rows.moreN [Tabs prog] {hp0 : Nat} {G G2 : Zh} {q rv : Value} {ws : List Value} {k b2 : Nat} {T : Xv} (R : Rows hp0 G q ws k T) (hl : ws.length ≤ 1000) (h0 : hp0 ≤ G.length) (hE : Ext (fun _ => False) G G2) (hr : OwnP 26 G2 rv (rowC T k ws.length)) (hrb : ∀ b, Yf rv = some b → G.length ≤ b) (hb2 : G2[b2]? = some (.cells [rv] 47 false))
    {K : Value → Zh → Prop} (hk : ∀ q' h', OwnV 47 h' q' (ws ++ [rv]) → Rows hp0 h' q' (ws ++ [rv]) k T → Ext (fun b => hp0 ≤ b) G2 h' → Ext (fun i => Yf q = some i) G2 h' → K q' h') : Yq prog G2 94 94 q (.slice (some ⟨b2, 0, none⟩) 1 1) K := by
  have R2 := R.ext hE
  obtain ⟨bq, cq, hbq, hq1, hq2⟩ := R.sl.blk R.ne
  obtain ⟨br, yr, hr1, hr2⟩ := Wb hr rowC_ne
  have hbr : Yf rv = some br := by rw [hr1]; rfl
  have hbrl := hrb br hbr
  have hw : ∀ w ∈ ws ++ [rv], notI w = true ∧ one w = true := fun w hw => by
    rcases List.mem_append.1 hw with h1 | h1
    · obtain ⟨i, hi, rfl⟩ := List.mem_iff_getElem.1 h1
      obtain ⟨b, ys, e1, _⟩ := Wb (R.row i hi) rowC_ne
      rw [List.getD, List.getElem?_eq_getElem hi, Option.getD_some] at e1
      rw [e1]; exact ⟨rfl, rfl⟩
    · rw [List.mem_singleton.1 h1, hr1]; exact ⟨rfl, rfl⟩
  refine R2.sl.app R.ne app_94_94 hb2 hw hl fun q' h' ho hE' hb' => ?_
  have rowb : ∀ i, i < ws.length → ∃ b, Yf (ws.getD i undef) = some b ∧ b < G.length := fun i hi => by
    obtain ⟨b, ys, e1, e2⟩ := Wb (R.row i hi) rowC_ne
    exact ⟨b, by rw [e1]; rfl, Yn e2⟩
  have g1 : ∀ i, i < ws.length → (ws ++ [rv]).getD i undef = ws.getD i undef := fun i hi => by
    rw [List.getD, List.getElem?_append_left hi]; rfl
  have g2 : (ws ++ [rv]).getD ws.length undef = rv := by simp [List.getD]
  have hq'b : ∀ b, Yf q' = some b → b = bq ∨ G2.length ≤ b := fun b hb => by
    rcases hb' with h1 | ⟨b', h1, h2⟩
    · rw [h1, hbq] at hb; cases hb; exact .inl rfl
    · rw [h1] at hb; cases hb; exact .inr h2
  have keep : ∀ b, b ≠ bq → b < G2.length → h'[b]? = G2[b]? := fun b hb hl => hE'.2 b hl fun hc => hb (by rw [hbq] at hc; cases hc; rfl)
  refine hk q' h' ho ⟨.inr ho, by simp, fun i hi => ?_, fun i j hi hj he => ?_, fun i hi => ?_, ⟨fun b hb => ?_, fun i b hi hb => ?_⟩⟩ (hE'.mono fun b hb => R.old.1 b hb) hE'
  · rw [List.length_append, List.length_singleton] at hi
    rcases Nat.lt_or_ge i ws.length with h1 | h1
    · rw [g1 i h1]
      refine (R2.row i h1).same fun b hb => ?_
      obtain ⟨b', e1, e2⟩ := rowb i h1
      rw [e1] at hb; cases hb
      exact keep _ (fun hc => R.sep i h1 (by rw [e1, hbq, hc])) (by have := hE.1; omega)
    · rw [show i = ws.length by omega, g2]
      refine hr.same fun b hb => ?_
      rw [hbr] at hb; cases hb
      exact keep _ (by omega) (Yn hr2)
  · rw [List.length_append, List.length_singleton] at hi hj
    rcases Nat.lt_or_ge i ws.length with h1 | h1 <;> rcases Nat.lt_or_ge j ws.length with h2 | h2
    · rw [g1 i h1, g1 j h2] at he; exact R.inj i j h1 h2 he
    · rw [g1 i h1, show j = ws.length by omega, g2, hbr] at he
      obtain ⟨b', e1, e2⟩ := rowb i h1
      rw [e1] at he; cases he; omega
    · rw [g1 j h2, show i = ws.length by omega, g2, hbr] at he
      obtain ⟨b', e1, e2⟩ := rowb j h2
      rw [e1] at he; cases he; omega
    · omega
  · rw [List.length_append, List.length_singleton] at hi
    intro hc
    rcases Nat.lt_or_ge i ws.length with h1 | h1
    · rw [g1 i h1] at hc
      obtain ⟨b', e1, e2⟩ := rowb i h1
      rw [e1] at hc
      rcases hq'b b' hc.symm with h3 | h3
      · exact R.sep i h1 (by rw [e1, hbq, h3])
      · have := hE.1; omega
    · rw [show i = ws.length by omega, g2, hbr] at hc
      rcases hq'b br hc.symm with h3 | h3
      · omega
      · have := Yn hr2; omega
  · rcases hq'b b hb with h3 | h3
    · rw [h3]; exact R.old.1 _ hbq
    · have := hE.1; omega
  · rw [List.length_append, List.length_singleton] at hi
    rcases Nat.lt_or_ge i ws.length with h1 | h1
    · rw [g1 i h1] at hb; exact R.old.2 i b h1 hb
    · rw [show i = ws.length by omega, g2] at hb
      have := hrb b hb; omega

theorem RowsN.more [Tabs prog] {hp0 : Nat} {G G2 : Zh} {q rv : Value} {ws : List Value} {k b2 : Nat} {T : Xv} (R : RowsN hp0 G q ws k T) (hl : ws.length ≤ 1000) (h0 : hp0 ≤ G.length) (hE : Ext (fun _ => False) G G2) (hr : OwnP 26 G2 rv (rowC T k ws.length)) (hrb : ∀ b, Yf rv = some b → G.length ≤ b) (hb2 : G2[b2]? = some (.cells [rv] 47 false))
    {K : Value → Zh → Prop} (hk : ∀ q' h', RowsN hp0 h' q' (ws ++ [rv]) k T → Ext (fun b => hp0 ≤ b) G2 h' → Ext (fun i => Yf q = some i) G2 h' → K q' h') : Yq prog G2 94 94 q (.slice (some ⟨b2, 0, none⟩) 1 1) K := by
  rcases R with ⟨rfl, rfl⟩ | ⟨R, _⟩
  · obtain ⟨br, yr, hr1, hr2⟩ := Wb hr rowC_ne
    have hbr : Yf rv = some br := by rw [hr1]; rfl
    have hbrl := hrb br hbr
    refine OwnV.app (e := 47) (h := G2) (v := .slice none 0 0) (ws := []) (us := [rv]) (.inl ⟨rfl, rfl⟩) app_94_94 (.inr ⟨b2, 0, none, 1, [rv], 47, false, rfl, Nat.le_refl _, by simp [view, hb2, Blk.view], rfl⟩) (fun w hw => ?_) (by simp) fun q' h' ho hE' hb' => ?_
    · rw [List.nil_append, List.mem_singleton] at hw
      rw [hw, hr1]; exact ⟨rfl, rfl⟩
    · have hE2 : Ext (fun _ => False) G2 h' := hE'.mono fun b hb => by cases hb
      refine hk q' h' (.inr ⟨⟨.inr ho, by simp, fun i hi => ?_, fun i j hi hj _ => ?_, fun i hi hc => ?_, ⟨fun b hb => ?_, fun i b hi hb => ?_⟩⟩, ho⟩) (hE2.mono fun _ h => h.elim) hE'
      · obtain rfl : i = 0 := by simpa using hi
        exact hr.ext hE2
      · simp at hi hj; omega
      · obtain rfl : i = 0 := by simpa using hi
        simp only [List.nil_append, List.getD, List.getElem?_cons_zero, Option.getD_some, hbr] at hc
        rcases hb' with h1 | ⟨b', h1, h2⟩
        · rw [h1] at hc; cases hc
        · rw [h1] at hc; cases hc
          have := Yn hr2; omega
      · rcases hb' with h1 | ⟨b', h1, h2⟩
        · rw [h1] at hb; cases hb
        · rw [h1] at hb; cases hb
          have := hE.1; omega
      · obtain rfl : i = 0 := by simpa using hi
        simp only [List.nil_append, List.getD, List.getElem?_cons_zero, Option.getD_some, hbr] at hb
        cases hb; omega
  · exact R.moreN hl h0 hE hr hrb hb2 fun q' h' ho R' e1 e2 => hk q' h' (.inr ⟨R', ho⟩) e1 e2
theorem oExt {h0 H H' h' : Zh} {v v' : Value} (hE : Ext (fun _ => False) h0 H) (hb : ∀ b, Yf v = some b → h0.length ≤ b) (g : List Blk) (hE' : Ext (fun i => Yf v = some i) (H ++ g) h') (hb' : Yf v' = Yf v ∨ ∃ b, Yf v' = some b ∧ (H ++ g).length ≤ b) : Ext (fun _ => False) h0 h' ∧ ∀ b, Yf v' = some b → h0.length ≤ b := by
  have hl' := hE'.1
  have l1 := hE.1
  rw [List.length_append] at hl'
  refine ⟨⟨by omega, fun q hq _ => ?_⟩, fun b hb0 => ?_⟩
  · rw [hE'.2 q (by rw [List.length_append]; omega) (fun hb0 => by have := hb q hb0; omega), List.getElem?_append_left (by omega)]
    exact hE.2 q hq id
  · rcases hb' with hb' | ⟨b', hb1, hb2⟩
    · exact hb b (hb' ▸ hb0)
    · rw [hb1] at hb0; cases hb0
      rw [List.length_append] at hb2
      omega
end Go.Proofs.Try.Am

namespace Go.Proofs.Try.Am
open Go.Am Bq
set_option maxRecDepth 100000
set_option maxHeartbeats 4000000

end Go.Proofs.Try.Am

namespace Go.Proofs.Try.Am
open Go.Am Bq
set_option maxRecDepth 100000
set_option maxHeartbeats 4000000

theorem cts_of {n : Nat} {l : List (Int × Int)} (h : Yu n l = true) : Cts l := fun i hi => by
  have := (Wr h).2.2.2.2 i hi
  simp only [okB, Bool.and_eq_true, decide_eq_true_eq] at this
  exact this.2.2
end Go.Proofs.Try.Am

namespace Go.Proofs.Try.Am
open Go.Am Bq
set_option maxRecDepth 100000
set_option maxHeartbeats 4000000

def CornSlR (h : Zh) (v : Value) (cs : List (List Rat)) : Prop := ∃ ws, OwnV 47 h v ws ∧ Each (BelAt h) ws cs
theorem CornSlR.ext {h h' : Zh} {v : Value} {cs : List (List Rat)} (c : CornSlR h v cs) (hE : Ext (fun _ => False) h h') : CornSlR h' v cs := by
  obtain ⟨ws, h1, h2⟩ := c
  exact ⟨ws, h1.ext hE, h2.imp fun w b ⟨bl, g1, g2⟩ => ⟨bl, g1, (hE.2 _ (Yn g2) id).trans g2⟩⟩

end Go.Proofs.Try.Am

namespace Go.Proofs.Try.Am
open Go.Am
set_option maxRecDepth 100000
/-! 3: planchet planchetlaw09.BetsMore -/
@[reducible] def q3_0 : SCode := .region [⟨some 6, .box 24 (.tmp 2), none⟩,
    ⟨some 8, .assign (.const (.bool false)), none⟩]
@[reducible] def q3_1 : SCode := .region [⟨some 17, .move (.tmp 0), none⟩,
    ⟨some 18, .move (.tmp 1), none⟩,
    ⟨some 19, .call { callee := .value (.func 18), args := #[.tmp 18], argTypes := #[22] }, none⟩,
    ⟨some 20, .move (.tmp 3), none⟩,
    ⟨some 21, .call { callee := .value (.func 17), args := #[.tmp 17, .tmp 19, .tmp 20], argTypes := #[3, 30, 3] }, none⟩,
    ⟨some 16, .move (.tmp 21), none⟩,
    ⟨some 22, .extract (.tmp 16) 0, none⟩,
    ⟨some 23, .extract (.tmp 16) 1, none⟩,
    ⟨some 24, .extract (.tmp 16) 2, none⟩,
    ⟨some 9, .alloc 26, none⟩,
    ⟨some 10, .alloc 26, none⟩,
    ⟨none, .store 26 (.tmp 9) (.tmp 22), none⟩,
    ⟨none, .store 26 (.tmp 10) (.tmp 23), none⟩,
    ⟨some 11, .assign (.tmp 24), none⟩]
def q3_2 : SCode := .draw [⟨some 25, .move (.tmp 1), none⟩,
    ⟨some 26, .call { callee := .value (.func 19), args := #[.tmp 25], argTypes := #[22] }, none⟩,
    ⟨some 27, .load 24 (.tmp 6), none⟩,
    ⟨some 28, .buildSlice 22 1 #[(0, .tmp 27)], none⟩,
    ⟨some 29, .call { callee := .builtin .append, args := #[.tmp 26, .tmp 28], argTypes := #[22, 22] }, none⟩,
    ⟨some 12, .assign (.tmp 29), none⟩]
   [[], [0], [], [2], [1, 3, 1], [4, 4, 0, 1, 2, 3, 4]]
@[reducible] def q3_3 : SCode := .region [⟨some 31, .move (.tmp 0), none⟩,
    ⟨some 32, .move (.tmp 12), none⟩,
    ⟨some 33, .call { callee := .value (.func 18), args := #[.tmp 32], argTypes := #[22] }, none⟩,
    ⟨some 34, .move (.tmp 3), none⟩,
    ⟨some 35, .call { callee := .value (.func 17), args := #[.tmp 31, .tmp 33, .tmp 34], argTypes := #[3, 30, 3] }, none⟩,
    ⟨some 30, .move (.tmp 35), none⟩,
    ⟨some 36, .extract (.tmp 30) 0, none⟩,
    ⟨some 37, .extract (.tmp 30) 1, none⟩,
    ⟨some 38, .extract (.tmp 30) 2, none⟩,
    ⟨some 13, .alloc 26, none⟩,
    ⟨some 14, .alloc 26, none⟩,
    ⟨none, .store 26 (.tmp 13) (.tmp 36), none⟩,
    ⟨none, .store 26 (.tmp 14) (.tmp 37), none⟩,
    ⟨some 15, .assign (.tmp 38), none⟩]
@[reducible] def q3_4 : SCode := .region [⟨some 39, .move (.tmp 0), none⟩,
    ⟨some 40, .move (.tmp 1), none⟩,
    ⟨some 41, .call { callee := .value (.func 20), args := #[.tmp 39, .tmp 40], argTypes := #[3, 22] }, none⟩,
    ⟨some 42, .unOp .not 4 (.tmp 41), none⟩]
@[reducible] def q3_5 : SCode := .region [⟨some 43, .move (.tmp 11), none⟩,
    ⟨some 44, .binOp .eql 27 (.tmp 43) (.const (.int .i64 2)) 27, none⟩,
    ⟨some 45, .move (.tmp 44), none⟩,
    ⟨some 46, .call { callee := .value (.func 21), args := #[], argTypes := #[] }, some (45, true)⟩,
    ⟨some 47, .pick (.tmp 45) (.tmp 46) (.const (.bool false)), none⟩,
    ⟨some 8, .assign (.tmp 47), none⟩]
@[reducible] def q3_6 : SCode := .region [⟨some 48, .move (.tmp 11), none⟩,
    ⟨some 49, .binOp .neq 27 (.tmp 48) (.const (.int .i64 0)) 27, none⟩,
    ⟨some 50, .move (.tmp 49), none⟩,
    ⟨some 51, .move (.tmp 15), some (50, false)⟩,
    ⟨some 52, .binOp .neq 27 (.tmp 51) (.const (.int .i64 0)) 27, some (50, false)⟩,
    ⟨some 53, .pick (.tmp 50) (.const (.bool true)) (.tmp 52), none⟩,
    ⟨some 54, .move (.tmp 53), none⟩,
    ⟨some 55, .move (.tmp 0), some (54, false)⟩,
    ⟨some 56, .move (.tmp 12), some (54, false)⟩,
    ⟨some 57, .call { callee := .value (.func 20), args := #[.tmp 55, .tmp 56], argTypes := #[3, 22] }, some (54, false)⟩,
    ⟨some 58, .unOp .not 4 (.tmp 57), some (54, false)⟩,
    ⟨some 59, .pick (.tmp 54) (.const (.bool true)) (.tmp 58), none⟩]
@[reducible] def q3_7 : SCode := .region [⟨some 60, .move (.tmp 11), none⟩,
    ⟨some 61, .binOp .eql 27 (.tmp 60) (.const (.int .i64 0)) 27, none⟩,
    ⟨some 62, .move (.tmp 61), none⟩,
    ⟨some 63, .move (.tmp 11), some (62, false)⟩,
    ⟨some 64, .binOp .eql 27 (.tmp 63) (.const (.int .i64 2)) 27, some (62, false)⟩,
    ⟨some 65, .pick (.tmp 62) (.const (.bool true)) (.tmp 64), none⟩,
    ⟨some 66, .move (.tmp 65), none⟩,
    ⟨some 67, .move (.tmp 11), some (66, false)⟩,
    ⟨some 68, .binOp .eql 27 (.tmp 67) (.const (.int .i64 5)) 27, some (66, false)⟩,
    ⟨some 69, .pick (.tmp 66) (.const (.bool true)) (.tmp 68), none⟩,
    ⟨some 70, .move (.tmp 69), none⟩,
    ⟨some 71, .move (.tmp 15), some (70, true)⟩,
    ⟨some 72, .binOp .eql 27 (.tmp 71) (.const (.int .i64 2)) 27, some (70, true)⟩,
    ⟨some 73, .move (.tmp 72), some (70, true)⟩,
    ⟨some 74, .move (.tmp 15), some (73, false)⟩,
    ⟨some 75, .binOp .eql 27 (.tmp 74) (.const (.int .i64 5)) 27, some (73, false)⟩,
    ⟨some 76, .pick (.tmp 73) (.const (.bool true)) (.tmp 75), some (70, true)⟩,
    ⟨some 77, .pick (.tmp 70) (.tmp 76) (.const (.bool false)), none⟩,
    ⟨some 78, .move (.tmp 77), none⟩,
    ⟨some 79, .call { callee := .value (.func 21), args := #[], argTypes := #[] }, some (78, true)⟩,
    ⟨some 80, .pick (.tmp 78) (.tmp 79) (.const (.bool false)), none⟩,
    ⟨some 8, .assign (.tmp 80), none⟩]
@[reducible] def q3_8 : SCode := .region [⟨some 81, .load 26 (.tmp 9), none⟩,
    ⟨some 82, .call { callee := .value (.func 22), args := #[.tmp 81], argTypes := #[26] }, none⟩,
    ⟨some 83, .move (.tmp 82), none⟩,
    ⟨some 84, .load 26 (.tmp 10), some (83, true)⟩,
    ⟨some 85, .call { callee := .value (.func 22), args := #[.tmp 84], argTypes := #[26] }, some (83, true)⟩,
    ⟨some 86, .pick (.tmp 83) (.tmp 85) (.const (.bool false)), none⟩,
    ⟨some 87, .move (.tmp 86), none⟩,
    ⟨some 88, .load 26 (.tmp 13), some (87, true)⟩,
    ⟨some 89, .call { callee := .value (.func 22), args := #[.tmp 88], argTypes := #[26] }, some (87, true)⟩,
    ⟨some 90, .pick (.tmp 87) (.tmp 89) (.const (.bool false)), none⟩,
    ⟨some 91, .move (.tmp 90), none⟩,
    ⟨some 92, .load 26 (.tmp 14), some (91, true)⟩,
    ⟨some 93, .call { callee := .value (.func 22), args := #[.tmp 92], argTypes := #[26] }, some (91, true)⟩,
    ⟨some 94, .pick (.tmp 91) (.tmp 93) (.const (.bool false)), none⟩,
    ⟨some 95, .move (.tmp 94), none⟩,
    ⟨some 96, .load 26 (.tmp 13), some (95, true)⟩,
    ⟨some 97, .load 26 (.tmp 9), some (95, true)⟩,
    ⟨some 98, .call { callee := .value (.func 23), args := #[.tmp 96, .tmp 97], argTypes := #[26, 26] }, some (95, true)⟩,
    ⟨some 99, .unOp .not 4 (.tmp 98), some (95, true)⟩,
    ⟨some 100, .pick (.tmp 95) (.tmp 99) (.const (.bool false)), none⟩,
    ⟨some 101, .move (.tmp 100), none⟩,
    ⟨some 102, .load 26 (.tmp 10), some (101, true)⟩,
    ⟨some 103, .load 26 (.tmp 14), some (101, true)⟩,
    ⟨some 104, .call { callee := .value (.func 23), args := #[.tmp 102, .tmp 103], argTypes := #[26, 26] }, some (101, true)⟩,
    ⟨some 105, .unOp .not 4 (.tmp 104), some (101, true)⟩,
    ⟨some 106, .pick (.tmp 101) (.tmp 105) (.const (.bool false)), none⟩,
    ⟨some 107, .move (.tmp 106), none⟩,
    ⟨some 108, .call { callee := .value (.func 21), args := #[], argTypes := #[] }, some (107, true)⟩,
    ⟨some 109, .pick (.tmp 107) (.tmp 108) (.const (.bool false)), none⟩,
    ⟨some 8, .assign (.tmp 109), none⟩]
def s3 : SCode := (.seq q3_0 (.seq q3_1 (.seq q3_2 (.seq q3_3 (.seq (.seq q3_4 (.cond (.tmp 42) (.seq q3_5 .ret) .skip)) (.seq (.seq q3_6 (.cond (.tmp 59) (.seq q3_7 .ret) .skip)) (.seq q3_8 .ret)))))))
/-! 4: planchet planchetlaw09.BetsBounds -/
@[reducible] def q4_0 : SCode := .region [⟨some 6, .assign (.const (.bool false)), none⟩]
@[reducible] def q4_1 : SCode := .region [⟨some 15, .move (.tmp 0), none⟩,
    ⟨some 16, .move (.tmp 1), none⟩,
    ⟨some 17, .call { callee := .value (.func 18), args := #[.tmp 16], argTypes := #[22] }, none⟩,
    ⟨some 18, .move (.tmp 2), none⟩,
    ⟨some 19, .call { callee := .value (.func 17), args := #[.tmp 15, .tmp 17, .tmp 18], argTypes := #[3, 30, 3] }, none⟩,
    ⟨some 14, .move (.tmp 19), none⟩,
    ⟨some 20, .extract (.tmp 14) 0, none⟩,
    ⟨some 21, .extract (.tmp 14) 1, none⟩,
    ⟨some 22, .extract (.tmp 14) 2, none⟩,
    ⟨some 7, .alloc 26, none⟩,
    ⟨some 8, .alloc 26, none⟩,
    ⟨none, .store 26 (.tmp 7) (.tmp 20), none⟩,
    ⟨none, .store 26 (.tmp 8) (.tmp 21), none⟩,
    ⟨some 9, .assign (.tmp 22), none⟩]
@[reducible] def q4_2 : SCode := .region [⟨some 24, .move (.tmp 0), none⟩,
    ⟨some 25, .move (.tmp 1), none⟩,
    ⟨some 26, .call { callee := .value (.func 18), args := #[.tmp 25], argTypes := #[22] }, none⟩,
    ⟨some 27, .move (.tmp 2), none⟩,
    ⟨some 28, .call { callee := .value (.func 24), args := #[.tmp 24, .tmp 26, .tmp 27], argTypes := #[3, 30, 3] }, none⟩,
    ⟨some 23, .move (.tmp 28), none⟩,
    ⟨some 29, .extract (.tmp 23) 0, none⟩,
    ⟨some 30, .extract (.tmp 23) 1, none⟩,
    ⟨some 10, .assign (.tmp 29), none⟩,
    ⟨some 11, .assign (.tmp 30), none⟩]
@[reducible] def q4_3 : SCode := .region [⟨some 31, .move (.tmp 0), none⟩,
    ⟨some 32, .move (.tmp 1), none⟩,
    ⟨some 33, .call { callee := .value (.func 20), args := #[.tmp 31, .tmp 32], argTypes := #[3, 22] }, none⟩,
    ⟨some 34, .unOp .not 4 (.tmp 33), none⟩,
    ⟨some 35, .move (.tmp 34), none⟩,
    ⟨some 36, .move (.tmp 0), some (35, false)⟩,
    ⟨some 37, .move (.tmp 2), some (35, false)⟩,
    ⟨some 38, .call { callee := .value (.func 25), args := #[.tmp 36, .tmp 37], argTypes := #[3, 3] }, some (35, false)⟩,
    ⟨some 39, .unOp .not 4 (.tmp 38), some (35, false)⟩,
    ⟨some 40, .pick (.tmp 35) (.const (.bool true)) (.tmp 39), none⟩]
@[reducible] def q4_4 : SCode := .region [⟨some 41, .load 26 (.tmp 7), none⟩,
    ⟨some 42, .call { callee := .value (.func 26), args := #[.tmp 41], argTypes := #[26] }, none⟩,
    ⟨some 43, .move (.tmp 42), none⟩,
    ⟨some 44, .load 26 (.tmp 8), some (43, true)⟩,
    ⟨some 45, .call { callee := .value (.func 26), args := #[.tmp 44], argTypes := #[26] }, some (43, true)⟩,
    ⟨some 46, .pick (.tmp 43) (.tmp 45) (.const (.bool false)), none⟩,
    ⟨some 47, .move (.tmp 46), none⟩,
    ⟨some 48, .move (.tmp 10), some (47, true)⟩,
    ⟨some 49, .call { callee := .builtin .len, args := #[.tmp 48], argTypes := #[38] }, some (47, true)⟩,
    ⟨some 50, .binOp .eql 3 (.tmp 49) (.const (.int .i64 0)) 3, some (47, true)⟩,
    ⟨some 51, .pick (.tmp 47) (.tmp 50) (.const (.bool false)), none⟩,
    ⟨some 52, .move (.tmp 51), none⟩,
    ⟨some 53, .move (.tmp 9), some (52, true)⟩,
    ⟨some 54, .binOp .eql 27 (.tmp 53) (.const (.int .i64 2)) 27, some (52, true)⟩,
    ⟨some 55, .pick (.tmp 52) (.tmp 54) (.const (.bool false)), none⟩,
    ⟨some 56, .move (.tmp 55), none⟩,
    ⟨some 57, .move (.tmp 11), some (56, true)⟩,
    ⟨some 58, .binOp .eql 27 (.tmp 57) (.const (.int .i64 2)) 27, some (56, true)⟩,
    ⟨some 59, .pick (.tmp 56) (.tmp 58) (.const (.bool false)), none⟩,
    ⟨some 60, .move (.tmp 59), none⟩,
    ⟨some 61, .call { callee := .value (.func 21), args := #[], argTypes := #[] }, some (60, true)⟩,
    ⟨some 62, .pick (.tmp 60) (.tmp 61) (.const (.bool false)), none⟩,
    ⟨some 6, .assign (.tmp 62), none⟩]
@[reducible] def q4_5 : SCode := .region [⟨some 63, .move (.tmp 0), none⟩,
    ⟨some 64, .move (.tmp 1), none⟩,
    ⟨some 65, .call { callee := .value (.func 27), args := #[.tmp 63, .tmp 64], argTypes := #[3, 22] }, none⟩,
    ⟨some 66, .unOp .not 4 (.tmp 65), none⟩]
@[reducible] def q4_6 : SCode := .region [⟨some 67, .load 26 (.tmp 7), none⟩,
    ⟨some 68, .call { callee := .value (.func 26), args := #[.tmp 67], argTypes := #[26] }, none⟩,
    ⟨some 69, .move (.tmp 68), none⟩,
    ⟨some 70, .load 26 (.tmp 8), some (69, true)⟩,
    ⟨some 71, .call { callee := .value (.func 26), args := #[.tmp 70], argTypes := #[26] }, some (69, true)⟩,
    ⟨some 72, .pick (.tmp 69) (.tmp 71) (.const (.bool false)), none⟩,
    ⟨some 73, .move (.tmp 72), none⟩,
    ⟨some 74, .move (.tmp 10), some (73, true)⟩,
    ⟨some 75, .call { callee := .builtin .len, args := #[.tmp 74], argTypes := #[38] }, some (73, true)⟩,
    ⟨some 76, .binOp .eql 3 (.tmp 75) (.const (.int .i64 0)) 3, some (73, true)⟩,
    ⟨some 77, .pick (.tmp 73) (.tmp 76) (.const (.bool false)), none⟩,
    ⟨some 78, .move (.tmp 77), none⟩,
    ⟨some 79, .move (.tmp 9), some (78, true)⟩,
    ⟨some 80, .binOp .eql 27 (.tmp 79) (.const (.int .i64 5)) 27, some (78, true)⟩,
    ⟨some 81, .pick (.tmp 78) (.tmp 80) (.const (.bool false)), none⟩,
    ⟨some 82, .move (.tmp 81), none⟩,
    ⟨some 83, .move (.tmp 11), some (82, true)⟩,
    ⟨some 84, .binOp .eql 27 (.tmp 83) (.const (.int .i64 5)) 27, some (82, true)⟩,
    ⟨some 85, .pick (.tmp 82) (.tmp 84) (.const (.bool false)), none⟩,
    ⟨some 86, .move (.tmp 85), none⟩,
    ⟨some 87, .call { callee := .value (.func 21), args := #[], argTypes := #[] }, some (86, true)⟩,
    ⟨some 88, .pick (.tmp 86) (.tmp 87) (.const (.bool false)), none⟩,
    ⟨some 6, .assign (.tmp 88), none⟩]
@[reducible] def q4_7 : SCode := .region [⟨some 90, .move (.tmp 0), none⟩,
    ⟨some 91, .move (.tmp 1), none⟩,
    ⟨some 92, .move (.tmp 2), none⟩,
    ⟨some 93, .call { callee := .value (.func 28), args := #[.tmp 90, .tmp 91, .tmp 92], argTypes := #[3, 22, 3] }, none⟩,
    ⟨some 89, .move (.tmp 93), none⟩,
    ⟨some 94, .extract (.tmp 89) 0, none⟩,
    ⟨some 95, .extract (.tmp 89) 1, none⟩,
    ⟨some 12, .alloc 26, none⟩,
    ⟨some 13, .alloc 26, none⟩,
    ⟨none, .store 26 (.tmp 12) (.tmp 94), none⟩,
    ⟨none, .store 26 (.tmp 13) (.tmp 95), none⟩]
@[reducible] def q4_8 : SCode := .region [⟨some 96, .load 26 (.tmp 7), none⟩,
    ⟨some 97, .load 26 (.tmp 12), none⟩,
    ⟨some 98, .binOp .eql 26 (.tmp 96) (.tmp 97) 26, none⟩,
    ⟨some 99, .move (.tmp 98), none⟩,
    ⟨some 100, .load 26 (.tmp 8), some (99, true)⟩,
    ⟨some 101, .load 26 (.tmp 13), some (99, true)⟩,
    ⟨some 102, .binOp .eql 26 (.tmp 100) (.tmp 101) 26, some (99, true)⟩,
    ⟨some 103, .pick (.tmp 99) (.tmp 102) (.const (.bool false)), none⟩,
    ⟨some 104, .move (.tmp 103), none⟩,
    ⟨some 105, .move (.tmp 9), some (104, true)⟩,
    ⟨some 106, .binOp .eql 27 (.tmp 105) (.const (.int .i64 0)) 27, some (104, true)⟩,
    ⟨some 107, .pick (.tmp 104) (.tmp 106) (.const (.bool false)), none⟩,
    ⟨some 108, .move (.tmp 107), none⟩,
    ⟨some 109, .move (.tmp 10), some (108, true)⟩,
    ⟨some 110, .move (.tmp 0), some (108, true)⟩,
    ⟨some 111, .move (.tmp 1), some (108, true)⟩,
    ⟨some 112, .move (.tmp 2), some (108, true)⟩,
    ⟨some 113, .call { callee := .value (.func 30), args := #[.tmp 110, .tmp 111, .tmp 112], argTypes := #[3, 22, 3] }, some (108, true)⟩,
    ⟨some 114, .call { callee := .value (.func 29), args := #[.tmp 109, .tmp 113], argTypes := #[38, 38] }, some (108, true)⟩,
    ⟨some 115, .pick (.tmp 108) (.tmp 114) (.const (.bool false)), none⟩,
    ⟨some 116, .move (.tmp 115), none⟩,
    ⟨some 117, .move (.tmp 11), some (116, true)⟩,
    ⟨some 118, .binOp .eql 27 (.tmp 117) (.const (.int .i64 0)) 27, some (116, true)⟩,
    ⟨some 119, .pick (.tmp 116) (.tmp 118) (.const (.bool false)), none⟩,
    ⟨some 120, .move (.tmp 119), none⟩,
    ⟨some 121, .call { callee := .value (.func 21), args := #[], argTypes := #[] }, some (120, true)⟩,
    ⟨some 122, .pick (.tmp 120) (.tmp 121) (.const (.bool false)), none⟩,
    ⟨some 6, .assign (.tmp 122), none⟩]
def s4 : SCode := (.seq q4_0 (.seq q4_1 (.seq q4_2 (.seq (.seq q4_3 (.cond (.tmp 40) (.seq q4_4 .ret) .skip)) (.seq (.seq q4_5 (.cond (.tmp 66) (.seq q4_6 .ret) .skip)) (.seq q4_7 (.seq q4_8 .ret)))))))
/-! 6: planchet planchetlaw09.BetsSound -/
@[reducible] def q6_0 : SCode := .region [⟨some 6, .assign (.const (.bool false)), none⟩]
@[reducible] def q6_1 : SCode := .region [⟨some 12, .move (.tmp 0), none⟩,
    ⟨some 13, .move (.tmp 1), none⟩,
    ⟨some 14, .call { callee := .value (.func 18), args := #[.tmp 13], argTypes := #[22] }, none⟩,
    ⟨some 15, .call { callee := .value (.func 36), args := #[.tmp 12, .tmp 14], argTypes := #[3, 30] }, none⟩,
    ⟨some 11, .move (.tmp 15), none⟩,
    ⟨some 16, .extract (.tmp 11) 0, none⟩,
    ⟨some 17, .extract (.tmp 11) 1, none⟩,
    ⟨some 7, .assign (.tmp 16), none⟩,
    ⟨some 8, .assign (.tmp 17), none⟩]
@[reducible] def q6_2 : SCode := .region [⟨some 19, .move (.tmp 0), none⟩,
    ⟨some 20, .move (.tmp 1), none⟩,
    ⟨some 21, .call { callee := .value (.func 18), args := #[.tmp 20], argTypes := #[22] }, none⟩,
    ⟨some 22, .move (.tmp 2), none⟩,
    ⟨some 23, .call { callee := .value (.func 32), args := #[.tmp 22], argTypes := #[47] }, none⟩,
    ⟨some 24, .call { callee := .value (.func 37), args := #[.tmp 19, .tmp 21, .tmp 23], argTypes := #[3, 30, 47] }, none⟩,
    ⟨some 18, .move (.tmp 24), none⟩,
    ⟨some 25, .extract (.tmp 18) 0, none⟩,
    ⟨some 26, .extract (.tmp 18) 1, none⟩,
    ⟨some 9, .assign (.tmp 25), none⟩,
    ⟨some 10, .assign (.tmp 26), none⟩]
@[reducible] def q6_3 : SCode := .region [⟨some 27, .move (.tmp 0), none⟩,
    ⟨some 28, .move (.tmp 1), none⟩,
    ⟨some 29, .call { callee := .value (.func 20), args := #[.tmp 27, .tmp 28], argTypes := #[3, 22] }, none⟩,
    ⟨some 30, .unOp .not 4 (.tmp 29), none⟩]
@[reducible] def q6_4 : SCode := .region [⟨some 31, .move (.tmp 7), none⟩,
    ⟨some 32, .call { callee := .builtin .len, args := #[.tmp 31], argTypes := #[47] }, none⟩,
    ⟨some 33, .binOp .eql 3 (.tmp 32) (.const (.int .i64 0)) 3, none⟩,
    ⟨some 34, .move (.tmp 33), none⟩,
    ⟨some 35, .move (.tmp 9), some (34, true)⟩,
    ⟨some 36, .unOp .not 4 (.tmp 35), some (34, true)⟩,
    ⟨some 37, .pick (.tmp 34) (.tmp 36) (.const (.bool false)), none⟩,
    ⟨some 38, .move (.tmp 37), none⟩,
    ⟨some 39, .move (.tmp 8), some (38, true)⟩,
    ⟨some 40, .binOp .eql 27 (.tmp 39) (.const (.int .i64 2)) 27, some (38, true)⟩,
    ⟨some 41, .pick (.tmp 38) (.tmp 40) (.const (.bool false)), none⟩,
    ⟨some 42, .move (.tmp 41), none⟩,
    ⟨some 43, .move (.tmp 10), some (42, true)⟩,
    ⟨some 44, .binOp .eql 27 (.tmp 43) (.const (.int .i64 2)) 27, some (42, true)⟩,
    ⟨some 45, .pick (.tmp 42) (.tmp 44) (.const (.bool false)), none⟩,
    ⟨some 46, .move (.tmp 45), none⟩,
    ⟨some 47, .call { callee := .value (.func 21), args := #[], argTypes := #[] }, some (46, true)⟩,
    ⟨some 48, .pick (.tmp 46) (.tmp 47) (.const (.bool false)), none⟩,
    ⟨some 6, .assign (.tmp 48), none⟩]
@[reducible] def q6_5 : SCode := .region [⟨some 49, .move (.tmp 0), none⟩,
    ⟨some 50, .move (.tmp 1), none⟩,
    ⟨some 51, .call { callee := .value (.func 27), args := #[.tmp 49, .tmp 50], argTypes := #[3, 22] }, none⟩]
@[reducible] def q6_6 : SCode := .region [⟨some 52, .move (.tmp 8), none⟩,
    ⟨some 53, .binOp .neq 27 (.tmp 52) (.const (.int .i64 0)) 27, none⟩,
    ⟨some 54, .move (.tmp 53), none⟩,
    ⟨some 55, .move (.tmp 0), some (54, false)⟩,
    ⟨some 56, .move (.tmp 7), some (54, false)⟩,
    ⟨some 57, .call { callee := .value (.func 38), args := #[.tmp 55, .tmp 56], argTypes := #[3, 47] }, some (54, false)⟩,
    ⟨some 58, .unOp .not 4 (.tmp 57), some (54, false)⟩,
    ⟨some 59, .pick (.tmp 54) (.const (.bool true)) (.tmp 58), none⟩,
    ⟨some 60, .move (.tmp 59), none⟩,
    ⟨some 61, .move (.tmp 0), some (60, false)⟩,
    ⟨some 62, .move (.tmp 1), some (60, false)⟩,
    ⟨some 63, .move (.tmp 7), some (60, false)⟩,
    ⟨some 64, .call { callee := .value (.func 39), args := #[.tmp 61, .tmp 62, .tmp 63], argTypes := #[3, 22, 47] }, some (60, false)⟩,
    ⟨some 65, .unOp .not 4 (.tmp 64), some (60, false)⟩,
    ⟨some 66, .pick (.tmp 60) (.const (.bool true)) (.tmp 65), none⟩]
@[reducible] def q6_7 : SCode := .region [⟨some 6, .assign (.const (.bool false)), none⟩]
@[reducible] def q6_8 : SCode := .region [⟨some 67, .move (.tmp 7), none⟩,
    ⟨some 68, .call { callee := .builtin .len, args := #[.tmp 67], argTypes := #[47] }, none⟩,
    ⟨some 69, .binOp .neq 3 (.tmp 68) (.const (.int .i64 0)) 3, none⟩,
    ⟨some 70, .move (.tmp 69), none⟩,
    ⟨some 71, .move (.tmp 8), some (70, false)⟩,
    ⟨some 72, .binOp .neq 27 (.tmp 71) (.const (.int .i64 5)) 27, some (70, false)⟩,
    ⟨some 73, .pick (.tmp 70) (.const (.bool true)) (.tmp 72), none⟩]
@[reducible] def q6_9 : SCode := .region [⟨some 6, .assign (.const (.bool false)), none⟩]
@[reducible] def q6_10 : SCode := .region [⟨some 74, .move (.tmp 0), none⟩,
    ⟨some 75, .move (.tmp 2), none⟩,
    ⟨some 76, .call { callee := .value (.func 38), args := #[.tmp 74, .tmp 75], argTypes := #[3, 47] }, none⟩,
    ⟨some 77, .unOp .not 4 (.tmp 76), none⟩]
@[reducible] def q6_11 : SCode := .region [⟨some 78, .move (.tmp 9), none⟩,
    ⟨some 79, .unOp .not 4 (.tmp 78), none⟩,
    ⟨some 80, .move (.tmp 79), none⟩,
    ⟨some 81, .move (.tmp 10), some (80, true)⟩,
    ⟨some 82, .binOp .eql 27 (.tmp 81) (.const (.int .i64 2)) 27, some (80, true)⟩,
    ⟨some 83, .pick (.tmp 80) (.tmp 82) (.const (.bool false)), none⟩,
    ⟨some 84, .move (.tmp 83), none⟩,
    ⟨some 85, .call { callee := .value (.func 21), args := #[], argTypes := #[] }, some (84, true)⟩,
    ⟨some 86, .pick (.tmp 84) (.tmp 85) (.const (.bool false)), none⟩,
    ⟨some 6, .assign (.tmp 86), none⟩]
@[reducible] def q6_12 : SCode := .region [⟨some 87, .move (.tmp 9), none⟩,
    ⟨some 88, .move (.tmp 0), none⟩,
    ⟨some 89, .move (.tmp 1), none⟩,
    ⟨some 90, .move (.tmp 2), none⟩,
    ⟨some 91, .call { callee := .value (.func 39), args := #[.tmp 88, .tmp 89, .tmp 90], argTypes := #[3, 22, 47] }, none⟩,
    ⟨some 92, .binOp .eql 4 (.tmp 87) (.tmp 91) 4, none⟩,
    ⟨some 93, .move (.tmp 92), none⟩,
    ⟨some 94, .move (.tmp 10), some (93, true)⟩,
    ⟨some 95, .binOp .eql 27 (.tmp 94) (.const (.int .i64 0)) 27, some (93, true)⟩,
    ⟨some 96, .pick (.tmp 93) (.tmp 95) (.const (.bool false)), none⟩,
    ⟨some 97, .move (.tmp 96), none⟩,
    ⟨some 98, .call { callee := .value (.func 21), args := #[], argTypes := #[] }, some (97, true)⟩,
    ⟨some 99, .pick (.tmp 97) (.tmp 98) (.const (.bool false)), none⟩,
    ⟨some 6, .assign (.tmp 99), none⟩]
def s6 : SCode := (.seq q6_0 (.seq q6_1 (.seq q6_2 (.seq (.seq q6_3 (.cond (.tmp 30) (.seq q6_4 .ret) .skip)) (.seq (.seq q6_5 (.cond (.tmp 51) (.seq q6_6 (.cond (.tmp 66) (.seq q6_7 .ret) .skip)) (.seq q6_8 (.cond (.tmp 73) (.seq q6_9 .ret) .skip)))) (.seq (.seq q6_10 (.cond (.tmp 77) (.seq q6_11 .ret) .skip)) (.seq q6_12 .ret)))))))
/-! 10: planchet planchetlaw09.BetsPrices -/
@[reducible] def q10_0 : SCode := .region [⟨some 8, .assign (.const (.bool false)), none⟩]
@[reducible] def q10_1 : SCode := .region [⟨some 20, .move (.tmp 0), none⟩,
    ⟨some 21, .move (.tmp 1), none⟩,
    ⟨some 22, .call { callee := .value (.func 18), args := #[.tmp 21], argTypes := #[22] }, none⟩,
    ⟨some 23, .move (.tmp 2), none⟩,
    ⟨some 24, .call { callee := .value (.func 24), args := #[.tmp 20, .tmp 22, .tmp 23], argTypes := #[3, 30, 3] }, none⟩,
    ⟨some 19, .move (.tmp 24), none⟩,
    ⟨some 25, .extract (.tmp 19) 0, none⟩,
    ⟨some 26, .extract (.tmp 19) 1, none⟩,
    ⟨some 9, .assign (.tmp 25), none⟩,
    ⟨some 10, .assign (.tmp 26), none⟩]
@[reducible] def q10_2 : SCode := .region [⟨some 28, .move (.tmp 0), none⟩,
    ⟨some 29, .move (.tmp 1), none⟩,
    ⟨some 30, .call { callee := .value (.func 18), args := #[.tmp 29], argTypes := #[22] }, none⟩,
    ⟨some 31, .move (.tmp 2), none⟩,
    ⟨some 32, .call { callee := .value (.func 17), args := #[.tmp 28, .tmp 30, .tmp 31], argTypes := #[3, 30, 3] }, none⟩,
    ⟨some 27, .move (.tmp 32), none⟩,
    ⟨some 33, .extract (.tmp 27) 0, none⟩,
    ⟨some 34, .extract (.tmp 27) 1, none⟩,
    ⟨some 35, .extract (.tmp 27) 2, none⟩,
    ⟨some 11, .alloc 26, none⟩,
    ⟨some 12, .alloc 26, none⟩,
    ⟨none, .store 26 (.tmp 11) (.tmp 33), none⟩,
    ⟨none, .store 26 (.tmp 12) (.tmp 34), none⟩,
    ⟨some 13, .assign (.tmp 35), none⟩]
@[reducible] def q10_3 : SCode := .region [⟨some 36, .move (.tmp 10), none⟩,
    ⟨some 37, .binOp .neq 27 (.tmp 36) (.const (.int .i64 0)) 27, none⟩,
    ⟨some 38, .move (.tmp 37), none⟩,
    ⟨some 39, .move (.tmp 0), some (38, false)⟩,
    ⟨some 40, .move (.tmp 1), some (38, false)⟩,
    ⟨some 41, .call { callee := .value (.func 20), args := #[.tmp 39, .tmp 40], argTypes := #[3, 22] }, some (38, false)⟩,
    ⟨some 42, .unOp .not 4 (.tmp 41), some (38, false)⟩,
    ⟨some 43, .pick (.tmp 38) (.const (.bool true)) (.tmp 42), none⟩,
    ⟨some 44, .move (.tmp 43), none⟩,
    ⟨some 45, .move (.tmp 0), some (44, false)⟩,
    ⟨some 46, .move (.tmp 2), some (44, false)⟩,
    ⟨some 47, .call { callee := .value (.func 25), args := #[.tmp 45, .tmp 46], argTypes := #[3, 3] }, some (44, false)⟩,
    ⟨some 48, .unOp .not 4 (.tmp 47), some (44, false)⟩,
    ⟨some 49, .pick (.tmp 44) (.const (.bool true)) (.tmp 48), none⟩]
@[reducible] def q10_4 : SCode := .region [⟨some 50, .move (.tmp 10), none⟩,
    ⟨some 51, .move (.tmp 13), none⟩,
    ⟨some 52, .binOp .eql 27 (.tmp 50) (.tmp 51) 27, none⟩,
    ⟨some 53, .move (.tmp 52), none⟩,
    ⟨some 54, .move (.tmp 10), some (53, true)⟩,
    ⟨some 55, .binOp .eql 27 (.tmp 54) (.const (.int .i64 2)) 27, some (53, true)⟩,
    ⟨some 56, .move (.tmp 55), some (53, true)⟩,
    ⟨some 57, .move (.tmp 10), some (56, false)⟩,
    ⟨some 58, .binOp .eql 27 (.tmp 57) (.const (.int .i64 5)) 27, some (56, false)⟩,
    ⟨some 59, .pick (.tmp 56) (.const (.bool true)) (.tmp 58), some (53, true)⟩,
    ⟨some 60, .pick (.tmp 53) (.tmp 59) (.const (.bool false)), none⟩,
    ⟨some 61, .move (.tmp 60), none⟩,
    ⟨some 62, .call { callee := .value (.func 21), args := #[], argTypes := #[] }, some (61, true)⟩,
    ⟨some 63, .pick (.tmp 61) (.tmp 62) (.const (.bool false)), none⟩,
    ⟨some 8, .assign (.tmp 63), none⟩]
@[reducible] def q10_5 : SCode := .region [⟨some 64, .move (.tmp 13), none⟩,
    ⟨some 65, .binOp .neq 27 (.tmp 64) (.const (.int .i64 0)) 27, none⟩,
    ⟨some 66, .move (.tmp 65), none⟩,
    ⟨some 67, .load 26 (.tmp 11), some (66, false)⟩,
    ⟨some 68, .call { callee := .value (.func 22), args := #[.tmp 67], argTypes := #[26] }, some (66, false)⟩,
    ⟨some 69, .unOp .not 4 (.tmp 68), some (66, false)⟩,
    ⟨some 70, .pick (.tmp 66) (.const (.bool true)) (.tmp 69), none⟩,
    ⟨some 71, .move (.tmp 70), none⟩,
    ⟨some 72, .load 26 (.tmp 12), some (71, false)⟩,
    ⟨some 73, .call { callee := .value (.func 22), args := #[.tmp 72], argTypes := #[26] }, some (71, false)⟩,
    ⟨some 74, .unOp .not 4 (.tmp 73), some (71, false)⟩,
    ⟨some 75, .pick (.tmp 71) (.const (.bool true)) (.tmp 74), none⟩]
@[reducible] def q10_6 : SCode := .region [⟨some 8, .assign (.const (.bool false)), none⟩]
@[reducible] def q10_7 : SCode := .region [⟨some 76, .move (.const (.int .i64 0)), none⟩]
@[reducible] def q10_8 : SCode := .region [⟨some 77, .binOp .lss 3 (.tmp 76) (.const (.int .i64 13)) 3, none⟩]
@[reducible] def q10_9 : SCode := .region [⟨some 78, .move (.tmp 76), none⟩,
    ⟨some 14, .assign (.tmp 78), none⟩]
@[reducible] def q10_10 : SCode := .region [⟨some 79, .fieldAddr 26 (.tmp 11) 0, none⟩,
    ⟨some 80, .load 3 (.tmp 79), none⟩,
    ⟨some 81, .binOp .mul 3 (.const (.int .i64 12)) (.tmp 80) 3, none⟩,
    ⟨some 82, .move (.tmp 14), none⟩,
    ⟨some 83, .fieldAddr 26 (.tmp 11) 1, none⟩,
    ⟨some 84, .load 3 (.tmp 83), none⟩,
    ⟨some 85, .binOp .mul 3 (.tmp 82) (.tmp 84) 3, none⟩,
    ⟨some 86, .binOp .leq 3 (.tmp 81) (.tmp 85) 3, none⟩,
    ⟨some 87, .move (.tmp 86), none⟩,
    ⟨some 88, .fieldAddr 26 (.tmp 12) 0, some (87, true)⟩,
    ⟨some 89, .load 3 (.tmp 88), some (87, true)⟩,
    ⟨some 90, .binOp .mul 3 (.const (.int .i64 12)) (.tmp 89) 3, some (87, true)⟩,
    ⟨some 91, .move (.tmp 14), some (87, true)⟩,
    ⟨some 92, .fieldAddr 26 (.tmp 12) 1, some (87, true)⟩,
    ⟨some 93, .load 3 (.tmp 92), some (87, true)⟩,
    ⟨some 94, .binOp .mul 3 (.tmp 91) (.tmp 93) 3, some (87, true)⟩,
    ⟨some 95, .binOp .geq 3 (.tmp 90) (.tmp 94) 3, some (87, true)⟩,
    ⟨some 96, .pick (.tmp 87) (.tmp 95) (.const (.bool false)), none⟩,
    ⟨some 15, .assign (.tmp 96), none⟩]
@[reducible] def q10_11 : SCode := .region [⟨some 97, .move (.tmp 9), none⟩,
    ⟨some 98, .move (.tmp 14), none⟩,
    ⟨some 99, .call { callee := .value (.func 43), args := #[.tmp 97, .tmp 98], argTypes := #[38, 3] }, none⟩,
    ⟨some 100, .move (.tmp 15), none⟩,
    ⟨some 101, .binOp .neq 4 (.tmp 99) (.tmp 100) 4, none⟩]
@[reducible] def q10_12 : SCode := .region [⟨some 8, .assign (.const (.bool false)), none⟩]
@[reducible] def q10_13 : SCode := .region [⟨some 102, .binOp .add 3 (.tmp 76) (.const (.int .i64 1)) 3, none⟩,
    ⟨some 76, .move (.tmp 102), none⟩]
def l10_0 : SCode := (.seq q10_8 (.seq (.cond (.tmp 77) .skip (.exit 0)) (.seq (.block 1 (.seq q10_9 (.seq q10_10 (.seq q10_11 (.cond (.tmp 101) (.seq q10_12 .ret) .skip))))) q10_13)))
@[reducible] def q10_14 : SCode := .region [⟨some 103, .move (.tmp 3), none⟩,
    ⟨some 104, .convert 3 67 (.tmp 103), none⟩,
    ⟨some 105, .binOp .rem 67 (.tmp 104) (.const (.int .u64 13)) 67, none⟩,
    ⟨some 106, .convert 67 3 (.tmp 105), none⟩,
    ⟨some 3, .assign (.tmp 106), none⟩]
@[reducible] def q10_15 : SCode := .region [⟨some 107, .move (.tmp 1), none⟩,
    ⟨some 108, .call { callee := .value (.func 19), args := #[.tmp 107], argTypes := #[22] }, none⟩,
    ⟨some 109, .move (.tmp 2), none⟩,
    ⟨some 110, .move (.tmp 3), none⟩,
    ⟨some 111, .build 24 #[(0, .tmp 109), (1, .tmp 110)], none⟩,
    ⟨some 112, .buildSlice 22 1 #[(0, .tmp 111)], none⟩,
    ⟨some 113, .call { callee := .builtin .append, args := #[.tmp 108, .tmp 112], argTypes := #[22, 22] }, none⟩,
    ⟨some 16, .assign (.tmp 113), none⟩]
@[reducible] def q10_16 : SCode := .region [⟨some 115, .move (.tmp 0), none⟩,
    ⟨some 116, .move (.tmp 16), none⟩,
    ⟨some 117, .call { callee := .value (.func 18), args := #[.tmp 116], argTypes := #[22] }, none⟩,
    ⟨some 118, .call { callee := .value (.func 36), args := #[.tmp 115, .tmp 117], argTypes := #[3, 30] }, none⟩,
    ⟨some 114, .move (.tmp 118), none⟩,
    ⟨some 119, .extract (.tmp 114) 0, none⟩,
    ⟨some 120, .extract (.tmp 114) 1, none⟩,
    ⟨some 17, .assign (.tmp 119), none⟩,
    ⟨some 18, .assign (.tmp 120), none⟩]
@[reducible] def q10_17 : SCode := .region [⟨some 121, .move (.tmp 18), none⟩,
    ⟨some 122, .binOp .eql 27 (.tmp 121) (.const (.int .i64 2)) 27, none⟩]
@[reducible] def q10_18 : SCode := .region [⟨some 123, .move (.tmp 0), none⟩,
    ⟨some 124, .move (.tmp 16), none⟩,
    ⟨some 125, .call { callee := .value (.func 20), args := #[.tmp 123, .tmp 124], argTypes := #[3, 22] }, none⟩,
    ⟨some 126, .unOp .not 4 (.tmp 125), none⟩,
    ⟨some 127, .move (.tmp 126), none⟩,
    ⟨some 128, .move (.tmp 9), some (127, true)⟩,
    ⟨some 129, .call { callee := .value (.func 44), args := #[.tmp 128], argTypes := #[38] }, some (127, true)⟩,
    ⟨some 130, .pick (.tmp 127) (.tmp 129) (.const (.bool false)), none⟩,
    ⟨some 131, .move (.tmp 130), none⟩,
    ⟨some 132, .call { callee := .value (.func 21), args := #[], argTypes := #[] }, some (131, true)⟩,
    ⟨some 133, .pick (.tmp 131) (.tmp 132) (.const (.bool false)), none⟩,
    ⟨some 8, .assign (.tmp 133), none⟩]
@[reducible] def q10_19 : SCode := .region [⟨some 134, .move (.tmp 18), none⟩,
    ⟨some 135, .binOp .eql 27 (.tmp 134) (.const (.int .i64 0)) 27, none⟩,
    ⟨some 136, .move (.tmp 9), none⟩,
    ⟨some 137, .move (.tmp 3), none⟩,
    ⟨some 138, .call { callee := .value (.func 43), args := #[.tmp 136, .tmp 137], argTypes := #[38, 3] }, none⟩,
    ⟨some 139, .binOp .eql 4 (.tmp 135) (.tmp 138) 4, none⟩,
    ⟨some 140, .move (.tmp 139), none⟩,
    ⟨some 141, .move (.tmp 9), some (140, true)⟩,
    ⟨some 142, .call { callee := .value (.func 44), args := #[.tmp 141], argTypes := #[38] }, some (140, true)⟩,
    ⟨some 143, .pick (.tmp 140) (.tmp 142) (.const (.bool false)), none⟩,
    ⟨some 144, .move (.tmp 143), none⟩,
    ⟨some 145, .call { callee := .value (.func 21), args := #[], argTypes := #[] }, some (144, true)⟩,
    ⟨some 146, .pick (.tmp 144) (.tmp 145) (.const (.bool false)), none⟩,
    ⟨some 8, .assign (.tmp 146), none⟩]
def s10 : SCode := (.seq q10_0 (.seq q10_1 (.seq q10_2 (.seq (.seq q10_3 (.cond (.tmp 49) (.seq q10_4 .ret) .skip)) (.seq (.seq q10_5 (.cond (.tmp 75) (.seq q10_6 .ret) .skip)) (.seq (.seq q10_7 (.block 0 (.loop l10_0))) (.seq q10_14 (.seq q10_15 (.seq q10_16 (.seq (.seq q10_17 (.cond (.tmp 122) (.seq q10_18 .ret) .skip)) (.seq q10_19 .ret)))))))))))
theorem s10_strip : Ya (Zv Try.f10) = s10 := by kernel_rfl
theorem s10_ok : Yp 147 (Zv Try.f10) = true := by kernel_rfl
/-! 19: slices.Clone[[]planchet planchetref09.Bet,planchet planchetref09.Bet] -/
@[reducible] def q19_0 : SCode := .region [⟨some 2, .assign (.const (.slice none 0 0)), none⟩]
@[reducible] def q19_1 : SCode := .region [⟨some 3, .move (.tmp 0), none⟩,
    ⟨some 4, .binOp .eql 22 (.tmp 3) (.const (.slice none 0 0)) 22, none⟩]
@[reducible] def q19_2 : SCode := .region [⟨some 2, .assign (.const (.slice none 0 0)), none⟩]
@[reducible] def q19_3 : SCode := .region [⟨some 5, .buildSlice 22 0 #[], none⟩,
    ⟨some 6, .move (.tmp 0), none⟩,
    ⟨some 7, .call { callee := .builtin .append, args := #[.tmp 5, .tmp 6], argTypes := #[22, 22] }, none⟩,
    ⟨some 2, .assign (.tmp 7), none⟩]
def s19 : SCode := (.seq q19_0 (.seq (.seq q19_1 (.cond (.tmp 4) (.seq q19_2 .ret) .skip)) (.seq q19_3 .ret)))
theorem s19_strip : Ya (Zv Try.f19) = s19 := by kernel_rfl
theorem s19_ok : Yp 8 (Zv Try.f19) = true := by kernel_rfl
theorem s19_call [Tabs Try.prog] {args : List Value} {h : Zh} {Q : Value → Zh → Prop} (hsz : args.length ≤ 8) (hk : aw Try.prog 8 s19 (Zu Try.prog [.tmp 2] Q) (Zp 0 args) h) : ACall Try.prog 19 args h Q :=
  acall_s Try.func19 rfl (enters_of Try.func19 (by kernel_rfl) rfl) rfl rfl (by decide) s19_strip s19_ok hsz hk

end Go.Proofs.Try.Am

namespace Go.Proofs.Try.Am
open Go.Am Bq
set_option maxRecDepth 100000
set_option maxHeartbeats 4000000

theorem valid_take (n : Int) (l : List (Int × Int)) : Yu n (l.take 9) = Yu n l := by
  by_cases h : l.length ≤ 9
  · rw [List.take_of_length_le h]
  · have h1 : (l.take 9).length = 9 := by rw [List.length_take]; omega
    rw [Yu, Yu, h1, show decide (9 ≤ 6) = false by decide, show decide (l.length ≤ 6) = false by simp; omega]
    simp
theorem inEv_bit (f : Nat → Rat) (e n : Nat) : Zt (inEv f e) n = evq n f e := Zj fun w hw => by
  rw [inEv, bitQ]
  split
  · rw [Rat.one_mul]
  · rw [Rat.zero_mul]
theorem fq_map {b : List Rat} {w : Nat} (hw : w < b.length) : fq (b.map ofQ) w = b.getD w 0 := by
  rw [fq, List.getD, List.getElem?_map, List.getElem?_eq_getElem hw, List.getD, List.getElem?_eq_getElem hw]; exact toQ_ofQ _
theorem mulTo_dvd' {N : Nat} (hN : 0 < N) (hB : N ≤ 10000000000) : ∀ (ps : List (Int × Int)) (m : Nat), 0 < m → m ∣ N → (∀ p ∈ ps, okP p = true ∧ p.2.natAbs ∣ N) → mulTo ps m ≠ 0 ∧ mulTo ps m ∣ N
  | [], m, h0, h1, _ => ⟨by rw [mulTo]; omega, by rw [mulTo]; exact h1⟩
  | p :: ps, m, h0, h1, h => by
    obtain ⟨k1, k2⟩ := h p (by simp)
    have hl : Nat.lcm m p.2.natAbs ∣ N := Nat.lcm_dvd h1 k2
    have hlN := Nat.le_of_dvd hN hl
    have hp0 : 0 < p.2.natAbs := Nat.pos_of_dvd_of_pos k2 hN
    rw [mulTo, if_pos ⟨k1, by omega⟩]
    exact mulTo_dvd' hN hB ps _ (Nat.lcm_pos h0 hp0) hl fun q hq => h q (by simp [hq])
theorem okP_of' {q : Rat} (h0 : 0 ≤ q) (hd : q.den ≤ 10000000000) : okP (ofQ q) = true := by
  have h1 : 0 ≤ q.num := Rat.num_nonneg.2 h0
  have h2 := q.den_pos
  have h3 := q.reduced
  simp only [okP, ofQ, Bool.and_eq_true, beq_iff_eq]
  refine ⟨⟨⟨decide_eq_true (by omega), decide_eq_true (by omega)⟩, decide_eq_true h1⟩, ?_⟩
  rw [Int.natAbs_natCast]; exact h3
/-- A corner, as it is handed out. -/
theorem corner_facts {n : Nat} {l : List (Int × Int)} {b : List Rat} (hval : Yu n l = true) (hb : b ∈ Yb n l) :
    b.length = n ∧ Feas n l (fun w => b.getD w 0) ∧ (∀ w, w < n → b.getD w 0 ≤ 1) ∧ (∃ D, 0 < D ∧ D ≤ 720 ∧ mult (b.map ofQ) ∣ D) ∧ Chn (b.map ofQ) ∧ agB l (b.map ofQ) = true := by
  obtain ⟨hn2, hn5, hl1, hl6, hok⟩ := Wr hval
  obtain ⟨set, h1, h2, h3⟩ := mem_corners.1 hb
  obtain ⟨hl, hf⟩ := corner_feas h3
  obtain ⟨D, d1, d2, d3⟩ := corner_den hn5 (cts_of hval) h3
  have hle : ∀ w, w < n → b.getD w 0 ≤ 1 := fun w hw => by
    have := sumTo_one (g := fun w => b.getD w 0) hw hf.nn
    rw [hf.one] at this; exact this
  have hmem : ∀ p ∈ b.map ofQ, ∃ w, w < n ∧ p = ofQ (b.getD w 0) := fun p hp => by
    obtain ⟨q, hq, rfl⟩ := List.mem_map.1 hp
    obtain ⟨w, hw, rfl⟩ := List.getElem_of_mem hq
    exact ⟨w, by omega, by rw [List.getD, List.getElem?_eq_getElem hw]; rfl⟩
  have hmul := mulTo_dvd' d1 (by omega) (b.map ofQ) 1 (by decide) (Nat.one_dvd _) fun p hp => by
    obtain ⟨w, hw, rfl⟩ := hmem p hp
    have hd := d3 w hw
    have := Nat.le_of_dvd d1 hd
    exact ⟨okP_of' (hf.nn w hw) (by omega), by rw [ofQ]; exact hd⟩
  have hc : Chn (b.map ofQ) := ⟨hmul.1, fun p hp => by
    obtain ⟨w, hw, rfl⟩ := hmem p hp
    have := hle w hw
    rw [Rat.le_iff] at this
    simpa [ofQ] using this⟩
  refine ⟨hl, hf, hle, ⟨D, d1, d2, hmul.2⟩, hc, ?_⟩
  rw [agB, List.length_map, hl, Bool.and_eq_true, decide_eq_true_eq, List.all_eq_true]
  refine ⟨by rw [Zj fun w hw => fq_map (show w < b.length by omega)]; exact hf.one, fun p hp => ?_⟩
  obtain ⟨i, hi, hip⟩ := List.getElem_of_mem hp
  have h4 := hf.bet i hi
  have hgi : l.getD i (0, 0) = p := by rw [List.getD, List.getElem?_eq_getElem hi]; exact hip
  rw [hgi] at h4
  rw [decide_eq_true_eq, inEv_bit, ← h4]
  exact Zj fun w hw => by rw [fq_map (by omega)]
end Go.Proofs.Try.Am

namespace Go.Proofs.Try.Am
open Go.Am Bq
set_option maxRecDepth 100000
set_option maxHeartbeats 4000000

def minL : Rat → List Rat → Rat
  | a, [] => a
  | a, f :: fs => minL (if f < a then f else a) fs
def maxL : Rat → List Rat → Rat
  | a, [] => a
  | a, f :: fs => maxL (if a < f then f else a) fs
theorem minL_spec : ∀ (vs : List Rat) (a : Rat), (minL a vs = a ∨ minL a vs ∈ vs) ∧ minL a vs ≤ a ∧ ∀ v ∈ vs, minL a vs ≤ v
  | [], a => ⟨.inl rfl, Rat.le_refl, fun v hv => by cases hv⟩
  | f :: fs, a => by
    obtain ⟨h1, h2, h3⟩ := minL_spec fs (if f < a then f else a)
    rw [minL]
    have h4 : minL (if f < a then f else a) fs ≤ a ∧ minL (if f < a then f else a) fs ≤ f := by
      split at h2
      · next h => rw [if_pos h]; exact ⟨Rat.le_trans h2 (Rat.le_of_lt h), h2⟩
      · next h => rw [if_neg h]; exact ⟨h2, Rat.le_trans h2 (Rat.not_lt.1 h)⟩
    refine ⟨?_, h4.1, fun v hv => ?_⟩
    · rcases h1 with h1 | h1
      · split at h1
        · next h => rw [if_pos h]; exact .inr (by rw [h1]; simp)
        · next h => rw [if_neg h]; exact .inl h1
      · exact .inr (List.mem_cons_of_mem _ h1)
    · rcases List.mem_cons.1 hv with rfl | hv
      · exact h4.2
      · exact h3 v hv
theorem maxL_spec : ∀ (vs : List Rat) (a : Rat), (maxL a vs = a ∨ maxL a vs ∈ vs) ∧ a ≤ maxL a vs ∧ ∀ v ∈ vs, v ≤ maxL a vs
  | [], a => ⟨.inl rfl, Rat.le_refl, fun v hv => by cases hv⟩
  | f :: fs, a => by
    obtain ⟨h1, h2, h3⟩ := maxL_spec fs (if a < f then f else a)
    rw [maxL]
    have h4 : a ≤ maxL (if a < f then f else a) fs ∧ f ≤ maxL (if a < f then f else a) fs := by
      split at h2
      · next h => rw [if_pos h]; exact ⟨Rat.le_trans (Rat.le_of_lt h) h2, h2⟩
      · next h => rw [if_neg h]; exact ⟨h2, Rat.le_trans (Rat.not_lt.1 h) h2⟩
    refine ⟨?_, h4.1, fun v hv => ?_⟩
    · rcases h1 with h1 | h1
      · split at h1
        · next h => rw [if_pos h]; exact .inr (by rw [h1]; simp)
        · next h => rw [if_neg h]; exact .inl h1
      · exact .inr (List.mem_cons_of_mem _ h1)
    · rcases List.mem_cons.1 hv with rfl | hv
      · exact h4.2
      · exact h3 v hv
theorem minL_snoc (vs : List Rat) (f : Rat) : ∀ a, minL a (vs ++ [f]) = if f < minL a vs then f else minL a vs := by
  induction vs with
  | nil => intro a; rfl
  | cons g gs ih => intro a; rw [List.cons_append, minL, minL, ih]
theorem maxL_snoc (vs : List Rat) (f : Rat) : ∀ a, maxL a (vs ++ [f]) = if maxL a vs < f then f else maxL a vs := by
  induction vs with
  | nil => intro a; rfl
  | cons g gs ih => intro a; rw [List.cons_append, maxL, maxL, ih]

/-- Small numbers. -/
def SmQ (q : Rat) : Prop := 0 ≤ q ∧ q ≤ 1 ∧ q.den ≤ 720
theorem SmQ.num {q : Rat} (h : SmQ q) : 0 ≤ q.num ∧ q.num ≤ 720 := by
  have h0 := Rat.num_nonneg.2 h.1
  have h1 := h.2.1
  rw [Rat.le_iff] at h1
  have h2 := h.2.2
  have h3 : q.num ≤ (q.den : Int) := by simpa using h1
  omega
theorem SmQ.less [Tabs prog] {a b : Rat} (ha : SmQ a) (hb : SmQ b) (h : Zh) : Xm prog 62 [qV a, qV b] h (.bool (decide (a < b))) := by
  have na := ha.num
  have nb := hb.num
  have r1 := (Rp.own a).up b.den b.den_pos
  have r2 := (Rp.own b).up a.den a.den_pos
  rw [Nat.mul_comm b.den] at r2
  have x1 : (a.num * (b.den : Int)).natAbs ≤ 720 * 720 := by rw [Int.natAbs_mul, Int.natAbs_natCast]; exact Nat.mul_le_mul (by omega) hb.2.2
  have x2 : (b.num * (a.den : Int)).natAbs ≤ 720 * 720 := by rw [Int.natAbs_mul, Int.natAbs_natCast]; exact Nat.mul_le_mul (by omega) ha.2.2
  have x3 : a.den * b.den ≤ 720 * 720 := Nat.mul_le_mul ha.2.2 hb.2.2
  exact less_call r1 r2 (by omega) (by omega)
/-- The chance of an event at a corner. -/
def cvq (n e : Nat) (b : List Rat) : Rat := evq n (fun w => b.getD w 0) e
theorem evq_bounds {n : Nat} {p : Nat → Rat} (h0 : ∀ w, w < n → 0 ≤ p w) (h1 : Zt p n = 1) (e : Nat) : 0 ≤ evq n p e ∧ evq n p e ≤ 1 := by
  constructor
  · refine sumTo_nonneg fun w hw => ?_
    rcases bitQ_01 e w with h | h <;> rw [h]
    · rw [Rat.zero_mul]; exact Rat.le_refl
    · rw [Rat.one_mul]; exact h0 w hw
  · rw [← h1]
    refine sumTo_le fun w hw => ?_
    rcases bitQ_01 e w with h | h <;> rw [h]
    · rw [Rat.zero_mul]; exact h0 w hw
    · rw [Rat.one_mul]; exact Rat.le_refl
theorem part_dvd {n : Nat} {p : Nat → Rat} {D : Nat} (hD : 0 < D) (h : ∀ w, w < n → (p w).den ∣ D) (e : Nat) : (evq n p e).den ∣ D := by
  refine sumTo_den hD fun w hw => ?_
  rcases bitQ_01 e w with h1 | h1 <;> rw [h1]
  · rw [Rat.zero_mul]; exact Nat.one_dvd _
  · rw [Rat.one_mul]; exact h w hw
theorem corner_den' {n : Nat} {l : List (Int × Int)} {b : List Rat} (hval : Yu n l = true) (hb : b ∈ Yb n l) : ∃ D, 0 < D ∧ D ≤ 720 ∧ ∀ w, w < n → (b.getD w 0).den ∣ D := by
  obtain ⟨set, h1, h2, h3⟩ := mem_corners.1 hb
  exact corner_den (Wr hval).2.1 (cts_of hval) h3
theorem corner_sm {n : Nat} {l : List (Int × Int)} {b : List Rat} (hval : Yu n l = true) (hb : b ∈ Yb n l) (e : Nat) : SmQ (cvq n e b) := by
  obtain ⟨_, hf, _, _, _, _⟩ := corner_facts hval hb
  obtain ⟨D, d1, d2, d3⟩ := corner_den' hval hb
  obtain ⟨h1, h2⟩ := evq_bounds hf.nn hf.one e
  exact ⟨h1, h2, Nat.le_trans (Nat.le_of_dvd d1 (part_dvd d1 d3 e)) d2⟩
theorem corner_of [Tabs prog] {h : Zh} {n e : Nat} {l : List (Int × Int)} {b : List Rat} {w : Value} (hval : Yu n l = true) (hb : b ∈ Yb n l) (hw : BelAt h w b) (he : e < 9223372036854775808) : Xm prog 61 [w, Zd (e : Nat)] h (qV (cvq n e b)) := by
  obtain ⟨hl, hf, hle, _, hc, _⟩ := corner_facts hval hb
  obtain ⟨D, d1, d2, d3⟩ := corner_den' hval hb
  have hn5 := (Wr hval).2.1
  obtain ⟨bl, rfl, hbl⟩ := hw
  have px := pairSl_cells hbl
  rw [List.length_map] at px
  have key := of_call (evt := e) (N := D) px (by rw [List.length_map]; omega) hc.vld he d1 (by omega) (fun k hk => by
    rw [List.length_map] at hk
    rw [fq_map hk]
    exact ⟨hf.nn k (by omega), hle k (by omega), d3 k (by omega)⟩)
  rw [List.length_map, hl, inEv_bit] at key
  rw [hl, cvq, ← show evq n (fq (b.map ofQ)) e = evq n (fun w => b.getD w 0) e from Zj fun w hw => by rw [fq_map (by omega)]]
  exact key

theorem s59_callW [Tabs Try.prog] {args : List Value} {h : Zh} {Q : Value → Zh → Prop} (hsz : args.length ≤ 14) (hk : AWS Try.prog 14 s59 (Zu Try.prog [.tmp 4] Q) (Zp 0 args) h) : ACall Try.prog 59 args h Q :=
  Yv Try.func59 rfl (enters_of Try.func59 (by kernel_rfl) rfl) rfl rfl (by decide) s59_strip s59_ok hsz hk
theorem isEvent_call [Tabs prog] {h : Zh} {n : Nat} {e : Int} {v : Value} (hn : n ≤ 62) : Xm prog 59 [.agg #[Zd (n : Nat), v], Zd e] h (.bool (decide (0 ≤ e) && decide (e < 2 ^ n))) := by
  refine ACall.forget (Low.bool _) ?_
  refine s59_callW (by simp) ?_
  refine Zi ?_
  have hsh : shlV .i64 1 (n : Int) = 2 ^ n := shl1 hn
  have t1 : (h ++ [Blk.cells [Zd (n : Nat), v] 86 false])[h.length]? = some (.cells [Zd (n : Nat), v] 86 false) := Yh _ _
  by_cases h1 : e ≥ 0
  · have e1 : decide (0 ≤ e) = true := by simpa using h1
    by_cases h2 : e < 2 ^ n
    · simp (maxSteps := 2000000) only [s59, ↓Za, ↓Zw, ↓Zz, ↓Zb, ↓Zc, ↓vdn, vup, cond_true, cond_false, aop, Zg, Zp, ev, sput, Zf, Yk, Yl, Nat.reduceBEq, Nat.reduceAdd, Zu, Xx, tup, tyf, boxT, Yx, h1, tA0, Vn t1, Int.natCast_nonneg, hsh, h2, Bool.true_and]
      exact Ext.app _ _ _
    · simp (maxSteps := 2000000) only [s59, ↓Za, ↓Zw, ↓Zz, ↓Zb, ↓Zc, ↓vdn, vup, cond_true, cond_false, aop, Zg, Zp, ev, sput, Zf, Yk, Yl, Nat.reduceBEq, Nat.reduceAdd, Zu, Xx, tup, tyf, boxT, Yx, h1, tA0, Vn t1, Int.natCast_nonneg, hsh, h2, Bool.true_and]
      exact Ext.app _ _ _
  · have e1 : decide (0 ≤ e) = false := by simpa using h1
    simp (maxSteps := 2000000) only [s59, ↓Za, ↓Zw, ↓Zz, ↓Zb, ↓Zc, ↓vdn, vup, cond_true, cond_false, aop, Zg, Zp, ev, sput, Zf, Yk, Yl, Nat.reduceBEq, Nat.reduceAdd, Zu, Xx, tup, boxT, h1, Bool.false_and]
    exact Ext.app _ _ _

/-- Where there are bounds. -/
def evB (n : Int) (e : Int) : Bool := decide (0 ≤ e) && decide (e < 2 ^ n.toNat)
def loQ (n e : Nat) (l : List (Int × Int)) : Rat := minL (cvq n e ((Yb n l).headD [])) ((Yb n l).map (cvq n e))
def hiQ (n e : Nat) (l : List (Int × Int)) : Rat := maxL (cvq n e ((Yb n l).headD [])) ((Yb n l).map (cvq n e))
def bndV (n e : Int) (l : List (Int × Int)) : Value :=
  if Yu n l = true ∧ evB n e = true then (if Yb n.toNat l = [] then .tuple #[frV 0 0, frV 0 0, .int .i64 5] else .tuple #[qV (loQ n.toNat e.toNat l), qV (hiQ n.toNat e.toNat l), .int .i64 0]) else .tuple #[frV 0 0, frV 0 0, .int .i64 2]
theorem BelAt.ext {h h' : Zh} {w : Value} {b : List Rat} (hb : BelAt h w b) (hE : Ext (fun _ => False) h h') : BelAt h' w b := by
  obtain ⟨bl, h1, h2⟩ := hb
  exact ⟨bl, h1, (hE.2 _ (Yn h2) id).trans h2⟩

theorem s17_callW [Tabs Try.prog] {args : List Value} {h : Zh} {Q : Value → Zh → Prop} (hsz : args.length ≤ 65) (hk : AWS Try.prog 65 s17 (Zu Try.prog [.cell 6 26, .cell 7 26, .tmp 8] Q) (Zp 0 args) h) : ACall Try.prog 17 args h Q :=
  Yv Try.func17 rfl (enters_of Try.func17 (by kernel_rfl) rfl) rfl rfl (by decide) s17_strip s17_ok hsz hk
theorem progBounds_call [Tabs prog] {h : Zh} {n e : Int} {v : Value} {l : List (Int × Int)} (hv : PairSl h v l) (hl : l.length < 9223372036854775808) :
    ACall prog 17 [Zd n, v, Zd e] h fun r h' => Ext (fun _ => False) h h' ∧ r = bndV n e l := by
  obtain ⟨p, m, c, rfl⟩ := pairSl_shape hv
  obtain ⟨R, hR⟩ : ∃ R, bndV n e l = R := ⟨_, rfl⟩
  rw [hR]
  obtain ⟨H0, hH0⟩ : ∃ H, H = h ++ [z0] ++ [z0] := ⟨_, rfl⟩
  have hE0 : Ext (fun _ => False) h H0 := by rw [hH0]; exact e2 ..
  have a6 : H0[h.length]? = some z0 := by rw [hH0]; exact b2_0 ..
  have a7 : H0[h.length + 1]? = some z0 := by rw [hH0]; exact b2_1 ..
  have hl0 : H0.length = h.length + 2 := by rw [hH0]; simp
  obtain ⟨H, hH⟩ : ∃ H, H = H0 ++ [Blk.cells [Zd n, .slice p m c] 86 false] := ⟨_, rfl⟩
  have hE1 : Ext (fun _ => False) H0 H := by rw [hH]; exact Ext.app _ _ _
  have hE := hE0.trans hE1
  have b9 : H[H0.length]? = some (.cells [Zd n, .slice p m c] 86 false) := by rw [hH]; exact Yh _ _
  have b6 : H[h.length]? = some z0 := (hE1.2 _ (Yn a6) id).trans a6
  have b7 : H[h.length + 1]? = some z0 := (hE1.2 _ (Yn a7) id).trans a7
  have hvH := hv.ext hE
  refine s17_callW (by simp) ?_
  simp only [s17]
  refine Ze fun N1 hN1 => ?_
  simp (maxSteps := 2000000) only [↓Za, ↓Zb, ↓Zc, vup, cond_false, aop, Zg, Zp, ev, sput, Zf, Nat.reduceBEq, Nat.reduceAdd, tyf, Xn, Yx, List.length_append, List.length_singleton]
  rw [← hH0]
  refine hN1 [(0, Zd n), (1, .slice p m c), (2, Zd e), (6, .pointer (some ⟨h.length, 0, none⟩)), (7, .pointer (some ⟨h.length + 1, 0, none⟩)), (8, .int .i64 0)] _ _ ?_ (by simp (maxSteps := 2000000) only [vup, cond_true, cond_false, Nat.reduceBEq])
  clear hN1
  try clear N1
  refine Ze fun N2 hN2 => ?_
  simp (maxSteps := 2000000) only [↓Za, ↓Zb, ↓Zc, vup, List.map_cons, List.map_nil, cond_true, cond_false, aop, Zg, ev, sput, Zf, Nat.reduceBEq, tyf, bldT, Xn, Yx, storeT (Yh H0 (.cells [.int .i64 0, .slice none 0 0] 86 false)) rfl, Xy]
  rw [← hH]
  refine hN2 [(2, Zd e), (6, .pointer (some ⟨h.length, 0, none⟩)), (7, .pointer (some ⟨h.length + 1, 0, none⟩)), (8, .int .i64 0), (9, .pointer (some ⟨H0.length, 0, none⟩))] _ _ ?_ (by simp (maxSteps := 2000000) only [vup, cond_true, cond_false, Nat.reduceBEq])
  clear hN2
  try clear N2
  -- a refusal
  have refuse : ∀ (G : Zh) (k : Int), Ext (fun _ => False) H G → G[h.length]? = some z0 → G[h.length + 1]? = some z0 → ∀ K : Zh → Prop, (∀ G', Ext (fun _ => False) h G' → G'[h.length]? = some (fC 0 0) → G'[h.length + 1]? = some (fC 0 0) → K G') → Xh prog G 26 (.pointer (some ⟨h.length, 0, none⟩)) (.agg #[Zd 0, Zd 0]) fun G1 => Xh prog G1 26 (.pointer (some ⟨h.length + 1, 0, none⟩)) (.agg #[Zd 0, Zd 0]) K := by
    intro G k hG g6 g7 K hK
    rw [Xw g6 rfl]
    have g7' : (G.set h.length (fC 0 0))[h.length + 1]? = some z0 := by rw [List.getElem?_set_ne (by omega)]; exact g7
    rw [Xw g7' rfl]
    refine hK _ (((hE.trans hG).set_ge (Nat.le_refl _) _).set_ge (by omega) _) ?_ (Wa (Yn g7') _)
    rw [List.getElem?_set_ne (by omega)]; exact Wa (Yn g6) _
  refine Zl fun M hM => ?_
  refine Ze fun N3 hN3 => ?_
  have bad : ¬ (Yu n l = true ∧ evB n e = true) → ∀ e', ELe e' [(2, Zd e), (6, .pointer (some ⟨h.length, 0, none⟩)), (7, .pointer (some ⟨h.length + 1, 0, none⟩)), (8, .int .i64 0), (9, .pointer (some ⟨H0.length, 0, none⟩)), (25, .bool true)] → N3 e' H := by
    intro hb e' he
    refine hN3 _ _ _ ?_ he
    refine Xr rfl ?_
    refine Zi ?_
    simp (maxSteps := 2000000) only [↓Za, ↓Zw, ↓Zz, ↓Zb, ↓Zc, vup, List.map_nil, cond_true, cond_false, aop, Zg, ev, sput, Zf, Nat.reduceBEq, Zu, Xx, tup, bldF0]
    refine refuse H 2 (Ext.refl _ _) b6 b7 _ fun G' g1 g2 g3 => ?_
    simp (maxSteps := 2000000) only [Xz g2, Xz g3]
    rw [← hR, bndV, if_neg hb]
    exact ⟨g1, rfl⟩
  simp (maxSteps := 2000000) only [↓Za, ↓Zc, vup, List.map_cons, List.map_nil, cond_true, cond_false, aop, ev, sput, Zf, unK, Nat.reduceBEq, Yr, List.nil_append, List.append_nil, loadT b9]
  refine (valid_call hvH hl).mono ?_
  rintro _ H ⟨rfl, rfl⟩
  cases hval : Yu n l with
  | false =>
    simp (maxSteps := 2000000) only [↓Zb, ↓vdn, vup, cond_true, cond_false, Zg, ev, sput, Zf, Nat.reduceBEq]
    exact bad (by rw [hval]; simp) _ (by simp (maxSteps := 2000000) only [vup, cond_true, cond_false, Nat.reduceBEq])
  | true =>
    obtain ⟨k, hk⟩ : ∃ k : Nat, n = k := ⟨n.toNat, by simp only [Yu, Bool.and_eq_true, decide_eq_true_eq] at hval; omega⟩
    subst hk
    obtain ⟨hn2, hn5, hl1, hl6, hok⟩ := Wr hval
    have ie := isEvent_call (h := H) (n := k) (e := e) (v := .slice p m c) (by omega)
    have hevB : evB k e = (decide (0 ≤ e) && decide (e < 2 ^ k)) := by rw [evB, Int.toNat_natCast]
    rw [← hevB] at ie
    simp (maxSteps := 2000000) only [↓Zb, ↓Zc, ↓vdn, vup, List.map_cons, List.map_nil, cond_true, cond_false, aop, Zg, ev, sput, Zf, unK, Nat.reduceBEq, loadT b9, Yr, List.nil_append, List.append_nil]
    refine ie.mono ?_
    rintro _ H ⟨rfl, rfl⟩
    cases hev : evB k e with
    | false =>
      simp (maxSteps := 2000000) only [vup]
      exact bad (by rw [hev]; simp) _ (by simp (maxSteps := 2000000) only [vup, cond_true, cond_false, Nat.reduceBEq])
    | true =>
      clear bad
      simp (maxSteps := 2000000) only [vup]
      refine hN3 [(2, Zd e), (6, .pointer (some ⟨h.length, 0, none⟩)), (7, .pointer (some ⟨h.length + 1, 0, none⟩)), (8, .int .i64 0), (9, .pointer (some ⟨H0.length, 0, none⟩)), (25, .bool false)] _ _ ?_ (by simp (maxSteps := 2000000) only [vup, cond_true, cond_false, Nat.reduceBEq])
      clear hN3
      try clear N3
      refine Yz rfl ?_
      refine Zi ?_
      simp (maxSteps := 2000000) only [↓Zs, Zg]
      refine hM [(2, Zd e), (6, .pointer (some ⟨h.length, 0, none⟩)), (7, .pointer (some ⟨h.length + 1, 0, none⟩)), (8, .int .i64 0), (9, .pointer (some ⟨H0.length, 0, none⟩))] _ _ ?_ (by simp (maxSteps := 2000000) only [vup, cond_true, cond_false, Nat.reduceBEq])
      clear hM
      try clear M
      have hev' := hev
      rw [hevB, Bool.and_eq_true, decide_eq_true_eq, decide_eq_true_eq] at hev'
      obtain ⟨ee, hee⟩ : ∃ ee : Nat, e = ee := ⟨e.toNat, by omega⟩
      subst hee
      have hee2 : ee < 2 ^ k := by
        have := hev'.2
        exact_mod_cast this
      have hpk := pow_le (show k ≤ 62 by omega)
      have hbnd : bndV k ee l = if Yb k l = [] then .tuple #[frV 0 0, frV 0 0, .int .i64 5] else .tuple #[qV (loQ k ee l), qV (hiQ k ee l), .int .i64 0] := by
        rw [bndV, if_pos ⟨hval, hev⟩, Int.toNat_natCast, Int.toNat_natCast]
      have hcor := corners_call (n := k) hvH hval (tame_all hn5 (cts_of hval))
      refine Ze fun N4 hN4 => ?_
      simp (maxSteps := 2000000) only [↓Za, ↓Zb, ↓Zc, vup, List.map_cons, List.map_nil, cond_true, cond_false, aop, Zg, ev, sput, Zf, Nat.reduceBEq, Yr, List.nil_append, List.append_nil, loadT b9]
      refine (hcor).mono ?_
      rintro r H1 ⟨hEc, ⟨ws, hor, heach⟩, hb⟩
      refine hN4 [(2, Zd (ee : Nat)), (6, .pointer (some ⟨h.length, 0, none⟩)), (7, .pointer (some ⟨h.length + 1, 0, none⟩)), (8, .int .i64 0), (9, .pointer (some ⟨H0.length, 0, none⟩)), (10, r)] _ _ ?_ (by simp (maxSteps := 2000000) only [vup, cond_true, cond_false, Nat.reduceBEq])
      clear hN4
      try clear N4
      have c6 : H1[h.length]? = some z0 := (hEc.2 _ (Yn b6) id).trans b6
      have c7 : H1[h.length + 1]? = some z0 := (hEc.2 _ (Yn b7) id).trans b7
      have hlen := heach.len
      have hclen := cornersTo_len k l (2 ^ k - 1)
      have hp32 : (2 : Nat) ^ k ≤ 2 ^ 5 := Nat.pow_le_pow_right (by decide) hn5
      obtain ⟨cs, hcs⟩ : ∃ cs, Yb k l = cs := ⟨_, rfl⟩
      have hcm : ∀ b ∈ cs, b ∈ Yb k l := fun b hb => by rw [hcs]; exact hb
      have hcl : cs.length ≤ 32 := by
        rw [← hcs]
        have : (Yb k l).length ≤ 2 ^ k - 1 := hclen
        omega
      rw [hcs] at hlen heach hbnd
      refine Zl fun M hM => ?_
      by_cases hnil : cs = []
      · subst hnil
        have h0 : (((ws.length : Nat) : Int) == 0) = true := by simp [hlen]
        refine Ze fun N5 hN5 => ?_
        simp (maxSteps := 2000000) only [↓Za, ↓Zb, ↓Zc, vup, List.map_cons, List.map_nil, cond_true, cond_false, aop, Zg, ev, sput, Zf, Yk, Yl, Zk, Nat.reduceBEq, tyf, hor.val.len, h0]
        refine hN5 [(2, Zd (ee : Nat)), (6, .pointer (some ⟨h.length, 0, none⟩)), (7, .pointer (some ⟨h.length + 1, 0, none⟩)), (8, .int .i64 0), (9, .pointer (some ⟨H0.length, 0, none⟩)), (10, r), (32, .bool true)] _ _ ?_ (by simp (maxSteps := 2000000) only [vup, cond_true, cond_false, Nat.reduceBEq])
        clear hN5
        try clear N5
        refine Xr rfl ?_
        refine Zi ?_
        simp (maxSteps := 2000000) only [↓Za, ↓Zw, ↓Zz, ↓Zb, ↓Zc, vup, List.map_nil, cond_true, cond_false, aop, Zg, ev, sput, Zf, Nat.reduceBEq, Zu, Xx, tup, bldF0]
        refine refuse H1 5 hEc c6 c7 _ fun G' g1 g2 g3 => ?_
        simp (maxSteps := 2000000) only [Xz g2, Xz g3]
        rw [← hR, hbnd, if_pos rfl]
        exact ⟨g1, rfl⟩
      have hpos : 0 < ws.length := by
        rw [hlen]; exact List.length_pos_iff.2 hnil
      have h0 : (((ws.length : Nat) : Int) == 0) = false := beq_eq_false_iff_ne.2 (by omega)
      refine Ze fun N6 hN6 => ?_
      simp (maxSteps := 2000000) only [↓Za, ↓Zb, ↓Zc, vup, List.map_cons, List.map_nil, cond_true, cond_false, aop, Zg, ev, sput, Zf, Yk, Yl, Zk, Nat.reduceBEq, tyf, hor.val.len, h0]
      refine hN6 [(2, Zd (ee : Nat)), (6, .pointer (some ⟨h.length, 0, none⟩)), (7, .pointer (some ⟨h.length + 1, 0, none⟩)), (8, .int .i64 0), (9, .pointer (some ⟨H0.length, 0, none⟩)), (10, r), (32, .bool false)] _ _ ?_ (by simp (maxSteps := 2000000) only [vup, cond_true, cond_false, Nat.reduceBEq])
      clear hN6
      try clear N6
      refine Yz rfl ?_
      refine Zi ?_
      simp (maxSteps := 2000000) only [↓Zs, Zg]
      refine hM [(2, Zd (ee : Nat)), (6, .pointer (some ⟨h.length, 0, none⟩)), (7, .pointer (some ⟨h.length + 1, 0, none⟩)), (8, .int .i64 0), (9, .pointer (some ⟨H0.length, 0, none⟩)), (10, r)] _ _ ?_ (by simp (maxSteps := 2000000) only [vup, cond_true, cond_false, Nat.reduceBEq])
      clear hM
      try clear M
      clear refuse
      -- the first one
      obtain ⟨v0, hv0⟩ : ∃ v0, cvq k ee (cs.headD []) = v0 := ⟨_, rfl⟩
      have hhead : ∀ i, i < ws.length → BelAt H1 (ws.getD i undef) (cs.getD i []) := fun i hi => heach.get undef [] (by omega)
      have hmemi : ∀ i, i < ws.length → cs.getD i [] ∈ cs := fun i hi => by
        rw [List.getD, List.getElem?_eq_getElem (show i < cs.length by omega)]; exact List.getElem_mem _
      have hcs0 : cs.headD [] = cs.getD 0 [] := by cases cs <;> rfl
      have of0 : Xm prog 61 [ws.getD 0 undef, Zd (ee : Nat)] H1 (qV v0) := by
        rw [← hv0, hcs0]
        exact corner_of hval (hcm _ (hmemi 0 hpos)) (hhead 0 hpos) (by omega)
      have hi0 : ∀ K : Value → Prop, Xc prog 88 r (.int .i64 0) K = K (Vj r 1 0) := fun K => by
        have := hor.val.idx el_88 esz_90 (k := .i64) hpos K
        simpa using this
      obtain ⟨F, hF⟩ : ∃ F : Rat → Rat → Zh, F = fun a b => (H1.set h.length (fC a.num a.den)).set (h.length + 1) (fC b.num b.den) := ⟨_, rfl⟩
      have l1 : h.length + 1 < H1.length := Yn c7
      have F6 : ∀ a b, (F a b)[h.length]? = some (fC a.num a.den) := fun a b => by
        simp only [hF]; rw [List.getElem?_set_ne (by omega)]; exact Wa (Yn c6) _
      have F7 : ∀ a b, (F a b)[h.length + 1]? = some (fC b.num b.den) := fun a b => by
        simp only [hF]; exact Wa (by rw [List.length_set]; exact l1) _
      have FE : ∀ a b, Ext (fun _ => False) h (F a b) := fun a b => by
        simp only [hF]; exact (((hE.trans hEc).set_ge (Nat.le_refl _) _).set_ge (by omega) _)
      have FS : ∀ a b, Ext (fun i => i = h.length ∨ i = h.length + 1) H1 (F a b) := fun a b => by
        simp only [hF]; exact (Ext.set _ (.inl rfl)).trans (Ext.set _ (.inr rfl))
      have st6 : ∀ {K : Zh → Prop}, Xh prog H1 26 (.pointer (some ⟨h.length, 0, none⟩)) (.agg #[Zd v0.num, Zd v0.den]) K = K (H1.set h.length (fC v0.num v0.den)) := fun {K} => Xw c6 rfl
      have st7 : ∀ {K : Zh → Prop}, Xh prog (H1.set h.length (fC v0.num v0.den)) 26 (.pointer (some ⟨h.length + 1, 0, none⟩)) (.agg #[Zd v0.num, Zd v0.den]) K = K (F v0 v0) := fun {K} => by
        rw [Xw (show (H1.set h.length (fC v0.num v0.den))[h.length + 1]? = some z0 by rw [List.getElem?_set_ne (by omega)]; exact c7) rfl, hF]
      refine Ze fun N7 hN7 => ?_
      simp only [q17_7]
      refine Wl [(4, 1), (9, 1)] (by kernel_rfl) (by kernel_rfl) (by kernel_rfl) (by kernel_rfl) ?_
      refine dops_cut 5 rfl fun N1 hN1 => ?_
      simp (maxSteps := 2000000) only [↓Xj, ↓vdn, vup, List.map_cons, List.map_nil, cond_true, cond_false, aop, ev, sput, Zf, Nat.reduceBEq, Nat.reduceAdd, List.take_succ_cons, List.take_zero, hi0, hor.val.load shp_90 hpos, Yr, List.nil_append, List.append_nil]
      refine ⟨_, _, of0, rfl, ?_⟩
      refine hN1 _ _ ?_
      clear hN1 N1
      refine dops_cut 5 rfl fun N1 hN1 => ?_
      simp (maxSteps := 2000000) only [↓Xj, ↓vdn, vup, List.map_cons, List.map_nil, cond_true, cond_false, aop, ev, sput, Zf, Nat.reduceBEq, Nat.reduceAdd, List.drop_succ_cons, List.drop_zero, List.take_succ_cons, List.take_zero, hi0, hor.val.load shp_90 hpos, Yr, List.nil_append, List.append_nil]
      refine ⟨_, _, of0, rfl, ?_⟩
      refine hN1 _ _ ?_
      clear hN1 N1
      simp (maxSteps := 2000000) only [↓Xj, ↓vdn, vup, cond_true, cond_false, aop, Zg, ev, Zf, Nat.reduceBEq, Nat.reduceAdd, List.drop_succ_cons, List.drop_zero, qV, frV, st6, st7]
      refine hN7 [(2, Zd (ee : Nat)), (6, .pointer (some ⟨h.length, 0, none⟩)), (7, .pointer (some ⟨h.length + 1, 0, none⟩)), (8, .int .i64 0), (9, .pointer (some ⟨H0.length, 0, none⟩)), (10, r)] _ _ ?_ (by simp (maxSteps := 2000000) only [vup, cond_true, cond_false, Nat.reduceBEq])
      clear hN7
      try clear N7
      -- all of them
      have hsm : ∀ i, i < ws.length → SmQ (cvq k ee (cs.getD i [])) := fun i hi => corner_sm hval (hcm _ (hmemi i hi)) ee
      have hsv0 : SmQ v0 := by rw [← hv0, hcs0]; exact hsm 0 hpos
      obtain ⟨vs, hvs⟩ : ∃ vs, cs.map (cvq k ee) = vs := ⟨_, rfl⟩
      have hvl : vs.length = ws.length := by rw [← hvs, List.length_map, hlen]
      have hvg : ∀ i, i < ws.length → vs.take i ++ [cvq k ee (cs.getD i [])] = vs.take (i + 1) := fun i hi => by
        have e : vs.getD i 0 = cvq k ee (cs.getD i []) := by
          rw [← hvs, List.getD, List.getElem?_map, List.getElem?_eq_getElem (show i < cs.length by omega), List.getD, List.getElem?_eq_getElem (show i < cs.length by omega)]; rfl
        rw [← e]; exact (take_snoc (by omega)).symm
      have hmm : ∀ i, i ≤ ws.length → SmQ (minL v0 (vs.take i)) ∧ SmQ (maxL v0 (vs.take i)) ∧ minL v0 (vs.take i) ≤ maxL v0 (vs.take i) := fun i hi => by
        have hall : ∀ v ∈ vs.take i, SmQ v := fun v hv => by
          have := List.mem_of_mem_take hv
          rw [← hvs] at this
          obtain ⟨b, hb, rfl⟩ := List.mem_map.1 this
          exact corner_sm hval (hcm b hb) ee
        obtain ⟨g1, g2, g3⟩ := minL_spec (vs.take i) v0
        obtain ⟨f1, f2, f3⟩ := maxL_spec (vs.take i) v0
        refine ⟨?_, ?_, Rat.le_trans g2 f2⟩
        · rcases g1 with g | g
          · rw [g]; exact hsv0
          · exact hall _ g
        · rcases f1 with g | g
          · rw [g]; exact hsv0
          · exact hall _ g
      refine Zl fun Z hZ => ?_
      refine Ze fun N8 hN8 => ?_
      simp (maxSteps := 2000000) only [↓Za, ↓Zb, ↓Zc, vup, List.map_cons, List.map_nil, cond_true, cond_false, aop, Zg, ev, sput, Zf, Zk, Nat.reduceBEq, tyf, hor.val.len]
      refine hN8 [(2, Zd (ee : Nat)), (6, .pointer (some ⟨h.length, 0, none⟩)), (7, .pointer (some ⟨h.length + 1, 0, none⟩)), (8, .int .i64 0), (9, .pointer (some ⟨H0.length, 0, none⟩)), (10, r), (45, r), (46, Zd (ws.length : Nat)), (47, .int .i64 0)] _ _ ?_ (by simp (maxSteps := 2000000) only [vup, cond_true, cond_false, Nat.reduceBEq])
      clear hN8
      try clear N8
      refine Zn ?_
      refine Zy fun Q hQ => ?_
      refine Xd (γ := Nat × Zh) (fun s => s.1 ≤ ws.length ∧ Ext (fun i => i = h.length ∨ i = h.length + 1) H1 s.2 ∧ Ext (fun _ => False) h s.2 ∧ s.2[h.length]? = some (fC (minL v0 (vs.take s.1)).num (minL v0 (vs.take s.1)).den) ∧ s.2[h.length + 1]? = some (fC (maxL v0 (vs.take s.1)).num (maxL v0 (vs.take s.1)).den))
        (fun s => ([(2, Zd (ee : Nat)), (6, .pointer (some ⟨h.length, 0, none⟩)), (7, .pointer (some ⟨h.length + 1, 0, none⟩)), (8, .int .i64 0), (9, .pointer (some ⟨H0.length, 0, none⟩)), (10, r), (45, r), (46, Zd (ws.length : Nat)), (47, Zd (s.1 : Nat))], s.2)) (fun s => ws.length - s.1) (0, F v0 v0) ⟨Nat.zero_le _, FS _ _, FE _ _, F6 _ _, F7 _ _⟩ (by simp (maxSteps := 2000000) only [vup, cond_true, cond_false, Nat.reduceBEq, Int.natCast_zero]) rfl ?_
      rintro ⟨i, G⟩ ⟨hi, hGS, hGE, g6, g7⟩
      simp only at hi hGS hGE g6 g7
      refine Zy fun Q2 hQ2 => ?_
      simp only [l17_0]
      have horG : OwnV 88 G r ws ∨ True := .inr trivial
      by_cases hin : (i : Int) < ws.length
      · have hi' : i < ws.length := by omega
        obtain ⟨sm1, sm2, smle⟩ := hmm i hi
        have smf := hsm i hi'
        have hsn := hvg i hi'
        have hBel := hhead i hi'
        obtain ⟨f, hf⟩ : ∃ f, cvq k ee (cs.getD i []) = f := ⟨_, rfl⟩
        rw [hf] at smf hsn
        have hmin := minL_snoc (vs.take i) f v0
        have hmax := maxL_snoc (vs.take i) f v0
        rw [hsn] at hmin hmax
        obtain ⟨A, hA⟩ : ∃ A, minL v0 (vs.take i) = A := ⟨_, rfl⟩
        obtain ⟨B, hB⟩ : ∃ A, maxL v0 (vs.take i) = A := ⟨_, rfl⟩
        rw [hA] at sm1 smle hmin g6
        rw [hB] at sm2 smle hmax g7
        have hkeepB : ∀ b x, H1[b]? = some x → b ≠ h.length → b ≠ h.length + 1 → G[b]? = some x := fun b x hb n1 n2 => (hGS.2 b (Yn hb) (by omega)).trans hb
        have hws : ValSl G r ws := hor.val.same fun b hb => hGS.2 b (hor.lt hb) (by
          rintro (h1 | h1)
          · obtain ⟨c', hc'⟩ := hor.blk hb; rw [h1, c6] at hc'; exact absurd (Blk.cells.inj (Option.some.inj hc')).2.1 (by decide)
          · obtain ⟨c', hc'⟩ := hor.blk hb; rw [h1, c7] at hc'; exact absurd (Blk.cells.inj (Option.some.inj hc')).2.1 (by decide))
        have hBelG : BelAt G (ws.getD i undef) (cs.getD i []) := by
          obtain ⟨bl, e1, e2⟩ := hBel
          have hlc := (corner_facts hval (hcm _ (hmemi i hi'))).1
          refine ⟨bl, e1, hkeepB bl _ e2 (fun hc => ?_) (fun hc => ?_)⟩
          · rw [hc, c6] at e2
            have := congrArg List.length (Blk.cells.inj (Option.some.inj e2)).1
            simp only [List.length_map, Xf, hlc, List.length_cons, List.length_nil] at this
            omega
          · rw [hc, c7] at e2
            have := congrArg List.length (Blk.cells.inj (Option.some.inj e2)).1
            simp only [List.length_map, Xf, hlc, List.length_cons, List.length_nil] at this
            omega
        have ofi : Xm prog 61 [ws.getD i undef, Zd (ee : Nat)] G (qV f) := by
          rw [← hf]
          exact corner_of hval (hcm _ (hmemi i hi')) hBelG (by omega)
        obtain ⟨hh, hhe⟩ : ∃ hh, hh = G ++ [fC f.num f.den] := ⟨_, rfl⟩
        have g13 : hh[G.length]? = some (fC f.num f.den) := by rw [hhe]; exact Yh _ _
        have g6' : hh[h.length]? = some (fC A.num A.den) := by rw [hhe]; exact Xp g6 _
        have g7' : hh[h.length + 1]? = some (fC B.num B.den) := by rw [hhe]; exact Xp g7 _
        have hES : Ext (fun i => i = h.length ∨ i = h.length + 1) H1 hh := by rw [hhe]; exact hGS.trans (Ext.app _ _ _)
        have hEE : Ext (fun _ => False) h hh := by rw [hhe]; exact hGE.trans (Ext.app _ _ _)
        refine Ze fun N9 hN9 => ?_
        simp (maxSteps := 2000000) only [↓Za, ↓Zb, ↓Zc, vup, cond_true, cond_false, aop, Zg, ev, sput, Zf, Yk, Yl, Nat.reduceBEq, hin]
        refine hN9 [(2, Zd (ee : Nat)), (6, .pointer (some ⟨h.length, 0, none⟩)), (7, .pointer (some ⟨h.length + 1, 0, none⟩)), (8, .int .i64 0), (9, .pointer (some ⟨H0.length, 0, none⟩)), (10, r), (45, r), (46, Zd (ws.length : Nat)), (47, Zd (i : Nat)), (48, .bool true)] _ _ ?_ (by simp (maxSteps := 2000000) only [vup, cond_true, cond_false, Nat.reduceBEq])
        clear hN9
        try clear N9
        refine Ze fun N10 hN10 => ?_
        simp (maxSteps := 2000000) only [↓Zs, ↓vdn, vup, cond_true, cond_false, Zg, ev, Nat.reduceBEq]
        refine hN10 [(2, Zd (ee : Nat)), (6, .pointer (some ⟨h.length, 0, none⟩)), (7, .pointer (some ⟨h.length + 1, 0, none⟩)), (8, .int .i64 0), (9, .pointer (some ⟨H0.length, 0, none⟩)), (10, r), (45, r), (46, Zd (ws.length : Nat)), (47, Zd (i : Nat))] _ _ ?_ (by simp (maxSteps := 2000000) only [vup, cond_true, cond_false, Nat.reduceBEq])
        clear hN10
        try clear N10
        refine Zl fun D hD => ?_
        refine Zn ?_
        have fin : ∀ e' G' (a b : Rat), minL v0 (vs.take (i + 1)) = a → maxL v0 (vs.take (i + 1)) = b → Ext (fun i => i = h.length ∨ i = h.length + 1) H1 G' → Ext (fun _ => False) h G' → G'[h.length]? = some (fC a.num a.den) → G'[h.length + 1]? = some (fC b.num b.den) → ELe e' [(2, Zd (ee : Nat)), (6, .pointer (some ⟨h.length, 0, none⟩)), (7, .pointer (some ⟨h.length + 1, 0, none⟩)), (8, .int .i64 0), (9, .pointer (some ⟨H0.length, 0, none⟩)), (10, r), (45, r), (46, Zd (ws.length : Nat)), (47, Zd (i : Nat))] → D e' G' := by
          intro e' G' a b e1 e2 e3 e4 e5 e6 he
          subst e1
          subst e2
          refine hD _ _ _ ?_ he
          refine Zi ?_
          simp (maxSteps := 2000000) only [↓Za, ↓Zb, ↓Zc, vup, cond_true, cond_false, aop, ev, sput, Zf, Yk, Yl, Nat.reduceBEq, add1 (show i < 9223372036854775807 by omega)]
          exact hQ2 _ _ _ ⟨(i + 1, G'), ⟨hi', e3, e4, e5, e6⟩, by simp only; omega, by simp (maxSteps := 2000000) only [vup, cond_true, cond_false, Nat.reduceBEq], rfl⟩
        refine Ze fun N11 hN11 => ?_
        simp (maxSteps := 2000000) only [↓Za, ↓Zb, ↓Zc, vup, cond_true, cond_false, aop, Zg, ev, sput, Zf, Nat.reduceBEq, hws.idx el_88 esz_90 hi', hws.load shp_90 hi']
        refine hN11 [(2, Zd (ee : Nat)), (6, .pointer (some ⟨h.length, 0, none⟩)), (7, .pointer (some ⟨h.length + 1, 0, none⟩)), (8, .int .i64 0), (9, .pointer (some ⟨H0.length, 0, none⟩)), (10, r), (12, ws.getD i undef), (45, r), (46, Zd (ws.length : Nat)), (47, Zd (i : Nat))] _ _ ?_ (by simp (maxSteps := 2000000) only [vup, cond_true, cond_false, Nat.reduceBEq])
        clear hN11
        try clear N11
        refine Ze fun N12 hN12 => ?_
        simp (maxSteps := 2000000) only [↓Za, ↓Zb, ↓Zc, vup, List.map_cons, List.map_nil, cond_true, cond_false, aop, Zg, ev, sput, Zf, Nat.reduceBEq, Yr, List.nil_append, List.append_nil]
        refine (ofi).mono ?_
        rintro _ G ⟨rfl, rfl⟩
        simp (maxSteps := 2000000) only [tyf, qV, frV, Xn, Yx, Xw (Yh G z0) rfl, Xy]
        rw [← hhe]
        refine hN12 [(2, Zd (ee : Nat)), (6, .pointer (some ⟨h.length, 0, none⟩)), (7, .pointer (some ⟨h.length + 1, 0, none⟩)), (8, .int .i64 0), (9, .pointer (some ⟨H0.length, 0, none⟩)), (10, r), (12, ws.getD i undef), (13, .pointer (some ⟨G.length, 0, none⟩)), (45, r), (46, Zd (ws.length : Nat)), (47, Zd (i : Nat))] _ _ ?_ (by simp (maxSteps := 2000000) only [vup, cond_true, cond_false, Nat.reduceBEq])
        clear hN12
        try clear N12
        refine Ze fun N13 hN13 => ?_
        simp (maxSteps := 2000000) only [↓Za, ↓Zb, ↓Zc, vup, List.map_cons, List.map_nil, cond_true, cond_false, aop, Zg, ev, sput, Zf, Nat.reduceBEq, Yr, List.nil_append, List.append_nil, Xz g13, Xz g6']
        refine ((smf.less sm1 hh)).mono ?_
        rintro _ hh ⟨rfl, rfl⟩
        refine hN13 [(2, Zd (ee : Nat)), (6, .pointer (some ⟨h.length, 0, none⟩)), (7, .pointer (some ⟨h.length + 1, 0, none⟩)), (8, .int .i64 0), (9, .pointer (some ⟨H0.length, 0, none⟩)), (10, r), (12, ws.getD i undef), (13, .pointer (some ⟨G.length, 0, none⟩)), (45, r), (46, Zd (ws.length : Nat)), (47, Zd (i : Nat)), (56, .bool (decide (f < A)))] _ _ ?_ (by simp (maxSteps := 2000000) only [vup, cond_true, cond_false, Nat.reduceBEq])
        clear hN13
        try clear N13
        by_cases h1 : f < A
        · have nb : ¬ B < f := Rat.not_lt.2 (Rat.le_trans (Rat.le_of_lt h1) smle)
          rw [if_pos h1] at hmin
          rw [if_neg nb] at hmax
          rw [decide_eq_true h1]
          refine Xr rfl ?_
          refine Zi ?_
          simp (maxSteps := 2000000) only [↓Za, ↓Zb, ↓Zc, vup, cond_true, cond_false, aop, Zg, Zo, ev, sput, Zf, Nat.reduceBEq, Xz g13, Xw g6' rfl]
          refine fin _ _ f B hmin hmax (hES.trans (Ext.set _ (.inl rfl))) (hEE.set_ge (Nat.le_refl _) _) (Wa (Yn g6') _) ?_ (by simp (maxSteps := 2000000) only [vup, cond_true, cond_false, Nat.reduceBEq])
          rw [List.getElem?_set_ne (by omega)]; exact g7'
        · rw [if_neg h1] at hmin
          rw [decide_eq_false h1]
          refine Yz rfl ?_
          refine Ze fun N14 hN14 => ?_
          simp (maxSteps := 2000000) only [↓Za, ↓Zb, ↓Zc, vup, List.map_cons, List.map_nil, cond_true, cond_false, aop, Zg, ev, sput, Zf, Nat.reduceBEq, Yr, List.nil_append, List.append_nil, Xz g13, Xz g7']
          refine ((sm2.less smf hh)).mono ?_
          rintro _ hh ⟨rfl, rfl⟩
          refine hN14 [(2, Zd (ee : Nat)), (6, .pointer (some ⟨h.length, 0, none⟩)), (7, .pointer (some ⟨h.length + 1, 0, none⟩)), (8, .int .i64 0), (9, .pointer (some ⟨H0.length, 0, none⟩)), (10, r), (12, ws.getD i undef), (13, .pointer (some ⟨G.length, 0, none⟩)), (45, r), (46, Zd (ws.length : Nat)), (47, Zd (i : Nat)), (56, .bool false), (60, .bool (decide (B < f)))] _ _ ?_ (by simp (maxSteps := 2000000) only [vup, cond_true, cond_false, Nat.reduceBEq])
          clear hN14
          try clear N14
          by_cases h2 : B < f
          · rw [if_pos h2] at hmax
            rw [decide_eq_true h2]
            refine Xr rfl ?_
            refine Zi ?_
            simp (maxSteps := 2000000) only [↓Za, ↓Zb, ↓Zc, vup, cond_true, cond_false, aop, Zg, Zo, ev, sput, Zf, Nat.reduceBEq, Xz g13, Xw g7' rfl]
            refine fin _ _ A f hmin hmax (hES.trans (Ext.set _ (.inr rfl))) (hEE.set_ge (by omega) _) ?_ (Wa (Yn g7') _) (by simp (maxSteps := 2000000) only [vup, cond_true, cond_false, Nat.reduceBEq])
            rw [List.getElem?_set_ne (by omega)]; exact g6'
          · rw [if_neg h2] at hmax
            rw [decide_eq_false h2]
            refine Yz rfl ?_
            refine Zi ?_
            simp (maxSteps := 2000000) only [↓Zs, Zg, Zo]
            exact fin _ _ A B hmin hmax hES hEE g6' g7' (by simp (maxSteps := 2000000) only [vup, cond_true, cond_false, Nat.reduceBEq])
      · obtain rfl : i = ws.length := by omega
        refine Ze fun N15 hN15 => ?_
        simp (maxSteps := 2000000) only [↓Za, ↓Zb, ↓Zc, vup, cond_true, cond_false, aop, Zg, ev, sput, Zf, Yk, Yl, Nat.reduceBEq, hin]
        refine hN15 [(2, Zd (ee : Nat)), (6, .pointer (some ⟨h.length, 0, none⟩)), (7, .pointer (some ⟨h.length + 1, 0, none⟩)), (8, .int .i64 0), (9, .pointer (some ⟨H0.length, 0, none⟩)), (10, r), (45, r), (46, Zd (ws.length : Nat)), (47, Zd ws.length), (48, .bool false)] _ _ ?_ (by simp (maxSteps := 2000000) only [vup, cond_true, cond_false, Nat.reduceBEq])
        clear hN15
        try clear N15
        refine Ze fun N16 hN16 => ?_
        simp (maxSteps := 2000000) only [↓Xl, ↓vdn, vup, cond_true, cond_false, Zg, ev, Nat.reduceBEq]
        refine hQ2 _ _ _ (hQ _ _ _ ?_)
        simp (maxSteps := 2000000) only [Zg, Zo, Zu, if_true]
        refine hZ [(2, Zd (ee : Nat)), (6, .pointer (some ⟨h.length, 0, none⟩)), (7, .pointer (some ⟨h.length + 1, 0, none⟩)), (8, .int .i64 0), (9, .pointer (some ⟨H0.length, 0, none⟩)), (10, r), (48, .bool false)] _ _ ?_ (by simp (maxSteps := 2000000) only [vup, cond_true, cond_false, Nat.reduceBEq])
        clear hZ
        try clear Z
        have htk : vs.take ws.length = vs := List.take_of_length_le (by omega)
        rw [htk] at g6 g7
        obtain ⟨A, hA⟩ : ∃ A, minL v0 vs = A := ⟨_, rfl⟩
        obtain ⟨B, hB⟩ : ∃ A, maxL v0 vs = A := ⟨_, rfl⟩
        rw [hA] at g6
        rw [hB] at g7
        have s6 : ∀ {K : Zh → Prop}, Xh prog G 26 (.pointer (some ⟨h.length, 0, none⟩)) (.agg #[Zd A.num, Zd A.den]) K = K G := fun {K} => by
          rw [Xw g6 rfl]
          obtain ⟨x1, x2⟩ := List.getElem?_eq_some_iff.1 g6
          rw [show G.set h.length (fC A.num A.den) = G by rw [← x2]; exact List.set_getElem_self x1]
        have s7 : ∀ {K : Zh → Prop}, Xh prog G 26 (.pointer (some ⟨h.length + 1, 0, none⟩)) (.agg #[Zd B.num, Zd B.den]) K = K G := fun {K} => by
          rw [Xw g7 rfl]
          obtain ⟨x1, x2⟩ := List.getElem?_eq_some_iff.1 g7
          rw [show G.set (h.length + 1) (fC B.num B.den) = G by rw [← x2]; exact List.set_getElem_self x1]
        refine Ze fun N17 hN17 => ?_
        simp only [q17_17]
        refine aw_drawR (fun z => z[h.length + 1]? = some (fC B.num B.den)) [(1, 5)] (by kernel_rfl) (by kernel_rfl) (by kernel_rfl) (by kernel_rfl) g7 ?_
        simp (maxSteps := 2000000) only [↓dopsR_nil, ↓vdn, vup, cond_true, cond_false, aop, Zg, ev, sput, Zf, Nat.reduceBEq, Nat.reduceAdd, Xz g6, s6]
        refine ⟨.agg #[Zd B.num, Zd (B.den : Int)], fun z hz => by simp only [Xz hz], g7, ?_⟩
        rw [s7]
        refine ⟨g7, ?_⟩
        refine hN17 [(2, Zd (ee : Nat)), (6, .pointer (some ⟨h.length, 0, none⟩)), (7, .pointer (some ⟨h.length + 1, 0, none⟩)), (8, .int .i64 0), (9, .pointer (some ⟨H0.length, 0, none⟩)), (10, r), (48, .bool false)] _ _ ?_ (by simp (maxSteps := 2000000) only [vup, cond_true, cond_false, Nat.reduceBEq])
        clear hN17
        try clear N17
        refine Zi ?_
        simp (maxSteps := 2000000) only [↓Zz, vup, cond_true, cond_false, Nat.reduceBEq, Zu, Xx, tup, Xz g6, Xz g7]
        rw [← hR, hbnd, if_neg hnil, loQ, hiQ, hcs, hvs, hv0, hA, hB]
        exact ⟨hGE, rfl⟩
end Go.Proofs.Try.Am

namespace Go.Proofs.Try.Am
open Go.Am Bq
set_option maxRecDepth 100000
set_option maxHeartbeats 4000000

/-- The prices between bounds. -/
def prF (lo hi : Rat) (c : Nat) : Bool := !decide (Rat.divInt (c : Int) 12 < lo) && !decide (hi < Rat.divInt (c : Int) 12)
def prTo (lo hi : Rat) (k : Nat) : List Nat := (List.range k).filter (prF lo hi)
theorem prTo_succ (lo hi : Rat) (k : Nat) : prTo lo hi (k + 1) = prTo lo hi k ++ if prF lo hi k then [k] else [] := by
  rw [prTo, List.range_succ, List.filter_append]
  simp only [List.filter_cons, List.filter_nil, prTo]
theorem prTo_le (lo hi : Rat) (k : Nat) : (prTo lo hi k).length ≤ k := by
  have := List.length_filter_le (prF lo hi) (List.range k)
  rwa [List.length_range] at this
theorem cent_sm (c : Nat) (hc : c < 13) : SmQ (Rat.divInt (c : Int) 12) := by
  have r := Rp.of_frac (N := 12) (by decide) (c : Int)
  have z : Rp 12 0 (0 : Rat) := ⟨by decide, by simp⟩
  have o : Rp 12 12 (1 : Rat) := ⟨by decide, by decide +kernel⟩
  refine ⟨?_, ?_, Nat.le_trans r.den_le (by decide)⟩
  · rw [← Rat.not_lt]; intro h; have := (r.lt z).1 h; omega
  · rw [← Rat.not_lt]; intro h; have := (o.lt r).1 h; omega
theorem bnd_sm {n e : Nat} {l : List (Int × Int)} (hval : Yu n l = true) (hne : Yb n l ≠ []) : SmQ (loQ n e l) ∧ SmQ (hiQ n e l) := by
  have hall : ∀ v ∈ (Yb n l).map (cvq n e), SmQ v := fun v hv => by
    obtain ⟨b, hb, rfl⟩ := List.mem_map.1 hv
    exact corner_sm hval hb e
  have h0 : SmQ (cvq n e ((Yb n l).headD [])) := by
    cases hc : Yb n l with
    | nil => exact absurd hc hne
    | cons c cs => exact corner_sm hval (by rw [hc]; simp) e
  constructor
  · rcases (minL_spec ((Yb n l).map (cvq n e)) (cvq n e ((Yb n l).headD []))).1 with g | g
    · rw [loQ, g]; exact h0
    · exact hall _ g
  · rcases (maxL_spec ((Yb n l).map (cvq n e)) (cvq n e ((Yb n l).headD []))).1 with g | g
    · rw [hiQ, g]; exact h0
    · exact hall _ g
/-- What Price hands back. -/
def Vl (n e : Int) (l : List (Int × Int)) (h' : Zh) (x : Value) (f : Int) : Prop :=
  if Yu n l = true ∧ evB n e = true then (if Yb n.toNat l = [] then x = .slice none 0 0 ∧ f = 5 else IntSl h' x (Ww (prTo (loQ n.toNat e.toNat l) (hiQ n.toNat e.toNat l) 13)) ∧ f = 0) else x = .slice none 0 0 ∧ f = 2

theorem s24_callW [Tabs Try.prog] {args : List Value} {h : Zh} {Q : Value → Zh → Prop} (hsz : args.length ≤ 46) (hk : AWS Try.prog 46 s24 (Zu Try.prog [.tmp 6, .tmp 7] Q) (Zp 0 args) h) : ACall Try.prog 24 args h Q :=
  Yv Try.func24 rfl (enters_of Try.func24 (by kernel_rfl) rfl) rfl rfl (by decide) s24_strip s24_ok hsz hk
theorem progPrice_call [Tabs prog] {h : Zh} {n e : Int} {v : Value} {l : List (Int × Int)} (hv : PairSl h v l) (hl : l.length < 9223372036854775808) :
    ACall prog 24 [Zd n, v, Zd e] h fun r h' => Ext (fun _ => False) h h' ∧ ∃ x f, r = .tuple #[x, .int .i64 f] ∧ Vl n e l h' x f := by
  refine s24_callW (by simp) ?_
  simp only [s24]
  refine Ze fun N1 hN1 => ?_
  simp (maxSteps := 2000000) only [↓Za, ↓Zb, ↓Zc, vup, cond_false, aop, Zg, Zp, ev, sput, Zf, Nat.reduceBEq, Nat.reduceAdd]
  refine hN1 [(0, Zd n), (1, v), (2, Zd e), (6, .slice none 0 0), (7, .int .i64 0)] _ _ ?_ (by simp (maxSteps := 2000000) only [vup, cond_true, cond_false, Nat.reduceBEq])
  clear hN1
  try clear N1
  refine Ze fun N2 hN2 => ?_
  simp (maxSteps := 2000000) only [↓Za, ↓Zb, ↓Zc, vup, List.map_cons, List.map_nil, cond_true, cond_false, aop, Zg, ev, sput, Zf, Nat.reduceBEq, Yr, List.nil_append, List.append_nil]
  refine (progBounds_call hv hl).mono ?_
  rintro _ H ⟨hE, hr⟩
  rw [hr]
  have st8 : ∀ {a b c d : Int} {K : Zh → Prop}, Xh prog (H ++ [z0] ++ [z0]) 26 (.pointer (some ⟨H.length, 0, none⟩)) (.agg #[Zd a, Zd b]) K = K (H ++ [fC a b] ++ [z0]) := fun {a b c d K} => by
    rw [Xw (b2_0 ..) rfl, List.set_append_left _ _ (by simp), Xy]
  have st9 : ∀ {a b c d : Int} {K : Zh → Prop}, Xh prog (H ++ [fC a b] ++ [z0]) 26 (.pointer (some ⟨H.length + 1, 0, none⟩)) (.agg #[Zd c, Zd d]) K = K (H ++ [fC a b] ++ [fC c d]) := fun {a b c d K} => by
    have := Xy (H ++ [fC a b]) z0 (fC c d)
    simp only [List.length_append, List.length_singleton] at this
    rw [Xw (b2_1 ..) rfl, this]
  by_cases hgood : Yu n l = true ∧ evB n e = true
  case neg =>
    have hb : bndV n e l = .tuple #[frV 0 0, frV 0 0, .int .i64 2] := by rw [bndV, if_neg hgood]
    have e20 : ((2 : Int) != 0) = true := rfl
    rw [hb]
    simp (maxSteps := 2000000) only [extr_30, extr_31, extr_32, tyf, frV, Xn, Yx, List.length_append, List.length_singleton]
    rw [st8 (c := 0) (d := 0)]
    rw [st9]
    refine hN2 [(0, Zd n), (1, v), (2, Zd e), (6, .slice none 0 0), (7, .int .i64 0), (8, .pointer (some ⟨H.length, 0, none⟩)), (9, .pointer (some ⟨H.length + 1, 0, none⟩)), (10, .int .i64 2)] _ _ ?_ (by simp (maxSteps := 2000000) only [vup, cond_true, cond_false, Nat.reduceBEq])
    clear hN2
    try clear N2
    refine Zl fun M hM => ?_
    refine Ze fun N3 hN3 => ?_
    simp (maxSteps := 2000000) only [↓Za, ↓Zb, ↓Zc, vup, cond_true, cond_false, aop, Zg, ev, sput, Zf, Yk, Yl, Nat.reduceBEq, e20]
    refine hN3 [(0, Zd n), (1, v), (2, Zd e), (6, .slice none 0 0), (7, .int .i64 0), (8, .pointer (some ⟨H.length, 0, none⟩)), (9, .pointer (some ⟨H.length + 1, 0, none⟩)), (10, .int .i64 2), (23, .bool true)] _ _ ?_ (by simp (maxSteps := 2000000) only [vup, cond_true, cond_false, Nat.reduceBEq])
    clear hN3
    try clear N3
    refine Xr rfl ?_
    refine Zi ?_
    simp (maxSteps := 2000000) only [↓Za, ↓Zw, ↓Zz, ↓Zb, ↓Zc, vup, cond_true, cond_false, aop, Zg, ev, sput, Zf, Nat.reduceBEq, Zu, Xx, tup]
    exact ⟨hE.trans (e2 ..), _, _, rfl, by rw [Vl, if_neg hgood]; exact ⟨rfl, rfl⟩⟩
  case pos =>
  obtain ⟨hval, hev⟩ := hgood
  obtain ⟨k, hk⟩ : ∃ k : Nat, n = k := ⟨n.toNat, by simp only [Yu, Bool.and_eq_true, decide_eq_true_eq] at hval; omega⟩
  obtain ⟨ee, hee⟩ : ∃ ee : Nat, e = ee := ⟨e.toNat, by simp only [evB, Bool.and_eq_true, decide_eq_true_eq] at hev; omega⟩
  subst hk
  subst hee
  by_cases hnil : Yb k l = []
  · have hb : bndV k ee l = .tuple #[frV 0 0, frV 0 0, .int .i64 5] := by rw [bndV, if_pos ⟨hval, hev⟩, Int.toNat_natCast, if_pos hnil]
    have e50 : ((5 : Int) != 0) = true := rfl
    rw [hb]
    simp (maxSteps := 2000000) only [extr_30, extr_31, extr_32, tyf, frV, Xn, Yx, List.length_append, List.length_singleton]
    rw [st8 (c := 0) (d := 0)]
    rw [st9]
    refine hN2 [(0, Zd (k : Nat)), (1, v), (2, Zd (ee : Nat)), (6, .slice none 0 0), (7, .int .i64 0), (8, .pointer (some ⟨H.length, 0, none⟩)), (9, .pointer (some ⟨H.length + 1, 0, none⟩)), (10, .int .i64 5)] _ _ ?_ (by simp (maxSteps := 2000000) only [vup, cond_true, cond_false, Nat.reduceBEq])
    clear hN2
    try clear N2
    refine Zl fun M hM => ?_
    refine Ze fun N4 hN4 => ?_
    simp (maxSteps := 2000000) only [↓Za, ↓Zb, ↓Zc, vup, cond_true, cond_false, aop, Zg, ev, sput, Zf, Yk, Yl, Nat.reduceBEq, e50]
    refine hN4 [(0, Zd (k : Nat)), (1, v), (2, Zd (ee : Nat)), (6, .slice none 0 0), (7, .int .i64 0), (8, .pointer (some ⟨H.length, 0, none⟩)), (9, .pointer (some ⟨H.length + 1, 0, none⟩)), (10, .int .i64 5), (23, .bool true)] _ _ ?_ (by simp (maxSteps := 2000000) only [vup, cond_true, cond_false, Nat.reduceBEq])
    clear hN4
    try clear N4
    refine Xr rfl ?_
    refine Zi ?_
    simp (maxSteps := 2000000) only [↓Za, ↓Zw, ↓Zz, ↓Zb, ↓Zc, vup, cond_true, cond_false, aop, Zg, ev, sput, Zf, Nat.reduceBEq, Zu, Xx, tup]
    exact ⟨hE.trans (e2 ..), _, _, rfl, by rw [Vl, if_pos ⟨hval, hev⟩, Int.toNat_natCast, if_pos hnil]; exact ⟨rfl, rfl⟩⟩
  have hb : bndV k ee l = .tuple #[qV (loQ k ee l), qV (hiQ k ee l), .int .i64 0] := by rw [bndV, if_pos ⟨hval, hev⟩, Int.toNat_natCast, Int.toNat_natCast, if_neg hnil]
  have hpis : ∀ h' x f, Vl k ee l h' x f ↔ IntSl h' x (Ww (prTo (loQ k ee l) (hiQ k ee l) 13)) ∧ f = 0 := fun h' x f => by
    rw [Vl, if_pos ⟨hval, hev⟩, Int.toNat_natCast, Int.toNat_natCast, if_neg hnil]
  obtain ⟨sl, sh⟩ := bnd_sm (e := ee) hval hnil
  obtain ⟨lo, hlo⟩ : ∃ x, loQ k ee l = x := ⟨_, rfl⟩
  obtain ⟨hi, hhi⟩ : ∃ x, hiQ k ee l = x := ⟨_, rfl⟩
  rw [hlo] at hb sl hpis
  rw [hhi] at hb sh hpis
  have e00 : ((0 : Int) != 0) = false := rfl
  rw [hb]
  simp (maxSteps := 2000000) only [extr_30, extr_31, extr_32, tyf, qV, frV, Xn, Yx, List.length_append, List.length_singleton]
  rw [st8 (c := 0) (d := 0)]
  rw [st9]
  obtain ⟨G, hG⟩ : ∃ G, G = H ++ [fC lo.num lo.den] ++ [fC hi.num hi.den] := ⟨_, rfl⟩
  have hEG : Ext (fun _ => False) H G := by rw [hG]; exact e2 ..
  have b8 : G[H.length]? = some (fC lo.num lo.den) := by rw [hG]; exact b2_0 ..
  have b9 : G[H.length + 1]? = some (fC hi.num hi.den) := by rw [hG]; exact b2_1 ..
  rw [← hG]
  refine hN2 [(0, Zd (k : Nat)), (1, v), (2, Zd (ee : Nat)), (6, .slice none 0 0), (7, .int .i64 0), (8, .pointer (some ⟨H.length, 0, none⟩)), (9, .pointer (some ⟨H.length + 1, 0, none⟩)), (10, .int .i64 0)] _ _ ?_ (by simp (maxSteps := 2000000) only [vup, cond_true, cond_false, Nat.reduceBEq])
  clear hN2
  try clear N2
  refine Zl fun M hM => ?_
  refine Ze fun N5 hN5 => ?_
  simp (maxSteps := 2000000) only [↓Za, ↓Zb, ↓Zc, vup, cond_true, cond_false, aop, Zg, ev, sput, Zf, Yk, Yl, Nat.reduceBEq, e00]
  refine hN5 [(0, Zd (k : Nat)), (1, v), (2, Zd (ee : Nat)), (6, .slice none 0 0), (7, .int .i64 0), (8, .pointer (some ⟨H.length, 0, none⟩)), (9, .pointer (some ⟨H.length + 1, 0, none⟩)), (10, .int .i64 0), (23, .bool false)] _ _ ?_ (by simp (maxSteps := 2000000) only [vup, cond_true, cond_false, Nat.reduceBEq])
  clear hN5
  try clear N5
  refine Yz rfl ?_
  refine Zi ?_
  simp (maxSteps := 2000000) only [↓Zs, Zg]
  refine hM [(0, Zd (k : Nat)), (1, v), (2, Zd (ee : Nat)), (6, .slice none 0 0), (7, .int .i64 0), (8, .pointer (some ⟨H.length, 0, none⟩)), (9, .pointer (some ⟨H.length + 1, 0, none⟩)), (10, .int .i64 0)] _ _ ?_ (by simp (maxSteps := 2000000) only [vup, cond_true, cond_false, Nat.reduceBEq])
  clear hM
  try clear M
  refine Ze fun N6 hN6 => ?_
  simp (maxSteps := 2000000) only [↓Za, ↓Zb, ↓Zc, vup, cond_false, aop, Zg, ev, sput, Zf, Nat.reduceBEq]
  refine hN6 [(0, Zd (k : Nat)), (1, v), (2, Zd (ee : Nat)), (6, .slice none 0 0), (7, .int .i64 0), (8, .pointer (some ⟨H.length, 0, none⟩)), (9, .pointer (some ⟨H.length + 1, 0, none⟩)), (10, .int .i64 0), (11, .slice none 0 0)] _ _ ?_ (by simp (maxSteps := 2000000) only [vup, cond_true, cond_false, Nat.reduceBEq])
  clear hN6
  try clear N6
  refine Zl fun Z hZ => ?_
  refine Ze fun N7 hN7 => ?_
  simp (maxSteps := 2000000) only [↓Za, ↓Zb, ↓Zc, vup, cond_false, aop, Zg, ev, sput, Zf, Nat.reduceBEq]
  refine hN7 [(0, Zd (k : Nat)), (1, v), (2, Zd (ee : Nat)), (6, .slice none 0 0), (7, .int .i64 0), (8, .pointer (some ⟨H.length, 0, none⟩)), (9, .pointer (some ⟨H.length + 1, 0, none⟩)), (10, .int .i64 0), (11, .slice none 0 0), (25, .int .i64 0)] _ _ ?_ (by simp (maxSteps := 2000000) only [vup, cond_true, cond_false, Nat.reduceBEq])
  clear hN7
  try clear N7
  refine Zn ?_
  refine Zy fun Q hQ => ?_
  refine Xd (γ := Nat × Value × Zh) (fun s => s.1 ≤ 13 ∧ OwnSl 3 s.2.2 s.2.1 (Ww (prTo lo hi s.1)) ∧ Ext (fun _ => False) G s.2.2 ∧ ∀ b, Yf s.2.1 = some b → G.length ≤ b)
    (fun s => ([(0, Zd (k : Nat)), (1, v), (2, Zd (ee : Nat)), (6, .slice none 0 0), (7, .int .i64 0), (8, .pointer (some ⟨H.length, 0, none⟩)), (9, .pointer (some ⟨H.length + 1, 0, none⟩)), (10, .int .i64 0), (11, s.2.1), (25, Zd (s.1 : Nat))], s.2.2)) (fun s => 13 - s.1) (0, .slice none 0 0, G) ⟨Nat.zero_le _, .inl ⟨rfl, rfl⟩, Ext.refl _ _, fun b hb => by cases hb⟩ (by simp (maxSteps := 2000000) only [vup, cond_true, cond_false, Nat.reduceBEq, Int.natCast_zero]) rfl ?_
  rintro ⟨c, x, F⟩ ⟨hc, ho, hEF, hbx⟩
  simp only at hc ho hEF hbx
  refine Zy fun Q2 hQ2 => ?_
  simp only [l24_0]
  by_cases hin : (c : Int) < 13
  · have hc' : c < 13 := by omega
    have sc := cent_sm c hc'
    have f8 := (hEF.2 _ (Yn b8) id).trans b8
    have f9 := (hEF.2 _ (Yn b9) id).trans b9
    have hps := prTo_succ lo hi c
    have fr := frac_call (h := F) (a := (c : Int)) (b := 12) (by decide) (by omega) (by decide)
    rw [prF] at hps
    obtain ⟨q, hq⟩ : ∃ q, Rat.divInt (c : Int) 12 = q := ⟨_, rfl⟩
    rw [hq] at sc hps fr
    obtain ⟨F2, hF2⟩ : ∃ F2, F2 = F ++ [fC q.num q.den] := ⟨_, rfl⟩
    have g13 : F2[F.length]? = some (fC q.num q.den) := by rw [hF2]; exact Yh _ _
    have g8 : F2[H.length]? = some (fC lo.num lo.den) := by rw [hF2]; exact Xp f8 _
    have g9 : F2[H.length + 1]? = some (fC hi.num hi.den) := by rw [hF2]; exact Xp f9 _
    have hE2 : Ext (fun _ => False) F F2 := by rw [hF2]; exact Ext.app _ _ _
    refine Ze fun N8 hN8 => ?_
    simp (maxSteps := 2000000) only [↓Za, ↓Zb, ↓Zc, vup, cond_true, cond_false, aop, Zg, ev, sput, Zf, Yk, Yl, Nat.reduceBEq, hin]
    refine hN8 [(0, Zd (k : Nat)), (1, v), (2, Zd (ee : Nat)), (6, .slice none 0 0), (7, .int .i64 0), (8, .pointer (some ⟨H.length, 0, none⟩)), (9, .pointer (some ⟨H.length + 1, 0, none⟩)), (10, .int .i64 0), (11, x), (25, Zd (c : Nat)), (26, .bool true)] _ _ ?_ (by simp (maxSteps := 2000000) only [vup, cond_true, cond_false, Nat.reduceBEq])
    clear hN8
    try clear N8
    refine Ze fun N9 hN9 => ?_
    simp (maxSteps := 2000000) only [↓Zs, ↓vdn, vup, cond_true, cond_false, Zg, ev, Nat.reduceBEq]
    refine hN9 [(0, Zd (k : Nat)), (1, v), (2, Zd (ee : Nat)), (6, .slice none 0 0), (7, .int .i64 0), (8, .pointer (some ⟨H.length, 0, none⟩)), (9, .pointer (some ⟨H.length + 1, 0, none⟩)), (10, .int .i64 0), (11, x), (25, Zd (c : Nat))] _ _ ?_ (by simp (maxSteps := 2000000) only [vup, cond_true, cond_false, Nat.reduceBEq])
    clear hN9
    try clear N9
    refine Zl fun B hB => ?_
    refine Zn ?_
    refine Ze fun N10 hN10 => ?_
    simp (maxSteps := 2000000) only [↓Za, ↓Zb, ↓Zc, vup, cond_true, cond_false, aop, Zg, ev, sput, Zf, Nat.reduceBEq]
    refine hN10 [(0, Zd (k : Nat)), (1, v), (2, Zd (ee : Nat)), (6, .slice none 0 0), (7, .int .i64 0), (8, .pointer (some ⟨H.length, 0, none⟩)), (9, .pointer (some ⟨H.length + 1, 0, none⟩)), (10, .int .i64 0), (11, x), (12, Zd (c : Nat)), (25, Zd (c : Nat))] _ _ ?_ (by simp (maxSteps := 2000000) only [vup, cond_true, cond_false, Nat.reduceBEq])
    clear hN10
    try clear N10
    refine Ze fun N11 hN11 => ?_
    simp (maxSteps := 2000000) only [↓Za, ↓Zb, ↓Zc, vup, List.map_cons, List.map_nil, cond_true, cond_false, aop, Zg, ev, sput, Zf, Nat.reduceBEq, Yr, List.nil_append, List.append_nil]
    refine (fr).mono ?_
    rintro _ F ⟨rfl, rfl⟩
    simp (maxSteps := 2000000) only [tyf, qV, frV, Xn, Yx, Xw (Yh F z0) rfl, Xy]
    rw [← hF2]
    refine hN11 [(0, Zd (k : Nat)), (1, v), (2, Zd (ee : Nat)), (6, .slice none 0 0), (7, .int .i64 0), (8, .pointer (some ⟨H.length, 0, none⟩)), (9, .pointer (some ⟨H.length + 1, 0, none⟩)), (10, .int .i64 0), (11, x), (12, Zd (c : Nat)), (13, .pointer (some ⟨F.length, 0, none⟩)), (25, Zd (c : Nat))] _ _ ?_ (by simp (maxSteps := 2000000) only [vup, cond_true, cond_false, Nat.reduceBEq])
    clear hN11
    try clear N11
    have fin : ∀ e' x' F', OwnSl 3 F' x' (Ww (prTo lo hi (c + 1))) → Ext (fun _ => False) G F' → (∀ b, Yf x' = some b → G.length ≤ b) → ELe e' [(0, Zd (k : Nat)), (1, v), (2, Zd (ee : Nat)), (6, .slice none 0 0), (7, .int .i64 0), (8, .pointer (some ⟨H.length, 0, none⟩)), (9, .pointer (some ⟨H.length + 1, 0, none⟩)), (10, .int .i64 0), (11, x'), (25, Zd (c : Nat))] → B e' F' := by
      intro e' x' F' f1 f2 f3 he
      refine hB _ _ _ ?_ he
      refine Zi ?_
      simp (maxSteps := 2000000) only [↓Za, ↓Zb, ↓Zc, vup, cond_true, cond_false, aop, ev, sput, Zf, Yk, Yl, Nat.reduceBEq, add1 (show c < 9223372036854775807 by omega)]
      exact hQ2 _ _ _ ⟨(c + 1, x', F'), ⟨hc', f1, f2, f3⟩, by simp only; omega, by simp (maxSteps := 2000000) only [vup, cond_true, cond_false, Nat.reduceBEq], rfl⟩
    have l1 := sc.less sl F2
    have l2 := sh.less sc F2
    by_cases h1 : q < lo
    · rw [decide_eq_true h1] at hps l1
      simp only [Bool.not_true, Bool.false_and, Bool.false_eq_true, if_false, List.append_nil] at hps
      refine Ze fun N12 hN12 => ?_
      simp (maxSteps := 2000000) only [↓Za, ↓Zc, vup, List.map_cons, List.map_nil, cond_true, cond_false, aop, ev, sput, Zf, unK, Nat.reduceBEq, Yr, List.nil_append, List.append_nil, Xz g13, Xz g8]
      refine (l1).mono ?_
      rintro _ F2 ⟨rfl, rfl⟩
      simp (maxSteps := 2000000) only [↓Zb, ↓vdn, vup, cond_true, cond_false, Zg, ev, sput, Zf, Nat.reduceBEq]
      refine hN12 [(0, Zd (k : Nat)), (1, v), (2, Zd (ee : Nat)), (6, .slice none 0 0), (7, .int .i64 0), (8, .pointer (some ⟨H.length, 0, none⟩)), (9, .pointer (some ⟨H.length + 1, 0, none⟩)), (10, .int .i64 0), (11, x), (12, Zd (c : Nat)), (13, .pointer (some ⟨F.length, 0, none⟩)), (25, Zd (c : Nat)), (39, .bool false)] _ _ ?_ (by simp (maxSteps := 2000000) only [vup, cond_true, cond_false, Nat.reduceBEq])
      clear hN12
      try clear N12
      refine Yz rfl ?_
      refine Zi ?_
      simp (maxSteps := 2000000) only [↓Zs, Zg, Zo]
      exact fin _ x F2 (by rw [hps]; exact ho.ext (S := fun _ => False) hE2 (fun _ _ => id)) (hEF.trans hE2) hbx (by simp (maxSteps := 2000000) only [vup, cond_true, cond_false, Nat.reduceBEq])
    rw [decide_eq_false h1] at hps l1
    by_cases h2 : hi < q
    · rw [decide_eq_true h2] at hps l2
      simp only [Bool.not_false, Bool.not_true, Bool.true_and, Bool.false_eq_true, if_false, List.append_nil] at hps
      refine Ze fun N13 hN13 => ?_
      simp (maxSteps := 2000000) only [↓Za, ↓Zc, vup, List.map_cons, List.map_nil, cond_true, cond_false, aop, ev, sput, Zf, unK, Nat.reduceBEq, Yr, List.nil_append, List.append_nil, Xz g13, Xz g8]
      refine (l1).mono ?_
      rintro _ F2 ⟨rfl, rfl⟩
      simp (maxSteps := 2000000) only [↓Zb, ↓Zc, ↓vdn, vup, List.map_cons, List.map_nil, cond_true, cond_false, aop, Zg, ev, sput, Zf, unK, Nat.reduceBEq, Xz g9, Xz g13, Yr, List.nil_append, List.append_nil]
      refine l2.mono ?_
      rintro _ F2 ⟨rfl, rfl⟩
      simp (maxSteps := 2000000) only [vup]
      refine hN13 [(0, Zd (k : Nat)), (1, v), (2, Zd (ee : Nat)), (6, .slice none 0 0), (7, .int .i64 0), (8, .pointer (some ⟨H.length, 0, none⟩)), (9, .pointer (some ⟨H.length + 1, 0, none⟩)), (10, .int .i64 0), (11, x), (12, Zd (c : Nat)), (13, .pointer (some ⟨F.length, 0, none⟩)), (25, Zd (c : Nat)), (39, .bool false)] _ _ ?_ (by simp (maxSteps := 2000000) only [vup, cond_true, cond_false, Nat.reduceBEq])
      clear hN13
      try clear N13
      refine Yz rfl ?_
      refine Zi ?_
      simp (maxSteps := 2000000) only [↓Zs, Zg, Zo]
      exact fin _ x F2 (by rw [hps]; exact ho.ext (S := fun _ => False) hE2 (fun _ _ => id)) (hEF.trans hE2) hbx (by simp (maxSteps := 2000000) only [vup, cond_true, cond_false, Nat.reduceBEq])
    rw [decide_eq_false h2] at hps l2
    simp only [Bool.not_false, Bool.true_and, if_true] at hps
    refine Ze fun N14 hN14 => ?_
    simp (maxSteps := 2000000) only [↓Za, ↓Zc, vup, List.map_cons, List.map_nil, cond_true, cond_false, aop, ev, sput, Zf, unK, Nat.reduceBEq, Yr, List.nil_append, List.append_nil, Xz g13, Xz g8]
    refine (l1).mono ?_
    rintro _ F2 ⟨rfl, rfl⟩
    simp (maxSteps := 2000000) only [↓Zb, ↓Zc, ↓vdn, vup, List.map_cons, List.map_nil, cond_true, cond_false, aop, Zg, ev, sput, Zf, unK, Nat.reduceBEq, Xz g9, Xz g13, Yr, List.nil_append, List.append_nil]
    refine l2.mono ?_
    rintro _ F2 ⟨rfl, rfl⟩
    simp (maxSteps := 2000000) only [vup]
    refine hN14 [(0, Zd (k : Nat)), (1, v), (2, Zd (ee : Nat)), (6, .slice none 0 0), (7, .int .i64 0), (8, .pointer (some ⟨H.length, 0, none⟩)), (9, .pointer (some ⟨H.length + 1, 0, none⟩)), (10, .int .i64 0), (11, x), (12, Zd (c : Nat)), (13, .pointer (some ⟨F.length, 0, none⟩)), (25, Zd (c : Nat)), (39, .bool true)] _ _ ?_ (by simp (maxSteps := 2000000) only [vup, cond_true, cond_false, Nat.reduceBEq])
    clear hN14
    try clear N14
    refine Xr rfl ?_
    refine Zi ?_
    simp (maxSteps := 2000000) only [↓Za, ↓Zb, ↓Zc, vup, List.map_cons, List.map_nil, cond_true, cond_false, aop, Zg, Zo, ev, sput, Zf, Zk, Nat.reduceBEq, litI1]
    have hpl := prTo_le lo hi c
    refine OwnSl.append (x := (c : Int)) ((ho.ext (S := fun _ => False) hE2 (fun _ _ => id)).ext (S := fun _ => False) (Ext.app _ _ _) (fun _ _ => id)) app_38_38 (by rw [castI_len]; omega) (Yh _ _) ?_
    intro x' h' ho' hE' hb'
    rw [← castI_snoc, ← hps] at ho'
    obtain ⟨hEn, hbn⟩ := oExt (H' := F2) (hEF.trans hE2) hbx _ hE' hb'
    exact fin _ x' h' ho' hEn hbn (by simp (maxSteps := 2000000) only [vup, cond_true, cond_false, Nat.reduceBEq])
  · obtain rfl : c = 13 := by omega
    refine Ze fun N15 hN15 => ?_
    simp (maxSteps := 2000000) only [↓Za, ↓Zb, ↓Zc, vup, cond_true, cond_false, aop, Zg, ev, sput, Zf, Yk, Yl, Nat.reduceBEq, hin]
    refine hN15 [(0, Zd (k : Nat)), (1, v), (2, Zd (ee : Nat)), (6, .slice none 0 0), (7, .int .i64 0), (8, .pointer (some ⟨H.length, 0, none⟩)), (9, .pointer (some ⟨H.length + 1, 0, none⟩)), (10, .int .i64 0), (11, x), (25, Zd (13 : Nat)), (26, .bool false)] _ _ ?_ (by simp (maxSteps := 2000000) only [vup, cond_true, cond_false, Nat.reduceBEq])
    clear hN15
    try clear N15
    refine Ze fun N16 hN16 => ?_
    simp (maxSteps := 2000000) only [↓Xl, ↓vdn, vup, cond_true, cond_false, Zg, ev, Nat.reduceBEq]
    refine hQ2 _ _ _ (hQ _ _ _ ?_)
    simp (maxSteps := 2000000) only [Zg, Zo, Zu, if_true]
    refine hZ [(0, Zd (k : Nat)), (1, v), (2, Zd (ee : Nat)), (6, .slice none 0 0), (7, .int .i64 0), (8, .pointer (some ⟨H.length, 0, none⟩)), (9, .pointer (some ⟨H.length + 1, 0, none⟩)), (10, .int .i64 0), (11, x), (26, .bool false)] _ _ ?_ (by simp (maxSteps := 2000000) only [vup, cond_true, cond_false, Nat.reduceBEq])
    clear hZ
    try clear Z
    refine Zi ?_
    simp (maxSteps := 2000000) only [↓Za, ↓Zw, ↓Zz, ↓Zb, ↓Zc, vup, cond_true, cond_false, aop, Zg, ev, sput, Zf, Nat.reduceBEq, Zu, Xx, tup]
    exact ⟨hE.trans (hEG.trans hEF), _, _, rfl, (hpis _ _ _).2 ⟨ho.int, rfl⟩⟩
end Go.Proofs.Try.Am

namespace Go.Proofs.Try.Am
open Go.Am Bq
set_option maxRecDepth 100000
set_option maxHeartbeats 4000000

end Go.Proofs.Try.Am

namespace Go.Proofs.Try.Am
open Go.Am Bq
set_option maxRecDepth 100000
set_option maxHeartbeats 4000000

/-- What may be appended to. -/
def ClS (h : Zh) (r : Value) (l : List (Int × Int)) : Prop := OwnP 24 h r l ∨ (l = [] ∧ ∃ b, r = .slice (some ⟨b, 0, none⟩) 0 0 ∧ h[b]? = some (.ints [] 24 false))
theorem ClS.ext {h h' : Zh} {r : Value} {l : List (Int × Int)} (c : ClS h r l) (hE : Ext (fun _ => False) h h') : ClS h' r l := by
  rcases c with c | ⟨rfl, b, rfl, hb⟩
  · exact .inl (c.ext hE)
  · exact .inr ⟨rfl, b, rfl, (hE.2 _ (Yn hb) id).trans hb⟩
theorem ClS.app [Tabs prog] {h : Zh} {r : Value} {l : List (Int × Int)} {x y : Int} {b2 c2 : Nat} {c : Bool} (hc : ClS h r l) (hl : l.length * 16 ≤ 140737488351232) (hb2 : h[b2]? = some (.ints [x, y] 24 c)) {h0 : Nat} (hb : ∀ b, Yf r = some b → h0 ≤ b) {K : Value → Zh → Prop}
    (hk : ∀ v' h', OwnP 24 h' v' (l ++ [(x, y)]) → Ext (fun b => h0 ≤ b) h h' → K v' h') : Yq prog h 22 22 r (.slice (some ⟨b2, 0, none⟩) 1 c2) K := by
  rcases hc with hc | ⟨rfl, b, rfl, hb0⟩
  · exact OwnP.appendW hc app_22_22 (by omega) hb2 fun v' h' ho hE _ => hk v' h' ho (hE.mono fun b hbb => hb b hbb)
  · exact appendE app_22_22 hb0 hb2 fun v' h' ho hE => hk v' h' ho (hE.mono fun _ hf => hf.elim)

theorem cloneR_det [Tabs prog] {h : Zh} {v : Value} {l : List (Int × Int)} (hv : PairSl h v l) (hl : l.length * 16 ≤ 140737488351232) :
    ∃ r h', ADet prog 19 [v] h r h' ∧ Ext (fun _ => False) h h' ∧ ClS h' r l ∧ ∀ b, Yf r = some b → h.length ≤ b := by
  have hv' := hv
  rcases hv with ⟨rfl, rfl⟩ | ⟨b, o, sp, cap, c, e, ro, rfl, hc, hb, hx⟩
  · refine ⟨.slice none 0 0, h, ?_, Ext.refl _ _, .inl (.inl ⟨rfl, rfl⟩), fun b hb => by cases hb⟩
    refine s19_call (by simp) ?_
    simp (maxSteps := 2000000) only [s19, ↓Za, ↓Zw, ↓Zz, ↓Zb, ↓Zc, ↓vdn, vup, cond_true, cond_false, aop, Zg, Zp, ev, sput, Zf, Yk, Nat.reduceBEq, Zu, Xx, tup, tyf, Option.isSome_some]
  · by_cases hnil : l = []
    · subst hnil
      refine ⟨.slice (some ⟨h.length, 0, none⟩) 0 0, h ++ [.ints [] 24 false], ?_, Ext.app _ _ _, .inr ⟨rfl, _, rfl, Yh _ _⟩, fun b hb => by cases hb; exact Nat.le_refl _⟩
      refine s19_call (by simp) ?_
      simp (maxSteps := 2000000) only [s19, ↓Za, ↓Zs, ↓Zw, ↓Zz, ↓Zb, ↓Zc, ↓vdn, vup, List.map_cons, List.map_nil, cond_true, cond_false, aop, Zg, Zp, ev, sput, Zf, Yk, Zk, Nat.reduceBEq, Zu, Xx, tup, tyf, Option.isSome_some]
      simp only [Yj, el_22, zero_24, esz_24, reps, fillL, mkb, Xa]
      refine And.intro rfl (And.intro (by decide) (And.intro (Nat.zero_le _) ?_))
      refine (hv'.grow [.ints [] 24 false]).copyE app_22_22 ?_
      exact ⟨rfl, rfl⟩
    · refine ⟨.slice (some ⟨h.length + 1, 0, some 0⟩) l.length l.length, h ++ [.ints [] 24 false] ++ [.ints (Zx l) 24 false], ?_, by rw [List.append_assoc]; exact Ext.app _ _ _, .inl (.inr ⟨h.length + 1, [], by simp, ?_⟩), fun b hb => by cases hb; omega⟩
      · refine s19_call (by simp) ?_
        simp (maxSteps := 2000000) only [s19, ↓Za, ↓Zs, ↓Zw, ↓Zz, ↓Zb, ↓Zc, ↓vdn, vup, List.map_cons, List.map_nil, cond_true, cond_false, aop, Zg, Zp, ev, sput, Zf, Yk, Zk, Nat.reduceBEq, Zu, Xx, tup, tyf, Option.isSome_some]
        simp only [Yj, el_22, zero_24, esz_24, reps, fillL, mkb, Xa]
        refine And.intro rfl (And.intro (by decide) (And.intro (Nat.zero_le _) ?_))
        refine (hv'.grow [.ints [] 24 false]).copyD hnil app_22_22 (by omega) (by rw [List.getElem?_append_right (Nat.le_refl _)]; simp) ?_
        simp only [List.length_append, List.length_singleton]
        exact ⟨trivial, trivial⟩
      · have := Yh (h ++ [Blk.ints [] 24 false]) (Blk.ints (Zx l) 24 false)
        rw [List.length_append, List.length_singleton] at this
        rw [this]; simp [Zx]

theorem s22_callW [Tabs Try.prog] {args : List Value} {h : Zh} {Q : Value → Zh → Prop} (hsz : args.length ≤ 23) (hk : AWS Try.prog 23 s22 (Zu Try.prog [.tmp 2] Q) (Zp 0 args) h) : ACall Try.prog 22 args h Q :=
  Yv Try.func22 rfl (enters_of Try.func22 (by kernel_rfl) rfl) rfl rfl (by decide) s22_strip s22_ok hsz hk
theorem unit_call [Tabs prog] {h : Zh} {q : Rat} (hq : SmQ q) : Xm prog 22 [qV q] h (.bool true) := by
  have hn := hq.num
  have hd := q.den_pos
  have h3 := hq.2.2
  have hle : q.num ≤ (q.den : Int) := by
    have := hq.2.1
    rw [Rat.le_iff] at this
    simpa using this
  obtain ⟨x, hx⟩ : ∃ x, q.num = x := ⟨_, rfl⟩
  obtain ⟨y, hy⟩ : ∃ y : Int, (q.den : Int) = y := ⟨_, rfl⟩
  have g1 : y ≥ 1 := by omega
  have g2 : y ≤ 1000 := by omega
  have g3 : x ≥ 0 := by omega
  have g4 : x ≤ y := by omega
  rw [qV, frV, hx, hy]
  refine ACall.forget (Low.bool _) ?_
  refine s22_callW (by simp) ?_
  simp only [s22]
  obtain ⟨H, hH⟩ : ∃ H, H = h ++ [fC x y] := ⟨_, rfl⟩
  have hE : Ext (fun _ => False) h H := by rw [hH]; exact Ext.app _ _ _
  have b1 : H[h.length]? = some (fC x y) := by rw [hH]; exact Yh _ _
  refine Ze fun N1 hN1 => ?_
  simp (maxSteps := 2000000) only [↓Za, ↓Zb, ↓Zc, vup, cond_true, cond_false, aop, Zg, Zp, ev, sput, Zf, Nat.reduceBEq, boxF, Yx]
  rw [← hH]
  refine hN1 [(1, .pointer (some ⟨h.length, 0, none⟩)), (2, .bool false)] _ _ ?_ (by simp (maxSteps := 2000000) only [vup, cond_true, cond_false, Nat.reduceBEq])
  clear hN1
  try clear N1
  refine Ze fun N2 hN2 => ?_
  simp only [q22_1]
  refine Xs 8 fun N1 hN1 => ?_
  simp (maxSteps := 2000000) only [↓Za, ↓Zb, ↓Zc, ↓vdn, vup, cond_true, cond_false, aop, ev, sput, Zf, Yk, Yl, Nat.reduceBEq, tyf, List.take_succ_cons, List.take_zero, fA1, loadF1 b1, g1, g2]
  refine hN1 _ _ ?_
  clear hN1 N1
  simp only [List.drop_succ_cons, List.drop_zero]
  refine Xs 5 fun N1 hN1 => ?_
  simp (maxSteps := 2000000) only [↓Za, ↓Zb, ↓Zc, ↓vdn, vup, cond_true, cond_false, aop, ev, sput, Zf, Yk, Yl, Nat.reduceBEq, tyf, List.take_succ_cons, List.take_zero, fA0, loadF0 b1, g3]
  refine hN1 _ _ ?_
  clear hN1 N1
  simp only [List.drop_succ_cons, List.drop_zero]
  simp (maxSteps := 2000000) only [↓Za, ↓Zb, ↓Zc, ↓vdn, vup, cond_true, cond_false, aop, Zg, ev, sput, Zf, Yk, Yl, Nat.reduceBEq, tyf, fA0, fA1, loadF0 b1, loadF1 b1, g4]
  refine hN2 [(1, .pointer (some ⟨h.length, 0, none⟩)), (2, .bool true)] _ _ ?_ (by simp (maxSteps := 2000000) only [vup, cond_true, cond_false, Nat.reduceBEq])
  clear hN2
  try clear N2
  refine Zi ?_
  simp (maxSteps := 2000000) only [↓Zz, vup, cond_true, cond_false, Nat.reduceBEq, Zu, Xx, tup]
  exact hE

/-- The bounds hold for each belief that agrees. -/
theorem lo_hi_feas {n e : Nat} {l : List (Int × Int)} {p : Nat → Rat} (hf : Feas n l p) : loQ n e l ≤ evq n p e ∧ evq n p e ≤ hiQ n e l := by
  constructor
  · obtain ⟨b, hb, h⟩ := vertex (fun w => bitQ e w) _ p (Nat.le_refl _) hf
    exact Rat.le_trans ((minL_spec _ _).2.2 _ (List.mem_map.2 ⟨b, hb, rfl⟩)) h
  · obtain ⟨b, hb, h⟩ := vertex (fun w => -1 * bitQ e w) _ p (Nat.le_refl _) hf
    rw [Zj (g := fun w => -1 * (bitQ e w * b.getD w 0)) fun w hw => by grind, Xb, Zj (f := fun w => -1 * bitQ e w * p w) (g := fun w => -1 * (bitQ e w * p w)) fun w hw => by grind, Xb] at h
    have h2 : evq n p e ≤ cvq n e b := by
      rw [evq, cvq, evq]
      generalize Zt (fun w => bitQ e w * p w) n = A at *
      generalize Zt (fun w => bitQ e w * b.getD w 0) n = B at *
      grind
    exact Rat.le_trans h2 ((maxL_spec _ _).2.2 _ (List.mem_map.2 ⟨b, hb, rfl⟩))
/-- They are taken. -/
theorem lo_hi_taken {n e : Nat} {l : List (Int × Int)} (hne : Yb n l ≠ []) : (∃ b ∈ Yb n l, loQ n e l = cvq n e b) ∧ ∃ b ∈ Yb n l, hiQ n e l = cvq n e b := by
  have h0 : ∃ b ∈ Yb n l, cvq n e ((Yb n l).headD []) = cvq n e b := by
    cases hc : Yb n l with
    | nil => exact absurd hc hne
    | cons c cs => exact ⟨c, by simp, rfl⟩
  constructor
  · rcases (minL_spec ((Yb n l).map (cvq n e)) (cvq n e ((Yb n l).headD []))).1 with g | g
    · obtain ⟨b, hb, h⟩ := h0
      exact ⟨b, hb, by rw [loQ, g, h]⟩
    · obtain ⟨b, hb, h⟩ := List.mem_map.1 g
      exact ⟨b, hb, h.symm⟩
  · rcases (maxL_spec ((Yb n l).map (cvq n e)) (cvq n e ((Yb n l).headD []))).1 with g | g
    · obtain ⟨b, hb, h⟩ := h0
      exact ⟨b, hb, by rw [hiQ, g, h]⟩
    · obtain ⟨b, hb, h⟩ := List.mem_map.1 g
      exact ⟨b, hb, h.symm⟩
theorem feas_less {n : Nat} {l : List (Int × Int)} {x : Int × Int} {p : Nat → Rat} (hf : Feas n (l ++ [x]) p) : Feas n l p := ⟨hf.nn, hf.one, fun i hi => by
  have := hf.bet i (by rw [List.length_append]; omega)
  rw [List.getD, List.getElem?_append_left hi] at this
  exact this⟩
theorem feas_last {n : Nat} {l : List (Int × Int)} {x : Int × Int} {p : Nat → Rat} : Feas n (l ++ [x]) p ↔ Feas n l p ∧ evq n p x.1.toNat = Rat.divInt x.2 12 := by
  constructor
  · intro hf
    refine ⟨feas_less hf, ?_⟩
    have := hf.bet l.length (by rw [List.length_append]; simp)
    simpa [List.getD] using this
  · rintro ⟨hf, h⟩
    refine ⟨hf.nn, hf.one, fun i hi => ?_⟩
    rw [List.length_append, List.length_singleton] at hi
    rcases Nat.lt_or_ge i l.length with h1 | h1
    · rw [List.getD, List.getElem?_append_left h1]; exact hf.bet i h1
    · obtain rfl : i = l.length := by omega
      simpa [List.getD] using h
theorem corner_feas' {n : Nat} {l : List (Int × Int)} {b : List Rat} (hb : b ∈ Yb n l) : Feas n l (fun w => b.getD w 0) := by
  obtain ⟨set, _, _, h⟩ := mem_corners.1 hb
  exact (corner_feas h).2
end Go.Proofs.Try.Am

namespace Go.Proofs.Try.Am
open Go.Am Bq
set_option maxRecDepth 100000
set_option maxHeartbeats 4000000

theorem bndV_take9 (n e : Int) (l : List (Int × Int)) : bndV n e (l.take 9) = bndV n e l := by
  cases hval : Yu n l with
  | false => rw [bndV, bndV, valid_take, hval, if_neg (by simp), if_neg (by simp)]
  | true =>
    rw [List.take_of_length_le]
    simp only [Yu, Bool.and_eq_true, decide_eq_true_eq] at hval; omega
/-- What Bounds tells, case by case. -/
theorem bnd_cases (n e : Int) (l : List (Int × Int)) :
    (¬ (Yu n l = true ∧ evB n e = true) ∧ bndV n e l = .tuple #[frV 0 0, frV 0 0, .int .i64 2]) ∨
    (Yu n l = true ∧ evB n e = true ∧ Yb n.toNat l = [] ∧ bndV n e l = .tuple #[frV 0 0, frV 0 0, .int .i64 5]) ∨
    (Yu n l = true ∧ evB n e = true ∧ Yb n.toNat l ≠ [] ∧ bndV n e l = .tuple #[qV (loQ n.toNat e.toNat l), qV (hiQ n.toNat e.toNat l), .int .i64 0]) := by
  rw [bndV]
  by_cases h : Yu n l = true ∧ evB n e = true
  · rw [if_pos h]
    by_cases h2 : Yb n.toNat l = []
    · rw [if_pos h2]; exact .inr (.inl ⟨h.1, h.2, h2, rfl⟩)
    · rw [if_neg h2]; exact .inr (.inr ⟨h.1, h.2, h2, rfl⟩)
  · rw [if_neg h]; exact .inl ⟨h, rfl⟩
end Go.Proofs.Try.Am

namespace Go.Proofs.Try.Am
open Go.Am Bq
set_option maxRecDepth 100000
set_option maxHeartbeats 4000000

theorem igetD_mem {xs : List Int} {i : Nat} (hi : i < xs.length) : xs.getD i 0 ∈ xs := by
  rw [List.getD, List.getElem?_eq_getElem hi]; exact List.getElem_mem hi
theorem s78_callW [Tabs Try.prog] {args : List Value} {h : Zh} {Q : Value → Zh → Prop} (hsz : args.length ≤ 19) (hk : AWS Try.prog 19 s78 (Zu Try.prog [.tmp 4] Q) (Zp 0 args) h) : ACall Try.prog 78 args h Q :=
  Yv Try.func78 rfl (enters_of Try.func78 (by kernel_rfl) rfl) rfl rfl (by decide) s78_strip s78_ok hsz hk
theorem iindex_call [Tabs prog] {h : Zh} {v : Value} {xs : List Int} {x : Int} (hv : IntSl h v xs) (hl : xs.length < 9223372036854775807) : ACall prog 78 [v, Zd x] h fun r h' => h' = h ∧ ∃ z : Int, r = .int .i64 z ∧ decide (0 ≤ z) = xs.contains x := by
  refine s78_callW (by simp) ?_
  simp only [s78]
  refine Ze fun N1 hN1 => ?_
  simp (maxSteps := 2000000) only [↓Za, ↓Zb, ↓Zc, vup, cond_false, aop, Zg, Zp, ev, sput, Zf, Nat.reduceBEq, Nat.reduceAdd]
  refine hN1 [(0, v), (1, Zd x), (4, .int .i64 0)] _ _ ?_ (by simp (maxSteps := 2000000) only [vup, cond_true, cond_false, Nat.reduceBEq])
  clear hN1
  try clear N1
  refine Zl fun Z hZ => ?_
  refine Ze fun N2 hN2 => ?_
  simp (maxSteps := 2000000) only [↓Za, ↓Zb, ↓Zc, vup, List.map_cons, List.map_nil, cond_true, cond_false, aop, Zg, ev, sput, Zf, Zk, Nat.reduceBEq, tyf, hv.len]
  refine hN2 [(0, v), (1, Zd x), (4, .int .i64 0), (6, v), (7, Zd xs.length), (8, .int .i64 0)] _ _ ?_ (by simp (maxSteps := 2000000) only [vup, cond_true, cond_false, Nat.reduceBEq])
  clear hN2
  try clear N2
  refine Zn ?_
  refine Zy fun Q hQ => ?_
  refine Xd (γ := Nat) (fun i => i ≤ xs.length ∧ ∀ k, k < i → x ≠ xs.getD k 0)
    (fun i => ([(0, v), (1, Zd x), (4, .int .i64 0), (6, v), (7, Zd xs.length), (8, Zd (i : Nat))], h)) (fun i => xs.length - i) 0 ⟨Nat.zero_le _, fun _ hk => by omega⟩ (by simp (maxSteps := 2000000) only [vup, cond_true, cond_false, Nat.reduceBEq, Int.natCast_zero]) rfl ?_
  rintro i ⟨hi, hno⟩
  refine Zy fun Q2 hQ2 => ?_
  simp only [l78_0]
  by_cases hin : (i : Int) < xs.length
  · have h1 : i < xs.length := by omega
    refine Ze fun N3 hN3 => ?_
    simp (maxSteps := 2000000) only [↓Za, ↓Zb, ↓Zc, vup, cond_true, cond_false, aop, Zg, ev, sput, Zf, Yk, Yl, Nat.reduceBEq, hin]
    refine hN3 [(0, v), (1, Zd x), (4, .int .i64 0), (6, v), (7, Zd xs.length), (8, Zd (i : Nat)), (9, .bool true)] _ _ ?_ (by simp (maxSteps := 2000000) only [vup, cond_true, cond_false, Nat.reduceBEq])
    clear hN3
    try clear N3
    refine Ze fun N4 hN4 => ?_
    simp (maxSteps := 2000000) only [↓Zs, ↓vdn, vup, cond_true, cond_false, Zg, ev, Nat.reduceBEq]
    refine hN4 [(0, v), (1, Zd x), (4, .int .i64 0), (6, v), (7, Zd xs.length), (8, Zd (i : Nat))] _ _ ?_ (by simp (maxSteps := 2000000) only [vup, cond_true, cond_false, Nat.reduceBEq])
    clear hN4
    try clear N4
    refine Zl fun B hB => ?_
    refine Zn ?_
    refine Ze fun N5 hN5 => ?_
    simp (maxSteps := 2000000) only [↓Za, ↓Zb, ↓Zc, vup, cond_true, cond_false, aop, Zg, ev, sput, Zf, Nat.reduceBEq]
    refine hN5 [(0, v), (1, Zd x), (4, .int .i64 0), (5, Zd (i : Nat)), (6, v), (7, Zd xs.length), (8, Zd (i : Nat))] _ _ ?_ (by simp (maxSteps := 2000000) only [vup, cond_true, cond_false, Nat.reduceBEq])
    clear hN5
    try clear N5
    by_cases hx : x = xs.getD i 0
    · have hb : (x == xs.getD i 0) = true := beq_iff_eq.2 hx
      refine Ze fun N6 hN6 => ?_
      simp (maxSteps := 2000000) only [↓Za, ↓Zb, ↓Zc, vup, cond_true, cond_false, aop, Zg, ev, sput, Zf, Yk, Yl, Nat.reduceBEq, tyf, hv.idx el_38 esz_3 h1, hv.load shp_3 h1, hb]
      refine hN6 [(0, v), (1, Zd x), (4, .int .i64 0), (5, Zd (i : Nat)), (6, v), (7, Zd xs.length), (8, Zd (i : Nat)), (16, .bool true)] _ _ ?_ (by simp (maxSteps := 2000000) only [vup, cond_true, cond_false, Nat.reduceBEq])
      clear hN6
      try clear N6
      refine Xr rfl ?_
      refine Zi ?_
      simp (maxSteps := 2000000) only [↓Za, ↓Zw, ↓Zz, ↓Zb, ↓Zc, vup, cond_true, cond_false, aop, Zg, Zo, ev, sput, Zf, Nat.reduceBEq]
      refine hQ2 _ _ _ (hQ _ _ _ ?_)
      simp (maxSteps := 2000000) only [vup, cond_true, cond_false, Zg, Zo, Nat.reduceBEq, Zu, Xx, tup]
      refine ⟨_, rfl, ?_⟩
      rw [decide_eq_true (Int.natCast_nonneg i)]
      have : x ∈ xs := by rw [hx]; exact igetD_mem h1
      simpa using this
    · have hb : (x == xs.getD i 0) = false := beq_eq_false_iff_ne.2 hx
      refine Ze fun N7 hN7 => ?_
      simp (maxSteps := 2000000) only [↓Za, ↓Zb, ↓Zc, vup, cond_true, cond_false, aop, Zg, ev, sput, Zf, Yk, Yl, Nat.reduceBEq, tyf, hv.idx el_38 esz_3 h1, hv.load shp_3 h1, hb]
      refine hN7 [(0, v), (1, Zd x), (4, .int .i64 0), (5, Zd (i : Nat)), (6, v), (7, Zd xs.length), (8, Zd (i : Nat)), (16, .bool false)] _ _ ?_ (by simp (maxSteps := 2000000) only [vup, cond_true, cond_false, Nat.reduceBEq])
      clear hN7
      try clear N7
      refine Yz rfl ?_
      refine Zi ?_
      simp (maxSteps := 2000000) only [↓Zs, Zg, Zo]
      refine hB [(0, v), (1, Zd x), (4, .int .i64 0), (6, v), (7, Zd xs.length), (8, Zd (i : Nat))] _ _ ?_ (by simp (maxSteps := 2000000) only [vup, cond_true, cond_false, Nat.reduceBEq])
      clear hB
      try clear B
      refine Zi ?_
      simp (maxSteps := 2000000) only [↓Za, ↓Zb, ↓Zc, vup, cond_true, cond_false, aop, ev, sput, Zf, Yk, Yl, Nat.reduceBEq, add1 (show i < 9223372036854775807 by omega)]
      refine hQ2 _ _ _ ⟨i + 1, ⟨by omega, fun k hk => ?_⟩, by omega, by simp (maxSteps := 2000000) only [vup, cond_true, cond_false, Nat.reduceBEq], rfl⟩
      by_cases hki : k = i
      · rw [hki]; exact hx
      · exact hno k (by omega)
  · obtain rfl : i = xs.length := by omega
    refine Ze fun N8 hN8 => ?_
    simp (maxSteps := 2000000) only [↓Za, ↓Zb, ↓Zc, vup, cond_true, cond_false, aop, Zg, ev, sput, Zf, Yk, Yl, Nat.reduceBEq, hin]
    refine hN8 [(0, v), (1, Zd x), (4, .int .i64 0), (6, v), (7, Zd xs.length), (8, Zd xs.length), (9, .bool false)] _ _ ?_ (by simp (maxSteps := 2000000) only [vup, cond_true, cond_false, Nat.reduceBEq])
    clear hN8
    try clear N8
    refine Ze fun N9 hN9 => ?_
    simp (maxSteps := 2000000) only [↓Xl, ↓vdn, vup, cond_true, cond_false, Zg, ev, Nat.reduceBEq]
    refine hQ2 _ _ _ (hQ _ _ _ ?_)
    simp (maxSteps := 2000000) only [Zg, Zo, Zu, if_true]
    refine hZ [(0, v), (1, Zd x), (4, .int .i64 0)] _ _ ?_ (by simp (maxSteps := 2000000) only [vup, cond_true, cond_false, Nat.reduceBEq])
    clear hZ
    try clear Z
    refine Zi ?_
    simp (maxSteps := 2000000) only [↓Za, ↓Zw, ↓Zz, ↓Zb, ↓Zc, vup, cond_true, cond_false, aop, Zg, ev, sput, Zf, Nat.reduceBEq, Zu, Xx, tup]
    refine ⟨_, rfl, ?_⟩
    rw [decide_eq_false (by decide)]
    symm
    rw [← Bool.not_eq_true]
    intro hc
    have hm : x ∈ xs := by simpa using hc
    obtain ⟨k, hk, he⟩ := List.mem_iff_getElem.1 hm
    exact hno k hk (by rw [List.getD, List.getElem?_eq_getElem hk]; exact he.symm)
theorem icontains_call [Tabs prog] {h : Zh} {v : Value} {xs : List Int} {x : Int} (hv : IntSl h v xs) (hl : xs.length < 9223372036854775807) : Xm prog 43 [v, Zd x] h (.bool (xs.contains x)) := by
  refine s43_call (by simp) ?_
  simp (maxSteps := 2000000) only [s43, ↓Za, ↓Zw, ↓Zz, ↓Zb, ↓Zc, vup, List.map_cons, List.map_nil, cond_true, cond_false, aop, Zg, Zp, ev, sput, Zf, Yk, Yl, Nat.reduceBEq, Nat.reduceAdd, Zu, Xx, tup, tyf, Yr, List.nil_append, List.append_nil]
  refine (iindex_call hv hl).mono ?_
  rintro _ h ⟨rfl, z, rfl, hz⟩
  simp (maxSteps := 2000000) only [vup, hz]

/-- Each number is at least the one before it. -/
def srt (xs : List Int) : Bool := (List.range xs.length).all fun j => j == 0 || decide (xs.getD (j - 1) 0 ≤ xs.getD j 0)
theorem srt_iff {xs : List Int} : srt xs = true ↔ ∀ j, j + 1 < xs.length → xs.getD j 0 ≤ xs.getD (j + 1) 0 := by
  rw [srt, List.all_eq_true]
  constructor
  · intro h j hj
    simpa using h (j + 1) (List.mem_range.2 hj)
  · intro h j hj
    cases j with
    | zero => rfl
    | succ j => simpa using h j (List.mem_range.1 hj)
theorem isnanP_call [Tabs prog] {h : Zh} {x : Int} : Xm prog 110 [Zd x] h (.bool false) := by
  refine s110_call (by simp) ?_
  simp (maxSteps := 2000000) only [s110, ↓Za, ↓Zw, ↓Zz, ↓Zb, ↓Zc, vup, cond_true, cond_false, aop, Zg, Zp, ev, sput, Zf, Yk, Yl, Nat.reduceBEq, Zu, Xx, tup, bne_self_eq_false]
theorem s79_callW [Tabs Try.prog] {args : List Value} {h : Zh} {Q : Value → Zh → Prop} (hsz : args.length ≤ 17) (hk : AWS Try.prog 17 s79 (Zu Try.prog [.tmp 4] Q) (Zp 0 args) h) : ACall Try.prog 79 args h Q :=
  Yv Try.func79 rfl (enters_of Try.func79 (by kernel_rfl) rfl) rfl rfl (by decide) s79_strip s79_ok hsz hk
theorem cless_call [Tabs prog] {h : Zh} {x y : Int} : Xm prog 79 [Zd x, Zd y] h (.bool (decide (x < y))) := by
  refine s79_callW (by simp) ?_
  refine Zi ?_
  simp (maxSteps := 2000000) only [s79, ↓Za, ↓Zw, ↓Zb, ↓Zc, vup, List.map_cons, List.map_nil, cond_true, cond_false, aop, Zg, Zp, ev, sput, Zf, Nat.reduceBEq, Nat.reduceAdd, Yr, List.nil_append, List.append_nil]
  refine (isnanP_call).mono ?_
  rintro _ h ⟨rfl, rfl⟩
  simp (maxSteps := 2000000) only [↓Zz, ↓Zb, ↓Zc, ↓vdn, vup, cond_true, cond_false, aop, Zg, ev, sput, Zf, Yk, Yl, Nat.reduceBEq, Zu, Xx, tup]
theorem s44_callW [Tabs Try.prog] {args : List Value} {h : Zh} {Q : Value → Zh → Prop} (hsz : args.length ≤ 21) (hk : AWS Try.prog 21 s44 (Zu Try.prog [.tmp 2] Q) (Zp 0 args) h) : ACall Try.prog 44 args h Q :=
  Yv Try.func44 rfl (enters_of Try.func44 (by kernel_rfl) rfl) rfl rfl (by decide) s44_strip s44_ok hsz hk
theorem issorted_call [Tabs prog] {h : Zh} {v : Value} {xs : List Int} (hv : IntSl h v xs) (hl : xs.length < 9223372036854775808) : Xm prog 44 [v] h (.bool (srt xs)) := by
  have hsub : subV .i64 (xs.length : Int) 1 = (xs.length : Int) - 1 := subV_id (by omega) (by omega)
  refine s44_callW (by simp) ?_
  simp only [s44]
  refine Ze fun N10 hN10 => ?_
  simp (maxSteps := 2000000) only [↓Za, ↓Zb, ↓Zc, vup, cond_false, aop, Zg, Zp, ev, sput, Zf, Nat.reduceBEq]
  refine hN10 [(0, v), (2, .bool false)] _ _ ?_ (by simp (maxSteps := 2000000) only [vup, cond_true, cond_false, Nat.reduceBEq])
  clear hN10
  try clear N10
  refine Zl fun Z hZ => ?_
  refine Ze fun N11 hN11 => ?_
  simp (maxSteps := 2000000) only [↓Za, ↓Zb, ↓Zc, vup, List.map_cons, List.map_nil, cond_true, cond_false, aop, Zg, ev, sput, Zf, Yk, Yl, Zk, Nat.reduceBEq, tyf, hv.len, hsub]
  refine hN11 [(0, v), (2, .bool false), (3, Zd ((xs.length : Int) - 1))] _ _ ?_ (by simp (maxSteps := 2000000) only [vup, cond_true, cond_false, Nat.reduceBEq])
  clear hN11
  try clear N11
  refine Zn ?_
  refine Zy fun Q hQ => ?_
  refine Xd (γ := Nat) (fun k => k ≤ xs.length ∧ ∀ j, k ≤ j → 1 ≤ j → j < xs.length → xs.getD (j - 1) 0 ≤ xs.getD j 0)
    (fun k => ([(0, v), (2, .bool false), (3, Zd ((k : Int) - 1))], h)) (fun k => k) xs.length ⟨Nat.le_refl _, fun j h1 _ h2 => by omega⟩ (by simp (maxSteps := 2000000) only [vup, cond_true, cond_false, Nat.reduceBEq]) rfl ?_
  rintro k ⟨hk, hs⟩
  refine Zy fun Q2 hQ2 => ?_
  simp only [l44_0]
  by_cases hk1 : (0 : Int) < (k : Int) - 1
  · have e1 : (k : Int) - 1 = ((k - 1 : Nat) : Int) := by omega
    have e2 : subV .i64 ((k - 1 : Nat) : Int) 1 = ((k - 2 : Nat) : Int) := by rw [subV_id (by omega) (by omega)]; omega
    have hi1 : k - 1 < xs.length := by omega
    have hi2 : k - 2 < xs.length := by omega
    refine Zl fun C hC => ?_
    refine Ze fun N12 hN12 => ?_
    simp (maxSteps := 2000000) only [↓Za, ↓Zb, ↓Zc, vup, cond_true, cond_false, aop, Zg, ev, sput, Zf, Yk, Yl, Nat.reduceBEq, hk1]
    refine hN12 [(0, v), (2, .bool false), (3, Zd ((k : Int) - 1)), (8, .bool true)] _ _ ?_ (by simp (maxSteps := 2000000) only [vup, cond_true, cond_false, Nat.reduceBEq])
    clear hN12
    try clear N12
    refine Xr rfl ?_
    refine Zi ?_
    simp (maxSteps := 2000000) only [↓Zs, Zg]
    refine hC [(0, v), (2, .bool false), (3, Zd ((k : Int) - 1))] _ _ ?_ (by simp (maxSteps := 2000000) only [vup, cond_true, cond_false, Nat.reduceBEq])
    clear hC
    try clear C
    refine Zl fun B hB => ?_
    refine Zn ?_
    refine Ze fun N13 hN13 => ?_
    rw [e1]
    simp only [q44_4]
    refine Wl [(9, 1)] (by kernel_rfl) (by kernel_rfl) (by kernel_rfl) (by kernel_rfl) ?_
    simp (maxSteps := 2000000) only [↓Xj, ↓vdn, vup, List.map_cons, List.map_nil, cond_true, cond_false, aop, Zg, ev, sput, Zf, Yk, Yl, Nat.reduceBEq, Nat.reduceAdd, hv.idx el_38 esz_3 hi1, hv.load shp_3 hi1, e2, hv.idx el_38 esz_3 hi2, hv.load shp_3 hi2, Yr, List.nil_append, List.append_nil]
    refine ⟨_, _, cless_call, rfl, ?_⟩
    cases hlt : decide (xs.getD (k - 1) 0 < xs.getD (k - 2) 0) with
    | true =>
      have hno : srt xs = false := by
        cases h : srt xs with
        | false => rfl
        | true =>
          have := srt_iff.1 h (k - 2) (by omega)
          have e : k - 2 + 1 = k - 1 := by omega
          rw [e] at this
          have := of_decide_eq_true hlt; omega
      refine hN13 [(0, v), (2, .bool false), (3, Zd ((k - 1 : Nat) : Int)), (20, .bool true)] _ _ ?_ (by simp (maxSteps := 2000000) only [vup, cond_true, cond_false, Nat.reduceBEq])
      clear hN13
      try clear N13
      refine Xr rfl ?_
      refine Zi ?_
      simp (maxSteps := 2000000) only [↓Za, ↓Zw, ↓Zz, ↓Zb, ↓Zc, vup, cond_true, cond_false, aop, Zg, Zo, ev, sput, Zf, Nat.reduceBEq]
      refine hQ2 _ _ _ (hQ _ _ _ ?_)
      simp (maxSteps := 2000000) only [vup, cond_true, cond_false, Zg, Zo, Nat.reduceBEq, Zu, Xx, tup, hno]
    | false =>
      refine hN13 [(0, v), (2, .bool false), (3, Zd ((k - 1 : Nat) : Int)), (20, .bool false)] _ _ ?_ (by simp (maxSteps := 2000000) only [vup, cond_true, cond_false, Nat.reduceBEq])
      clear hN13
      try clear N13
      refine Yz rfl ?_
      refine Zi ?_
      simp (maxSteps := 2000000) only [↓Zs, Zg, Zo]
      refine hB [(0, v), (2, .bool false), (3, Zd ((k - 1 : Nat) : Int))] _ _ ?_ (by simp (maxSteps := 2000000) only [vup, cond_true, cond_false, Nat.reduceBEq])
      clear hB
      try clear B
      refine Zi ?_
      have e3 : subV .i64 ((k - 1 : Nat) : Int) 1 = ((k - 1 : Nat) : Int) - 1 := subV_id (by omega) (by omega)
      simp (maxSteps := 2000000) only [↓Za, ↓Zb, ↓Zc, vup, cond_true, cond_false, aop, ev, sput, Zf, Yk, Yl, Nat.reduceBEq, e3]
      refine hQ2 _ _ _ ⟨k - 1, ⟨by omega, fun j h1 h2 h3 => ?_⟩, by omega, by simp (maxSteps := 2000000) only [vup, cond_true, cond_false, Nat.reduceBEq], rfl⟩
      by_cases hj : k ≤ j
      · exact hs j hj h2 h3
      · obtain rfl : j = k - 1 := by omega
        have := of_decide_eq_false hlt
        have e : k - 1 - 1 = k - 2 := by omega
        rw [e]; omega
  · have hsr : srt xs = true := srt_iff.2 fun j hj => by
      have := hs (j + 1) (by omega) (by omega) hj
      simpa using this
    refine Zl fun C hC => ?_
    refine Ze fun N14 hN14 => ?_
    simp (maxSteps := 2000000) only [↓Za, ↓Zb, ↓Zc, vup, cond_true, cond_false, aop, Zg, ev, sput, Zf, Yk, Yl, Nat.reduceBEq, hk1]
    refine hN14 [(0, v), (2, .bool false), (3, Zd ((k : Int) - 1)), (8, .bool false)] _ _ ?_ (by simp (maxSteps := 2000000) only [vup, cond_true, cond_false, Nat.reduceBEq])
    clear hN14
    try clear N14
    refine Yz rfl ?_
    refine Zi ?_
    simp (maxSteps := 2000000) only [↓Xl, Zg]
    refine hQ2 _ _ _ (hQ _ _ _ ?_)
    simp (maxSteps := 2000000) only [Zg, Zo, Zu, if_true]
    refine hZ [(0, v), (2, .bool false)] _ _ ?_ (by simp (maxSteps := 2000000) only [vup, cond_true, cond_false, Nat.reduceBEq])
    clear hZ
    try clear Z
    refine Zi ?_
    simp (maxSteps := 2000000) only [↓Za, ↓Zw, ↓Zz, ↓Zb, ↓Zc, vup, cond_true, cond_false, aop, Zg, ev, sput, Zf, Nat.reduceBEq, Zu, Xx, tup, hsr]
end Go.Proofs.Try.Am
