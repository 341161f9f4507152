/-
  bets: beliefs that agree; the least of a sum is at a corner. Plain Lean, no program.
  bets: the systems of bets are tame, all of them; the reference's rows. Plain Lean, no program.
  bets: the reference's equations as they lie in memory.
  bets: the reference's elimination.
  bets: the reference's corner.
-/
import Derived.Test.YtcmindinomacbaaPk10
import Derived.Test.YtcmindinomacbaaPk9
import Derived.Test.YtcmindinomacbaaPk5
set_option linter.all false
namespace Bq

theorem bitQ_01 (e w : Nat) : is01 (bitQ e w) := by rw [bitQ]; split; exact .inr rfl; exact .inl rfl
theorem bitQ_all {n w : Nat} (h : w < n) : bitQ (2 ^ n - 1) w = 1 := by rw [bitQ, Nat.testBit_two_pow_sub_one]; simp [h]
theorem Vd {set w k : Nat} (hw : w < k) (hb : set.testBit w = true) : (Ye set w).length < (Ye set k).length := by
  induction k with
  | zero => omega
  | succ k ih =>
    rw [Xz, List.length_append]
    by_cases h1 : w = k
    · subst h1; rw [hb]; simp
    · have := ih (by omega)
      omega
theorem worldsTo_get {set w k : Nat} (hw : w < k) (hb : set.testBit w = true) : (Ye set k).getD (Ye set w).length 0 = w := by
  induction k with
  | zero => omega
  | succ k ih =>
    rw [Xz, List.getD]
    by_cases h1 : w = k
    · subst h1; rw [hb, List.getElem?_append_right (Nat.le_refl _)]; simp
    · have := Vd (show w < k by omega) hb
      rw [List.getElem?_append_left this]
      exact ih (by omega)
theorem worldsTo_idx {set k : Nat} : ∀ {c : Nat}, c < (Ye set k).length → (Ye set ((Ye set k).getD c 0)).length = c ∧ (Ye set k).getD c 0 < k ∧ set.testBit ((Ye set k).getD c 0) = true := by
  induction k with
  | zero => intro c h; simp [Ye] at h
  | succ k ih =>
    intro c h
    rw [Xz] at h ⊢
    rw [List.getD]
    by_cases h1 : c < (Ye set k).length
    · rw [List.getElem?_append_left h1]
      obtain ⟨a, b, d⟩ := ih h1
      rw [List.getD] at a b d
      exact ⟨a, by omega, d⟩
    · rw [List.length_append] at h
      cases hb : set.testBit k with
      | false => rw [hb] at h; simp at h; omega
      | true =>
        rw [hb] at h
        simp at h
        obtain rfl : c = (Ye set k).length := by omega
        rw [List.getElem?_append_right (Nat.le_refl _)]
        simp [hb]
/-- Numbers of some worlds, of all: nought elsewhere. -/
def spr (set : Nat) (x : Nat → Rat) (w : Nat) : Rat := if set.testBit w then x (Ye set w).length else 0
theorem ws_sum (set : Nat) (g : Nat → Nat → Rat) : ∀ k, Ya (fun c => g c ((Ye set k).getD c 0)) (Ye set k).length = Ya (fun w => if set.testBit w then g (Ye set w).length w else 0) k
  | 0 => rfl
  | k + 1 => by
    have ih := ws_sum set g k
    rw [Ya, ← ih]
    cases hb : set.testBit k with
    | false =>
      have e : Ye set (k + 1) = Ye set k := by rw [Xz, hb]; simp
      rw [e, if_neg (by simp), Rat.add_zero]
    | true =>
      have e : (Ye set (k + 1)).length = (Ye set k).length + 1 := by rw [Xz, hb]; simp
      rw [e, Ya, if_pos rfl, worldsTo_get (Nat.lt_succ_self k) hb]
      congr 1
      refine Zy fun c hc => ?_
      rw [Xz, List.getD, List.getD, List.getElem?_append_left hc]
theorem spreadTo_get {n set : Nat} {x : List Rat} {w : Nat} (hw : w < n) : ∀ k, k ≤ (Ye set n).length → (Xk n (Ye set n) x k).getD w 0 = if set.testBit w = true ∧ (Ye set w).length < k then x.getD (Ye set w).length 0 else 0
  | 0, _ => by rw [Xk, if_neg (by omega)]; simp [List.getD, hw]
  | k + 1, hk => by
    have ih := spreadTo_get (set := set) (x := x) hw k (by omega)
    obtain ⟨a, b, d⟩ := worldsTo_idx (set := set) (k := n) (c := k) (by omega)
    rw [Xk, List.getD, List.getElem?_set]
    by_cases h1 : (Ye set n).getD k 0 = w
    · rw [if_pos h1, h1, Ws, if_pos hw]
      rw [h1] at a d
      rw [if_pos ⟨d, by omega⟩, a]; rfl
    · rw [if_neg h1]
      rw [List.getD] at ih
      rw [ih]
      by_cases h2 : set.testBit w = true ∧ (Ye set w).length < k
      · rw [if_pos h2, if_pos ⟨h2.1, by omega⟩]
      · rw [if_neg h2, if_neg]
        rintro ⟨h3, h4⟩
        have h5 : (Ye set w).length = k := by
          rcases Nat.lt_or_ge (Ye set w).length k with h | h
          · exact absurd ⟨h3, h⟩ h2
          · omega
        have := worldsTo_get hw h3
        rw [h5] at this
        exact h1 this
theorem spread_spr {n set : Nat} {x : List Rat} {w : Nat} (hw : w < n) : (Xk n (Yn n set) x (Yn n set).length).getD w 0 = spr set (fun c => x.getD c 0) w := by
  rw [Yn, spreadTo_get hw _ (Nat.le_refl _), spr]
  by_cases hb : set.testBit w = true
  · rw [if_pos ⟨hb, Vd hw hb⟩, if_pos hb]
  · rw [if_neg (fun h => hb h.1), if_neg hb]

/-- The chance of an event. -/
def evq (n : Nat) (p : Nat → Rat) (e : Nat) : Rat := Ya (fun w => bitQ e w * p w) n
/-- A belief that agrees. -/
structure Feas (n : Nat) (l : List (Int × Int)) (p : Nat → Rat) : Prop where
  nn : ∀ w, w < n → 0 ≤ p w
  one : Ya p n = 1
  bet : ∀ i, i < l.length → evq n p (l.getD i (0, 0)).1.toNat = Rat.divInt (l.getD i (0, 0)).2 12
theorem sys_row0 (n : Nat) (l : List (Int × Int)) (set : Nat) (x : Nat → Rat) : Ya (fun c => sysB n l (Yn n set) 0 c * x c) (Yn n set).length = Ya (spr set x) n := by
  have h := ws_sum set (fun c w => bitQ (2 ^ n - 1) w * x c) n
  rw [Yn]
  rw [← show Ya (fun c => bitQ (2 ^ n - 1) ((Ye set n).getD c 0) * x c) (Ye set n).length = _ from Zy fun c hc => by simp only [sysB, if_true, hc], h]
  refine Zy fun w hw => ?_
  rw [spr, bitQ_all hw, Rat.one_mul]
theorem sys_row (n : Nat) (l : List (Int × Int)) (set : Nat) (x : Nat → Rat) (i : Nat) : Ya (fun c => sysB n l (Yn n set) (i + 1) c * x c) (Yn n set).length = evq n (spr set x) (l.getD i (0, 0)).1.toNat := by
  have h := ws_sum set (fun c w => bitQ (l.getD i (0, 0)).1.toNat w * x c) n
  rw [Yn]
  rw [← show Ya (fun c => bitQ (l.getD i (0, 0)).1.toNat ((Ye set n).getD c 0) * x c) (Ye set n).length = _ from Zy fun c hc => by simp only [sysB, show ¬ (i + 1 = 0) by omega, if_false, hc, if_true, Nat.add_sub_cancel], h, evq]
  refine Zy fun w hw => ?_
  rw [spr]
  split
  · rfl
  · rw [Rat.mul_zero]
theorem sys_right (n : Nat) (l : List (Int × Int)) (ws : List Nat) : sysB n l ws 0 ws.length = 1 ∧ ∀ i, sysB n l ws (i + 1) ws.length = Rat.divInt (l.getD i (0, 0)).2 12 :=
  ⟨by simp [sysB], fun i => by simp [sysB]⟩
theorem sol_iff {n : Nat} {l : List (Int × Int)} {set : Nat} {x : Nat → Rat} : Sol (l.length + 1) (Yn n set).length (sysB n l (Yn n set)) x ↔ Ya (spr set x) n = 1 ∧ ∀ i, i < l.length → evq n (spr set x) (l.getD i (0, 0)).1.toNat = Rat.divInt (l.getD i (0, 0)).2 12 := by
  obtain ⟨r0, r1⟩ := sys_right n l (Yn n set)
  constructor
  · intro h
    refine ⟨by rw [← sys_row0 n l, h 0 (by omega), r0], fun i hi => by rw [← sys_row n l, h (i + 1) (by omega), r1]⟩
  · rintro ⟨h1, h2⟩ i hi
    cases i with
    | zero => rw [sys_row0, h1, r0]
    | succ i => rw [sys_row, h2 i (by omega), r1]
theorem mem_cornersTo {n : Nat} {l : List (Int × Int)} {b : List Rat} : ∀ {s : Nat}, b ∈ Xq n l s ↔ ∃ set, 1 ≤ set ∧ set ≤ s ∧ Wg n l set = some b
  | 0 => by
    rw [Xq]
    constructor
    · intro h; cases h
    · rintro ⟨set, h1, h2, _⟩; omega
  | s + 1 => by
    rw [Xq, List.mem_append, mem_cornersTo]
    constructor
    · rintro (⟨set, h1, h2, h3⟩ | h)
      · exact ⟨set, h1, by omega, h3⟩
      · exact ⟨s + 1, by omega, Nat.le_refl _, by simpa using h⟩
    · rintro ⟨set, h1, h2, h3⟩
      by_cases h4 : set = s + 1
      · subst h4; exact .inr (by simp [h3])
      · exact .inl ⟨set, h1, by omega, h3⟩
theorem mem_corners {n : Nat} {l : List (Int × Int)} {b : List Rat} : b ∈ Wu n l ↔ ∃ set, 1 ≤ set ∧ set < 2 ^ n ∧ Wg n l set = some b := by
  rw [Wu, mem_cornersTo]
  have := Nat.two_pow_pos n
  constructor
  · rintro ⟨set, h1, h2, h3⟩; exact ⟨set, h1, by omega, h3⟩
  · rintro ⟨set, h1, h2, h3⟩; exact ⟨set, h1, by omega, h3⟩
/-- A corner agrees. -/
theorem corner_feas {n : Nat} {l : List (Int × Int)} {set : Nat} {b : List Rat} (h : Wg n l set = some b) : b.length = n ∧ Feas n l (fun w => b.getD w 0) := by
  rw [Wg] at h
  cases hs : Xn (l.length + 1) (Yn n set).length (sysB n l (Yn n set)) with
  | none => rw [hs] at h; cases h
  | some xs =>
    rw [hs] at h
    simp only [Option.bind_some] at h
    split at h
    · cases h
    · next hneg =>
      cases h
      obtain ⟨hl, hx⟩ := solve_some hs
      have hsol := sol_iff.1 ((hx (fun t => xs.getD t 0)).2 fun t ht => rfl)
      have e : ∀ w, w < n → (Xk n (Yn n set) xs (Yn n set).length).getD w 0 = spr set (fun c => xs.getD c 0) w := fun w hw => spread_spr hw
      refine ⟨Ws _ _ _ _, fun w hw => ?_, ?_, fun i hi => ?_⟩
      · rw [e w hw, spr]
        split
        · next hb =>
          have hlt := Vd hw hb
          have hlt2 : (Ye set w).length < xs.length := by rw [hl]; exact hlt
          rw [List.any_eq_true] at hneg
          rw [List.getD, List.getElem?_eq_getElem hlt2, Option.getD_some, ← Rat.not_lt]
          intro hc
          exact hneg ⟨_, List.getElem_mem hlt2, by simpa using hc⟩
        · exact Rat.le_refl
      · rw [Zy fun w hw => e w hw]; exact hsol.1
      · rw [evq, Zy (g := fun w => bitQ (l.getD i (0, 0)).1.toNat w * spr set (fun c => xs.getD c 0) w) fun w hw => by rw [e w hw]]
        exact hsol.2 i hi

end Bq

namespace Bq

/-- A system of noughts and ones, with twelfths on its right side. -/
structure Sy (m k : Nat) (T : Xt) : Prop where
  bit : ∀ i c, i < m → c < k → is01 (T i c)
  right : ∀ i, i < m → Zq 12 (T i k * ((12 : Nat) : Rat))
theorem fac01_le : ∀ n, n ≤ 5 → fac01 n ≤ 60 := by decide
theorem fac_bounds : ∀ n, n ≤ 5 → fac01 n * 12 ≤ 8640 ∧ (n + 1) * (12 * fac01 n) ≤ 8640 := by decide
theorem Sy.parts {m k : Nat} {T S : Xt} (s : Sy m k T) (hk : k ≤ 5) {j : Nat} (hj : j ≤ k) (hr : Yv m T j = some S) :
    ∃ D, 0 < D ∧ D ≤ 720 ∧ ∀ i c, i < m → c ≤ k → ∃ x : Int, Rp D x (S i c) ∧ x.natAbs ≤ 8640 := by
  obtain ⟨π, g⟩ := elim_gi hr
  obtain ⟨D, h1, h2, h3⟩ := g.parts (P := is01) (F := fac01) (fun n M h => det_01 n h) (k := k) (N := 12) (B := 12) (X := 8640) hj (by decide) s.bit s.right (fun n hn => (fac_bounds n (by omega)).1) (fun n hn => (fac_bounds n (by omega)).2)
  refine ⟨D, h1, ?_, h3⟩
  have := Nat.mul_le_mul_right 12 (fac01_le j (by omega))
  omega
theorem Sy.tame {m k : Nat} {T S : Xt} (s : Sy m k T) (hk : k ≤ 5) {j : Nat} (hj : j ≤ k) (hr : Yv m T j = some S) : Tame m k S := by
  obtain ⟨D, h1, h2, h3⟩ := s.parts hk hj hr
  refine ⟨D, h1, by omega, fun i c hi hc => ?_⟩
  obtain ⟨x, h4, h5⟩ := h3 i c hi hc
  exact ⟨x, h4, by omega⟩
/-- Prices are from 0 to 12. -/
def Cts (l : List (Int × Int)) : Prop := ∀ i, i < l.length → 0 ≤ (l.getD i (0, 0)).2 ∧ (l.getD i (0, 0)).2 ≤ 12
theorem sysB_sy {n : Nat} {l : List (Int × Int)} (hl : Cts l) (ws : List Nat) : Sy (l.length + 1) ws.length (sysB n l ws) := by
  obtain ⟨r0, r1⟩ := sys_right n l ws
  refine ⟨fun i c hi hc => ?_, fun i hi => ?_⟩
  · simp only [sysB, hc, if_true]
    split
    · exact bitQ_01 _ _
    · exact bitQ_01 _ _
  · cases i with
    | zero => rw [r0]; exact ⟨12, by decide +kernel, by decide⟩
    | succ i =>
      rw [r1]
      obtain ⟨h1, h2⟩ := hl i (by omega)
      refine ⟨_, divInt_mul (y := 12) (by decide), by omega⟩
theorem tame_all {n : Nat} {l : List (Int × Int)} (hn : n ≤ 5) (hl : Cts l) : TameAll n l := fun set h1 h2 j S hj hS =>
  (sysB_sy hl _).tame (Nat.le_trans (Wz set n) hn) hj hS
/-- A corner's Xs are parts of one small number. -/
theorem corner_den {n : Nat} {l : List (Int × Int)} {set : Nat} {b : List Rat} (hn : n ≤ 5) (hl : Cts l) (h : Wg n l set = some b) : ∃ D, 0 < D ∧ D ≤ 720 ∧ ∀ w, w < n → (b.getD w 0).den ∣ D := by
  rw [Wg] at h
  cases hs : Xn (l.length + 1) (Yn n set).length (sysB n l (Yn n set)) with
  | none => rw [hs] at h; cases h
  | some xs =>
    rw [hs] at h
    simp only [Option.bind_some] at h
    split at h
    · cases h
    · cases h
      have hk : (Yn n set).length ≤ 5 := Nat.le_trans (Wz set n) hn
      rw [Xn] at hs
      cases hr : Yv (l.length + 1) (sysB n l (Yn n set)) (Yn n set).length with
      | none => rw [hr] at hs; cases hs
      | some S =>
        rw [hr] at hs
        simp only [Option.bind_some] at hs
        split at hs
        · cases hs
        · have hjm : (Yn n set).length ≤ l.length + 1 := by
            obtain ⟨π, g⟩ := elim_gi hr
            exact g.jm
          obtain ⟨D, h1, h2, h3⟩ := (sysB_sy (n := n) hl (Yn n set)).parts hk (Nat.le_refl _) hr
          refine ⟨D, h1, h2, fun w hw => ?_⟩
          rw [spread_spr hw, spr]
          split
          · next hb =>
            have hlt : (Ye set w).length < (Yn n set).length := Vd hw hb
            cases hs
            obtain ⟨x, g1, g2⟩ := h3 (Ye set w).length (Yn n set).length (Nat.lt_of_lt_of_le hlt hjm) (Nat.le_refl _)
            have e : ((List.range (Yn n set).length).map fun i => S i (Yn n set).length).getD (Ye set w).length 0 = S (Ye set w).length (Yn n set).length := by
              rw [List.getD, List.getElem?_map, List.getElem?_range hlt]; rfl
            rw [e]; exact g1.dvd
          · exact Nat.one_dvd _

/-- The reference's rows: the sum comes last. -/
def sysR (n : Nat) (l : List (Int × Int)) (ws : List Nat) : Xt := fun i => sysB n l ws (if i = l.length then 0 else i + 1)
theorem sysR_sy {n : Nat} {l : List (Int × Int)} (hl : Cts l) (ws : List Nat) : Sy (l.length + 1) ws.length (sysR n l ws) := by
  have s := sysB_sy (n := n) hl ws
  exact ⟨fun i c hi hc => s.bit _ c (by split <;> omega) hc, fun i hi => s.right _ (by split <;> omega)⟩
theorem solve_R (n : Nat) (l : List (Int × Int)) (ws : List Nat) : Xn (l.length + 1) ws.length (sysR n l ws) = Xn (l.length + 1) ws.length (sysB n l ws) := by
  refine solve_same fun y => ?_
  constructor
  · intro h i hi
    cases i with
    | zero =>
      have := h l.length (by omega)
      simp only [sysR, if_true] at this
      exact this
    | succ i =>
      have := h i (by omega)
      simp only [sysR, show ¬ i = l.length by omega, if_false] at this
      exact this
  · intro h i hi
    simp only [sysR]
    exact h _ (by split <;> omega)
theorem cornersTo_wide {n : Nat} {l : List (Int × Int)} {s : Nat} (h : l.length + 1 < (Yn n s).length) : Wg n l s = none := by
  rw [Wg, solve_wide h]; rfl
end Bq

namespace Go.Proofs.Try.Am
open Go.Am Bq
set_option maxRecDepth 100000
set_option maxHeartbeats 1000000

section
variable {h h' : Zh} {B m k C : Nat} {w : Nat → Value} {bk : Nat → Nat} {T T' : Xt}
theorem Mat.idxN (i : Nat) (hi : i < m) {K : Value → Prop} : Yx prog 94 (.slice (some ⟨B, 0, some 0⟩) m C) (Zc (i : Nat)) K = K (.pointer (some ⟨B, i, none⟩)) := by
  simp only [Yx, el_94, esz_47, Int.natCast_nonneg, Int.toNat_natCast, Nat.mul_one, Nat.zero_add, true_and, Int.ofNat_lt.2 hi]
/-- The rows from one on. -/
theorem Mat.tailN (M : Mat h B m k w bk T) {a : Nat} (ha : a < m) (hC : m ≤ C) {K : Value → Prop} (hk : ∀ v, ValSl h v ((List.range (m - a)).map fun i => w (a + i)) → K v) : Xe prog 94 (.slice (some ⟨B, 0, some 0⟩) m C) (some (Zc (a : Nat))) none none K := by
  obtain ⟨us, g1⟩ := M.outer
  have hv : view h B = some ((List.range m).map w ++ us, 47, false) := by simp [view, g1, Blk.view]
  have e1 : (((List.range m).map w ++ us).drop a).take (m - a) = (List.range (m - a)).map fun i => w (a + i) := by
    apply List.ext_getElem?
    intro i
    rw [List.getElem?_take]
    by_cases hi : i < m - a
    · rw [if_pos hi, List.getElem?_drop, List.getElem?_append_left (by simp; omega)]
      simp [hi, show a + i < m by omega]
    · rw [if_neg hi, List.getElem?_eq_none (by simp; omega)]
  have key : ∀ v, v = .slice (some ⟨B, a, some 0⟩) (m - a) (C - a) → K v := fun v hv' => hk v (.inr ⟨B, a, some 0, C - a, _, _, _, by rw [hv']; simp, by simp; omega, hv, by simp only [List.length_map, List.length_range]; exact e1⟩)
  simp only [Xe, el_94, esz_47, bnd]
  refine ⟨by omega, by omega, by omega, fun h0 => by simp at h0, fun _ => ?_⟩
  rcases Nat.eq_zero_or_pos a with h0 | h0
  · subst h0
    exact .inl ⟨rfl, key _ (by simp)⟩
  · refine .inr ⟨by omega, .inl ⟨by omega, by decide, key _ ?_⟩⟩
    have e2 : ((m : Int) - (a : Int)).toNat = m - a := by omega
    have e3 : C - ((a : Int)).toNat = C - a := by omega
    simp [e2]
end
/-- The rows from one on, or none. -/
theorem Mat.tailN2 {h : Zh} {B m k C : Nat} {w : Nat → Value} {bk : Nat → Nat} {T : Xt} (M : Mat h B m k w bk T) {a : Nat} (ha : a ≤ m) (hm1 : 1 ≤ m) (hC : m ≤ C) {K : Value → Prop}
    (hk : ∀ v, (∀ K : Value → Prop, lenK v K = K (Zc ((m - a : Nat) : Int))) → (∀ i, i < m - a → ∀ K : Value → Prop, Yx prog 94 v (Zc (i : Nat)) K = K (Vl v 1 i)) → (∀ i, i < m - a → ∀ K : Value → Prop, Xo prog h 47 (Vl v 1 i) K = K (w (a + i))) → K v) :
    Xe prog 94 (.slice (some ⟨B, 0, some 0⟩) m C) (some (Zc (a : Nat))) none none K := by
  rcases Nat.lt_or_ge a m with h1 | h1
  · refine M.tailN h1 hC fun v hv => ?_
    have hlen : ((List.range (m - a)).map fun i => w (a + i)).length = m - a := by simp
    refine hk v (fun K => by rw [hv.len, hlen]) (fun i hi K => hv.idx el_94 esz_47 (by rw [hlen]; exact hi) K) fun i hi K => ?_
    rw [hv.load shp_47 (by rw [hlen]; exact hi)]
    simp [List.getD, hi]
  · obtain rfl : a = m := by omega
    have key : K void := hk void (fun K => by rw [Nat.sub_self]; rfl) (fun i hi => by omega) (fun i hi => by omega)
    simp only [Xe, el_94, esz_47, bnd]
    exact ⟨by omega, by omega, by omega, fun h0 => by simp at h0, fun _ => .inr ⟨by omega, .inr ⟨trivial, key⟩⟩⟩

theorem swapT_comm (a p : Nat) (T : Xt) : Wj a p T = Wj p a T := by
  funext i
  simp only [Wj]
  by_cases h1 : i = a
  · by_cases h2 : i = p
    · rw [if_pos h1, if_pos h2, ← h1, ← h2]
    · rw [if_pos h1, if_neg h2, if_pos h1]
  · by_cases h2 : i = p
    · rw [if_neg h1, if_pos h2, if_pos h2]
    · rw [if_neg h1, if_neg h2, if_neg h2, if_neg h1]

/-- Equations as they grow, from none on. -/
def RowsN (hp0 : Nat) (G : Zh) (q : Value) (ws : List Value) (k : Nat) (T : Xt) : Prop := (ws = [] ∧ q = .slice none 0 0) ∨ (Rows hp0 G q ws k T ∧ OwnV 47 G q ws)
/-- One row more. -/
theorem Rows.moreN [Tabs prog] {hp0 : Nat} {G G2 : Zh} {q rv : Value} {ws : List Value} {k b2 : Nat} {T : Xt} (R : Rows hp0 G q ws k T) (hl : ws.length ≤ 1000) (h0 : hp0 ≤ G.length) (hE : Ext (fun _ => False) G G2) (hr : OwnP 26 G2 rv (rowC T k ws.length)) (hrb : ∀ b, Yh rv = some b → G.length ≤ b) (hb2 : G2[b2]? = some (.cells [rv] 47 false))
    {K : Value → Zh → Prop} (hk : ∀ q' h', OwnV 47 h' q' (ws ++ [rv]) → Rows hp0 h' q' (ws ++ [rv]) k T → Ext (fun b => hp0 ≤ b) G2 h' → Ext (fun i => Yh q = some i) G2 h' → K q' h') : Xh prog G2 94 94 q (.slice (some ⟨b2, 0, none⟩) 1 1) K := by
  have R2 := R.ext hE
  obtain ⟨bq, cq, hbq, hq1, hq2⟩ := R.sl.blk R.ne
  obtain ⟨br, yr, hr1, hr2⟩ := Wd hr Vv
  have hbr : Yh rv = some br := by rw [hr1]; rfl
  have hbrl := hrb br hbr
  have hw : ∀ w ∈ ws ++ [rv], notI w = true ∧ one w = true := fun w hw => by
    rcases List.mem_append.1 hw with h1 | h1
    · obtain ⟨i, hi, rfl⟩ := List.mem_iff_getElem.1 h1
      obtain ⟨b, ys, e1, _⟩ := Wd (R.row i hi) Vv
      rw [List.getD, List.getElem?_eq_getElem hi, Option.getD_some] at e1
      rw [e1]; exact ⟨rfl, rfl⟩
    · rw [List.mem_singleton.1 h1, hr1]; exact ⟨rfl, rfl⟩
  refine R2.sl.app R.ne app_94_94 hb2 hw hl fun q' h' ho hE' hb' => ?_
  have rowb : ∀ i, i < ws.length → ∃ b, Yh (ws.getD i undef) = some b ∧ b < G.length := fun i hi => by
    obtain ⟨b, ys, e1, e2⟩ := Wd (R.row i hi) Vv
    exact ⟨b, by rw [e1]; rfl, Xa e2⟩
  have g1 : ∀ i, i < ws.length → (ws ++ [rv]).getD i undef = ws.getD i undef := fun i hi => by
    rw [List.getD, List.getElem?_append_left hi]; rfl
  have g2 : (ws ++ [rv]).getD ws.length undef = rv := by simp [List.getD]
  have hq'b : ∀ b, Yh q' = some b → b = bq ∨ G2.length ≤ b := fun b hb => by
    rcases hb' with h1 | ⟨b', h1, h2⟩
    · rw [h1, hbq] at hb; cases hb; exact .inl rfl
    · rw [h1] at hb; cases hb; exact .inr h2
  have keep : ∀ b, b ≠ bq → b < G2.length → h'[b]? = G2[b]? := fun b hb hl => hE'.2 b hl fun hc => hb (by rw [hbq] at hc; cases hc; rfl)
  refine hk q' h' ho ⟨.inr ho, by simp, fun i hi => ?_, fun i j hi hj he => ?_, fun i hi => ?_, ⟨fun b hb => ?_, fun i b hi hb => ?_⟩⟩ (hE'.mono fun b hb => R.old.1 b hb) hE'
  · rw [List.length_append, List.length_singleton] at hi
    rcases Nat.lt_or_ge i ws.length with h1 | h1
    · rw [g1 i h1]
      refine (R2.row i h1).same fun b hb => ?_
      obtain ⟨b', e1, e2⟩ := rowb i h1
      rw [e1] at hb; cases hb
      exact keep _ (fun hc => R.sep i h1 (by rw [e1, hbq, hc])) (by have := hE.1; omega)
    · rw [show i = ws.length by omega, g2]
      refine hr.same fun b hb => ?_
      rw [hbr] at hb; cases hb
      exact keep _ (by omega) (Xa hr2)
  · rw [List.length_append, List.length_singleton] at hi hj
    rcases Nat.lt_or_ge i ws.length with h1 | h1 <;> rcases Nat.lt_or_ge j ws.length with h2 | h2
    · rw [g1 i h1, g1 j h2] at he; exact R.inj i j h1 h2 he
    · rw [g1 i h1, show j = ws.length by omega, g2, hbr] at he
      obtain ⟨b', e1, e2⟩ := rowb i h1
      rw [e1] at he; cases he; omega
    · rw [g1 j h2, show i = ws.length by omega, g2, hbr] at he
      obtain ⟨b', e1, e2⟩ := rowb j h2
      rw [e1] at he; cases he; omega
    · omega
  · rw [List.length_append, List.length_singleton] at hi
    intro hc
    rcases Nat.lt_or_ge i ws.length with h1 | h1
    · rw [g1 i h1] at hc
      obtain ⟨b', e1, e2⟩ := rowb i h1
      rw [e1] at hc
      rcases hq'b b' hc.symm with h3 | h3
      · exact R.sep i h1 (by rw [e1, hbq, h3])
      · have := hE.1; omega
    · rw [show i = ws.length by omega, g2, hbr] at hc
      rcases hq'b br hc.symm with h3 | h3
      · omega
      · have := Xa hr2; omega
  · rcases hq'b b hb with h3 | h3
    · rw [h3]; exact R.old.1 _ hbq
    · have := hE.1; omega
  · rw [List.length_append, List.length_singleton] at hi
    rcases Nat.lt_or_ge i ws.length with h1 | h1
    · rw [g1 i h1] at hb; exact R.old.2 i b h1 hb
    · rw [show i = ws.length by omega, g2] at hb
      have := hrb b hb; omega

theorem RowsN.more [Tabs prog] {hp0 : Nat} {G G2 : Zh} {q rv : Value} {ws : List Value} {k b2 : Nat} {T : Xt} (R : RowsN hp0 G q ws k T) (hl : ws.length ≤ 1000) (h0 : hp0 ≤ G.length) (hE : Ext (fun _ => False) G G2) (hr : OwnP 26 G2 rv (rowC T k ws.length)) (hrb : ∀ b, Yh rv = some b → G.length ≤ b) (hb2 : G2[b2]? = some (.cells [rv] 47 false))
    {K : Value → Zh → Prop} (hk : ∀ q' h', RowsN hp0 h' q' (ws ++ [rv]) k T → Ext (fun b => hp0 ≤ b) G2 h' → Ext (fun i => Yh q = some i) G2 h' → K q' h') : Xh prog G2 94 94 q (.slice (some ⟨b2, 0, none⟩) 1 1) K := by
  rcases R with ⟨rfl, rfl⟩ | ⟨R, _⟩
  · obtain ⟨br, yr, hr1, hr2⟩ := Wd hr Vv
    have hbr : Yh rv = some br := by rw [hr1]; rfl
    have hbrl := hrb br hbr
    refine OwnV.app (e := 47) (h := G2) (v := .slice none 0 0) (ws := []) (us := [rv]) (.inl ⟨rfl, rfl⟩) app_94_94 (.inr ⟨b2, 0, none, 1, [rv], 47, false, rfl, Nat.le_refl _, by simp [view, hb2, Blk.view], rfl⟩) (fun w hw => ?_) (by simp) fun q' h' ho hE' hb' => ?_
    · rw [List.nil_append, List.mem_singleton] at hw
      rw [hw, hr1]; exact ⟨rfl, rfl⟩
    · have hE2 : Ext (fun _ => False) G2 h' := hE'.mono fun b hb => by cases hb
      refine hk q' h' (.inr ⟨⟨.inr ho, by simp, fun i hi => ?_, fun i j hi hj _ => ?_, fun i hi hc => ?_, ⟨fun b hb => ?_, fun i b hi hb => ?_⟩⟩, ho⟩) (hE2.mono fun _ h => h.elim) hE'
      · obtain rfl : i = 0 := by simpa using hi
        exact hr.ext hE2
      · simp at hi hj; omega
      · obtain rfl : i = 0 := by simpa using hi
        simp only [List.nil_append, List.getD, List.getElem?_cons_zero, Option.getD_some, hbr] at hc
        rcases hb' with h1 | ⟨b', h1, h2⟩
        · rw [h1] at hc; cases hc
        · rw [h1] at hc; cases hc
          have := Xa hr2; omega
      · rcases hb' with h1 | ⟨b', h1, h2⟩
        · rw [h1] at hb; cases hb
        · rw [h1] at hb; cases hb
          have := hE.1; omega
      · obtain rfl : i = 0 := by simpa using hi
        simp only [List.nil_append, List.getD, List.getElem?_cons_zero, Option.getD_some, hbr] at hb
        cases hb; omega
  · exact R.moreN hl h0 hE hr hrb hb2 fun q' h' ho R' e1 e2 => hk q' h' (.inr ⟨R', ho⟩) e1 e2
theorem iExt {h h' : Zh} {v : Value} {xs : List Int} (hv : IntSl h v xs) (hE : Ext (fun _ => False) h h') : IntSl h' v xs := hv.same fun b hb => hE.2 b (hv.lt hb) id
theorem oExt {h0 H H' h' : Zh} {v v' : Value} (hE : Ext (fun _ => False) h0 H) (hb : ∀ b, Yh v = some b → h0.length ≤ b) (g : List Blk) (hE' : Ext (fun i => Yh v = some i) (H ++ g) h') (hb' : Yh v' = Yh v ∨ ∃ b, Yh v' = some b ∧ (H ++ g).length ≤ b) : Ext (fun _ => False) h0 h' ∧ ∀ b, Yh v' = some b → h0.length ≤ b := by
  have hl' := hE'.1
  have l1 := hE.1
  rw [List.length_append] at hl'
  refine ⟨⟨by omega, fun q hq _ => ?_⟩, fun b hb0 => ?_⟩
  · rw [hE'.2 q (by rw [List.length_append]; omega) (fun hb0 => by have := hb q hb0; omega), List.getElem?_append_left (by omega)]
    exact hE.2 q hq id
  · rcases hb' with hb' | ⟨b', hb1, hb2⟩
    · exact hb b (hb' ▸ hb0)
    · rw [hb1] at hb0; cases hb0
      rw [List.length_append] at hb2
      omega
/-- The first row from one on with a number in a column. -/
theorem findP_at {m a : Nat} {T : Xt} : ∀ {p : Nat}, a ≤ p → p < m → T p a ≠ 0 → (∀ i, a ≤ i → i < p → T i a = 0) → findP m a T = some p := fun h1 h2 h3 h4 =>
  find_spec h2 (by simp [h1, h3]) fun i hi => by
    by_cases h5 : a ≤ i
    · simp [h4 i h5 hi]
    · simp [h5]
theorem findP_none {m a : Nat} {T : Xt} (h : ∀ i, a ≤ i → i < m → T i a = 0) : findP m a T = none := find_none fun i hi => by
  by_cases h5 : a ≤ i
  · simp [h i h5 hi]
  · simp [h5]
end Go.Proofs.Try.Am

namespace Go.Proofs.Try.Am
open Go.Am Bq
set_option maxRecDepth 100000
set_option maxHeartbeats 4000000

/-- What stands small in a state and its next one. -/
def Sml (m k : Nat) (S : Xt) : Prop := ∀ i c, i < m → c ≤ k → (S i c).num.natAbs ≤ 8640 ∧ (S i c).den ≤ 720
theorem sy_sml {m k : Nat} {T S : Xt} (s : Sy m k T) (hk : k ≤ 5) {j : Nat} (hj : j ≤ k) (hr : Yv m T j = some S) : Sml m k S := fun i c hi hc => by
  obtain ⟨D, h1, h2, h3⟩ := s.parts hk hj hr
  obtain ⟨x, h4, h5⟩ := h3 i c hi hc
  exact ⟨Nat.le_trans h4.le h5, Nat.le_trans h4.den_le h2⟩
theorem mul_le3 {a b c d : Nat} (h1 : a ≤ b) (h2 : c ≤ d) (h3 : b * d < 9223372036854775808) : a * c < 9223372036854775808 := Nat.lt_of_le_of_lt (Nat.mul_le_mul h1 h2) h3
/-- What a row loses. -/
theorem rclear_call [Tabs prog] {h : Zh} {p f r : Rat} (hp : p.num.natAbs ≤ 8640 ∧ p.den ≤ 720) (hf : f.num.natAbs ≤ 8640 ∧ f.den ≤ 720) (hr : r.num.natAbs ≤ 8640 ∧ r.den ≤ 720) :
    Xc prog 66 [Zc (-1)] h (qV (((-1 : Int)) : Rat)) ∧ Xc prog 97 [qV f, qV r] h (qV (f * r)) ∧ Xc prog 97 [qV (((-1 : Int)) : Rat), qV (f * r)] h (qV ((((-1 : Int)) : Rat) * (f * r))) ∧ Xc prog 67 [qV p, qV ((((-1 : Int)) : Rat) * (f * r))] h (qV (p - f * r)) := by
  have m1 := (Rp.own f).mul (Rp.own r)
  have n1 : (f * r).num.natAbs ≤ 74649600 := Nat.le_trans m1.le (by rw [Int.natAbs_mul]; exact Nat.mul_le_mul hf.1 hr.1)
  have d1 : (f * r).den ≤ 518400 := Nat.le_trans m1.den_le (Nat.mul_le_mul hf.2 hr.2)
  have m2 := (show Rp 1 (-1) (((-1 : Int)) : Rat) from ⟨by decide, by decide +kernel⟩).mul (Rp.own (f * r))
  have n2 : ((((-1 : Int)) : Rat) * (f * r)).num.natAbs ≤ 74649600 := Nat.le_trans m2.le (by omega)
  have d2 : ((((-1 : Int)) : Rat) * (f * r)).den ≤ 518400 := Nat.le_trans m2.den_le (by omega)
  refine ⟨rwhole_call, rtimes_call (by rw [Int.natAbs_mul]; exact mul_le3 hf.1 hr.1 (by decide)) (mul_le3 hf.2 hr.2 (by decide)), rtimes_call (by rw [show (((-1 : Int)) : Rat).num = -1 from rfl]; omega) (by rw [show (((-1 : Int)) : Rat).den = 1 from rfl]; omega), ?_⟩
  have e : p - f * r = p + (((-1 : Int)) : Rat) * (f * r) := by rw [show (((-1 : Int)) : Rat) = -1 from rfl]; grind
  rw [e]
  refine rplus_call ?_ (mul_le3 hp.2 d2 (by decide))
  rw [Int.natAbs_mul, Int.natAbs_mul, Int.natAbs_natCast, Int.natAbs_natCast]
  have a1 := Nat.mul_le_mul hp.1 d2
  have a2 := Nat.mul_le_mul n2 hp.2
  omega

/-- What is done behind the rows. -/
abbrev tE104 : SCode := .seq q104_26 (.block 6 (.loop l104_7))
theorem relim_call [Tabs prog] {G : Zh} {n B m k C : Nat} {w0 : Nat → Value} {bk0 : Nat → Nat} {T0 : Xt} {v wv sv : Value} (M0 : Mat G B m k w0 bk0 T0) (hC : m ≤ C) (hm1 : 1 ≤ m) (hm : m ≤ 100) (hk1 : 1 ≤ k) (hk : k ≤ 5) (hsy : Sy m k T0)
    {rest : SCode} {Q : Exit → Env → Zh → Prop}
    (hno : Xn m k T0 = none → ∀ e G', Ext (Tch B m bk0) G G' → sget e 6 = .slice none 0 0 → sget e 7 = .bool false → Q .ret e G')
    (hyes : ∀ S w bk G', Yv m T0 k = some S → Mat G' B m k w bk S → Ext (Tch B m bk0) G G' → (∀ i, i < m → Tch B m bk0 (bk i)) → AWS prog 264 rest Q [(0, Zc (n : Nat)), (1, v), (2, sv), (6, .slice none 0 0), (7, .bool false), (8, wv), (10, .slice (some ⟨B, 0, some 0⟩) m C), (15, Zc (k : Nat))] G') :
    AWS prog 264 (.seq tE104 rest) Q [(0, Zc (n : Nat)), (1, v), (2, sv), (6, .slice none 0 0), (7, .bool false), (8, wv), (10, .slice (some ⟨B, 0, some 0⟩) m C), (15, Zc (k : Nat))] G := by
  refine Zk fun Z hZ => ?_
  refine Ze fun N1 hN1 => ?_
  simp (maxSteps := 2000000) only [↓Za, ↓Zb, ↓Zd, vup, cond_true, cond_false, aop, Zf, ev, sput, Zg, Nat.reduceBEq]
  refine hN1 [(0, Zc (n : Nat)), (1, v), (2, sv), (6, .slice none 0 0), (7, .bool false), (8, wv), (10, .slice (some ⟨B, 0, some 0⟩) m C), (15, Zc (k : Nat)), (104, Zc (k : Nat)), (105, .int .i64 0)] _ _ ?_ (by simp (maxSteps := 2000000) only [vup, cond_true, cond_false, Nat.reduceBEq])
  clear hN1
  try clear N1
  refine Zl ?_
  refine Zn fun Q1 hQ1 => ?_
  refine Yj (γ := Nat × Zh × (Nat → Value) × (Nat → Nat) × Xt) (fun s => s.1 ≤ k ∧ Yv m T0 s.1 = some s.2.2.2.2 ∧ Mat s.2.1 B m k s.2.2.1 s.2.2.2.1 s.2.2.2.2 ∧ Ext (Tch B m bk0) G s.2.1 ∧ ∀ i, i < m → Tch B m bk0 (s.2.2.2.1 i))
    (fun s => ([(0, Zc (n : Nat)), (1, v), (2, sv), (6, .slice none 0 0), (7, .bool false), (8, wv), (10, .slice (some ⟨B, 0, some 0⟩) m C), (15, Zc (k : Nat)), (104, Zc (k : Nat)), (105, Zc (s.1 : Nat))], s.2.1)) (fun s => k - s.1) (0, G, w0, bk0, T0) ⟨Nat.zero_le _, rfl, M0, Ext.refl _ _, fun i hi => .inr ⟨i, hi, rfl⟩⟩ (by simp (maxSteps := 2000000) only [vup, cond_true, cond_false, Nat.reduceBEq, Int.natCast_zero]) rfl ?_
  rintro ⟨j, hp, w, bk, T⟩ ⟨hj, hrun, M, hE, hS⟩
  simp only at hj hrun M hE hS
  refine Zn fun Q2 hQ2 => ?_
  simp only [l104_7]
  by_cases hin : (j : Int) < k
  · have hjk : j < k := by omega
    have hjm : j ≤ m := by
      obtain ⟨π, g⟩ := elim_gi hrun
      exact g.jm
    have idxJ : ∀ {i : Nat} {K : Value → Prop}, i < m → Yx prog 94 (.slice (some ⟨B, 0, some 0⟩) m C) (Zc (i : Nat)) K = K (.pointer (some ⟨B, i, none⟩)) := fun {i K} hi => Mat.idxN i hi
    refine Ze fun N2 hN2 => ?_
    simp (maxSteps := 2000000) only [↓Za, ↓Zb, ↓Zd, vup, cond_true, cond_false, aop, Zf, ev, sput, Zg, Yb, Yd, Nat.reduceBEq, hin]
    refine hN2 [(0, Zc (n : Nat)), (1, v), (2, sv), (6, .slice none 0 0), (7, .bool false), (8, wv), (10, .slice (some ⟨B, 0, some 0⟩) m C), (15, Zc (k : Nat)), (104, Zc (k : Nat)), (105, Zc (j : Nat)), (106, .bool true)] _ _ ?_ (by simp (maxSteps := 2000000) only [vup, cond_true, cond_false, Nat.reduceBEq])
    clear hN2
    try clear N2
    refine Ze fun N3 hN3 => ?_
    simp (maxSteps := 2000000) only [↓Zo, ↓vdn, vup, cond_true, cond_false, Zf, ev, Nat.reduceBEq]
    refine hN3 [(0, Zc (n : Nat)), (1, v), (2, sv), (6, .slice none 0 0), (7, .bool false), (8, wv), (10, .slice (some ⟨B, 0, some 0⟩) m C), (15, Zc (k : Nat)), (104, Zc (k : Nat)), (105, Zc (j : Nat))] _ _ ?_ (by simp (maxSteps := 2000000) only [vup, cond_true, cond_false, Nat.reduceBEq])
    clear hN3
    try clear N3
    refine Zk fun Y hY => ?_
    refine Zl ?_
    refine Ze fun N4 hN4 => ?_
    simp (maxSteps := 2000000) only [↓Za, ↓Zb, ↓Zd, vup, cond_true, cond_false, aop, Zf, ev, sput, Zg, Nat.reduceBEq]
    refine hN4 [(0, Zc (n : Nat)), (1, v), (2, sv), (6, .slice none 0 0), (7, .bool false), (8, wv), (10, .slice (some ⟨B, 0, some 0⟩) m C), (15, Zc (k : Nat)), (16, Zc (j : Nat)), (104, Zc (k : Nat)), (105, Zc (j : Nat))] _ _ ?_ (by simp (maxSteps := 2000000) only [vup, cond_true, cond_false, Nat.reduceBEq])
    clear hN4
    try clear N4
    refine Ze fun N5 hN5 => ?_
    simp (maxSteps := 2000000) only [↓Za, ↓Zb, ↓Zd, vup, cond_true, cond_false, aop, Zf, ev, sput, Zg, Nat.reduceBEq]
    refine hN5 [(0, Zc (n : Nat)), (1, v), (2, sv), (6, .slice none 0 0), (7, .bool false), (8, wv), (10, .slice (some ⟨B, 0, some 0⟩) m C), (15, Zc (k : Nat)), (16, Zc (j : Nat)), (17, Zc (j : Nat)), (104, Zc (k : Nat)), (105, Zc (j : Nat))] _ _ ?_ (by simp (maxSteps := 2000000) only [vup, cond_true, cond_false, Nat.reduceBEq])
    clear hN5
    try clear N5
    refine Zk fun X hX => ?_
    -- behind the search
    have none0 : Xn m k T0 = none → ∀ e G', Ext (Tch B m bk0) G G' → sget e 6 = .slice none 0 0 → sget e 7 = .bool false → Q2 .ret e G' := fun h0 e G' g1 g2 g3 => by
      refine hQ2 _ _ _ (hQ1 _ _ _ ?_)
      simp (maxSteps := 2000000) only [Zf, Zm]
      exact hno h0 e G' g1 g2 g3
    have cont : ∀ p, j ≤ p → p ≤ m → (∀ i, j ≤ i → i < p → T i j = 0) → (p < m → T p j ≠ 0) → ∀ e, ELe e [(0, Zc (n : Nat)), (1, v), (2, sv), (6, .slice none 0 0), (7, .bool false), (8, wv), (10, .slice (some ⟨B, 0, some 0⟩) m C), (15, Zc (k : Nat)), (16, Zc (j : Nat)), (17, Zc (p : Nat)), (104, Zc (k : Nat)), (105, Zc (j : Nat))] → X e hp := by
      intro p hjp hpm hz hnz e he
      refine hX _ _ _ ?_ he
      by_cases hpe : p = m
      · -- none
        obtain rfl : m = p := hpe.symm
        have hf : findP m j T = none := findP_none fun i h1 h2 => hz i h1 h2
        have hs : Xn m k T0 = none := by
          have : ∀ d, Yv m T0 (j + 1 + d) = none := by
            intro d
            induction d with
            | zero =>
              show (Yv m T0 j).bind (Xu m j) = none
              rw [hrun]
              show Xu m j T = none
              rw [Xu, hf]; rfl
            | succ d ih => rw [← Nat.add_assoc, Yv, ih]; rfl
          rw [Xn, show k = j + 1 + (k - (j + 1)) by omega, this]; rfl
        have heq : (((m : Nat) : Int) == ((m : Nat) : Int)) = true := by simp
        refine Zk fun D hD => ?_
        refine Ze fun N6 hN6 => ?_
        simp (maxSteps := 2000000) only [↓Za, ↓Zb, ↓Zd, vup, List.map_cons, List.map_nil, cond_true, cond_false, aop, Zf, ev, sput, Zg, Yb, Yd, Zj, Nat.reduceBEq, tyf, lenK, heq]
        refine hN6 [(0, Zc (n : Nat)), (1, v), (2, sv), (6, .slice none 0 0), (7, .bool false), (8, wv), (10, .slice (some ⟨B, 0, some 0⟩) m C), (15, Zc (k : Nat)), (16, Zc (j : Nat)), (17, Zc (m : Nat)), (104, Zc (k : Nat)), (105, Zc (j : Nat)), (129, .bool true)] _ _ ?_ (by simp (maxSteps := 2000000) only [vup, cond_true, cond_false, Nat.reduceBEq])
        clear hN6
        try clear N6
        refine Xj rfl ?_
        refine Zi ?_
        simp (maxSteps := 2000000) only [↓Za, ↓Zr, ↓Zv, ↓Zb, ↓Zd, vup, cond_true, cond_false, aop, Zf, Zm, ev, sput, Zg, Nat.reduceBEq]
        exact none0 hs _ _ hE rfl rfl
      have hpm' : p < m := by omega
      have hjm' : j < m := by omega
      have hf : findP m j T = some p := findP_at hjp hpm' (hnz hpm') hz
      have hne : (((p : Nat) : Int) == ((m : Nat) : Int)) = false := by rw [beq_eq_false_iff_ne]; omega
      refine Zk fun D hD => ?_
      refine Ze fun N7 hN7 => ?_
      simp (maxSteps := 2000000) only [↓Za, ↓Zb, ↓Zd, vup, List.map_cons, List.map_nil, cond_true, cond_false, aop, Zf, ev, sput, Zg, Yb, Yd, Zj, Nat.reduceBEq, tyf, lenK, hne]
      refine hN7 [(0, Zc (n : Nat)), (1, v), (2, sv), (6, .slice none 0 0), (7, .bool false), (8, wv), (10, .slice (some ⟨B, 0, some 0⟩) m C), (15, Zc (k : Nat)), (16, Zc (j : Nat)), (17, Zc (p : Nat)), (104, Zc (k : Nat)), (105, Zc (j : Nat)), (129, .bool false)] _ _ ?_ (by simp (maxSteps := 2000000) only [vup, cond_true, cond_false, Nat.reduceBEq])
      clear hN7
      try clear N7
      refine Yu rfl ?_
      refine Zi ?_
      simp (maxSteps := 2000000) only [↓Zo, Zf]
      refine hD [(0, Zc (n : Nat)), (1, v), (2, sv), (6, .slice none 0 0), (7, .bool false), (8, wv), (10, .slice (some ⟨B, 0, some 0⟩) m C), (15, Zc (k : Nat)), (16, Zc (j : Nat)), (17, Zc (p : Nat)), (104, Zc (k : Nat)), (105, Zc (j : Nat))] _ _ ?_ (by simp (maxSteps := 2000000) only [vup, cond_true, cond_false, Nat.reduceBEq])
      clear hD
      try clear D
      -- two rows change places
      obtain ⟨h1, H2, st1, st2, M2, hE2, hk2⟩ := M.swap hpm' hjm'
      have hE2 : Ext (Tch B m bk0) G H2 := hE.trans (hE2.mono fun b hb => .inl hb)
      have hS2 : ∀ i, i < m → Tch B m bk0 (swp p j bk i) := fun i hi => by
        simp only [swp]; split
        · exact hS j hjm'
        · split
          · exact hS p hpm'
          · exact hS i hi
      have hTp : T p j ≠ 0 := hnz hpm'
      have hnext : Yv m T0 (j + 1) = some (Vh j (Vp j (Wj j p T))) := by
        show (Yv m T0 j).bind (Xu m j) = _
        rw [hrun]
        show Xu m j T = _
        rw [Xu, hf]; rfl
      have s0 := sy_sml hsy hk hj hrun
      have s1 := sy_sml hsy hk (show j + 1 ≤ k by omega) hnext
      rw [swapT_comm] at hnext s1
      have hU0 : Wj p j T j j ≠ 0 := by rw [swapT_comm]; simp only [Wj, if_true]; exact hTp
      have sU : Sml m k (Wj p j T) := fun i c hi hc => by
        simp only [Wj]
        split
        · exact s0 j c hjm' hc
        · split
          · exact s0 p c hpm' hc
          · exact s0 i c hi hc
      have M1 : ∀ K : Value → Prop, Xo prog h1 47 (.pointer (some ⟨B, j, none⟩)) K = Xo prog h1 47 (.pointer (some ⟨B, j, none⟩)) K := fun K => rfl
      refine Ze fun N8 hN8 => ?_
      simp (maxSteps := 2000000) only [↓Za, ↓Zb, ↓Zd, vup, cond_true, cond_false, aop, Zf, ev, sput, Zg, Nat.reduceBEq, idxJ hpm', M.loadRow hpm']
      refine hN8 [(0, Zc (n : Nat)), (1, v), (2, sv), (6, .slice none 0 0), (7, .bool false), (8, wv), (10, .slice (some ⟨B, 0, some 0⟩) m C), (15, Zc (k : Nat)), (16, Zc (j : Nat)), (17, Zc (p : Nat)), (18, w p), (104, Zc (k : Nat)), (105, Zc (j : Nat))] _ _ ?_ (by simp (maxSteps := 2000000) only [vup, cond_true, cond_false, Nat.reduceBEq])
      clear hN8
      try clear N8
      refine Ze fun N9 hN9 => ?_
      simp (maxSteps := 2000000) only [↓Za, ↓Zb, ↓Zd, vup, cond_true, cond_false, aop, Zf, ev, sput, Zg, Nat.reduceBEq, idxJ hpm', idxJ hjm', M.loadRow hjm', st1]
      refine hN9 [(0, Zc (n : Nat)), (1, v), (2, sv), (6, .slice none 0 0), (7, .bool false), (8, wv), (10, .slice (some ⟨B, 0, some 0⟩) m C), (15, Zc (k : Nat)), (16, Zc (j : Nat)), (17, Zc (p : Nat)), (18, w p), (104, Zc (k : Nat)), (105, Zc (j : Nat))] _ _ ?_ (by simp (maxSteps := 2000000) only [vup, cond_true, cond_false, Nat.reduceBEq])
      clear hN9
      try clear N9
      refine Ze fun N10 hN10 => ?_
      simp (maxSteps := 2000000) only [↓Za, ↓Zb, ↓Zd, vup, cond_true, cond_false, aop, Zf, ev, sput, Zg, Nat.reduceBEq, idxJ hjm', st2]
      have hwj : swp p j w j = w p := by simp only [swp]; by_cases h : j = p <;> simp [h]
      obtain ⟨w', hw'⟩ : ∃ w', w' = swp p j w := ⟨_, rfl⟩
      obtain ⟨bk', hbk'⟩ : ∃ w', w' = swp p j bk := ⟨_, rfl⟩
      obtain ⟨U, hU⟩ : ∃ U, U = Wj p j T := ⟨_, rfl⟩
      rw [← hw', ← hbk', ← hU] at M2
      rw [← hbk'] at hS2
      rw [← hU] at hnext s1 hU0 sU
      rw [← hw'] at hwj
      rw [← hwj]
      refine hN10 [(0, Zc (n : Nat)), (1, v), (2, sv), (6, .slice none 0 0), (7, .bool false), (8, wv), (10, .slice (some ⟨B, 0, some 0⟩) m C), (15, Zc (k : Nat)), (16, Zc (j : Nat)), (17, Zc (p : Nat)), (18, w' j), (104, Zc (k : Nat)), (105, Zc (j : Nat))] _ _ ?_ (by simp (maxSteps := 2000000) only [vup, cond_true, cond_false, Nat.reduceBEq])
      clear hN10
      try clear N10
      clear hk2 st1 st2 h1 M1 s0 hw' hbk' hU hwj
      -- what it is divided by
      obtain ⟨H3, hH3⟩ : ∃ H3, H3 = H2 ++ [fC (U j j).num (U j j).den] := ⟨_, rfl⟩
      have b19 : H3[H2.length]? = some (fC (U j j).num (U j j).den) := by rw [hH3]; exact Zw _ _
      have M3 : Mat H3 B m k w' bk' U := by rw [hH3]; exact M2.ext (Ext.app _ _ _)
      have hE3 : Ext (Tch B m bk0) G H3 := by rw [hH3]; exact hE2.trans (Ext.app _ _ _)
      refine Ze fun N11 hN11 => ?_
      simp (maxSteps := 2000000) only [↓Za, ↓Zb, ↓Zd, vup, cond_true, cond_false, aop, Zf, ev, sput, Zg, Nat.reduceBEq, tyf, M2.idxR hjm' (show j ≤ k by omega), M2.loadE hjm' (show j ≤ k by omega), Xm, Yq]
      simp only [qV, frV, Wl (Zw H2 z0) rfl, Wb]
      rw [← hH3]
      refine hN11 [(0, Zc (n : Nat)), (1, v), (2, sv), (6, .slice none 0 0), (7, .bool false), (8, wv), (10, .slice (some ⟨B, 0, some 0⟩) m C), (15, Zc (k : Nat)), (16, Zc (j : Nat)), (17, Zc (p : Nat)), (18, w' j), (19, .pointer (some ⟨H2.length, 0, none⟩)), (104, Zc (k : Nat)), (105, Zc (j : Nat))] _ _ ?_ (by simp (maxSteps := 2000000) only [vup, cond_true, cond_false, Nat.reduceBEq])
      clear hN11
      try clear N11
      have hT1 : ∀ i c, Vh j (Vp j U) i c = if i = j then U j c / U j j else U i c - U i j * (U j c / U j j) := fun i c => by
        simp only [Vh, Vp]
        by_cases h : i = j
        · simp [h]
        · simp [h]
      have hlen3 : H2.length < H3.length := by rw [hH3]; simp
      -- the row is divided
      refine Zk fun V hV => ?_
      refine Ze fun N12 hN12 => ?_
      simp (maxSteps := 2000000) only [↓Za, ↓Zb, ↓Zd, vup, List.map_cons, List.map_nil, cond_true, cond_false, aop, Zf, ev, sput, Zg, Zj, Nat.reduceBEq, tyf, M3.lenR hjm']
      refine hN12 [(0, Zc (n : Nat)), (1, v), (2, sv), (6, .slice none 0 0), (7, .bool false), (8, wv), (10, .slice (some ⟨B, 0, some 0⟩) m C), (15, Zc (k : Nat)), (16, Zc (j : Nat)), (17, Zc (p : Nat)), (18, w' j), (19, .pointer (some ⟨H2.length, 0, none⟩)), (104, Zc (k : Nat)), (105, Zc (j : Nat)), (149, w' j), (150, Zc ((k + 1 : Nat) : Int)), (151, .int .i64 0)] _ _ ?_ (by simp (maxSteps := 2000000) only [vup, cond_true, cond_false, Nat.reduceBEq])
      clear hN12
      try clear N12
      refine Zl ?_
      refine Zn fun Qa hQa => ?_
      refine Yj (γ := Nat × Zh) (fun s => s.1 ≤ k + 1 ∧ Mat s.2 B m k w' bk' (normTo j s.1 U) ∧ Ext (Tch B m bk0) G s.2 ∧ s.2[H2.length]? = some (fC (U j j).num (U j j).den))
        (fun s => ([(0, Zc (n : Nat)), (1, v), (2, sv), (6, .slice none 0 0), (7, .bool false), (8, wv), (10, .slice (some ⟨B, 0, some 0⟩) m C), (15, Zc (k : Nat)), (16, Zc (j : Nat)), (17, Zc (p : Nat)), (18, w' j), (19, .pointer (some ⟨H2.length, 0, none⟩)), (104, Zc (k : Nat)), (105, Zc (j : Nat)), (149, w' j), (150, Zc ((k + 1 : Nat) : Int)), (151, Zc (s.1 : Nat))], s.2)) (fun s => k + 1 - s.1) (0, H3) ⟨Nat.zero_le _, by simp only; rw [normTo_zero]; exact M3, hE3, b19⟩ (by simp (maxSteps := 2000000) only [vup, cond_true, cond_false, Nat.reduceBEq, Int.natCast_zero]) rfl ?_
      rintro ⟨c, F⟩ ⟨hc, MG, hEG, g19⟩
      simp only at hc MG hEG g19
      refine Zn fun Qb hQb => ?_
      simp only [l104_4]
      by_cases hcin : (c : Int) < ((k + 1 : Nat) : Int)
      · have hc' : c ≤ k := by omega
        have u1 := sU j c hjm' hc'
        have u2 := sU j j hjm' (by omega)
        have ov : Xc prog 96 [qV (U j c), qV (U j j)] F (qV (U j c / U j j)) := by
          refine rover_call hU0 ?_ ?_
          · rw [Int.natAbs_mul, Int.natAbs_natCast]; exact mul_le3 u1.1 u2.2 (by decide)
          · rw [Int.natAbs_mul, Int.natAbs_natCast]; exact mul_le3 u1.2 u2.1 (by decide)
        obtain ⟨F', st, MG', hEG', hk'⟩ := MG.storeE hjm' hc' (U j c / U j j)
        rw [normTo_succ] at MG'
        refine Ze fun N13 hN13 => ?_
        simp (maxSteps := 2000000) only [↓Za, ↓Zb, ↓Zd, vup, cond_true, cond_false, aop, Zf, ev, sput, Zg, Yb, Yd, Nat.reduceBEq, hcin]
        refine hN13 [(0, Zc (n : Nat)), (1, v), (2, sv), (6, .slice none 0 0), (7, .bool false), (8, wv), (10, .slice (some ⟨B, 0, some 0⟩) m C), (15, Zc (k : Nat)), (16, Zc (j : Nat)), (17, Zc (p : Nat)), (18, w' j), (19, .pointer (some ⟨H2.length, 0, none⟩)), (104, Zc (k : Nat)), (105, Zc (j : Nat)), (149, w' j), (150, Zc ((k + 1 : Nat) : Int)), (151, Zc (c : Nat)), (152, .bool true)] _ _ ?_ (by simp (maxSteps := 2000000) only [vup, cond_true, cond_false, Nat.reduceBEq])
        clear hN13
        try clear N13
        refine Ze fun N14 hN14 => ?_
        simp (maxSteps := 2000000) only [↓Zo, ↓vdn, vup, cond_true, cond_false, Zf, ev, Nat.reduceBEq]
        refine hN14 [(0, Zc (n : Nat)), (1, v), (2, sv), (6, .slice none 0 0), (7, .bool false), (8, wv), (10, .slice (some ⟨B, 0, some 0⟩) m C), (15, Zc (k : Nat)), (16, Zc (j : Nat)), (17, Zc (p : Nat)), (18, w' j), (19, .pointer (some ⟨H2.length, 0, none⟩)), (104, Zc (k : Nat)), (105, Zc (j : Nat)), (149, w' j), (150, Zc ((k + 1 : Nat) : Int)), (151, Zc (c : Nat))] _ _ ?_ (by simp (maxSteps := 2000000) only [vup, cond_true, cond_false, Nat.reduceBEq])
        clear hN14
        try clear N14
        refine Zk fun W hW => ?_
        refine Zl ?_
        refine Ze fun N15 hN15 => ?_
        simp (maxSteps := 2000000) only [↓Za, ↓Zb, ↓Zd, vup, cond_true, cond_false, aop, Zf, ev, sput, Zg, Nat.reduceBEq]
        refine hN15 [(0, Zc (n : Nat)), (1, v), (2, sv), (6, .slice none 0 0), (7, .bool false), (8, wv), (10, .slice (some ⟨B, 0, some 0⟩) m C), (15, Zc (k : Nat)), (16, Zc (j : Nat)), (17, Zc (p : Nat)), (18, w' j), (19, .pointer (some ⟨H2.length, 0, none⟩)), (20, Zc (c : Nat)), (104, Zc (k : Nat)), (105, Zc (j : Nat)), (149, w' j), (150, Zc ((k + 1 : Nat) : Int)), (151, Zc (c : Nat))] _ _ ?_ (by simp (maxSteps := 2000000) only [vup, cond_true, cond_false, Nat.reduceBEq])
        clear hN15
        try clear N15
        refine Zi ?_
        simp only [q104_41]
        refine Xg [(7, 1)] (by kernel_rfl) (by kernel_rfl) (by kernel_rfl) (by kernel_rfl) ?_
        simp (maxSteps := 2000000) only [↓Yc, ↓vdn, vup, List.map_cons, List.map_nil, cond_true, cond_false, aop, Zf, Zm, ev, sput, Zg, Nat.reduceBEq, Nat.reduceAdd, MG.idxR hjm' hc', MG.loadE hjm' hc', normTo_at, loadF g19, Yr, List.nil_append, List.append_nil]
        refine ⟨_, _, ov, rfl, ?_⟩
        simp (maxSteps := 2000000) only [st]
        refine hW [(0, Zc (n : Nat)), (1, v), (2, sv), (6, .slice none 0 0), (7, .bool false), (8, wv), (10, .slice (some ⟨B, 0, some 0⟩) m C), (15, Zc (k : Nat)), (16, Zc (j : Nat)), (17, Zc (p : Nat)), (18, w' j), (19, .pointer (some ⟨H2.length, 0, none⟩)), (104, Zc (k : Nat)), (105, Zc (j : Nat)), (149, w' j), (150, Zc ((k + 1 : Nat) : Int)), (151, Zc (c : Nat))] _ _ ?_ (by simp (maxSteps := 2000000) only [vup, cond_true, cond_false, Nat.reduceBEq])
        clear hW
        try clear W
        refine Zi ?_
        simp (maxSteps := 2000000) only [↓Za, ↓Zb, ↓Zd, vup, cond_true, cond_false, aop, ev, sput, Zg, Yb, Yd, Nat.reduceBEq, add1 (show c < 9223372036854775807 by omega)]
        have n19 : H2.length ≠ bk' j := fun he => by
          obtain ⟨cc, xs, e1, e2, e3⟩ := MG.row j hjm'
          rw [← he, g19] at e3; cases e3
        refine hQb _ _ _ ⟨(c + 1, F'), ⟨by simp only; omega, MG', hEG.trans (hEG'.mono fun b hb => by rw [hb]; exact hS2 j hjm'), by simp only; rw [hk' _ n19]; exact g19⟩, by simp only; omega, by simp (maxSteps := 2000000) only [vup, cond_true, cond_false, Nat.reduceBEq], rfl⟩
      obtain rfl : c = k + 1 := by omega
      refine Ze fun N16 hN16 => ?_
      simp (maxSteps := 2000000) only [↓Za, ↓Zb, ↓Zd, vup, cond_true, cond_false, aop, Zf, ev, sput, Zg, Yb, Yd, Nat.reduceBEq, hcin]
      refine hN16 [(0, Zc (n : Nat)), (1, v), (2, sv), (6, .slice none 0 0), (7, .bool false), (8, wv), (10, .slice (some ⟨B, 0, some 0⟩) m C), (15, Zc (k : Nat)), (16, Zc (j : Nat)), (17, Zc (p : Nat)), (18, w' j), (19, .pointer (some ⟨H2.length, 0, none⟩)), (104, Zc (k : Nat)), (105, Zc (j : Nat)), (149, w' j), (150, Zc ((k + 1 : Nat) : Int)), (151, Zc ((k + 1 : Nat) : Int)), (152, .bool false)] _ _ ?_ (by simp (maxSteps := 2000000) only [vup, cond_true, cond_false, Nat.reduceBEq])
      clear hN16
      try clear N16
      refine Ze fun N17 hN17 => ?_
      simp (maxSteps := 2000000) only [↓Yo, ↓vdn, vup, cond_true, cond_false, Zf, ev, Nat.reduceBEq]
      refine hQb _ _ _ (hQa _ _ _ ?_)
      simp (maxSteps := 2000000) only [Zf, Zm, if_true]
      refine hV [(0, Zc (n : Nat)), (1, v), (2, sv), (6, .slice none 0 0), (7, .bool false), (8, wv), (10, .slice (some ⟨B, 0, some 0⟩) m C), (15, Zc (k : Nat)), (16, Zc (j : Nat)), (18, w' j), (104, Zc (k : Nat)), (105, Zc (j : Nat)), (152, .bool false)] _ _ ?_ (by simp (maxSteps := 2000000) only [vup, cond_true, cond_false, Nat.reduceBEq])
      clear hV
      try clear V
      have MV : Mat F B m k w' bk' (Vp j U) := MG.congr fun i d hi hd => normTo_all U hd
      clear MG g19 b19 M3 M2 hE2 hlen3
      obtain ⟨V, hV⟩ : ∃ V, V = Vp j U := ⟨_, rfl⟩
      rw [← hV] at MV hnext s1
      have hVj : ∀ c, Vh j V j c = V j c := fun c => by simp [Vh]
      have hVi : ∀ i, i ≠ j → V i = U i := fun i hi => by rw [hV]; funext d; simp [Vp, hi]
      -- the other rows are cleared
      refine Ze fun N18 hN18 => ?_
      simp (maxSteps := 2000000) only [↓Za, ↓Zb, ↓Zd, vup, List.map_cons, List.map_nil, cond_true, cond_false, aop, Zf, ev, sput, Zg, Zj, Nat.reduceBEq, tyf, lenK]
      refine hN18 [(0, Zc (n : Nat)), (1, v), (2, sv), (6, .slice none 0 0), (7, .bool false), (8, wv), (10, .slice (some ⟨B, 0, some 0⟩) m C), (15, Zc (k : Nat)), (16, Zc (j : Nat)), (18, w' j), (104, Zc (k : Nat)), (105, Zc (j : Nat)), (152, .bool false), (164, .slice (some ⟨B, 0, some 0⟩) m C), (165, Zc (m : Nat)), (166, .int .i64 0)] _ _ ?_ (by simp (maxSteps := 2000000) only [vup, cond_true, cond_false, Nat.reduceBEq])
      clear hN18
      try clear N18
      refine Zl ?_
      refine Zn fun Qa hQa => ?_
      refine Yj (γ := Nat × Zh) (fun s => s.1 ≤ m ∧ Mat s.2 B m k w' bk' (Xb j s.1 V) ∧ Ext (Tch B m bk0) G s.2)
        (fun s => ([(0, Zc (n : Nat)), (1, v), (2, sv), (6, .slice none 0 0), (7, .bool false), (8, wv), (10, .slice (some ⟨B, 0, some 0⟩) m C), (15, Zc (k : Nat)), (16, Zc (j : Nat)), (18, w' j), (104, Zc (k : Nat)), (105, Zc (j : Nat)), (152, .bool false), (164, .slice (some ⟨B, 0, some 0⟩) m C), (165, Zc (m : Nat)), (166, Zc (s.1 : Nat))], s.2)) (fun s => m - s.1) (0, F) ⟨Nat.zero_le _, by simp only; rw [elimRows_zero]; exact MV, hEG⟩ (by simp (maxSteps := 2000000) only [vup, cond_true, cond_false, Nat.reduceBEq, Int.natCast_zero]) rfl ?_
      rintro ⟨r, G1⟩ ⟨hr, MR, hER⟩
      simp only at hr MR hER
      refine Zn fun Qb hQb => ?_
      simp only [l104_6]
      by_cases hrin : (r : Int) < (m : Int)
      · have hr' : r < m := by omega
        obtain ⟨er1, er2⟩ := elimRows_row j r V
        refine Ze fun N19 hN19 => ?_
        simp (maxSteps := 2000000) only [↓Za, ↓Zb, ↓Zd, vup, cond_true, cond_false, aop, Zf, ev, sput, Zg, Yb, Yd, Nat.reduceBEq, hrin]
        refine hN19 [(0, Zc (n : Nat)), (1, v), (2, sv), (6, .slice none 0 0), (7, .bool false), (8, wv), (10, .slice (some ⟨B, 0, some 0⟩) m C), (15, Zc (k : Nat)), (16, Zc (j : Nat)), (18, w' j), (104, Zc (k : Nat)), (105, Zc (j : Nat)), (152, .bool false), (164, .slice (some ⟨B, 0, some 0⟩) m C), (165, Zc (m : Nat)), (166, Zc (r : Nat)), (167, .bool true)] _ _ ?_ (by simp (maxSteps := 2000000) only [vup, cond_true, cond_false, Nat.reduceBEq])
        clear hN19
        try clear N19
        refine Ze fun N20 hN20 => ?_
        simp (maxSteps := 2000000) only [↓Zo, ↓vdn, vup, cond_true, cond_false, Zf, ev, Nat.reduceBEq]
        refine hN20 [(0, Zc (n : Nat)), (1, v), (2, sv), (6, .slice none 0 0), (7, .bool false), (8, wv), (10, .slice (some ⟨B, 0, some 0⟩) m C), (15, Zc (k : Nat)), (16, Zc (j : Nat)), (18, w' j), (104, Zc (k : Nat)), (105, Zc (j : Nat)), (152, .bool false), (164, .slice (some ⟨B, 0, some 0⟩) m C), (165, Zc (m : Nat)), (166, Zc (r : Nat))] _ _ ?_ (by simp (maxSteps := 2000000) only [vup, cond_true, cond_false, Nat.reduceBEq])
        clear hN20
        try clear N20
        refine Zk fun W hW => ?_
        refine Zl ?_
        refine Ze fun N21 hN21 => ?_
        simp (maxSteps := 2000000) only [↓Za, ↓Zb, ↓Zd, vup, cond_true, cond_false, aop, Zf, ev, sput, Zg, Nat.reduceBEq]
        refine hN21 [(0, Zc (n : Nat)), (1, v), (2, sv), (6, .slice none 0 0), (7, .bool false), (8, wv), (10, .slice (some ⟨B, 0, some 0⟩) m C), (15, Zc (k : Nat)), (16, Zc (j : Nat)), (18, w' j), (21, Zc (r : Nat)), (104, Zc (k : Nat)), (105, Zc (j : Nat)), (152, .bool false), (164, .slice (some ⟨B, 0, some 0⟩) m C), (165, Zc (m : Nat)), (166, Zc (r : Nat))] _ _ ?_ (by simp (maxSteps := 2000000) only [vup, cond_true, cond_false, Nat.reduceBEq])
        clear hN21
        try clear N21
        obtain ⟨G2, hG2⟩ : ∃ G2, G2 = G1 ++ [fC (V r j).num (V r j).den] := ⟨_, rfl⟩
        have b22 : G2[G1.length]? = some (fC (V r j).num (V r j).den) := by rw [hG2]; exact Zw _ _
        have M2 : Mat G2 B m k w' bk' (Xb j r V) := by rw [hG2]; exact MR.ext (Ext.app _ _ _)
        have hE2 : Ext (Tch B m bk0) G G2 := by rw [hG2]; exact hER.trans (Ext.app _ _ _)
        refine Ze fun N22 hN22 => ?_
        simp (maxSteps := 2000000) only [↓Za, ↓Zb, ↓Zd, vup, cond_true, cond_false, aop, Zf, ev, sput, Zg, Nat.reduceBEq, tyf, idxJ hr', MR.loadRow hr', MR.idxR hr' (show j ≤ k by omega), MR.loadE hr' (show j ≤ k by omega), er1, Xm, Yq]
        simp only [qV, frV, Wl (Zw G1 z0) rfl, Wb]
        rw [← hG2]
        refine hN22 [(0, Zc (n : Nat)), (1, v), (2, sv), (6, .slice none 0 0), (7, .bool false), (8, wv), (10, .slice (some ⟨B, 0, some 0⟩) m C), (15, Zc (k : Nat)), (16, Zc (j : Nat)), (18, w' j), (21, Zc (r : Nat)), (22, .pointer (some ⟨G1.length, 0, none⟩)), (104, Zc (k : Nat)), (105, Zc (j : Nat)), (152, .bool false), (164, .slice (some ⟨B, 0, some 0⟩) m C), (165, Zc (m : Nat)), (166, Zc (r : Nat))] _ _ ?_ (by simp (maxSteps := 2000000) only [vup, cond_true, cond_false, Nat.reduceBEq])
        clear hN22
        try clear N22
        have fin : ∀ e H, Mat H B m k w' bk' (Xb j (r + 1) V) → Ext (Tch B m bk0) G H → ELe e [(0, Zc (n : Nat)), (1, v), (2, sv), (6, .slice none 0 0), (7, .bool false), (8, wv), (10, .slice (some ⟨B, 0, some 0⟩) m C), (15, Zc (k : Nat)), (16, Zc (j : Nat)), (18, w' j), (104, Zc (k : Nat)), (105, Zc (j : Nat)), (152, .bool false), (164, .slice (some ⟨B, 0, some 0⟩) m C), (165, Zc (m : Nat)), (166, Zc (r : Nat))] → W e H := by
          intro e H f1 f2 he
          refine hW _ _ _ ?_ he
          refine Zi ?_
          simp (maxSteps := 2000000) only [↓Za, ↓Zb, ↓Zd, vup, cond_true, cond_false, aop, ev, sput, Zg, Yb, Yd, Nat.reduceBEq, add1 (show r < 9223372036854775807 by omega)]
          exact hQb _ _ _ ⟨(r + 1, H), ⟨hr', f1, f2⟩, by simp only; omega, by simp (maxSteps := 2000000) only [vup, cond_true, cond_false, Nat.reduceBEq], rfl⟩
        refine Ze fun N23 hN23 => ?_
        simp (maxSteps := 2000000) only [↓Za, ↓Zb, ↓Zd, vup, List.map_cons, List.map_nil, cond_true, cond_false, aop, Zf, ev, sput, Zg, Zj, Nat.reduceBEq, tyf, M2.lenR hjm']
        refine hN23 [(0, Zc (n : Nat)), (1, v), (2, sv), (6, .slice none 0 0), (7, .bool false), (8, wv), (10, .slice (some ⟨B, 0, some 0⟩) m C), (15, Zc (k : Nat)), (16, Zc (j : Nat)), (18, w' j), (21, Zc (r : Nat)), (22, .pointer (some ⟨G1.length, 0, none⟩)), (104, Zc (k : Nat)), (105, Zc (j : Nat)), (152, .bool false), (164, .slice (some ⟨B, 0, some 0⟩) m C), (165, Zc (m : Nat)), (166, Zc (r : Nat)), (176, w' j), (177, Zc ((k + 1 : Nat) : Int)), (178, .int .i64 0)] _ _ ?_ (by simp (maxSteps := 2000000) only [vup, cond_true, cond_false, Nat.reduceBEq])
        clear hN23
        try clear N23
        refine Zl ?_
        by_cases hrj : r = j
        · have hne : (((r : Nat) : Int) != ((j : Nat) : Int)) = false := by simp [hrj]
          refine Zn fun Qc hQc => ?_
          refine Yj (γ := Nat) (fun c => c ≤ k + 1) (fun c => ([(0, Zc (n : Nat)), (1, v), (2, sv), (6, .slice none 0 0), (7, .bool false), (8, wv), (10, .slice (some ⟨B, 0, some 0⟩) m C), (15, Zc (k : Nat)), (16, Zc (j : Nat)), (18, w' j), (21, Zc (r : Nat)), (22, .pointer (some ⟨G1.length, 0, none⟩)), (104, Zc (k : Nat)), (105, Zc (j : Nat)), (152, .bool false), (164, .slice (some ⟨B, 0, some 0⟩) m C), (165, Zc (m : Nat)), (166, Zc (r : Nat)), (176, w' j), (177, Zc ((k + 1 : Nat) : Int)), (178, Zc (c : Nat))], G2)) (fun c => k + 1 - c) 0 (Nat.zero_le _) (by simp (maxSteps := 2000000) only [vup, cond_true, cond_false, Nat.reduceBEq, Int.natCast_zero]) rfl ?_
          rintro c hc
          refine Zn fun Qd hQd => ?_
          simp only [l104_5]
          by_cases hcin : (c : Int) < ((k + 1 : Nat) : Int)
          · have hc' : c ≤ k := by omega
            refine Ze fun N24 hN24 => ?_
            simp (maxSteps := 2000000) only [↓Za, ↓Zb, ↓Zd, vup, cond_true, cond_false, aop, Zf, ev, sput, Zg, Yb, Yd, Nat.reduceBEq, hcin]
            refine hN24 [(0, Zc (n : Nat)), (1, v), (2, sv), (6, .slice none 0 0), (7, .bool false), (8, wv), (10, .slice (some ⟨B, 0, some 0⟩) m C), (15, Zc (k : Nat)), (16, Zc (j : Nat)), (18, w' j), (21, Zc (r : Nat)), (22, .pointer (some ⟨G1.length, 0, none⟩)), (104, Zc (k : Nat)), (105, Zc (j : Nat)), (152, .bool false), (164, .slice (some ⟨B, 0, some 0⟩) m C), (165, Zc (m : Nat)), (166, Zc (r : Nat)), (176, w' j), (177, Zc ((k + 1 : Nat) : Int)), (178, Zc (c : Nat)), (179, .bool true)] _ _ ?_ (by simp (maxSteps := 2000000) only [vup, cond_true, cond_false, Nat.reduceBEq])
            clear hN24
            try clear N24
            refine Ze fun N25 hN25 => ?_
            simp (maxSteps := 2000000) only [↓Zo, ↓vdn, vup, cond_true, cond_false, Zf, ev, Nat.reduceBEq]
            refine hN25 [(0, Zc (n : Nat)), (1, v), (2, sv), (6, .slice none 0 0), (7, .bool false), (8, wv), (10, .slice (some ⟨B, 0, some 0⟩) m C), (15, Zc (k : Nat)), (16, Zc (j : Nat)), (18, w' j), (21, Zc (r : Nat)), (22, .pointer (some ⟨G1.length, 0, none⟩)), (104, Zc (k : Nat)), (105, Zc (j : Nat)), (152, .bool false), (164, .slice (some ⟨B, 0, some 0⟩) m C), (165, Zc (m : Nat)), (166, Zc (r : Nat)), (176, w' j), (177, Zc ((k + 1 : Nat) : Int)), (178, Zc (c : Nat))] _ _ ?_ (by simp (maxSteps := 2000000) only [vup, cond_true, cond_false, Nat.reduceBEq])
            clear hN25
            try clear N25
            refine Zk fun D hD => ?_
            refine Zl ?_
            refine Ze fun N26 hN26 => ?_
            simp (maxSteps := 2000000) only [↓Za, ↓Zb, ↓Zd, vup, cond_true, cond_false, aop, Zf, ev, sput, Zg, Nat.reduceBEq]
            refine hN26 [(0, Zc (n : Nat)), (1, v), (2, sv), (6, .slice none 0 0), (7, .bool false), (8, wv), (10, .slice (some ⟨B, 0, some 0⟩) m C), (15, Zc (k : Nat)), (16, Zc (j : Nat)), (18, w' j), (21, Zc (r : Nat)), (22, .pointer (some ⟨G1.length, 0, none⟩)), (23, Zc (c : Nat)), (104, Zc (k : Nat)), (105, Zc (j : Nat)), (152, .bool false), (164, .slice (some ⟨B, 0, some 0⟩) m C), (165, Zc (m : Nat)), (166, Zc (r : Nat)), (176, w' j), (177, Zc ((k + 1 : Nat) : Int)), (178, Zc (c : Nat))] _ _ ?_ (by simp (maxSteps := 2000000) only [vup, cond_true, cond_false, Nat.reduceBEq])
            clear hN26
            try clear N26
            refine Ze fun N27 hN27 => ?_
            simp (maxSteps := 2000000) only [↓Za, ↓Zb, ↓Zd, vup, cond_true, cond_false, aop, Zf, ev, sput, Zg, Yb, Yd, Nat.reduceBEq, hne]
            refine hN27 [(0, Zc (n : Nat)), (1, v), (2, sv), (6, .slice none 0 0), (7, .bool false), (8, wv), (10, .slice (some ⟨B, 0, some 0⟩) m C), (15, Zc (k : Nat)), (16, Zc (j : Nat)), (18, w' j), (21, Zc (r : Nat)), (22, .pointer (some ⟨G1.length, 0, none⟩)), (23, Zc (c : Nat)), (104, Zc (k : Nat)), (105, Zc (j : Nat)), (152, .bool false), (164, .slice (some ⟨B, 0, some 0⟩) m C), (165, Zc (m : Nat)), (166, Zc (r : Nat)), (176, w' j), (177, Zc ((k + 1 : Nat) : Int)), (178, Zc (c : Nat)), (183, .bool false)] _ _ ?_ (by simp (maxSteps := 2000000) only [vup, cond_true, cond_false, Nat.reduceBEq])
            clear hN27
            try clear N27
            refine Yu rfl ?_
            refine Zi ?_
            simp (maxSteps := 2000000) only [↓Zo, Zf, Zm]
            refine hD [(0, Zc (n : Nat)), (1, v), (2, sv), (6, .slice none 0 0), (7, .bool false), (8, wv), (10, .slice (some ⟨B, 0, some 0⟩) m C), (15, Zc (k : Nat)), (16, Zc (j : Nat)), (18, w' j), (21, Zc (r : Nat)), (22, .pointer (some ⟨G1.length, 0, none⟩)), (104, Zc (k : Nat)), (105, Zc (j : Nat)), (152, .bool false), (164, .slice (some ⟨B, 0, some 0⟩) m C), (165, Zc (m : Nat)), (166, Zc (r : Nat)), (176, w' j), (177, Zc ((k + 1 : Nat) : Int)), (178, Zc (c : Nat))] _ _ ?_ (by simp (maxSteps := 2000000) only [vup, cond_true, cond_false, Nat.reduceBEq])
            clear hD
            try clear D
            refine Zi ?_
            simp (maxSteps := 2000000) only [↓Za, ↓Zb, ↓Zd, vup, cond_true, cond_false, aop, ev, sput, Zg, Yb, Yd, Nat.reduceBEq, add1 (show c < 9223372036854775807 by omega)]
            exact hQd _ _ _ ⟨c + 1, by omega, by omega, by simp (maxSteps := 2000000) only [vup, cond_true, cond_false, Nat.reduceBEq], rfl⟩
          obtain rfl : c = k + 1 := by omega
          refine Ze fun N28 hN28 => ?_
          simp (maxSteps := 2000000) only [↓Za, ↓Zb, ↓Zd, vup, cond_true, cond_false, aop, Zf, ev, sput, Zg, Yb, Yd, Nat.reduceBEq, hcin]
          refine hN28 [(0, Zc (n : Nat)), (1, v), (2, sv), (6, .slice none 0 0), (7, .bool false), (8, wv), (10, .slice (some ⟨B, 0, some 0⟩) m C), (15, Zc (k : Nat)), (16, Zc (j : Nat)), (18, w' j), (21, Zc (r : Nat)), (22, .pointer (some ⟨G1.length, 0, none⟩)), (104, Zc (k : Nat)), (105, Zc (j : Nat)), (152, .bool false), (164, .slice (some ⟨B, 0, some 0⟩) m C), (165, Zc (m : Nat)), (166, Zc (r : Nat)), (176, w' j), (177, Zc ((k + 1 : Nat) : Int)), (178, Zc ((k + 1 : Nat) : Int)), (179, .bool false)] _ _ ?_ (by simp (maxSteps := 2000000) only [vup, cond_true, cond_false, Nat.reduceBEq])
          clear hN28
          try clear N28
          refine Ze fun N29 hN29 => ?_
          simp (maxSteps := 2000000) only [↓Yo, ↓vdn, vup, cond_true, cond_false, Zf, ev, Nat.reduceBEq]
          refine hQd _ _ _ (hQc _ _ _ ?_)
          simp (maxSteps := 2000000) only [Zf, Zm, if_true]
          exact fin _ _ (M2.congr fun i d _ _ => elimRows_skip V (.inl hrj) i d) hE2 (by simp (maxSteps := 2000000) only [vup, cond_true, cond_false, Nat.reduceBEq])
        · have hne : (((r : Nat) : Int) != ((j : Nat) : Int)) = true := by
            have : ¬ ((r : Nat) : Int) = ((j : Nat) : Int) := by omega
            simpa [bne] using this
          refine Zn fun Qc hQc => ?_
          refine Yj (γ := Nat × Zh) (fun s => s.1 ≤ k + 1 ∧ Mat s.2 B m k w' bk' (Vs j r s.1 (Xb j r V)) ∧ Ext (Tch B m bk0) G s.2 ∧ s.2[G1.length]? = some (fC (V r j).num (V r j).den))
            (fun s => ([(0, Zc (n : Nat)), (1, v), (2, sv), (6, .slice none 0 0), (7, .bool false), (8, wv), (10, .slice (some ⟨B, 0, some 0⟩) m C), (15, Zc (k : Nat)), (16, Zc (j : Nat)), (18, w' j), (21, Zc (r : Nat)), (22, .pointer (some ⟨G1.length, 0, none⟩)), (104, Zc (k : Nat)), (105, Zc (j : Nat)), (152, .bool false), (164, .slice (some ⟨B, 0, some 0⟩) m C), (165, Zc (m : Nat)), (166, Zc (r : Nat)), (176, w' j), (177, Zc ((k + 1 : Nat) : Int)), (178, Zc (s.1 : Nat))], s.2)) (fun s => k + 1 - s.1) (0, G2) ⟨Nat.zero_le _, by simp only; rw [elimTo_zero]; exact M2, hE2, b22⟩ (by simp (maxSteps := 2000000) only [vup, cond_true, cond_false, Nat.reduceBEq, Int.natCast_zero]) rfl ?_
          rintro ⟨c, F⟩ ⟨hc, MG, hEG, g22⟩
          simp only at hc MG hEG g22
          refine Zn fun Qd hQd => ?_
          simp only [l104_5]
          by_cases hcin : (c : Int) < ((k + 1 : Nat) : Int)
          · have hc' : c ≤ k := by omega
            have ep : Vs j r c (Xb j r V) r c = U r c := by rw [elimTo_at, er1, hVi r hrj]
            have ej : Vs j r c (Xb j r V) j c = V j c := by rw [elimTo_other _ (Ne.symm hrj), er2]
            have u1 := sU r c hr' hc'
            have u2 := sU r j hr' (by omega)
            have u3 := s1 j c hjm' hc'
            rw [hVj] at u3
            have hVrj : V r j = U r j := by rw [hVi r hrj]
            obtain ⟨c1, c2, c3, c4⟩ := rclear_call (h := F) u1 u2 u3
            obtain ⟨F', st, MG', hEG', hk'⟩ := MG.storeE hr' hc' (U r c - U r j * V j c)
            have e1 : Xb j r V r c - Xb j r V r j * Xb j r V j c = U r c - U r j * V j c := by rw [er1, er2, hVi r hrj]
            rw [← e1, elimTo_succ] at MG'
            rw [hVrj] at g22
            refine Ze fun N30 hN30 => ?_
            simp (maxSteps := 2000000) only [↓Za, ↓Zb, ↓Zd, vup, cond_true, cond_false, aop, Zf, ev, sput, Zg, Yb, Yd, Nat.reduceBEq, hcin]
            refine hN30 [(0, Zc (n : Nat)), (1, v), (2, sv), (6, .slice none 0 0), (7, .bool false), (8, wv), (10, .slice (some ⟨B, 0, some 0⟩) m C), (15, Zc (k : Nat)), (16, Zc (j : Nat)), (18, w' j), (21, Zc (r : Nat)), (22, .pointer (some ⟨G1.length, 0, none⟩)), (104, Zc (k : Nat)), (105, Zc (j : Nat)), (152, .bool false), (164, .slice (some ⟨B, 0, some 0⟩) m C), (165, Zc (m : Nat)), (166, Zc (r : Nat)), (176, w' j), (177, Zc ((k + 1 : Nat) : Int)), (178, Zc (c : Nat)), (179, .bool true)] _ _ ?_ (by simp (maxSteps := 2000000) only [vup, cond_true, cond_false, Nat.reduceBEq])
            clear hN30
            try clear N30
            refine Ze fun N31 hN31 => ?_
            simp (maxSteps := 2000000) only [↓Zo, ↓vdn, vup, cond_true, cond_false, Zf, ev, Nat.reduceBEq]
            refine hN31 [(0, Zc (n : Nat)), (1, v), (2, sv), (6, .slice none 0 0), (7, .bool false), (8, wv), (10, .slice (some ⟨B, 0, some 0⟩) m C), (15, Zc (k : Nat)), (16, Zc (j : Nat)), (18, w' j), (21, Zc (r : Nat)), (22, .pointer (some ⟨G1.length, 0, none⟩)), (104, Zc (k : Nat)), (105, Zc (j : Nat)), (152, .bool false), (164, .slice (some ⟨B, 0, some 0⟩) m C), (165, Zc (m : Nat)), (166, Zc (r : Nat)), (176, w' j), (177, Zc ((k + 1 : Nat) : Int)), (178, Zc (c : Nat))] _ _ ?_ (by simp (maxSteps := 2000000) only [vup, cond_true, cond_false, Nat.reduceBEq])
            clear hN31
            try clear N31
            refine Zk fun D hD => ?_
            refine Zl ?_
            refine Ze fun N32 hN32 => ?_
            simp (maxSteps := 2000000) only [↓Za, ↓Zb, ↓Zd, vup, cond_true, cond_false, aop, Zf, ev, sput, Zg, Nat.reduceBEq]
            refine hN32 [(0, Zc (n : Nat)), (1, v), (2, sv), (6, .slice none 0 0), (7, .bool false), (8, wv), (10, .slice (some ⟨B, 0, some 0⟩) m C), (15, Zc (k : Nat)), (16, Zc (j : Nat)), (18, w' j), (21, Zc (r : Nat)), (22, .pointer (some ⟨G1.length, 0, none⟩)), (23, Zc (c : Nat)), (104, Zc (k : Nat)), (105, Zc (j : Nat)), (152, .bool false), (164, .slice (some ⟨B, 0, some 0⟩) m C), (165, Zc (m : Nat)), (166, Zc (r : Nat)), (176, w' j), (177, Zc ((k + 1 : Nat) : Int)), (178, Zc (c : Nat))] _ _ ?_ (by simp (maxSteps := 2000000) only [vup, cond_true, cond_false, Nat.reduceBEq])
            clear hN32
            try clear N32
            refine Ze fun N33 hN33 => ?_
            simp (maxSteps := 2000000) only [↓Za, ↓Zb, ↓Zd, vup, cond_true, cond_false, aop, Zf, ev, sput, Zg, Yb, Yd, Nat.reduceBEq, hne]
            refine hN33 [(0, Zc (n : Nat)), (1, v), (2, sv), (6, .slice none 0 0), (7, .bool false), (8, wv), (10, .slice (some ⟨B, 0, some 0⟩) m C), (15, Zc (k : Nat)), (16, Zc (j : Nat)), (18, w' j), (21, Zc (r : Nat)), (22, .pointer (some ⟨G1.length, 0, none⟩)), (23, Zc (c : Nat)), (104, Zc (k : Nat)), (105, Zc (j : Nat)), (152, .bool false), (164, .slice (some ⟨B, 0, some 0⟩) m C), (165, Zc (m : Nat)), (166, Zc (r : Nat)), (176, w' j), (177, Zc ((k + 1 : Nat) : Int)), (178, Zc (c : Nat)), (183, .bool true)] _ _ ?_ (by simp (maxSteps := 2000000) only [vup, cond_true, cond_false, Nat.reduceBEq])
            clear hN33
            try clear N33
            refine Xj rfl ?_
            refine Zi ?_
            simp only [q104_51]
            refine Xg [(12, 1), (18, 1), (19, 1), (20, 1)] (by kernel_rfl) (by kernel_rfl) (by kernel_rfl) (by kernel_rfl) ?_
            refine Vy 13 rfl fun N1 hN1 => ?_
            simp (maxSteps := 2000000) only [↓Yc, ↓vdn, vup, List.map_cons, List.map_nil, cond_true, cond_false, aop, ev, sput, Zg, Nat.reduceBEq, Nat.reduceAdd, List.take_succ_cons, List.take_zero, idxJ hr', MG.loadRow hr', MG.idxR hr' hc', MG.loadE hr' hc', ep, Yr, List.nil_append, List.append_nil]
            refine ⟨_, _, c1, rfl, ?_⟩
            refine hN1 _ _ ?_
            clear hN1 N1
            refine Vy 6 rfl fun N1 hN1 => ?_
            simp (maxSteps := 2000000) only [↓Yc, ↓vdn, vup, List.map_cons, List.map_nil, cond_true, cond_false, aop, ev, sput, Zg, Nat.reduceBEq, Nat.reduceAdd, List.drop_succ_cons, List.drop_zero, List.take_succ_cons, List.take_zero, loadF g22, MG.idxR hjm' hc', MG.loadE hjm' hc', ej, Yr, List.nil_append, List.append_nil]
            refine ⟨_, _, c2, rfl, ?_⟩
            refine hN1 _ _ ?_
            clear hN1 N1
            refine Vy 1 rfl fun N1 hN1 => ?_
            simp (maxSteps := 2000000) only [↓Yc, ↓vdn, vup, List.map_cons, List.map_nil, cond_true, cond_false, ev, sput, Zg, Nat.reduceBEq, Nat.reduceAdd, List.drop_succ_cons, List.drop_zero, List.take_succ_cons, List.take_zero, Yr, List.nil_append, List.append_nil]
            refine ⟨_, _, c3, rfl, ?_⟩
            refine hN1 _ _ ?_
            clear hN1 N1
            refine Vy 1 rfl fun N1 hN1 => ?_
            simp (maxSteps := 2000000) only [↓Yc, ↓vdn, vup, List.map_cons, List.map_nil, cond_true, cond_false, ev, sput, Zg, Nat.reduceBEq, Nat.reduceAdd, List.drop_succ_cons, List.drop_zero, List.take_succ_cons, List.take_zero, Yr, List.nil_append, List.append_nil]
            refine ⟨_, _, c4, rfl, ?_⟩
            refine hN1 _ _ ?_
            clear hN1 N1
            simp (maxSteps := 2000000) only [↓Yc, ↓vdn, vup, cond_true, cond_false, aop, Zf, Zm, ev, sput, Zg, Nat.reduceBEq, Nat.reduceAdd, List.drop_succ_cons, List.drop_zero, MG.idxR hr' hc', st]
            refine hD [(0, Zc (n : Nat)), (1, v), (2, sv), (6, .slice none 0 0), (7, .bool false), (8, wv), (10, .slice (some ⟨B, 0, some 0⟩) m C), (15, Zc (k : Nat)), (16, Zc (j : Nat)), (18, w' j), (21, Zc (r : Nat)), (22, .pointer (some ⟨G1.length, 0, none⟩)), (104, Zc (k : Nat)), (105, Zc (j : Nat)), (152, .bool false), (164, .slice (some ⟨B, 0, some 0⟩) m C), (165, Zc (m : Nat)), (166, Zc (r : Nat)), (176, w' j), (177, Zc ((k + 1 : Nat) : Int)), (178, Zc (c : Nat))] _ _ ?_ (by simp (maxSteps := 2000000) only [vup, cond_true, cond_false, Nat.reduceBEq])
            clear hD
            try clear D
            refine Zi ?_
            simp (maxSteps := 2000000) only [↓Za, ↓Zb, ↓Zd, vup, cond_true, cond_false, aop, ev, sput, Zg, Yb, Yd, Nat.reduceBEq, add1 (show c < 9223372036854775807 by omega)]
            have n22 : G1.length ≠ bk' r := fun he => by
              obtain ⟨cc, xs, e1, e2, e3⟩ := MG.row r hr'
              rw [← he, g22] at e3; cases e3
            refine hQd _ _ _ ⟨(c + 1, F'), ⟨by simp only; omega, MG', hEG.trans (hEG'.mono fun b hb => by rw [hb]; exact hS2 r hr'), by simp only; rw [hk' _ n22, hVrj]; exact g22⟩, by simp only; omega, by simp (maxSteps := 2000000) only [vup, cond_true, cond_false, Nat.reduceBEq], rfl⟩
          obtain rfl : c = k + 1 := by omega
          refine Ze fun N34 hN34 => ?_
          simp (maxSteps := 2000000) only [↓Za, ↓Zb, ↓Zd, vup, cond_true, cond_false, aop, Zf, ev, sput, Zg, Yb, Yd, Nat.reduceBEq, hcin]
          refine hN34 [(0, Zc (n : Nat)), (1, v), (2, sv), (6, .slice none 0 0), (7, .bool false), (8, wv), (10, .slice (some ⟨B, 0, some 0⟩) m C), (15, Zc (k : Nat)), (16, Zc (j : Nat)), (18, w' j), (21, Zc (r : Nat)), (22, .pointer (some ⟨G1.length, 0, none⟩)), (104, Zc (k : Nat)), (105, Zc (j : Nat)), (152, .bool false), (164, .slice (some ⟨B, 0, some 0⟩) m C), (165, Zc (m : Nat)), (166, Zc (r : Nat)), (176, w' j), (177, Zc ((k + 1 : Nat) : Int)), (178, Zc ((k + 1 : Nat) : Int)), (179, .bool false)] _ _ ?_ (by simp (maxSteps := 2000000) only [vup, cond_true, cond_false, Nat.reduceBEq])
          clear hN34
          try clear N34
          refine Ze fun N35 hN35 => ?_
          simp (maxSteps := 2000000) only [↓Yo, ↓vdn, vup, cond_true, cond_false, Zf, ev, Nat.reduceBEq]
          refine hQd _ _ _ (hQc _ _ _ ?_)
          simp (maxSteps := 2000000) only [Zf, Zm, if_true]
          exact fin _ _ (MG.congr fun i d _ hd => elimRows_next V hrj hd) hEG (by simp (maxSteps := 2000000) only [vup, cond_true, cond_false, Nat.reduceBEq])
      obtain rfl : m = r := by omega
      refine Ze fun N36 hN36 => ?_
      simp (maxSteps := 2000000) only [↓Za, ↓Zb, ↓Zd, vup, cond_true, cond_false, aop, Zf, ev, sput, Zg, Yb, Yd, Nat.reduceBEq, hrin]
      refine hN36 [(0, Zc (n : Nat)), (1, v), (2, sv), (6, .slice none 0 0), (7, .bool false), (8, wv), (10, .slice (some ⟨B, 0, some 0⟩) m C), (15, Zc (k : Nat)), (16, Zc (j : Nat)), (18, w' j), (104, Zc (k : Nat)), (105, Zc (j : Nat)), (152, .bool false), (164, .slice (some ⟨B, 0, some 0⟩) m C), (165, Zc (m : Nat)), (166, Zc (m : Nat)), (167, .bool false)] _ _ ?_ (by simp (maxSteps := 2000000) only [vup, cond_true, cond_false, Nat.reduceBEq])
      clear hN36
      try clear N36
      refine Ze fun N37 hN37 => ?_
      simp (maxSteps := 2000000) only [↓Yo, ↓vdn, vup, cond_true, cond_false, Zf, ev, Nat.reduceBEq]
      refine hQb _ _ _ (hQa _ _ _ ?_)
      simp (maxSteps := 2000000) only [Zf, Zm, if_true]
      refine hY [(0, Zc (n : Nat)), (1, v), (2, sv), (6, .slice none 0 0), (7, .bool false), (8, wv), (10, .slice (some ⟨B, 0, some 0⟩) m C), (15, Zc (k : Nat)), (104, Zc (k : Nat)), (105, Zc (j : Nat)), (152, .bool false), (167, .bool false)] _ _ ?_ (by simp (maxSteps := 2000000) only [vup, cond_true, cond_false, Nat.reduceBEq])
      clear hY
      try clear Y
      refine Zi ?_
      simp (maxSteps := 2000000) only [↓Za, ↓Zb, ↓Zd, vup, cond_true, cond_false, aop, ev, sput, Zg, Yb, Yd, Nat.reduceBEq, add1 (show j < 9223372036854775807 by omega)]
      exact hQ2 _ _ _ ⟨(j + 1, G1, w', bk', Vh j V), ⟨by simp only; omega, hnext, MR.congr fun i d hi _ => elimRows_all V hi, hER, hS2⟩, by simp only; omega, by simp (maxSteps := 2000000) only [vup, cond_true, cond_false, Nat.reduceBEq], rfl⟩
    -- the search
    refine Zl ?_
    refine Zn fun Qa hQa => ?_
    refine Yj (γ := Nat) (fun p => j ≤ p ∧ p ≤ m ∧ ∀ i, j ≤ i → i < p → T i j = 0) (fun p => ([(0, Zc (n : Nat)), (1, v), (2, sv), (6, .slice none 0 0), (7, .bool false), (8, wv), (10, .slice (some ⟨B, 0, some 0⟩) m C), (15, Zc (k : Nat)), (16, Zc (j : Nat)), (17, Zc (p : Nat)), (104, Zc (k : Nat)), (105, Zc (j : Nat))], hp)) (fun p => m - p) j ⟨Nat.le_refl _, hjm, fun i h1 h2 => by omega⟩ (by simp (maxSteps := 2000000) only [vup, cond_true, cond_false, Nat.reduceBEq]) rfl ?_
    rintro p ⟨hjp, hpm, hz⟩
    refine Zn fun Qb hQb => ?_
    simp only [l104_3]
    by_cases hpin : (p : Int) < (m : Int)
    · have hpm' : p < m := by omega
      have hbe : ((T p j).num == 0) = decide (T p j = 0) := by
        rw [Bool.eq_iff_iff]
        simp [Rat.num_eq_zero]
      by_cases h0 : T p j = 0
      · have hb1 : ((T p j).num == 0) = true := by rw [hbe]; simpa using h0
        refine Zk fun D hD => ?_
        refine Ze fun N38 hN38 => ?_
        simp (maxSteps := 2000000) only [↓Za, ↓Zb, ↓Zd, ↓vdn, vup, List.map_cons, List.map_nil, cond_true, cond_false, aop, Zf, ev, sput, Zg, Yb, Yd, Zj, Nat.reduceBEq, tyf, lenK, hpin, idxJ hpm', M.loadRow hpm', M.idxR hpm' (show j ≤ k by omega), fA0o, M.loadN hpm' (show j ≤ k by omega), hb1]
        refine hN38 [(0, Zc (n : Nat)), (1, v), (2, sv), (6, .slice none 0 0), (7, .bool false), (8, wv), (10, .slice (some ⟨B, 0, some 0⟩) m C), (15, Zc (k : Nat)), (16, Zc (j : Nat)), (17, Zc (p : Nat)), (104, Zc (k : Nat)), (105, Zc (j : Nat)), (123, .bool true)] _ _ ?_ (by simp (maxSteps := 2000000) only [vup, cond_true, cond_false, Nat.reduceBEq])
        clear hN38
        try clear N38
        refine Xj rfl ?_
        refine Zi ?_
        simp (maxSteps := 2000000) only [↓Zo, Zf]
        refine hD [(0, Zc (n : Nat)), (1, v), (2, sv), (6, .slice none 0 0), (7, .bool false), (8, wv), (10, .slice (some ⟨B, 0, some 0⟩) m C), (15, Zc (k : Nat)), (16, Zc (j : Nat)), (17, Zc (p : Nat)), (104, Zc (k : Nat)), (105, Zc (j : Nat))] _ _ ?_ (by simp (maxSteps := 2000000) only [vup, cond_true, cond_false, Nat.reduceBEq])
        clear hD
        try clear D
        refine Zl ?_
        refine Zi ?_
        simp (maxSteps := 2000000) only [↓Za, ↓Zb, ↓Zd, vup, cond_true, cond_false, aop, Zm, ev, sput, Zg, Yb, Yd, Nat.reduceBEq, add1 (show p < 9223372036854775807 by omega)]
        refine hQb _ _ _ ⟨p + 1, ⟨by omega, by omega, fun i h1 h2 => ?_⟩, by omega, by simp (maxSteps := 2000000) only [vup, cond_true, cond_false, Nat.reduceBEq], rfl⟩
        rcases Nat.lt_or_ge i p with h3 | h3
        · exact hz i h1 h3
        · rw [show i = p by omega]; exact h0
      · have hb1 : ((T p j).num == 0) = false := by rw [hbe]; simpa using h0
        refine Zk fun D hD => ?_
        refine Ze fun N39 hN39 => ?_
        simp (maxSteps := 2000000) only [↓Za, ↓Zb, ↓Zd, ↓vdn, vup, List.map_cons, List.map_nil, cond_true, cond_false, aop, Zf, ev, sput, Zg, Yb, Yd, Zj, Nat.reduceBEq, tyf, lenK, hpin, idxJ hpm', M.loadRow hpm', M.idxR hpm' (show j ≤ k by omega), fA0o, M.loadN hpm' (show j ≤ k by omega), hb1]
        refine hN39 [(0, Zc (n : Nat)), (1, v), (2, sv), (6, .slice none 0 0), (7, .bool false), (8, wv), (10, .slice (some ⟨B, 0, some 0⟩) m C), (15, Zc (k : Nat)), (16, Zc (j : Nat)), (17, Zc (p : Nat)), (104, Zc (k : Nat)), (105, Zc (j : Nat)), (123, .bool false)] _ _ ?_ (by simp (maxSteps := 2000000) only [vup, cond_true, cond_false, Nat.reduceBEq])
        clear hN39
        try clear N39
        refine Yu rfl ?_
        refine Zi ?_
        simp (maxSteps := 2000000) only [↓Yo, Zf]
        refine hQb _ _ _ (hQa _ _ _ ?_)
        simp (maxSteps := 2000000) only [Zf, Zm, if_true]
        exact cont p hjp hpm hz (fun _ => h0) _ (by simp (maxSteps := 2000000) only [vup, cond_true, cond_false, Nat.reduceBEq])
    · obtain rfl : m = p := by omega
      refine Zk fun D hD => ?_
      refine Ze fun N40 hN40 => ?_
      simp (maxSteps := 2000000) only [↓Za, ↓Zb, ↓Zd, ↓vdn, vup, List.map_cons, List.map_nil, cond_true, cond_false, aop, Zf, ev, sput, Zg, Yb, Yd, Zj, Nat.reduceBEq, tyf, lenK, hpin]
      refine hN40 [(0, Zc (n : Nat)), (1, v), (2, sv), (6, .slice none 0 0), (7, .bool false), (8, wv), (10, .slice (some ⟨B, 0, some 0⟩) m C), (15, Zc (k : Nat)), (16, Zc (j : Nat)), (17, Zc (m : Nat)), (104, Zc (k : Nat)), (105, Zc (j : Nat)), (123, .bool false)] _ _ ?_ (by simp (maxSteps := 2000000) only [vup, cond_true, cond_false, Nat.reduceBEq])
      clear hN40
      try clear N40
      refine Yu rfl ?_
      refine Zi ?_
      simp (maxSteps := 2000000) only [↓Yo, Zf]
      refine hQb _ _ _ (hQa _ _ _ ?_)
      simp (maxSteps := 2000000) only [Zf, Zm, if_true]
      exact cont m hjp hpm hz (fun h => absurd h (Nat.lt_irrefl _)) _ (by simp (maxSteps := 2000000) only [vup, cond_true, cond_false, Nat.reduceBEq])
  · obtain rfl : k = j := by omega
    refine Ze fun N41 hN41 => ?_
    simp (maxSteps := 2000000) only [↓Za, ↓Zb, ↓Zd, vup, cond_true, cond_false, aop, Zf, ev, sput, Zg, Yb, Yd, Nat.reduceBEq, hin]
    refine hN41 [(0, Zc (n : Nat)), (1, v), (2, sv), (6, .slice none 0 0), (7, .bool false), (8, wv), (10, .slice (some ⟨B, 0, some 0⟩) m C), (15, Zc (k : Nat)), (104, Zc (k : Nat)), (105, Zc (k : Nat)), (106, .bool false)] _ _ ?_ (by simp (maxSteps := 2000000) only [vup, cond_true, cond_false, Nat.reduceBEq])
    clear hN41
    try clear N41
    refine Ze fun N42 hN42 => ?_
    simp (maxSteps := 2000000) only [↓Yo, ↓vdn, vup, cond_true, cond_false, Zf, ev, Nat.reduceBEq]
    refine hQ2 _ _ _ (hQ1 _ _ _ ?_)
    simp (maxSteps := 2000000) only [Zf, Zm, if_true]
    refine hZ _ _ _ (hyes T w bk hp hrun M hE hS) ?_
    simp (maxSteps := 2000000) only [vup, cond_true, cond_false, Nat.reduceBEq]
end Go.Proofs.Try.Am

namespace Go.Proofs.Try.Am
open Go.Am Bq
set_option maxRecDepth 100000
set_option maxHeartbeats 4000000

theorem cts_of {n : Nat} {l : List (Int × Int)} (h : Xf n l = true) : Cts l := fun i hi => by
  have := (Vb h).2.2.2.2 i hi
  simp only [okB, Bool.and_eq_true, decide_eq_true_eq] at this
  exact this.2.2
theorem rest_none {m k : Nat} {T0 S : Xt} {i : Nat} (hr : Yv m T0 k = some S) (hi : k + i < m) (h0 : S (k + i) k ≠ 0) : Xn m k T0 = none := by
  rw [Xn, hr, Option.bind_some, if_pos]
  rw [restT, List.any_eq_true]
  exact ⟨k + i, List.mem_range.2 hi, by simp [h0]⟩
theorem rest_some {m k : Nat} {T0 S : Xt} (hr : Yv m T0 k = some S) (h0 : ∀ i, i < m - k → S (k + i) k = 0) : Xn m k T0 = some ((List.range k).map fun i => S i k) := by
  rw [Xn, hr, Option.bind_some, if_neg]
  rw [restT, List.any_eq_true]
  rintro ⟨i, hi, h1⟩
  simp only [Bool.and_eq_true, decide_eq_true_eq] at h1
  rw [List.mem_range] at hi
  have := h0 (i - k) (by omega)
  rw [show k + (i - k) = i by omega] at this
  exact h1.2 this

theorem fA1r {b o : Nat} {K : Value → Prop} : Ys prog 24 (.pointer (some ⟨b, o, none⟩)) 1 K = K (.pointer (some ⟨b, o + 1, none⟩)) := by
  simp [Ys, fld_24_1, esz_3]
theorem fA0r {b o : Nat} {K : Value → Prop} : Ys prog 24 (.pointer (some ⟨b, o, none⟩)) 0 K = K (.pointer (some ⟨b, o, none⟩)) := by
  simp [Ys, fld_24_0, esz_3]
theorem pairFldsR {h : Zh} {v : Value} {ps : List (Int × Int)} {i : Nat} (hv : PairSl h v ps) (hi : i < ps.length) : ∃ p0 p1 : Value, (∀ K : Value → Prop, Yx prog 22 v (Zc (i : Nat)) K = K p0) ∧ (∀ K : Value → Prop, Ys prog 24 p0 0 K = K p0) ∧ (∀ K : Value → Prop, Ys prog 24 p0 1 K = K p1) ∧
    (∀ K : Value → Prop, Xo prog h 3 p0 K = K (Zc (ps.getD i (0, 0)).1)) ∧ (∀ K : Value → Prop, Xo prog h 3 p1 K = K (Zc (ps.getD i (0, 0)).2)) := by
  have hidx := fun K => hv.idx el_22 esz_24 (k := .i64) hi K
  rcases hv with ⟨rfl, rfl⟩ | ⟨b, o, sp, cap, c, e', ro, rfl, _, hvw, hc⟩
  · simp at hi
  · obtain ⟨h1, h2⟩ := hc i hi
    refine ⟨.pointer (some ⟨b, o + i * 2, none⟩), .pointer (some ⟨b, o + i * 2 + 1, none⟩), hidx, fun K => fA0r, fun K => fA1r, fun K => ?_, fun K => ?_⟩
    · simp only [Xo, shp_3]; exact view_cell hvw h1
    · simp only [Xo, shp_3]; exact view_cell hvw h2

theorem s104_callW [Tabs Try.prog] {args : List Value} {h : Zh} {Q : Value → Zh → Prop} (hsz : args.length ≤ 264) (hk : AWS Try.prog 264 s104 (Zs Try.prog [.tmp 6, .tmp 7] Q) (Zp 0 args) h) : ACall Try.prog 104 args h Q :=
  Ym Try.func104 rfl (enters_of Try.func104 (by kernel_rfl) rfl) rfl rfl (by decide) s104_strip s104_ok hsz hk
theorem rcorner_call [Tabs prog] {h : Zh} {n s : Nat} {v : Value} {l : List (Int × Int)} (hv : PairSl h v l) (hval : Xf n l = true) (hs1 : 1 ≤ s) (hs : s < 2 ^ n) :
    ACall prog 104 [Zc (n : Nat), v, Zc (s : Nat)] h fun r h' => Ext (fun _ => False) h h' ∧ ∃ x ok, r = .tuple #[x, .bool ok] ∧ (match Wg n l s with | none => ok = false ∧ x = .slice none 0 0 | some b => ok = true ∧ BelAt h' x b ∧ ∀ bl, Yh x = some bl → h.length ≤ bl) := by
  obtain ⟨hn2, hn5, hl1, hl6, hok⟩ := Vb hval
  have hcts := cts_of hval
  have hp32 : (2 : Nat) ^ n ≤ 2 ^ 5 := Nat.pow_le_pow_right (by decide) hn5
  refine s104_callW (by simp) ?_
  simp only [s104]
  refine Ze fun N1 hN1 => ?_
  simp (maxSteps := 2000000) only [↓Za, ↓Zb, ↓Zd, vup, cond_false, aop, Zf, Zp, ev, sput, Zg, Nat.reduceBEq, Nat.reduceAdd]
  refine hN1 [(0, Zc (n : Nat)), (1, v), (2, Zc (s : Nat)), (6, .slice none 0 0), (7, .bool false)] _ _ ?_ (by simp (maxSteps := 2000000) only [vup, cond_true, cond_false, Nat.reduceBEq])
  clear hN1
  try clear N1
  refine Ze fun N2 hN2 => ?_
  simp (maxSteps := 2000000) only [↓Za, ↓Zb, ↓Zd, vup, cond_false, aop, Zf, ev, sput, Zg, Nat.reduceBEq]
  refine hN2 [(0, Zc (n : Nat)), (1, v), (2, Zc (s : Nat)), (6, .slice none 0 0), (7, .bool false), (8, .slice none 0 0)] _ _ ?_ (by simp (maxSteps := 2000000) only [vup, cond_true, cond_false, Nat.reduceBEq])
  clear hN2
  try clear N2
  -- the worlds
  refine Zk fun X hX => ?_
  refine Ze fun N3 hN3 => ?_
  simp (maxSteps := 2000000) only [↓Za, ↓Zb, ↓Zd, vup, cond_true, cond_false, aop, Zf, ev, sput, Zg, Nat.reduceBEq]
  refine hN3 [(0, Zc (n : Nat)), (1, v), (2, Zc (s : Nat)), (6, .slice none 0 0), (7, .bool false), (8, .slice none 0 0), (30, Zc (n : Nat)), (31, .int .i64 0)] _ _ ?_ (by simp (maxSteps := 2000000) only [vup, cond_true, cond_false, Nat.reduceBEq])
  clear hN3
  try clear N3
  refine Zl ?_
  refine Zn fun Qa hQa => ?_
  refine Yj (γ := Nat × Value × Zh) (fun g => g.1 ≤ n ∧ OwnSl 3 g.2.2 g.2.1 (Vf (Ye s g.1)) ∧ Ext (fun _ => False) h g.2.2 ∧ (∀ b, Yh g.2.1 = some b → h.length ≤ b))
    (fun g => ([(0, Zc (n : Nat)), (1, v), (2, Zc (s : Nat)), (6, .slice none 0 0), (7, .bool false), (8, g.2.1), (30, Zc (n : Nat)), (31, Zc (g.1 : Nat))], g.2.2)) (fun g => n - g.1) (0, .slice none 0 0, h) ⟨Nat.zero_le _, .inl ⟨rfl, rfl⟩, Ext.refl _ _, fun b hb => by cases hb⟩ (by simp (maxSteps := 2000000) only [vup, cond_true, cond_false, Nat.reduceBEq, Int.natCast_zero]) rfl ?_
  rintro ⟨k, wv, G⟩ ⟨hk, how, hEG, hbw⟩
  simp only at hk how hEG hbw
  refine Zn fun Qb hQb => ?_
  simp only [l104_0]
  by_cases hkin : (k : Int) < n
  · have hk' : k < n := by omega
    have ht := testV (y := k) (show s < 9223372036854775808 by omega)
    have hnx := Xz s k
    refine Ze fun N4 hN4 => ?_
    simp (maxSteps := 2000000) only [↓Za, ↓Zb, ↓Zd, vup, cond_true, cond_false, aop, Zf, ev, sput, Zg, Yb, Yd, Nat.reduceBEq, hkin]
    refine hN4 [(0, Zc (n : Nat)), (1, v), (2, Zc (s : Nat)), (6, .slice none 0 0), (7, .bool false), (8, wv), (30, Zc (n : Nat)), (31, Zc (k : Nat)), (32, .bool true)] _ _ ?_ (by simp (maxSteps := 2000000) only [vup, cond_true, cond_false, Nat.reduceBEq])
    clear hN4
    try clear N4
    refine Ze fun N5 hN5 => ?_
    simp (maxSteps := 2000000) only [↓Zo, ↓vdn, vup, cond_true, cond_false, Zf, ev, Nat.reduceBEq]
    refine hN5 [(0, Zc (n : Nat)), (1, v), (2, Zc (s : Nat)), (6, .slice none 0 0), (7, .bool false), (8, wv), (30, Zc (n : Nat)), (31, Zc (k : Nat))] _ _ ?_ (by simp (maxSteps := 2000000) only [vup, cond_true, cond_false, Nat.reduceBEq])
    clear hN5
    try clear N5
    refine Zk fun B hB => ?_
    refine Zl ?_
    refine Ze fun N6 hN6 => ?_
    simp (maxSteps := 2000000) only [↓Za, ↓Zb, ↓Zd, vup, cond_true, cond_false, aop, Zf, ev, sput, Zg, Nat.reduceBEq]
    refine hN6 [(0, Zc (n : Nat)), (1, v), (2, Zc (s : Nat)), (6, .slice none 0 0), (7, .bool false), (8, wv), (9, Zc (k : Nat)), (30, Zc (n : Nat)), (31, Zc (k : Nat))] _ _ ?_ (by simp (maxSteps := 2000000) only [vup, cond_true, cond_false, Nat.reduceBEq])
    clear hN6
    try clear N6
    refine Ze fun N7 hN7 => ?_
    simp (maxSteps := 2000000) only [↓Za, ↓Zb, ↓Zd, vup, cond_true, cond_false, aop, Zf, ev, sput, Zg, Yb, Yd, Nat.reduceBEq, ht, beq1, Int.natCast_nonneg]
    refine hN7 [(0, Zc (n : Nat)), (1, v), (2, Zc (s : Nat)), (6, .slice none 0 0), (7, .bool false), (8, wv), (9, Zc (k : Nat)), (30, Zc (n : Nat)), (31, Zc (k : Nat)), (38, .bool (s.testBit k))] _ _ ?_ (by simp (maxSteps := 2000000) only [vup, cond_true, cond_false, Nat.reduceBEq])
    clear hN7
    try clear N7
    cases hbit : s.testBit k with
    | false =>
      rw [hbit, if_neg (by decide), List.append_nil] at hnx
      refine Yu rfl ?_
      refine Zi ?_
      simp (maxSteps := 2000000) only [↓Zo, Zf, Zm]
      refine hB [(0, Zc (n : Nat)), (1, v), (2, Zc (s : Nat)), (6, .slice none 0 0), (7, .bool false), (8, wv), (30, Zc (n : Nat)), (31, Zc (k : Nat))] _ _ ?_ (by simp (maxSteps := 2000000) only [vup, cond_true, cond_false, Nat.reduceBEq])
      clear hB
      try clear B
      refine Zi ?_
      simp (maxSteps := 2000000) only [↓Za, ↓Zb, ↓Zd, vup, cond_true, cond_false, aop, ev, sput, Zg, Yb, Yd, Nat.reduceBEq, add1 (show k < 9223372036854775807 by omega)]
      exact hQb _ _ _ ⟨(k + 1, wv, G), ⟨hk', by simp only; rw [hnx]; exact how, hEG, hbw⟩, by simp only; omega, by simp (maxSteps := 2000000) only [vup, cond_true, cond_false, Nat.reduceBEq], rfl⟩
    | true =>
      rw [hbit, if_pos rfl] at hnx
      refine Xj rfl ?_
      refine Zi ?_
      simp (maxSteps := 2000000) only [↓Za, ↓Zb, ↓Zd, vup, List.map_cons, List.map_nil, cond_true, cond_false, aop, Zf, Zm, ev, sput, Zg, Zj, Nat.reduceBEq, litI1]
      have hwl := Wz s k
      refine OwnSl.append (x := (k : Int)) (how.ext (S := fun _ => False) (Ext.app _ _ _) (fun _ _ => id)) app_38_38 (by rw [castI_len]; omega) (Zw _ _) ?_
      intro wv' G' ho' hE' hb'
      rw [← castI_snoc, ← hnx] at ho'
      obtain ⟨hEn, hbn⟩ := oExt (H' := G) hEG hbw _ hE' hb'
      refine hB [(0, Zc (n : Nat)), (1, v), (2, Zc (s : Nat)), (6, .slice none 0 0), (7, .bool false), (8, wv'), (30, Zc (n : Nat)), (31, Zc (k : Nat))] _ _ ?_ (by simp (maxSteps := 2000000) only [vup, cond_true, cond_false, Nat.reduceBEq])
      clear hB
      try clear B
      refine Zi ?_
      simp (maxSteps := 2000000) only [↓Za, ↓Zb, ↓Zd, vup, cond_true, cond_false, aop, ev, sput, Zg, Yb, Yd, Nat.reduceBEq, add1 (show k < 9223372036854775807 by omega)]
      exact hQb _ _ _ ⟨(k + 1, wv', G'), ⟨hk', ho', hEn, hbn⟩, by simp only; omega, by simp (maxSteps := 2000000) only [vup, cond_true, cond_false, Nat.reduceBEq], rfl⟩
  have hkn := Vw hkin hk
  subst hkn
  refine Ze fun N8 hN8 => ?_
  simp (maxSteps := 2000000) only [↓Za, ↓Zb, ↓Zd, vup, cond_true, cond_false, aop, Zf, ev, sput, Zg, Yb, Yd, Nat.reduceBEq, hkin]
  refine hN8 [(0, Zc (n : Nat)), (1, v), (2, Zc (s : Nat)), (6, .slice none 0 0), (7, .bool false), (8, wv), (30, Zc (n : Nat)), (31, Zc (n : Nat)), (32, .bool false)] _ _ ?_ (by simp (maxSteps := 2000000) only [vup, cond_true, cond_false, Nat.reduceBEq])
  clear hN8
  try clear N8
  refine Ze fun N9 hN9 => ?_
  simp (maxSteps := 2000000) only [↓Yo, ↓vdn, vup, cond_true, cond_false, Zf, ev, Nat.reduceBEq]
  refine hQb _ _ _ (hQa _ _ _ ?_)
  simp (maxSteps := 2000000) only [Zf, Zm, Zs, if_true]
  refine hX [(0, Zc (n : Nat)), (1, v), (2, Zc (s : Nat)), (6, .slice none 0 0), (7, .bool false), (8, wv)] _ _ ?_ (by simp (maxSteps := 2000000) only [vup, cond_true, cond_false, Nat.reduceBEq])
  clear hX
  try clear X
  clear hQa hQb
  obtain ⟨W, hW⟩ : ∃ W, W = Ye s n := ⟨_, rfl⟩
  have hWN : Yn n s = W := hW.symm
  have hWl : W.length ≤ n := by rw [hW]; exact Wz s n
  have hW1 : 1 ≤ W.length := by rw [← hWN]; exact worldsN_pos hs1 hs
  have hWlt : ∀ w ∈ W, w < n := fun w hw => (worldsTo_lt (by rw [← hW]; exact hw)).1
  have hsy := sysR_sy (n := n) hcts W
  have hcorner : Wg n l s = (Xn (l.length + 1) W.length (sysR n l W)).bind fun x => if x.any (fun q => decide (q < 0)) then none else some (Xk n W x W.length) := by rw [Wg, hWN, solve_R]
  rw [← hW] at how
  have hli : (Vf W).length = W.length := castI_len W
  obtain ⟨T, hT⟩ : ∃ T, T = sysR n l W := ⟨_, rfl⟩
  rw [← hT] at hsy hcorner
  clear hW
  refine Ze fun N10 hN10 => ?_
  simp (maxSteps := 2000000) only [↓Za, ↓Zb, ↓Zd, vup, cond_false, aop, Zf, ev, sput, Zg, Nat.reduceBEq]
  refine hN10 [(0, Zc (n : Nat)), (1, v), (2, Zc (s : Nat)), (6, .slice none 0 0), (7, .bool false), (8, wv), (10, .slice none 0 0)] _ _ ?_ (by simp (maxSteps := 2000000) only [vup, cond_true, cond_false, Nat.reduceBEq])
  clear hN10
  try clear N10
  -- the rows
  have al : addV .i64 ((l.length : Nat) : Int) 1 = ((l.length + 1 : Nat) : Int) := add1 (by omega)
  refine Zk fun X hX => ?_
  refine Ze fun N11 hN11 => ?_
  simp (maxSteps := 2000000) only [↓Za, ↓Zb, ↓Zd, vup, List.map_cons, List.map_nil, cond_true, cond_false, aop, Zf, ev, sput, Zg, Yb, Yd, Zj, Nat.reduceBEq, tyf, hv.len, al]
  refine hN11 [(0, Zc (n : Nat)), (1, v), (2, Zc (s : Nat)), (6, .slice none 0 0), (7, .bool false), (8, wv), (10, .slice none 0 0), (44, v), (45, Zc (l.length : Nat)), (46, Zc (l.length + 1 : Nat)), (47, .int .i64 0)] _ _ ?_ (by simp (maxSteps := 2000000) only [vup, cond_true, cond_false, Nat.reduceBEq])
  clear hN11
  try clear N11
  refine Zl ?_
  refine Zn fun Qa hQa => ?_
  refine Yj (γ := Nat × Value × List Value × Zh) (fun g => g.1 ≤ l.length + 1 ∧ g.2.2.1.length = g.1 ∧ RowsN G.length g.2.2.2 g.2.1 g.2.2.1 W.length T ∧ Ext (fun _ => False) G g.2.2.2)
    (fun g => ([(0, Zc (n : Nat)), (1, v), (2, Zc (s : Nat)), (6, .slice none 0 0), (7, .bool false), (8, wv), (10, g.2.1), (44, v), (45, Zc (l.length : Nat)), (46, Zc (l.length + 1 : Nat)), (47, Zc (g.1 : Nat))], g.2.2.2)) (fun g => l.length + 1 - g.1) (0, .slice none 0 0, [], G) ⟨Nat.zero_le _, rfl, .inl ⟨rfl, rfl⟩, Ext.refl _ _⟩ (by simp (maxSteps := 2000000) only [vup, cond_true, cond_false, Nat.reduceBEq, Int.natCast_zero]) rfl ?_
  rintro ⟨i, q, ws, H⟩ ⟨hi, hwsl, R, hEH⟩
  simp only at hi hwsl R hEH
  refine Zn fun Qb hQb => ?_
  simp only [l104_2]
  by_cases hiin : (i : Int) < ((l.length + 1 : Nat) : Int)
  · have hi' : i < l.length + 1 := by omega
    obtain ⟨⟨x, y⟩, hxy⟩ : ∃ p, l.getD i (0, 0) = p := ⟨_, rfl⟩
    have hTw : ∀ c, c < W.length → T i c = if i = l.length then 1 else bitQ x.toNat (W.getD c 0) := fun c hc => by
      rw [hT]
      simp only [sysR, sysB]
      by_cases h1 : i = l.length
      · simp only [h1, if_true, hc]
        rw [bitQ_all (hWlt _ (by rw [List.getD, List.getElem?_eq_getElem hc]; exact List.getElem_mem hc))]
      · simp only [h1, if_false, hc, if_true, Nat.add_sub_cancel, hxy]
        rw [if_neg (by omega)]
    have hTr : T i W.length = if i = l.length then 1 else Rat.divInt y 12 := by
      rw [hT]
      simp only [sysR, sysB]
      by_cases h1 : i = l.length
      · simp only [h1, if_true, Nat.lt_irrefl, if_false]
      · simp only [h1, if_false, Nat.lt_irrefl, Nat.add_sub_cancel, hxy]
        rw [if_neg (by omega)]
    have hsn : ∀ c, c ≤ W.length → (rowC T W.length i).take c ++ [((T i c).num, ((T i c).den : Int))] = (rowC T W.length i).take (c + 1) := fun c hc => by
      rw [take_snoc (d := ((0, 0) : Int × Int)) (show c < (rowC T W.length i).length by rw [Vo]; omega), rowC_get T hc]; rfl
    refine Ze fun N12 hN12 => ?_
    simp (maxSteps := 2000000) only [↓Za, ↓Zb, ↓Zd, vup, cond_true, cond_false, aop, Zf, ev, sput, Zg, Yb, Yd, Nat.reduceBEq, hiin]
    refine hN12 [(0, Zc (n : Nat)), (1, v), (2, Zc (s : Nat)), (6, .slice none 0 0), (7, .bool false), (8, wv), (10, q), (44, v), (45, Zc (l.length : Nat)), (46, Zc (l.length + 1 : Nat)), (47, Zc (i : Nat)), (48, .bool true)] _ _ ?_ (by simp (maxSteps := 2000000) only [vup, cond_true, cond_false, Nat.reduceBEq])
    clear hN12
    try clear N12
    refine Ze fun N13 hN13 => ?_
    simp (maxSteps := 2000000) only [↓Zo, ↓vdn, vup, cond_true, cond_false, Zf, ev, Nat.reduceBEq]
    refine hN13 [(0, Zc (n : Nat)), (1, v), (2, Zc (s : Nat)), (6, .slice none 0 0), (7, .bool false), (8, wv), (10, q), (44, v), (45, Zc (l.length : Nat)), (46, Zc (l.length + 1 : Nat)), (47, Zc (i : Nat))] _ _ ?_ (by simp (maxSteps := 2000000) only [vup, cond_true, cond_false, Nat.reduceBEq])
    clear hN13
    try clear N13
    refine Zk fun B hB => ?_
    refine Zl ?_
    refine Ze fun N14 hN14 => ?_
    simp (maxSteps := 2000000) only [↓Za, ↓Zb, ↓Zd, vup, cond_true, cond_false, aop, Zf, ev, sput, Zg, Nat.reduceBEq]
    refine hN14 [(0, Zc (n : Nat)), (1, v), (2, Zc (s : Nat)), (6, .slice none 0 0), (7, .bool false), (8, wv), (10, q), (11, Zc (i : Nat)), (44, v), (45, Zc (l.length : Nat)), (46, Zc (l.length + 1 : Nat)), (47, Zc (i : Nat))] _ _ ?_ (by simp (maxSteps := 2000000) only [vup, cond_true, cond_false, Nat.reduceBEq])
    clear hN14
    try clear N14
    refine Ze fun N15 hN15 => ?_
    simp (maxSteps := 2000000) only [↓Za, ↓Zb, ↓Zd, vup, cond_false, aop, Zf, ev, sput, Zg, Nat.reduceBEq]
    refine hN15 [(0, Zc (n : Nat)), (1, v), (2, Zc (s : Nat)), (6, .slice none 0 0), (7, .bool false), (8, wv), (10, q), (11, Zc (i : Nat)), (12, .slice none 0 0), (44, v), (45, Zc (l.length : Nat)), (46, Zc (l.length + 1 : Nat)), (47, Zc (i : Nat))] _ _ ?_ (by simp (maxSteps := 2000000) only [vup, cond_true, cond_false, Nat.reduceBEq])
    clear hN15
    try clear N15
    refine Zk fun C hC => ?_
    refine Ze fun N16 hN16 => ?_
    simp (maxSteps := 2000000) only [↓Za, ↓Zb, ↓Zd, vup, List.map_cons, List.map_nil, cond_true, cond_false, aop, Zf, ev, sput, Zg, Zj, Nat.reduceBEq, tyf, how.int.len, hli]
    refine hN16 [(0, Zc (n : Nat)), (1, v), (2, Zc (s : Nat)), (6, .slice none 0 0), (7, .bool false), (8, wv), (10, q), (11, Zc (i : Nat)), (12, .slice none 0 0), (44, v), (45, Zc (l.length : Nat)), (46, Zc (l.length + 1 : Nat)), (47, Zc (i : Nat)), (50, wv), (51, Zc (W.length : Nat)), (52, .int .i64 0)] _ _ ?_ (by simp (maxSteps := 2000000) only [vup, cond_true, cond_false, Nat.reduceBEq])
    clear hN16
    try clear N16
    refine Zl ?_
    refine Zn fun Qc hQc => ?_
    refine Yj (γ := Nat × Value × Zh) (fun g => g.1 ≤ W.length ∧ OwnP 26 g.2.2 g.2.1 ((rowC T W.length i).take g.1) ∧ Ext (fun _ => False) H g.2.2 ∧ ∀ b, Yh g.2.1 = some b → H.length ≤ b)
      (fun g => ([(0, Zc (n : Nat)), (1, v), (2, Zc (s : Nat)), (6, .slice none 0 0), (7, .bool false), (8, wv), (10, q), (11, Zc (i : Nat)), (12, g.2.1), (44, v), (45, Zc (l.length : Nat)), (46, Zc (l.length + 1 : Nat)), (47, Zc (i : Nat)), (50, wv), (51, Zc (W.length : Nat)), (52, Zc (g.1 : Nat))], g.2.2)) (fun g => W.length - g.1) (0, .slice none 0 0, H) ⟨Nat.zero_le _, .inl ⟨rfl, by simp⟩, Ext.refl _ _, fun b hb => by cases hb⟩ (by simp (maxSteps := 2000000) only [vup, cond_true, cond_false, Nat.reduceBEq, Int.natCast_zero]) rfl ?_
    rintro ⟨c, rv, F⟩ ⟨hc, ho, hEF, hbr⟩
    simp only at hc ho hEF hbr
    refine Zn fun Qd hQd => ?_
    simp only [l104_1]
    have hvF := hv.ext (hEG.trans (hEH.trans hEF))
    by_cases hcin : (c : Int) < W.length
    · have hc' : c < W.length := by omega
      have hcc : c < (Vf W).length := by omega
      have howF := iExt how.int (hEH.trans hEF)
      have hw : W.getD c 0 < n := hWlt _ (by rw [List.getD, List.getElem?_eq_getElem hc']; exact List.getElem_mem hc')
      have hTc := hTw c hc'
      have hsc := hsn c hc
      obtain ⟨w, hwe⟩ : ∃ w, W.getD c 0 = w := ⟨_, rfl⟩
      rw [hwe] at hw hTc
      refine Ze fun N17 hN17 => ?_
      simp (maxSteps := 2000000) only [↓Za, ↓Zb, ↓Zd, vup, cond_true, cond_false, aop, Zf, ev, sput, Zg, Yb, Yd, Nat.reduceBEq, hcin]
      refine hN17 [(0, Zc (n : Nat)), (1, v), (2, Zc (s : Nat)), (6, .slice none 0 0), (7, .bool false), (8, wv), (10, q), (11, Zc (i : Nat)), (12, rv), (44, v), (45, Zc (l.length : Nat)), (46, Zc (l.length + 1 : Nat)), (47, Zc (i : Nat)), (50, wv), (51, Zc (W.length : Nat)), (52, Zc (c : Nat)), (53, .bool true)] _ _ ?_ (by simp (maxSteps := 2000000) only [vup, cond_true, cond_false, Nat.reduceBEq])
      clear hN17
      try clear N17
      refine Ze fun N18 hN18 => ?_
      simp (maxSteps := 2000000) only [↓Zo, ↓vdn, vup, cond_true, cond_false, Zf, ev, Nat.reduceBEq]
      refine hN18 [(0, Zc (n : Nat)), (1, v), (2, Zc (s : Nat)), (6, .slice none 0 0), (7, .bool false), (8, wv), (10, q), (11, Zc (i : Nat)), (12, rv), (44, v), (45, Zc (l.length : Nat)), (46, Zc (l.length + 1 : Nat)), (47, Zc (i : Nat)), (50, wv), (51, Zc (W.length : Nat)), (52, Zc (c : Nat))] _ _ ?_ (by simp (maxSteps := 2000000) only [vup, cond_true, cond_false, Nat.reduceBEq])
      clear hN18
      try clear N18
      refine Zk fun D hD => ?_
      refine Zl ?_
      refine Ze fun N19 hN19 => ?_
      simp (maxSteps := 2000000) only [↓Za, ↓Zb, ↓Zd, vup, cond_true, cond_false, aop, Zf, ev, sput, Zg, Nat.reduceBEq, howF.idx el_38 esz_3 hcc, howF.load shp_3 hcc, castI_getD, hwe]
      refine hN19 [(0, Zc (n : Nat)), (1, v), (2, Zc (s : Nat)), (6, .slice none 0 0), (7, .bool false), (8, wv), (10, q), (11, Zc (i : Nat)), (12, rv), (14, Zc (w : Nat)), (44, v), (45, Zc (l.length : Nat)), (46, Zc (l.length + 1 : Nat)), (47, Zc (i : Nat)), (50, wv), (51, Zc (W.length : Nat)), (52, Zc (c : Nat))] _ _ ?_ (by simp (maxSteps := 2000000) only [vup, cond_true, cond_false, Nat.reduceBEq])
      clear hN19
      try clear N19
      have done : ∀ (z : Int), T i c = (z : Rat) → ∀ K : Value → Zh → Prop, (∀ rv' F', OwnP 26 F' rv' ((rowC T W.length i).take (c + 1)) → Ext (fun _ => False) H F' → (∀ b, Yh rv' = some b → H.length ≤ b) → K rv' F') → Xh prog (F ++ [.ints [z, 1] 26 false]) 47 47 rv (.slice (some ⟨F.length, 0, none⟩) 1 1) K := by
        intro z hz K hK
        refine OwnP.append (x := z) (y := 1) (ho.ext (Ext.app _ _ _)) app_47_47 (by simp; rw [Vo]; omega) (Zw _ _) ?_
        intro rv' F' ho' hE' hb'
        have e0 : (z, (1 : Int)) = ((T i c).num, ((T i c).den : Int)) := by rw [hz]; rfl
        rw [e0, hsc] at ho'
        obtain ⟨hEn, hbn⟩ := oExt (H' := F) hEF hbr _ hE' hb'
        exact hK rv' F' ho' hEn hbn
      have fin : ∀ rv' F', OwnP 26 F' rv' ((rowC T W.length i).take (c + 1)) → Ext (fun _ => False) H F' → (∀ b, Yh rv' = some b → H.length ≤ b) → ∀ e, ELe e [(0, Zc (n : Nat)), (1, v), (2, Zc (s : Nat)), (6, .slice none 0 0), (7, .bool false), (8, wv), (10, q), (11, Zc (i : Nat)), (12, rv'), (44, v), (45, Zc (l.length : Nat)), (46, Zc (l.length + 1 : Nat)), (47, Zc (i : Nat)), (50, wv), (51, Zc (W.length : Nat)), (52, Zc (c : Nat))] → D e F' := by
        intro rv' F' f1 f2 f3 e he
        refine hD _ _ _ ?_ he
        refine Zi ?_
        simp (maxSteps := 2000000) only [↓Za, ↓Zb, ↓Zd, vup, cond_true, cond_false, aop, ev, sput, Zg, Yb, Yd, Nat.reduceBEq, add1 (show c < 9223372036854775807 by omega)]
        exact hQd _ _ _ ⟨(c + 1, rv', F'), ⟨by simp only; omega, f1, f2, f3⟩, by simp only; omega, by simp (maxSteps := 2000000) only [vup, cond_true, cond_false, Nat.reduceBEq], rfl⟩
      have w1 : Xc prog 66 [Zc 1] F (qV (((1 : Int)) : Rat)) := rwhole_call
      have w0 : Xc prog 66 [Zc 0] F (qV (((0 : Int)) : Rat)) := rwhole_call
      have q1 : qV (((1 : Int)) : Rat) = .agg #[Zc 1, Zc 1] := rfl
      have q0 : qV (((0 : Int)) : Rat) = .agg #[Zc 0, Zc 1] := rfl
      by_cases hil : i = l.length
      · rw [if_pos hil] at hTc
        have heq : (((i : Nat) : Int) == ((l.length : Nat) : Int)) = true := by simp [hil]
        refine Ze fun N20 hN20 => ?_
        simp (maxSteps := 2000000) only [↓Za, ↓Zb, ↓Zd, ↓vdn, vup, List.map_cons, List.map_nil, cond_true, cond_false, aop, Zf, ev, sput, Zg, Yb, Yd, Zj, Nat.reduceBEq, tyf, hvF.len, heq]
        refine hN20 [(0, Zc (n : Nat)), (1, v), (2, Zc (s : Nat)), (6, .slice none 0 0), (7, .bool false), (8, wv), (10, q), (11, Zc (i : Nat)), (12, rv), (14, Zc (w : Nat)), (44, v), (45, Zc (l.length : Nat)), (46, Zc (l.length + 1 : Nat)), (47, Zc (i : Nat)), (50, wv), (51, Zc (W.length : Nat)), (52, Zc (c : Nat)), (70, .bool true)] _ _ ?_ (by simp (maxSteps := 2000000) only [vup, cond_true, cond_false, Nat.reduceBEq])
        clear hN20
        try clear N20
        refine Xj rfl ?_
        refine Zi ?_
        simp (maxSteps := 2000000) only [↓Za, ↓Zb, ↓Zd, vup, List.map_cons, List.map_nil, cond_true, cond_false, aop, Zf, Zm, ev, sput, Zg, Zj, Nat.reduceBEq, Yr, List.nil_append, List.append_nil]
        refine (w1).mono ?_
        rintro _ F ⟨rfl, rfl⟩
        simp (maxSteps := 2000000) only [q1, litF]
        refine done 1 hTc _ fun rv' F' f1 f2 f3 => ?_
        exact fin rv' F' f1 f2 f3 _ (by simp (maxSteps := 2000000) only [vup, cond_true, cond_false, Nat.reduceBEq])
      · rw [if_neg hil] at hTc
        have heq : (((i : Nat) : Int) == ((l.length : Nat) : Int)) = false := by rw [beq_eq_false_iff_ne]; omega
        have hil' : i < l.length := by omega
        have hb := hok i hil'
        rw [hxy] at hb
        simp only [okB, Bool.and_eq_true, decide_eq_true_eq] at hb
        obtain ⟨e, he⟩ : ∃ e : Nat, x = e := ⟨x.toNat, by omega⟩
        have he2 : (e : Int) < 2 ^ n := he ▸ hb.2.1
        have hee : e < 2 ^ n := by exact_mod_cast he2
        have ht := testV (y := w) (show e < 9223372036854775808 by omega)
        rw [he, Int.toNat_natCast, bitQ] at hTc
        obtain ⟨_, _, i0, i1, i2, i3, i4⟩ := pairFldsR hvF hil'
        rw [hxy, he] at i3
        cases hbit : e.testBit w with
        | true =>
          rw [hbit, if_pos rfl] at hTc ht
          refine Ze fun N21 hN21 => ?_
          simp (maxSteps := 2000000) only [↓Za, ↓Zb, ↓Zd, ↓vdn, vup, List.map_cons, List.map_nil, cond_true, cond_false, aop, Zf, ev, sput, Zg, Yb, Yd, Zj, Nat.reduceBEq, Int.reduceBEq, tyf, hvF.len, heq, i0, i1, i3, ht, Int.natCast_nonneg]
          refine hN21 [(0, Zc (n : Nat)), (1, v), (2, Zc (s : Nat)), (6, .slice none 0 0), (7, .bool false), (8, wv), (10, q), (11, Zc (i : Nat)), (12, rv), (14, Zc (w : Nat)), (44, v), (45, Zc (l.length : Nat)), (46, Zc (l.length + 1 : Nat)), (47, Zc (i : Nat)), (50, wv), (51, Zc (W.length : Nat)), (52, Zc (c : Nat)), (70, .bool true)] _ _ ?_ (by simp (maxSteps := 2000000) only [vup, cond_true, cond_false, Nat.reduceBEq])
          clear hN21
          try clear N21
          refine Xj rfl ?_
          refine Zi ?_
          simp (maxSteps := 2000000) only [↓Za, ↓Zb, ↓Zd, vup, List.map_cons, List.map_nil, cond_true, cond_false, aop, Zf, Zm, ev, sput, Zg, Zj, Nat.reduceBEq, Yr, List.nil_append, List.append_nil]
          refine (w1).mono ?_
          rintro _ F ⟨rfl, rfl⟩
          simp (maxSteps := 2000000) only [q1, litF]
          refine done 1 hTc _ fun rv' F' f1 f2 f3 => ?_
          exact fin rv' F' f1 f2 f3 _ (by simp (maxSteps := 2000000) only [vup, cond_true, cond_false, Nat.reduceBEq])
        | false =>
          rw [hbit, if_neg (by simp)] at hTc ht
          refine Ze fun N22 hN22 => ?_
          simp (maxSteps := 2000000) only [↓Za, ↓Zb, ↓Zd, ↓vdn, vup, List.map_cons, List.map_nil, cond_true, cond_false, aop, Zf, ev, sput, Zg, Yb, Yd, Zj, Nat.reduceBEq, Int.reduceBEq, tyf, hvF.len, heq, i0, i1, i3, ht, Int.natCast_nonneg]
          refine hN22 [(0, Zc (n : Nat)), (1, v), (2, Zc (s : Nat)), (6, .slice none 0 0), (7, .bool false), (8, wv), (10, q), (11, Zc (i : Nat)), (12, rv), (14, Zc (w : Nat)), (44, v), (45, Zc (l.length : Nat)), (46, Zc (l.length + 1 : Nat)), (47, Zc (i : Nat)), (50, wv), (51, Zc (W.length : Nat)), (52, Zc (c : Nat)), (70, .bool false)] _ _ ?_ (by simp (maxSteps := 2000000) only [vup, cond_true, cond_false, Nat.reduceBEq])
          clear hN22
          try clear N22
          refine Yu rfl ?_
          refine Zi ?_
          simp (maxSteps := 2000000) only [↓Za, ↓Zb, ↓Zd, vup, List.map_cons, List.map_nil, cond_true, cond_false, aop, Zf, Zm, ev, sput, Zg, Zj, Nat.reduceBEq, Yr, List.nil_append, List.append_nil]
          refine (w0).mono ?_
          rintro _ F ⟨rfl, rfl⟩
          simp (maxSteps := 2000000) only [q0, litF]
          refine done 0 hTc _ fun rv' F' f1 f2 f3 => ?_
          exact fin rv' F' f1 f2 f3 _ (by simp (maxSteps := 2000000) only [vup, cond_true, cond_false, Nat.reduceBEq])
    have hcc := Vw hcin hc
    subst hcc
    refine Ze fun N23 hN23 => ?_
    simp (maxSteps := 2000000) only [↓Za, ↓Zb, ↓Zd, vup, cond_true, cond_false, aop, Zf, ev, sput, Zg, Yb, Yd, Nat.reduceBEq, hcin]
    refine hN23 [(0, Zc (n : Nat)), (1, v), (2, Zc (s : Nat)), (6, .slice none 0 0), (7, .bool false), (8, wv), (10, q), (11, Zc (i : Nat)), (12, rv), (44, v), (45, Zc (l.length : Nat)), (46, Zc (l.length + 1 : Nat)), (47, Zc (i : Nat)), (50, wv), (51, Zc (W.length : Nat)), (52, Zc (W.length : Nat)), (53, .bool false)] _ _ ?_ (by simp (maxSteps := 2000000) only [vup, cond_true, cond_false, Nat.reduceBEq])
    clear hN23
    try clear N23
    refine Ze fun N24 hN24 => ?_
    simp (maxSteps := 2000000) only [↓Yo, ↓vdn, vup, cond_true, cond_false, Zf, ev, Nat.reduceBEq]
    refine hQd _ _ _ (hQc _ _ _ ?_)
    simp (maxSteps := 2000000) only [Zf, Zm, if_true]
    refine hC [(0, Zc (n : Nat)), (1, v), (2, Zc (s : Nat)), (6, .slice none 0 0), (7, .bool false), (8, wv), (10, q), (11, Zc (i : Nat)), (12, rv), (44, v), (45, Zc (l.length : Nat)), (46, Zc (l.length + 1 : Nat)), (47, Zc (i : Nat)), (53, .bool false)] _ _ ?_ (by simp (maxSteps := 2000000) only [vup, cond_true, cond_false, Nat.reduceBEq])
    clear hC
    try clear C
    have hsr := hsn W.length (Nat.le_refl _)
    have hfull : (rowC T W.length i).take (W.length + 1) = rowC T W.length i := List.take_of_length_le (by rw [Vo]; omega)
    rw [hfull] at hsr
    refine Zk fun E hE => ?_
    have put : ∀ rv' F', OwnP 26 F' rv' (rowC T W.length i) → Ext (fun _ => False) H F' → (∀ b, Yh rv' = some b → H.length ≤ b) → ∀ e, ELe e [(0, Zc (n : Nat)), (1, v), (2, Zc (s : Nat)), (6, .slice none 0 0), (7, .bool false), (8, wv), (10, q), (11, Zc (i : Nat)), (12, rv'), (44, v), (45, Zc (l.length : Nat)), (46, Zc (l.length + 1 : Nat)), (47, Zc (i : Nat)), (53, .bool false)] → E e F' := by
      intro rv' F' f1 f2 f3 e he
      refine hE _ _ _ ?_ he
      obtain ⟨bb, yy, hrv, -⟩ := Wd f1 Vv
      have lit0 : ∀ K : Value → Zh → Prop, Yp prog F' 94 1 [(0, rv')] K = K (.slice (some ⟨F'.length, 0, none⟩) 1 1) (F' ++ [.cells [rv'] 47 false]) := fun K => by rw [hrv]; exact litV el_94 zero_47 esz_47
      refine Zi ?_
      simp (maxSteps := 2000000) only [↓Za, ↓Zb, ↓Zd, vup, List.map_cons, List.map_nil, cond_true, cond_false, aop, Zf, Zm, ev, sput, Zg, Zj, Nat.reduceBEq, lit0]
      rw [← hwsl] at f1
      refine R.more (by omega) hEH.1 (f2.trans (Ext.app _ _ _)) (f1.ext (Ext.app _ _ _)) (fun b hb => f3 b hb) (Zw _ _) fun q' H' R' hEa hEb => ?_
      have hEn : Ext (fun _ => False) G H' := by
        have l1 := hEH.1
        have l2 := f2.1
        refine ⟨by have := hEa.1; rw [List.length_append] at this; omega, fun z hz _ => ?_⟩
        rw [hEa.2 z (by rw [List.length_append]; omega) (by omega), List.getElem?_append_left (by omega), f2.2 z (by omega) id]
        exact hEH.2 z hz id
      refine hB [(0, Zc (n : Nat)), (1, v), (2, Zc (s : Nat)), (6, .slice none 0 0), (7, .bool false), (8, wv), (10, q'), (44, v), (45, Zc (l.length : Nat)), (46, Zc (l.length + 1 : Nat)), (47, Zc (i : Nat)), (53, .bool false)] _ _ ?_ (by simp (maxSteps := 2000000) only [vup, cond_true, cond_false, Nat.reduceBEq])
      clear hB
      try clear B
      refine Zi ?_
      have ai : addV .i64 ((i : Nat) : Int) 1 = ((i + 1 : Nat) : Int) := add1 (by omega)
      simp (maxSteps := 2000000) only [↓Za, ↓Zb, ↓Zd, vup, cond_true, cond_false, aop, ev, sput, Zg, Yb, Yd, Nat.reduceBEq, ai]
      exact hQb _ _ _ ⟨(i + 1, q', ws ++ [rv'], H'), ⟨by simp only; omega, by simp [hwsl], R', hEn⟩, by simp only; omega, by simp (maxSteps := 2000000) only [vup, cond_true, cond_false, Nat.reduceBEq], rfl⟩
    have put1 : ∀ (z d : Int), T i W.length = Rat.divInt z d → z = (T i W.length).num → d = ((T i W.length).den : Int) → ∀ K : Value → Zh → Prop, (∀ rv' F', OwnP 26 F' rv' (rowC T W.length i) → Ext (fun _ => False) H F' → (∀ b, Yh rv' = some b → H.length ≤ b) → K rv' F') → Xh prog (F ++ [.ints [z, d] 26 false]) 47 47 rv (.slice (some ⟨F.length, 0, none⟩) 1 1) K := by
      intro z d _ hz hd K hK
      refine OwnP.append (x := z) (y := d) (ho.ext (Ext.app _ _ _)) app_47_47 (by simp; rw [Vo]; omega) (Zw _ _) ?_
      intro rv' F' ho' hE' hb'
      rw [hz, hd, hsr] at ho'
      obtain ⟨hEn, hbn⟩ := oExt (H' := F) hEF hbr _ hE' hb'
      exact hK rv' F' ho' hEn hbn
    by_cases hil : i = l.length
    · rw [if_pos hil] at hTr
      have heq : (((i : Nat) : Int) == ((l.length : Nat) : Int)) = true := by simp [hil]
      have w1 : Xc prog 66 [Zc 1] F (qV (((1 : Int)) : Rat)) := rwhole_call
      have q1 : qV (((1 : Int)) : Rat) = .agg #[Zc 1, Zc 1] := rfl
      refine Ze fun N25 hN25 => ?_
      simp (maxSteps := 2000000) only [↓Za, ↓Zb, ↓Zd, vup, List.map_cons, List.map_nil, cond_true, cond_false, aop, Zf, ev, sput, Zg, Yb, Yd, Zj, Nat.reduceBEq, tyf, hvF.len, heq]
      refine hN25 [(0, Zc (n : Nat)), (1, v), (2, Zc (s : Nat)), (6, .slice none 0 0), (7, .bool false), (8, wv), (10, q), (11, Zc (i : Nat)), (12, rv), (44, v), (45, Zc (l.length : Nat)), (46, Zc (l.length + 1 : Nat)), (47, Zc (i : Nat)), (53, .bool false), (83, .bool true)] _ _ ?_ (by simp (maxSteps := 2000000) only [vup, cond_true, cond_false, Nat.reduceBEq])
      clear hN25
      try clear N25
      refine Xj rfl ?_
      refine Zi ?_
      simp (maxSteps := 2000000) only [↓Za, ↓Zb, ↓Zd, vup, List.map_cons, List.map_nil, cond_true, cond_false, aop, Zf, ev, sput, Zg, Zj, Nat.reduceBEq, Yr, List.nil_append, List.append_nil]
      refine (w1).mono ?_
      rintro _ F ⟨rfl, rfl⟩
      simp (maxSteps := 2000000) only [q1, litF]
      refine put1 1 1 (by rw [hTr]; decide +kernel) (by rw [hTr]; rfl) (by rw [hTr]; rfl) _ fun rv' F' f1 f2 f3 => ?_
      exact put rv' F' f1 f2 f3 _ (by simp (maxSteps := 2000000) only [vup, cond_true, cond_false, Nat.reduceBEq])
    · rw [if_neg hil] at hTr
      have heq : (((i : Nat) : Int) == ((l.length : Nat) : Int)) = false := by rw [beq_eq_false_iff_ne]; omega
      have hil' : i < l.length := by omega
      have hb := hok i hil'
      rw [hxy] at hb
      simp only [okB, Bool.and_eq_true, decide_eq_true_eq] at hb
      obtain ⟨_, _, i0, i1, i2, i3, i4⟩ := pairFldsR hvF hil'
      rw [hxy] at i4
      have fr := rfrac_call (h := F) (a := y) (b := 12) (by decide) (by omega) (by decide)
      rw [← hTr] at fr
      obtain ⟨t, ht⟩ : ∃ t, T i W.length = t := ⟨_, rfl⟩
      rw [ht] at fr put1
      refine Ze fun N26 hN26 => ?_
      simp (maxSteps := 2000000) only [↓Za, ↓Zb, ↓Zd, vup, List.map_cons, List.map_nil, cond_true, cond_false, aop, Zf, ev, sput, Zg, Yb, Yd, Zj, Nat.reduceBEq, tyf, hvF.len, heq]
      refine hN26 [(0, Zc (n : Nat)), (1, v), (2, Zc (s : Nat)), (6, .slice none 0 0), (7, .bool false), (8, wv), (10, q), (11, Zc (i : Nat)), (12, rv), (44, v), (45, Zc (l.length : Nat)), (46, Zc (l.length + 1 : Nat)), (47, Zc (i : Nat)), (53, .bool false), (83, .bool false)] _ _ ?_ (by simp (maxSteps := 2000000) only [vup, cond_true, cond_false, Nat.reduceBEq])
      clear hN26
      try clear N26
      refine Yu rfl ?_
      refine Zi ?_
      simp (maxSteps := 2000000) only [↓Za, ↓Zb, ↓Zd, vup, List.map_cons, List.map_nil, cond_true, cond_false, aop, Zf, ev, sput, Zg, Zj, Nat.reduceBEq, Yr, List.nil_append, List.append_nil, i0, i2, i4]
      refine (fr).mono ?_
      rintro _ F ⟨rfl, rfl⟩
      simp (maxSteps := 2000000) only [qV, frV, litF]
      refine put1 t.num t.den (Rat.num_divInt_den t).symm rfl rfl _ fun rv' F' f1 f2 f3 => ?_
      exact put rv' F' f1 f2 f3 _ (by simp (maxSteps := 2000000) only [vup, cond_true, cond_false, Nat.reduceBEq])
  have hii := Vw hiin hi
  subst hii
  refine Ze fun N27 hN27 => ?_
  simp (maxSteps := 2000000) only [↓Za, ↓Zb, ↓Zd, vup, cond_true, cond_false, aop, Zf, ev, sput, Zg, Yb, Yd, Nat.reduceBEq, hiin]
  refine hN27 [(0, Zc (n : Nat)), (1, v), (2, Zc (s : Nat)), (6, .slice none 0 0), (7, .bool false), (8, wv), (10, q), (44, v), (45, Zc (l.length : Nat)), (46, Zc (l.length + 1 : Nat)), (47, Zc (l.length + 1 : Nat)), (48, .bool false)] _ _ ?_ (by simp (maxSteps := 2000000) only [vup, cond_true, cond_false, Nat.reduceBEq])
  clear hN27
  try clear N27
  refine Ze fun N28 hN28 => ?_
  simp (maxSteps := 2000000) only [↓Yo, ↓vdn, vup, cond_true, cond_false, Zf, ev, Nat.reduceBEq]
  refine hQb _ _ _ (hQa _ _ _ ?_)
  simp (maxSteps := 2000000) only [Zf, Zm, Zs, if_true]
  refine hX [(0, Zc (n : Nat)), (1, v), (2, Zc (s : Nat)), (6, .slice none 0 0), (7, .bool false), (8, wv), (10, q)] _ _ ?_ (by simp (maxSteps := 2000000) only [vup, cond_true, cond_false, Nat.reduceBEq])
  clear hX
  try clear X
  clear hQa hQb
  rcases R with ⟨rfl, _⟩ | ⟨R, hO⟩
  · simp at hwsl
  obtain ⟨B, C, hqe, hBC, hBp, M, hbkp⟩ := R.mat hO
  rw [hwsl] at hqe hBC M hbkp
  subst hqe
  have howH := iExt how.int hEH
  refine Ze fun N29 hN29 => ?_
  simp (maxSteps := 2000000) only [↓Za, ↓Zb, ↓Zd, vup, List.map_cons, List.map_nil, cond_true, cond_false, aop, Zf, ev, sput, Zg, Zj, Nat.reduceBEq, tyf, howH.len, hli]
  refine hN29 [(0, Zc (n : Nat)), (1, v), (2, Zc (s : Nat)), (6, .slice none 0 0), (7, .bool false), (8, wv), (10, .slice (some ⟨B, 0, some 0⟩) (l.length + 1) C), (15, Zc (W.length : Nat))] _ _ ?_ (by simp (maxSteps := 2000000) only [vup, cond_true, cond_false, Nat.reduceBEq])
  clear hN29
  try clear N29
  -- what elimination leaves of the heap
  have hbase : Ext (fun _ => False) h H := hEG.trans hEH
  have hkeep : ∀ G', Ext (Tch B (l.length + 1) fun i => bkOf (ws.getD i undef)) H G' → Ext (fun _ => False) h G' ∧ IntSl G' wv (Vf W) := fun G' hEs => by
    have l1 := hEG.1
    have hBk : ∀ b, Tch B (l.length + 1) (fun i => bkOf (ws.getD i undef)) b → G.length ≤ b := fun b hb => by
      rcases hb with rfl | ⟨j, hj, rfl⟩
      · exact hBp
      · exact hbkp j hj
    refine ⟨⟨by have := hbase.1; have := hEs.1; omega, fun z hz _ => ?_⟩, howH.same fun b hb => ?_⟩
    · rw [hEs.2 z (by have := hbase.1; omega) (fun hc => by have := hBk z hc; omega)]
      exact hbase.2 z hz id
    · have hlt : b < G.length := how.int.lt hb
      exact hEs.2 b (howH.lt hb) (fun hc => by have := hBk b hc; omega)
  refine relim_call M hBC (by omega) (by omega) hW1 (by omega) hsy (fun h0 e G' e1 e2 e3 => ?_) fun S w bk G' hrun MS e1 e2 => ?_
  · rw [hcorner, h0, Option.bind_none]
    simp (maxSteps := 2000000) only [Zs, Xw, tup, e2, e3]
    exact ⟨(hkeep G' e1).1, _, _, rfl, rfl, rfl⟩
  obtain ⟨hE', how'⟩ := hkeep G' e1
  clear hkeep e1 e2 R hO M howH hbase
  have hkm : W.length ≤ l.length + 1 := by
    obtain ⟨π, g⟩ := elim_gi hrun
    exact g.jm
  have hs104 := sy_sml hsy (show W.length ≤ 5 by omega) (Nat.le_refl _) hrun
  obtain ⟨m, hm⟩ : ∃ m, l.length + 1 = m := ⟨_, rfl⟩
  rw [hm] at MS hkm hrun hs104 hcorner hBC ⊢
  have hm7 : m ≤ 7 := by omega
  have idxJ : ∀ {i : Nat} {K : Value → Prop}, i < m → Yx prog 94 (.slice (some ⟨B, 0, some 0⟩) m C) (Zc (i : Nat)) K = K (.pointer (some ⟨B, i, none⟩)) := fun {i K} hi => Mat.idxN i hi
  -- the rows below
  refine Zk fun X hX => ?_
  refine Ze fun N30 hN30 => ?_
  simp (maxSteps := 2000000) only [↓Za, ↓Zb, ↓Zd, vup, List.map_cons, List.map_nil, cond_true, cond_false, aop, Zf, ev, sput, Zg, Zj, Nat.reduceBEq, tyf, Option.map_some, Option.map_none]
  refine MS.tailN2 hkm (by omega) hBC fun v' hvl hvi hvld => ?_
  simp (maxSteps := 2000000) only [hvl]
  refine hN30 [(0, Zc (n : Nat)), (1, v), (2, Zc (s : Nat)), (6, .slice none 0 0), (7, .bool false), (8, wv), (10, .slice (some ⟨B, 0, some 0⟩) m C), (15, Zc (W.length : Nat)), (211, v'), (212, Zc (m - W.length : Nat)), (213, .int .i64 0)] _ _ ?_ (by simp (maxSteps := 2000000) only [vup, cond_true, cond_false, Nat.reduceBEq])
  clear hN30
  try clear N30
  refine Zl ?_
  refine Zn fun Qa hQa => ?_
  refine Yj (γ := Nat) (fun i => i ≤ m - W.length ∧ ∀ i', i' < i → S (W.length + i') W.length = 0)
    (fun i => ([(0, Zc (n : Nat)), (1, v), (2, Zc (s : Nat)), (6, .slice none 0 0), (7, .bool false), (8, wv), (10, .slice (some ⟨B, 0, some 0⟩) m C), (15, Zc (W.length : Nat)), (211, v'), (212, Zc (m - W.length : Nat)), (213, Zc (i : Nat))], G')) (fun i => m - W.length - i) 0 ⟨Nat.zero_le _, fun i hi => by omega⟩ (by simp (maxSteps := 2000000) only [vup, cond_true, cond_false, Nat.reduceBEq, Int.natCast_zero]) rfl ?_
  rintro i ⟨hi, hz⟩
  refine Zn fun Qb hQb => ?_
  simp only [l104_8]
  by_cases hiin : (i : Int) < ((m - W.length : Nat) : Int)
  · have hi' : i < m - W.length := by omega
    have him : W.length + i < m := by omega
    refine Ze fun N31 hN31 => ?_
    simp (maxSteps := 2000000) only [↓Za, ↓Zb, ↓Zd, vup, cond_true, cond_false, aop, Zf, ev, sput, Zg, Yb, Yd, Nat.reduceBEq, hiin]
    refine hN31 [(0, Zc (n : Nat)), (1, v), (2, Zc (s : Nat)), (6, .slice none 0 0), (7, .bool false), (8, wv), (10, .slice (some ⟨B, 0, some 0⟩) m C), (15, Zc (W.length : Nat)), (211, v'), (212, Zc (m - W.length : Nat)), (213, Zc (i : Nat)), (214, .bool true)] _ _ ?_ (by simp (maxSteps := 2000000) only [vup, cond_true, cond_false, Nat.reduceBEq])
    clear hN31
    try clear N31
    refine Ze fun N32 hN32 => ?_
    simp (maxSteps := 2000000) only [↓Zo, ↓vdn, vup, cond_true, cond_false, Zf, ev, Nat.reduceBEq]
    refine hN32 [(0, Zc (n : Nat)), (1, v), (2, Zc (s : Nat)), (6, .slice none 0 0), (7, .bool false), (8, wv), (10, .slice (some ⟨B, 0, some 0⟩) m C), (15, Zc (W.length : Nat)), (211, v'), (212, Zc (m - W.length : Nat)), (213, Zc (i : Nat))] _ _ ?_ (by simp (maxSteps := 2000000) only [vup, cond_true, cond_false, Nat.reduceBEq])
    clear hN32
    try clear N32
    refine Zk fun U hU => ?_
    refine Zl ?_
    refine Ze fun N33 hN33 => ?_
    simp (maxSteps := 2000000) only [↓Za, ↓Zb, ↓Zd, vup, cond_true, cond_false, aop, Zf, ev, sput, Zg, Nat.reduceBEq, hvi i hi', hvld i hi']
    refine hN33 [(0, Zc (n : Nat)), (1, v), (2, Zc (s : Nat)), (6, .slice none 0 0), (7, .bool false), (8, wv), (10, .slice (some ⟨B, 0, some 0⟩) m C), (15, Zc (W.length : Nat)), (25, w (W.length + i)), (211, v'), (212, Zc (m - W.length : Nat)), (213, Zc (i : Nat))] _ _ ?_ (by simp (maxSteps := 2000000) only [vup, cond_true, cond_false, Nat.reduceBEq])
    clear hN33
    try clear N33
    have hbe : ((S (W.length + i) W.length).num != 0) = decide (S (W.length + i) W.length ≠ 0) := by
      rw [Bool.eq_iff_iff]
      simp [Rat.num_eq_zero]
    refine Ze fun N34 hN34 => ?_
    simp (maxSteps := 2000000) only [↓Za, ↓Zb, ↓Zd, vup, cond_true, cond_false, aop, Zf, ev, sput, Zg, Yb, Yd, Nat.reduceBEq, tyf, MS.idxR him (Nat.le_refl _), fA0o, MS.loadN him (Nat.le_refl _), hbe]
    refine hN34 [(0, Zc (n : Nat)), (1, v), (2, Zc (s : Nat)), (6, .slice none 0 0), (7, .bool false), (8, wv), (10, .slice (some ⟨B, 0, some 0⟩) m C), (15, Zc (W.length : Nat)), (25, w (W.length + i)), (211, v'), (212, Zc (m - W.length : Nat)), (213, Zc (i : Nat)), (222, .bool (decide (S (W.length + i) W.length ≠ 0)))] _ _ ?_ (by simp (maxSteps := 2000000) only [vup, cond_true, cond_false, Nat.reduceBEq])
    clear hN34
    try clear N34
    by_cases h0 : S (W.length + i) W.length = 0
    · have hd : decide (S (W.length + i) W.length ≠ 0) = false := by simpa using h0
      rw [hd]
      refine Yu rfl ?_
      refine Zi ?_
      simp (maxSteps := 2000000) only [↓Zo, Zf, Zm]
      refine hU [(0, Zc (n : Nat)), (1, v), (2, Zc (s : Nat)), (6, .slice none 0 0), (7, .bool false), (8, wv), (10, .slice (some ⟨B, 0, some 0⟩) m C), (15, Zc (W.length : Nat)), (211, v'), (212, Zc (m - W.length : Nat)), (213, Zc (i : Nat))] _ _ ?_ (by simp (maxSteps := 2000000) only [vup, cond_true, cond_false, Nat.reduceBEq])
      clear hU
      try clear U
      refine Zi ?_
      simp (maxSteps := 2000000) only [↓Za, ↓Zb, ↓Zd, vup, cond_true, cond_false, aop, ev, sput, Zg, Yb, Yd, Nat.reduceBEq, add1 (show i < 9223372036854775807 by omega)]
      refine hQb _ _ _ ⟨i + 1, ⟨by omega, fun i' h1 => ?_⟩, by omega, by simp (maxSteps := 2000000) only [vup, cond_true, cond_false, Nat.reduceBEq], rfl⟩
      rcases Nat.lt_or_ge i' i with h2 | h2
      · exact hz i' h2
      · rw [show i' = i by omega]; exact h0
    · have hd : decide (S (W.length + i) W.length ≠ 0) = true := by simpa using h0
      rw [hd]
      refine Xj rfl ?_
      refine Zi ?_
      simp (maxSteps := 2000000) only [↓Za, ↓Zr, ↓Zv, ↓Zb, ↓Zd, vup, cond_true, cond_false, aop, Zf, Zm, ev, sput, Zg, Nat.reduceBEq]
      refine hQb _ _ _ (hQa _ _ _ ?_)
      simp (maxSteps := 2000000) only [vup, cond_true, cond_false, Zf, Zm, Nat.reduceBEq, Zs, Xw, tup]
      rw [hcorner, rest_none hrun him h0, Option.bind_none]
      exact ⟨hE', _, _, rfl, rfl, rfl⟩
  have hii := Vw hiin hi
  subst hii
  refine Ze fun N35 hN35 => ?_
  simp (maxSteps := 2000000) only [↓Za, ↓Zb, ↓Zd, vup, cond_true, cond_false, aop, Zf, ev, sput, Zg, Yb, Yd, Nat.reduceBEq, hiin]
  refine hN35 [(0, Zc (n : Nat)), (1, v), (2, Zc (s : Nat)), (6, .slice none 0 0), (7, .bool false), (8, wv), (10, .slice (some ⟨B, 0, some 0⟩) m C), (15, Zc (W.length : Nat)), (211, v'), (212, Zc (m - W.length : Nat)), (213, Zc (m - W.length : Nat)), (214, .bool false)] _ _ ?_ (by simp (maxSteps := 2000000) only [vup, cond_true, cond_false, Nat.reduceBEq])
  clear hN35
  try clear N35
  refine Ze fun N36 hN36 => ?_
  simp (maxSteps := 2000000) only [↓Yo, ↓vdn, vup, cond_true, cond_false, Zf, ev, Nat.reduceBEq]
  refine hQb _ _ _ (hQa _ _ _ ?_)
  simp (maxSteps := 2000000) only [Zf, Zm, Zs, if_true]
  refine hX [(0, Zc (n : Nat)), (1, v), (2, Zc (s : Nat)), (6, .slice none 0 0), (7, .bool false), (8, wv), (10, .slice (some ⟨B, 0, some 0⟩) m C), (15, Zc (W.length : Nat)), (214, .bool false)] _ _ ?_ (by simp (maxSteps := 2000000) only [vup, cond_true, cond_false, Nat.reduceBEq])
  clear hX
  try clear X
  clear hQa hQb hvl hvi hvld
  rw [rest_some hrun hz, Option.bind_some] at hcorner
  obtain ⟨xs, hxs⟩ : ∃ xs, ((List.range W.length).map fun i => S i W.length) = xs := ⟨_, rfl⟩
  have hxl : xs.length = W.length := by rw [← hxs]; simp
  have hxg : ∀ c, c < W.length → xs.getD c 0 = S c W.length := fun c hc => by rw [← hxs, List.getD, List.getElem?_map, List.getElem?_range hc]; rfl
  rw [hxs] at hcorner
  clear hz
  -- the belief
  have hmk : ∀ {K : Value → Zh → Prop}, makeK prog G' 47 (Zc n) (Zc n) K = K (.slice (some ⟨G'.length, 0, none⟩) n n) (G' ++ [.cells ((Yk (List.replicate n (0, 0))).map Zc) 26 false]) := fun {K} => makeP el_47 zero_26 info_26 rfl (by omega)
  refine Ze fun N37 hN37 => ?_
  simp (maxSteps := 2000000) only [↓Za, ↓Zb, ↓Zd, vup, cond_true, cond_false, aop, Zf, ev, sput, Zg, Nat.reduceBEq, hmk]
  refine hN37 [(0, Zc (n : Nat)), (1, v), (2, Zc (s : Nat)), (6, .slice none 0 0), (7, .bool false), (8, wv), (10, .slice (some ⟨B, 0, some 0⟩) m C), (15, Zc (W.length : Nat)), (26, .slice (some ⟨G'.length, 0, none⟩) n n), (214, .bool false)] _ _ ?_ (by simp (maxSteps := 2000000) only [vup, cond_true, cond_false, Nat.reduceBEq])
  clear hN37
  try clear N37
  refine Zk fun X hX => ?_
  refine Ze fun N38 hN38 => ?_
  simp (maxSteps := 2000000) only [↓Za, ↓Zb, ↓Zd, vup, List.map_cons, List.map_nil, cond_true, cond_false, aop, Zf, ev, sput, Zg, Zj, Nat.reduceBEq, tyf, lenK]
  refine hN38 [(0, Zc (n : Nat)), (1, v), (2, Zc (s : Nat)), (6, .slice none 0 0), (7, .bool false), (8, wv), (10, .slice (some ⟨B, 0, some 0⟩) m C), (15, Zc (W.length : Nat)), (26, .slice (some ⟨G'.length, 0, none⟩) n n), (214, .bool false), (226, .slice (some ⟨G'.length, 0, none⟩) n n), (227, Zc (n : Nat)), (228, .int .i64 0)] _ _ ?_ (by simp (maxSteps := 2000000) only [vup, cond_true, cond_false, Nat.reduceBEq])
  clear hN38
  try clear N38
  refine Zl ?_
  refine Zn fun Qa hQa => ?_
  refine Yj (γ := Nat) (fun k => k ≤ n)
    (fun k => ([(0, Zc (n : Nat)), (1, v), (2, Zc (s : Nat)), (6, .slice none 0 0), (7, .bool false), (8, wv), (10, .slice (some ⟨B, 0, some 0⟩) m C), (15, Zc (W.length : Nat)), (26, .slice (some ⟨G'.length, 0, none⟩) n n), (214, .bool false), (226, .slice (some ⟨G'.length, 0, none⟩) n n), (227, Zc (n : Nat)), (228, Zc (k : Nat))], G' ++ [.cells ((Yk (List.replicate k ((0 : Int), (1 : Int)) ++ List.replicate (n - k) (0, 0))).map Zc) 26 false])) (fun k => n - k) 0 (Nat.zero_le _) (by simp (maxSteps := 2000000) only [vup, cond_true, cond_false, Nat.reduceBEq, Int.natCast_zero]) (by simp) ?_
  rintro k hk
  refine Zn fun Qb hQb => ?_
  simp only [l104_9]
  by_cases hkin : (k : Int) < n
  · have hk' : k < n := by omega
    obtain ⟨P, hP⟩ : ∃ P, P = List.replicate k ((0 : Int), (1 : Int)) ++ List.replicate (n - k) (0, 0) := ⟨_, rfl⟩
    have hPl : P.length = n := by rw [hP]; simp; omega
    have hset := set_replicate hk'
    rw [← hP] at hset ⊢
    have pS := Vt (e := 26) (ro := false) (Zw G' (.cells ((Yk P).map Zc) 26 false))
    rw [hPl] at pS
    refine Ze fun N39 hN39 => ?_
    simp (maxSteps := 2000000) only [↓Za, ↓Zb, ↓Zd, vup, cond_true, cond_false, aop, Zf, ev, sput, Zg, Yb, Yd, Nat.reduceBEq, hkin]
    refine hN39 [(0, Zc (n : Nat)), (1, v), (2, Zc (s : Nat)), (6, .slice none 0 0), (7, .bool false), (8, wv), (10, .slice (some ⟨B, 0, some 0⟩) m C), (15, Zc (W.length : Nat)), (26, .slice (some ⟨G'.length, 0, none⟩) n n), (214, .bool false), (226, .slice (some ⟨G'.length, 0, none⟩) n n), (227, Zc (n : Nat)), (228, Zc (k : Nat)), (229, .bool true)] _ _ ?_ (by simp (maxSteps := 2000000) only [vup, cond_true, cond_false, Nat.reduceBEq])
    clear hN39
    try clear N39
    refine Ze fun N40 hN40 => ?_
    simp (maxSteps := 2000000) only [↓Zo, ↓vdn, vup, cond_true, cond_false, Zf, ev, Nat.reduceBEq]
    refine hN40 [(0, Zc (n : Nat)), (1, v), (2, Zc (s : Nat)), (6, .slice none 0 0), (7, .bool false), (8, wv), (10, .slice (some ⟨B, 0, some 0⟩) m C), (15, Zc (W.length : Nat)), (26, .slice (some ⟨G'.length, 0, none⟩) n n), (214, .bool false), (226, .slice (some ⟨G'.length, 0, none⟩) n n), (227, Zc (n : Nat)), (228, Zc (k : Nat))] _ _ ?_ (by simp (maxSteps := 2000000) only [vup, cond_true, cond_false, Nat.reduceBEq])
    clear hN40
    try clear N40
    refine Zk fun U hU => ?_
    refine Zl ?_
    refine Ze fun N41 hN41 => ?_
    simp (maxSteps := 2000000) only [↓Za, ↓Zb, ↓Zd, vup, cond_true, cond_false, aop, Zf, ev, sput, Zg, Nat.reduceBEq]
    refine hN41 [(0, Zc (n : Nat)), (1, v), (2, Zc (s : Nat)), (6, .slice none 0 0), (7, .bool false), (8, wv), (10, .slice (some ⟨B, 0, some 0⟩) m C), (15, Zc (W.length : Nat)), (26, .slice (some ⟨G'.length, 0, none⟩) n n), (27, Zc (k : Nat)), (214, .bool false), (226, .slice (some ⟨G'.length, 0, none⟩) n n), (227, Zc (n : Nat)), (228, Zc (k : Nat))] _ _ ?_ (by simp (maxSteps := 2000000) only [vup, cond_true, cond_false, Nat.reduceBEq])
    clear hN41
    try clear N41
    refine Zi ?_
    have hnb : (G' ++ [Blk.cells ((Yk P).map Zc) 26 false])[G'.length]? = some (.cells ((Yk P).map Zc) 26 false) := Zw _ _
    have hst : ∀ {K : Zh → Prop}, Xx prog (G' ++ [Blk.cells ((Yk P).map Zc) 26 false]) 26 (.pointer (some ⟨G'.length, k * 2, none⟩)) (.agg #[Zc 0, Zc 1]) K = K (G' ++ [Blk.cells ((Yk (P.set k (0, 1))).map Zc) 26 false]) := fun {K} => by
      rw [storePC hnb Vu (by omega), Wb]
    have q0 : qV ((0 : Int) : Rat) = .agg #[Zc 0, Zc 1] := rfl
    simp (maxSteps := 2000000) only [↓Za, ↓Zb, ↓Zd, vup, List.map_cons, List.map_nil, cond_true, cond_false, aop, Zf, Zm, ev, sput, Zg, Nat.reduceBEq, Yr, List.nil_append, List.append_nil]
    refine ((show Xc prog 66 [.int .i64 0] (G' ++ [.cells ((Yk P).map Zc) 26 false]) (qV ((0 : Int) : Rat)) from rwhole_call)).mono ?_
    rintro _ H3 ⟨rfl, hH3⟩
    subst hH3
    simp (maxSteps := 2000000) only [pS.idx el_47 Wr (show k < P.length by omega), elemP_pair, q0, hst, hset]
    refine hU [(0, Zc (n : Nat)), (1, v), (2, Zc (s : Nat)), (6, .slice none 0 0), (7, .bool false), (8, wv), (10, .slice (some ⟨B, 0, some 0⟩) m C), (15, Zc (W.length : Nat)), (26, .slice (some ⟨G'.length, 0, none⟩) n n), (214, .bool false), (226, .slice (some ⟨G'.length, 0, none⟩) n n), (227, Zc (n : Nat)), (228, Zc (k : Nat))] _ _ ?_ (by simp (maxSteps := 2000000) only [vup, cond_true, cond_false, Nat.reduceBEq])
    clear hU
    try clear U
    refine Zi ?_
    simp (maxSteps := 2000000) only [↓Za, ↓Zb, ↓Zd, vup, cond_true, cond_false, aop, ev, sput, Zg, Yb, Yd, Nat.reduceBEq, add1 (show k < 9223372036854775807 by omega)]
    exact hQb _ _ _ ⟨k + 1, hk', by omega, by simp (maxSteps := 2000000) only [vup, cond_true, cond_false, Nat.reduceBEq], rfl⟩
  have hkk := Vw hkin hk
  subst hkk
  refine Ze fun N42 hN42 => ?_
  simp (maxSteps := 2000000) only [↓Za, ↓Zb, ↓Zd, vup, cond_true, cond_false, aop, Zf, ev, sput, Zg, Yb, Yd, Nat.reduceBEq, hkin]
  refine hN42 [(0, Zc (n : Nat)), (1, v), (2, Zc (s : Nat)), (6, .slice none 0 0), (7, .bool false), (8, wv), (10, .slice (some ⟨B, 0, some 0⟩) m C), (15, Zc (W.length : Nat)), (26, .slice (some ⟨G'.length, 0, none⟩) n n), (214, .bool false), (226, .slice (some ⟨G'.length, 0, none⟩) n n), (227, Zc (n : Nat)), (228, Zc (n : Nat)), (229, .bool false)] _ _ ?_ (by simp (maxSteps := 2000000) only [vup, cond_true, cond_false, Nat.reduceBEq])
  clear hN42
  try clear N42
  refine Ze fun N43 hN43 => ?_
  simp (maxSteps := 2000000) only [↓Yo, ↓vdn, vup, cond_true, cond_false, Zf, ev, Nat.reduceBEq]
  refine hQb _ _ _ (hQa _ _ _ ?_)
  simp (maxSteps := 2000000) only [Zf, Zm, Zs, if_true, Nat.sub_self, List.replicate_zero, List.append_nil]
  refine hX [(0, Zc (n : Nat)), (1, v), (2, Zc (s : Nat)), (6, .slice none 0 0), (7, .bool false), (8, wv), (10, .slice (some ⟨B, 0, some 0⟩) m C), (15, Zc (W.length : Nat)), (26, .slice (some ⟨G'.length, 0, none⟩) n n), (214, .bool false), (229, .bool false)] _ _ ?_ (by simp (maxSteps := 2000000) only [vup, cond_true, cond_false, Nat.reduceBEq])
  clear hX
  try clear X
  clear hQa hQb
  -- filled
  obtain ⟨F, hF⟩ : ∃ F : Nat → Zh, F = fun k => G' ++ [.cells ((Yk ((Xk n W xs k).map ofQ)).map Zc) 26 false] := ⟨_, rfl⟩
  have hF0 : ∀ k, (F k)[G'.length]? = some (.cells ((Yk ((Xk n W xs k).map ofQ)).map Zc) 26 false) := fun k => by rw [hF]; exact Zw _ _
  have hFE : ∀ k, Ext (fun _ => False) G' (F k) := fun k => by rw [hF]; exact Ext.app _ _ _
  have hFs : ∀ k, (F k).set G'.length (.cells ((Yk ((Xk n W xs (k + 1)).map ofQ)).map Zc) 26 false) = F (k + 1) := fun k => by
    simp only [hF]; rw [Wb]
  have hF1 : G' ++ [.cells ((Yk (List.replicate n ((0 : Int), (1 : Int)))).map Zc) 26 false] = F 0 := by
    rw [hF]; simp only [Xk, List.map_replicate]; rfl
  rw [hF1]
  have howF : ∀ k, IntSl (F k) wv (Vf W) := fun k => iExt how' (hFE k)
  have MF : ∀ k, Mat (F k) B m W.length w bk S := fun k => MS.ext (hFE k)
  refine Zk fun X hX => ?_
  refine Ze fun N44 hN44 => ?_
  simp (maxSteps := 2000000) only [↓Za, ↓Zb, ↓Zd, vup, List.map_cons, List.map_nil, cond_true, cond_false, aop, Zf, ev, sput, Zg, Zj, Nat.reduceBEq, tyf, (howF 0).len, hli]
  refine hN44 [(0, Zc (n : Nat)), (1, v), (2, Zc (s : Nat)), (6, .slice none 0 0), (7, .bool false), (8, wv), (10, .slice (some ⟨B, 0, some 0⟩) m C), (15, Zc (W.length : Nat)), (26, .slice (some ⟨G'.length, 0, none⟩) n n), (214, .bool false), (229, .bool false), (236, wv), (237, Zc (W.length : Nat)), (238, .int .i64 0)] _ _ ?_ (by simp (maxSteps := 2000000) only [vup, cond_true, cond_false, Nat.reduceBEq])
  clear hN44
  try clear N44
  refine Zl ?_
  refine Zn fun Qa hQa => ?_
  refine Yj (γ := Nat) (fun k => k ≤ W.length ∧ ∀ c, c < k → ¬ S c W.length < 0) (fun k => ([(0, Zc (n : Nat)), (1, v), (2, Zc (s : Nat)), (6, .slice none 0 0), (7, .bool false), (8, wv), (10, .slice (some ⟨B, 0, some 0⟩) m C), (15, Zc (W.length : Nat)), (26, .slice (some ⟨G'.length, 0, none⟩) n n), (214, .bool false), (229, .bool false), (236, wv), (237, Zc (W.length : Nat)), (238, Zc (k : Nat))], F k)) (fun k => W.length - k) 0 ⟨Nat.zero_le _, fun c hc => by omega⟩ (by simp (maxSteps := 2000000) only [vup, cond_true, cond_false, Nat.reduceBEq, Int.natCast_zero]) rfl ?_
  rintro k ⟨hk, hnn⟩
  refine Zn fun Qb hQb => ?_
  simp only [l104_10]
  by_cases hkin : (k : Int) < W.length
  · have hk' : k < W.length := by omega
    have hkc : k < (Vf W).length := by omega
    have hkm' : k < m := by omega
    have hw : W.getD k 0 < n := hWlt _ (by rw [List.getD, List.getElem?_eq_getElem hk']; exact List.getElem_mem hk')
    have hslen : ((Xk n W xs k).map ofQ).length = n := by rw [List.length_map, Ws]
    have pF := Vt (hF0 k)
    rw [hslen] at pF
    have hwS : W.getD k 0 < ((Xk n W xs k).map ofQ).length := by rw [hslen]; exact hw
    have hst : ∀ K : Zh → Prop, Xx prog (F k) 26 (.pointer (some ⟨G'.length, W.getD k 0 * 2, none⟩)) (qV (S k W.length)) K = K (F (k + 1)) := fun K => by
      rw [← hxg k hk']
      rw [qV, frV, storePC (hF0 k) Vu hwS, ← hFs k, Xk, List.map_set]; rfl
    have hneg : decide ((S k W.length).num < 0) = decide (S k W.length < 0) := by
      refine decide_eq_decide.2 ?_
      rw [← Rat.not_le, ← Rat.num_nonneg]; omega
    refine Ze fun N45 hN45 => ?_
    simp (maxSteps := 2000000) only [↓Za, ↓Zb, ↓Zd, vup, cond_true, cond_false, aop, Zf, ev, sput, Zg, Yb, Yd, Nat.reduceBEq, hkin]
    refine hN45 [(0, Zc (n : Nat)), (1, v), (2, Zc (s : Nat)), (6, .slice none 0 0), (7, .bool false), (8, wv), (10, .slice (some ⟨B, 0, some 0⟩) m C), (15, Zc (W.length : Nat)), (26, .slice (some ⟨G'.length, 0, none⟩) n n), (214, .bool false), (229, .bool false), (236, wv), (237, Zc (W.length : Nat)), (238, Zc (k : Nat)), (239, .bool true)] _ _ ?_ (by simp (maxSteps := 2000000) only [vup, cond_true, cond_false, Nat.reduceBEq])
    clear hN45
    try clear N45
    refine Ze fun N46 hN46 => ?_
    simp (maxSteps := 2000000) only [↓Zo, ↓vdn, vup, cond_true, cond_false, Zf, ev, Nat.reduceBEq]
    refine hN46 [(0, Zc (n : Nat)), (1, v), (2, Zc (s : Nat)), (6, .slice none 0 0), (7, .bool false), (8, wv), (10, .slice (some ⟨B, 0, some 0⟩) m C), (15, Zc (W.length : Nat)), (26, .slice (some ⟨G'.length, 0, none⟩) n n), (214, .bool false), (229, .bool false), (236, wv), (237, Zc (W.length : Nat)), (238, Zc (k : Nat))] _ _ ?_ (by simp (maxSteps := 2000000) only [vup, cond_true, cond_false, Nat.reduceBEq])
    clear hN46
    try clear N46
    refine Zk fun U hU => ?_
    refine Zl ?_
    refine Ze fun N47 hN47 => ?_
    simp (maxSteps := 2000000) only [↓Za, ↓Zb, ↓Zd, vup, cond_true, cond_false, aop, Zf, ev, sput, Zg, Nat.reduceBEq, (howF k).idx el_38 esz_3 hkc, (howF k).load shp_3 hkc, castI_getD]
    refine hN47 [(0, Zc (n : Nat)), (1, v), (2, Zc (s : Nat)), (6, .slice none 0 0), (7, .bool false), (8, wv), (10, .slice (some ⟨B, 0, some 0⟩) m C), (15, Zc (W.length : Nat)), (26, .slice (some ⟨G'.length, 0, none⟩) n n), (28, Zc (k : Nat)), (29, Zc (W.getD k 0 : Nat)), (214, .bool false), (229, .bool false), (236, wv), (237, Zc (W.length : Nat)), (238, Zc (k : Nat))] _ _ ?_ (by simp (maxSteps := 2000000) only [vup, cond_true, cond_false, Nat.reduceBEq])
    clear hN47
    try clear N47
    refine Zk fun D hD => ?_
    refine Ze fun N48 hN48 => ?_
    simp (maxSteps := 2000000) only [↓Za, ↓Zb, ↓Zd, vup, cond_true, cond_false, aop, Zf, ev, sput, Zg, Yb, Yd, Nat.reduceBEq, tyf, idxJ hkm', (MF k).loadRow hkm', (MF k).idxR hkm' (Nat.le_refl _), fA0o, (MF k).loadN hkm' (Nat.le_refl _), hneg]
    refine hN48 [(0, Zc (n : Nat)), (1, v), (2, Zc (s : Nat)), (6, .slice none 0 0), (7, .bool false), (8, wv), (10, .slice (some ⟨B, 0, some 0⟩) m C), (15, Zc (W.length : Nat)), (26, .slice (some ⟨G'.length, 0, none⟩) n n), (28, Zc (k : Nat)), (29, Zc (W.getD k 0 : Nat)), (214, .bool false), (229, .bool false), (236, wv), (237, Zc (W.length : Nat)), (238, Zc (k : Nat)), (251, .bool (decide (S k W.length < 0)))] _ _ ?_ (by simp (maxSteps := 2000000) only [vup, cond_true, cond_false, Nat.reduceBEq])
    clear hN48
    try clear N48
    by_cases h0 : S k W.length < 0
    · rw [decide_eq_true h0]
      refine Xj rfl ?_
      refine Zi ?_
      simp (maxSteps := 2000000) only [↓Za, ↓Zr, ↓Zv, ↓Zb, ↓Zd, vup, cond_true, cond_false, aop, Zf, Zm, ev, sput, Zg, Nat.reduceBEq]
      refine hQb _ _ _ (hQa _ _ _ ?_)
      simp (maxSteps := 2000000) only [vup, cond_true, cond_false, Zf, Zm, Nat.reduceBEq, Zs, Xw, tup]
      have : (xs.any fun q => decide (q < 0)) = true := by
        rw [List.any_eq_true]
        have hkx : k < xs.length := by omega
        refine ⟨xs[k], List.getElem_mem hkx, ?_⟩
        have := hxg k hk'
        rw [List.getD, List.getElem?_eq_getElem hkx, Option.getD_some] at this
        rw [this]; simpa using h0
      rw [hcorner, this, if_pos rfl]
      exact ⟨hE'.trans (hFE k), _, _, rfl, rfl, rfl⟩
    · rw [decide_eq_false h0]
      refine Yu rfl ?_
      refine Zi ?_
      simp (maxSteps := 2000000) only [↓Zo, Zf]
      refine hD [(0, Zc (n : Nat)), (1, v), (2, Zc (s : Nat)), (6, .slice none 0 0), (7, .bool false), (8, wv), (10, .slice (some ⟨B, 0, some 0⟩) m C), (15, Zc (W.length : Nat)), (26, .slice (some ⟨G'.length, 0, none⟩) n n), (28, Zc (k : Nat)), (29, Zc (W.getD k 0 : Nat)), (214, .bool false), (229, .bool false), (236, wv), (237, Zc (W.length : Nat)), (238, Zc (k : Nat))] _ _ ?_ (by simp (maxSteps := 2000000) only [vup, cond_true, cond_false, Nat.reduceBEq])
      clear hD
      try clear D
      refine Zi ?_
      simp (maxSteps := 2000000) only [↓Za, ↓Zb, ↓Zd, vup, cond_true, cond_false, aop, Zf, Zm, ev, sput, Zg, Nat.reduceBEq, idxJ hkm', (MF k).loadRow hkm', (MF k).idxR hkm' (Nat.le_refl _), (MF k).loadE hkm' (Nat.le_refl _), pF.idx el_47 Wr hwS, elemP_pair, hst]
      refine hU [(0, Zc (n : Nat)), (1, v), (2, Zc (s : Nat)), (6, .slice none 0 0), (7, .bool false), (8, wv), (10, .slice (some ⟨B, 0, some 0⟩) m C), (15, Zc (W.length : Nat)), (26, .slice (some ⟨G'.length, 0, none⟩) n n), (214, .bool false), (229, .bool false), (236, wv), (237, Zc (W.length : Nat)), (238, Zc (k : Nat))] _ _ ?_ (by simp (maxSteps := 2000000) only [vup, cond_true, cond_false, Nat.reduceBEq])
      clear hU
      try clear U
      refine Zi ?_
      simp (maxSteps := 2000000) only [↓Za, ↓Zb, ↓Zd, vup, cond_true, cond_false, aop, ev, sput, Zg, Yb, Yd, Nat.reduceBEq, add1 (show k < 9223372036854775807 by omega)]
      refine hQb _ _ _ ⟨k + 1, ⟨hk', fun c hc => ?_⟩, by omega, by simp (maxSteps := 2000000) only [vup, cond_true, cond_false, Nat.reduceBEq], rfl⟩
      rcases Nat.lt_or_ge c k with h2 | h2
      · exact hnn c h2
      · rw [show c = k by omega]; exact h0
  have hkk := Vw hkin hk
  subst hkk
  refine Ze fun N49 hN49 => ?_
  simp (maxSteps := 2000000) only [↓Za, ↓Zb, ↓Zd, vup, cond_true, cond_false, aop, Zf, ev, sput, Zg, Yb, Yd, Nat.reduceBEq, hkin]
  refine hN49 [(0, Zc (n : Nat)), (1, v), (2, Zc (s : Nat)), (6, .slice none 0 0), (7, .bool false), (8, wv), (10, .slice (some ⟨B, 0, some 0⟩) m C), (15, Zc (W.length : Nat)), (26, .slice (some ⟨G'.length, 0, none⟩) n n), (214, .bool false), (229, .bool false), (236, wv), (237, Zc (W.length : Nat)), (238, Zc (W.length : Nat)), (239, .bool false)] _ _ ?_ (by simp (maxSteps := 2000000) only [vup, cond_true, cond_false, Nat.reduceBEq])
  clear hN49
  try clear N49
  refine Ze fun N50 hN50 => ?_
  simp (maxSteps := 2000000) only [↓Yo, ↓vdn, vup, cond_true, cond_false, Zf, ev, Nat.reduceBEq]
  refine hQb _ _ _ (hQa _ _ _ ?_)
  simp (maxSteps := 2000000) only [Zf, Zm, Zs, if_true]
  refine hX [(0, Zc (n : Nat)), (1, v), (2, Zc (s : Nat)), (6, .slice none 0 0), (7, .bool false), (8, wv), (10, .slice (some ⟨B, 0, some 0⟩) m C), (15, Zc (W.length : Nat)), (26, .slice (some ⟨G'.length, 0, none⟩) n n), (214, .bool false), (229, .bool false), (239, .bool false)] _ _ ?_ (by simp (maxSteps := 2000000) only [vup, cond_true, cond_false, Nat.reduceBEq])
  clear hX
  try clear X
  have hany : (xs.any fun q => decide (q < 0)) = false := by
    rw [← Bool.not_eq_true, List.any_eq_true]
    rintro ⟨q, hq, hlt⟩
    obtain ⟨c, hc, rfl⟩ := List.getElem_of_mem hq
    have := hxg c (by omega)
    rw [List.getD, List.getElem?_eq_getElem hc, Option.getD_some] at this
    rw [this] at hlt
    exact hnn c (by omega) (by simpa using hlt)
  refine Zi ?_
  simp (maxSteps := 2000000) only [↓Za, ↓Zr, ↓Zv, ↓Zb, ↓Zd, vup, cond_true, cond_false, aop, Zf, ev, sput, Zg, Nat.reduceBEq, Zs, Xw, tup]
  rw [hcorner, hany, if_neg (by simp)]
  refine ⟨hE'.trans (hFE W.length), _, _, rfl, rfl, ⟨G'.length, by rw [Ws], hF0 _⟩, fun bl hbl => ?_⟩
  cases hbl
  exact hE'.1
end Go.Proofs.Try.Am
