/-
  ranks: the pairs that the best order goes against, turned, leave no cycle.
  Printed by gen.py: the code of some functions, without what no step looks at; held against the program's own by the kernel.
  ranks: the loops of RanksLeast: neighbours, and the pairs that an order goes against.
  ranks: the loops of RanksLeast, walked (draft).
  ranks: slices.Compare of two slices of ints.
  ranks: the first best order, as the program finds it: a table of what the players who are left bring.
  ranks: what a player brings.
  ranks: the first best order, as the program finds it.
  ranks: the first best order, read out of the table; Order.
  Printed by gen.py: the code of some functions, without what no step looks at; held against the program's own by the kernel.
-/
import Derived.Test.YtemmcfeekpblkaaDoorPk7
import Derived.Test.YtemmcfeekpblkaaDoorPk3
import Derived.Test.YtemmcfeekpblkaaDoorProg
import Derived.KernelRfl
import Derived.Shelf.Abstract
import Derived.Test.YtemmcfeekpblkaaDoorPk5
set_option linter.all false
namespace Go.Proofs.Tryd.Am
open Go.Am Rb
set_option maxRecDepth 100000
set_option maxHeartbeats 1000000

def mm (p : Nat × Nat) : Int × Int := (((min p.1 p.2 : Nat) : Int), ((max p.1 p.2 : Nat) : Int))
def turnL (xs os : List Int) : List (Int × Int) := (bp (bb xs) [] (nl os)).map mm
theorem mm_eq {u v x y : Nat} (h : mm (u, v) = mm (x, y)) : (u = x ∧ v = y) ∨ (u = y ∧ v = x) := by
  simp only [mm, Prod.mk.injEq] at h
  omega
theorem hit_mm {i j x y : Nat} (hij : i < j) (hxy : x ≠ y) : hit i j x y = decide (mm (x, y) = ((i : Int), (j : Int))) := by
  rw [hit]
  by_cases h1 : x = i ∧ y = j
  · rw [decide_eq_true h1, decide_eq_false (fun e => by omega), decide_eq_true]; rfl
    simp only [mm, Prod.mk.injEq]; omega
  · rw [decide_eq_false h1]
    by_cases h2 : x = j ∧ y = i
    · rw [decide_eq_true h2, decide_eq_true]; rfl
      simp only [mm, Prod.mk.injEq]; omega
    · rw [decide_eq_false h2, decide_eq_false]; rfl
      simp only [mm, Prod.mk.injEq]; omega
theorem par_mem {n : Nat} {ps : List (Int × Int)} {x y : Nat} (hxy : x ≠ y) : ∀ k, k ≤ ps.length → (∀ i, i < k → okK n ps i = true) → par ps x y k = decide (mm (x, y) ∈ ps.take k)
  | 0, _, _ => by rw [par, List.take_zero]; rfl
  | k + 1, hk, h => by
    have hk2 := h k (by omega)
    rw [okK, Bool.and_eq_true, Bool.not_eq_true'] at hk2
    obtain ⟨i, j, hp, hij, hj⟩ := okPr_nat hk2.1
    have e : ps.take (k + 1) = ps.take k ++ [ps.getD k (0, 0)] := by
      rw [List.take_succ_eq_append_getElem (by omega), List.getD, List.getElem?_eq_getElem (by omega), Option.getD_some]
    have hno : ((i : Int), (j : Int)) ∉ ps.take k := fun hm => by
      have := hk2.2
      rw [hp, List.contains_eq_mem, decide_eq_false_iff_not] at this
      exact this hm
    rw [par, par_mem hxy k (by omega) fun i hi => h i (by omega), e, hp, hit_mm (by simpa using hij) hxy]
    simp only [Int.toNat_natCast]
    by_cases h1 : mm (x, y) = ((i : Int), (j : Int))
    · rw [decide_eq_true h1, decide_eq_false (by rw [h1]; exact hno), decide_eq_true (by rw [h1]; simp)]; rfl
    · rw [decide_eq_false h1, Bool.xor_false]
      exact decide_eq_decide.2 ⟨fun hm => List.mem_append.2 (.inl hm), fun hm => (List.mem_append.1 hm).resolve_right fun e => h1 (List.mem_singleton.1 e)⟩
section
variable {xs os : List Int}
theorem bp_mem (ht : trn xs = true) (ho : isOrd xs.length os = true) {u v : Nat} : (u, v) ∈ bp (bb xs) [] (nl os) ↔ u < xs.length ∧ v < xs.length ∧ u ≠ v ∧ bb xs u v = true ∧ (nl os).idxOf v < (nl os).idxOf u := by
  obtain ⟨h1, h2, h3⟩ := isOrd_iff.1 ho
  have hlt : ∀ z, z ∈ nl os → z < xs.length := fun z hz => by
    obtain ⟨w, hw, rfl⟩ := List.mem_map.1 hz
    have := h2 w hw
    omega
  constructor
  · intro h
    obtain ⟨g1, g2, g3, g4⟩ := bp_out (nl os) [] h3 h
    rcases g4 with g4 | ⟨g4, g5⟩
    · cases g4
    · exact ⟨hlt u g1, hlt v g4, g3, g2, g5⟩
  · rintro ⟨g1, g2, g3, g4, g5⟩
    exact bp_in (nl os) [] (ord_mem ho g1) g3 g4 (.inr ⟨ord_mem ho g2, g5⟩)
theorem bp_nodup {b : Nat → Nat → Bool} : ∀ (l pre : List Nat), (pre ++ l).Nodup → (bp b pre l).Nodup
  | [], _, _ => List.nodup_nil
  | x :: l, pre, hd => by
    have hd2 : ((pre ++ [x]) ++ l).Nodup := by simpa using hd
    have hxl : x ∉ l := (List.nodup_cons.1 (List.nodup_append.1 hd).2.1).1
    rw [bp]
    refine List.nodup_append.2 ⟨?_, bp_nodup l _ hd2, fun p hp q hq e => ?_⟩
    · refine List.pairwise_map.2 (((List.nodup_append.1 hd).1.filter _).imp fun h e => h ?_)
      injection e
    · subst e
      obtain ⟨y, hy, rfl⟩ := List.mem_map.1 hp
      exact hxl (bp_out l _ hd2 hq).1
theorem turnL_nodup (ht : trn xs = true) (ho : isOrd xs.length os = true) : (turnL xs os).Nodup := by
  obtain ⟨h1, h2, h3⟩ := isOrd_iff.1 ho
  refine List.pairwise_map.2 ((bp_nodup (nl os) [] h3).imp_of_mem fun {p q} hp hq hne e => ?_)
  obtain ⟨u, v⟩ := p
  obtain ⟨x, y⟩ := q
  have g1 := (bp_mem ht ho).1 hp
  have g2 := (bp_mem ht ho).1 hq
  rcases mm_eq e with ⟨rfl, rfl⟩ | ⟨rfl, rfl⟩
  · exact hne rfl
  · omega
theorem turnL_ok (ht : trn xs = true) (ho : isOrd xs.length os = true) : okPs xs.length (turnL xs os) = true := by
  have hl := trn_len ht
  have hnd := turnL_nodup ht ho
  have hmem : ∀ p ∈ turnL xs os, ∃ i j : Nat, p = ((i : Int), (j : Int)) ∧ i < j ∧ j < xs.length := fun p hp => by
    obtain ⟨⟨u, v⟩, hq, rfl⟩ := List.mem_map.1 hp
    have := (bp_mem ht ho).1 hq
    exact ⟨min u v, max u v, rfl, by omega, by omega⟩
  rw [okPs, Bool.and_eq_true, List.all_eq_true, decide_eq_true_eq]
  refine ⟨fun k hk => ?_, ?_⟩
  · have hk := List.mem_range.1 hk
    have e : (turnL xs os).getD k (0, 0) = (turnL xs os)[k] := by rw [List.getD, List.getElem?_eq_getElem hk, Option.getD_some]
    obtain ⟨i, j, hp, hij, hj⟩ := hmem _ (List.getElem_mem hk)
    rw [okK, Bool.and_eq_true, Bool.not_eq_true', List.contains_eq_mem, decide_eq_false_iff_not, e]
    refine ⟨by rw [hp, okPr]; simp; omega, fun hm => ?_⟩
    obtain ⟨m, hm1, hm2⟩ := List.getElem_of_mem hm
    rw [List.getElem_take] at hm2
    have := (List.getElem_inj hnd).1 hm2
    rw [List.length_take] at hm1; omega
  · have h28 : ∀ n, n ≤ 8 → ((List.range n).flatMap fun (j : Nat) => (List.range j).map fun (i : Nat) => ((i : Int), (j : Int))).length ≤ 28 := by
      intro n hn
      have : n = 0 ∨ n = 1 ∨ n = 2 ∨ n = 3 ∨ n = 4 ∨ n = 5 ∨ n = 6 ∨ n = 7 ∨ n = 8 := by omega
      rcases this with rfl | rfl | rfl | rfl | rfl | rfl | rfl | rfl | rfl <;> decide
    refine Nat.le_trans (nodup_le hnd fun p hp => ?_) (h28 xs.length hl.2)
    obtain ⟨i, j, rfl, hij, hj⟩ := hmem p hp
    exact List.mem_flatMap.2 ⟨j, List.mem_range.2 hj, List.mem_map.2 ⟨i, List.mem_range.2 hij, rfl⟩⟩
theorem turnL_len (ht : trn xs = true) (ho : isOrd xs.length os = true) : (turnL xs os).length = agTo xs os os.length := by
  rw [turnL, List.length_map, bp_len, (agTo_back (trn_len ht).2 ho).1]
theorem turnL_none (ht : trn xs = true) (ho : isOrd xs.length os = true) : trn (turnTo xs (turnL xs os) (turnL xs os).length) = true ∧ cA (turnTo xs (turnL xs os) (turnL xs os).length) xs.length = [] := by
  have hok := turnL_ok ht ho
  obtain ⟨h1, h2, h3⟩ := isOrd_iff.1 ho
  rw [okPs, Bool.and_eq_true, List.all_eq_true] at hok
  have hk : ∀ i, i < (turnL xs os).length → okK xs.length (turnL xs os) i = true := fun i hi => hok.1 i (List.mem_range.2 hi)
  have hpr : ∀ i, i < (turnL xs os).length → okPr xs.length ((turnL xs os).getD i (0, 0)) = true := fun i hi => by
    have := hk i hi
    rw [okK, Bool.and_eq_true] at this
    exact this.1
  have ht2 := turn_trn ht hpr
  have hlen := turn_len xs (turnL xs os) (turnL xs os).length
  refine ⟨ht2, ?_⟩
  have := cA_none (xs := turnTo xs (turnL xs os) (turnL xs os).length) (os := os) ht2 (by rw [hlen]; exact ho) ?_
  · rw [hlen] at this; exact this
  refine back_zero _ [] (fun _ h => by cases h) (List.pairwise_iff_getElem.2 fun i j hi hj hij => ?_)
  have hlt : ∀ (m : Nat) (hm : m < (nl os).length), (nl os)[m] < xs.length := fun m hm => by
    obtain ⟨w, hw, e⟩ := List.mem_map.1 (List.getElem_mem hm)
    have := h2 w hw
    omega
  have hne : (nl os)[j] ≠ (nl os)[i] := fun e => by
    have := (List.getElem_inj h3).1 e
    omega
  have ei := h3.idxOf_getElem i hi
  have ej := h3.idxOf_getElem j hj
  rw [turn_bb _ _ _ hpr, par_mem hne _ (Nat.le_refl _) hk, List.take_length]
  generalize hx : (nl os)[i] = x at *
  generalize hy : (nl os)[j] = y at *
  have hxn : x < xs.length := hx ▸ hlt i hi
  have hyn : y < xs.length := hy ▸ hlt j hj
  cases hb : bb xs y x with
  | true =>
    rw [decide_eq_true]; rfl
    exact List.mem_map.2 ⟨(y, x), (bp_mem ht ho).2 ⟨hyn, hxn, hne, hb, by omega⟩, rfl⟩
  | false =>
    rw [decide_eq_false]; rfl
    intro hm
    obtain ⟨⟨u, v⟩, hq, e⟩ := List.mem_map.1 hm
    have g := (bp_mem ht ho).1 hq
    rcases mm_eq e with ⟨rfl, rfl⟩ | ⟨rfl, rfl⟩
    · rw [g.2.2.2.1] at hb; cases hb
    · omega
end
end Go.Proofs.Tryd.Am

namespace Go.Proofs.Tryd.Am
open Go.Am
set_option maxRecDepth 100000
/-! 11: planchet planchetlaw02.RanksLeast -/
@[reducible] def q11_0 : SCode := .region [⟨some 4, .assign (.const (.bool false)), none⟩]
@[reducible] def q11_1 : SCode := .region [⟨some 21, .move (.tmp 0), none⟩,
    ⟨some 22, .call { callee := .value (.func 19), args := #[.tmp 21], argTypes := #[22] }, none⟩,
    ⟨some 23, .call { callee := .value (.func 38), args := #[.tmp 22], argTypes := #[22] }, none⟩,
    ⟨some 20, .move (.tmp 23), none⟩,
    ⟨some 24, .extract (.tmp 20) 0, none⟩,
    ⟨some 25, .extract (.tmp 20) 1, none⟩,
    ⟨some 5, .assign (.tmp 24), none⟩,
    ⟨some 6, .assign (.tmp 25), none⟩]
@[reducible] def q11_2 : SCode := .region [⟨some 27, .move (.tmp 0), none⟩,
    ⟨some 28, .call { callee := .value (.func 19), args := #[.tmp 27], argTypes := #[22] }, none⟩,
    ⟨some 29, .call { callee := .value (.func 31), args := #[.tmp 28], argTypes := #[22] }, none⟩,
    ⟨some 26, .move (.tmp 29), none⟩,
    ⟨some 30, .extract (.tmp 26) 0, none⟩,
    ⟨some 31, .extract (.tmp 26) 1, none⟩,
    ⟨some 7, .assign (.tmp 30), none⟩,
    ⟨some 8, .assign (.tmp 31), none⟩]
@[reducible] def q11_3 : SCode := .region [⟨some 32, .move (.tmp 6), none⟩,
    ⟨some 33, .binOp .neq 23 (.tmp 32) (.const (.int .i64 0)) 23, none⟩,
    ⟨some 34, .move (.tmp 33), none⟩,
    ⟨some 35, .move (.tmp 0), some (34, false)⟩,
    ⟨some 36, .call { callee := .value (.func 20), args := #[.tmp 35], argTypes := #[22] }, some (34, false)⟩,
    ⟨some 37, .unOp .not 4 (.tmp 36), some (34, false)⟩,
    ⟨some 38, .pick (.tmp 34) (.const (.bool true)) (.tmp 37), none⟩]
@[reducible] def q11_4 : SCode := .region [⟨some 39, .move (.tmp 6), none⟩,
    ⟨some 40, .binOp .eql 23 (.tmp 39) (.const (.int .i64 2)) 23, none⟩,
    ⟨some 41, .move (.tmp 40), none⟩,
    ⟨some 42, .move (.tmp 8), some (41, true)⟩,
    ⟨some 43, .binOp .eql 23 (.tmp 42) (.const (.int .i64 2)) 23, some (41, true)⟩,
    ⟨some 44, .pick (.tmp 41) (.tmp 43) (.const (.bool false)), none⟩,
    ⟨some 45, .move (.tmp 44), none⟩,
    ⟨some 46, .call { callee := .value (.func 21), args := #[], argTypes := #[] }, some (45, true)⟩,
    ⟨some 47, .pick (.tmp 45) (.tmp 46) (.const (.bool false)), none⟩,
    ⟨some 4, .assign (.tmp 47), none⟩]
@[reducible] def q11_5 : SCode := .region [⟨some 49, .move (.tmp 0), none⟩,
    ⟨some 50, .call { callee := .value (.func 19), args := #[.tmp 49], argTypes := #[22] }, none⟩,
    ⟨some 51, .move (.tmp 5), none⟩,
    ⟨some 52, .call { callee := .value (.func 46), args := #[.tmp 51], argTypes := #[22] }, none⟩,
    ⟨some 53, .call { callee := .value (.func 37), args := #[.tmp 50, .tmp 52], argTypes := #[22, 22] }, none⟩,
    ⟨some 48, .move (.tmp 53), none⟩,
    ⟨some 54, .extract (.tmp 48) 0, none⟩,
    ⟨some 55, .extract (.tmp 48) 1, none⟩,
    ⟨some 9, .assign (.tmp 54), none⟩,
    ⟨some 10, .assign (.tmp 55), none⟩]
@[reducible] def q11_6 : SCode := .region [⟨some 56, .move (.tmp 8), none⟩,
    ⟨some 57, .binOp .neq 23 (.tmp 56) (.const (.int .i64 0)) 23, none⟩,
    ⟨some 58, .move (.tmp 57), none⟩,
    ⟨some 59, .move (.tmp 10), some (58, false)⟩,
    ⟨some 60, .binOp .neq 23 (.tmp 59) (.const (.int .i64 0)) 23, some (58, false)⟩,
    ⟨some 61, .pick (.tmp 58) (.const (.bool true)) (.tmp 60), none⟩,
    ⟨some 62, .move (.tmp 61), none⟩,
    ⟨some 63, .move (.tmp 0), some (62, false)⟩,
    ⟨some 64, .move (.tmp 5), some (62, false)⟩,
    ⟨some 65, .call { callee := .value (.func 22), args := #[.tmp 63, .tmp 64], argTypes := #[22, 22] }, some (62, false)⟩,
    ⟨some 66, .unOp .not 4 (.tmp 65), some (62, false)⟩,
    ⟨some 67, .pick (.tmp 62) (.const (.bool true)) (.tmp 66), none⟩,
    ⟨some 68, .move (.tmp 67), none⟩,
    ⟨some 69, .move (.tmp 9), some (68, false)⟩,
    ⟨some 70, .move (.tmp 7), some (68, false)⟩,
    ⟨some 71, .call { callee := .builtin .len, args := #[.tmp 70], argTypes := #[36] }, some (68, false)⟩,
    ⟨some 72, .binOp .lss 3 (.tmp 69) (.tmp 71) 3, some (68, false)⟩,
    ⟨some 73, .pick (.tmp 68) (.const (.bool true)) (.tmp 72), none⟩,
    ⟨some 74, .move (.tmp 73), none⟩,
    ⟨some 75, .move (.tmp 0), some (74, false)⟩,
    ⟨some 76, .move (.tmp 7), some (74, false)⟩,
    ⟨some 77, .call { callee := .value (.func 34), args := #[.tmp 75, .tmp 76], argTypes := #[22, 36] }, some (74, false)⟩,
    ⟨some 78, .unOp .not 4 (.tmp 77), some (74, false)⟩,
    ⟨some 79, .pick (.tmp 74) (.const (.bool true)) (.tmp 78), none⟩]
@[reducible] def q11_7 : SCode := .region [⟨some 4, .assign (.const (.bool false)), none⟩]
@[reducible] def q11_8 : SCode := .region [⟨some 11, .assign (.const (.slice none 0 0)), none⟩]
@[reducible] def q11_9 : SCode := .region [⟨some 80, .move (.tmp 5), none⟩,
    ⟨some 81, .call { callee := .builtin .len, args := #[.tmp 80], argTypes := #[22] }, none⟩,
    ⟨some 82, .move (.const (.int .i64 0)), none⟩]
@[reducible] def q11_10 : SCode := .region [⟨some 83, .binOp .lss 3 (.tmp 82) (.tmp 81) 3, none⟩]
@[reducible] def q11_11 : SCode := .region [⟨some 84, .move (.tmp 82), none⟩,
    ⟨some 85, .indexAddr 22 (.tmp 80) (.tmp 82), none⟩,
    ⟨some 86, .load 3 (.tmp 85), none⟩,
    ⟨some 12, .assign (.tmp 84), none⟩,
    ⟨some 13, .assign (.tmp 86), none⟩]
@[reducible] def q11_12 : SCode := .region [⟨some 87, .move (.tmp 12), none⟩,
    ⟨some 88, .binOp .gtr 3 (.tmp 87) (.const (.int .i64 0)) 3, none⟩,
    ⟨some 89, .move (.tmp 88), none⟩,
    ⟨some 90, .move (.tmp 0), some (89, true)⟩,
    ⟨some 91, .move (.tmp 5), some (89, true)⟩,
    ⟨some 92, .move (.tmp 12), some (89, true)⟩,
    ⟨some 93, .binOp .sub 3 (.tmp 92) (.const (.int .i64 1)) 3, some (89, true)⟩,
    ⟨some 94, .indexAddr 22 (.tmp 91) (.tmp 93), some (89, true)⟩,
    ⟨some 95, .load 3 (.tmp 94), some (89, true)⟩,
    ⟨some 96, .indexAddr 22 (.tmp 90) (.tmp 95), some (89, true)⟩,
    ⟨some 97, .load 3 (.tmp 96), some (89, true)⟩,
    ⟨some 98, .move (.tmp 13), some (89, true)⟩,
    ⟨some 99, .binOp .shr 3 (.tmp 97) (.tmp 98) 3, some (89, true)⟩,
    ⟨some 100, .binOp .and 3 (.tmp 99) (.const (.int .i64 1)) 3, some (89, true)⟩,
    ⟨some 101, .binOp .eql 3 (.tmp 100) (.const (.int .i64 0)) 3, some (89, true)⟩,
    ⟨some 102, .pick (.tmp 89) (.tmp 101) (.const (.bool false)), none⟩]
@[reducible] def q11_13 : SCode := .region [⟨some 4, .assign (.const (.bool false)), none⟩]
@[reducible] def q11_14 : SCode := .region [⟨some 103, .move (.tmp 5), none⟩,
    ⟨some 104, .move (.tmp 12), none⟩,
    ⟨some 105, .slice 22 (.tmp 103) none (some (.tmp 104)) none, none⟩,
    ⟨some 106, .call { callee := .builtin .len, args := #[.tmp 105], argTypes := #[22] }, none⟩,
    ⟨some 107, .move (.const (.int .i64 0)), none⟩]
@[reducible] def q11_15 : SCode := .region [⟨some 108, .binOp .lss 3 (.tmp 107) (.tmp 106) 3, none⟩]
@[reducible] def q11_16 : SCode := .region [⟨some 109, .indexAddr 22 (.tmp 105) (.tmp 107), none⟩,
    ⟨some 110, .load 3 (.tmp 109), none⟩,
    ⟨some 15, .assign (.tmp 110), none⟩]
@[reducible] def q11_17 : SCode := .region [⟨some 111, .move (.tmp 0), none⟩,
    ⟨some 112, .move (.tmp 13), none⟩,
    ⟨some 113, .indexAddr 22 (.tmp 111) (.tmp 112), none⟩,
    ⟨some 114, .load 3 (.tmp 113), none⟩,
    ⟨some 115, .move (.tmp 15), none⟩,
    ⟨some 116, .binOp .shr 3 (.tmp 114) (.tmp 115) 3, none⟩,
    ⟨some 117, .binOp .and 3 (.tmp 116) (.const (.int .i64 1)) 3, none⟩,
    ⟨some 118, .binOp .eql 3 (.tmp 117) (.const (.int .i64 1)) 3, none⟩]
@[reducible] def q11_18 : SCode := .region [⟨some 119, .move (.tmp 11), none⟩,
    ⟨some 120, .move (.tmp 13), none⟩,
    ⟨some 121, .move (.tmp 15), none⟩,
    ⟨some 122, .call { callee := .builtin .min, args := #[.tmp 120, .tmp 121], argTypes := #[3, 3] }, none⟩,
    ⟨some 123, .move (.tmp 13), none⟩,
    ⟨some 124, .move (.tmp 15), none⟩,
    ⟨some 125, .call { callee := .builtin .max, args := #[.tmp 123, .tmp 124], argTypes := #[3, 3] }, none⟩,
    ⟨some 126, .build 52 #[(0, .tmp 122), (1, .tmp 125)], none⟩,
    ⟨some 127, .buildSlice 46 1 #[(0, .tmp 126)], none⟩,
    ⟨some 128, .call { callee := .builtin .append, args := #[.tmp 119, .tmp 127], argTypes := #[46, 46] }, none⟩,
    ⟨some 11, .assign (.tmp 128), none⟩]
@[reducible] def q11_19 : SCode := .region [⟨some 129, .binOp .add 3 (.tmp 107) (.const (.int .i64 1)) 3, none⟩,
    ⟨some 107, .move (.tmp 129), none⟩]
def l11_0 : SCode := (.seq q11_15 (.seq (.cond (.tmp 108) .skip (.exit 2)) (.seq (.block 3 (.seq q11_16 (.seq q11_17 (.cond (.tmp 118) q11_18 .skip)))) q11_19)))
@[reducible] def q11_20 : SCode := .region [⟨some 130, .binOp .add 3 (.tmp 82) (.const (.int .i64 1)) 3, none⟩,
    ⟨some 82, .move (.tmp 130), none⟩]
def l11_1 : SCode := (.seq q11_10 (.seq (.cond (.tmp 83) .skip (.exit 0)) (.seq (.block 1 (.seq q11_11 (.seq (.seq q11_12 (.cond (.tmp 102) (.seq q11_13 .ret) .skip)) (.seq q11_14 (.block 2 (.loop l11_0)))))) q11_20)))
@[reducible] def q11_21 : SCode := .region [⟨some 131, .move (.tmp 11), none⟩,
    ⟨some 132, .call { callee := .builtin .len, args := #[.tmp 131], argTypes := #[46] }, none⟩,
    ⟨some 133, .move (.tmp 9), none⟩,
    ⟨some 134, .binOp .neq 3 (.tmp 132) (.tmp 133) 3, none⟩]
@[reducible] def q11_22 : SCode := .region [⟨some 4, .assign (.const (.bool false)), none⟩]
@[reducible] def q11_23 : SCode := .region [⟨some 136, .move (.tmp 0), none⟩,
    ⟨some 137, .call { callee := .value (.func 19), args := #[.tmp 136], argTypes := #[22] }, none⟩,
    ⟨some 138, .move (.tmp 11), none⟩,
    ⟨some 139, .call { callee := .value (.func 41), args := #[.tmp 137, .tmp 138], argTypes := #[22, 46] }, none⟩,
    ⟨some 135, .move (.tmp 139), none⟩,
    ⟨some 140, .extract (.tmp 135) 0, none⟩,
    ⟨some 141, .extract (.tmp 135) 1, none⟩,
    ⟨some 16, .assign (.tmp 140), none⟩,
    ⟨some 10, .assign (.tmp 141), none⟩]
@[reducible] def q11_24 : SCode := .region [⟨some 143, .move (.tmp 16), none⟩,
    ⟨some 144, .call { callee := .value (.func 30), args := #[.tmp 143], argTypes := #[22] }, none⟩,
    ⟨some 142, .move (.tmp 144), none⟩,
    ⟨some 145, .extract (.tmp 142) 0, none⟩,
    ⟨some 146, .extract (.tmp 142) 1, none⟩,
    ⟨some 17, .assign (.tmp 145), none⟩,
    ⟨some 18, .assign (.tmp 146), none⟩]
@[reducible] def q11_25 : SCode := .region [⟨some 147, .move (.tmp 10), none⟩,
    ⟨some 148, .binOp .neq 23 (.tmp 147) (.const (.int .i64 0)) 23, none⟩,
    ⟨some 149, .move (.tmp 148), none⟩,
    ⟨some 150, .move (.tmp 18), some (149, false)⟩,
    ⟨some 151, .binOp .neq 23 (.tmp 150) (.const (.int .i64 0)) 23, some (149, false)⟩,
    ⟨some 152, .pick (.tmp 149) (.const (.bool true)) (.tmp 151), none⟩,
    ⟨some 153, .move (.tmp 152), none⟩,
    ⟨some 154, .move (.tmp 17), some (153, false)⟩,
    ⟨some 155, .call { callee := .builtin .len, args := #[.tmp 154], argTypes := #[36] }, some (153, false)⟩,
    ⟨some 156, .binOp .neq 3 (.tmp 155) (.const (.int .i64 0)) 3, some (153, false)⟩,
    ⟨some 157, .pick (.tmp 153) (.const (.bool true)) (.tmp 156), none⟩]
@[reducible] def q11_26 : SCode := .region [⟨some 4, .assign (.const (.bool false)), none⟩]
@[reducible] def q11_27 : SCode := .region [⟨some 159, .move (.tmp 0), none⟩,
    ⟨some 160, .call { callee := .value (.func 19), args := #[.tmp 159], argTypes := #[22] }, none⟩,
    ⟨some 161, .move (.tmp 1), none⟩,
    ⟨some 162, .call { callee := .value (.func 19), args := #[.tmp 161], argTypes := #[22] }, none⟩,
    ⟨some 163, .call { callee := .value (.func 37), args := #[.tmp 160, .tmp 162], argTypes := #[22, 22] }, none⟩,
    ⟨some 158, .move (.tmp 163), none⟩,
    ⟨some 164, .extract (.tmp 158) 0, none⟩,
    ⟨some 165, .extract (.tmp 158) 1, none⟩,
    ⟨some 19, .assign (.tmp 164), none⟩,
    ⟨some 10, .assign (.tmp 165), none⟩]
@[reducible] def q11_28 : SCode := .region [⟨some 166, .move (.tmp 10), none⟩,
    ⟨some 167, .binOp .neq 23 (.tmp 166) (.const (.int .i64 0)) 23, none⟩]
@[reducible] def q11_29 : SCode := .region [⟨some 168, .move (.tmp 10), none⟩,
    ⟨some 169, .binOp .eql 23 (.tmp 168) (.const (.int .i64 2)) 23, none⟩,
    ⟨some 170, .move (.tmp 169), none⟩,
    ⟨some 171, .call { callee := .value (.func 21), args := #[], argTypes := #[] }, some (170, true)⟩,
    ⟨some 172, .pick (.tmp 170) (.tmp 171) (.const (.bool false)), none⟩,
    ⟨some 4, .assign (.tmp 172), none⟩]
@[reducible] def q11_30 : SCode := .region [⟨some 173, .move (.tmp 19), none⟩,
    ⟨some 174, .move (.tmp 9), none⟩,
    ⟨some 175, .binOp .geq 3 (.tmp 173) (.tmp 174) 3, none⟩,
    ⟨some 176, .move (.tmp 175), none⟩,
    ⟨some 177, .move (.tmp 19), some (176, true)⟩,
    ⟨some 178, .move (.tmp 9), some (176, true)⟩,
    ⟨some 179, .binOp .gtr 3 (.tmp 177) (.tmp 178) 3, some (176, true)⟩,
    ⟨some 180, .move (.tmp 179), some (176, true)⟩,
    ⟨some 181, .move (.tmp 5), some (180, false)⟩,
    ⟨some 182, .move (.tmp 1), some (180, false)⟩,
    ⟨some 183, .call { callee := .value (.func 47), args := #[.tmp 181, .tmp 182], argTypes := #[22, 22] }, some (180, false)⟩,
    ⟨some 184, .binOp .leq 3 (.tmp 183) (.const (.int .i64 0)) 3, some (180, false)⟩,
    ⟨some 185, .pick (.tmp 180) (.const (.bool true)) (.tmp 184), some (176, true)⟩,
    ⟨some 186, .pick (.tmp 176) (.tmp 185) (.const (.bool false)), none⟩,
    ⟨some 187, .move (.tmp 186), none⟩,
    ⟨some 188, .call { callee := .value (.func 21), args := #[], argTypes := #[] }, some (187, true)⟩,
    ⟨some 189, .pick (.tmp 187) (.tmp 188) (.const (.bool false)), none⟩,
    ⟨some 4, .assign (.tmp 189), none⟩]
def s11 : SCode := (.seq q11_0 (.seq q11_1 (.seq q11_2 (.seq (.seq q11_3 (.cond (.tmp 38) (.seq q11_4 .ret) .skip)) (.seq q11_5 (.seq (.seq q11_6 (.cond (.tmp 79) (.seq q11_7 .ret) .skip)) (.seq q11_8 (.seq (.seq q11_9 (.block 0 (.loop l11_1))) (.seq (.seq q11_21 (.cond (.tmp 134) (.seq q11_22 .ret) .skip)) (.seq q11_23 (.seq q11_24 (.seq (.seq q11_25 (.cond (.tmp 157) (.seq q11_26 .ret) .skip)) (.seq q11_27 (.seq (.seq q11_28 (.cond (.tmp 167) (.seq q11_29 .ret) .skip)) (.seq q11_30 .ret)))))))))))))))
theorem s11_strip : stripC (bodyOf Tryd.f11) = s11 := by kernel_rfl
theorem s11_ok : codeOK 190 (bodyOf Tryd.f11) = true := by kernel_rfl
/-! 47: slices.Compare[[]int,int] -/
@[reducible] def q47_0 : SCode := .region [⟨some 4, .assign (.const (.int .i64 0)), none⟩]
@[reducible] def q47_1 : SCode := .region [⟨some 9, .move (.tmp 0), none⟩,
    ⟨some 10, .call { callee := .builtin .len, args := #[.tmp 9], argTypes := #[22] }, none⟩,
    ⟨some 11, .move (.const (.int .i64 0)), none⟩]
@[reducible] def q47_2 : SCode := .region [⟨some 12, .binOp .lss 3 (.tmp 11) (.tmp 10) 3, none⟩]
@[reducible] def q47_3 : SCode := .region [⟨some 13, .move (.tmp 11), none⟩,
    ⟨some 14, .indexAddr 22 (.tmp 9) (.tmp 11), none⟩,
    ⟨some 15, .load 3 (.tmp 14), none⟩,
    ⟨some 5, .assign (.tmp 13), none⟩,
    ⟨some 6, .assign (.tmp 15), none⟩]
@[reducible] def q47_4 : SCode := .region [⟨some 16, .move (.tmp 5), none⟩,
    ⟨some 17, .move (.tmp 1), none⟩,
    ⟨some 18, .call { callee := .builtin .len, args := #[.tmp 17], argTypes := #[22] }, none⟩,
    ⟨some 19, .binOp .geq 3 (.tmp 16) (.tmp 18) 3, none⟩]
@[reducible] def q47_5 : SCode := .region [⟨some 4, .assign (.const (.int .i64 1)), none⟩]
@[reducible] def q47_6 : SCode := .region [⟨some 20, .move (.tmp 1), none⟩,
    ⟨some 21, .move (.tmp 5), none⟩,
    ⟨some 22, .indexAddr 22 (.tmp 20) (.tmp 21), none⟩,
    ⟨some 23, .load 3 (.tmp 22), none⟩,
    ⟨some 7, .assign (.tmp 23), none⟩]
@[reducible] def q47_7 : SCode := .region [⟨some 24, .move (.tmp 6), none⟩,
    ⟨some 25, .move (.tmp 7), none⟩,
    ⟨some 26, .call { callee := .value (.func 80), args := #[.tmp 24, .tmp 25], argTypes := #[3, 3] }, none⟩,
    ⟨some 8, .assign (.tmp 26), none⟩]
@[reducible] def q47_8 : SCode := .region [⟨some 27, .move (.tmp 8), none⟩,
    ⟨some 28, .binOp .neq 3 (.tmp 27) (.const (.int .i64 0)) 3, none⟩]
@[reducible] def q47_9 : SCode := .region [⟨some 29, .move (.tmp 8), none⟩,
    ⟨some 4, .assign (.tmp 29), none⟩]
@[reducible] def q47_10 : SCode := .region [⟨some 30, .binOp .add 3 (.tmp 11) (.const (.int .i64 1)) 3, none⟩,
    ⟨some 11, .move (.tmp 30), none⟩]
def l47_0 : SCode := (.seq q47_2 (.seq (.cond (.tmp 12) .skip (.exit 0)) (.seq (.block 1 (.seq q47_3 (.seq (.seq q47_4 (.cond (.tmp 19) (.seq q47_5 .ret) .skip)) (.seq q47_6 (.seq q47_7 (.seq q47_8 (.cond (.tmp 28) (.seq q47_9 .ret) .skip))))))) q47_10)))
@[reducible] def q47_11 : SCode := .region [⟨some 31, .move (.tmp 0), none⟩,
    ⟨some 32, .call { callee := .builtin .len, args := #[.tmp 31], argTypes := #[22] }, none⟩,
    ⟨some 33, .move (.tmp 1), none⟩,
    ⟨some 34, .call { callee := .builtin .len, args := #[.tmp 33], argTypes := #[22] }, none⟩,
    ⟨some 35, .binOp .lss 3 (.tmp 32) (.tmp 34) 3, none⟩]
@[reducible] def q47_12 : SCode := .region [⟨some 4, .assign (.const (.int .i64 (-1))), none⟩]
@[reducible] def q47_13 : SCode := .region [⟨some 4, .assign (.const (.int .i64 0)), none⟩]
def s47 : SCode := (.seq q47_0 (.seq (.seq q47_1 (.block 0 (.loop l47_0))) (.seq (.seq q47_11 (.cond (.tmp 35) (.seq q47_12 .ret) .skip)) (.seq q47_13 .ret))))
theorem s47_strip : stripC (bodyOf Tryd.f47) = s47 := by kernel_rfl
theorem s47_ok : codeOK 36 (bodyOf Tryd.f47) = true := by kernel_rfl
theorem s47_call [Tabs Tryd.prog] {args : List Value} {h : Heap} {Q : Value → Heap → Prop} (hsz : args.length ≤ 36) (hk : aw Tryd.prog 36 s47 (aPost Tryd.prog [.tmp 4] Q) (argEnv 0 args) h) : ACall Tryd.prog 47 args h Q :=
  acall_s Tryd.func47 rfl (enters_of Tryd.func47 (by kernel_rfl) rfl) rfl rfl (by decide) s47_strip s47_ok hsz hk

/-! 80: cmp.Compare[int] -/
@[reducible] def q80_0 : SCode := .region [⟨some 4, .assign (.const (.int .i64 0)), none⟩]
@[reducible] def q80_1 : SCode := .region [⟨some 7, .move (.tmp 0), none⟩,
    ⟨some 8, .call { callee := .value (.func 99), args := #[.tmp 7], argTypes := #[3] }, none⟩,
    ⟨some 5, .assign (.tmp 8), none⟩]
@[reducible] def q80_2 : SCode := .region [⟨some 9, .move (.tmp 1), none⟩,
    ⟨some 10, .call { callee := .value (.func 99), args := #[.tmp 9], argTypes := #[3] }, none⟩,
    ⟨some 6, .assign (.tmp 10), none⟩]
@[reducible] def q80_3 : SCode := .region [⟨some 11, .move (.tmp 5), none⟩]
@[reducible] def q80_4 : SCode := .region [⟨some 12, .move (.tmp 6), none⟩]
@[reducible] def q80_5 : SCode := .region [⟨some 4, .assign (.const (.int .i64 0)), none⟩]
@[reducible] def q80_6 : SCode := .region [⟨some 4, .assign (.const (.int .i64 (-1))), none⟩]
@[reducible] def q80_7 : SCode := .region [⟨some 13, .move (.tmp 6), none⟩]
@[reducible] def q80_8 : SCode := .region [⟨some 4, .assign (.const (.int .i64 1)), none⟩]
@[reducible] def q80_9 : SCode := .region [⟨some 14, .move (.tmp 0), none⟩,
    ⟨some 15, .move (.tmp 1), none⟩,
    ⟨some 16, .binOp .lss 3 (.tmp 14) (.tmp 15) 3, none⟩]
@[reducible] def q80_10 : SCode := .region [⟨some 4, .assign (.const (.int .i64 (-1))), none⟩]
@[reducible] def q80_11 : SCode := .region [⟨some 17, .move (.tmp 0), none⟩,
    ⟨some 18, .move (.tmp 1), none⟩,
    ⟨some 19, .binOp .gtr 3 (.tmp 17) (.tmp 18) 3, none⟩]
@[reducible] def q80_12 : SCode := .region [⟨some 4, .assign (.const (.int .i64 1)), none⟩]
@[reducible] def q80_13 : SCode := .region [⟨some 4, .assign (.const (.int .i64 0)), none⟩]
def s80 : SCode := (.seq q80_0 (.seq q80_1 (.seq q80_2 (.seq (.seq q80_3 (.cond (.tmp 11) (.seq (.seq q80_4 (.cond (.tmp 12) (.seq q80_5 .ret) .skip)) (.seq q80_6 .ret)) .skip)) (.seq (.seq q80_7 (.cond (.tmp 13) (.seq q80_8 .ret) .skip)) (.seq (.seq q80_9 (.cond (.tmp 16) (.seq q80_10 .ret) .skip)) (.seq (.seq q80_11 (.cond (.tmp 19) (.seq q80_12 .ret) .skip)) (.seq q80_13 .ret))))))))
theorem s80_strip : stripC (bodyOf Tryd.f80) = s80 := by kernel_rfl
theorem s80_ok : codeOK 20 (bodyOf Tryd.f80) = true := by kernel_rfl
theorem s80_call [Tabs Tryd.prog] {args : List Value} {h : Heap} {Q : Value → Heap → Prop} (hsz : args.length ≤ 20) (hk : aw Tryd.prog 20 s80 (aPost Tryd.prog [.tmp 4] Q) (argEnv 0 args) h) : ACall Tryd.prog 80 args h Q :=
  acall_s Tryd.func80 rfl (enters_of Tryd.func80 (by kernel_rfl) rfl) rfl rfl (by decide) s80_strip s80_ok hsz hk

/-! 99: cmp.isNaN[int] -/
@[reducible] def q99_0 : SCode := .region [⟨some 2, .assign (.const (.bool false)), none⟩]
@[reducible] def q99_1 : SCode := .region [⟨some 3, .move (.tmp 0), none⟩,
    ⟨some 4, .move (.tmp 0), none⟩,
    ⟨some 5, .binOp .neq 3 (.tmp 3) (.tmp 4) 3, none⟩,
    ⟨some 2, .assign (.tmp 5), none⟩]
def s99 : SCode := (.seq q99_0 (.seq q99_1 .ret))
theorem s99_strip : stripC (bodyOf Tryd.f99) = s99 := by kernel_rfl
theorem s99_ok : codeOK 6 (bodyOf Tryd.f99) = true := by kernel_rfl
theorem s99_call [Tabs Tryd.prog] {args : List Value} {h : Heap} {Q : Value → Heap → Prop} (hsz : args.length ≤ 6) (hk : aw Tryd.prog 6 s99 (aPost Tryd.prog [.tmp 2] Q) (argEnv 0 args) h) : ACall Tryd.prog 99 args h Q :=
  acall_s Tryd.func99 rfl (enters_of Tryd.func99 (by kernel_rfl) rfl) rfl rfl (by decide) s99_strip s99_ok hsz hk

end Go.Proofs.Tryd.Am

namespace Go.Proofs.Tryd.Am
open Go.Am Rb
set_option maxRecDepth 100000
set_option maxHeartbeats 1000000

theorem pk_52_0 : placeOf Tryd.prog 52 0 = some (0, 1) := by kernel_rfl
theorem pk_52_1 : placeOf Tryd.prog 52 1 = some (1, 1) := by kernel_rfl
theorem bld2 {x y : Int} {K : Value → Prop} : buildK prog 52 [(0, vint x), (1, vint y)] K = K (.agg #[vint x, vint y]) := by
  simp [buildK, zero_52, fillL, pk_52_0, pk_52_1, notTuple, cellsOf, splice]
theorem lit1Q {h : Heap} {x y : Int} (K : Value → Heap → Prop) : buildSliceK prog h 46 1 [(0, .agg #[vint x, vint y])] K = K (.slice (some ⟨h.length, 0, none⟩) 1 1) (h ++ [.ints [x, y] 52 false]) := by
  have e1 : fillL (fun i => some (i * 2, 2)) (reps [.int .i64 0, .int .i64 0] 1) [(0, .agg #[vint x, vint y])] = some [vint x, vint y] := by
    simp [fillL, notTuple, cellsOf, reps, splice]
  have e2 : mkb [vint x, vint y] 52 = .ints [x, y] 52 false := rfl
  simp only [buildSliceK, el_46, zero_52, esz_52, e1, e2]
  exact propext ⟨fun h => h.2.2.2, fun h => ⟨rfl, by decide, by decide, h⟩⟩
theorem bp_snoc {b : Nat → Nat → Bool} : ∀ (l p : List Nat) (x : Nat), bp b p (l ++ [x]) = bp b p l ++ ((p ++ l).filter (b x)).map (fun y => (x, y))
  | [], p, x => by simp [bp]
  | a :: l, p, x => by
    rw [List.cons_append, bp, bp, bp_snoc l (p ++ [a]) x, List.append_assoc, List.append_assoc]
    rfl
def tuP (xs os : List Int) (i : Nat) : List (Int × Int) := (bp (bb xs) [] ((nl os).take i)).map mm
def tuJ (xs os : List Int) (a i j : Nat) : List (Int × Int) := tuP xs os i ++ ((((nl os).take i).take j).filter (bb xs a)).map fun y => mm (a, y)
theorem tuP_all (xs os : List Int) : tuP xs os os.length = turnL xs os := by rw [tuP, turnL, List.take_of_length_le (by simp)]
theorem nl_get {os : List Int} {i a : Nat} (hi : i < os.length) (h : os.getD i 0 = (a : Int)) : (nl os)[i]? = some a := by
  rw [List.getElem?_map, List.getElem?_eq_getElem hi]
  rw [List.getD, List.getElem?_eq_getElem hi, Option.getD_some] at h
  rw [h]; simp
theorem tuJ_all {xs os : List Int} {a i : Nat} (hi : i < os.length) (h : os.getD i 0 = (a : Int)) : tuJ xs os a i i = tuP xs os (i + 1) := by
  have e : (nl os).take (i + 1) = (nl os).take i ++ [a] := by
    rw [List.take_succ, nl_get hi h]; rfl
  have e2 : ((nl os).take i).take i = (nl os).take i := List.take_of_length_le (by rw [List.length_take]; omega)
  rw [tuJ, tuP, tuP, e, bp_snoc, List.map_append, List.map_map, List.nil_append, e2]
  rfl
theorem tuJ_step {xs os : List Int} {a i j c : Nat} (hi : i ≤ os.length) (hj : j < i) (h : os.getD j 0 = (c : Int)) : tuJ xs os a i (j + 1) = tuJ xs os a i j ++ if bb xs a c = true then [mm (a, c)] else [] := by
  have e : ((nl os).take i).take (j + 1) = ((nl os).take i).take j ++ [c] := by
    rw [List.take_succ, List.getElem?_take, if_pos hj, nl_get (by omega) h]; rfl
  rw [tuJ, tuJ, e, List.filter_append, List.map_append, List.append_assoc]
  cases hb : bb xs a c with
  | true => rw [if_pos rfl, List.filter_cons, hb]; rfl
  | false => rw [if_neg (by decide), List.filter_cons, hb]; rfl
theorem tuJ_len {xs os : List Int} {a i j : Nat} (hi : i ≤ 8) : (tuJ xs os a i j).length ≤ 72 := by
  have h1 : ∀ (l p : List Nat), p.length + l.length ≤ 8 → (bp (bb xs) p l).length ≤ l.length * 8 := by
    intro l
    induction l with
    | nil => intro p _; exact Nat.le_refl _
    | cons x l ih =>
      intro p hp
      rw [List.length_cons] at hp
      have := ih (p ++ [x]) (by rw [List.length_append, List.length_singleton]; omega)
      have h2 := List.length_filter_le (bb xs x) p
      rw [bp, List.length_append, List.length_map, List.length_cons]; omega
  have h2 := h1 ((nl os).take i) [] (by rw [List.length_take, List.length_nil]; omega)
  have h3 := List.length_filter_le (bb xs a) (((nl os).take i).take j)
  have h4 : (((nl os).take i).take j).length ≤ 8 := by rw [List.length_take, List.length_take]; omega
  have h5 : ((nl os).take i).length ≤ 8 := by rw [List.length_take]; omega
  rw [tuJ, tuP, List.length_append, List.length_map, List.length_map]; omega
end Go.Proofs.Tryd.Am

namespace Go.Proofs.Tryd.Am
open Go.Am Rb
set_option maxRecDepth 100000
set_option maxHeartbeats 1000000

theorem turn_loop [Tabs prog] {h : Heap} {gv cv uv pv nv : Value} {xs os : List Int} (hv : IntSl h gv xs) (ht : trn xs = true) (hu : IntSl h uv os) (hio : isOrd xs.length os = true)
    (hnx : ∀ i a b : Nat, i + 1 < os.length → os.getD i 0 = (a : Int) → os.getD (i + 1) 0 = (b : Int) → bb xs a b = true) {N : Env → Heap → Prop} {Q0 : Exit → Env → Heap → Prop}
    (hN : ∀ hp tv e, Ext (fun _ => False) h hp → OwnP 52 hp tv (turnL xs os) → ELe e [(0, gv), (1, cv), (4, .bool false), (5, uv), (7, pv), (9, nv), (11, tv)] → N e hp) :
    aw prog 190 (.seq q11_9 (.block 0 (.loop l11_1))) (aThen N Q0) [(0, gv), (1, cv), (4, .bool false), (5, uv), (7, pv), (9, nv), (11, .slice none 0 0)] h := by
  have hnn : ∀ i : Nat, (0 : Int) ≤ (i : Int) := Int.natCast_nonneg
  have hxl := trn_len ht
  have h256 := pow8N hxl.2
  have hol := (ord_rng hio).1
  have tt : ∀ (a b : Nat), a < xs.length → bitsV .and .i64 (shrV .i64 (xs.getD a 0) b) 1 = if bb xs a b then 1 else 0 := fun a b ha => by
    obtain ⟨hX, hXl⟩ := trn_nat ht ha
    have := testV (a := (xs.getD a 0).toNat) (y := b) (by omega)
    rw [← hX] at this; exact this
  simp (maxSteps := 2000000) only [s11, ↓aw_region, ↓aw_skip, ↓aw_seq, ↓aw_block, ↓aw_exit, ↓aw_ret, ↓sops_nil, ↓sops_go, ↓dops_nil, ↓dopsX_nil, ↓dopsR_nil, ↓vdn, vup, extr_20, extr_21, extr_30, extr_31, extr_32, List.map_cons, List.map_nil, cond_true, cond_false, aop, aThen, aBlock, argEnv, ev, sput, sputO, binK, binI, unK, builtinK, pickK, Nat.reduceBEq, Nat.reduceAdd, Int.reduceBEq, Int.reduceBNe, Int.reduceLT, aPost, resK, tup, tyf, hu.len, ↓aw_loop_eq]
  refine aws_hide fun Q hQ => ?_
  refine aw_loopW (γ := Nat × Heap × Value) (fun s => s.1 ≤ os.length ∧ Ext (fun _ => False) h s.2.1 ∧ OwnP 52 s.2.1 s.2.2 (tuP xs os s.1) ∧ ∀ b, blkOf s.2.2 = some b → h.length ≤ b)
    (fun s => ([(0, gv), (1, cv), (4, .bool false), (5, uv), (7, pv), (9, nv), (11, s.2.2), (80, uv), (81, vint os.length), (82, vint s.1)], s.2.1)) (fun s => os.length - s.1) (0, h, .slice none 0 0) ⟨Nat.zero_le _, ⟨Nat.le_refl _, fun _ _ _ => rfl⟩, .inl ⟨rfl, rfl⟩, fun b hb => by cases hb⟩ (by simp (maxSteps := 2000000) only [↓aw_region, ↓aw_skip, ↓aw_seq, ↓aw_block, ↓aw_exit, ↓aw_ret, ↓sops_nil, ↓sops_go, ↓dops_nil, ↓dopsX_nil, ↓dopsR_nil, ↓vdn, vup, extr_20, extr_21, extr_30, extr_31, extr_32, List.map_cons, List.map_nil, cond_true, cond_false, aop, aThen, aBlock, argEnv, ev, sput, sputO, binK, binI, unK, builtinK, pickK, Nat.reduceBEq, Nat.reduceAdd, Int.reduceBEq, Int.reduceBNe, Int.reduceLT, aPost, resK, tup, tyf, Int.natCast_zero]) rfl ?_
  rintro ⟨i, hp, tv⟩ ⟨hi, hE, ho, hbk⟩
  simp only at hi hE ho hbk
  refine aws_hide fun Q2 hQ2 => ?_
  simp only [l11_1]
  have hv' := IntSl_ext hv hE
  have hu' := IntSl_ext hu hE
  by_cases hin : (i : Int) < os.length
  · have hi' : i < os.length := by omega
    obtain ⟨a, ha, hax⟩ := agTo_rng hio hi'
    refine aws_cut fun N1 hN1 => ?_
    simp (maxSteps := 2000000) only [s11, ↓aw_region, ↓aw_skip, ↓aw_seq, ↓aw_block, ↓aw_exit, ↓aw_ret, ↓sops_nil, ↓sops_go, ↓dops_nil, ↓dopsX_nil, ↓dopsR_nil, ↓vdn, vup, extr_20, extr_21, extr_30, extr_31, extr_32, List.map_cons, List.map_nil, cond_true, cond_false, aop, aThen, aBlock, argEnv, ev, sput, sputO, binK, binI, unK, builtinK, pickK, Nat.reduceBEq, Nat.reduceAdd, Int.reduceBEq, Int.reduceBNe, Int.reduceLT, aPost, resK, tup, tyf, hin]
    refine hN1 [(0, gv), (1, cv), (4, .bool false), (5, uv), (7, pv), (9, nv), (11, tv), (80, uv), (81, vint os.length), (82, vint i), (83, .bool true)] _ _ ?_ (by simp (maxSteps := 2000000) only [↓aw_region, ↓aw_skip, ↓aw_seq, ↓aw_block, ↓aw_exit, ↓aw_ret, ↓sops_nil, ↓sops_go, ↓dops_nil, ↓dopsX_nil, ↓dopsR_nil, ↓vdn, vup, extr_20, extr_21, extr_30, extr_31, extr_32, List.map_cons, List.map_nil, cond_true, cond_false, aop, aThen, aBlock, argEnv, ev, sput, sputO, binK, binI, unK, builtinK, pickK, Nat.reduceBEq, Nat.reduceAdd, Int.reduceBEq, Int.reduceBNe, Int.reduceLT, aPost, resK, tup, tyf])
    clear hN1
    try clear N1
    refine aws_cut fun N2 hN2 => ?_
    simp (maxSteps := 2000000) only [s11, ↓aw_region, ↓aw_skip, ↓aw_seq, ↓aw_block, ↓aw_exit, ↓aw_ret, ↓sops_nil, ↓sops_go, ↓dops_nil, ↓dopsX_nil, ↓dopsR_nil, ↓vdn, vup, extr_20, extr_21, extr_30, extr_31, extr_32, List.map_cons, List.map_nil, cond_true, cond_false, aop, aThen, aBlock, argEnv, ev, sput, sputO, binK, binI, unK, builtinK, pickK, Nat.reduceBEq, Nat.reduceAdd, Int.reduceBEq, Int.reduceBNe, Int.reduceLT, aPost, resK, tup, tyf]
    refine hN2 [(0, gv), (1, cv), (4, .bool false), (5, uv), (7, pv), (9, nv), (11, tv), (80, uv), (81, vint os.length), (82, vint i)] _ _ ?_ (by simp (maxSteps := 2000000) only [↓aw_region, ↓aw_skip, ↓aw_seq, ↓aw_block, ↓aw_exit, ↓aw_ret, ↓sops_nil, ↓sops_go, ↓dops_nil, ↓dopsX_nil, ↓dopsR_nil, ↓vdn, vup, extr_20, extr_21, extr_30, extr_31, extr_32, List.map_cons, List.map_nil, cond_true, cond_false, aop, aThen, aBlock, argEnv, ev, sput, sputO, binK, binI, unK, builtinK, pickK, Nat.reduceBEq, Nat.reduceAdd, Int.reduceBEq, Int.reduceBNe, Int.reduceLT, aPost, resK, tup, tyf])
    clear hN2
    try clear N2
    refine aws_cutW fun K hK => ?_
    refine aws_block ?_
    refine aws_cut fun N3 hN3 => ?_
    simp (maxSteps := 2000000) only [s11, ↓aw_region, ↓aw_skip, ↓aw_seq, ↓aw_block, ↓aw_exit, ↓aw_ret, ↓sops_nil, ↓sops_go, ↓dops_nil, ↓dopsX_nil, ↓dopsR_nil, ↓vdn, vup, extr_20, extr_21, extr_30, extr_31, extr_32, List.map_cons, List.map_nil, cond_true, cond_false, aop, aThen, aBlock, argEnv, ev, sput, sputO, binK, binI, unK, builtinK, pickK, Nat.reduceBEq, Nat.reduceAdd, Int.reduceBEq, Int.reduceBNe, Int.reduceLT, aPost, resK, tup, tyf, hu'.idx el_22 esz_3 hi', hu'.load shp_3 hi', ha]
    refine hN3 [(0, gv), (1, cv), (4, .bool false), (5, uv), (7, pv), (9, nv), (11, tv), (12, vint i), (13, vint a), (80, uv), (81, vint os.length), (82, vint i)] _ _ ?_ (by simp (maxSteps := 2000000) only [↓aw_region, ↓aw_skip, ↓aw_seq, ↓aw_block, ↓aw_exit, ↓aw_ret, ↓sops_nil, ↓sops_go, ↓dops_nil, ↓dopsX_nil, ↓dopsR_nil, ↓vdn, vup, extr_20, extr_21, extr_30, extr_31, extr_32, List.map_cons, List.map_nil, cond_true, cond_false, aop, aThen, aBlock, argEnv, ev, sput, sputO, binK, binI, unK, builtinK, pickK, Nat.reduceBEq, Nat.reduceAdd, Int.reduceBEq, Int.reduceBNe, Int.reduceLT, aPost, resK, tup, tyf])
    clear hN3
    try clear N3
    have hdone : Ext (fun _ => False) hp hp := ⟨Nat.le_refl _, fun _ _ _ => rfl⟩
    refine aws_cut fun C hC => ?_
    have fin : ∀ e, ELe e [(0, gv), (1, cv), (4, .bool false), (5, uv), (7, pv), (9, nv), (11, tv), (12, vint i), (13, vint a), (80, uv), (81, vint os.length), (82, vint i)] → C e hp := fun e he => by
      refine hC [(0, gv), (1, cv), (4, .bool false), (5, uv), (7, pv), (9, nv), (11, tv), (12, vint i), (13, vint a), (80, uv), (81, vint os.length), (82, vint i)] _ _ ?_ he
      refine aw_aws ?_
      simp (maxSteps := 2000000) only [s11, ↓aw_region, ↓aw_skip, ↓aw_seq, ↓aw_block, ↓aw_exit, ↓aw_ret, ↓sops_nil, ↓sops_go, ↓dops_nil, ↓dopsX_nil, ↓dopsR_nil, ↓vdn, vup, extr_20, extr_21, extr_30, extr_31, extr_32, List.map_cons, List.map_nil, cond_true, cond_false, aop, aThen, aBlock, argEnv, ev, sput, sputO, binK, binI, unK, builtinK, pickK, Nat.reduceBEq, Nat.reduceAdd, Int.reduceBEq, Int.reduceBNe, Int.reduceLT, aPost, resK, tup, tyf, Option.map_none, Option.map_some]
      refine hu.pre el_22 esz_3 hi ?_
      intro wv hw
      have hwl : (os.take i).length = i := by rw [List.length_take]; omega
      have hwx : ∀ j, j < i → (os.take i).getD j 0 = os.getD j 0 := fun j hj => by simp [List.getD, List.getElem?_take, hj]
      simp (maxSteps := 2000000) only [s11, ↓aw_region, ↓aw_skip, ↓aw_seq, ↓aw_block, ↓aw_exit, ↓aw_ret, ↓sops_nil, ↓sops_go, ↓dops_nil, ↓dopsX_nil, ↓dopsR_nil, ↓vdn, vup, extr_20, extr_21, extr_30, extr_31, extr_32, List.map_cons, List.map_nil, cond_true, cond_false, aop, aThen, aBlock, argEnv, ev, sput, sputO, binK, binI, unK, builtinK, pickK, Nat.reduceBEq, Nat.reduceAdd, Int.reduceBEq, Int.reduceBNe, Int.reduceLT, aPost, resK, tup, tyf, hw.len, hwl, ↓aw_loop_eq]
      refine aws_hide fun Q3 hQ3 => ?_
      refine aw_loop (γ := Nat × Heap × Value) (fun s => s.1 ≤ i ∧ Ext (fun _ => False) h s.2.1 ∧ OwnP 52 s.2.1 s.2.2 (tuJ xs os a i s.1) ∧ ∀ b, blkOf s.2.2 = some b → h.length ≤ b)
        (fun s => ([(0, gv), (1, cv), (4, .bool false), (5, uv), (7, pv), (9, nv), (11, s.2.2), (12, vint i), (13, vint a), (80, uv), (81, vint os.length), (82, vint i), (105, wv), (106, vint i), (107, vint s.1)], s.2.1)) (fun s => i - s.1) (0, hp, tv) ⟨Nat.zero_le _, hE, by rw [tuJ]; simpa using ho, hbk⟩ (by simp (maxSteps := 2000000) only [↓aw_region, ↓aw_skip, ↓aw_seq, ↓aw_block, ↓aw_exit, ↓aw_ret, ↓sops_nil, ↓sops_go, ↓dops_nil, ↓dopsX_nil, ↓dopsR_nil, ↓vdn, vup, extr_20, extr_21, extr_30, extr_31, extr_32, List.map_cons, List.map_nil, cond_true, cond_false, aop, aThen, aBlock, argEnv, ev, sput, sputO, binK, binI, unK, builtinK, pickK, Nat.reduceBEq, Nat.reduceAdd, Int.reduceBEq, Int.reduceBNe, Int.reduceLT, aPost, resK, tup, tyf, Int.natCast_zero]) rfl ?_
      rintro ⟨j, hq, tw⟩ ⟨hj, hE2, ho2, hbk2⟩
      simp only at hj hE2 ho2 hbk2
      refine aw_hide fun Q4 hQ4 => ?_
      have hw2 := IntSl_ext hw hE2
      have hv2 := IntSl_ext hv hE2
      by_cases hjn : (j : Int) < i
      · have hj' : j < i := by omega
        have hj2 : j < (os.take i).length := by omega
        obtain ⟨c, hc, hcx⟩ := agTo_rng hio (show j < os.length by omega)
        have hstep := tuJ_step (xs := xs) (a := a) hi hj' hc
        cases hb : bb xs a c with
        | false =>
          have e01 : ((0 : Int) == 1) = false := rfl
          rw [hb, if_neg (by decide), List.append_nil] at hstep
          simp (maxSteps := 2000000) only [s11, ↓aw_region, ↓aw_skip, ↓aw_seq, ↓aw_block, ↓aw_exit, ↓aw_ret, ↓sops_nil, ↓sops_go, ↓dops_nil, ↓dopsX_nil, ↓dopsR_nil, ↓vdn, vup, extr_20, extr_21, extr_30, extr_31, extr_32, List.map_cons, List.map_nil, cond_true, cond_false, aop, aThen, aBlock, argEnv, ev, sput, sputO, binK, binI, unK, builtinK, pickK, Nat.reduceBEq, Nat.reduceAdd, Int.reduceBEq, Int.reduceBNe, Int.reduceLT, aPost, resK, tup, tyf, l11_0, hjn, hw2.idx el_22 esz_3 hj2, hw2.load shp_3 hj2, hwx j hj', hc, hv2.idx el_22 esz_3 hax, hv2.load shp_3 hax, hnn, tt a c hax, hb, Bool.false_eq_true, if_false, e01, add1 (show j < 9223372036854775807 by omega)]
          exact hQ4 _ _ _ ⟨(j + 1, hq, tw), ⟨hj', hE2, by rw [hstep]; exact ho2, hbk2⟩, by simp only; omega, by simp (maxSteps := 2000000) only [↓aw_region, ↓aw_skip, ↓aw_seq, ↓aw_block, ↓aw_exit, ↓aw_ret, ↓sops_nil, ↓sops_go, ↓dops_nil, ↓dopsX_nil, ↓dopsR_nil, ↓vdn, vup, extr_20, extr_21, extr_30, extr_31, extr_32, List.map_cons, List.map_nil, cond_true, cond_false, aop, aThen, aBlock, argEnv, ev, sput, sputO, binK, binI, unK, builtinK, pickK, Nat.reduceBEq, Nat.reduceAdd, Int.reduceBEq, Int.reduceBNe, Int.reduceLT, aPost, resK, tup, tyf], rfl⟩
        | true =>
          have e11 : ((1 : Int) == 1) = true := rfl
          have hmin : (if ((c : Nat) : Int) < ((a : Nat) : Int) then ((c : Nat) : Int) else ((a : Nat) : Int)) = ((min a c : Nat) : Int) := by split <;> omega
          have hmax : (if ((a : Nat) : Int) < ((c : Nat) : Int) then ((c : Nat) : Int) else ((a : Nat) : Int)) = ((max a c : Nat) : Int) := by split <;> omega
          rw [hb, if_pos rfl] at hstep
          simp (maxSteps := 2000000) only [s11, ↓aw_region, ↓aw_skip, ↓aw_seq, ↓aw_block, ↓aw_exit, ↓aw_ret, ↓sops_nil, ↓sops_go, ↓dops_nil, ↓dopsX_nil, ↓dopsR_nil, ↓vdn, vup, extr_20, extr_21, extr_30, extr_31, extr_32, List.map_cons, List.map_nil, cond_true, cond_false, aop, aThen, aBlock, argEnv, ev, sput, sputO, binK, binI, unK, builtinK, pickK, Nat.reduceBEq, Nat.reduceAdd, Int.reduceBEq, Int.reduceBNe, Int.reduceLT, aPost, resK, tup, tyf, l11_0, hjn, hw2.idx el_22 esz_3 hj2, hw2.load shp_3 hj2, hwx j hj', hc, hv2.idx el_22 esz_3 hax, hv2.load shp_3 hax, hnn, tt a c hax, hb, if_true, e11, mmK, Bool.false_eq_true, if_false, gt_iff_lt, hmin, hmax, bld2, lit1Q]
          refine (ho2.ext (Ext.app _ _ _)).append app_46_46 (by have := tuJ_len (xs := xs) (os := os) (a := a) (j := j) (show i ≤ 8 by omega); omega) (get_new _ _) fun tw3 h3 ho3 hE3 hb3 => ?_
          have hE4 : Ext (fun _ => False) h h3 := ⟨Nat.le_trans (hE2.trans (Ext.app _ _ _)).1 hE3.1, fun b hb _ => by
            rw [hE3.2 b (Nat.lt_of_lt_of_le hb (hE2.trans (Ext.app (fun _ => False) _ [Blk.ints [((min a c : Nat) : Int), ((max a c : Nat) : Int)] 52 false])).1) (fun e => by have := hbk2 b e; omega)]
            exact (hE2.trans (Ext.app _ _ _)).2 b hb id⟩
          simp (maxSteps := 2000000) only [s11, ↓aw_region, ↓aw_skip, ↓aw_seq, ↓aw_block, ↓aw_exit, ↓aw_ret, ↓sops_nil, ↓sops_go, ↓dops_nil, ↓dopsX_nil, ↓dopsR_nil, ↓vdn, vup, extr_20, extr_21, extr_30, extr_31, extr_32, List.map_cons, List.map_nil, cond_true, cond_false, aop, aThen, aBlock, argEnv, ev, sput, sputO, binK, binI, unK, builtinK, pickK, Nat.reduceBEq, Nat.reduceAdd, Int.reduceBEq, Int.reduceBNe, Int.reduceLT, aPost, resK, tup, tyf, add1 (show j < 9223372036854775807 by omega)]
          refine hQ4 _ _ _ ⟨(j + 1, h3, tw3), ⟨hj', hE4, by rw [hstep]; exact ho3, fun b hb => ?_⟩, by simp only; omega, by simp (maxSteps := 2000000) only [↓aw_region, ↓aw_skip, ↓aw_seq, ↓aw_block, ↓aw_exit, ↓aw_ret, ↓sops_nil, ↓sops_go, ↓dops_nil, ↓dopsX_nil, ↓dopsR_nil, ↓vdn, vup, extr_20, extr_21, extr_30, extr_31, extr_32, List.map_cons, List.map_nil, cond_true, cond_false, aop, aThen, aBlock, argEnv, ev, sput, sputO, binK, binI, unK, builtinK, pickK, Nat.reduceBEq, Nat.reduceAdd, Int.reduceBEq, Int.reduceBNe, Int.reduceLT, aPost, resK, tup, tyf], rfl⟩
          rcases hb3 with e | ⟨b', e, hle⟩
          · exact hbk2 b (e ▸ hb)
          · rw [e] at hb; cases hb
            have := hE2.1
            rw [List.length_append] at hle; omega
      · obtain rfl : i = j := by omega
        rw [tuJ_all hi' ha] at ho2
        simp (maxSteps := 2000000) only [s11, ↓aw_region, ↓aw_skip, ↓aw_seq, ↓aw_block, ↓aw_exit, ↓aw_ret, ↓sops_nil, ↓sops_go, ↓dops_nil, ↓dopsX_nil, ↓dopsR_nil, ↓vdn, vup, extr_20, extr_21, extr_30, extr_31, extr_32, List.map_cons, List.map_nil, cond_true, cond_false, aop, aThen, aBlock, argEnv, ev, sput, sputO, binK, binI, unK, builtinK, pickK, Nat.reduceBEq, Nat.reduceAdd, Int.reduceBEq, Int.reduceBNe, Int.reduceLT, aPost, resK, tup, tyf, l11_0, Int.lt_irrefl]
        refine hQ4 _ _ _ (hQ3 _ _ _ ?_)
        simp (maxSteps := 2000000) only [s11, ↓aw_region, ↓aw_skip, ↓aw_seq, ↓aw_block, ↓aw_exit, ↓aw_ret, ↓sops_nil, ↓sops_go, ↓dops_nil, ↓dopsX_nil, ↓dopsR_nil, ↓vdn, vup, extr_20, extr_21, extr_30, extr_31, extr_32, List.map_cons, List.map_nil, cond_true, cond_false, aop, aThen, aBlock, argEnv, ev, sput, sputO, binK, binI, unK, builtinK, pickK, Nat.reduceBEq, Nat.reduceAdd, Int.reduceBEq, Int.reduceBNe, Int.reduceLT, aPost, resK, tup, tyf, if_true]
        refine hK [(0, gv), (1, cv), (4, .bool false), (5, uv), (7, pv), (9, nv), (11, tw), (80, uv), (81, vint os.length), (82, vint i)] _ _ ?_ (by simp (maxSteps := 2000000) only [↓aw_region, ↓aw_skip, ↓aw_seq, ↓aw_block, ↓aw_exit, ↓aw_ret, ↓sops_nil, ↓sops_go, ↓dops_nil, ↓dopsX_nil, ↓dopsR_nil, ↓vdn, vup, extr_20, extr_21, extr_30, extr_31, extr_32, List.map_cons, List.map_nil, cond_true, cond_false, aop, aThen, aBlock, argEnv, ev, sput, sputO, binK, binI, unK, builtinK, pickK, Nat.reduceBEq, Nat.reduceAdd, Int.reduceBEq, Int.reduceBNe, Int.reduceLT, aPost, resK, tup, tyf])
        refine aw_aws ?_
        simp (maxSteps := 2000000) only [s11, ↓aw_region, ↓aw_skip, ↓aw_seq, ↓aw_block, ↓aw_exit, ↓aw_ret, ↓sops_nil, ↓sops_go, ↓dops_nil, ↓dopsX_nil, ↓dopsR_nil, ↓vdn, vup, extr_20, extr_21, extr_30, extr_31, extr_32, List.map_cons, List.map_nil, cond_true, cond_false, aop, aThen, aBlock, argEnv, ev, sput, sputO, binK, binI, unK, builtinK, pickK, Nat.reduceBEq, Nat.reduceAdd, Int.reduceBEq, Int.reduceBNe, Int.reduceLT, aPost, resK, tup, tyf, add1 (show i < 9223372036854775807 by omega)]
        exact hQ2 _ _ _ ⟨(i + 1, hq, tw), ⟨hi', hE2, ho2, hbk2⟩, by simp only; omega, by simp (maxSteps := 2000000) only [↓aw_region, ↓aw_skip, ↓aw_seq, ↓aw_block, ↓aw_exit, ↓aw_ret, ↓sops_nil, ↓sops_go, ↓dops_nil, ↓dopsX_nil, ↓dopsR_nil, ↓vdn, vup, extr_20, extr_21, extr_30, extr_31, extr_32, List.map_cons, List.map_nil, cond_true, cond_false, aop, aThen, aBlock, argEnv, ev, sput, sputO, binK, binI, unK, builtinK, pickK, Nat.reduceBEq, Nat.reduceAdd, Int.reduceBEq, Int.reduceBNe, Int.reduceLT, aPost, resK, tup, tyf], rfl⟩
    rcases Nat.eq_zero_or_pos i with h0 | hpos
    · have h0' : ¬ (0 : Int) < (i : Int) := by omega
      simp (maxSteps := 2000000) only [s11, ↓aw_region, ↓aw_skip, ↓aw_seq, ↓aw_block, ↓aw_exit, ↓aw_ret, ↓sops_nil, ↓sops_go, ↓dops_nil, ↓dopsX_nil, ↓dopsR_nil, ↓vdn, vup, extr_20, extr_21, extr_30, extr_31, extr_32, List.map_cons, List.map_nil, cond_true, cond_false, aop, aThen, aBlock, argEnv, ev, sput, sputO, binK, binI, unK, builtinK, pickK, Nat.reduceBEq, Nat.reduceAdd, Int.reduceBEq, Int.reduceBNe, Int.reduceLT, aPost, resK, tup, tyf, gt_iff_lt, h0']
      exact fin _ (by simp (maxSteps := 2000000) only [↓aw_region, ↓aw_skip, ↓aw_seq, ↓aw_block, ↓aw_exit, ↓aw_ret, ↓sops_nil, ↓sops_go, ↓dops_nil, ↓dopsX_nil, ↓dopsR_nil, ↓vdn, vup, extr_20, extr_21, extr_30, extr_31, extr_32, List.map_cons, List.map_nil, cond_true, cond_false, aop, aThen, aBlock, argEnv, ev, sput, sputO, binK, binI, unK, builtinK, pickK, Nat.reduceBEq, Nat.reduceAdd, Int.reduceBEq, Int.reduceBNe, Int.reduceLT, aPost, resK, tup, tyf])
    · obtain ⟨c, hc, hcx⟩ := agTo_rng hio (show i - 1 < os.length by omega)
      have e1 : i - 1 + 1 = i := by omega
      have hb := hnx (i - 1) c a (by omega) hc (by rw [e1]; exact ha)
      have hpos' : (0 : Int) < (i : Int) := by omega
      have hsub : subV .i64 (i : Int) 1 = ((i - 1 : Nat) : Int) := by rw [subV_id (by omega) (by omega)]; omega
      have hk : i - 1 < os.length := by omega
      have e10 : ((1 : Int) == 0) = false := rfl
      simp (maxSteps := 2000000) only [s11, ↓aw_region, ↓aw_skip, ↓aw_seq, ↓aw_block, ↓aw_exit, ↓aw_ret, ↓sops_nil, ↓sops_go, ↓dops_nil, ↓dopsX_nil, ↓dopsR_nil, ↓vdn, vup, extr_20, extr_21, extr_30, extr_31, extr_32, List.map_cons, List.map_nil, cond_true, cond_false, aop, aThen, aBlock, argEnv, ev, sput, sputO, binK, binI, unK, builtinK, pickK, Nat.reduceBEq, Nat.reduceAdd, Int.reduceBEq, Int.reduceBNe, Int.reduceLT, aPost, resK, tup, tyf, gt_iff_lt, hpos', hsub, hu'.idx el_22 esz_3 hk, hu'.load shp_3 hk, hc, hv'.idx el_22 esz_3 hcx, hv'.load shp_3 hcx, hnn, tt c a hcx, hb, if_true, e10]
      exact fin _ (by simp (maxSteps := 2000000) only [↓aw_region, ↓aw_skip, ↓aw_seq, ↓aw_block, ↓aw_exit, ↓aw_ret, ↓sops_nil, ↓sops_go, ↓dops_nil, ↓dopsX_nil, ↓dopsR_nil, ↓vdn, vup, extr_20, extr_21, extr_30, extr_31, extr_32, List.map_cons, List.map_nil, cond_true, cond_false, aop, aThen, aBlock, argEnv, ev, sput, sputO, binK, binI, unK, builtinK, pickK, Nat.reduceBEq, Nat.reduceAdd, Int.reduceBEq, Int.reduceBNe, Int.reduceLT, aPost, resK, tup, tyf])
  · obtain rfl : i = os.length := by omega
    refine aws_cut fun Y hY => ?_
    simp (maxSteps := 2000000) only [s11, ↓aw_region, ↓aw_skip, ↓aw_seq, ↓aw_block, ↓aw_exit, ↓aw_ret, ↓sops_nil, ↓sops_go, ↓dops_nil, ↓dopsX_nil, ↓dopsR_nil, ↓vdn, vup, extr_20, extr_21, extr_30, extr_31, extr_32, List.map_cons, List.map_nil, cond_true, cond_false, aop, aThen, aBlock, argEnv, ev, sput, sputO, binK, binI, unK, builtinK, pickK, Nat.reduceBEq, Nat.reduceAdd, Int.reduceBEq, Int.reduceBNe, Int.reduceLT, aPost, resK, tup, tyf, Int.lt_irrefl]
    refine hY [(0, gv), (1, cv), (4, .bool false), (5, uv), (7, pv), (9, nv), (11, tv), (83, .bool false)] _ _ ?_ (by simp (maxSteps := 2000000) only [↓aw_region, ↓aw_skip, ↓aw_seq, ↓aw_block, ↓aw_exit, ↓aw_ret, ↓sops_nil, ↓sops_go, ↓dops_nil, ↓dopsX_nil, ↓dopsR_nil, ↓vdn, vup, extr_20, extr_21, extr_30, extr_31, extr_32, List.map_cons, List.map_nil, cond_true, cond_false, aop, aThen, aBlock, argEnv, ev, sput, sputO, binK, binI, unK, builtinK, pickK, Nat.reduceBEq, Nat.reduceAdd, Int.reduceBEq, Int.reduceBNe, Int.reduceLT, aPost, resK, tup, tyf])
    clear hY
    try clear Y
    refine aw_aws ?_
    simp (maxSteps := 2000000) only [s11, ↓aw_region, ↓aw_skip, ↓aw_seq, ↓aw_block, ↓aw_exit, ↓aw_ret, ↓sops_nil, ↓sops_go, ↓dops_nil, ↓dopsX_nil, ↓dopsR_nil, ↓vdn, vup, extr_20, extr_21, extr_30, extr_31, extr_32, List.map_cons, List.map_nil, cond_true, cond_false, aop, aThen, aBlock, argEnv, ev, sput, sputO, binK, binI, unK, builtinK, pickK, Nat.reduceBEq, Nat.reduceAdd, Int.reduceBEq, Int.reduceBNe, Int.reduceLT, aPost, resK, tup, tyf]
    refine hQ2 _ _ _ (hQ _ _ _ ?_)
    simp (maxSteps := 2000000) only [s11, ↓aw_region, ↓aw_skip, ↓aw_seq, ↓aw_block, ↓aw_exit, ↓aw_ret, ↓sops_nil, ↓sops_go, ↓dops_nil, ↓dopsX_nil, ↓dopsR_nil, ↓vdn, vup, extr_20, extr_21, extr_30, extr_31, extr_32, List.map_cons, List.map_nil, cond_true, cond_false, aop, aThen, aBlock, argEnv, ev, sput, sputO, binK, binI, unK, builtinK, pickK, Nat.reduceBEq, Nat.reduceAdd, Int.reduceBEq, Int.reduceBNe, Int.reduceLT, aPost, resK, tup, tyf, if_true]
    rw [tuP_all] at ho
    exact hN hp tv _ hE ho (by simp (maxSteps := 2000000) only [↓aw_region, ↓aw_skip, ↓aw_seq, ↓aw_block, ↓aw_exit, ↓aw_ret, ↓sops_nil, ↓sops_go, ↓dops_nil, ↓dopsX_nil, ↓dopsR_nil, ↓vdn, vup, extr_20, extr_21, extr_30, extr_31, extr_32, List.map_cons, List.map_nil, cond_true, cond_false, aop, aThen, aBlock, argEnv, ev, sput, sputO, binK, binI, unK, builtinK, pickK, Nat.reduceBEq, Nat.reduceAdd, Int.reduceBEq, Int.reduceBNe, Int.reduceLT, aPost, resK, tup, tyf])
end Go.Proofs.Tryd.Am

namespace Go.Proofs.Tryd.Am
open Go.Am
set_option maxRecDepth 100000
set_option maxHeartbeats 1000000

def cmpI (x y : Int) : Int := if x < y then -1 else if y < x then 1 else 0
def cmpL : List Int → List Int → Int
  | [], [] => 0
  | [], _ :: _ => -1
  | _ :: _, [] => 1
  | a :: l, x :: m => if cmpI a x = 0 then cmpL l m else cmpI a x
theorem isnan_call [Tabs prog] {h : Heap} {x : Int} : APure prog 99 [vint x] h (.bool false) := by
  refine s99_call (by simp) ?_
  have hb : (x != x) = false := bne_self_eq_false _
  simp (maxSteps := 2000000) only [s99, ↓aw_region, ↓aw_skip, ↓aw_seq, ↓aw_block, ↓aw_exit, ↓aw_ret, ↓sops_nil, ↓sops_go, ↓dops_nil, ↓dopsX_nil, ↓dopsR_nil, ↓vdn, vup, extr_20, extr_21, extr_30, extr_31, extr_32, List.map_cons, List.map_nil, cond_true, cond_false, aop, aThen, aBlock, argEnv, ev, sput, sputO, binK, binI, unK, builtinK, pickK, Nat.reduceBEq, Nat.reduceAdd, Int.reduceBEq, Int.reduceBNe, Int.reduceLT, aPost, resK, tup, tyf, hb]
theorem cmp_call [Tabs prog] {h : Heap} {x y : Int} : APure prog 80 [vint x, vint y] h (vint (cmpI x y)) := by
  refine s80_call (by simp) ?_
  simp (maxSteps := 2000000) only [s80, ↓aw_region, ↓aw_skip, ↓aw_seq, ↓aw_block, ↓aw_exit, ↓aw_ret, ↓sops_nil, ↓sops_go, ↓dops_nil, ↓dopsX_nil, ↓dopsR_nil, ↓vdn, vup, extr_20, extr_21, extr_30, extr_31, extr_32, List.map_cons, List.map_nil, cond_true, cond_false, aop, aThen, aBlock, argEnv, ev, sput, sputO, binK, binI, unK, builtinK, pickK, Nat.reduceBEq, Nat.reduceAdd, Int.reduceBEq, Int.reduceBNe, Int.reduceLT, aPost, resK, tup, tyf, callK, List.nil_append, List.append_nil, List.toList_toArray, List.cons_append]
  refine isnan_call.mono ?_
  rintro _ h1 ⟨rfl, rfl⟩
  simp (maxSteps := 2000000) only [s80, ↓aw_region, ↓aw_skip, ↓aw_seq, ↓aw_block, ↓aw_exit, ↓aw_ret, ↓sops_nil, ↓sops_go, ↓dops_nil, ↓dopsX_nil, ↓dopsR_nil, ↓vdn, vup, extr_20, extr_21, extr_30, extr_31, extr_32, List.map_cons, List.map_nil, cond_true, cond_false, aop, aThen, aBlock, argEnv, ev, sput, sputO, binK, binI, unK, builtinK, pickK, Nat.reduceBEq, Nat.reduceAdd, Int.reduceBEq, Int.reduceBNe, Int.reduceLT, aPost, resK, tup, tyf, callK, List.nil_append, List.append_nil, List.toList_toArray, List.cons_append]
  refine isnan_call.mono ?_
  rintro _ h1 ⟨rfl, rfl⟩
  by_cases h1 : x < y
  · have e : cmpI x y = -1 := if_pos h1
    simp (maxSteps := 2000000) only [s80, ↓aw_region, ↓aw_skip, ↓aw_seq, ↓aw_block, ↓aw_exit, ↓aw_ret, ↓sops_nil, ↓sops_go, ↓dops_nil, ↓dopsX_nil, ↓dopsR_nil, ↓vdn, vup, extr_20, extr_21, extr_30, extr_31, extr_32, List.map_cons, List.map_nil, cond_true, cond_false, aop, aThen, aBlock, argEnv, ev, sput, sputO, binK, binI, unK, builtinK, pickK, Nat.reduceBEq, Nat.reduceAdd, Int.reduceBEq, Int.reduceBNe, Int.reduceLT, aPost, resK, tup, tyf, h1, e]
  · by_cases h2 : y < x
    · have e : cmpI x y = 1 := by rw [cmpI, if_neg h1, if_pos h2]
      simp (maxSteps := 2000000) only [s80, ↓aw_region, ↓aw_skip, ↓aw_seq, ↓aw_block, ↓aw_exit, ↓aw_ret, ↓sops_nil, ↓sops_go, ↓dops_nil, ↓dopsX_nil, ↓dopsR_nil, ↓vdn, vup, extr_20, extr_21, extr_30, extr_31, extr_32, List.map_cons, List.map_nil, cond_true, cond_false, aop, aThen, aBlock, argEnv, ev, sput, sputO, binK, binI, unK, builtinK, pickK, Nat.reduceBEq, Nat.reduceAdd, Int.reduceBEq, Int.reduceBNe, Int.reduceLT, aPost, resK, tup, tyf, h1, h2, gt_iff_lt, e]
    · have e : cmpI x y = 0 := by rw [cmpI, if_neg h1, if_neg h2]
      simp (maxSteps := 2000000) only [s80, ↓aw_region, ↓aw_skip, ↓aw_seq, ↓aw_block, ↓aw_exit, ↓aw_ret, ↓sops_nil, ↓sops_go, ↓dops_nil, ↓dopsX_nil, ↓dopsR_nil, ↓vdn, vup, extr_20, extr_21, extr_30, extr_31, extr_32, List.map_cons, List.map_nil, cond_true, cond_false, aop, aThen, aBlock, argEnv, ev, sput, sputO, binK, binI, unK, builtinK, pickK, Nat.reduceBEq, Nat.reduceAdd, Int.reduceBEq, Int.reduceBNe, Int.reduceLT, aPost, resK, tup, tyf, h1, h2, gt_iff_lt, e]
theorem cmpL_at {xs ys : List Int} {i : Nat} (h1 : i < xs.length) (h2 : i < ys.length) : cmpL (xs.drop i) (ys.drop i) = if cmpI (xs.getD i 0) (ys.getD i 0) = 0 then cmpL (xs.drop (i + 1)) (ys.drop (i + 1)) else cmpI (xs.getD i 0) (ys.getD i 0) := by
  rw [List.drop_eq_getElem_cons h1, List.drop_eq_getElem_cons h2, cmpL, List.getD, List.getD, List.getElem?_eq_getElem h1, List.getElem?_eq_getElem h2]; rfl
theorem compare_call [Tabs prog] {h : Heap} {v w : Value} {xs ys : List Int} (hv : IntSl h v xs) (hw : IntSl h w ys) (hl : xs.length < 9223372036854775807) (hl2 : ys.length < 9223372036854775807) :
    APure prog 47 [v, w] h (vint (cmpL xs ys)) := by
  refine s47_call (by simp) ?_
  simp (maxSteps := 2000000) only [s47, ↓aw_region, ↓aw_skip, ↓aw_seq, ↓aw_block, ↓aw_exit, ↓aw_ret, ↓sops_nil, ↓sops_go, ↓dops_nil, ↓dopsX_nil, ↓dopsR_nil, ↓vdn, vup, extr_20, extr_21, extr_30, extr_31, extr_32, List.map_cons, List.map_nil, cond_true, cond_false, aop, aThen, aBlock, argEnv, ev, sput, sputO, binK, binI, unK, builtinK, pickK, Nat.reduceBEq, Nat.reduceAdd, Int.reduceBEq, Int.reduceBNe, Int.reduceLT, aPost, resK, tup, tyf, hv.len, ↓aw_loop_eq]
  refine aws_hide fun Q hQ => ?_
  refine aw_loop (γ := Nat) (fun i => i ≤ xs.length ∧ i ≤ ys.length ∧ cmpL xs ys = cmpL (xs.drop i) (ys.drop i))
    (fun i => ([(0, v), (1, w), (9, v), (10, vint xs.length), (11, vint i)], h)) (fun i => xs.length - i) 0 ⟨Nat.zero_le _, Nat.zero_le _, rfl⟩ (by simp (maxSteps := 2000000) only [↓aw_region, ↓aw_skip, ↓aw_seq, ↓aw_block, ↓aw_exit, ↓aw_ret, ↓sops_nil, ↓sops_go, ↓dops_nil, ↓dopsX_nil, ↓dopsR_nil, ↓vdn, vup, extr_20, extr_21, extr_30, extr_31, extr_32, List.map_cons, List.map_nil, cond_true, cond_false, aop, aThen, aBlock, argEnv, ev, sput, sputO, binK, binI, unK, builtinK, pickK, Nat.reduceBEq, Nat.reduceAdd, Int.reduceBEq, Int.reduceBNe, Int.reduceLT, aPost, resK, tup, tyf, Int.natCast_zero]) rfl ?_
  rintro i ⟨hi, hi2, he⟩
  refine aw_hide fun Q2 hQ2 => ?_
  by_cases hin : (i : Int) < xs.length
  · have h1 : i < xs.length := by omega
    by_cases hge : (ys.length : Int) ≤ (i : Int)
    · have hy : ys.drop i = [] := List.drop_eq_nil_of_le (by omega)
      have hx : cmpL xs ys = 1 := by rw [he, hy, List.drop_eq_getElem_cons h1]; rfl
      simp (maxSteps := 2000000) only [s47, ↓aw_region, ↓aw_skip, ↓aw_seq, ↓aw_block, ↓aw_exit, ↓aw_ret, ↓sops_nil, ↓sops_go, ↓dops_nil, ↓dopsX_nil, ↓dopsR_nil, ↓vdn, vup, extr_20, extr_21, extr_30, extr_31, extr_32, List.map_cons, List.map_nil, cond_true, cond_false, aop, aThen, aBlock, argEnv, ev, sput, sputO, binK, binI, unK, builtinK, pickK, Nat.reduceBEq, Nat.reduceAdd, Int.reduceBEq, Int.reduceBNe, Int.reduceLT, aPost, resK, tup, tyf, l47_0, hin, hv.idx el_22 esz_3 h1, hv.load shp_3 h1, hw.len, hge, ge_iff_le]
      refine hQ2 _ _ _ (hQ _ _ _ ?_)
      simp (maxSteps := 2000000) only [↓aw_region, ↓aw_skip, ↓aw_seq, ↓aw_block, ↓aw_exit, ↓aw_ret, ↓sops_nil, ↓sops_go, ↓dops_nil, ↓dopsX_nil, ↓dopsR_nil, ↓vdn, vup, extr_20, extr_21, extr_30, extr_31, extr_32, List.map_cons, List.map_nil, cond_true, cond_false, aop, aThen, aBlock, argEnv, ev, sput, sputO, binK, binI, unK, builtinK, pickK, Nat.reduceBEq, Nat.reduceAdd, Int.reduceBEq, Int.reduceBNe, Int.reduceLT, aPost, resK, tup, tyf, hx]
    · have h2 : i < ys.length := by omega
      simp (maxSteps := 2000000) only [s47, ↓aw_region, ↓aw_skip, ↓aw_seq, ↓aw_block, ↓aw_exit, ↓aw_ret, ↓sops_nil, ↓sops_go, ↓dops_nil, ↓dopsX_nil, ↓dopsR_nil, ↓vdn, vup, extr_20, extr_21, extr_30, extr_31, extr_32, List.map_cons, List.map_nil, cond_true, cond_false, aop, aThen, aBlock, argEnv, ev, sput, sputO, binK, binI, unK, builtinK, pickK, Nat.reduceBEq, Nat.reduceAdd, Int.reduceBEq, Int.reduceBNe, Int.reduceLT, aPost, resK, tup, tyf, l47_0, hin, hv.idx el_22 esz_3 h1, hv.load shp_3 h1, hw.len, hge, ge_iff_le, hw.idx el_22 esz_3 h2, hw.load shp_3 h2, callK, List.nil_append, List.append_nil, List.toList_toArray, List.cons_append]
      refine cmp_call.mono ?_
      rintro _ g ⟨rfl, rfl⟩
      by_cases hc : cmpI (xs.getD i 0) (ys.getD i 0) = 0
      · rw [cmpL_at h1 h2, if_pos hc] at he
        rw [hc]
        have hb : ((0 : Int) != 0) = false := rfl
        simp (maxSteps := 2000000) only [s47, ↓aw_region, ↓aw_skip, ↓aw_seq, ↓aw_block, ↓aw_exit, ↓aw_ret, ↓sops_nil, ↓sops_go, ↓dops_nil, ↓dopsX_nil, ↓dopsR_nil, ↓vdn, vup, extr_20, extr_21, extr_30, extr_31, extr_32, List.map_cons, List.map_nil, cond_true, cond_false, aop, aThen, aBlock, argEnv, ev, sput, sputO, binK, binI, unK, builtinK, pickK, Nat.reduceBEq, Nat.reduceAdd, Int.reduceBEq, Int.reduceBNe, Int.reduceLT, aPost, resK, tup, tyf, hb, add1 (show i < 9223372036854775807 by omega)]
        exact hQ2 _ _ _ ⟨i + 1, ⟨by omega, by omega, he⟩, by omega, by simp (maxSteps := 2000000) only [↓aw_region, ↓aw_skip, ↓aw_seq, ↓aw_block, ↓aw_exit, ↓aw_ret, ↓sops_nil, ↓sops_go, ↓dops_nil, ↓dopsX_nil, ↓dopsR_nil, ↓vdn, vup, extr_20, extr_21, extr_30, extr_31, extr_32, List.map_cons, List.map_nil, cond_true, cond_false, aop, aThen, aBlock, argEnv, ev, sput, sputO, binK, binI, unK, builtinK, pickK, Nat.reduceBEq, Nat.reduceAdd, Int.reduceBEq, Int.reduceBNe, Int.reduceLT, aPost, resK, tup, tyf], rfl⟩
      · rw [cmpL_at h1 h2, if_neg hc] at he
        have hb : (cmpI (xs.getD i 0) (ys.getD i 0) != 0) = true := by simp only [bne_iff_ne, ne_eq]; exact hc
        simp (maxSteps := 2000000) only [s47, ↓aw_region, ↓aw_skip, ↓aw_seq, ↓aw_block, ↓aw_exit, ↓aw_ret, ↓sops_nil, ↓sops_go, ↓dops_nil, ↓dopsX_nil, ↓dopsR_nil, ↓vdn, vup, extr_20, extr_21, extr_30, extr_31, extr_32, List.map_cons, List.map_nil, cond_true, cond_false, aop, aThen, aBlock, argEnv, ev, sput, sputO, binK, binI, unK, builtinK, pickK, Nat.reduceBEq, Nat.reduceAdd, Int.reduceBEq, Int.reduceBNe, Int.reduceLT, aPost, resK, tup, tyf, hb]
        refine hQ2 _ _ _ (hQ _ _ _ ?_)
        simp (maxSteps := 2000000) only [↓aw_region, ↓aw_skip, ↓aw_seq, ↓aw_block, ↓aw_exit, ↓aw_ret, ↓sops_nil, ↓sops_go, ↓dops_nil, ↓dopsX_nil, ↓dopsR_nil, ↓vdn, vup, extr_20, extr_21, extr_30, extr_31, extr_32, List.map_cons, List.map_nil, cond_true, cond_false, aop, aThen, aBlock, argEnv, ev, sput, sputO, binK, binI, unK, builtinK, pickK, Nat.reduceBEq, Nat.reduceAdd, Int.reduceBEq, Int.reduceBNe, Int.reduceLT, aPost, resK, tup, tyf, he]
  · obtain rfl : i = xs.length := by omega
    rw [List.drop_length] at he
    simp (maxSteps := 2000000) only [s47, ↓aw_region, ↓aw_skip, ↓aw_seq, ↓aw_block, ↓aw_exit, ↓aw_ret, ↓sops_nil, ↓sops_go, ↓dops_nil, ↓dopsX_nil, ↓dopsR_nil, ↓vdn, vup, extr_20, extr_21, extr_30, extr_31, extr_32, List.map_cons, List.map_nil, cond_true, cond_false, aop, aThen, aBlock, argEnv, ev, sput, sputO, binK, binI, unK, builtinK, pickK, Nat.reduceBEq, Nat.reduceAdd, Int.reduceBEq, Int.reduceBNe, Int.reduceLT, aPost, resK, tup, tyf, l47_0, Int.lt_irrefl]
    refine hQ2 _ _ _ (hQ _ _ _ ?_)
    by_cases hlt : (xs.length : Int) < (ys.length : Int)
    · have hx : cmpL xs ys = -1 := by rw [he, List.drop_eq_getElem_cons (by omega)]; rfl
      simp (maxSteps := 2000000) only [s47, ↓aw_region, ↓aw_skip, ↓aw_seq, ↓aw_block, ↓aw_exit, ↓aw_ret, ↓sops_nil, ↓sops_go, ↓dops_nil, ↓dopsX_nil, ↓dopsR_nil, ↓vdn, vup, extr_20, extr_21, extr_30, extr_31, extr_32, List.map_cons, List.map_nil, cond_true, cond_false, aop, aThen, aBlock, argEnv, ev, sput, sputO, binK, binI, unK, builtinK, pickK, Nat.reduceBEq, Nat.reduceAdd, Int.reduceBEq, Int.reduceBNe, Int.reduceLT, aPost, resK, tup, tyf, if_true, hv.len, hw.len, hlt, hx]
    · have hx : cmpL xs ys = 0 := by rw [he, List.drop_eq_nil_of_le (by omega)]; rfl
      simp (maxSteps := 2000000) only [s47, ↓aw_region, ↓aw_skip, ↓aw_seq, ↓aw_block, ↓aw_exit, ↓aw_ret, ↓sops_nil, ↓sops_go, ↓dops_nil, ↓dopsX_nil, ↓dopsR_nil, ↓vdn, vup, extr_20, extr_21, extr_30, extr_31, extr_32, List.map_cons, List.map_nil, cond_true, cond_false, aop, aThen, aBlock, argEnv, ev, sput, sputO, binK, binI, unK, builtinK, pickK, Nat.reduceBEq, Nat.reduceAdd, Int.reduceBEq, Int.reduceBNe, Int.reduceLT, aPost, resK, tup, tyf, if_true, hv.len, hw.len, hlt, hx]
/-- What stands first is not greater. -/
theorem cmpL_le : ∀ {l m : List Nat}, l.length = m.length → Rb.lexL l m → cmpL (l.map Int.ofNat) (m.map Int.ofNat) ≤ 0
  | [], [], _, _ => by decide
  | a :: l, x :: m, hl, h => by
    have hl' : l.length = m.length := by simpa using hl
    rw [List.map_cons, List.map_cons, cmpL]
    rcases h with h | ⟨rfl, h⟩
    · have e : cmpI (Int.ofNat a) (Int.ofNat x) = -1 := if_pos (Int.ofNat_lt.2 h)
      rw [e, if_neg (by decide)]; decide
    · have e : cmpI (Int.ofNat a) (Int.ofNat a) = 0 := by rw [cmpI, if_neg (Int.lt_irrefl _), if_neg (Int.lt_irrefl _)]
      rw [e, if_pos rfl]
      exact cmpL_le hl' h
  | [], _ :: _, h, _ => by cases h
  | _ :: _, [], h, _ => by cases h
end Go.Proofs.Tryd.Am

namespace Go.Proofs.Tryd.Am
open Go.Am Redei Rb
set_option maxRecDepth 100000
set_option maxHeartbeats 1000000

theorem iL_get (L : List Nat) (i : Nat) : (iL L).getD i 0 = ((L.getD i 0 : Nat) : Int) := by
  rw [List.getD, List.getElem?_map, List.getD]; cases L[i]? <;> rfl
theorem iL_set (L : List Nat) (i x : Nat) : (iL L).set i ((x : Nat) : Int) = iL (L.set i x) := by simp only [iL, List.map_set]; rfl
theorem getD_setN {L : List Nat} {s x i : Nat} (hs : s < L.length) : (L.set s x).getD i 0 = if i = s then x else L.getD i 0 := by
  rw [List.getD, List.getElem?_set]
  by_cases h : s = i
  · subst h; simp [hs]
  · rw [if_neg h, if_neg (Ne.symm h)]; rfl
abbrev tv (b M : Nat) : Value := .slice (some ⟨b, 0, none⟩) M M
section tab
variable {hp : Heap} {b M : Nat} {L : List Nat}
theorem tab_idx (hb : hp[b]? = some (.ints (iL L) 3 false)) (hL : L.length = M) {i : Nat} (hi : i < M) {K : Value → Prop} : idxAddrK prog 22 (tv b M) (vint i) K = K (.pointer (some ⟨b, i, none⟩)) := by
  have h1 := intSl_blk hb
  rw [iL_len, hL] at h1
  rw [h1.idx el_22 esz_3 (by rw [iL_len, hL]; exact hi), elemP_new]
theorem tab_load (hb : hp[b]? = some (.ints (iL L) 3 false)) (hL : L.length = M) {i : Nat} (hi : i < M) {K : Value → Prop} : loadK prog hp 3 (.pointer (some ⟨b, i, none⟩)) K = K (vint (L.getD i 0 : Nat)) := by
  have h1 := intSl_blk hb
  rw [iL_len, hL] at h1
  have := h1.load shp_3 (i := i) (by rw [iL_len, hL]; exact hi) K
  rw [elemP_new, iL_get] at this
  exact this
theorem tab_store (hb : hp[b]? = some (.ints (iL L) 3 false)) (hL : L.length = M) {i x : Nat} (hi : i < M) {K : Heap → Prop} : storeK prog hp 3 (.pointer (some ⟨b, i, none⟩)) (vint (x : Nat)) K = K (hp.set b (.ints (iL (L.set i x)) 3 false)) := by
  rw [storeBI hb shp_3 (by rw [iL_len, hL]; exact hi), iL_set]
end tab

/-- What the run leans on: the tournament, the table, and the function that says what a player brings. -/
structure OB (h hp : Heap) (gv : Value) (M : Nat) (T : List Nat) : Prop where
  b1 : hp[h.length]? = some (.cells [gv] 22 false)
  bT : hp[h.length + 1]? = some (.ints (iL T) 3 false)
  b5 : hp[h.length + 2]? = some (.cells [tv (h.length + 1) M] 22 false)
  b6 : hp[h.length + 3]? = some (.cells [.func (.func 75) #[] #[pt h.length, pt (h.length + 2)]] 69 false)
  E : Ext (fun _ => False) h hp
  len : T.length = M
section
variable {h hp hp2 : Heap} {gv : Value} {M : Nat} {T : List Nat}
theorem OB.up (o : OB h hp gv M T) (hE : Ext (fun i => h.length + 4 ≤ i) hp hp2) : OB h hp2 gv M T := by
  have k : ∀ {i B}, i < h.length + 4 → hp[i]? = some B → hp2[i]? = some B := fun hi hb => (hE.2 _ (get_lt hb) (by omega)).trans hb
  exact ⟨k (by omega) o.b1, k (by omega) o.bT, k (by omega) o.b5, k (by omega) o.b6, ⟨Nat.le_trans o.E.1 hE.1, fun i hi _ => (hE.2 i (Nat.lt_of_lt_of_le hi o.E.1) (by omega)).trans (o.E.2 i hi id)⟩, o.len⟩
theorem OB.tab (o : OB h hp gv M T) {T2 : List Nat} (hT : T2.length = M) : OB h (hp.set (h.length + 1) (.ints (iL T2) 3 false)) gv M T2 := by
  have hl := get_lt o.bT
  refine ⟨?_, get_set hl _, ?_, ?_, o.E.set_ge (by omega) _, hT⟩
  · rw [List.getElem?_set_ne (by omega)]; exact o.b1
  · rw [List.getElem?_set_ne (by omega)]; exact o.b5
  · rw [List.getElem?_set_ne (by omega)]; exact o.b6
end
theorem cst_le (xs : List Int) (i s : Nat) : cst xs i s ≤ 64 := by
  rw [cst, bitsLen]
  have := List.countP_le_length (p := ((xs.getD i 0).toNat &&& s).testBit) (l := List.range 64)
  rw [List.length_range] at this; exact this

theorem mnF_snoc {v : Nat → Nat} : ∀ (l : List Nat) (b x : Nat), mnF v (l ++ [x]) b = if v x < mnF v l b then v x else mnF v l b
  | [], b, x => rfl
  | i :: l, b, x => by rw [List.cons_append, mnF, mnF_snoc l, mnF]
theorem mnI (a b : Nat) : (if ((b : Nat) : Int) < ((a : Nat) : Int) then ((b : Nat) : Int) else ((a : Nat) : Int)) = ((if b < a then b else a : Nat) : Int) := by
  by_cases h : b < a
  · rw [if_pos h, if_pos (by omega)]
  · rw [if_neg h, if_neg (by omega)]
/-- Who is left, as the program goes through them. -/
theorem bits_left {n s M : Nat} (hM : 2 ^ n = M) (hn : n ≤ 64) (hs : s < M) : Am.bits (less (M - 1) s) = fr n s := by
  rw [← hM] at hs ⊢
  have key : ∀ d, (List.range (n + d)).filter (less (2 ^ n - 1) s).testBit = (List.range n).filter fun i => !s.testBit i := by
    intro d
    induction d with
    | zero =>
      refine List.filter_congr fun i hi => ?_
      have hi' : i < n := List.mem_range.1 hi
      rw [less_testBit, Nat.testBit_two_pow_sub_one, decide_eq_true hi', Bool.true_and]
    | succ d ih =>
      rw [← Nat.add_assoc, List.range_succ, List.filter_append, ih]
      have : (less (2 ^ n - 1) s).testBit (n + d) = false := by rw [less_testBit, Nat.testBit_two_pow_sub_one, decide_eq_false (by omega), Bool.false_and]
      simp [this]
  have := key (64 - n)
  rw [show n + (64 - n) = 64 by omega] at this
  rw [Am.bits, fr]; exact this
/-- What the table says of the sets that are done. -/
def TOk (xs : List Int) (M t : Nat) (T : List Nat) : Prop := (∀ s, t ≤ s → s < M → T.getD s 0 = rst (cst xs) xs.length (fr xs.length s).length s) ∧ ∀ s, T.getD s 0 ≤ 64
theorem rst_64 {xs : List Int} (hl : xs.length ≤ 8) {s : Nat} (hs : s < 2 ^ xs.length) : rst (cst xs) xs.length (fr xs.length s).length s ≤ 64 := by
  have h1 := rst_le (cst_few hl) _ s hs rfl
  have h2 := (tri_le xs.length hl _ (fr_le xs.length s)).1
  have h3 : xs.length * xs.length ≤ 8 * 8 := Nat.mul_le_mul hl hl
  omega
theorem fr_full {n s M : Nat} (hM : 2 ^ n = M) (hs : s < M) : fr n s = [] ↔ s = M - 1 := by
  rw [← hM] at hs ⊢
  constructor
  · intro h0
    apply Nat.eq_of_testBit_eq
    intro i
    rw [Nat.testBit_two_pow_sub_one]
    by_cases hi : i < n
    · cases hb : s.testBit i with
      | true => simp [hi]
      | false =>
        have : i ∈ fr n s := mem_fr.2 ⟨hi, hb⟩
        rw [h0] at this; cases this
    · rw [Nat.testBit_lt_two_pow (Nat.lt_of_lt_of_le hs (Nat.pow_le_pow_right (by decide) (by omega)))]; simp [hi]
  · rintro rfl
    rw [List.eq_nil_iff_forall_not_mem]
    intro i hi
    have := mem_fr.1 hi
    rw [Nat.testBit_two_pow_sub_one] at this
    simp [this.1] at this
end Go.Proofs.Tryd.Am

namespace Go.Proofs.Tryd.Am
open Go.Am Redei Rb
set_option maxRecDepth 100000
set_option maxHeartbeats 1000000

theorem s75_callW [Tabs Tryd.prog] {args : List Value} {h : Heap} {Q : Value → Heap → Prop} (hsz : args.length ≤ 22) (hk : AWS Tryd.prog 22 s75 (aPost Tryd.prog [.tmp 6] Q) (argEnv 0 args) h) : ACall Tryd.prog 75 args h Q :=
  acall_w Tryd.func75 rfl (enters_of Tryd.func75 (by kernel_rfl) rfl) rfl rfl (by decide) s75_strip s75_ok hsz hk
theorem cost_call [Tabs prog] {h hp : Heap} {gv : Value} {xs : List Int} {M : Nat} {T : List Nat} (o : OB h hp gv M T) (hv : IntSl h gv xs) (ht : trn xs = true) (hM : 2 ^ xs.length = M) {s i : Nat} (hs : s < M) (hi : i < xs.length) (hT : T.getD (s ||| 2 ^ i) 0 ≤ 1000) :
    APure prog 75 [vint s, vint i, pt h.length, pt (h.length + 2)] hp (vint (cst xs i s + T.getD (s ||| 2 ^ i) 0 : Nat)) := by
  have hnn : ∀ i : Nat, (0 : Int) ≤ (i : Int) := Int.natCast_nonneg
  have hxl : 1 ≤ xs.length ∧ xs.length ≤ 8 := by simp only [trn, Bool.and_eq_true, decide_eq_true_eq] at ht; omega
  have h256 := pow8N hxl.2
  have hvp := IntSl_ext hv o.E
  obtain ⟨hX, hXl⟩ := trn_nat ht hi
  obtain ⟨X, hXe⟩ : ∃ X, X = (xs.getD i 0).toNat := ⟨_, rfl⟩
  have hcX : cst xs i s = (Am.bits (X &&& s)).length := by rw [cst, ← hXe]
  rw [← hXe] at hX hXl
  have hc64 := cst_le xs i s
  have p2 : 2 ^ i ≤ 2 ^ 8 := Nat.pow_le_pow_right (by decide) (by omega)
  have hor : bitsV .or .i64 ((s : Nat) : Int) ((2 ^ i : Nat) : Int) = ((s ||| 2 ^ i : Nat) : Int) := bitsV_or (by omega) (by omega)
  have hand : bitsV .and .i64 ((X : Nat) : Int) ((s : Nat) : Int) = ((X &&& s : Nat) : Int) := bitsV_and (by omega) (by omega)
  have hal : X &&& s < 256 := Nat.lt_of_le_of_lt Nat.and_le_right (by omega)
  have hsi : s ||| 2 ^ i < M := by rw [← hM]; exact put_lt (by rw [hM]; exact hs) hi
  have hadd : addV .i64 (((Am.bits (X &&& s)).length : Nat) : Int) ((T.getD (s ||| 2 ^ i) 0 : Nat) : Int) = ((cst xs i s + T.getD (s ||| 2 ^ i) 0 : Nat) : Int) := by
    rw [← hcX, addV_id (by omega) (by omega)]; omega
  refine s75_callW (by simp) ?_
  simp only [s75]
  refine aws_cut fun N1 hN1 => ?_
  simp (maxSteps := 2000000) only [s75, ↓aw_region, ↓aw_skip, ↓aw_seq, ↓aw_block, ↓aw_exit, ↓aw_ret, ↓sops_nil, ↓sops_go, ↓dops_nil, ↓dopsX_nil, ↓dopsR_nil, ↓vdn, vup, extr_20, extr_21, extr_30, extr_31, extr_32, List.map_cons, List.map_nil, cond_true, cond_false, aop, aThen, aBlock, argEnv, ev, sput, sputO, binK, binI, unK, builtinK, pickK, Nat.reduceBEq, Nat.reduceAdd, Int.reduceBEq, Int.reduceBNe, Int.reduceLT, aPost, resK, tup, tyf]
  refine hN1 [(0, vint s), (1, vint i), (2, pt h.length), (3, pt (h.length + 2)), (6, .int .i64 0)] _ _ ?_ (by simp (maxSteps := 2000000) only [↓aw_region, ↓aw_skip, ↓aw_seq, ↓aw_block, ↓aw_exit, ↓aw_ret, ↓sops_nil, ↓sops_go, ↓dops_nil, ↓dopsX_nil, ↓dopsR_nil, ↓vdn, vup, extr_20, extr_21, extr_30, extr_31, extr_32, List.map_cons, List.map_nil, cond_true, cond_false, aop, aThen, aBlock, argEnv, ev, sput, sputO, binK, binI, unK, builtinK, pickK, Nat.reduceBEq, Nat.reduceAdd, Int.reduceBEq, Int.reduceBNe, Int.reduceLT, aPost, resK, tup, tyf])
  clear hN1
  try clear N1
  refine aw_aws ?_
  simp (maxSteps := 2000000) only [s75, ↓aw_region, ↓aw_skip, ↓aw_seq, ↓aw_block, ↓aw_exit, ↓aw_ret, ↓sops_nil, ↓sops_go, ↓dops_nil, ↓dopsX_nil, ↓dopsR_nil, ↓vdn, vup, extr_20, extr_21, extr_30, extr_31, extr_32, List.map_cons, List.map_nil, cond_true, cond_false, aop, aThen, aBlock, argEnv, ev, sput, sputO, binK, binI, unK, builtinK, pickK, Nat.reduceBEq, Nat.reduceAdd, Int.reduceBEq, Int.reduceBNe, Int.reduceLT, aPost, resK, tup, tyf]
  refine aw_drawX [(6, 1)] (by kernel_rfl) (by kernel_rfl) (by kernel_rfl) (by kernel_rfl) ?_
  have band : ∀ {K : Value → Prop}, binK prog .and 3 (.int .i64 ((X : Nat) : Int)) (.int .i64 ((s : Nat) : Int)) K = K (vint (X &&& s : Nat)) := fun {K} => by
    simp only [binK, binI]; rw [hand, true_and]
  simp (maxSteps := 2000000) only [s75, ↓aw_region, ↓aw_skip, ↓aw_seq, ↓aw_block, ↓aw_exit, ↓aw_ret, ↓sops_nil, ↓sops_go, ↓dops_nil, ↓dopsX_nil, ↓dopsR_nil, ↓vdn, vup, extr_20, extr_21, extr_30, extr_31, extr_32, List.map_cons, List.map_nil, cond_true, cond_false, aop, aThen, aBlock, argEnv, ev, sput, sputO, builtinK, Nat.reduceBEq, Nat.reduceAdd, Int.reduceBEq, Int.reduceBNe, Int.reduceLT, aPost, resK, tup, tyf, load1 o.b1 shp_22, hvp.idx el_22 esz_3 hi, hvp.load shp_3 hi, hX, band, load1 o.b5 shp_22, callK, List.nil_append, List.append_nil, List.toList_toArray, List.cons_append]
  refine ⟨_, _, count_call hal, rfl, ?_⟩
  simp (maxSteps := 2000000) only [s75, ↓aw_region, ↓aw_skip, ↓aw_seq, ↓aw_block, ↓aw_exit, ↓aw_ret, ↓sops_nil, ↓sops_go, ↓dops_nil, ↓dopsX_nil, ↓dopsR_nil, ↓vdn, vup, extr_20, extr_21, extr_30, extr_31, extr_32, List.map_cons, List.map_nil, cond_true, cond_false, aop, aThen, aBlock, argEnv, ev, sput, sputO, binK, binI, unK, builtinK, pickK, Nat.reduceBEq, Nat.reduceAdd, Int.reduceBEq, Int.reduceBNe, Int.reduceLT, aPost, resK, tup, tyf, load1 o.b5 shp_22, hnn, shlI1 (show i ≤ 62 by omega), hor, tab_idx o.bT o.len hsi, tab_load o.bT o.len hsi, hadd]

end Go.Proofs.Tryd.Am

namespace Go.Proofs.Tryd.Am
open Go.Am Redei Rb
set_option maxRecDepth 100000
set_option maxHeartbeats 1000000

theorem or_gt {s i : Nat} (h : s.testBit i = false) : s + 1 ≤ s ||| 2 ^ i := by
  have h1 : s ≤ s ||| 2 ^ i := Nat.left_le_or
  have h2 : s ≠ s ||| 2 ^ i := fun e => by
    have : (s ||| 2 ^ i).testBit i = true := by rw [Nat.testBit_or, Nat.testBit_two_pow]; simp
    rw [← e, h] at this; cases this
  omega
theorem band {x s : Nat} (hx : x < 9223372036854775808) (hs : s < 9223372036854775808) {K : Value → Prop} : binK prog .andNot 3 (.int .i64 ((x : Nat) : Int)) (.int .i64 ((s : Nat) : Int)) K = K (vint (less x s : Nat)) := by
  simp only [binK, binI]; rw [bitsV_andNot hx hs, true_and]
/-- The table is filled from the end on. -/
theorem fill_loop [BitTab prog 1] {h : Heap} {gv : Value} {xs : List Int} {M : Nat} (hv : IntSl h gv xs) (ht : trn xs = true) (hM : 2 ^ xs.length = M) {N : Env → Heap → Prop} {Q0 : Exit → Env → Heap → Prop} {T0 : List Nat} {H : Heap} {c7 : Nat}
    (o0 : OB h H gv M T0) (hT0 : TOk xs M (M - 1) T0) (h7 : H[c7]? = some (.cells [.int .i64 (((M - 1 : Nat) : Int) - 1)] 3 false)) (hc7 : h.length + 4 ≤ c7)
    (hN : ∀ hp T e, OB h hp gv M T → TOk xs M 0 T → ELe e [(1, pt h.length), (2, .slice none 0 0), (3, .int .i64 0), (4, gv), (5, pt (h.length + 2)), (6, pt (h.length + 3))] → N e hp) :
    AWS prog 84 (.block 0 (.loop l38_1)) (aThen N Q0) [(1, pt h.length), (2, .slice none 0 0), (3, .int .i64 0), (4, gv), (5, pt (h.length + 2)), (6, pt (h.length + 3)), (7, pt c7)] H := by
  have hnn : ∀ i : Nat, (0 : Int) ≤ (i : Int) := Int.natCast_nonneg
  have hxl : 1 ≤ xs.length ∧ xs.length ≤ 8 := by simp only [trn, Bool.and_eq_true, decide_eq_true_eq] at ht; omega
  have h256 := pow8N hxl.2
  have hp0 := Nat.two_pow_pos xs.length
  have h64 : xs.length * xs.length ≤ 8 * 8 := Nat.mul_le_mul hxl.2 hxl.2
  have hmul : mulV .i64 (xs.length : Int) (xs.length : Int) = ((xs.length * xs.length : Nat) : Int) := by
    have e : (xs.length : Int) * (xs.length : Int) = ((xs.length * xs.length : Nat) : Int) := (Int.natCast_mul _ _).symm
    rw [mulV_id (by rw [e]; omega) (by rw [e]; omega), e]
  rw [hM] at h256 hp0
  refine aws_block ?_
  refine aws_hide fun Q hQ => ?_
  refine aw_loopW (γ := Nat × Heap × Nat × List Nat) (fun s => s.1 ≤ M - 1 ∧ OB h s.2.1 gv M s.2.2.2 ∧ s.2.1[s.2.2.1]? = some (.cells [.int .i64 ((s.1 : Int) - 1)] 3 false) ∧ h.length + 4 ≤ s.2.2.1 ∧ TOk xs M s.1 s.2.2.2)
    (fun s => ([(1, pt h.length), (2, .slice none 0 0), (3, .int .i64 0), (4, gv), (5, pt (h.length + 2)), (6, pt (h.length + 3)), (7, pt s.2.2.1)], s.2.1)) (fun s => s.1) (M - 1, H, c7, T0) ⟨Nat.le_refl _, o0, h7, hc7, hT0⟩ (by simp (maxSteps := 2000000) only [↓aw_region, ↓aw_skip, ↓aw_seq, ↓aw_block, ↓aw_exit, ↓aw_ret, ↓sops_nil, ↓sops_go, ↓dops_nil, ↓dopsX_nil, ↓dopsR_nil, ↓vdn, vup, extr_20, extr_21, extr_30, extr_31, extr_32, List.map_cons, List.map_nil, cond_true, cond_false, aop, aThen, aBlock, argEnv, ev, sput, sputO, binK, binI, unK, builtinK, pickK, Nat.reduceBEq, Nat.reduceAdd, Int.reduceBEq, Int.reduceBNe, Int.reduceLT, aPost, resK, tup, tyf]) rfl ?_
  rintro ⟨t, hp, b7, T⟩ ⟨htM, o, hb7, hl7, hT⟩
  simp only at htM o hb7 hl7 hT
  refine aws_hide fun Q2 hQ2 => ?_
  simp only [l38_1]
  cases t with
  | zero =>
    have hneg : ¬ (0 : Int) ≤ (((0 : Nat) : Int) - 1) := by omega
    refine aws_cut fun N1 hN1 => ?_
    simp (maxSteps := 2000000) only [s38, ↓aw_region, ↓aw_skip, ↓aw_seq, ↓aw_block, ↓aw_exit, ↓aw_ret, ↓sops_nil, ↓sops_go, ↓dops_nil, ↓dopsX_nil, ↓dopsR_nil, ↓vdn, vup, extr_20, extr_21, extr_30, extr_31, extr_32, List.map_cons, List.map_nil, cond_true, cond_false, aop, aThen, aBlock, argEnv, ev, sput, sputO, binK, binI, unK, builtinK, pickK, Nat.reduceBEq, Nat.reduceAdd, Int.reduceBEq, Int.reduceBNe, Int.reduceLT, aPost, resK, tup, tyf, load1 hb7 shp_3, ge_iff_le, hneg]
    refine hQ2 _ _ _ (hQ _ _ _ ?_)
    simp (maxSteps := 2000000) only [s38, ↓aw_region, ↓aw_skip, ↓aw_seq, ↓aw_block, ↓aw_exit, ↓aw_ret, ↓sops_nil, ↓sops_go, ↓dops_nil, ↓dopsX_nil, ↓dopsR_nil, ↓vdn, vup, extr_20, extr_21, extr_30, extr_31, extr_32, List.map_cons, List.map_nil, cond_true, cond_false, aop, aThen, aBlock, argEnv, ev, sput, sputO, binK, binI, unK, builtinK, pickK, Nat.reduceBEq, Nat.reduceAdd, Int.reduceBEq, Int.reduceBNe, Int.reduceLT, aPost, resK, tup, tyf, if_true]
    exact hN hp T _ o hT (by simp (maxSteps := 2000000) only [↓aw_region, ↓aw_skip, ↓aw_seq, ↓aw_block, ↓aw_exit, ↓aw_ret, ↓sops_nil, ↓sops_go, ↓dops_nil, ↓dopsX_nil, ↓dopsR_nil, ↓vdn, vup, extr_20, extr_21, extr_30, extr_31, extr_32, List.map_cons, List.map_nil, cond_true, cond_false, aop, aThen, aBlock, argEnv, ev, sput, sputO, binK, binI, unK, builtinK, pickK, Nat.reduceBEq, Nat.reduceAdd, Int.reduceBEq, Int.reduceBNe, Int.reduceLT, aPost, resK, tup, tyf])
  | succ s =>
  have es : ((((s + 1 : Nat)) : Int) - 1) = ((s : Nat) : Int) := by omega
  rw [es] at hb7
  have hsM : s < M := by omega
  have hsn : s < 2 ^ xs.length := by rw [hM]; exact hsM
  have hfr : fr xs.length s ≠ [] := fun e => by have := (fr_full hM hsM).1 e; omega
  obtain ⟨k, hk⟩ : ∃ k, (fr xs.length s).length = k + 1 := ⟨(fr xs.length s).length - 1, by have := List.length_pos_iff.2 hfr; omega⟩
  refine aws_cut fun N2 hN2 => ?_
  simp (maxSteps := 2000000) only [s38, ↓aw_region, ↓aw_skip, ↓aw_seq, ↓aw_block, ↓aw_exit, ↓aw_ret, ↓sops_nil, ↓sops_go, ↓dops_nil, ↓dopsX_nil, ↓dopsR_nil, ↓vdn, vup, extr_20, extr_21, extr_30, extr_31, extr_32, List.map_cons, List.map_nil, cond_true, cond_false, aop, aThen, aBlock, argEnv, ev, sput, sputO, binK, binI, unK, builtinK, pickK, Nat.reduceBEq, Nat.reduceAdd, Int.reduceBEq, Int.reduceBNe, Int.reduceLT, aPost, resK, tup, tyf, load1 hb7 shp_3, ge_iff_le, hnn]
  refine hN2 [(1, pt h.length), (2, .slice none 0 0), (3, .int .i64 0), (4, gv), (5, pt (h.length + 2)), (6, pt (h.length + 3)), (7, pt b7)] _ _ ?_ (by simp (maxSteps := 2000000) only [↓aw_region, ↓aw_skip, ↓aw_seq, ↓aw_block, ↓aw_exit, ↓aw_ret, ↓sops_nil, ↓sops_go, ↓dops_nil, ↓dopsX_nil, ↓dopsR_nil, ↓vdn, vup, extr_20, extr_21, extr_30, extr_31, extr_32, List.map_cons, List.map_nil, cond_true, cond_false, aop, aThen, aBlock, argEnv, ev, sput, sputO, binK, binI, unK, builtinK, pickK, Nat.reduceBEq, Nat.reduceAdd, Int.reduceBEq, Int.reduceBNe, Int.reduceLT, aPost, resK, tup, tyf])
  clear hN2
  try clear N2
  refine aws_cutW fun K hK => ?_
  refine aws_block ?_
  refine aws_cut fun N3 hN3 => ?_
  have hvp := IntSl_ext hv o.E
  have hsg : shlV .i64 1 0 = 1 := rfl
  simp (maxSteps := 2000000) only [s38, ↓aw_region, ↓aw_skip, ↓aw_seq, ↓aw_block, ↓aw_exit, ↓aw_ret, ↓sops_nil, ↓sops_go, ↓dops_nil, ↓dopsX_nil, ↓dopsR_nil, ↓vdn, vup, extr_20, extr_21, extr_30, extr_31, extr_32, List.map_cons, List.map_nil, cond_true, cond_false, aop, aThen, aBlock, argEnv, ev, sput, sputO, binK, binI, unK, builtinK, pickK, Nat.reduceBEq, Nat.reduceAdd, Int.reduceBEq, Int.reduceBNe, Int.reduceLT, aPost, resK, tup, tyf, load1 o.b5 shp_22, load1 hb7 shp_3, load1 o.b1 shp_22, hvp.len, hmul, tab_idx o.bT o.len hsM, tab_store o.bT o.len hsM]
  refine hN3 [(1, pt h.length), (2, .slice none 0 0), (3, .int .i64 0), (4, gv), (5, pt (h.length + 2)), (6, pt (h.length + 3)), (7, pt b7)] _ _ ?_ (by simp (maxSteps := 2000000) only [↓aw_region, ↓aw_skip, ↓aw_seq, ↓aw_block, ↓aw_exit, ↓aw_ret, ↓sops_nil, ↓sops_go, ↓dops_nil, ↓dopsX_nil, ↓dopsR_nil, ↓vdn, vup, extr_20, extr_21, extr_30, extr_31, extr_32, List.map_cons, List.map_nil, cond_true, cond_false, aop, aThen, aBlock, argEnv, ev, sput, sputO, binK, binI, unK, builtinK, pickK, Nat.reduceBEq, Nat.reduceAdd, Int.reduceBEq, Int.reduceBNe, Int.reduceLT, aPost, resK, tup, tyf])
  clear hN3
  try clear N3
  have o1 := o.tab (T2 := T.set s (xs.length * xs.length)) (by rw [List.length_set]; exact o.len)
  have hb1 : (hp.set (h.length + 1) (.ints (iL (T.set s (xs.length * xs.length))) 3 false))[b7]? = some (.cells [vint s] 3 false) := by rw [List.getElem?_set_ne (by omega)]; exact hb7
  generalize hp.set (h.length + 1) (.ints (iL (T.set s (xs.length * xs.length))) 3 false) = h1 at o1 hb1 ⊢
  have hv1 := IntSl_ext hv o1.E
  refine aws_cut fun N4 hN4 => ?_
  refine aw_drawX [(1, 1), (4, 4)] (by kernel_rfl) (by kernel_rfl) (by kernel_rfl) (by kernel_rfl) ?_
  simp (maxSteps := 2000000) only [s38, ↓aw_region, ↓aw_skip, ↓aw_seq, ↓aw_block, ↓aw_exit, ↓aw_ret, ↓sops_nil, ↓sops_go, ↓dops_nil, ↓dopsX_nil, ↓dopsR_nil, ↓vdn, vup, extr_20, extr_21, extr_30, extr_31, extr_32, List.map_cons, List.map_nil, cond_true, cond_false, aop, aThen, aBlock, argEnv, ev, sput, sputO, builtinK, Nat.reduceBEq, Nat.reduceAdd, Int.reduceBEq, Int.reduceBNe, Int.reduceLT, aPost, resK, tup, tyf, load1 hb1 shp_3, callK, List.nil_append, List.append_nil, List.toList_toArray, List.cons_append]
  refine ⟨_, _, all_call hv1 hxl.2, rfl, ?_⟩
  rw [hM]
  simp (maxSteps := 2000000) only [s38, ↓aw_region, ↓aw_skip, ↓aw_seq, ↓aw_block, ↓aw_exit, ↓aw_ret, ↓sops_nil, ↓sops_go, ↓dops_nil, ↓dopsX_nil, ↓dopsR_nil, ↓vdn, vup, extr_20, extr_21, extr_30, extr_31, extr_32, List.map_cons, List.map_nil, cond_true, cond_false, aop, aThen, aBlock, argEnv, ev, sput, sputO, builtinK, Nat.reduceBEq, Nat.reduceAdd, Int.reduceBEq, Int.reduceBNe, Int.reduceLT, aPost, resK, tup, tyf, load1 hb1 shp_3, band (show M - 1 < 9223372036854775808 by omega) (show s < 9223372036854775808 by omega), callK, List.nil_append, List.append_nil, List.toList_toArray, List.cons_append]
  refine players_call.mono ?_
  rintro v' h2 ⟨rfl, rfl⟩
  try simp (maxSteps := 2000000) only [s38, ↓aw_region, ↓aw_skip, ↓aw_seq, ↓aw_block, ↓aw_exit, ↓aw_ret, ↓sops_nil, ↓sops_go, ↓dops_nil, ↓dopsX_nil, ↓dopsR_nil, ↓vdn, vup, extr_20, extr_21, extr_30, extr_31, extr_32, List.map_cons, List.map_nil, cond_true, cond_false, aop, aThen, aBlock, argEnv, ev, sput, sputO, binK, binI, unK, builtinK, pickK, Nat.reduceBEq, Nat.reduceAdd, Int.reduceBEq, Int.reduceBNe, Int.reduceLT, aPost, resK, tup, tyf]
  refine hN4 [(1, pt h.length), (2, .slice none 0 0), (3, .int .i64 0), (4, gv), (5, pt (h.length + 2)), (6, pt (h.length + 3)), (7, pt b7), (40, .func (.func 93) #[] #[newPtr h1])] _ _ ?_ (by simp (maxSteps := 2000000) only [↓aw_region, ↓aw_skip, ↓aw_seq, ↓aw_block, ↓aw_exit, ↓aw_ret, ↓sops_nil, ↓sops_go, ↓dops_nil, ↓dopsX_nil, ↓dopsR_nil, ↓vdn, vup, extr_20, extr_21, extr_30, extr_31, extr_32, List.map_cons, List.map_nil, cond_true, cond_false, aop, aThen, aBlock, argEnv, ev, sput, sputO, binK, binI, unK, builtinK, pickK, Nat.reduceBEq, Nat.reduceAdd, Int.reduceBEq, Int.reduceBNe, Int.reduceLT, aPost, resK, tup, tyf])
  clear hN4
  try clear N4
  have hbl := bits_left hM (show xs.length ≤ 64 by omega) hsM
  have hb7l := get_lt hb1
  have hll : less (M - 1) s < 2 ^ xs.length := less_lt (by rw [hM]; omega)
  refine aws_block ?_
  refine aw_aws ?_
  refine aw_range bitIter (bx := h1.length) (s := less (M - 1) s) (et := 3) rfl (get_new _ _) (by omega) (fun pre hk => OB h hk gv M (T.set s (mnF (fv (cst xs) xs.length k s) pre (xs.length * xs.length))) ∧ hk[b7]? = some (.cells [vint s] 3 false)) ?_ ?_ ?_
  · have hE : Ext (fun i => h.length + 4 ≤ i) h1 ((h1 ++ [Blk.cells [vint (less (M - 1) s : Nat)] 3 false]).set h1.length .dead) := (Ext.app _ _ _).trans (Ext.set _ (by omega))
    refine ⟨o1.up hE, ?_⟩
    rw [List.getElem?_set_ne (by omega), List.getElem?_append_left hb7l]; exact hb1
  · rintro pre x hk2 hpre ⟨o2, hb2⟩
    rw [hbl] at hpre
    have hx := mem_pre hpre
    obtain ⟨hxn, hxs⟩ := mem_fr.1 hx
    have hgt := or_gt hxs
    have hsx : s ||| 2 ^ x < 2 ^ xs.length := put_lt hsn hxn
    have hput := fr_put hx
    have hTx : (T.set s (mnF (fv (cst xs) xs.length k s) pre (xs.length * xs.length))).getD (s ||| 2 ^ x) 0 = rst (cst xs) xs.length k (s ||| 2 ^ x) := by
      rw [getD_setN (by rw [o.len]; exact hsM), if_neg (by omega), hT.1 _ (by omega) (by rw [← hM]; exact hsx), show (fr xs.length (s ||| 2 ^ x)).length = k by omega]
    have hTs : (T.set s (mnF (fv (cst xs) xs.length k s) pre (xs.length * xs.length))).getD s 0 = mnF (fv (cst xs) xs.length k s) pre (xs.length * xs.length) := by
      rw [getD_setN (by rw [o.len]; exact hsM), if_pos rfl]
    have hr64 := rst_64 hxl.2 hsx
    rw [show (fr xs.length (s ||| 2 ^ x)).length = k by omega] at hr64
    have hcc : APure prog 75 [vint s, vint x, pt h.length, pt (h.length + 2)] hk2 (vint (fv (cst xs) xs.length k s x : Nat)) := by
      have := cost_call o2 hv ht hM hsM hxn (by rw [hTx]; omega)
      rw [hTx] at this; exact this
    have hmn : (if fv (cst xs) xs.length k s x < mnF (fv (cst xs) xs.length k s) pre (xs.length * xs.length) then fv (cst xs) xs.length k s x else mnF (fv (cst xs) xs.length k s) pre (xs.length * xs.length)) = mnF (fv (cst xs) xs.length k s) (pre ++ [x]) (xs.length * xs.length) := (mnF_snoc _ _ _).symm
    simp (maxSteps := 2000000) only [s38, ↓aw_region, ↓aw_skip, ↓aw_seq, ↓aw_block, ↓aw_exit, ↓aw_ret, ↓sops_nil, ↓sops_go, ↓dops_nil, ↓dopsX_nil, ↓dopsR_nil, ↓vdn, vup, extr_20, extr_21, extr_30, extr_31, extr_32, List.map_cons, List.map_nil, cond_true, cond_false, aop, aThen, aBlock, argEnv, ev, sput, sputO, binK, binI, unK, builtinK, pickK, Nat.reduceBEq, Nat.reduceAdd, Int.reduceBEq, Int.reduceBNe, Int.reduceLT, aPost, resK, tup, tyf, r38_0_a, r38_0_b]
    refine aw_drawX [(9, 1)] (by kernel_rfl) (by kernel_rfl) (by kernel_rfl) (by kernel_rfl) ?_
    simp (maxSteps := 2000000) only [s38, ↓aw_region, ↓aw_skip, ↓aw_seq, ↓aw_block, ↓aw_exit, ↓aw_ret, ↓sops_nil, ↓sops_go, ↓dops_nil, ↓dopsX_nil, ↓dopsR_nil, ↓vdn, vup, extr_20, extr_21, extr_30, extr_31, extr_32, List.map_cons, List.map_nil, cond_true, cond_false, aop, aThen, aBlock, argEnv, ev, sput, sputO, builtinK, Nat.reduceBEq, Nat.reduceAdd, Int.reduceBEq, Int.reduceBNe, Int.reduceLT, aPost, resK, tup, tyf, load1 o2.b5 shp_22, load1 hb2 shp_3, tab_idx o2.bT o2.len hsM, tab_load o2.bT o2.len hsM, hTs, load1 o2.b6 shp_69, callK, List.nil_append, List.append_nil, List.toList_toArray, List.cons_append]
    refine ⟨_, _, hcc, rfl, ?_⟩
    simp (maxSteps := 2000000) only [s38, ↓aw_region, ↓aw_skip, ↓aw_seq, ↓aw_block, ↓aw_exit, ↓aw_ret, ↓sops_nil, ↓sops_go, ↓dops_nil, ↓dopsX_nil, ↓dopsR_nil, ↓vdn, vup, extr_20, extr_21, extr_30, extr_31, extr_32, List.map_cons, List.map_nil, cond_true, cond_false, aop, aThen, aBlock, argEnv, ev, sput, sputO, binK, binI, unK, builtinK, pickK, Nat.reduceBEq, Nat.reduceAdd, Int.reduceBEq, Int.reduceBNe, Int.reduceLT, aPost, resK, tup, tyf, mmK, Bool.false_eq_true, if_false, gt_iff_lt, mnI, hmn, tab_store o2.bT o2.len hsM, rangeQ]
    rw [List.set_set]
    refine ⟨o2.tab (by rw [List.length_set]; exact o.len), ?_⟩
    rw [List.getElem?_set_ne (by omega)]; exact hb2
  · rintro hk2 ⟨o2, hb2⟩
    rw [hbl, ← rst_succ] at o2
    have hT2 : TOk xs M s (T.set s (rst (cst xs) xs.length (k + 1) s)) := by
      have h64' := rst_64 hxl.2 hsn
      rw [hk] at h64'
      refine ⟨fun r h1 h2 => ?_, fun r => ?_⟩
      · rw [getD_setN (by rw [o.len]; exact hsM)]
        by_cases e : r = s
        · rw [if_pos e, e, hk]
        · rw [if_neg e]; exact hT.1 r (by omega) h2
      · rw [getD_setN (by rw [o.len]; exact hsM)]
        split
        · exact h64'
        · exact hT.2 r
    simp (maxSteps := 2000000) only [s38, ↓aw_region, ↓aw_skip, ↓aw_seq, ↓aw_block, ↓aw_exit, ↓aw_ret, ↓sops_nil, ↓sops_go, ↓dops_nil, ↓dopsX_nil, ↓dopsR_nil, ↓vdn, vup, extr_20, extr_21, extr_30, extr_31, extr_32, List.map_cons, List.map_nil, cond_true, cond_false, aop, aThen, aBlock, argEnv, ev, sput, sputO, binK, binI, unK, builtinK, pickK, Nat.reduceBEq, Nat.reduceAdd, Int.reduceBEq, Int.reduceBNe, Int.reduceLT, aPost, resK, tup, tyf, Nat.reduceEqDiff, if_true, if_false]
    refine hK [(1, pt h.length), (2, .slice none 0 0), (3, .int .i64 0), (4, gv), (5, pt (h.length + 2)), (6, pt (h.length + 3)), (7, pt b7)] _ _ ?_ (by simp (maxSteps := 2000000) only [↓aw_region, ↓aw_skip, ↓aw_seq, ↓aw_block, ↓aw_exit, ↓aw_ret, ↓sops_nil, ↓sops_go, ↓dops_nil, ↓dopsX_nil, ↓dopsR_nil, ↓vdn, vup, extr_20, extr_21, extr_30, extr_31, extr_32, List.map_cons, List.map_nil, cond_true, cond_false, aop, aThen, aBlock, argEnv, ev, sput, sputO, binK, binI, unK, builtinK, pickK, Nat.reduceBEq, Nat.reduceAdd, Int.reduceBEq, Int.reduceBNe, Int.reduceLT, aPost, resK, tup, tyf])
    clear hK
    try clear K
    refine aw_aws ?_
    have hsub : subV .i64 ((s : Nat) : Int) 1 = ((s : Nat) : Int) - 1 := subV_id (by omega) (by omega)
    simp (maxSteps := 2000000) only [s38, ↓aw_region, ↓aw_skip, ↓aw_seq, ↓aw_block, ↓aw_exit, ↓aw_ret, ↓sops_nil, ↓sops_go, ↓dops_nil, ↓dopsX_nil, ↓dopsR_nil, ↓vdn, vup, extr_20, extr_21, extr_30, extr_31, extr_32, List.map_cons, List.map_nil, cond_true, cond_false, aop, aThen, aBlock, argEnv, ev, sput, sputO, binK, binI, unK, builtinK, pickK, Nat.reduceBEq, Nat.reduceAdd, Int.reduceBEq, Int.reduceBNe, Int.reduceLT, aPost, resK, tup, tyf, load1 hb2 shp_3, allocK, newPtr, zero_3, Am.storeI (get_new _ _) shp_3, setLast, load1 (get_new _ _) shp_3, hsub]
    refine hQ2 _ _ _ ⟨(s, hk2 ++ [Blk.cells [.int .i64 (((s : Nat) : Int) - 1)] 3 false], hk2.length, _), ⟨by simp only; omega, o2.up (Ext.app _ _ _), get_new _ _, ?_, hT2⟩, by simp only; omega, by simp (maxSteps := 2000000) only [↓aw_region, ↓aw_skip, ↓aw_seq, ↓aw_block, ↓aw_exit, ↓aw_ret, ↓sops_nil, ↓sops_go, ↓dops_nil, ↓dopsX_nil, ↓dopsR_nil, ↓vdn, vup, extr_20, extr_21, extr_30, extr_31, extr_32, List.map_cons, List.map_nil, cond_true, cond_false, aop, aThen, aBlock, argEnv, ev, sput, sputO, binK, binI, unK, builtinK, pickK, Nat.reduceBEq, Nat.reduceAdd, Int.reduceBEq, Int.reduceBNe, Int.reduceLT, aPost, resK, tup, tyf], rfl⟩
    have := get_lt hb2
    simp only; omega
end Go.Proofs.Tryd.Am

namespace Go.Proofs.Tryd.Am
open Go.Am Redei Rb
set_option maxRecDepth 100000
set_option maxHeartbeats 1000000

theorem find_first {p : Nat → Bool} {pre suf : List Nat} {x : Nat} (hpre : ∀ y ∈ pre, p y = false) (hx : p x = true) : (pre ++ [x] ++ suf).find? p = some x := by
  rw [List.append_assoc, List.find?_append]
  have : pre.find? p = none := List.find?_eq_none.2 fun y hy => by rw [hpre y hy]; decide
  rw [this]
  simp [hx]
theorem pick_loop [BitTab prog 1] {h : Heap} {gv : Value} {xs : List Int} {M : Nat} (hv : IntSl h gv xs) (ht : trn xs = true) (hM : 2 ^ xs.length = M) {N : Env → Heap → Prop} {Q0 : Exit → Env → Heap → Prop} {T : List Nat} {H : Heap} {b9 c10 : Nat}
    (o0 : OB h H gv M T) (hT : TOk xs M 0 T) (h9 : H[b9]? = some (.cells [.slice none 0 0] 22 false)) (h10 : H[c10]? = some (.cells [.int .i64 0] 3 false)) (hl9 : h.length + 4 ≤ b9) (hl10 : b9 < c10)
    (hN : ∀ hp ov e, Ext (fun _ => False) h hp → hp[b9]? = some (.cells [ov] 22 false) → OwnSl 3 hp ov (iL (gr (cst xs) xs.length xs.length 0)) → ELe e [(2, .slice none 0 0), (3, .int .i64 0), (9, pt b9)] → N e hp) :
    AWS prog 84 (.block 4 (.loop l38_3)) (aThen N Q0) [(1, pt h.length), (2, .slice none 0 0), (3, .int .i64 0), (4, gv), (5, pt (h.length + 2)), (6, pt (h.length + 3)), (9, pt b9), (10, pt c10)] H := by
  have hnn : ∀ i : Nat, (0 : Int) ≤ (i : Int) := Int.natCast_nonneg
  have hxl : 1 ≤ xs.length ∧ xs.length ≤ 8 := by simp only [trn, Bool.and_eq_true, decide_eq_true_eq] at ht; omega
  have h256 := pow8N hxl.2
  have hp0 := Nat.two_pow_pos xs.length
  rw [hM] at h256 hp0
  have hf0 : (fr xs.length 0).length = xs.length := by rw [fr, List.filter_eq_self.2 (fun i _ => by simp), List.length_range]
  have hbne : ∀ a b : Nat, (((a : Nat) : Int) != ((b : Nat) : Int)) = !(a == b) := fun a b => by rw [Bool.eq_iff_iff, bne_iff_ne, Bool.not_eq_true', beq_eq_false_iff_ne]; omega
  refine aws_block ?_
  refine aws_hide fun Q hQ => ?_
  refine aw_loopW (γ := Nat × Nat × List Nat × Heap × Value × Nat) (fun s => s.2.1 < M ∧ (fr xs.length s.2.1).length = s.1 ∧ s.2.2.1 ++ gr (cst xs) xs.length s.1 s.2.1 = gr (cst xs) xs.length xs.length 0 ∧ s.2.2.1.length + s.1 = xs.length ∧
      OB h s.2.2.2.1 gv M T ∧ s.2.2.2.1[b9]? = some (.cells [s.2.2.2.2.1] 22 false) ∧ OwnSl 3 s.2.2.2.1 s.2.2.2.2.1 (iL s.2.2.1) ∧ s.2.2.2.1[s.2.2.2.2.2]? = some (.cells [vint s.2.1] 3 false) ∧ b9 < s.2.2.2.2.2 ∧ (∀ b, blkOf s.2.2.2.2.1 = some b → h.length + 4 ≤ b))
    (fun s => ([(1, pt h.length), (2, .slice none 0 0), (3, .int .i64 0), (4, gv), (5, pt (h.length + 2)), (6, pt (h.length + 3)), (9, pt b9), (10, pt s.2.2.2.2.2)], s.2.2.2.1)) (fun s => s.1) (xs.length, 0, [], H, .slice none 0 0, c10) ⟨hp0, hf0, rfl, by simp, o0, h9, .inl ⟨rfl, rfl⟩, h10, hl10, fun b hb => by cases hb⟩ (by simp (maxSteps := 2000000) only [↓aw_region, ↓aw_skip, ↓aw_seq, ↓aw_block, ↓aw_exit, ↓aw_ret, ↓sops_nil, ↓sops_go, ↓dops_nil, ↓dopsX_nil, ↓dopsR_nil, ↓vdn, vup, extr_20, extr_21, extr_30, extr_31, extr_32, List.map_cons, List.map_nil, cond_true, cond_false, aop, aThen, aBlock, argEnv, ev, sput, sputO, binK, binI, unK, builtinK, pickK, Nat.reduceBEq, Nat.reduceAdd, Int.reduceBEq, Int.reduceBNe, Int.reduceLT, aPost, resK, tup, tyf]) rfl ?_
  rintro ⟨k, s, O, hp, ov, b10⟩ ⟨hsM, hk, hgr, hOl, o, hb9, hov, hb10, hl10, hbk⟩
  simp only at hsM hk hgr hOl o hb9 hov hb10 hl10 hbk
  refine aws_hide fun Q2 hQ2 => ?_
  simp only [l38_3]
  have hsn : s < 2 ^ xs.length := by rw [hM]; exact hsM
  have hvp := IntSl_ext hv o.E
  have hac : APure prog 63 [gv] hp (vint ((M - 1 : Nat) : Int)) := by have := all_call hvp hxl.2; rw [hM] at this; exact this
  cases k with
  | zero =>
    have hs1 := (fr_full hM hsM).1 (List.length_eq_zero_iff.1 hk)
    have hsb : (s == M - 1) = true := beq_iff_eq.2 hs1
    refine aws_cut fun N1 hN1 => ?_
    simp (maxSteps := 2000000) only [s38, ↓aw_region, ↓aw_skip, ↓aw_seq, ↓aw_block, ↓aw_exit, ↓aw_ret, ↓sops_nil, ↓sops_go, ↓dops_nil, ↓dopsX_nil, ↓dopsR_nil, ↓vdn, vup, extr_20, extr_21, extr_30, extr_31, extr_32, List.map_cons, List.map_nil, cond_true, cond_false, aop, aThen, aBlock, argEnv, ev, sput, sputO, binK, binI, unK, builtinK, pickK, Nat.reduceBEq, Nat.reduceAdd, Int.reduceBEq, Int.reduceBNe, Int.reduceLT, aPost, resK, tup, tyf]
    refine aw_drawX [(2, 1)] (by kernel_rfl) (by kernel_rfl) (by kernel_rfl) (by kernel_rfl) ?_
    simp (maxSteps := 2000000) only [s38, ↓aw_region, ↓aw_skip, ↓aw_seq, ↓aw_block, ↓aw_exit, ↓aw_ret, ↓sops_nil, ↓sops_go, ↓dops_nil, ↓dopsX_nil, ↓dopsR_nil, ↓vdn, vup, extr_20, extr_21, extr_30, extr_31, extr_32, List.map_cons, List.map_nil, cond_true, cond_false, aop, aThen, aBlock, argEnv, ev, sput, sputO, builtinK, Nat.reduceBEq, Nat.reduceAdd, Int.reduceBEq, Int.reduceBNe, Int.reduceLT, aPost, resK, tup, tyf, load1 hb10 shp_3, callK, List.nil_append, List.append_nil, List.toList_toArray, List.cons_append]
    refine ⟨_, _, hac, rfl, ?_⟩
    simp (maxSteps := 2000000) only [s38, ↓aw_region, ↓aw_skip, ↓aw_seq, ↓aw_block, ↓aw_exit, ↓aw_ret, ↓sops_nil, ↓sops_go, ↓dops_nil, ↓dopsX_nil, ↓dopsR_nil, ↓vdn, vup, extr_20, extr_21, extr_30, extr_31, extr_32, List.map_cons, List.map_nil, cond_true, cond_false, aop, aThen, aBlock, argEnv, ev, sput, sputO, binK, binI, unK, builtinK, pickK, Nat.reduceBEq, Nat.reduceAdd, Int.reduceBEq, Int.reduceBNe, Int.reduceLT, aPost, resK, tup, tyf, hbne, hsb, Bool.not_true]
    refine hQ2 _ _ _ (hQ _ _ _ ?_)
    simp (maxSteps := 2000000) only [s38, ↓aw_region, ↓aw_skip, ↓aw_seq, ↓aw_block, ↓aw_exit, ↓aw_ret, ↓sops_nil, ↓sops_go, ↓dops_nil, ↓dopsX_nil, ↓dopsR_nil, ↓vdn, vup, extr_20, extr_21, extr_30, extr_31, extr_32, List.map_cons, List.map_nil, cond_true, cond_false, aop, aThen, aBlock, argEnv, ev, sput, sputO, binK, binI, unK, builtinK, pickK, Nat.reduceBEq, Nat.reduceAdd, Int.reduceBEq, Int.reduceBNe, Int.reduceLT, aPost, resK, tup, tyf, if_true]
    rw [gr, List.append_nil] at hgr
    rw [hgr] at hov
    exact hN hp ov _ o.E hb9 hov (by simp (maxSteps := 2000000) only [↓aw_region, ↓aw_skip, ↓aw_seq, ↓aw_block, ↓aw_exit, ↓aw_ret, ↓sops_nil, ↓sops_go, ↓dops_nil, ↓dopsX_nil, ↓dopsR_nil, ↓vdn, vup, extr_20, extr_21, extr_30, extr_31, extr_32, List.map_cons, List.map_nil, cond_true, cond_false, aop, aThen, aBlock, argEnv, ev, sput, sputO, binK, binI, unK, builtinK, pickK, Nat.reduceBEq, Nat.reduceAdd, Int.reduceBEq, Int.reduceBNe, Int.reduceLT, aPost, resK, tup, tyf])
  | succ k =>
  have hs1 : s ≠ M - 1 := fun e => by rw [(fr_full hM hsM).2 e] at hk; cases hk
  have hsb : (s == M - 1) = false := beq_eq_false_iff_ne.2 hs1
  obtain ⟨xf, hfind, hxf, hgx⟩ := gr_succ (cst_few hxl.2) hxl.2 hsn hk
  refine aws_cut fun N2 hN2 => ?_
  simp (maxSteps := 2000000) only [s38, ↓aw_region, ↓aw_skip, ↓aw_seq, ↓aw_block, ↓aw_exit, ↓aw_ret, ↓sops_nil, ↓sops_go, ↓dops_nil, ↓dopsX_nil, ↓dopsR_nil, ↓vdn, vup, extr_20, extr_21, extr_30, extr_31, extr_32, List.map_cons, List.map_nil, cond_true, cond_false, aop, aThen, aBlock, argEnv, ev, sput, sputO, binK, binI, unK, builtinK, pickK, Nat.reduceBEq, Nat.reduceAdd, Int.reduceBEq, Int.reduceBNe, Int.reduceLT, aPost, resK, tup, tyf]
  refine aw_drawX [(2, 1)] (by kernel_rfl) (by kernel_rfl) (by kernel_rfl) (by kernel_rfl) ?_
  simp (maxSteps := 2000000) only [s38, ↓aw_region, ↓aw_skip, ↓aw_seq, ↓aw_block, ↓aw_exit, ↓aw_ret, ↓sops_nil, ↓sops_go, ↓dops_nil, ↓dopsX_nil, ↓dopsR_nil, ↓vdn, vup, extr_20, extr_21, extr_30, extr_31, extr_32, List.map_cons, List.map_nil, cond_true, cond_false, aop, aThen, aBlock, argEnv, ev, sput, sputO, builtinK, Nat.reduceBEq, Nat.reduceAdd, Int.reduceBEq, Int.reduceBNe, Int.reduceLT, aPost, resK, tup, tyf, load1 hb10 shp_3, callK, List.nil_append, List.append_nil, List.toList_toArray, List.cons_append]
  refine ⟨_, _, hac, rfl, ?_⟩
  simp (maxSteps := 2000000) only [s38, ↓aw_region, ↓aw_skip, ↓aw_seq, ↓aw_block, ↓aw_exit, ↓aw_ret, ↓sops_nil, ↓sops_go, ↓dops_nil, ↓dopsX_nil, ↓dopsR_nil, ↓vdn, vup, extr_20, extr_21, extr_30, extr_31, extr_32, List.map_cons, List.map_nil, cond_true, cond_false, aop, aThen, aBlock, argEnv, ev, sput, sputO, binK, binI, unK, builtinK, pickK, Nat.reduceBEq, Nat.reduceAdd, Int.reduceBEq, Int.reduceBNe, Int.reduceLT, aPost, resK, tup, tyf, hbne, hsb, Bool.not_false]
  refine hN2 [(1, pt h.length), (2, .slice none 0 0), (3, .int .i64 0), (4, gv), (5, pt (h.length + 2)), (6, pt (h.length + 3)), (9, pt b9), (10, pt b10)] _ _ ?_ (by simp (maxSteps := 2000000) only [↓aw_region, ↓aw_skip, ↓aw_seq, ↓aw_block, ↓aw_exit, ↓aw_ret, ↓sops_nil, ↓sops_go, ↓dops_nil, ↓dopsX_nil, ↓dopsR_nil, ↓vdn, vup, extr_20, extr_21, extr_30, extr_31, extr_32, List.map_cons, List.map_nil, cond_true, cond_false, aop, aThen, aBlock, argEnv, ev, sput, sputO, binK, binI, unK, builtinK, pickK, Nat.reduceBEq, Nat.reduceAdd, Int.reduceBEq, Int.reduceBNe, Int.reduceLT, aPost, resK, tup, tyf])
  clear hN2
  try clear N2
  refine aws_cutW fun K hK => ?_
  refine aws_block ?_
  refine aws_cut fun N3 hN3 => ?_
  refine aw_drawX [(1, 1), (4, 4)] (by kernel_rfl) (by kernel_rfl) (by kernel_rfl) (by kernel_rfl) ?_
  simp (maxSteps := 2000000) only [s38, ↓aw_region, ↓aw_skip, ↓aw_seq, ↓aw_block, ↓aw_exit, ↓aw_ret, ↓sops_nil, ↓sops_go, ↓dops_nil, ↓dopsX_nil, ↓dopsR_nil, ↓vdn, vup, extr_20, extr_21, extr_30, extr_31, extr_32, List.map_cons, List.map_nil, cond_true, cond_false, aop, aThen, aBlock, argEnv, ev, sput, sputO, builtinK, Nat.reduceBEq, Nat.reduceAdd, Int.reduceBEq, Int.reduceBNe, Int.reduceLT, aPost, resK, tup, tyf, load1 hb10 shp_3, callK, List.nil_append, List.append_nil, List.toList_toArray, List.cons_append]
  refine ⟨_, _, hac, rfl, ?_⟩
  simp (maxSteps := 2000000) only [s38, ↓aw_region, ↓aw_skip, ↓aw_seq, ↓aw_block, ↓aw_exit, ↓aw_ret, ↓sops_nil, ↓sops_go, ↓dops_nil, ↓dopsX_nil, ↓dopsR_nil, ↓vdn, vup, extr_20, extr_21, extr_30, extr_31, extr_32, List.map_cons, List.map_nil, cond_true, cond_false, aop, aThen, aBlock, argEnv, ev, sput, sputO, builtinK, Nat.reduceBEq, Nat.reduceAdd, Int.reduceBEq, Int.reduceBNe, Int.reduceLT, aPost, resK, tup, tyf, load1 hb10 shp_3, band (show M - 1 < 9223372036854775808 by omega) (show s < 9223372036854775808 by omega), callK, List.nil_append, List.append_nil, List.toList_toArray, List.cons_append]
  refine players_call.mono ?_
  rintro v' h2 ⟨rfl, rfl⟩
  try simp (maxSteps := 2000000) only [s38, ↓aw_region, ↓aw_skip, ↓aw_seq, ↓aw_block, ↓aw_exit, ↓aw_ret, ↓sops_nil, ↓sops_go, ↓dops_nil, ↓dopsX_nil, ↓dopsR_nil, ↓vdn, vup, extr_20, extr_21, extr_30, extr_31, extr_32, List.map_cons, List.map_nil, cond_true, cond_false, aop, aThen, aBlock, argEnv, ev, sput, sputO, binK, binI, unK, builtinK, pickK, Nat.reduceBEq, Nat.reduceAdd, Int.reduceBEq, Int.reduceBNe, Int.reduceLT, aPost, resK, tup, tyf]
  refine hN3 [(1, pt h.length), (2, .slice none 0 0), (3, .int .i64 0), (4, gv), (5, pt (h.length + 2)), (6, pt (h.length + 3)), (9, pt b9), (10, pt b10), (63, .func (.func 93) #[] #[newPtr hp])] _ _ ?_ (by simp (maxSteps := 2000000) only [↓aw_region, ↓aw_skip, ↓aw_seq, ↓aw_block, ↓aw_exit, ↓aw_ret, ↓sops_nil, ↓sops_go, ↓dops_nil, ↓dopsX_nil, ↓dopsR_nil, ↓vdn, vup, extr_20, extr_21, extr_30, extr_31, extr_32, List.map_cons, List.map_nil, cond_true, cond_false, aop, aThen, aBlock, argEnv, ev, sput, sputO, binK, binI, unK, builtinK, pickK, Nat.reduceBEq, Nat.reduceAdd, Int.reduceBEq, Int.reduceBNe, Int.reduceLT, aPost, resK, tup, tyf])
  clear hN3
  try clear N3
  have hbl := bits_left hM (show xs.length ≤ 64 by omega) hsM
  have hll : less (M - 1) s < 2 ^ xs.length := less_lt (by rw [hM]; omega)
  have l9 := get_lt hb9
  have l10 := get_lt hb10
  have fin : ∀ (h3 : Heap) (ov2 : Value), OB h h3 gv M T → h3[b9]? = some (.cells [ov2] 22 false) → OwnSl 3 h3 ov2 (iL (O ++ [xf])) → h3[b10]? = some (.cells [vint (s ||| 2 ^ xf : Nat)] 3 false) → (∀ b, blkOf ov2 = some b → h.length + 4 ≤ b) →
      ∀ e, ELe e [(1, pt h.length), (2, .slice none 0 0), (3, .int .i64 0), (4, gv), (5, pt (h.length + 2)), (6, pt (h.length + 3)), (9, pt b9), (10, pt b10)] → K e h3 := by
    intro h3 ov2 o3 h39 hov3 h310 hbk3 e he
    refine hK [(1, pt h.length), (2, .slice none 0 0), (3, .int .i64 0), (4, gv), (5, pt (h.length + 2)), (6, pt (h.length + 3)), (9, pt b9), (10, pt b10)] _ _ ?_ he
    refine aw_aws ?_
    simp (maxSteps := 2000000) only [s38, ↓aw_region, ↓aw_skip, ↓aw_seq, ↓aw_block, ↓aw_exit, ↓aw_ret, ↓sops_nil, ↓sops_go, ↓dops_nil, ↓dopsX_nil, ↓dopsR_nil, ↓vdn, vup, extr_20, extr_21, extr_30, extr_31, extr_32, List.map_cons, List.map_nil, cond_true, cond_false, aop, aThen, aBlock, argEnv, ev, sput, sputO, binK, binI, unK, builtinK, pickK, Nat.reduceBEq, Nat.reduceAdd, Int.reduceBEq, Int.reduceBNe, Int.reduceLT, aPost, resK, tup, tyf, load1 h310 shp_3, allocK, newPtr, zero_3, Am.storeI (get_new _ _) shp_3, setLast]
    have hx := mem_fr.1 hxf
    have hput := fr_put hxf
    refine hQ2 _ _ _ ⟨(k, s ||| 2 ^ xf, O ++ [xf], h3 ++ [Blk.cells [vint (s ||| 2 ^ xf : Nat)] 3 false], ov2, h3.length), ⟨by rw [← hM]; exact put_lt hsn hx.1, by simp only; omega, ?_, by simp only; rw [List.length_append, List.length_singleton]; omega, o3.up (Ext.app _ _ _), get_old h39 _, ?_, get_new _ _, ?_, hbk3⟩, by simp only; omega, by simp (maxSteps := 2000000) only [↓aw_region, ↓aw_skip, ↓aw_seq, ↓aw_block, ↓aw_exit, ↓aw_ret, ↓sops_nil, ↓sops_go, ↓dops_nil, ↓dopsX_nil, ↓dopsR_nil, ↓vdn, vup, extr_20, extr_21, extr_30, extr_31, extr_32, List.map_cons, List.map_nil, cond_true, cond_false, aop, aThen, aBlock, argEnv, ev, sput, sputO, binK, binI, unK, builtinK, pickK, Nat.reduceBEq, Nat.reduceAdd, Int.reduceBEq, Int.reduceBNe, Int.reduceLT, aPost, resK, tup, tyf], rfl⟩
    · simp only
      rw [List.append_assoc, ← hgr, hgx]; rfl
    · exact hov3.ext (Ext.app (fun _ => False) _ _) fun _ _ => id
    · have := get_lt h310
      simp only; omega
  clear hK
  refine aws_block ?_
  refine aw_aws ?_
  refine aw_range bitIter (bx := hp.length) (s := less (M - 1) s) (et := 3) rfl (get_new _ _) (by omega) (fun pre hk => OB h hk gv M T ∧ hk[b9]? = some (.cells [ov] 22 false) ∧ OwnSl 3 hk ov (iL O) ∧ hk[b10]? = some (.cells [vint s] 3 false) ∧
    ∀ y ∈ pre, (fv (cst xs) xs.length k s y == rst (cst xs) xs.length (k + 1) s) = false) ?_ ?_ ?_
  · have hE : Ext (fun i => h.length + 4 ≤ i) hp ((hp ++ [Blk.cells [vint (less (M - 1) s : Nat)] 3 false]).set hp.length .dead) := (Ext.app _ _ _).trans (Ext.set _ (by omega))
    have keep : ∀ i, i < hp.length → ((hp ++ [Blk.cells [vint (less (M - 1) s : Nat)] 3 false]).set hp.length .dead)[i]? = hp[i]? := fun i hi => by
      rw [List.getElem?_set_ne (by omega), List.getElem?_append_left hi]
    exact ⟨o.up hE, (keep _ l9).trans hb9, hov.same fun b hb => keep b (hov.lt hb), (keep _ l10).trans hb10, fun y hy => by cases hy⟩
  · rintro pre x hk2 hpre ⟨o2, h29, hov2, h210, hno⟩
    rw [hbl] at hpre
    have hx := mem_pre hpre
    obtain ⟨hxn, hxs⟩ := mem_fr.1 hx
    have hsx : s ||| 2 ^ x < 2 ^ xs.length := put_lt hsn hxn
    have hput := fr_put hx
    have hTx : T.getD (s ||| 2 ^ x) 0 = rst (cst xs) xs.length k (s ||| 2 ^ x) := by
      rw [hT.1 _ (Nat.zero_le _) (by rw [← hM]; exact hsx), show (fr xs.length (s ||| 2 ^ x)).length = k by omega]
    have hTs : T.getD s 0 = rst (cst xs) xs.length (k + 1) s := by rw [hT.1 s (Nat.zero_le _) hsM, hk]
    have hcc : APure prog 75 [vint s, vint x, pt h.length, pt (h.length + 2)] hk2 (vint (fv (cst xs) xs.length k s x : Nat)) := by
      have := cost_call o2 hv ht hM hsM hxn (by have := hT.2 (s ||| 2 ^ x); omega)
      rw [hTx] at this; exact this
    simp (maxSteps := 2000000) only [s38, ↓aw_region, ↓aw_skip, ↓aw_seq, ↓aw_block, ↓aw_exit, ↓aw_ret, ↓sops_nil, ↓sops_go, ↓dops_nil, ↓dopsX_nil, ↓dopsR_nil, ↓vdn, vup, extr_20, extr_21, extr_30, extr_31, extr_32, List.map_cons, List.map_nil, cond_true, cond_false, aop, aThen, aBlock, argEnv, ev, sput, sputO, binK, binI, unK, builtinK, pickK, Nat.reduceBEq, Nat.reduceAdd, Int.reduceBEq, Int.reduceBNe, Int.reduceLT, aPost, resK, tup, tyf, r38_2_a, r38_2_b]
    refine aw_drawX [(3, 1)] (by kernel_rfl) (by kernel_rfl) (by kernel_rfl) (by kernel_rfl) ?_
    simp (maxSteps := 2000000) only [s38, ↓aw_region, ↓aw_skip, ↓aw_seq, ↓aw_block, ↓aw_exit, ↓aw_ret, ↓sops_nil, ↓sops_go, ↓dops_nil, ↓dopsX_nil, ↓dopsR_nil, ↓vdn, vup, extr_20, extr_21, extr_30, extr_31, extr_32, List.map_cons, List.map_nil, cond_true, cond_false, aop, aThen, aBlock, argEnv, ev, sput, sputO, builtinK, Nat.reduceBEq, Nat.reduceAdd, Int.reduceBEq, Int.reduceBNe, Int.reduceLT, aPost, resK, tup, tyf, load1 o2.b6 shp_69, load1 h210 shp_3, callK, List.nil_append, List.append_nil, List.toList_toArray, List.cons_append]
    refine ⟨_, _, hcc, rfl, ?_⟩
    cases heq : (fv (cst xs) xs.length k s x == rst (cst xs) xs.length (k + 1) s) with
    | false =>
      simp (maxSteps := 2000000) only [s38, ↓aw_region, ↓aw_skip, ↓aw_seq, ↓aw_block, ↓aw_exit, ↓aw_ret, ↓sops_nil, ↓sops_go, ↓dops_nil, ↓dopsX_nil, ↓dopsR_nil, ↓vdn, vup, extr_20, extr_21, extr_30, extr_31, extr_32, List.map_cons, List.map_nil, cond_true, cond_false, aop, aThen, aBlock, argEnv, ev, sput, sputO, binK, binI, unK, builtinK, pickK, Nat.reduceBEq, Nat.reduceAdd, Int.reduceBEq, Int.reduceBNe, Int.reduceLT, aPost, resK, tup, tyf, load1 o2.b5 shp_22, load1 h210 shp_3, tab_idx o2.bT o2.len hsM, tab_load o2.bT o2.len hsM, hTs, beqN, heq, rangeQ]
      refine ⟨o2, h29, hov2, h210, fun y hy => ?_⟩
      rcases List.mem_append.1 hy with hy | hy
      · exact hno y hy
      · rw [List.mem_singleton.1 hy]; exact heq
    | true =>
      have hxe : x = xf := by
        obtain ⟨suf, hsuf⟩ := hpre
        have := find_first (suf := suf) hno heq
        rw [hsuf, hfind] at this
        exact (Option.some.inj this).symm
      subst hxe
      have p2 : 2 ^ x ≤ 2 ^ 8 := Nat.pow_le_pow_right (by decide) (by omega)
      have hor : bitsV .or .i64 ((s : Nat) : Int) ((2 ^ x : Nat) : Int) = ((s ||| 2 ^ x : Nat) : Int) := bitsV_or (by omega) (by omega)
      simp (maxSteps := 2000000) only [s38, ↓aw_region, ↓aw_skip, ↓aw_seq, ↓aw_block, ↓aw_exit, ↓aw_ret, ↓sops_nil, ↓sops_go, ↓dops_nil, ↓dopsX_nil, ↓dopsR_nil, ↓vdn, vup, extr_20, extr_21, extr_30, extr_31, extr_32, List.map_cons, List.map_nil, cond_true, cond_false, aop, aThen, aBlock, argEnv, ev, sput, sputO, binK, binI, unK, builtinK, pickK, Nat.reduceBEq, Nat.reduceAdd, Int.reduceBEq, Int.reduceBNe, Int.reduceLT, aPost, resK, tup, tyf, load1 o2.b5 shp_22, load1 h210 shp_3, tab_idx o2.bT o2.len hsM, tab_load o2.bT o2.len hsM, hTs, beqN, heq, load1 h29 shp_22, litI1]
      have k9 := get_lt h29
      have k10 := get_lt h210
      refine (hov2.ext (Ext.app (fun _ => False) _ _) fun _ _ => id).append app_22_22 (by rw [iL_len]; omega) (get_new _ _) fun ov3 h3 ho3 hE3 hb3 => ?_
      rw [iL_snoc] at ho3
      have hE3' : Ext (fun i => blkOf ov = some i) hk2 h3 := (Ext.app _ _ _).trans hE3
      have h39 : h3[b9]? = some (.cells [ov] 22 false) := (hE3'.2 _ k9 (own_ne hov2 h29)).trans h29
      have h310 : h3[b10]? = some (.cells [vint s] 3 false) := (hE3'.2 _ k10 (own_ne hov2 h210)).trans h210
      have hbk3 : ∀ b, blkOf ov3 = some b → h.length + 4 ≤ b := fun b hb => by
        rcases hb3 with e | ⟨b', e, hle⟩
        · exact hbk b (e ▸ hb)
        · rw [e] at hb; cases hb
          rw [List.length_append] at hle; omega
      have h310' : (h3.set b9 (.cells [ov3] 22 false))[b10]? = some (.cells [vint s] 3 false) := by rw [List.getElem?_set_ne (by omega)]; exact h310
      simp (maxSteps := 2000000) only [s38, ↓aw_region, ↓aw_skip, ↓aw_seq, ↓aw_block, ↓aw_exit, ↓aw_ret, ↓sops_nil, ↓sops_go, ↓dops_nil, ↓dopsX_nil, ↓dopsR_nil, ↓vdn, vup, extr_20, extr_21, extr_30, extr_31, extr_32, List.map_cons, List.map_nil, cond_true, cond_false, aop, aThen, aBlock, argEnv, ev, sput, sputO, binK, binI, unK, builtinK, pickK, Nat.reduceBEq, Nat.reduceAdd, Int.reduceBEq, Int.reduceBNe, Int.reduceLT, aPost, resK, tup, tyf, store1 h39 shp_22 (own_one ho3)]
      refine aw_drawX [] (by kernel_rfl) (by kernel_rfl) (by kernel_rfl) (by kernel_rfl) ?_
      simp (maxSteps := 2000000) only [s38, ↓aw_region, ↓aw_skip, ↓aw_seq, ↓aw_block, ↓aw_exit, ↓aw_ret, ↓sops_nil, ↓sops_go, ↓dops_nil, ↓dopsX_nil, ↓dopsR_nil, ↓vdn, vup, extr_20, extr_21, extr_30, extr_31, extr_32, List.map_cons, List.map_nil, cond_true, cond_false, aop, aThen, aBlock, argEnv, ev, sput, sputO, binK, binI, unK, builtinK, pickK, Nat.reduceBEq, Nat.reduceAdd, Int.reduceBEq, Int.reduceBNe, Int.reduceLT, aPost, resK, tup, tyf, load1 h310' shp_3, hnn, shlI1 (show x ≤ 62 by omega), hor, Am.storeI h310' shp_3, rangeQ, Nat.reduceEqDiff, if_true, if_false]
      refine fin _ ov3 ((o2.up (hE3'.mono fun i hi => hbk i hi)).up ((Ext.set _ hl9).trans (Ext.set _ (by omega)))) ?_ ?_ (get_set (by rw [List.length_set]; exact get_lt h310) _) hbk3 _ (by simp (maxSteps := 2000000) only [↓aw_region, ↓aw_skip, ↓aw_seq, ↓aw_block, ↓aw_exit, ↓aw_ret, ↓sops_nil, ↓sops_go, ↓dops_nil, ↓dopsX_nil, ↓dopsR_nil, ↓vdn, vup, extr_20, extr_21, extr_30, extr_31, extr_32, List.map_cons, List.map_nil, cond_true, cond_false, aop, aThen, aBlock, argEnv, ev, sput, sputO, binK, binI, unK, builtinK, pickK, Nat.reduceBEq, Nat.reduceAdd, Int.reduceBEq, Int.reduceBNe, Int.reduceLT, aPost, resK, tup, tyf])
      · rw [List.getElem?_set_ne (by omega)]; exact get_set (get_lt h39) _
      · refine ho3.same fun b hb => ?_
        have n9 : blkOf ov3 ≠ some b9 := own_ne ho3 h39
        have n10 : blkOf ov3 ≠ some b10 := own_ne ho3 h310
        rw [List.getElem?_set_ne (fun e => n10 (by rw [hb, e])), List.getElem?_set_ne (fun e => n9 (by rw [hb, e]))]
  · rintro hk2 ⟨_, _, _, _, hno⟩
    rw [hbl] at hno
    obtain ⟨j, hj, he⟩ := rst_att (cst_few hxl.2) hxl.2 hsn hk
    have := hno j hj
    rw [he, beq_self_eq_true] at this; cases this

theorem s38_callW [Tabs Tryd.prog] {args : List Value} {h : Heap} {Q : Value → Heap → Prop} (hsz : args.length ≤ 84) (hk : AWS Tryd.prog 84 s38 (aPost Tryd.prog [.tmp 2, .tmp 3] Q) (argEnv 0 args) h) : ACall Tryd.prog 38 args h Q :=
  acall_w Tryd.func38 rfl (enters_of Tryd.func38 (by kernel_rfl) rfl) rfl rfl (by decide) s38_strip s38_ok hsz hk
theorem order_call [BitTab prog 1] {h : Heap} {v : Value} {xs : List Int} (hv : IntSl h v xs) (hl : xs.length < 9223372036854775808) (hx : ∀ x ∈ xs, -9223372036854775808 ≤ x ∧ x < 9223372036854775808) :
    ACall prog 38 [v] h fun r h' => Ext (fun _ => False) h h' ∧ if trn xs = true then ∃ u, r = .tuple #[u, .int .i64 0] ∧ OwnSl 3 h' u (iL (gr (cst xs) xs.length xs.length 0)) else r = .tuple #[.slice none 0 0, .int .i64 2] := by
  have hnn : ∀ i : Nat, (0 : Int) ≤ (i : Int) := Int.natCast_nonneg
  have slOne : one v = true := by
    rcases hv with ⟨rfl, _⟩ | ⟨b, o, sp, cap, c, e, ro, rfl, _⟩ <;> rfl
  have box22 : ∀ {K : Value → Heap → Prop}, boxK prog h 22 v K = K (newPtr h) (h ++ [.cells [v] 22 false]) := fun {K} => by
    rcases hv with ⟨rfl, _⟩ | ⟨b, o, sp, cap, c, e, ro, rfl, _⟩ <;> simp [boxK, esz_22, cellsOf]
  refine s38_callW (by simp) ?_
  simp only [s38]
  refine aws_cut fun N4 hN4 => ?_
  simp (maxSteps := 2000000) only [s38, ↓aw_region, ↓aw_skip, ↓aw_seq, ↓aw_block, ↓aw_exit, ↓aw_ret, ↓sops_nil, ↓sops_go, ↓dops_nil, ↓dopsX_nil, ↓dopsR_nil, ↓vdn, vup, extr_20, extr_21, extr_30, extr_31, extr_32, List.map_cons, List.map_nil, cond_true, cond_false, aop, aThen, aBlock, argEnv, ev, sput, sputO, binK, binI, unK, builtinK, pickK, Nat.reduceBEq, Nat.reduceAdd, Int.reduceBEq, Int.reduceBNe, Int.reduceLT, aPost, resK, tup, tyf, box22, newPtr]
  refine hN4 [(1, pt h.length), (2, .slice none 0 0), (3, .int .i64 0)] _ _ ?_ (by simp (maxSteps := 2000000) only [↓aw_region, ↓aw_skip, ↓aw_seq, ↓aw_block, ↓aw_exit, ↓aw_ret, ↓sops_nil, ↓sops_go, ↓dops_nil, ↓dopsX_nil, ↓dopsR_nil, ↓vdn, vup, extr_20, extr_21, extr_30, extr_31, extr_32, List.map_cons, List.map_nil, cond_true, cond_false, aop, aThen, aBlock, argEnv, ev, sput, sputO, binK, binI, unK, builtinK, pickK, Nat.reduceBEq, Nat.reduceAdd, Int.reduceBEq, Int.reduceBNe, Int.reduceLT, aPost, resK, tup, tyf])
  clear hN4
  try clear N4
  have hE0 : Ext (fun _ => False) h (h ++ [Blk.cells [v] 22 false]) := Ext.app _ _ _
  have b1 := get_new h (Blk.cells [v] 22 false)
  generalize hH0 : h ++ [Blk.cells [v] 22 false] = H0 at hE0 b1 ⊢
  have l0 : H0.length = h.length + 1 := by rw [← hH0]; simp
  clear hH0
  refine aws_cut fun N5 hN5 => ?_
  simp (maxSteps := 2000000) only [s38, ↓aw_region, ↓aw_skip, ↓aw_seq, ↓aw_block, ↓aw_exit, ↓aw_ret, ↓sops_nil, ↓sops_go, ↓dops_nil, ↓dopsX_nil, ↓dopsR_nil, ↓vdn, vup, extr_20, extr_21, extr_30, extr_31, extr_32, List.map_cons, List.map_nil, cond_true, cond_false, aop, aThen, aBlock, argEnv, ev, sput, sputO, binK, binI, unK, builtinK, pickK, Nat.reduceBEq, Nat.reduceAdd, Int.reduceBEq, Int.reduceBNe, Int.reduceLT, aPost, resK, tup, tyf, load1 b1 shp_22]
  refine hN5 [(1, pt h.length), (2, .slice none 0 0), (3, .int .i64 0), (4, v)] _ _ ?_ (by simp (maxSteps := 2000000) only [↓aw_region, ↓aw_skip, ↓aw_seq, ↓aw_block, ↓aw_exit, ↓aw_ret, ↓sops_nil, ↓sops_go, ↓dops_nil, ↓dopsX_nil, ↓dopsR_nil, ↓vdn, vup, extr_20, extr_21, extr_30, extr_31, extr_32, List.map_cons, List.map_nil, cond_true, cond_false, aop, aThen, aBlock, argEnv, ev, sput, sputO, binK, binI, unK, builtinK, pickK, Nat.reduceBEq, Nat.reduceAdd, Int.reduceBEq, Int.reduceBNe, Int.reduceLT, aPost, resK, tup, tyf])
  clear hN5
  try clear N5
  have hv0 := IntSl_ext hv hE0
  refine aws_cut fun N6 hN6 => ?_
  simp (maxSteps := 2000000) only [s38, ↓aw_region, ↓aw_skip, ↓aw_seq, ↓aw_block, ↓aw_exit, ↓aw_ret, ↓sops_nil, ↓sops_go, ↓dops_nil, ↓dopsX_nil, ↓dopsR_nil, ↓vdn, vup, extr_20, extr_21, extr_30, extr_31, extr_32, List.map_cons, List.map_nil, cond_true, cond_false, aop, aThen, aBlock, argEnv, ev, sput, sputO, binK, binI, unK, builtinK, pickK, Nat.reduceBEq, Nat.reduceAdd, Int.reduceBEq, Int.reduceBNe, Int.reduceLT, aPost, resK, tup, tyf, callK, List.nil_append, List.append_nil, List.toList_toArray, List.cons_append]
  refine (valid_call hv0 hl hx).mono ?_
  rintro _ H0 ⟨rfl, rfl⟩
  cases ht : trn xs with
  | false =>
    simp (maxSteps := 2000000) only [s38, ↓aw_region, ↓aw_skip, ↓aw_seq, ↓aw_block, ↓aw_exit, ↓aw_ret, ↓sops_nil, ↓sops_go, ↓dops_nil, ↓dopsX_nil, ↓dopsR_nil, ↓vdn, vup, extr_20, extr_21, extr_30, extr_31, extr_32, List.map_cons, List.map_nil, cond_true, cond_false, aop, aThen, aBlock, argEnv, ev, sput, sputO, binK, binI, unK, builtinK, pickK, Nat.reduceBEq, Nat.reduceAdd, Int.reduceBEq, Int.reduceBNe, Int.reduceLT, aPost, resK, tup, tyf, Bool.not_false]
    exact ⟨hE0, by simp⟩
  | true =>
  have hxl : 1 ≤ xs.length ∧ xs.length ≤ 8 := by simp only [trn, Bool.and_eq_true, decide_eq_true_eq] at ht; omega
  have h256 := pow8N hxl.2
  have h2n : 2 ^ 1 ≤ 2 ^ xs.length := Nat.pow_le_pow_right (by decide) hxl.1
  obtain ⟨M, hM⟩ : ∃ M, 2 ^ xs.length = M := ⟨_, rfl⟩
  have hsh : shlV .i64 1 (xs.length : Int) = ((M : Nat) : Int) := by rw [shlI1 (by omega), hM]
  rw [hM] at h256 h2n
  simp (maxSteps := 2000000) only [s38, ↓aw_region, ↓aw_skip, ↓aw_seq, ↓aw_block, ↓aw_exit, ↓aw_ret, ↓sops_nil, ↓sops_go, ↓dops_nil, ↓dopsX_nil, ↓dopsR_nil, ↓vdn, vup, extr_20, extr_21, extr_30, extr_31, extr_32, List.map_cons, List.map_nil, cond_true, cond_false, aop, aThen, aBlock, argEnv, ev, sput, sputO, binK, binI, unK, builtinK, pickK, Nat.reduceBEq, Nat.reduceAdd, Int.reduceBEq, Int.reduceBNe, Int.reduceLT, aPost, resK, tup, tyf, Bool.not_true]
  refine hN6 [(1, pt h.length), (2, .slice none 0 0), (3, .int .i64 0), (4, v)] _ _ ?_ (by simp (maxSteps := 2000000) only [↓aw_region, ↓aw_skip, ↓aw_seq, ↓aw_block, ↓aw_exit, ↓aw_ret, ↓sops_nil, ↓sops_go, ↓dops_nil, ↓dopsX_nil, ↓dopsR_nil, ↓vdn, vup, extr_20, extr_21, extr_30, extr_31, extr_32, List.map_cons, List.map_nil, cond_true, cond_false, aop, aThen, aBlock, argEnv, ev, sput, sputO, binK, binI, unK, builtinK, pickK, Nat.reduceBEq, Nat.reduceAdd, Int.reduceBEq, Int.reduceBNe, Int.reduceLT, aPost, resK, tup, tyf])
  clear hN6
  try clear N6
  refine aws_cut fun N7 hN7 => ?_
  have tcell := get_new (H0 ++ [Blk.ints (List.replicate M 0) 3 false]) (Blk.cells [.slice none 0 0] 22 false)
  simp (maxSteps := 2000000) only [s38, ↓aw_region, ↓aw_skip, ↓aw_seq, ↓aw_block, ↓aw_exit, ↓aw_ret, ↓sops_nil, ↓sops_go, ↓dops_nil, ↓dopsX_nil, ↓dopsR_nil, ↓vdn, vup, extr_20, extr_21, extr_30, extr_31, extr_32, List.map_cons, List.map_nil, cond_true, cond_false, aop, aThen, aBlock, argEnv, ev, sput, sputO, binK, binI, unK, builtinK, pickK, Nat.reduceBEq, Nat.reduceAdd, Int.reduceBEq, Int.reduceBNe, Int.reduceLT, aPost, resK, tup, tyf, load1 b1 shp_22, hv0.len, hnn, hsh, makeI el_22 zero_3 info_3 (Int.natCast_nonneg M) (show ((M : Nat) : Int) ≤ 35184372088832 by omega), Int.toNat_natCast, allocK, newPtr, zero_22, store1 tcell shp_22 (show one (tv H0.length M) = true from rfl), setLast]
  refine hN7 [(1, pt h.length), (2, .slice none 0 0), (3, .int .i64 0), (4, v), (5, pt (H0 ++ [Blk.ints (List.replicate M 0) 3 false]).length)] _ _ ?_ (by simp (maxSteps := 2000000) only [↓aw_region, ↓aw_skip, ↓aw_seq, ↓aw_block, ↓aw_exit, ↓aw_ret, ↓sops_nil, ↓sops_go, ↓dops_nil, ↓dopsX_nil, ↓dopsR_nil, ↓vdn, vup, extr_20, extr_21, extr_30, extr_31, extr_32, List.map_cons, List.map_nil, cond_true, cond_false, aop, aThen, aBlock, argEnv, ev, sput, sputO, binK, binI, unK, builtinK, pickK, Nat.reduceBEq, Nat.reduceAdd, Int.reduceBEq, Int.reduceBNe, Int.reduceLT, aPost, resK, tup, tyf])
  clear hN7
  try clear N7
  refine aws_cut fun N8 hN8 => ?_
  simp (maxSteps := 2000000) only [s38, ↓aw_region, ↓aw_skip, ↓aw_seq, ↓aw_block, ↓aw_exit, ↓aw_ret, ↓sops_nil, ↓sops_go, ↓dops_nil, ↓dopsX_nil, ↓dopsR_nil, ↓vdn, vup, extr_20, extr_21, extr_30, extr_31, extr_32, List.map_cons, List.map_nil, cond_true, cond_false, aop, aThen, aBlock, argEnv, ev, sput, sputO, binK, binI, unK, builtinK, pickK, Nat.reduceBEq, Nat.reduceAdd, Int.reduceBEq, Int.reduceBNe, Int.reduceLT, aPost, resK, tup, tyf, List.map_toArray, allocK, newPtr, zero_69, Am.storeF (get_new _ _) shp_69, setLast]
  refine hN8 [(1, pt h.length), (2, .slice none 0 0), (3, .int .i64 0), (4, v), (5, pt (H0 ++ [Blk.ints (List.replicate M 0) 3 false]).length), (6, pt (H0 ++ [Blk.ints (List.replicate M 0) 3 false] ++ [Blk.cells [tv H0.length M] 22 false]).length)] _ _ ?_ (by simp (maxSteps := 2000000) only [↓aw_region, ↓aw_skip, ↓aw_seq, ↓aw_block, ↓aw_exit, ↓aw_ret, ↓sops_nil, ↓sops_go, ↓dops_nil, ↓dopsX_nil, ↓dopsR_nil, ↓vdn, vup, extr_20, extr_21, extr_30, extr_31, extr_32, List.map_cons, List.map_nil, cond_true, cond_false, aop, aThen, aBlock, argEnv, ev, sput, sputO, binK, binI, unK, builtinK, pickK, Nat.reduceBEq, Nat.reduceAdd, Int.reduceBEq, Int.reduceBNe, Int.reduceLT, aPost, resK, tup, tyf])
  clear hN8
  try clear N8
  have e1 : (H0 ++ [Blk.ints (List.replicate M 0) 3 false]).length = h.length + 2 := by simp [l0]
  have e2 : (H0 ++ [Blk.ints (List.replicate M 0) 3 false] ++ [Blk.cells [tv H0.length M] 22 false]).length = h.length + 3 := by simp [l0]
  have hrep : List.replicate M (0 : Int) = iL (List.replicate M 0) := by simp [iL]
  rw [e1, e2, l0, hrep]
  generalize hG : H0 ++ [Blk.ints (iL (List.replicate M 0)) 3 false] ++ [Blk.cells [tv (h.length + 1) M] 22 false] ++ [Blk.cells [.func (.func 75) #[] #[pt h.length, pt (h.length + 2)]] 69 false] = G
  have hGl : G.length = h.length + 4 := by rw [← hG]; simp [l0]
  have o0 : OB h G v M (List.replicate M 0) := by
    rw [← hG]
    refine ⟨get_old (get_old (get_old b1 _) _) _, ?_, ?_, ?_, ((hE0.trans (Ext.app _ _ _)).trans (Ext.app _ _ _)).trans (Ext.app _ _ _), by simp⟩
    · rw [← l0]; exact get_old (get_old (get_new _ _) _) _
    · have := get_new (H0 ++ [Blk.ints (iL (List.replicate M 0)) 3 false]) (Blk.cells [tv (h.length + 1) M] 22 false)
      rw [List.length_append, List.length_singleton, l0] at this
      exact get_old this _
    · have := get_new (H0 ++ [Blk.ints (iL (List.replicate M 0)) 3 false] ++ [Blk.cells [tv (h.length + 1) M] 22 false]) (Blk.cells [.func (.func 75) #[] #[pt h.length, pt (h.length + 2)]] 69 false)
      rw [List.length_append, List.length_append, List.length_singleton, List.length_singleton, l0] at this
      exact this
  clear hG tcell
  have hv1 := IntSl_ext hv o0.E
  have hT0 : TOk xs M (M - 1) (List.replicate M 0) := by
    have hz : ∀ s, (List.replicate M 0).getD s 0 = 0 := fun s => by
      rw [List.getD, List.getElem?_replicate]; split <;> rfl
    refine ⟨fun s h1 h2 => ?_, fun s => by rw [hz]; omega⟩
    rw [hz, (fr_full hM h2).2 (by omega)]; rfl
  have hsub : subV .i64 ((M - 1 : Nat) : Int) 1 = ((M - 1 : Nat) : Int) - 1 := subV_id (by omega) (by omega)
  refine aws_cutW fun Z hZ => ?_
  refine aws_cut fun N9 hN9 => ?_
  simp (maxSteps := 2000000) only [s38, ↓aw_region, ↓aw_skip, ↓aw_seq, ↓aw_block, ↓aw_exit, ↓aw_ret, ↓sops_nil, ↓sops_go, ↓dops_nil, ↓dopsX_nil, ↓dopsR_nil, ↓vdn, vup, extr_20, extr_21, extr_30, extr_31, extr_32, List.map_cons, List.map_nil, cond_true, cond_false, aop, aThen, aBlock, argEnv, ev, sput, sputO, binK, binI, unK, builtinK, pickK, Nat.reduceBEq, Nat.reduceAdd, Int.reduceBEq, Int.reduceBNe, Int.reduceLT, aPost, resK, tup, tyf, callK, List.nil_append, List.append_nil, List.toList_toArray, List.cons_append]
  refine ((show APure prog 63 [v] G (vint ((M - 1 : Nat) : Int)) by have := all_call hv1 hxl.2; rw [hM] at this; exact this)).mono ?_
  rintro _ G ⟨rfl, rfl⟩
  simp (maxSteps := 2000000) only [s38, ↓aw_region, ↓aw_skip, ↓aw_seq, ↓aw_block, ↓aw_exit, ↓aw_ret, ↓sops_nil, ↓sops_go, ↓dops_nil, ↓dopsX_nil, ↓dopsR_nil, ↓vdn, vup, extr_20, extr_21, extr_30, extr_31, extr_32, List.map_cons, List.map_nil, cond_true, cond_false, aop, aThen, aBlock, argEnv, ev, sput, sputO, binK, binI, unK, builtinK, pickK, Nat.reduceBEq, Nat.reduceAdd, Int.reduceBEq, Int.reduceBNe, Int.reduceLT, aPost, resK, tup, tyf, hsub, allocK, newPtr, zero_3, Am.storeI (get_new _ _) shp_3, setLast]
  refine hN9 [(1, pt h.length), (2, .slice none 0 0), (3, .int .i64 0), (4, v), (5, pt (h.length + 2)), (6, pt (h.length + 3)), (7, pt G.length)] _ _ ?_ (by simp (maxSteps := 2000000) only [↓aw_region, ↓aw_skip, ↓aw_seq, ↓aw_block, ↓aw_exit, ↓aw_ret, ↓sops_nil, ↓sops_go, ↓dops_nil, ↓dopsX_nil, ↓dopsR_nil, ↓vdn, vup, extr_20, extr_21, extr_30, extr_31, extr_32, List.map_cons, List.map_nil, cond_true, cond_false, aop, aThen, aBlock, argEnv, ev, sput, sputO, binK, binI, unK, builtinK, pickK, Nat.reduceBEq, Nat.reduceAdd, Int.reduceBEq, Int.reduceBNe, Int.reduceLT, aPost, resK, tup, tyf])
  clear hN9
  try clear N9
  refine fill_loop hv ht hM (o0.up (Ext.app _ _ _)) hT0 (get_new G _) (by omega) ?_
  intro hp T e o hT he
  refine hZ [(1, pt h.length), (2, .slice none 0 0), (3, .int .i64 0), (4, v), (5, pt (h.length + 2)), (6, pt (h.length + 3))] _ _ ?_ he
  clear hZ he
  refine aws_cut fun N10 hN10 => ?_
  simp (maxSteps := 2000000) only [s38, ↓aw_region, ↓aw_skip, ↓aw_seq, ↓aw_block, ↓aw_exit, ↓aw_ret, ↓sops_nil, ↓sops_go, ↓dops_nil, ↓dopsX_nil, ↓dopsR_nil, ↓vdn, vup, extr_20, extr_21, extr_30, extr_31, extr_32, List.map_cons, List.map_nil, cond_true, cond_false, aop, aThen, aBlock, argEnv, ev, sput, sputO, binK, binI, unK, builtinK, pickK, Nat.reduceBEq, Nat.reduceAdd, Int.reduceBEq, Int.reduceBNe, Int.reduceLT, aPost, resK, tup, tyf, allocK, newPtr, zero_22]
  refine hN10 [(1, pt h.length), (2, .slice none 0 0), (3, .int .i64 0), (4, v), (5, pt (h.length + 2)), (6, pt (h.length + 3)), (9, pt hp.length)] _ _ ?_ (by simp (maxSteps := 2000000) only [↓aw_region, ↓aw_skip, ↓aw_seq, ↓aw_block, ↓aw_exit, ↓aw_ret, ↓sops_nil, ↓sops_go, ↓dops_nil, ↓dopsX_nil, ↓dopsR_nil, ↓vdn, vup, extr_20, extr_21, extr_30, extr_31, extr_32, List.map_cons, List.map_nil, cond_true, cond_false, aop, aThen, aBlock, argEnv, ev, sput, sputO, binK, binI, unK, builtinK, pickK, Nat.reduceBEq, Nat.reduceAdd, Int.reduceBEq, Int.reduceBNe, Int.reduceLT, aPost, resK, tup, tyf])
  clear hN10
  try clear N10
  have l4 : h.length + 4 ≤ hp.length := by have := get_lt o.b6; omega
  refine aws_cutW fun Z hZ => ?_
  refine aws_cut fun N11 hN11 => ?_
  simp (maxSteps := 2000000) only [s38, ↓aw_region, ↓aw_skip, ↓aw_seq, ↓aw_block, ↓aw_exit, ↓aw_ret, ↓sops_nil, ↓sops_go, ↓dops_nil, ↓dopsX_nil, ↓dopsR_nil, ↓vdn, vup, extr_20, extr_21, extr_30, extr_31, extr_32, List.map_cons, List.map_nil, cond_true, cond_false, aop, aThen, aBlock, argEnv, ev, sput, sputO, binK, binI, unK, builtinK, pickK, Nat.reduceBEq, Nat.reduceAdd, Int.reduceBEq, Int.reduceBNe, Int.reduceLT, aPost, resK, tup, tyf, allocK, newPtr, zero_3, Am.storeI (get_new _ _) shp_3, setLast]
  refine hN11 [(1, pt h.length), (2, .slice none 0 0), (3, .int .i64 0), (4, v), (5, pt (h.length + 2)), (6, pt (h.length + 3)), (9, pt hp.length), (10, pt (hp ++ [Blk.cells [.slice none 0 0] 22 false]).length)] _ _ ?_ (by simp (maxSteps := 2000000) only [↓aw_region, ↓aw_skip, ↓aw_seq, ↓aw_block, ↓aw_exit, ↓aw_ret, ↓sops_nil, ↓sops_go, ↓dops_nil, ↓dopsX_nil, ↓dopsR_nil, ↓vdn, vup, extr_20, extr_21, extr_30, extr_31, extr_32, List.map_cons, List.map_nil, cond_true, cond_false, aop, aThen, aBlock, argEnv, ev, sput, sputO, binK, binI, unK, builtinK, pickK, Nat.reduceBEq, Nat.reduceAdd, Int.reduceBEq, Int.reduceBNe, Int.reduceLT, aPost, resK, tup, tyf])
  clear hN11
  try clear N11
  refine pick_loop hv ht hM ((o.up (Ext.app _ _ _)).up (Ext.app _ _ _)) hT (get_old (get_new hp _) _) (get_new _ _) l4 (by simp) ?_
  intro h5 ov e hE5 h59 hov he
  refine hZ [(2, .slice none 0 0), (3, .int .i64 0), (9, pt hp.length)] _ _ ?_ he
  clear hZ he
  refine aw_aws ?_
  simp (maxSteps := 2000000) only [s38, ↓aw_region, ↓aw_skip, ↓aw_seq, ↓aw_block, ↓aw_exit, ↓aw_ret, ↓sops_nil, ↓sops_go, ↓dops_nil, ↓dopsX_nil, ↓dopsR_nil, ↓vdn, vup, extr_20, extr_21, extr_30, extr_31, extr_32, List.map_cons, List.map_nil, cond_true, cond_false, aop, aThen, aBlock, argEnv, ev, sput, sputO, binK, binI, unK, builtinK, pickK, Nat.reduceBEq, Nat.reduceAdd, Int.reduceBEq, Int.reduceBNe, Int.reduceLT, aPost, resK, tup, tyf, load1 h59 shp_22]
  refine ⟨hE5, ?_⟩
  rw [if_pos ht]
  exact ⟨ov, rfl, hov⟩
end Go.Proofs.Tryd.Am

namespace Go.Proofs.Tryd.Am
open Go.Am
set_option maxRecDepth 100000
/-! 3: planchet planchetlaw02.RanksRedei -/
@[reducible] def q3_0 : SCode := .region [⟨some 2, .assign (.const (.bool false)), none⟩]
@[reducible] def q3_1 : SCode := .region [⟨some 7, .move (.tmp 0), none⟩,
    ⟨some 8, .call { callee := .value (.func 19), args := #[.tmp 7], argTypes := #[22] }, none⟩,
    ⟨some 9, .call { callee := .value (.func 18), args := #[.tmp 8], argTypes := #[22] }, none⟩,
    ⟨some 6, .move (.tmp 9), none⟩,
    ⟨some 10, .extract (.tmp 6) 0, none⟩,
    ⟨some 11, .extract (.tmp 6) 1, none⟩,
    ⟨some 3, .assign (.tmp 10), none⟩,
    ⟨some 4, .assign (.tmp 11), none⟩]
@[reducible] def q3_2 : SCode := .region [⟨some 12, .move (.tmp 4), none⟩,
    ⟨some 13, .binOp .neq 23 (.tmp 12) (.const (.int .i64 0)) 23, none⟩,
    ⟨some 14, .move (.tmp 13), none⟩,
    ⟨some 15, .move (.tmp 0), some (14, false)⟩,
    ⟨some 16, .call { callee := .value (.func 20), args := #[.tmp 15], argTypes := #[22] }, some (14, false)⟩,
    ⟨some 17, .unOp .not 4 (.tmp 16), some (14, false)⟩,
    ⟨some 18, .pick (.tmp 14) (.const (.bool true)) (.tmp 17), none⟩]
@[reducible] def q3_3 : SCode := .region [⟨some 19, .move (.tmp 4), none⟩,
    ⟨some 20, .binOp .eql 23 (.tmp 19) (.const (.int .i64 2)) 23, none⟩,
    ⟨some 21, .move (.tmp 20), none⟩,
    ⟨some 22, .call { callee := .value (.func 21), args := #[], argTypes := #[] }, some (21, true)⟩,
    ⟨some 23, .pick (.tmp 21) (.tmp 22) (.const (.bool false)), none⟩,
    ⟨some 2, .assign (.tmp 23), none⟩]
@[reducible] def q3_4 : SCode := .region [⟨some 24, .move (.tmp 0), none⟩,
    ⟨some 25, .move (.tmp 3), none⟩,
    ⟨some 26, .call { callee := .value (.func 22), args := #[.tmp 24, .tmp 25], argTypes := #[22, 22] }, none⟩,
    ⟨some 27, .unOp .not 4 (.tmp 26), none⟩]
@[reducible] def q3_5 : SCode := .region [⟨some 2, .assign (.const (.bool false)), none⟩]
@[reducible] def q3_6 : SCode := .region [⟨some 5, .assign (.const (.int .i64 1)), none⟩]
@[reducible] def q3_7 : SCode := .region [⟨some 28, .move (.tmp 5), none⟩,
    ⟨some 29, .move (.tmp 3), none⟩,
    ⟨some 30, .call { callee := .builtin .len, args := #[.tmp 29], argTypes := #[22] }, none⟩,
    ⟨some 31, .binOp .lss 3 (.tmp 28) (.tmp 30) 3, none⟩]
def q3_9 : SCode := .draw [⟨some 34, .move (.tmp 0), none⟩,
    ⟨some 35, .move (.tmp 3), none⟩,
    ⟨some 36, .move (.tmp 5), none⟩,
    ⟨some 37, .binOp .sub 3 (.tmp 36) (.const (.int .i64 1)) 3, none⟩,
    ⟨some 38, .indexAddr 22 (.tmp 35) (.tmp 37), none⟩,
    ⟨some 39, .load 3 (.tmp 38), none⟩,
    ⟨some 40, .indexAddr 22 (.tmp 34) (.tmp 39), none⟩,
    ⟨some 41, .load 3 (.tmp 40), none⟩,
    ⟨some 42, .move (.tmp 3), none⟩,
    ⟨some 43, .move (.tmp 5), none⟩,
    ⟨some 44, .indexAddr 22 (.tmp 42) (.tmp 43), none⟩,
    ⟨some 45, .load 3 (.tmp 44), none⟩,
    ⟨some 46, .binOp .shr 3 (.tmp 41) (.tmp 45) 3, none⟩,
    ⟨some 47, .binOp .and 3 (.tmp 46) (.const (.int .i64 1)) 3, none⟩,
    ⟨some 48, .binOp .eql 3 (.tmp 47) (.const (.int .i64 0)) 3, none⟩]
   [[], [], [], [2], [1, 3], [4], [0, 5], [6], [], [], [8, 9], [10], [7, 11], [12], [13]]
@[reducible] def q3_10 : SCode := .region [⟨some 2, .assign (.const (.bool false)), none⟩]
@[reducible] def q3_8 : SCode := .region [⟨some 32, .move (.tmp 5), none⟩,
    ⟨some 33, .binOp .add 3 (.tmp 32) (.const (.int .i64 1)) 3, none⟩,
    ⟨some 5, .assign (.tmp 33), none⟩]
def l3_0 : SCode := (.seq (.seq q3_7 (.cond (.tmp 31) .skip (.exit 0))) (.seq (.block 1 (.seq q3_9 (.cond (.tmp 48) (.seq q3_10 .ret) .skip))) q3_8))
@[reducible] def q3_11 : SCode := .region [⟨some 49, .move (.tmp 0), none⟩,
    ⟨some 50, .call { callee := .value (.func 23), args := #[.tmp 49, .const (.int .i64 (-1)), .const (.int .i64 0)], argTypes := #[22, 3, 3] }, none⟩,
    ⟨some 51, .binOp .rem 3 (.tmp 50) (.const (.int .i64 2)) 3, none⟩,
    ⟨some 52, .binOp .eql 3 (.tmp 51) (.const (.int .i64 1)) 3, none⟩,
    ⟨some 53, .move (.tmp 52), none⟩,
    ⟨some 54, .call { callee := .value (.func 21), args := #[], argTypes := #[] }, some (53, true)⟩,
    ⟨some 55, .pick (.tmp 53) (.tmp 54) (.const (.bool false)), none⟩,
    ⟨some 2, .assign (.tmp 55), none⟩]
def s3 : SCode := (.seq q3_0 (.seq q3_1 (.seq (.seq q3_2 (.cond (.tmp 18) (.seq q3_3 .ret) .skip)) (.seq (.seq q3_4 (.cond (.tmp 27) (.seq q3_5 .ret) .skip)) (.seq (.seq q3_6 (.block 0 (.loop l3_0))) (.seq q3_11 .ret))))))
/-! 22: planchet planchetref02.IsOrder -/
@[reducible] def q22_0 : SCode := .region [⟨some 4, .assign (.const (.bool false)), none⟩]
@[reducible] def q22_1 : SCode := .region [⟨some 5, .assign (.const (.int .i64 0)), none⟩]
@[reducible] def q22_2 : SCode := .region [⟨some 8, .move (.tmp 1), none⟩,
    ⟨some 9, .call { callee := .builtin .len, args := #[.tmp 8], argTypes := #[22] }, none⟩,
    ⟨some 10, .move (.const (.int .i64 0)), none⟩]
@[reducible] def q22_3 : SCode := .region [⟨some 11, .binOp .lss 3 (.tmp 10) (.tmp 9) 3, none⟩]
@[reducible] def q22_4 : SCode := .region [⟨some 12, .indexAddr 22 (.tmp 8) (.tmp 10), none⟩,
    ⟨some 13, .load 3 (.tmp 12), none⟩,
    ⟨some 7, .assign (.tmp 13), none⟩]
@[reducible] def q22_5 : SCode := .region [⟨some 14, .move (.tmp 7), none⟩,
    ⟨some 15, .binOp .lss 3 (.tmp 14) (.const (.int .i64 0)) 3, none⟩,
    ⟨some 16, .move (.tmp 15), none⟩,
    ⟨some 17, .move (.tmp 7), some (16, false)⟩,
    ⟨some 18, .move (.tmp 0), some (16, false)⟩,
    ⟨some 19, .call { callee := .builtin .len, args := #[.tmp 18], argTypes := #[22] }, some (16, false)⟩,
    ⟨some 20, .binOp .geq 3 (.tmp 17) (.tmp 19) 3, some (16, false)⟩,
    ⟨some 21, .pick (.tmp 16) (.const (.bool true)) (.tmp 20), none⟩,
    ⟨some 22, .move (.tmp 21), none⟩,
    ⟨some 23, .move (.tmp 5), some (22, false)⟩,
    ⟨some 24, .move (.tmp 7), some (22, false)⟩,
    ⟨some 25, .binOp .shr 3 (.tmp 23) (.tmp 24) 3, some (22, false)⟩,
    ⟨some 26, .binOp .and 3 (.tmp 25) (.const (.int .i64 1)) 3, some (22, false)⟩,
    ⟨some 27, .binOp .eql 3 (.tmp 26) (.const (.int .i64 1)) 3, some (22, false)⟩,
    ⟨some 28, .pick (.tmp 22) (.const (.bool true)) (.tmp 27), none⟩]
@[reducible] def q22_6 : SCode := .region [⟨some 4, .assign (.const (.bool false)), none⟩]
@[reducible] def q22_7 : SCode := .region [⟨some 29, .move (.tmp 5), none⟩,
    ⟨some 30, .move (.tmp 7), none⟩,
    ⟨some 31, .binOp .shl 3 (.const (.int .i64 1)) (.tmp 30) 3, none⟩,
    ⟨some 32, .binOp .or 3 (.tmp 29) (.tmp 31) 3, none⟩,
    ⟨some 5, .assign (.tmp 32), none⟩]
@[reducible] def q22_8 : SCode := .region [⟨some 33, .binOp .add 3 (.tmp 10) (.const (.int .i64 1)) 3, none⟩,
    ⟨some 10, .move (.tmp 33), none⟩]
def l22_0 : SCode := (.seq q22_3 (.seq (.cond (.tmp 11) .skip (.exit 0)) (.seq (.block 1 (.seq q22_4 (.seq (.seq q22_5 (.cond (.tmp 28) (.seq q22_6 .ret) .skip)) q22_7))) q22_8)))
@[reducible] def q22_9 : SCode := .region [⟨some 34, .move (.tmp 1), none⟩,
    ⟨some 35, .call { callee := .builtin .len, args := #[.tmp 34], argTypes := #[22] }, none⟩,
    ⟨some 36, .move (.tmp 0), none⟩,
    ⟨some 37, .call { callee := .builtin .len, args := #[.tmp 36], argTypes := #[22] }, none⟩,
    ⟨some 38, .binOp .eql 3 (.tmp 35) (.tmp 37) 3, none⟩,
    ⟨some 4, .assign (.tmp 38), none⟩]
def s22 : SCode := (.seq q22_0 (.seq q22_1 (.seq (.seq q22_2 (.block 0 (.loop l22_0))) (.seq q22_9 .ret))))
theorem s22_strip : stripC (bodyOf Tryd.f22) = s22 := by kernel_rfl
theorem s22_ok : codeOK 39 (bodyOf Tryd.f22) = true := by kernel_rfl
theorem s22_call [Tabs Tryd.prog] {args : List Value} {h : Heap} {Q : Value → Heap → Prop} (hsz : args.length ≤ 39) (hk : aw Tryd.prog 39 s22 (aPost Tryd.prog [.tmp 4] Q) (argEnv 0 args) h) : ACall Tryd.prog 22 args h Q :=
  acall_s Tryd.func22 rfl (enters_of Tryd.func22 (by kernel_rfl) rfl) rfl rfl (by decide) s22_strip s22_ok hsz hk

end Go.Proofs.Tryd.Am
