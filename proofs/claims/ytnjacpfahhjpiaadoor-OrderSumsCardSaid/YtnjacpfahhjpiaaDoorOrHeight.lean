/-
  order: chances and heights.
-/
import Derived.Test.YtnjacpfahhjpiaaDoorOrFrac
import Derived.Test.YtnjacpfahhjpiaaDoorOrLines
import Derived.Test.YtnjacpfahhjpiaaDoorOrEven
set_option linter.all false
namespace Go.Proofs.Tryd.Am
open Go.Am Ord
set_option maxRecDepth 100000
set_option maxHeartbeats 1000000

/-- The places at which i stands, of the first m, together. -/
def posTo (l : List Nat) (i : Nat) : Nat → Nat
  | 0 => 0
  | m + 1 => posTo l i m + if l.getD m 0 = i then m else 0
theorem posTo_eq {l : List Nat} (hl : l.Nodup) {i : Nat} : ∀ m, m ≤ l.length → posTo l i m = if l.idxOf i < m then l.idxOf i else 0
  | 0, _ => rfl
  | m + 1, h => by
    have hm : m < l.length := by omega
    have hg : l.getD m 0 = l[m] := by rw [List.getD, List.getElem?_eq_getElem hm]; rfl
    have hi : l[m] = i ↔ l.idxOf i = m := by
      constructor
      · rintro rfl
        exact hl.idxOf_getElem m hm
      · intro h1
        have : l.idxOf i < l.length := by omega
        have h2 := List.getElem_idxOf this
        simp only [h1] at h2
        exact h2
    rw [posTo, posTo_eq hl m (by omega), hg]
    by_cases h1 : l.idxOf i = m
    · rw [if_pos (hi.2 h1), if_neg (by omega), if_pos (by omega)]; omega
    · rw [if_neg (fun h => h1 (hi.1 h))]
      by_cases h2 : l.idxOf i < m
      · rw [if_pos h2, if_pos (by omega)]; omega
      · rw [if_neg h2, if_neg (by omega)]
theorem posTo_all {l : List Nat} (hl : l.Nodup) {i : Nat} (hi : i ∈ l) : posTo l i l.length = l.idxOf i := by
  rw [posTo_eq hl _ (Nat.le_refl _), if_pos (List.idxOf_lt_length_of_mem hi)]
theorem posTo_mono (l : List Nat) (i : Nat) : ∀ {a b : Nat}, a ≤ b → posTo l i a ≤ posTo l i b
  | a, 0, h => by obtain rfl : a = 0 := by omega
                  exact Nat.le_refl _
  | a, b + 1, h => by
    rcases Nat.lt_or_ge a (b + 1) with h' | h'
    · exact Nat.le_trans (posTo_mono l i (show a ≤ b by omega)) (Nat.le_add_right _ _)
    · obtain rfl : a = b + 1 := by omega
      exact Nat.le_refl _
/-- The heights in the first k lines. -/
def hTo (o : List Int) (i : Nat) : Nat → Nat
  | 0 => 0
  | k + 1 => hTo o i k + ((allLines o).getD k []).idxOf i
theorem hTo_all (o : List Int) (i : Nat) : hTo o i (cn o) = ((allLines o).map fun l => l.idxOf i).sum := by
  have key : ∀ k, k ≤ (allLines o).length → hTo o i k = (((allLines o).take k).map fun l => l.idxOf i).sum := by
    intro k
    induction k with
    | zero => intro _; simp [hTo]
    | succ k ih =>
      intro hk
      have hk' : k < (allLines o).length := by omega
      rw [hTo, ih (by omega), List.take_succ_eq_append_getElem hk', List.map_append, List.sum_append, List.getD, List.getElem?_eq_getElem hk']; simp
  have := key _ (Nat.le_refl _)
  rw [List.take_length, allLines_len] at this; exact this
theorem hTo_mono (o : List Int) (i : Nat) : ∀ {a b : Nat}, a ≤ b → hTo o i a ≤ hTo o i b
  | a, 0, h => by obtain rfl : a = 0 := by omega
                  exact Nat.le_refl _
  | a, b + 1, h => by
    rcases Nat.lt_or_ge a (b + 1) with h' | h'
    · exact Nat.le_trans (hTo_mono o i (show a ≤ b by omega)) (Nat.le_add_right _ _)
    · obtain rfl : a = b + 1 := by omega
      exact Nat.le_refl _
theorem line_get {o : List Int} (ho : ord o = true) {k : Nat} (hk : k < cn o) : ((allLines o).getD k []).Perm (List.range o.length) := by
  have hk' : k < (allLines o).length := by rw [allLines_len]; exact hk
  have hm : (allLines o).getD k [] ∈ allLines o := by rw [List.getD, List.getElem?_eq_getElem hk']; exact List.getElem_mem hk'
  exact ((mem_all ho).1 hm).1
theorem castN_get (l : List Nat) {k : Nat} (hk : k < l.length) : (castN l).getD k 0 = ((l.getD k 0 : Nat) : Int) := by
  simp [castN, List.getD, hk]

theorem rheight_call [Tabs prog] {h : Heap} {v : Value} {o : List Int} (hv : IntSl h v o) (ho : ord o = true) {i : Nat} (hi : i < o.length) : APure prog 29 [v, vint i] h (fracV (hsum o i) (cn o)) := by
  have hlen := ord_len ho
  have hcl := cn_le ho
  have hcp := cn_pos ho
  have hhl := hsum_le ho hi
  have hha := (hTo_all o i).trans (hsum_eq ho hi)
  refine ACall.forget (low_frV _ _) ?_
  refine s29_call (by simp) ?_
  simp only [s29]
  refine aw_cut fun N hN => ?_
  simp (config := {maxSteps := 2000000}) only [s29, ↓aw_region, ↓aw_skip, ↓aw_seq, ↓aw_block, ↓aw_exit, ↓aw_ret, ↓sops_nil, ↓sops_go, ↓dops_nil, ↓dopsX_nil, ↓dopsR_nil, ↓vdn, vup, extr_20, extr_21, extr_30, extr_31, extr_32, List.map_cons, List.map_nil, cond_true, cond_false, aop, aThen, aBlock, argEnv, ev, sput, sputO, binK, binI, unK, builtinK, pickK, Nat.reduceBEq, Nat.reduceAdd, Int.reduceBEq, Int.reduceBNe, Int.reduceLT, aPost, resK, tup, tyf, allocK, newPtr, zero_37]
  refine hN _ _ ?_
  clear hN N
  obtain ⟨n, hn⟩ : ∃ n, n = h.length := ⟨_, rfl⟩
  have c0 := get_new h (Blk.cells [.int .i64 0, .int .i64 0] 37 false)
  have hE0 : Ext (fun _ => False) h (h ++ [Blk.cells [.int .i64 0, .int .i64 0] 37 false]) := Ext.app _ _ _
  have hnl : n < (h ++ [Blk.cells [.int .i64 0, .int .i64 0] 37 false]).length := by rw [hn]; simp
  rw [← hn] at c0 ⊢
  generalize h ++ [Blk.cells [.int .i64 0, .int .i64 0] 37 false] = h1 at c0 hE0 hnl ⊢
  refine aw_cut fun N hN => ?_
  simp (config := {maxSteps := 2000000}) only [s29, ↓aw_region, ↓aw_skip, ↓aw_seq, ↓aw_block, ↓aw_exit, ↓aw_ret, ↓sops_nil, ↓sops_go, ↓dops_nil, ↓dopsX_nil, ↓dopsR_nil, ↓vdn, vup, extr_20, extr_21, extr_30, extr_31, extr_32, List.map_cons, List.map_nil, cond_true, cond_false, aop, aThen, aBlock, argEnv, ev, sput, sputO, binK, binI, unK, builtinK, pickK, Nat.reduceBEq, Nat.reduceAdd, Int.reduceBEq, Int.reduceBNe, Int.reduceLT, aPost, resK, tup, tyf]
  refine hN _ _ ?_
  clear hN N
  refine aw_cut fun N hN => ?_
  simp (config := {maxSteps := 2000000}) only [s29, ↓aw_region, ↓aw_skip, ↓aw_seq, ↓aw_block, ↓aw_exit, ↓aw_ret, ↓sops_nil, ↓sops_go, ↓dops_nil, ↓dopsX_nil, ↓dopsR_nil, ↓vdn, vup, extr_20, extr_21, extr_30, extr_31, extr_32, List.map_cons, List.map_nil, cond_true, cond_false, aop, aThen, aBlock, argEnv, ev, sput, sputO, binK, binI, unK, builtinK, pickK, Nat.reduceBEq, Nat.reduceAdd, Int.reduceBEq, Int.reduceBNe, Int.reduceLT, aPost, resK, tup, tyf, callK, List.nil_append, List.append_nil, List.toList_toArray, List.cons_append]
  refine (rlinesAll_call (IntSl_ext hv hE0) ho).mono ?_
  rintro L h2 ⟨hL, hE2⟩
  refine hN _ _ ?_
  clear hN N
  have c2 : h2[n]? = some (.cells [.int .i64 0, .int .i64 0] 37 false) := (hE2.2 n hnl id).trans c0
  have hE02 := hE0.trans hE2
  have hLl := linesI_len o
  refine aw_cut fun N hN => ?_
  simp (config := {maxSteps := 2000000}) only [s29, ↓aw_region, ↓aw_skip, ↓aw_seq, ↓aw_block, ↓aw_exit, ↓aw_ret, ↓sops_nil, ↓sops_go, ↓dops_nil, ↓dopsX_nil, ↓dopsR_nil, ↓vdn, vup, extr_20, extr_21, extr_30, extr_31, extr_32, List.map_cons, List.map_nil, cond_true, cond_false, aop, aThen, aBlock, argEnv, ev, sput, sputO, binK, binI, unK, builtinK, pickK, Nat.reduceBEq, Nat.reduceAdd, Int.reduceBEq, Int.reduceBNe, Int.reduceLT, aPost, resK, tup, tyf, hL.len, hLl, ↓aw_loop_eq]
  refine aws_hide fun Q hQ => ?_
  refine aw_loop (γ := Nat) (fun k => k ≤ cn o)
    (fun k => ([(0, v), (1, vint i), (4, .pointer (some ⟨n, 0, none⟩)), (5, vint (hTo o i k : Nat)), (6, L), (13, L), (14, vint (cn o : Nat)), (15, vint k)], h2)) (fun k => cn o - k) 0 (Nat.zero_le _) (by simp (config := {maxSteps := 2000000}) only [↓aw_region, ↓aw_skip, ↓aw_seq, ↓aw_block, ↓aw_exit, ↓aw_ret, ↓sops_nil, ↓sops_go, ↓dops_nil, ↓dopsX_nil, ↓dopsR_nil, ↓vdn, vup, extr_20, extr_21, extr_30, extr_31, extr_32, List.map_cons, List.map_nil, cond_true, cond_false, aop, aThen, aBlock, argEnv, ev, sput, sputO, binK, binI, unK, builtinK, pickK, Nat.reduceBEq, Nat.reduceAdd, Int.reduceBEq, Int.reduceBNe, Int.reduceLT, aPost, resK, tup, tyf, Int.natCast_zero, hTo]) rfl ?_
  intro k hk
  refine aw_hide fun Q2 hQ2 => ?_
  by_cases hkn : (k : Int) < cn o
  · have hkn' : k < cn o := by omega
    obtain ⟨w, hw, hld⟩ := hL.load shp_22 (show k < (linesI o).length by omega)
    rw [linesI_get o hkn'] at hw
    have hpm := line_get ho hkn'
    obtain ⟨l, hl⟩ : ∃ l, l = (allLines o).getD k [] := ⟨_, rfl⟩
    have hnext : hTo o i (k + 1) = hTo o i k + l.idxOf i := by rw [hl]; rfl
    rw [← hl] at hw hpm
    have hll : l.length = o.length := by rw [hpm.length_eq, List.length_range]
    have hnd : l.Nodup := hpm.nodup_iff.2 List.nodup_range
    have hil : i ∈ l := hpm.mem_iff.2 (List.mem_range.2 hi)
    have hle := hTo_mono o i (show k + 1 ≤ cn o by omega)
    have hcl2 := castN_len l
    simp only [l29_1]
    simp (config := {maxSteps := 2000000}) only [s29, ↓aw_region, ↓aw_skip, ↓aw_seq, ↓aw_block, ↓aw_exit, ↓aw_ret, ↓sops_nil, ↓sops_go, ↓dops_nil, ↓dopsX_nil, ↓dopsR_nil, ↓vdn, vup, extr_20, extr_21, extr_30, extr_31, extr_32, List.map_cons, List.map_nil, cond_true, cond_false, aop, aThen, aBlock, argEnv, ev, sput, sputO, binK, binI, unK, builtinK, pickK, Nat.reduceBEq, Nat.reduceAdd, Int.reduceBEq, Int.reduceBNe, Int.reduceLT, aPost, resK, tup, tyf, hkn, hL.idx el_45 esz_22 (show k < (linesI o).length by omega), hld, hw.int.len, hcl2, ↓aw_loop_eq]
    refine aws_hide fun Q3 hQ3 => ?_
    refine aw_loop (γ := Nat) (fun m => m ≤ l.length)
      (fun m => ([(0, v), (1, vint i), (4, .pointer (some ⟨n, 0, none⟩)), (5, vint (hTo o i k + posTo l i m : Nat)), (6, L), (13, L), (14, vint (cn o : Nat)), (15, vint k), (19, w), (20, vint l.length), (21, vint m)], h2)) (fun m => l.length - m) 0 (Nat.zero_le _) (by simp (config := {maxSteps := 2000000}) only [↓aw_region, ↓aw_skip, ↓aw_seq, ↓aw_block, ↓aw_exit, ↓aw_ret, ↓sops_nil, ↓sops_go, ↓dops_nil, ↓dopsX_nil, ↓dopsR_nil, ↓vdn, vup, extr_20, extr_21, extr_30, extr_31, extr_32, List.map_cons, List.map_nil, cond_true, cond_false, aop, aThen, aBlock, argEnv, ev, sput, sputO, binK, binI, unK, builtinK, pickK, Nat.reduceBEq, Nat.reduceAdd, Int.reduceBEq, Int.reduceBNe, Int.reduceLT, aPost, resK, tup, tyf, Int.natCast_zero, posTo, Nat.add_zero]) rfl ?_
    intro m hm
    refine aw_hide fun Q4 hQ4 => ?_
    by_cases hmn : (m : Int) < l.length
    · have hmn' : m < l.length := by omega
      have hgt := castN_get l hmn'
      have hps : posTo l i (m + 1) = posTo l i m + if l.getD m 0 = i then m else 0 := rfl
      have hpl := posTo_mono l i (show m + 1 ≤ l.length by omega)
      rw [posTo_all hnd hil] at hpl
      have hmc : m < (castN l).length := by rw [hcl2]; exact hmn'
      by_cases hmi : l.getD m 0 = i
      · rw [if_pos hmi] at hps
        have he : (((l.getD m 0 : Nat) : Int) == ((i : Nat) : Int)) = true := by rw [hmi]; exact beq_self_eq_true _
        have ha : addV .i64 ((hTo o i k + posTo l i m : Nat) : Int) ((m : Nat) : Int) = ((hTo o i k + posTo l i (m + 1) : Nat) : Int) := by
          rw [addV_id (by omega) (by omega), hps]; omega
        simp (config := {maxSteps := 2000000}) only [s29, ↓aw_region, ↓aw_skip, ↓aw_seq, ↓aw_block, ↓aw_exit, ↓aw_ret, ↓sops_nil, ↓sops_go, ↓dops_nil, ↓dopsX_nil, ↓dopsR_nil, ↓vdn, vup, extr_20, extr_21, extr_30, extr_31, extr_32, List.map_cons, List.map_nil, cond_true, cond_false, aop, aThen, aBlock, argEnv, ev, sput, sputO, binK, binI, unK, builtinK, pickK, Nat.reduceBEq, Nat.reduceAdd, Int.reduceBEq, Int.reduceBNe, Int.reduceLT, aPost, resK, tup, tyf, l29_0, hmn, hw.int.idx el_22 esz_3 hmc, hw.int.load shp_3 hmc, hgt, he, ha, add1 (show m < 9223372036854775807 by omega)]
        exact hQ4 _ _ _ ⟨m + 1, by omega, by omega, by simp (config := {maxSteps := 2000000}) only [↓aw_region, ↓aw_skip, ↓aw_seq, ↓aw_block, ↓aw_exit, ↓aw_ret, ↓sops_nil, ↓sops_go, ↓dops_nil, ↓dopsX_nil, ↓dopsR_nil, ↓vdn, vup, extr_20, extr_21, extr_30, extr_31, extr_32, List.map_cons, List.map_nil, cond_true, cond_false, aop, aThen, aBlock, argEnv, ev, sput, sputO, binK, binI, unK, builtinK, pickK, Nat.reduceBEq, Nat.reduceAdd, Int.reduceBEq, Int.reduceBNe, Int.reduceLT, aPost, resK, tup, tyf], rfl⟩
      · replace hps : posTo l i (m + 1) = posTo l i m := by rw [hps, if_neg hmi]; rfl
        have he : (((l.getD m 0 : Nat) : Int) == ((i : Nat) : Int)) = false := by
          have : ((l.getD m 0 : Nat) : Int) ≠ ((i : Nat) : Int) := by omega
          simpa using this
        simp (config := {maxSteps := 2000000}) only [s29, ↓aw_region, ↓aw_skip, ↓aw_seq, ↓aw_block, ↓aw_exit, ↓aw_ret, ↓sops_nil, ↓sops_go, ↓dops_nil, ↓dopsX_nil, ↓dopsR_nil, ↓vdn, vup, extr_20, extr_21, extr_30, extr_31, extr_32, List.map_cons, List.map_nil, cond_true, cond_false, aop, aThen, aBlock, argEnv, ev, sput, sputO, binK, binI, unK, builtinK, pickK, Nat.reduceBEq, Nat.reduceAdd, Int.reduceBEq, Int.reduceBNe, Int.reduceLT, aPost, resK, tup, tyf, l29_0, hmn, hw.int.idx el_22 esz_3 hmc, hw.int.load shp_3 hmc, hgt, he, add1 (show m < 9223372036854775807 by omega)]
        exact hQ4 _ _ _ ⟨m + 1, by omega, by omega, by simp (config := {maxSteps := 2000000}) only [↓aw_region, ↓aw_skip, ↓aw_seq, ↓aw_block, ↓aw_exit, ↓aw_ret, ↓sops_nil, ↓sops_go, ↓dops_nil, ↓dopsX_nil, ↓dopsR_nil, ↓vdn, vup, extr_20, extr_21, extr_30, extr_31, extr_32, List.map_cons, List.map_nil, cond_true, cond_false, aop, aThen, aBlock, argEnv, ev, sput, sputO, binK, binI, unK, builtinK, pickK, Nat.reduceBEq, Nat.reduceAdd, Int.reduceBEq, Int.reduceBNe, Int.reduceLT, aPost, resK, tup, tyf, hps], rfl⟩
    · obtain rfl : m = l.length := by omega
      simp (config := {maxSteps := 2000000}) only [s29, ↓aw_region, ↓aw_skip, ↓aw_seq, ↓aw_block, ↓aw_exit, ↓aw_ret, ↓sops_nil, ↓sops_go, ↓dops_nil, ↓dopsX_nil, ↓dopsR_nil, ↓vdn, vup, extr_20, extr_21, extr_30, extr_31, extr_32, List.map_cons, List.map_nil, cond_true, cond_false, aop, aThen, aBlock, argEnv, ev, sput, sputO, binK, binI, unK, builtinK, pickK, Nat.reduceBEq, Nat.reduceAdd, Int.reduceBEq, Int.reduceBNe, Int.reduceLT, aPost, resK, tup, tyf, l29_0, Int.lt_irrefl]
      refine hQ4 _ _ _ (hQ3 _ _ _ ?_)
      simp (config := {maxSteps := 2000000}) only [s29, ↓aw_region, ↓aw_skip, ↓aw_seq, ↓aw_block, ↓aw_exit, ↓aw_ret, ↓sops_nil, ↓sops_go, ↓dops_nil, ↓dopsX_nil, ↓dopsR_nil, ↓vdn, vup, extr_20, extr_21, extr_30, extr_31, extr_32, List.map_cons, List.map_nil, cond_true, cond_false, aop, aThen, aBlock, argEnv, ev, sput, sputO, binK, binI, unK, builtinK, pickK, Nat.reduceBEq, Nat.reduceAdd, Int.reduceBEq, Int.reduceBNe, Int.reduceLT, aPost, resK, tup, tyf, add1 (show k < 9223372036854775807 by omega)]
      have hpa := posTo_all hnd hil
      exact hQ2 _ _ _ ⟨k + 1, by omega, by omega, by simp (config := {maxSteps := 2000000}) only [↓aw_region, ↓aw_skip, ↓aw_seq, ↓aw_block, ↓aw_exit, ↓aw_ret, ↓sops_nil, ↓sops_go, ↓dops_nil, ↓dopsX_nil, ↓dopsR_nil, ↓vdn, vup, extr_20, extr_21, extr_30, extr_31, extr_32, List.map_cons, List.map_nil, cond_true, cond_false, aop, aThen, aBlock, argEnv, ev, sput, sputO, binK, binI, unK, builtinK, pickK, Nat.reduceBEq, Nat.reduceAdd, Int.reduceBEq, Int.reduceBNe, Int.reduceLT, aPost, resK, tup, tyf, hnext, hpa], rfl⟩
  obtain rfl : k = cn o := by omega
  simp (config := {maxSteps := 2000000}) only [s29, ↓aw_region, ↓aw_skip, ↓aw_seq, ↓aw_block, ↓aw_exit, ↓aw_ret, ↓sops_nil, ↓sops_go, ↓dops_nil, ↓dopsX_nil, ↓dopsR_nil, ↓vdn, vup, extr_20, extr_21, extr_30, extr_31, extr_32, List.map_cons, List.map_nil, cond_true, cond_false, aop, aThen, aBlock, argEnv, ev, sput, sputO, binK, binI, unK, builtinK, pickK, Nat.reduceBEq, Nat.reduceAdd, Int.reduceBEq, Int.reduceBNe, Int.reduceLT, aPost, resK, tup, tyf, l29_1, Int.lt_irrefl]
  refine hQ2 _ _ _ (hQ _ _ _ ?_)
  simp (config := {maxSteps := 2000000}) only [s29, ↓aw_region, ↓aw_skip, ↓aw_seq, ↓aw_block, ↓aw_exit, ↓aw_ret, ↓sops_nil, ↓sops_go, ↓dops_nil, ↓dopsX_nil, ↓dopsR_nil, ↓vdn, vup, extr_20, extr_21, extr_30, extr_31, extr_32, List.map_cons, List.map_nil, cond_true, cond_false, aop, aThen, aBlock, argEnv, ev, sput, sputO, binK, binI, unK, builtinK, pickK, Nat.reduceBEq, Nat.reduceAdd, Int.reduceBEq, Int.reduceBNe, Int.reduceLT, aPost, resK, tup, tyf, if_true]
  refine hN _ _ ?_
  rw [hha]
  simp (config := {maxSteps := 2000000}) only [s29, ↓aw_region, ↓aw_skip, ↓aw_seq, ↓aw_block, ↓aw_exit, ↓aw_ret, ↓sops_nil, ↓sops_go, ↓dops_nil, ↓dopsX_nil, ↓dopsR_nil, ↓vdn, vup, extr_20, extr_21, extr_30, extr_31, extr_32, List.map_cons, List.map_nil, cond_true, cond_false, aop, aThen, aBlock, argEnv, ev, sput, sputO, binK, binI, unK, builtinK, pickK, Nat.reduceBEq, Nat.reduceAdd, Int.reduceBEq, Int.reduceBNe, Int.reduceLT, aPost, resK, tup, tyf, hL.len, hLl, callK, List.nil_append, List.append_nil, List.toList_toArray, List.cons_append]
  refine (fracR_call hcp (by omega) (by omega)).mono ?_
  rintro _ h3 ⟨rfl, rfl⟩
  have hpq : ∃ p q, fracV (hsum o i) (cn o) = .agg #[vint p, vint q] := ⟨_, _, rfl⟩
  obtain ⟨p, q, hpq⟩ := hpq
  rw [hpq]
  have c3 : ∀ {K : Value → Prop}, loadK prog (h3.set n (.cells [vint p, vint q] 37 false)) 37 (.pointer (some ⟨n, 0, none⟩)) K = K (.agg #[vint p, vint q]) := fun {K} => loadF (get_set (get_lt c2) _)
  simp (config := {maxSteps := 2000000}) only [s29, ↓aw_region, ↓aw_skip, ↓aw_seq, ↓aw_block, ↓aw_exit, ↓aw_ret, ↓sops_nil, ↓sops_go, ↓dops_nil, ↓dopsX_nil, ↓dopsR_nil, ↓vdn, vup, extr_20, extr_21, extr_30, extr_31, extr_32, List.map_cons, List.map_nil, cond_true, cond_false, aop, aThen, aBlock, argEnv, ev, sput, sputO, binK, binI, unK, builtinK, pickK, Nat.reduceBEq, Nat.reduceAdd, Int.reduceBEq, Int.reduceBNe, Int.reduceLT, aPost, resK, tup, tyf, storeF c2 rfl, c3]
  exact ⟨by have := hE02.1; simp; exact this, fun q hq _ => by rw [List.getElem?_set_ne (by omega)]; exact hE02.2 q hq id⟩

theorem gcd_self_frac {n : Nat} (hn : 0 < n) : fracV n n = .agg #[vint 1, vint 1] := by
  rw [fracV, Nat.gcd_self, Nat.div_self hn]; rfl
theorem gcd_zero_frac {n : Nat} (hn : 0 < n) : fracV 0 n = .agg #[vint 0, vint 1] := by
  rw [fracV, Nat.gcd_zero_left, Nat.div_self hn, Nat.zero_div]; rfl
theorem frac_form (a b : Nat) : ∃ p q, fracV a b = .agg #[vint p, vint q] := ⟨_, _, rfl⟩

theorem rchance_call [Tabs prog] {h : Heap} {v : Value} {o : List Int} (hv : IntSl h v o) (ho : ord o = true) {i j : Nat} (hi : i < o.length) (hj : j < o.length) (hij : i ≠ j) : APure prog 30 [v, vint i, vint j] h (fracV (befN o i j) (cn o)) := by
  have hlen := ord_len ho
  have hcl := cn_le ho
  have hcp := cn_pos ho
  refine ACall.forget (low_frV _ _) ?_
  refine s30_call (by simp) ?_
  simp only [s30]
  refine aw_cut fun N hN => ?_
  simp (config := {maxSteps := 2000000}) only [s30, ↓aw_region, ↓aw_skip, ↓aw_seq, ↓aw_block, ↓aw_exit, ↓aw_ret, ↓sops_nil, ↓sops_go, ↓dops_nil, ↓dopsX_nil, ↓dopsR_nil, ↓vdn, vup, extr_20, extr_21, extr_30, extr_31, extr_32, List.map_cons, List.map_nil, cond_true, cond_false, aop, aThen, aBlock, argEnv, ev, sput, sputO, binK, binI, unK, builtinK, pickK, Nat.reduceBEq, Nat.reduceAdd, Int.reduceBEq, Int.reduceBNe, Int.reduceLT, aPost, resK, tup, tyf, allocK, newPtr, zero_37]
  refine hN _ _ ?_
  clear hN N
  obtain ⟨n, hn⟩ : ∃ n, n = h.length := ⟨_, rfl⟩
  have c0 := get_new h (Blk.cells [.int .i64 0, .int .i64 0] 37 false)
  have hE0 : Ext (fun _ => False) h (h ++ [Blk.cells [.int .i64 0, .int .i64 0] 37 false]) := Ext.app _ _ _
  have hnl : n < (h ++ [Blk.cells [.int .i64 0, .int .i64 0] 37 false]).length := by rw [hn]; simp
  rw [← hn] at c0 ⊢
  generalize h ++ [Blk.cells [.int .i64 0, .int .i64 0] 37 false] = h1 at c0 hE0 hnl ⊢
  have hv1 := IntSl_ext hv hE0
  have c3 : ∀ {x y : Int} {K : Value → Prop}, loadK prog (h1.set n (.cells [vint x, vint y] 37 false)) 37 (.pointer (some ⟨n, 0, none⟩)) K = K (.agg #[vint x, vint y]) := fun {x y K} => loadF (get_set hnl _)
  have hES : ∀ B : Blk, Ext (fun _ => False) h (h1.set n B) := fun B => ⟨by have := hE0.1; simp; exact this, fun q hq _ => by rw [List.getElem?_set_ne (by omega)]; exact hE0.2 q hq id⟩
  simp (config := {maxSteps := 2000000}) only [s30, ↓aw_region, ↓aw_skip, ↓aw_seq, ↓aw_block, ↓aw_exit, ↓aw_ret, ↓sops_nil, ↓sops_go, ↓dops_nil, ↓dopsX_nil, ↓dopsR_nil, ↓vdn, vup, extr_20, extr_21, extr_30, extr_31, extr_32, List.map_cons, List.map_nil, cond_true, cond_false, aop, aThen, aBlock, argEnv, ev, sput, sputO, binK, binI, unK, builtinK, pickK, Nat.reduceBEq, Nat.reduceAdd, Int.reduceBEq, Int.reduceBNe, Int.reduceLT, aPost, resK, tup, tyf, callK, List.nil_append, List.append_nil, List.toList_toArray, List.cons_append]
  refine (above_call hv1 ho hi).mono ?_
  rintro _ _ ⟨rfl, rfl⟩
  cases hab : ab o i j with
  | true =>
    have hb : befN o i j = cn o := by rw [befN, if_pos hab]
    rw [hb, gcd_self_frac hcp]
    simp (config := {maxSteps := 2000000}) only [s30, ↓aw_region, ↓aw_skip, ↓aw_seq, ↓aw_block, ↓aw_exit, ↓aw_ret, ↓sops_nil, ↓sops_go, ↓dops_nil, ↓dopsX_nil, ↓dopsR_nil, ↓vdn, vup, extr_20, extr_21, extr_30, extr_31, extr_32, List.map_cons, List.map_nil, cond_true, cond_false, aop, aThen, aBlock, argEnv, ev, sput, sputO, binK, binI, unK, builtinK, pickK, Nat.reduceBEq, Nat.reduceAdd, Int.reduceBEq, Int.reduceBNe, Int.reduceLT, aPost, resK, tup, tyf, hab, List.toList_toArray, bldF, storeF c0 rfl, c3]
    exact hES _
  | false =>
    simp (config := {maxSteps := 2000000}) only [s30, ↓aw_region, ↓aw_skip, ↓aw_seq, ↓aw_block, ↓aw_exit, ↓aw_ret, ↓sops_nil, ↓sops_go, ↓dops_nil, ↓dopsX_nil, ↓dopsR_nil, ↓vdn, vup, extr_20, extr_21, extr_30, extr_31, extr_32, List.map_cons, List.map_nil, cond_true, cond_false, aop, aThen, aBlock, argEnv, ev, sput, sputO, binK, binI, unK, builtinK, pickK, Nat.reduceBEq, Nat.reduceAdd, Int.reduceBEq, Int.reduceBNe, Int.reduceLT, aPost, resK, tup, tyf, hab, callK, List.nil_append, List.append_nil, List.toList_toArray, List.cons_append]
    refine (above_call hv1 ho hj).mono ?_
    rintro _ _ ⟨rfl, rfl⟩
    cases hba : ab o j i with
    | true =>
      have hb : befN o i j = 0 := by rw [befN, if_neg (by rw [hab]; decide), if_neg (by simp [fr, hba])]
      rw [hb, gcd_zero_frac hcp]
      simp (config := {maxSteps := 2000000}) only [s30, ↓aw_region, ↓aw_skip, ↓aw_seq, ↓aw_block, ↓aw_exit, ↓aw_ret, ↓sops_nil, ↓sops_go, ↓dops_nil, ↓dopsX_nil, ↓dopsR_nil, ↓vdn, vup, extr_20, extr_21, extr_30, extr_31, extr_32, List.map_cons, List.map_nil, cond_true, cond_false, aop, aThen, aBlock, argEnv, ev, sput, sputO, binK, binI, unK, builtinK, pickK, Nat.reduceBEq, Nat.reduceAdd, Int.reduceBEq, Int.reduceBNe, Int.reduceLT, aPost, resK, tup, tyf, hba, List.toList_toArray, bldF1, storeF c0 rfl, c3]
      exact hES _
    | false =>
      have hf : fr o i j = true := by simp [fr, hab, hba, hij]
      have hb : befN o i j = cn (addL o i j) := by rw [befN, if_neg (by rw [hab]; decide), if_pos hf]
      have ho1 := addL_ord ho hi hj hij hba
      have hc1 := cn_le ho1
      rw [hb]
      simp (config := {maxSteps := 2000000}) only [s30, ↓aw_region, ↓aw_skip, ↓aw_seq, ↓aw_block, ↓aw_exit, ↓aw_ret, ↓sops_nil, ↓sops_go, ↓dops_nil, ↓dopsX_nil, ↓dopsR_nil, ↓vdn, vup, extr_20, extr_21, extr_30, extr_31, extr_32, List.map_cons, List.map_nil, cond_true, cond_false, aop, aThen, aBlock, argEnv, ev, sput, sputO, binK, binI, unK, builtinK, pickK, Nat.reduceBEq, Nat.reduceAdd, Int.reduceBEq, Int.reduceBNe, Int.reduceLT, aPost, resK, tup, tyf, hba, callK, List.nil_append, List.append_nil, List.toList_toArray, List.cons_append]
      refine (radd_call hv1 ho hi hj).mono ?_
      rintro r h2 ⟨hr, hE2⟩
      refine (rcount_call hr ho1).mono ?_
      rintro _ _ ⟨rfl, rfl⟩
      refine (rcount_call (IntSl_ext hv1 hE2) ho).mono ?_
      rintro _ _ ⟨rfl, rfl⟩
      refine (fracR_call hcp (by omega) (by omega)).mono ?_
      rintro _ h3 ⟨rfl, rfl⟩
      obtain ⟨p, q, hpq⟩ := frac_form (cn (addL o i j)) (cn o)
      rw [hpq]
      have c2 : h3[n]? = some (.cells [.int .i64 0, .int .i64 0] 37 false) := (hE2.2 n hnl id).trans c0
      have c4 : ∀ {K : Value → Prop}, loadK prog (h3.set n (.cells [vint p, vint q] 37 false)) 37 (.pointer (some ⟨n, 0, none⟩)) K = K (.agg #[vint p, vint q]) := fun {K} => loadF (get_set (get_lt c2) _)
      simp (config := {maxSteps := 2000000}) only [s30, ↓aw_region, ↓aw_skip, ↓aw_seq, ↓aw_block, ↓aw_exit, ↓aw_ret, ↓sops_nil, ↓sops_go, ↓dops_nil, ↓dopsX_nil, ↓dopsR_nil, ↓vdn, vup, extr_20, extr_21, extr_30, extr_31, extr_32, List.map_cons, List.map_nil, cond_true, cond_false, aop, aThen, aBlock, argEnv, ev, sput, sputO, binK, binI, unK, builtinK, pickK, Nat.reduceBEq, Nat.reduceAdd, Int.reduceBEq, Int.reduceBNe, Int.reduceLT, aPost, resK, tup, tyf, storeF c2 rfl, c4]
      have hE02 := hE0.trans hE2
      exact ⟨by have := hE02.1; simp; exact this, fun q hq _ => by rw [List.getElem?_set_ne (by omega)]; exact hE02.2 q hq id⟩
end Go.Proofs.Tryd.Am
