/-
  sure: the reference's rank.
-/
import Derived.Test.YtaagkbbphgdcdaaDoorSuCov
import Derived.Test.YtaagkbbphgdcdaaDoorFnG
import Derived.Test.YtaagkbbphgdcdaaDoorRank2
set_option linter.all false
namespace Go.Proofs.Tryd.Am
open Go.Am Sr
set_option maxRecDepth 100000
set_option maxHeartbeats 1000000

/-- An array of five rows. -/
def c5 (L : Nat → Nat) : List Value := (List.range 5).map fun i => vint (L i : Nat)
theorem c5_len (L : Nat → Nat) : (c5 L).length = 5 := by simp [c5]
theorem c5_get {L : Nat → Nat} {i : Nat} (hi : i < 5) : (c5 L)[i]? = some (vint (L i : Nat)) := by rw [c5, List.getElem?_map, List.getElem?_range hi]; rfl
def upd (L : Nat → Nat) (i x : Nat) : Nat → Nat := fun t => if t = i then x else L t
theorem c5_set {L : Nat → Nat} {i x : Nat} : (c5 L).set i (vint (x : Nat)) = c5 (upd L i x) := by
  apply List.ext_getElem?
  intro t
  by_cases ht : t < 5
  · rw [List.getElem?_set, c5_get ht, c5_get ht, c5_len, upd]
    by_cases e : i = t
    · subst e; simp [ht]
    · rw [if_neg e, if_neg (Ne.symm e)]
  · rw [List.getElem?_eq_none (by rw [List.length_set, c5_len]; omega), List.getElem?_eq_none (by rw [c5_len]; omega)]
section
variable {h : Heap} {b i : Nat} {L : Nat → Nat}
theorem ix5 (hi : i < 5) {K : Value → Prop} : idxAddrK prog 77 (pt b) (vint (i : Nat)) K = K (.pointer (some ⟨b, i, none⟩)) := by rw [idxA und_77 esz_3 hi, Nat.zero_add]
theorem ld5 (hb : h[b]? = some (.cells (c5 L) 77 false)) (hi : i < 5) {K : Value → Prop} : loadK prog h 3 (.pointer (some ⟨b, i, none⟩)) K = K (vint (L i : Nat)) := loadC hb shp_3 (c5_get hi)
theorem st5 (hb : h[b]? = some (.cells (c5 L) 77 false)) (hi : i < 5) {x : Nat} {K : Heap → Prop} : storeK prog h 3 (.pointer (some ⟨b, i, none⟩)) (vint (x : Nat)) K = K (h.set b (.cells (c5 (upd L i x)) 77 false)) := by
  rw [storeC hb shp_3 rfl (by rw [c5_len]; exact hi), c5_set]
end
theorem box77 {h : Heap} {L : Nat → Nat} {K : Value → Heap → Prop} : boxK prog h 77 (.agg (c5 L).toArray) K = K (newPtr h) (h ++ [.cells (c5 L) 77 false]) := by
  simp [boxK, esz_77, cellsOf, c5_len]
abbrev H5 (h : Heap) (L : Nat → Nat) : Heap := h ++ [.cells (c5 L) 77 false]
theorem ld5' {h : Heap} {L : Nat → Nat} {i : Nat} (hi : i < 5) {K : Value → Prop} : loadK prog (H5 h L) 3 (.pointer (some ⟨h.length, i, none⟩)) K = K (vint (L i : Nat)) := ld5 (get_new _ _) hi
theorem st5' {h : Heap} {L : Nat → Nat} {i : Nat} (hi : i < 5) {x : Nat} {K : Heap → Prop} : storeK prog (H5 h L) 3 (.pointer (some ⟨h.length, i, none⟩)) (vint (x : Nat)) K = K (H5 h (upd L i x)) := by
  rw [st5 (get_new _ _) hi, set_last]
theorem upd_swp (L : Nat → Nat) (k a : Nat) : upd (upd L a (L k)) k (L a) = Rn.swp L k a := by
  funext t
  unfold upd Rn.swp
  rfl
/-- The rows while the elimination is at i. -/
def elTo (L : Nat → Nat) (k c i : Nat) : Nat → Nat := fun t => if t < i then Rn.elm L k c t else L t
theorem elTo_zero (L : Nat → Nat) (k c : Nat) : elTo L k c 0 = L := by funext t; rw [elTo, if_neg (by omega)]
theorem elTo_at (L : Nat → Nat) (k c i : Nat) : elTo L k c i i = L i := by rw [elTo, if_neg (by omega)]
theorem elTo_keep {L : Nat → Nat} {k c i : Nat} (h : ¬ (i ≠ k ∧ (L i).testBit c = true)) : elTo L k c (i + 1) = elTo L k c i := by
  funext t
  unfold elTo
  by_cases h1 : t < i
  · rw [if_pos h1, if_pos (by omega)]
  · by_cases h2 : t = i
    · subst h2; rw [if_pos (by omega), if_neg h1, Rn.elm, if_neg h]
    · rw [if_neg (by omega), if_neg h1]
theorem elTo_step {L : Nat → Nat} {k c i : Nat} (h : i ≠ k ∧ (L i).testBit c = true) : upd (elTo L k c i) i (L i ^^^ L k) = elTo L k c (i + 1) := by
  funext t
  unfold upd elTo
  by_cases h2 : t = i
  · subst h2; rw [if_pos rfl, if_pos (by omega), Rn.elm, if_pos h]
  · rw [if_neg h2]
    by_cases h1 : t < i
    · rw [if_pos h1, if_pos (by omega)]
    · rw [if_neg h1, if_neg (by omega)]
theorem EI_congr {n k c : Nat} {L0 L L' : Nat → Nat} {pv : Nat → Nat} (e : Rn.EI n L0 L k c pv) (h : ∀ i, i < n → L' i = L i) : Rn.EI n L0 L' k c pv := by
  have er : Rn.rowsF L' n = Rn.rowsF L n := List.map_congr_left fun i hi => h i (List.mem_range.1 hi)
  refine ⟨e.kn, fun i hi => by rw [h i hi]; exact e.lt i hi, fun y => by rw [er]; exact e.same y, fun j hj => ?_, fun i h1 h2 b hb => by rw [h i h2]; exact e.low i h1 h2 b hb⟩
  have := e.kn
  have p := e.piv j hj
  exact ⟨by rw [h j (by omega)]; exact p.1, fun i hi hne => by rw [h i hi]; exact p.2 i hi hne⟩

theorem s97_callW [Tabs Tryd.prog] {args : List Value} {h : Heap} {Q : Value → Heap → Prop} (hsz : args.length ≤ 70) (hk : AWS Tryd.prog 70 s97 (aPost Tryd.prog [.tmp 4] Q) (argEnv 0 args) h) : ACall Tryd.prog 97 args h Q :=
  acall_w Tryd.func97 rfl (enters_of Tryd.func97 (by kernel_rfl) rfl) rfl rfl (by decide) s97_strip s97_ok hsz hk
theorem rank2_call0 [Tabs prog] {h : Heap} {L0 : Nat → Nat} {n : Nat} (hn : n ≤ 5) (hL : ∀ i, i < n → L0 i < 2 ^ n) : ACall prog 97 [.agg (c5 L0).toArray, vint n] h fun r h' => r = vint (Rn.dim n (Rn.rowsF L0 n) : Nat) ∧ Ext (fun _ => False) h h' := by
  have hnn : ∀ i : Nat, (0 : Int) ≤ (i : Int) := Int.natCast_nonneg
  have h32 : 2 ^ n ≤ 2 ^ 5 := Nat.pow_le_pow_right (by decide) hn
  refine s97_callW (by simp) ?_
  simp only [s97]
  refine aws_cut fun N1 hN1 => ?_
  simp (config := {maxSteps := 2000000}) only [s97, ↓aw_region, ↓aw_skip, ↓aw_seq, ↓aw_block, ↓aw_exit, ↓aw_ret, ↓sops_nil, ↓sops_go, ↓dops_nil, ↓dopsX_nil, ↓dopsR_nil, ↓vdn, vup, extr_20, extr_21, extr_30, extr_31, extr_32, List.map_cons, List.map_nil, cond_true, cond_false, aop, aThen, aBlock, argEnv, ev, sput, sputO, binK, binI, unK, builtinK, pickK, Nat.reduceBEq, Nat.reduceAdd, Int.reduceBEq, Int.reduceBNe, Int.reduceLT, aPost, resK, tup, tyf, box77, newPtr]
  refine hN1 [(1, vint n), (2, pt h.length), (4, .int .i64 0)] _ _ ?_ (by simp (config := {maxSteps := 2000000}) only [↓aw_region, ↓aw_skip, ↓aw_seq, ↓aw_block, ↓aw_exit, ↓aw_ret, ↓sops_nil, ↓sops_go, ↓dops_nil, ↓dopsX_nil, ↓dopsR_nil, ↓vdn, vup, extr_20, extr_21, extr_30, extr_31, extr_32, List.map_cons, List.map_nil, cond_true, cond_false, aop, aThen, aBlock, argEnv, ev, sput, sputO, binK, binI, unK, builtinK, pickK, Nat.reduceBEq, Nat.reduceAdd, Int.reduceBEq, Int.reduceBNe, Int.reduceLT, aPost, resK, tup, tyf])
  clear hN1
  try clear N1
  refine aws_cut fun N2 hN2 => ?_
  simp (config := {maxSteps := 2000000}) only [s97, ↓aw_region, ↓aw_skip, ↓aw_seq, ↓aw_block, ↓aw_exit, ↓aw_ret, ↓sops_nil, ↓sops_go, ↓dops_nil, ↓dopsX_nil, ↓dopsR_nil, ↓vdn, vup, extr_20, extr_21, extr_30, extr_31, extr_32, List.map_cons, List.map_nil, cond_true, cond_false, aop, aThen, aBlock, argEnv, ev, sput, sputO, binK, binI, unK, builtinK, pickK, Nat.reduceBEq, Nat.reduceAdd, Int.reduceBEq, Int.reduceBNe, Int.reduceLT, aPost, resK, tup, tyf]
  refine hN2 [(1, vint n), (2, pt h.length), (4, .int .i64 0), (5, .int .i64 0)] _ _ ?_ (by simp (config := {maxSteps := 2000000}) only [↓aw_region, ↓aw_skip, ↓aw_seq, ↓aw_block, ↓aw_exit, ↓aw_ret, ↓sops_nil, ↓sops_go, ↓dops_nil, ↓dopsX_nil, ↓dopsR_nil, ↓vdn, vup, extr_20, extr_21, extr_30, extr_31, extr_32, List.map_cons, List.map_nil, cond_true, cond_false, aop, aThen, aBlock, argEnv, ev, sput, sputO, binK, binI, unK, builtinK, pickK, Nat.reduceBEq, Nat.reduceAdd, Int.reduceBEq, Int.reduceBNe, Int.reduceLT, aPost, resK, tup, tyf])
  clear hN2
  try clear N2
  refine aws_cut fun Z hZ => ?_
  simp (config := {maxSteps := 2000000}) only [s97, ↓aw_region, ↓aw_skip, ↓aw_seq, ↓aw_block, ↓aw_exit, ↓aw_ret, ↓sops_nil, ↓sops_go, ↓dops_nil, ↓dopsX_nil, ↓dopsR_nil, ↓vdn, vup, extr_20, extr_21, extr_30, extr_31, extr_32, List.map_cons, List.map_nil, cond_true, cond_false, aop, aThen, aBlock, argEnv, ev, sput, sputO, binK, binI, unK, builtinK, pickK, Nat.reduceBEq, Nat.reduceAdd, Int.reduceBEq, Int.reduceBNe, Int.reduceLT, aPost, resK, tup, tyf, ↓aw_loop_eq]
  refine aws_hide fun Q hQ => ?_
  refine aw_loopW (γ := Nat × Nat × (Nat → Nat) × (Nat → Nat)) (fun s => s.1 ≤ n ∧ Rn.EI n L0 s.2.2.1 s.2.1 s.1 s.2.2.2)
    (fun s => ([(1, vint n), (2, pt h.length), (4, .int .i64 0), (5, vint s.2.1), (10, vint n), (11, vint s.1)], H5 h s.2.2.1)) (fun s => n - s.1) (0, 0, L0, fun _ => 0) ⟨Nat.zero_le _, .start hL⟩ (by simp (config := {maxSteps := 2000000}) only [↓aw_region, ↓aw_skip, ↓aw_seq, ↓aw_block, ↓aw_exit, ↓aw_ret, ↓sops_nil, ↓sops_go, ↓dops_nil, ↓dopsX_nil, ↓dopsR_nil, ↓vdn, vup, extr_20, extr_21, extr_30, extr_31, extr_32, List.map_cons, List.map_nil, cond_true, cond_false, aop, aThen, aBlock, argEnv, ev, sput, sputO, binK, binI, unK, builtinK, pickK, Nat.reduceBEq, Nat.reduceAdd, Int.reduceBEq, Int.reduceBNe, Int.reduceLT, aPost, resK, tup, tyf, Int.natCast_zero]) rfl ?_
  rintro ⟨c, k, L, pv⟩ ⟨hc, e⟩
  simp only at hc e
  have hkn := e.kn
  refine aws_hide fun Q2 hQ2 => ?_
  simp only [l97_2]
  by_cases hcn : (c : Int) < n
  · have hc' : c < n := by omega
    refine aws_cut fun N3 hN3 => ?_
    simp (config := {maxSteps := 2000000}) only [s97, ↓aw_region, ↓aw_skip, ↓aw_seq, ↓aw_block, ↓aw_exit, ↓aw_ret, ↓sops_nil, ↓sops_go, ↓dops_nil, ↓dopsX_nil, ↓dopsR_nil, ↓vdn, vup, extr_20, extr_21, extr_30, extr_31, extr_32, List.map_cons, List.map_nil, cond_true, cond_false, aop, aThen, aBlock, argEnv, ev, sput, sputO, binK, binI, unK, builtinK, pickK, Nat.reduceBEq, Nat.reduceAdd, Int.reduceBEq, Int.reduceBNe, Int.reduceLT, aPost, resK, tup, tyf, hcn]
    refine hN3 [(1, vint n), (2, pt h.length), (4, .int .i64 0), (5, vint k), (10, vint n), (11, vint c), (12, .bool true)] _ _ ?_ (by simp (config := {maxSteps := 2000000}) only [↓aw_region, ↓aw_skip, ↓aw_seq, ↓aw_block, ↓aw_exit, ↓aw_ret, ↓sops_nil, ↓sops_go, ↓dops_nil, ↓dopsX_nil, ↓dopsR_nil, ↓vdn, vup, extr_20, extr_21, extr_30, extr_31, extr_32, List.map_cons, List.map_nil, cond_true, cond_false, aop, aThen, aBlock, argEnv, ev, sput, sputO, binK, binI, unK, builtinK, pickK, Nat.reduceBEq, Nat.reduceAdd, Int.reduceBEq, Int.reduceBNe, Int.reduceLT, aPost, resK, tup, tyf])
    clear hN3
    try clear N3
    refine aws_cut fun N4 hN4 => ?_
    simp (config := {maxSteps := 2000000}) only [s97, ↓aw_region, ↓aw_skip, ↓aw_seq, ↓aw_block, ↓aw_exit, ↓aw_ret, ↓sops_nil, ↓sops_go, ↓dops_nil, ↓dopsX_nil, ↓dopsR_nil, ↓vdn, vup, extr_20, extr_21, extr_30, extr_31, extr_32, List.map_cons, List.map_nil, cond_true, cond_false, aop, aThen, aBlock, argEnv, ev, sput, sputO, binK, binI, unK, builtinK, pickK, Nat.reduceBEq, Nat.reduceAdd, Int.reduceBEq, Int.reduceBNe, Int.reduceLT, aPost, resK, tup, tyf]
    refine hN4 [(1, vint n), (2, pt h.length), (4, .int .i64 0), (5, vint k), (10, vint n), (11, vint c)] _ _ ?_ (by simp (config := {maxSteps := 2000000}) only [↓aw_region, ↓aw_skip, ↓aw_seq, ↓aw_block, ↓aw_exit, ↓aw_ret, ↓sops_nil, ↓sops_go, ↓dops_nil, ↓dopsX_nil, ↓dopsR_nil, ↓vdn, vup, extr_20, extr_21, extr_30, extr_31, extr_32, List.map_cons, List.map_nil, cond_true, cond_false, aop, aThen, aBlock, argEnv, ev, sput, sputO, binK, binI, unK, builtinK, pickK, Nat.reduceBEq, Nat.reduceAdd, Int.reduceBEq, Int.reduceBNe, Int.reduceLT, aPost, resK, tup, tyf])
    clear hN4
    try clear N4
    refine aws_cutW fun K hK => ?_
    have fin : ∀ (k2 : Nat) (L2 pv2 : Nat → Nat), Rn.EI n L0 L2 k2 (c + 1) pv2 → ∀ e, ELe e [(1, vint n), (2, pt h.length), (4, .int .i64 0), (5, vint k2), (10, vint n), (11, vint c)] → K e (H5 h L2) := by
      intro k2 L2 pv2 e2 e he
      refine hK [(1, vint n), (2, pt h.length), (4, .int .i64 0), (5, vint k2), (10, vint n), (11, vint c)] _ _ ?_ he
      refine aw_aws ?_
      simp (config := {maxSteps := 2000000}) only [s97, ↓aw_region, ↓aw_skip, ↓aw_seq, ↓aw_block, ↓aw_exit, ↓aw_ret, ↓sops_nil, ↓sops_go, ↓dops_nil, ↓dopsX_nil, ↓dopsR_nil, ↓vdn, vup, extr_20, extr_21, extr_30, extr_31, extr_32, List.map_cons, List.map_nil, cond_true, cond_false, aop, aThen, aBlock, argEnv, ev, sput, sputO, binK, binI, unK, builtinK, pickK, Nat.reduceBEq, Nat.reduceAdd, Int.reduceBEq, Int.reduceBNe, Int.reduceLT, aPost, resK, tup, tyf, add1 (show c < 9223372036854775807 by omega)]
      exact hQ2 _ _ _ ⟨(c + 1, k2, L2, pv2), ⟨by simp only; omega, e2⟩, by simp only; omega, by simp (config := {maxSteps := 2000000}) only [↓aw_region, ↓aw_skip, ↓aw_seq, ↓aw_block, ↓aw_exit, ↓aw_ret, ↓sops_nil, ↓sops_go, ↓dops_nil, ↓dopsX_nil, ↓dopsR_nil, ↓vdn, vup, extr_20, extr_21, extr_30, extr_31, extr_32, List.map_cons, List.map_nil, cond_true, cond_false, aop, aThen, aBlock, argEnv, ev, sput, sputO, binK, binI, unK, builtinK, pickK, Nat.reduceBEq, Nat.reduceAdd, Int.reduceBEq, Int.reduceBNe, Int.reduceLT, aPost, resK, tup, tyf], rfl⟩
    clear hK
    refine aws_block ?_
    refine aws_cut fun N5 hN5 => ?_
    simp (config := {maxSteps := 2000000}) only [s97, ↓aw_region, ↓aw_skip, ↓aw_seq, ↓aw_block, ↓aw_exit, ↓aw_ret, ↓sops_nil, ↓sops_go, ↓dops_nil, ↓dopsX_nil, ↓dopsR_nil, ↓vdn, vup, extr_20, extr_21, extr_30, extr_31, extr_32, List.map_cons, List.map_nil, cond_true, cond_false, aop, aThen, aBlock, argEnv, ev, sput, sputO, binK, binI, unK, builtinK, pickK, Nat.reduceBEq, Nat.reduceAdd, Int.reduceBEq, Int.reduceBNe, Int.reduceLT, aPost, resK, tup, tyf]
    refine hN5 [(1, vint n), (2, pt h.length), (4, .int .i64 0), (5, vint k), (6, vint c), (10, vint n), (11, vint c)] _ _ ?_ (by simp (config := {maxSteps := 2000000}) only [↓aw_region, ↓aw_skip, ↓aw_seq, ↓aw_block, ↓aw_exit, ↓aw_ret, ↓sops_nil, ↓sops_go, ↓dops_nil, ↓dopsX_nil, ↓dopsR_nil, ↓vdn, vup, extr_20, extr_21, extr_30, extr_31, extr_32, List.map_cons, List.map_nil, cond_true, cond_false, aop, aThen, aBlock, argEnv, ev, sput, sputO, binK, binI, unK, builtinK, pickK, Nat.reduceBEq, Nat.reduceAdd, Int.reduceBEq, Int.reduceBNe, Int.reduceLT, aPost, resK, tup, tyf])
    clear hN5
    try clear N5
    refine aws_cut fun N6 hN6 => ?_
    simp (config := {maxSteps := 2000000}) only [s97, ↓aw_region, ↓aw_skip, ↓aw_seq, ↓aw_block, ↓aw_exit, ↓aw_ret, ↓sops_nil, ↓sops_go, ↓dops_nil, ↓dopsX_nil, ↓dopsR_nil, ↓vdn, vup, extr_20, extr_21, extr_30, extr_31, extr_32, List.map_cons, List.map_nil, cond_true, cond_false, aop, aThen, aBlock, argEnv, ev, sput, sputO, binK, binI, unK, builtinK, pickK, Nat.reduceBEq, Nat.reduceAdd, Int.reduceBEq, Int.reduceBNe, Int.reduceLT, aPost, resK, tup, tyf]
    refine hN6 [(1, vint n), (2, pt h.length), (4, .int .i64 0), (5, vint k), (6, vint c), (7, vint k), (10, vint n), (11, vint c)] _ _ ?_ (by simp (config := {maxSteps := 2000000}) only [↓aw_region, ↓aw_skip, ↓aw_seq, ↓aw_block, ↓aw_exit, ↓aw_ret, ↓sops_nil, ↓sops_go, ↓dops_nil, ↓dopsX_nil, ↓dopsR_nil, ↓vdn, vup, extr_20, extr_21, extr_30, extr_31, extr_32, List.map_cons, List.map_nil, cond_true, cond_false, aop, aThen, aBlock, argEnv, ev, sput, sputO, binK, binI, unK, builtinK, pickK, Nat.reduceBEq, Nat.reduceAdd, Int.reduceBEq, Int.reduceBNe, Int.reduceLT, aPost, resK, tup, tyf])
    clear hN6
    try clear N6
    refine aws_cutW fun J hJ => ?_
    refine aws_block ?_
    refine aws_hide fun Q3 hQ3 => ?_
    refine aw_loopW (γ := Nat) (fun a => k ≤ a ∧ a ≤ n ∧ ∀ i, k ≤ i → i < a → (L i).testBit c = false)
      (fun a => ([(1, vint n), (2, pt h.length), (4, .int .i64 0), (5, vint k), (6, vint c), (7, vint a), (10, vint n), (11, vint c)], H5 h L)) (fun a => n - a) k ⟨Nat.le_refl _, hkn, fun i h1 h2 => by omega⟩ (by simp (config := {maxSteps := 2000000}) only [↓aw_region, ↓aw_skip, ↓aw_seq, ↓aw_block, ↓aw_exit, ↓aw_ret, ↓sops_nil, ↓sops_go, ↓dops_nil, ↓dopsX_nil, ↓dopsR_nil, ↓vdn, vup, extr_20, extr_21, extr_30, extr_31, extr_32, List.map_cons, List.map_nil, cond_true, cond_false, aop, aThen, aBlock, argEnv, ev, sput, sputO, binK, binI, unK, builtinK, pickK, Nat.reduceBEq, Nat.reduceAdd, Int.reduceBEq, Int.reduceBNe, Int.reduceLT, aPost, resK, tup, tyf]) rfl ?_
    rintro a ⟨hka, han, hfr⟩
    refine aws_hide fun Q4 hQ4 => ?_
    simp only [l97_0]
    by_cases haN : a = n
    · subst haN
      refine aws_cut fun N7 hN7 => ?_
      simp (config := {maxSteps := 2000000}) only [s97, ↓aw_region, ↓aw_skip, ↓aw_seq, ↓aw_block, ↓aw_exit, ↓aw_ret, ↓sops_nil, ↓sops_go, ↓dops_nil, ↓dopsX_nil, ↓dopsR_nil, ↓vdn, vup, extr_20, extr_21, extr_30, extr_31, extr_32, List.map_cons, List.map_nil, cond_true, cond_false, aop, aThen, aBlock, argEnv, ev, sput, sputO, binK, binI, unK, builtinK, pickK, Nat.reduceBEq, Nat.reduceAdd, Int.reduceBEq, Int.reduceBNe, Int.reduceLT, aPost, resK, tup, tyf, Int.lt_irrefl]
      refine hQ4 _ _ _ (hQ3 _ _ _ ?_)
      simp (config := {maxSteps := 2000000}) only [s97, ↓aw_region, ↓aw_skip, ↓aw_seq, ↓aw_block, ↓aw_exit, ↓aw_ret, ↓sops_nil, ↓sops_go, ↓dops_nil, ↓dopsX_nil, ↓dopsR_nil, ↓vdn, vup, extr_20, extr_21, extr_30, extr_31, extr_32, List.map_cons, List.map_nil, cond_true, cond_false, aop, aThen, aBlock, argEnv, ev, sput, sputO, binK, binI, unK, builtinK, pickK, Nat.reduceBEq, Nat.reduceAdd, Int.reduceBEq, Int.reduceBNe, Int.reduceLT, aPost, resK, tup, tyf, if_true]
      refine hJ [(1, vint a), (2, pt h.length), (4, .int .i64 0), (5, vint k), (6, vint c), (7, vint a), (10, vint a), (11, vint c)] _ _ ?_ (by simp (config := {maxSteps := 2000000}) only [↓aw_region, ↓aw_skip, ↓aw_seq, ↓aw_block, ↓aw_exit, ↓aw_ret, ↓sops_nil, ↓sops_go, ↓dops_nil, ↓dopsX_nil, ↓dopsR_nil, ↓vdn, vup, extr_20, extr_21, extr_30, extr_31, extr_32, List.map_cons, List.map_nil, cond_true, cond_false, aop, aThen, aBlock, argEnv, ev, sput, sputO, binK, binI, unK, builtinK, pickK, Nat.reduceBEq, Nat.reduceAdd, Int.reduceBEq, Int.reduceBNe, Int.reduceLT, aPost, resK, tup, tyf])
      clear hJ
      try clear J
      clear hQ3 hQ4
      refine aws_cut fun N8 hN8 => ?_
      have hbb : ((a : Int) == (a : Int)) = true := beq_self_eq_true _
      simp (config := {maxSteps := 2000000}) only [s97, ↓aw_region, ↓aw_skip, ↓aw_seq, ↓aw_block, ↓aw_exit, ↓aw_ret, ↓sops_nil, ↓sops_go, ↓dops_nil, ↓dopsX_nil, ↓dopsR_nil, ↓vdn, vup, extr_20, extr_21, extr_30, extr_31, extr_32, List.map_cons, List.map_nil, cond_true, cond_false, aop, aThen, aBlock, argEnv, ev, sput, sputO, binK, binI, unK, builtinK, pickK, Nat.reduceBEq, Nat.reduceAdd, Int.reduceBEq, Int.reduceBNe, Int.reduceLT, aPost, resK, tup, tyf, hbb, Nat.reduceEqDiff, if_true, if_false]
      exact fin k L pv (e.none fun i h1 h2 => hfr i h1 h2) _ (by simp (config := {maxSteps := 2000000}) only [↓aw_region, ↓aw_skip, ↓aw_seq, ↓aw_block, ↓aw_exit, ↓aw_ret, ↓sops_nil, ↓sops_go, ↓dops_nil, ↓dopsX_nil, ↓dopsR_nil, ↓vdn, vup, extr_20, extr_21, extr_30, extr_31, extr_32, List.map_cons, List.map_nil, cond_true, cond_false, aop, aThen, aBlock, argEnv, ev, sput, sputO, binK, binI, unK, builtinK, pickK, Nat.reduceBEq, Nat.reduceAdd, Int.reduceBEq, Int.reduceBNe, Int.reduceLT, aPost, resK, tup, tyf])
    · have han' : a < n := by omega
      have haI : (a : Int) < (n : Int) := by omega
      have hLa := e.lt a han'
      cases hbit : (L a).testBit c with
      | false =>
        refine aws_cut fun N9 hN9 => ?_
        simp (config := {maxSteps := 2000000}) only [s97, ↓aw_region, ↓aw_skip, ↓aw_seq, ↓aw_block, ↓aw_exit, ↓aw_ret, ↓sops_nil, ↓sops_go, ↓dops_nil, ↓dopsX_nil, ↓dopsR_nil, ↓vdn, vup, extr_20, extr_21, extr_30, extr_31, extr_32, List.map_cons, List.map_nil, cond_true, cond_false, aop, aThen, aBlock, argEnv, ev, sput, sputO, binK, binI, unK, builtinK, pickK, Nat.reduceBEq, Nat.reduceAdd, Int.reduceBEq, Int.reduceBNe, Int.reduceLT, aPost, resK, tup, tyf, haI, ix5 (show a < 5 by omega), ld5' (show a < 5 by omega), hnn, testV (show L a < 9223372036854775808 by omega), hbit, beq0, Bool.false_eq_true, if_false, Bool.not_false]
        refine hN9 [(1, vint n), (2, pt h.length), (4, .int .i64 0), (5, vint k), (6, vint c), (7, vint a), (10, vint n), (11, vint c)] _ _ ?_ (by simp (config := {maxSteps := 2000000}) only [↓aw_region, ↓aw_skip, ↓aw_seq, ↓aw_block, ↓aw_exit, ↓aw_ret, ↓sops_nil, ↓sops_go, ↓dops_nil, ↓dopsX_nil, ↓dopsR_nil, ↓vdn, vup, extr_20, extr_21, extr_30, extr_31, extr_32, List.map_cons, List.map_nil, cond_true, cond_false, aop, aThen, aBlock, argEnv, ev, sput, sputO, binK, binI, unK, builtinK, pickK, Nat.reduceBEq, Nat.reduceAdd, Int.reduceBEq, Int.reduceBNe, Int.reduceLT, aPost, resK, tup, tyf])
        clear hN9
        try clear N9
        refine aw_aws ?_
        simp (config := {maxSteps := 2000000}) only [s97, ↓aw_region, ↓aw_skip, ↓aw_seq, ↓aw_block, ↓aw_exit, ↓aw_ret, ↓sops_nil, ↓sops_go, ↓dops_nil, ↓dopsX_nil, ↓dopsR_nil, ↓vdn, vup, extr_20, extr_21, extr_30, extr_31, extr_32, List.map_cons, List.map_nil, cond_true, cond_false, aop, aThen, aBlock, argEnv, ev, sput, sputO, binK, binI, unK, builtinK, pickK, Nat.reduceBEq, Nat.reduceAdd, Int.reduceBEq, Int.reduceBNe, Int.reduceLT, aPost, resK, tup, tyf, add1 (show a < 9223372036854775807 by omega)]
        refine hQ4 _ _ _ ⟨a + 1, ⟨by omega, by omega, fun i h1 h2 => ?_⟩, by omega, by simp (config := {maxSteps := 2000000}) only [↓aw_region, ↓aw_skip, ↓aw_seq, ↓aw_block, ↓aw_exit, ↓aw_ret, ↓sops_nil, ↓sops_go, ↓dops_nil, ↓dopsX_nil, ↓dopsR_nil, ↓vdn, vup, extr_20, extr_21, extr_30, extr_31, extr_32, List.map_cons, List.map_nil, cond_true, cond_false, aop, aThen, aBlock, argEnv, ev, sput, sputO, binK, binI, unK, builtinK, pickK, Nat.reduceBEq, Nat.reduceAdd, Int.reduceBEq, Int.reduceBNe, Int.reduceLT, aPost, resK, tup, tyf], rfl⟩
        by_cases hia : i = a
        · subst hia; exact hbit
        · exact hfr i h1 (by omega)
      | true =>
        refine aws_cut fun N10 hN10 => ?_
        simp (config := {maxSteps := 2000000}) only [s97, ↓aw_region, ↓aw_skip, ↓aw_seq, ↓aw_block, ↓aw_exit, ↓aw_ret, ↓sops_nil, ↓sops_go, ↓dops_nil, ↓dopsX_nil, ↓dopsR_nil, ↓vdn, vup, extr_20, extr_21, extr_30, extr_31, extr_32, List.map_cons, List.map_nil, cond_true, cond_false, aop, aThen, aBlock, argEnv, ev, sput, sputO, binK, binI, unK, builtinK, pickK, Nat.reduceBEq, Nat.reduceAdd, Int.reduceBEq, Int.reduceBNe, Int.reduceLT, aPost, resK, tup, tyf, haI, ix5 (show a < 5 by omega), ld5' (show a < 5 by omega), hnn, testV (show L a < 9223372036854775808 by omega), hbit, beq0, if_true, Bool.not_true]
        refine hQ4 _ _ _ (hQ3 _ _ _ ?_)
        simp (config := {maxSteps := 2000000}) only [s97, ↓aw_region, ↓aw_skip, ↓aw_seq, ↓aw_block, ↓aw_exit, ↓aw_ret, ↓sops_nil, ↓sops_go, ↓dops_nil, ↓dopsX_nil, ↓dopsR_nil, ↓vdn, vup, extr_20, extr_21, extr_30, extr_31, extr_32, List.map_cons, List.map_nil, cond_true, cond_false, aop, aThen, aBlock, argEnv, ev, sput, sputO, binK, binI, unK, builtinK, pickK, Nat.reduceBEq, Nat.reduceAdd, Int.reduceBEq, Int.reduceBNe, Int.reduceLT, aPost, resK, tup, tyf, if_true]
        refine hJ [(1, vint n), (2, pt h.length), (4, .int .i64 0), (5, vint k), (6, vint c), (7, vint a), (10, vint n), (11, vint c)] _ _ ?_ (by simp (config := {maxSteps := 2000000}) only [↓aw_region, ↓aw_skip, ↓aw_seq, ↓aw_block, ↓aw_exit, ↓aw_ret, ↓sops_nil, ↓sops_go, ↓dops_nil, ↓dopsX_nil, ↓dopsR_nil, ↓vdn, vup, extr_20, extr_21, extr_30, extr_31, extr_32, List.map_cons, List.map_nil, cond_true, cond_false, aop, aThen, aBlock, argEnv, ev, sput, sputO, binK, binI, unK, builtinK, pickK, Nat.reduceBEq, Nat.reduceAdd, Int.reduceBEq, Int.reduceBNe, Int.reduceLT, aPost, resK, tup, tyf])
        clear hJ
        try clear J
        clear hQ3 hQ4
        have hne : ((a : Int) == (n : Int)) = false := by rw [beq_eq_false_iff_ne]; omega
        refine aws_cut fun N11 hN11 => ?_
        simp (config := {maxSteps := 2000000}) only [s97, ↓aw_region, ↓aw_skip, ↓aw_seq, ↓aw_block, ↓aw_exit, ↓aw_ret, ↓sops_nil, ↓sops_go, ↓dops_nil, ↓dopsX_nil, ↓dopsR_nil, ↓vdn, vup, extr_20, extr_21, extr_30, extr_31, extr_32, List.map_cons, List.map_nil, cond_true, cond_false, aop, aThen, aBlock, argEnv, ev, sput, sputO, binK, binI, unK, builtinK, pickK, Nat.reduceBEq, Nat.reduceAdd, Int.reduceBEq, Int.reduceBNe, Int.reduceLT, aPost, resK, tup, tyf, hne]
        refine hN11 [(1, vint n), (2, pt h.length), (4, .int .i64 0), (5, vint k), (6, vint c), (7, vint a), (10, vint n), (11, vint c)] _ _ ?_ (by simp (config := {maxSteps := 2000000}) only [↓aw_region, ↓aw_skip, ↓aw_seq, ↓aw_block, ↓aw_exit, ↓aw_ret, ↓sops_nil, ↓sops_go, ↓dops_nil, ↓dopsX_nil, ↓dopsR_nil, ↓vdn, vup, extr_20, extr_21, extr_30, extr_31, extr_32, List.map_cons, List.map_nil, cond_true, cond_false, aop, aThen, aBlock, argEnv, ev, sput, sputO, binK, binI, unK, builtinK, pickK, Nat.reduceBEq, Nat.reduceAdd, Int.reduceBEq, Int.reduceBNe, Int.reduceLT, aPost, resK, tup, tyf])
        clear hN11
        try clear N11
        refine aws_cut fun N12 hN12 => ?_
        simp (config := {maxSteps := 2000000}) only [s97, ↓aw_region, ↓aw_skip, ↓aw_seq, ↓aw_block, ↓aw_exit, ↓aw_ret, ↓sops_nil, ↓sops_go, ↓dops_nil, ↓dopsX_nil, ↓dopsR_nil, ↓vdn, vup, extr_20, extr_21, extr_30, extr_31, extr_32, List.map_cons, List.map_nil, cond_true, cond_false, aop, aThen, aBlock, argEnv, ev, sput, sputO, binK, binI, unK, builtinK, pickK, Nat.reduceBEq, Nat.reduceAdd, Int.reduceBEq, Int.reduceBNe, Int.reduceLT, aPost, resK, tup, tyf, ix5 (show a < 5 by omega), ld5' (show a < 5 by omega)]
        refine hN12 [(1, vint n), (2, pt h.length), (4, .int .i64 0), (5, vint k), (6, vint c), (7, vint a), (8, vint (L a : Nat)), (10, vint n), (11, vint c)] _ _ ?_ (by simp (config := {maxSteps := 2000000}) only [↓aw_region, ↓aw_skip, ↓aw_seq, ↓aw_block, ↓aw_exit, ↓aw_ret, ↓sops_nil, ↓sops_go, ↓dops_nil, ↓dopsX_nil, ↓dopsR_nil, ↓vdn, vup, extr_20, extr_21, extr_30, extr_31, extr_32, List.map_cons, List.map_nil, cond_true, cond_false, aop, aThen, aBlock, argEnv, ev, sput, sputO, binK, binI, unK, builtinK, pickK, Nat.reduceBEq, Nat.reduceAdd, Int.reduceBEq, Int.reduceBNe, Int.reduceLT, aPost, resK, tup, tyf])
        clear hN12
        try clear N12
        refine aws_cut fun N13 hN13 => ?_
        simp (config := {maxSteps := 2000000}) only [s97, ↓aw_region, ↓aw_skip, ↓aw_seq, ↓aw_block, ↓aw_exit, ↓aw_ret, ↓sops_nil, ↓sops_go, ↓dops_nil, ↓dopsX_nil, ↓dopsR_nil, ↓vdn, vup, extr_20, extr_21, extr_30, extr_31, extr_32, List.map_cons, List.map_nil, cond_true, cond_false, aop, aThen, aBlock, argEnv, ev, sput, sputO, binK, binI, unK, builtinK, pickK, Nat.reduceBEq, Nat.reduceAdd, Int.reduceBEq, Int.reduceBNe, Int.reduceLT, aPost, resK, tup, tyf, ix5 (show k < 5 by omega), ld5' (show k < 5 by omega), ix5 (show a < 5 by omega), st5' (show a < 5 by omega)]
        refine hN13 [(1, vint n), (2, pt h.length), (4, .int .i64 0), (5, vint k), (6, vint c), (7, vint a), (8, vint (L a : Nat)), (10, vint n), (11, vint c)] _ _ ?_ (by simp (config := {maxSteps := 2000000}) only [↓aw_region, ↓aw_skip, ↓aw_seq, ↓aw_block, ↓aw_exit, ↓aw_ret, ↓sops_nil, ↓sops_go, ↓dops_nil, ↓dopsX_nil, ↓dopsR_nil, ↓vdn, vup, extr_20, extr_21, extr_30, extr_31, extr_32, List.map_cons, List.map_nil, cond_true, cond_false, aop, aThen, aBlock, argEnv, ev, sput, sputO, binK, binI, unK, builtinK, pickK, Nat.reduceBEq, Nat.reduceAdd, Int.reduceBEq, Int.reduceBNe, Int.reduceLT, aPost, resK, tup, tyf])
        clear hN13
        try clear N13
        refine aws_cut fun N14 hN14 => ?_
        simp (config := {maxSteps := 2000000}) only [s97, ↓aw_region, ↓aw_skip, ↓aw_seq, ↓aw_block, ↓aw_exit, ↓aw_ret, ↓sops_nil, ↓sops_go, ↓dops_nil, ↓dopsX_nil, ↓dopsR_nil, ↓vdn, vup, extr_20, extr_21, extr_30, extr_31, extr_32, List.map_cons, List.map_nil, cond_true, cond_false, aop, aThen, aBlock, argEnv, ev, sput, sputO, binK, binI, unK, builtinK, pickK, Nat.reduceBEq, Nat.reduceAdd, Int.reduceBEq, Int.reduceBNe, Int.reduceLT, aPost, resK, tup, tyf, ix5 (show k < 5 by omega), st5' (show k < 5 by omega), upd_swp]
        refine hN14 [(1, vint n), (2, pt h.length), (4, .int .i64 0), (5, vint k), (6, vint c), (8, vint (L a : Nat)), (10, vint n), (11, vint c)] _ _ ?_ (by simp (config := {maxSteps := 2000000}) only [↓aw_region, ↓aw_skip, ↓aw_seq, ↓aw_block, ↓aw_exit, ↓aw_ret, ↓sops_nil, ↓sops_go, ↓dops_nil, ↓dopsX_nil, ↓dopsR_nil, ↓vdn, vup, extr_20, extr_21, extr_30, extr_31, extr_32, List.map_cons, List.map_nil, cond_true, cond_false, aop, aThen, aBlock, argEnv, ev, sput, sputO, binK, binI, unK, builtinK, pickK, Nat.reduceBEq, Nat.reduceAdd, Int.reduceBEq, Int.reduceBNe, Int.reduceLT, aPost, resK, tup, tyf])
        clear hN14
        try clear N14
        have srow : Rn.swp L k a k = L a := by rw [Rn.swp, if_pos rfl]
        have e2 := e.some hka han' hbit
        have hlt : ∀ i, i < n → Rn.swp L k a i < 2 ^ n := fun i hi => by
          obtain ⟨j, hj, es, _⟩ := Rn.swp_from L hka han' i hi
          rw [es]; exact e.lt j hj
        rw [← srow]
        rw [← srow] at hLa
        generalize Rn.swp L k a = L1 at e2 hlt hLa ⊢
        refine aws_cut fun J hJ => ?_
        simp (config := {maxSteps := 2000000}) only [s97, ↓aw_region, ↓aw_skip, ↓aw_seq, ↓aw_block, ↓aw_exit, ↓aw_ret, ↓sops_nil, ↓sops_go, ↓dops_nil, ↓dopsX_nil, ↓dopsR_nil, ↓vdn, vup, extr_20, extr_21, extr_30, extr_31, extr_32, List.map_cons, List.map_nil, cond_true, cond_false, aop, aThen, aBlock, argEnv, ev, sput, sputO, binK, binI, unK, builtinK, pickK, Nat.reduceBEq, Nat.reduceAdd, Int.reduceBEq, Int.reduceBNe, Int.reduceLT, aPost, resK, tup, tyf, ↓aw_loop_eq]
        refine aws_hide fun Q3 hQ3 => ?_
        refine aw_loopW (γ := Nat) (fun i => i ≤ n) (fun i => ([(1, vint n), (2, pt h.length), (4, .int .i64 0), (5, vint k), (6, vint c), (8, vint (L1 k : Nat)), (10, vint n), (11, vint c), (43, vint n), (44, vint i)], H5 h (elTo L1 k c i))) (fun i => n - i) 0 (Nat.zero_le _) (by simp (config := {maxSteps := 2000000}) only [↓aw_region, ↓aw_skip, ↓aw_seq, ↓aw_block, ↓aw_exit, ↓aw_ret, ↓sops_nil, ↓sops_go, ↓dops_nil, ↓dopsX_nil, ↓dopsR_nil, ↓vdn, vup, extr_20, extr_21, extr_30, extr_31, extr_32, List.map_cons, List.map_nil, cond_true, cond_false, aop, aThen, aBlock, argEnv, ev, sput, sputO, binK, binI, unK, builtinK, pickK, Nat.reduceBEq, Nat.reduceAdd, Int.reduceBEq, Int.reduceBNe, Int.reduceLT, aPost, resK, tup, tyf, Int.natCast_zero]) (by rw [elTo_zero]) ?_
        intro i hi
        refine aws_hide fun Q4 hQ4 => ?_
        simp only [l97_1]
        by_cases hin : (i : Int) < n
        · have hi' : i < n := by omega
          have hLi := hlt i hi'
          refine aws_cut fun N15 hN15 => ?_
          simp (config := {maxSteps := 2000000}) only [s97, ↓aw_region, ↓aw_skip, ↓aw_seq, ↓aw_block, ↓aw_exit, ↓aw_ret, ↓sops_nil, ↓sops_go, ↓dops_nil, ↓dopsX_nil, ↓dopsR_nil, ↓vdn, vup, extr_20, extr_21, extr_30, extr_31, extr_32, List.map_cons, List.map_nil, cond_true, cond_false, aop, aThen, aBlock, argEnv, ev, sput, sputO, binK, binI, unK, builtinK, pickK, Nat.reduceBEq, Nat.reduceAdd, Int.reduceBEq, Int.reduceBNe, Int.reduceLT, aPost, resK, tup, tyf, hin]
          refine hN15 [(1, vint n), (2, pt h.length), (4, .int .i64 0), (5, vint k), (6, vint c), (8, vint (L1 k : Nat)), (10, vint n), (11, vint c), (43, vint n), (44, vint i), (45, .bool true)] _ _ ?_ (by simp (config := {maxSteps := 2000000}) only [↓aw_region, ↓aw_skip, ↓aw_seq, ↓aw_block, ↓aw_exit, ↓aw_ret, ↓sops_nil, ↓sops_go, ↓dops_nil, ↓dopsX_nil, ↓dopsR_nil, ↓vdn, vup, extr_20, extr_21, extr_30, extr_31, extr_32, List.map_cons, List.map_nil, cond_true, cond_false, aop, aThen, aBlock, argEnv, ev, sput, sputO, binK, binI, unK, builtinK, pickK, Nat.reduceBEq, Nat.reduceAdd, Int.reduceBEq, Int.reduceBNe, Int.reduceLT, aPost, resK, tup, tyf])
          clear hN15
          try clear N15
          refine aws_cut fun N16 hN16 => ?_
          simp (config := {maxSteps := 2000000}) only [s97, ↓aw_region, ↓aw_skip, ↓aw_seq, ↓aw_block, ↓aw_exit, ↓aw_ret, ↓sops_nil, ↓sops_go, ↓dops_nil, ↓dopsX_nil, ↓dopsR_nil, ↓vdn, vup, extr_20, extr_21, extr_30, extr_31, extr_32, List.map_cons, List.map_nil, cond_true, cond_false, aop, aThen, aBlock, argEnv, ev, sput, sputO, binK, binI, unK, builtinK, pickK, Nat.reduceBEq, Nat.reduceAdd, Int.reduceBEq, Int.reduceBNe, Int.reduceLT, aPost, resK, tup, tyf]
          refine hN16 [(1, vint n), (2, pt h.length), (4, .int .i64 0), (5, vint k), (6, vint c), (8, vint (L1 k : Nat)), (10, vint n), (11, vint c), (43, vint n), (44, vint i)] _ _ ?_ (by simp (config := {maxSteps := 2000000}) only [↓aw_region, ↓aw_skip, ↓aw_seq, ↓aw_block, ↓aw_exit, ↓aw_ret, ↓sops_nil, ↓sops_go, ↓dops_nil, ↓dopsX_nil, ↓dopsR_nil, ↓vdn, vup, extr_20, extr_21, extr_30, extr_31, extr_32, List.map_cons, List.map_nil, cond_true, cond_false, aop, aThen, aBlock, argEnv, ev, sput, sputO, binK, binI, unK, builtinK, pickK, Nat.reduceBEq, Nat.reduceAdd, Int.reduceBEq, Int.reduceBNe, Int.reduceLT, aPost, resK, tup, tyf])
          clear hN16
          try clear N16
          refine aws_cutW fun Y hY => ?_
          have fin2 : ∀ e, ELe e [(1, vint n), (2, pt h.length), (4, .int .i64 0), (5, vint k), (6, vint c), (8, vint (L1 k : Nat)), (10, vint n), (11, vint c), (43, vint n), (44, vint i)] → Y e (H5 h (elTo L1 k c (i + 1))) := by
            intro e he
            refine hY [(1, vint n), (2, pt h.length), (4, .int .i64 0), (5, vint k), (6, vint c), (8, vint (L1 k : Nat)), (10, vint n), (11, vint c), (43, vint n), (44, vint i)] _ _ ?_ he
            refine aw_aws ?_
            simp (config := {maxSteps := 2000000}) only [s97, ↓aw_region, ↓aw_skip, ↓aw_seq, ↓aw_block, ↓aw_exit, ↓aw_ret, ↓sops_nil, ↓sops_go, ↓dops_nil, ↓dopsX_nil, ↓dopsR_nil, ↓vdn, vup, extr_20, extr_21, extr_30, extr_31, extr_32, List.map_cons, List.map_nil, cond_true, cond_false, aop, aThen, aBlock, argEnv, ev, sput, sputO, binK, binI, unK, builtinK, pickK, Nat.reduceBEq, Nat.reduceAdd, Int.reduceBEq, Int.reduceBNe, Int.reduceLT, aPost, resK, tup, tyf, add1 (show i < 9223372036854775807 by omega)]
            exact hQ4 _ _ _ ⟨i + 1, by omega, by omega, by simp (config := {maxSteps := 2000000}) only [↓aw_region, ↓aw_skip, ↓aw_seq, ↓aw_block, ↓aw_exit, ↓aw_ret, ↓sops_nil, ↓sops_go, ↓dops_nil, ↓dopsX_nil, ↓dopsR_nil, ↓vdn, vup, extr_20, extr_21, extr_30, extr_31, extr_32, List.map_cons, List.map_nil, cond_true, cond_false, aop, aThen, aBlock, argEnv, ev, sput, sputO, binK, binI, unK, builtinK, pickK, Nat.reduceBEq, Nat.reduceAdd, Int.reduceBEq, Int.reduceBNe, Int.reduceLT, aPost, resK, tup, tyf], rfl⟩
          clear hY
          refine aws_block ?_
          refine aws_cut fun N17 hN17 => ?_
          simp (config := {maxSteps := 2000000}) only [s97, ↓aw_region, ↓aw_skip, ↓aw_seq, ↓aw_block, ↓aw_exit, ↓aw_ret, ↓sops_nil, ↓sops_go, ↓dops_nil, ↓dopsX_nil, ↓dopsR_nil, ↓vdn, vup, extr_20, extr_21, extr_30, extr_31, extr_32, List.map_cons, List.map_nil, cond_true, cond_false, aop, aThen, aBlock, argEnv, ev, sput, sputO, binK, binI, unK, builtinK, pickK, Nat.reduceBEq, Nat.reduceAdd, Int.reduceBEq, Int.reduceBNe, Int.reduceLT, aPost, resK, tup, tyf]
          refine hN17 [(1, vint n), (2, pt h.length), (4, .int .i64 0), (5, vint k), (6, vint c), (8, vint (L1 k : Nat)), (9, vint i), (10, vint n), (11, vint c), (43, vint n), (44, vint i)] _ _ ?_ (by simp (config := {maxSteps := 2000000}) only [↓aw_region, ↓aw_skip, ↓aw_seq, ↓aw_block, ↓aw_exit, ↓aw_ret, ↓sops_nil, ↓sops_go, ↓dops_nil, ↓dopsX_nil, ↓dopsR_nil, ↓vdn, vup, extr_20, extr_21, extr_30, extr_31, extr_32, List.map_cons, List.map_nil, cond_true, cond_false, aop, aThen, aBlock, argEnv, ev, sput, sputO, binK, binI, unK, builtinK, pickK, Nat.reduceBEq, Nat.reduceAdd, Int.reduceBEq, Int.reduceBNe, Int.reduceLT, aPost, resK, tup, tyf])
          clear hN17
          try clear N17
          refine aw_aws ?_
          cases hik : (i == k) with
          | true =>
            have hno : ¬ (i ≠ k ∧ (L1 i).testBit c = true) := fun h => h.1 (beq_iff_eq.1 hik)
            rw [← elTo_keep hno]
            simp (config := {maxSteps := 2000000}) only [s97, ↓aw_region, ↓aw_skip, ↓aw_seq, ↓aw_block, ↓aw_exit, ↓aw_ret, ↓sops_nil, ↓sops_go, ↓dops_nil, ↓dopsX_nil, ↓dopsR_nil, ↓vdn, vup, extr_20, extr_21, extr_30, extr_31, extr_32, List.map_cons, List.map_nil, cond_true, cond_false, aop, aThen, aBlock, argEnv, ev, sput, sputO, binK, binI, unK, builtinK, pickK, Nat.reduceBEq, Nat.reduceAdd, Int.reduceBEq, Int.reduceBNe, Int.reduceLT, aPost, resK, tup, tyf, bneN, hik, Bool.not_true]
            exact fin2 _ (by simp (config := {maxSteps := 2000000}) only [↓aw_region, ↓aw_skip, ↓aw_seq, ↓aw_block, ↓aw_exit, ↓aw_ret, ↓sops_nil, ↓sops_go, ↓dops_nil, ↓dopsX_nil, ↓dopsR_nil, ↓vdn, vup, extr_20, extr_21, extr_30, extr_31, extr_32, List.map_cons, List.map_nil, cond_true, cond_false, aop, aThen, aBlock, argEnv, ev, sput, sputO, binK, binI, unK, builtinK, pickK, Nat.reduceBEq, Nat.reduceAdd, Int.reduceBEq, Int.reduceBNe, Int.reduceLT, aPost, resK, tup, tyf])
          | false =>
            cases hbi : (L1 i).testBit c with
            | false =>
              have hno : ¬ (i ≠ k ∧ (L1 i).testBit c = true) := fun h => by rw [hbi] at h; cases h.2
              simp (config := {maxSteps := 2000000}) only [s97, ↓aw_region, ↓aw_skip, ↓aw_seq, ↓aw_block, ↓aw_exit, ↓aw_ret, ↓sops_nil, ↓sops_go, ↓dops_nil, ↓dopsX_nil, ↓dopsR_nil, ↓vdn, vup, extr_20, extr_21, extr_30, extr_31, extr_32, List.map_cons, List.map_nil, cond_true, cond_false, aop, aThen, aBlock, argEnv, ev, sput, sputO, binK, binI, unK, builtinK, pickK, Nat.reduceBEq, Nat.reduceAdd, Int.reduceBEq, Int.reduceBNe, Int.reduceLT, aPost, resK, tup, tyf, bneN, hik, Bool.not_false, ix5 (show i < 5 by omega), ld5' (show i < 5 by omega), elTo_at, hnn, testV (show L1 i < 9223372036854775808 by omega), hbi, beq1, Bool.false_eq_true, if_false]
              rw [← elTo_keep hno]
              exact fin2 _ (by simp (config := {maxSteps := 2000000}) only [↓aw_region, ↓aw_skip, ↓aw_seq, ↓aw_block, ↓aw_exit, ↓aw_ret, ↓sops_nil, ↓sops_go, ↓dops_nil, ↓dopsX_nil, ↓dopsR_nil, ↓vdn, vup, extr_20, extr_21, extr_30, extr_31, extr_32, List.map_cons, List.map_nil, cond_true, cond_false, aop, aThen, aBlock, argEnv, ev, sput, sputO, binK, binI, unK, builtinK, pickK, Nat.reduceBEq, Nat.reduceAdd, Int.reduceBEq, Int.reduceBNe, Int.reduceLT, aPost, resK, tup, tyf])
            | true =>
              have hyes : i ≠ k ∧ (L1 i).testBit c = true := ⟨beq_eq_false_iff_ne.1 hik, hbi⟩
              simp (config := {maxSteps := 2000000}) only [s97, ↓aw_region, ↓aw_skip, ↓aw_seq, ↓aw_block, ↓aw_exit, ↓aw_ret, ↓sops_nil, ↓sops_go, ↓dops_nil, ↓dopsX_nil, ↓dopsR_nil, ↓vdn, vup, extr_20, extr_21, extr_30, extr_31, extr_32, List.map_cons, List.map_nil, cond_true, cond_false, aop, aThen, aBlock, argEnv, ev, sput, sputO, binK, binI, unK, builtinK, pickK, Nat.reduceBEq, Nat.reduceAdd, Int.reduceBEq, Int.reduceBNe, Int.reduceLT, aPost, resK, tup, tyf, bneN, hik, Bool.not_false, ix5 (show i < 5 by omega), ld5' (show i < 5 by omega), elTo_at, hnn, testV (show L1 i < 9223372036854775808 by omega), hbi, beq1, if_true, bitsV_xor (show L1 i < 9223372036854775808 by omega) (show L1 k < 9223372036854775808 by omega), st5' (show i < 5 by omega), elTo_step hyes]
              exact fin2 _ (by simp (config := {maxSteps := 2000000}) only [↓aw_region, ↓aw_skip, ↓aw_seq, ↓aw_block, ↓aw_exit, ↓aw_ret, ↓sops_nil, ↓sops_go, ↓dops_nil, ↓dopsX_nil, ↓dopsR_nil, ↓vdn, vup, extr_20, extr_21, extr_30, extr_31, extr_32, List.map_cons, List.map_nil, cond_true, cond_false, aop, aThen, aBlock, argEnv, ev, sput, sputO, binK, binI, unK, builtinK, pickK, Nat.reduceBEq, Nat.reduceAdd, Int.reduceBEq, Int.reduceBNe, Int.reduceLT, aPost, resK, tup, tyf])
        · obtain rfl : n = i := by omega
          refine aws_cut fun Y hY => ?_
          simp (config := {maxSteps := 2000000}) only [s97, ↓aw_region, ↓aw_skip, ↓aw_seq, ↓aw_block, ↓aw_exit, ↓aw_ret, ↓sops_nil, ↓sops_go, ↓dops_nil, ↓dopsX_nil, ↓dopsR_nil, ↓vdn, vup, extr_20, extr_21, extr_30, extr_31, extr_32, List.map_cons, List.map_nil, cond_true, cond_false, aop, aThen, aBlock, argEnv, ev, sput, sputO, binK, binI, unK, builtinK, pickK, Nat.reduceBEq, Nat.reduceAdd, Int.reduceBEq, Int.reduceBNe, Int.reduceLT, aPost, resK, tup, tyf, Int.lt_irrefl]
          refine hY [(1, vint n), (2, pt h.length), (4, .int .i64 0), (5, vint k), (6, vint c), (8, vint (L1 k : Nat)), (10, vint n), (11, vint c), (43, vint n), (44, vint n), (45, .bool false)] _ _ ?_ (by simp (config := {maxSteps := 2000000}) only [↓aw_region, ↓aw_skip, ↓aw_seq, ↓aw_block, ↓aw_exit, ↓aw_ret, ↓sops_nil, ↓sops_go, ↓dops_nil, ↓dopsX_nil, ↓dopsR_nil, ↓vdn, vup, extr_20, extr_21, extr_30, extr_31, extr_32, List.map_cons, List.map_nil, cond_true, cond_false, aop, aThen, aBlock, argEnv, ev, sput, sputO, binK, binI, unK, builtinK, pickK, Nat.reduceBEq, Nat.reduceAdd, Int.reduceBEq, Int.reduceBNe, Int.reduceLT, aPost, resK, tup, tyf])
          clear hY
          try clear Y
          refine aw_aws ?_
          simp (config := {maxSteps := 2000000}) only [s97, ↓aw_region, ↓aw_skip, ↓aw_seq, ↓aw_block, ↓aw_exit, ↓aw_ret, ↓sops_nil, ↓sops_go, ↓dops_nil, ↓dopsX_nil, ↓dopsR_nil, ↓vdn, vup, extr_20, extr_21, extr_30, extr_31, extr_32, List.map_cons, List.map_nil, cond_true, cond_false, aop, aThen, aBlock, argEnv, ev, sput, sputO, binK, binI, unK, builtinK, pickK, Nat.reduceBEq, Nat.reduceAdd, Int.reduceBEq, Int.reduceBNe, Int.reduceLT, aPost, resK, tup, tyf]
          refine hQ4 _ _ _ (hQ3 _ _ _ ?_)
          simp (config := {maxSteps := 2000000}) only [s97, ↓aw_region, ↓aw_skip, ↓aw_seq, ↓aw_block, ↓aw_exit, ↓aw_ret, ↓sops_nil, ↓sops_go, ↓dops_nil, ↓dopsX_nil, ↓dopsR_nil, ↓vdn, vup, extr_20, extr_21, extr_30, extr_31, extr_32, List.map_cons, List.map_nil, cond_true, cond_false, aop, aThen, aBlock, argEnv, ev, sput, sputO, binK, binI, unK, builtinK, pickK, Nat.reduceBEq, Nat.reduceAdd, Int.reduceBEq, Int.reduceBNe, Int.reduceLT, aPost, resK, tup, tyf, if_true]
          refine hJ [(1, vint n), (2, pt h.length), (4, .int .i64 0), (5, vint k), (6, vint c), (8, vint (L1 k : Nat)), (10, vint n), (11, vint c)] _ _ ?_ (by simp (config := {maxSteps := 2000000}) only [↓aw_region, ↓aw_skip, ↓aw_seq, ↓aw_block, ↓aw_exit, ↓aw_ret, ↓sops_nil, ↓sops_go, ↓dops_nil, ↓dopsX_nil, ↓dopsR_nil, ↓vdn, vup, extr_20, extr_21, extr_30, extr_31, extr_32, List.map_cons, List.map_nil, cond_true, cond_false, aop, aThen, aBlock, argEnv, ev, sput, sputO, binK, binI, unK, builtinK, pickK, Nat.reduceBEq, Nat.reduceAdd, Int.reduceBEq, Int.reduceBNe, Int.reduceLT, aPost, resK, tup, tyf])
          clear hJ
          try clear J
          refine aw_aws ?_
          simp (config := {maxSteps := 2000000}) only [s97, ↓aw_region, ↓aw_skip, ↓aw_seq, ↓aw_block, ↓aw_exit, ↓aw_ret, ↓sops_nil, ↓sops_go, ↓dops_nil, ↓dopsX_nil, ↓dopsR_nil, ↓vdn, vup, extr_20, extr_21, extr_30, extr_31, extr_32, List.map_cons, List.map_nil, cond_true, cond_false, aop, aThen, aBlock, argEnv, ev, sput, sputO, binK, binI, unK, builtinK, pickK, Nat.reduceBEq, Nat.reduceAdd, Int.reduceBEq, Int.reduceBNe, Int.reduceLT, aPost, resK, tup, tyf, add1 (show k < 9223372036854775807 by omega)]
          refine fin (k + 1) _ _ (EI_congr e2 fun t ht => ?_) _ (by simp (config := {maxSteps := 2000000}) only [↓aw_region, ↓aw_skip, ↓aw_seq, ↓aw_block, ↓aw_exit, ↓aw_ret, ↓sops_nil, ↓sops_go, ↓dops_nil, ↓dopsX_nil, ↓dopsR_nil, ↓vdn, vup, extr_20, extr_21, extr_30, extr_31, extr_32, List.map_cons, List.map_nil, cond_true, cond_false, aop, aThen, aBlock, argEnv, ev, sput, sputO, binK, binI, unK, builtinK, pickK, Nat.reduceBEq, Nat.reduceAdd, Int.reduceBEq, Int.reduceBNe, Int.reduceLT, aPost, resK, tup, tyf])
          rw [elTo, if_pos ht]
  · obtain rfl : n = c := by omega
    refine aws_cut fun K hK => ?_
    simp (config := {maxSteps := 2000000}) only [s97, ↓aw_region, ↓aw_skip, ↓aw_seq, ↓aw_block, ↓aw_exit, ↓aw_ret, ↓sops_nil, ↓sops_go, ↓dops_nil, ↓dopsX_nil, ↓dopsR_nil, ↓vdn, vup, extr_20, extr_21, extr_30, extr_31, extr_32, List.map_cons, List.map_nil, cond_true, cond_false, aop, aThen, aBlock, argEnv, ev, sput, sputO, binK, binI, unK, builtinK, pickK, Nat.reduceBEq, Nat.reduceAdd, Int.reduceBEq, Int.reduceBNe, Int.reduceLT, aPost, resK, tup, tyf, Int.lt_irrefl]
    refine hK [(1, vint n), (2, pt h.length), (4, .int .i64 0), (5, vint k), (10, vint n), (11, vint n), (12, .bool false)] _ _ ?_ (by simp (config := {maxSteps := 2000000}) only [↓aw_region, ↓aw_skip, ↓aw_seq, ↓aw_block, ↓aw_exit, ↓aw_ret, ↓sops_nil, ↓sops_go, ↓dops_nil, ↓dopsX_nil, ↓dopsR_nil, ↓vdn, vup, extr_20, extr_21, extr_30, extr_31, extr_32, List.map_cons, List.map_nil, cond_true, cond_false, aop, aThen, aBlock, argEnv, ev, sput, sputO, binK, binI, unK, builtinK, pickK, Nat.reduceBEq, Nat.reduceAdd, Int.reduceBEq, Int.reduceBNe, Int.reduceLT, aPost, resK, tup, tyf])
    clear hK
    try clear K
    refine aw_aws ?_
    simp (config := {maxSteps := 2000000}) only [s97, ↓aw_region, ↓aw_skip, ↓aw_seq, ↓aw_block, ↓aw_exit, ↓aw_ret, ↓sops_nil, ↓sops_go, ↓dops_nil, ↓dopsX_nil, ↓dopsR_nil, ↓vdn, vup, extr_20, extr_21, extr_30, extr_31, extr_32, List.map_cons, List.map_nil, cond_true, cond_false, aop, aThen, aBlock, argEnv, ev, sput, sputO, binK, binI, unK, builtinK, pickK, Nat.reduceBEq, Nat.reduceAdd, Int.reduceBEq, Int.reduceBNe, Int.reduceLT, aPost, resK, tup, tyf]
    refine hQ2 _ _ _ (hQ _ _ _ ?_)
    simp (config := {maxSteps := 2000000}) only [s97, ↓aw_region, ↓aw_skip, ↓aw_seq, ↓aw_block, ↓aw_exit, ↓aw_ret, ↓sops_nil, ↓sops_go, ↓dops_nil, ↓dopsX_nil, ↓dopsR_nil, ↓vdn, vup, extr_20, extr_21, extr_30, extr_31, extr_32, List.map_cons, List.map_nil, cond_true, cond_false, aop, aThen, aBlock, argEnv, ev, sput, sputO, binK, binI, unK, builtinK, pickK, Nat.reduceBEq, Nat.reduceAdd, Int.reduceBEq, Int.reduceBNe, Int.reduceLT, aPost, resK, tup, tyf, if_true]
    refine hZ [(5, vint k)] _ _ ?_ (by simp (config := {maxSteps := 2000000}) only [↓aw_region, ↓aw_skip, ↓aw_seq, ↓aw_block, ↓aw_exit, ↓aw_ret, ↓sops_nil, ↓sops_go, ↓dops_nil, ↓dopsX_nil, ↓dopsR_nil, ↓vdn, vup, extr_20, extr_21, extr_30, extr_31, extr_32, List.map_cons, List.map_nil, cond_true, cond_false, aop, aThen, aBlock, argEnv, ev, sput, sputO, binK, binI, unK, builtinK, pickK, Nat.reduceBEq, Nat.reduceAdd, Int.reduceBEq, Int.reduceBNe, Int.reduceLT, aPost, resK, tup, tyf])
    clear hZ
    try clear Z
    refine aw_aws ?_
    simp (config := {maxSteps := 2000000}) only [s97, ↓aw_region, ↓aw_skip, ↓aw_seq, ↓aw_block, ↓aw_exit, ↓aw_ret, ↓sops_nil, ↓sops_go, ↓dops_nil, ↓dopsX_nil, ↓dopsR_nil, ↓vdn, vup, extr_20, extr_21, extr_30, extr_31, extr_32, List.map_cons, List.map_nil, cond_true, cond_false, aop, aThen, aBlock, argEnv, ev, sput, sputO, binK, binI, unK, builtinK, pickK, Nat.reduceBEq, Nat.reduceAdd, Int.reduceBEq, Int.reduceBNe, Int.reduceLT, aPost, resK, tup, tyf]
    exact ⟨by rw [e.fin], Ext.app _ _ _⟩
theorem rank2_call [Tabs prog] {h : Heap} {L0 : Nat → Nat} {n : Nat} (hn : n ≤ 5) (hL : ∀ i, i < n → L0 i < 2 ^ n) : APure prog 97 [.agg (c5 L0).toArray, vint n] h (vint (Rn.dim n (Rn.rowsF L0 n) : Nat)) :=
  (rank2_call0 hn hL).forget (Low.int _ _)
end Go.Proofs.Tryd.Am
