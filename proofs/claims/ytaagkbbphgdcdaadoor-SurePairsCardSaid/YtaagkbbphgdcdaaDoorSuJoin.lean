/-
  sure: graphs that are made pair by pair; pairs of signals, by the program and by the reference.
-/
import Derived.Test.YtaagkbbphgdcdaaDoorSuCov
import Derived.Test.YtaagkbbphgdcdaaDoorFnD
set_option linter.all false
namespace Go.Proofs.Tryd.Am
open Go.Am Sr
set_option maxRecDepth 100000
set_option maxHeartbeats 1000000

/-- The rows while row i is under way. -/
def rowsN (f : Nat → Nat → Nat) (m i j : Nat) : List Nat := (List.range m).map fun r => if r < i then f r m else if r = i then f r j else 0
section
variable {f : Nat → Nat → Nat} {m i j : Nat}
theorem rowsN_len : (rowsN f m i j).length = m := by simp [rowsN]
theorem rowsN_at {t : Nat} (h : t < m) : (rowsN f m i j)[t]? = some (if t < i then f t m else if t = i then f t j else 0) := by
  rw [rowsN, List.getElem?_map, List.getElem?_range h]; rfl
theorem rowsN_get (hi : i < m) : (rowsN f m i j).getD i 0 = f i j := by
  rw [List.getD, rowsN_at hi, if_neg (Nat.lt_irrefl _), if_pos rfl]; rfl
theorem rowsN_zero (h0 : f 0 0 = 0) : rowsN f m 0 0 = List.replicate m 0 := by
  apply List.ext_getElem?
  intro t
  by_cases h : t < m
  · rw [rowsN_at h, List.getElem?_replicate, if_pos h, if_neg (Nat.not_lt_zero _)]
    by_cases e : t = 0
    · subst e; rw [if_pos rfl, h0]
    · rw [if_neg e]
  · rw [List.getElem?_eq_none (by rw [rowsN_len]; omega), List.getElem?_eq_none (by simp; omega)]
theorem rowsN_set {k : Nat} : (rowsN f m i j).set i (f i k) = rowsN f m i k := by
  apply List.ext_getElem?
  intro t
  by_cases h : t < m
  · rw [List.getElem?_set, rowsN_at h, rowsN_at h, rowsN_len]
    by_cases e : i = t
    · subst e; simp [h]
    · simp [e, Ne.symm e]
  · rw [List.getElem?_eq_none (by rw [List.length_set, rowsN_len]; omega), List.getElem?_eq_none (by rw [rowsN_len]; omega)]
theorem rowsN_next (h0 : ∀ r, f r 0 = 0) : rowsN f m i m = rowsN f m (i + 1) 0 := by
  apply List.ext_getElem?
  intro t
  by_cases h : t < m
  · rw [rowsN_at h, rowsN_at h, h0]
    by_cases h1 : t < i
    · rw [if_pos h1, if_pos (by omega)]
    · rw [if_neg h1]
      by_cases h2 : t = i
      · subst h2; rw [if_pos rfl, if_pos (by omega)]
      · rw [if_neg h2, if_neg (by omega)]; split <;> rfl
  · rw [List.getElem?_eq_none (by rw [rowsN_len]; omega), List.getElem?_eq_none (by rw [rowsN_len]; omega)]
theorem rowsN_all : rowsN f m m 0 = (List.range m).map fun r => f r m := by
  rw [rowsN]
  refine List.map_congr_left fun r hr => ?_
  rw [if_pos (List.mem_range.1 hr)]
end
/-- Row i of the graph in which p says who is confused. -/
def rwM (p : Nat → Nat → Bool) (i j : Nat) : Nat := mk (fun c => i != c && p i c) j
def mat (p : Nat → Nat → Bool) (m : Nat) : List Nat := (List.range m).map fun r => rwM p r m
theorem rwM_lt (p : Nat → Nat → Bool) (i j : Nat) : rwM p i j < 2 ^ j := mk_lt _ _
theorem rwM_yes {p : Nat → Nat → Bool} {i j : Nat} (hij : (i == j) = false) (hp : p i j = true) : rwM p i (j + 1) = rwM p i j ||| 2 ^ j := by
  rw [rwM, mk, if_pos (by rw [hp, bne, hij]; rfl)]; rfl
theorem rwM_no {p : Nat → Nat → Bool} {i j : Nat} (h : (i == j) = true ∨ p i j = false) : rwM p i (j + 1) = rwM p i j := by
  rw [rwM, mk, if_neg]
  · rfl
  · rcases h with h | h
    · rw [bne, h]; simp
    · rw [h, Bool.and_false]; decide
theorem mat_len (p : Nat → Nat → Bool) (m : Nat) : (mat p m).length = m := by simp [mat]

/-- A table of a run that lies last. -/
abbrev tabH (h : Heap) (L : List Nat) : Heap := h ++ [.ints (iL L) 3 false]
section
variable {h : Heap} {f : Nat → Nat → Nat} {m i j : Nat}
theorem tH_idx {t : TypeId} (he : elemOf' prog t = some 3) (hi : i < m) {K : Value → Prop} : idxAddrK prog t (tv h.length m) (vint i) K = K (.pointer (some ⟨h.length, i, none⟩)) := by
  have h1 := intSl_blk (get_new h (.ints (List.replicate m 0) 3 false))
  rw [List.length_replicate] at h1
  rw [h1.idx he esz_3 (by rw [List.length_replicate]; exact hi), elemP_new]
theorem tH_load (hi : i < m) {K : Value → Prop} : loadK prog (tabH h (rowsN f m i j)) 3 (.pointer (some ⟨h.length, i, none⟩)) K = K (vint (f i j : Nat)) := by
  rw [tab_load (get_new _ _) rowsN_len hi, rowsN_get hi]
theorem tH_store (hi : i < m) {k : Nat} {K : Heap → Prop} : storeK prog (tabH h (rowsN f m i j)) 3 (.pointer (some ⟨h.length, i, none⟩)) (vint (f i k : Nat)) K = K (tabH h (rowsN f m i k)) := by
  rw [tab_store (get_new _ _) rowsN_len hi, set_last, rowsN_set]
end

theorem s59_callW [Tabs Tryd.prog] {args : List Value} {h : Heap} {Q : Value → Heap → Prop} (hsz : args.length ≤ 38) (hk : AWS Tryd.prog 38 s59 (aPost Tryd.prog [.tmp 4] Q) (argEnv 0 args) h) : ACall Tryd.prog 59 args h Q :=
  acall_w Tryd.func59 rfl (enters_of Tryd.func59 (by kernel_rfl) rfl) rfl rfl (by decide) s59_strip s59_ok hsz hk
theorem made_call [Tabs prog] {h : Heap} {fv : Value} {p : Nat → Nat → Bool} {m : Nat} (hm : m ≤ 6) (hf : ∀ {hp : Heap}, Ext (fun _ => False) h hp → ∀ i j : Nat, i < m → j < m → ∀ {K : Value → Heap → Prop}, K (.bool (p i j)) hp → callK prog false fv [vint i, vint j] hp K) :
    ACall prog 59 [vint m, fv] h fun r h' => IntSl h' r (iL (mat p m)) ∧ Ext (fun _ => False) h h' := by
  have hnn : ∀ i : Nat, (0 : Int) ≤ (i : Int) := Int.natCast_nonneg
  refine s59_callW (by simp) ?_
  simp only [s59]
  refine aws_cut fun N1 hN1 => ?_
  simp (config := {maxSteps := 2000000}) only [s59, ↓aw_region, ↓aw_skip, ↓aw_seq, ↓aw_block, ↓aw_exit, ↓aw_ret, ↓sops_nil, ↓sops_go, ↓dops_nil, ↓dopsX_nil, ↓dopsR_nil, ↓vdn, vup, extr_20, extr_21, extr_30, extr_31, extr_32, List.map_cons, List.map_nil, cond_true, cond_false, aop, aThen, aBlock, argEnv, ev, sput, sputO, binK, binI, unK, builtinK, pickK, Nat.reduceBEq, Nat.reduceAdd, Int.reduceBEq, Int.reduceBNe, Int.reduceLT, aPost, resK, tup, tyf]
  refine hN1 [(0, vint m), (1, fv), (4, .slice none 0 0)] _ _ ?_ (by simp (config := {maxSteps := 2000000}) only [↓aw_region, ↓aw_skip, ↓aw_seq, ↓aw_block, ↓aw_exit, ↓aw_ret, ↓sops_nil, ↓sops_go, ↓dops_nil, ↓dopsX_nil, ↓dopsR_nil, ↓vdn, vup, extr_20, extr_21, extr_30, extr_31, extr_32, List.map_cons, List.map_nil, cond_true, cond_false, aop, aThen, aBlock, argEnv, ev, sput, sputO, binK, binI, unK, builtinK, pickK, Nat.reduceBEq, Nat.reduceAdd, Int.reduceBEq, Int.reduceBNe, Int.reduceLT, aPost, resK, tup, tyf])
  clear hN1
  try clear N1
  have hr0 : List.replicate m (0 : Int) = iL (rowsN (rwM p) m 0 0) := by rw [rowsN_zero rfl]; simp [iL]
  refine aws_cut fun N2 hN2 => ?_
  simp (config := {maxSteps := 2000000}) only [s59, ↓aw_region, ↓aw_skip, ↓aw_seq, ↓aw_block, ↓aw_exit, ↓aw_ret, ↓sops_nil, ↓sops_go, ↓dops_nil, ↓dopsX_nil, ↓dopsR_nil, ↓vdn, vup, extr_20, extr_21, extr_30, extr_31, extr_32, List.map_cons, List.map_nil, cond_true, cond_false, aop, aThen, aBlock, argEnv, ev, sput, sputO, binK, binI, unK, builtinK, pickK, Nat.reduceBEq, Nat.reduceAdd, Int.reduceBEq, Int.reduceBNe, Int.reduceLT, aPost, resK, tup, tyf, makeI el_56 zero_3 info_3 (Int.natCast_nonneg m) (show ((m : Nat) : Int) ≤ 35184372088832 by omega), Int.toNat_natCast, hr0]
  refine hN2 [(0, vint m), (1, fv), (4, .slice none 0 0), (5, tv h.length m)] _ _ ?_ (by simp (config := {maxSteps := 2000000}) only [↓aw_region, ↓aw_skip, ↓aw_seq, ↓aw_block, ↓aw_exit, ↓aw_ret, ↓sops_nil, ↓sops_go, ↓dops_nil, ↓dopsX_nil, ↓dopsR_nil, ↓vdn, vup, extr_20, extr_21, extr_30, extr_31, extr_32, List.map_cons, List.map_nil, cond_true, cond_false, aop, aThen, aBlock, argEnv, ev, sput, sputO, binK, binI, unK, builtinK, pickK, Nat.reduceBEq, Nat.reduceAdd, Int.reduceBEq, Int.reduceBNe, Int.reduceLT, aPost, resK, tup, tyf])
  clear hN2
  try clear N2
  refine aws_cut fun Z hZ => ?_
  simp (config := {maxSteps := 2000000}) only [s59, ↓aw_region, ↓aw_skip, ↓aw_seq, ↓aw_block, ↓aw_exit, ↓aw_ret, ↓sops_nil, ↓sops_go, ↓dops_nil, ↓dopsX_nil, ↓dopsR_nil, ↓vdn, vup, extr_20, extr_21, extr_30, extr_31, extr_32, List.map_cons, List.map_nil, cond_true, cond_false, aop, aThen, aBlock, argEnv, ev, sput, sputO, binK, binI, unK, builtinK, pickK, Nat.reduceBEq, Nat.reduceAdd, Int.reduceBEq, Int.reduceBNe, Int.reduceLT, aPost, resK, tup, tyf, ↓aw_loop_eq]
  refine aws_hide fun Q hQ => ?_
  have hE : ∀ i j, Ext (fun _ => False) h (tabH h (rowsN (rwM p) m i j)) := fun i j => Ext.app _ _ _
  refine aw_loopW (γ := Nat) (fun i => i ≤ m)
    (fun i => ([(0, vint m), (1, fv), (4, .slice none 0 0), (5, tv h.length m), (10, vint m), (11, vint i)], tabH h (rowsN (rwM p) m i 0))) (fun i => m - i) 0 (Nat.zero_le _) (by simp (config := {maxSteps := 2000000}) only [↓aw_region, ↓aw_skip, ↓aw_seq, ↓aw_block, ↓aw_exit, ↓aw_ret, ↓sops_nil, ↓sops_go, ↓dops_nil, ↓dopsX_nil, ↓dopsR_nil, ↓vdn, vup, extr_20, extr_21, extr_30, extr_31, extr_32, List.map_cons, List.map_nil, cond_true, cond_false, aop, aThen, aBlock, argEnv, ev, sput, sputO, binK, binI, unK, builtinK, pickK, Nat.reduceBEq, Nat.reduceAdd, Int.reduceBEq, Int.reduceBNe, Int.reduceLT, aPost, resK, tup, tyf, Int.natCast_zero]) rfl ?_
  intro i hi
  refine aws_hide fun Q2 hQ2 => ?_
  simp only [l59_1]
  by_cases hin : (i : Int) < m
  · have hi' : i < m := by omega
    refine aws_cut fun N3 hN3 => ?_
    simp (config := {maxSteps := 2000000}) only [s59, ↓aw_region, ↓aw_skip, ↓aw_seq, ↓aw_block, ↓aw_exit, ↓aw_ret, ↓sops_nil, ↓sops_go, ↓dops_nil, ↓dopsX_nil, ↓dopsR_nil, ↓vdn, vup, extr_20, extr_21, extr_30, extr_31, extr_32, List.map_cons, List.map_nil, cond_true, cond_false, aop, aThen, aBlock, argEnv, ev, sput, sputO, binK, binI, unK, builtinK, pickK, Nat.reduceBEq, Nat.reduceAdd, Int.reduceBEq, Int.reduceBNe, Int.reduceLT, aPost, resK, tup, tyf, hin]
    refine hN3 [(0, vint m), (1, fv), (4, .slice none 0 0), (5, tv h.length m), (10, vint m), (11, vint i), (12, .bool true)] _ _ ?_ (by simp (config := {maxSteps := 2000000}) only [↓aw_region, ↓aw_skip, ↓aw_seq, ↓aw_block, ↓aw_exit, ↓aw_ret, ↓sops_nil, ↓sops_go, ↓dops_nil, ↓dopsX_nil, ↓dopsR_nil, ↓vdn, vup, extr_20, extr_21, extr_30, extr_31, extr_32, List.map_cons, List.map_nil, cond_true, cond_false, aop, aThen, aBlock, argEnv, ev, sput, sputO, binK, binI, unK, builtinK, pickK, Nat.reduceBEq, Nat.reduceAdd, Int.reduceBEq, Int.reduceBNe, Int.reduceLT, aPost, resK, tup, tyf])
    clear hN3
    try clear N3
    refine aws_cut fun N4 hN4 => ?_
    simp (config := {maxSteps := 2000000}) only [s59, ↓aw_region, ↓aw_skip, ↓aw_seq, ↓aw_block, ↓aw_exit, ↓aw_ret, ↓sops_nil, ↓sops_go, ↓dops_nil, ↓dopsX_nil, ↓dopsR_nil, ↓vdn, vup, extr_20, extr_21, extr_30, extr_31, extr_32, List.map_cons, List.map_nil, cond_true, cond_false, aop, aThen, aBlock, argEnv, ev, sput, sputO, binK, binI, unK, builtinK, pickK, Nat.reduceBEq, Nat.reduceAdd, Int.reduceBEq, Int.reduceBNe, Int.reduceLT, aPost, resK, tup, tyf]
    refine hN4 [(0, vint m), (1, fv), (4, .slice none 0 0), (5, tv h.length m), (10, vint m), (11, vint i)] _ _ ?_ (by simp (config := {maxSteps := 2000000}) only [↓aw_region, ↓aw_skip, ↓aw_seq, ↓aw_block, ↓aw_exit, ↓aw_ret, ↓sops_nil, ↓sops_go, ↓dops_nil, ↓dopsX_nil, ↓dopsR_nil, ↓vdn, vup, extr_20, extr_21, extr_30, extr_31, extr_32, List.map_cons, List.map_nil, cond_true, cond_false, aop, aThen, aBlock, argEnv, ev, sput, sputO, binK, binI, unK, builtinK, pickK, Nat.reduceBEq, Nat.reduceAdd, Int.reduceBEq, Int.reduceBNe, Int.reduceLT, aPost, resK, tup, tyf])
    clear hN4
    try clear N4
    refine aws_cutW fun K hK => ?_
    refine aws_block ?_
    refine aws_cut fun N5 hN5 => ?_
    simp (config := {maxSteps := 2000000}) only [s59, ↓aw_region, ↓aw_skip, ↓aw_seq, ↓aw_block, ↓aw_exit, ↓aw_ret, ↓sops_nil, ↓sops_go, ↓dops_nil, ↓dopsX_nil, ↓dopsR_nil, ↓vdn, vup, extr_20, extr_21, extr_30, extr_31, extr_32, List.map_cons, List.map_nil, cond_true, cond_false, aop, aThen, aBlock, argEnv, ev, sput, sputO, binK, binI, unK, builtinK, pickK, Nat.reduceBEq, Nat.reduceAdd, Int.reduceBEq, Int.reduceBNe, Int.reduceLT, aPost, resK, tup, tyf]
    refine hN5 [(0, vint m), (1, fv), (4, .slice none 0 0), (5, tv h.length m), (6, vint i), (10, vint m), (11, vint i)] _ _ ?_ (by simp (config := {maxSteps := 2000000}) only [↓aw_region, ↓aw_skip, ↓aw_seq, ↓aw_block, ↓aw_exit, ↓aw_ret, ↓sops_nil, ↓sops_go, ↓dops_nil, ↓dopsX_nil, ↓dopsR_nil, ↓vdn, vup, extr_20, extr_21, extr_30, extr_31, extr_32, List.map_cons, List.map_nil, cond_true, cond_false, aop, aThen, aBlock, argEnv, ev, sput, sputO, binK, binI, unK, builtinK, pickK, Nat.reduceBEq, Nat.reduceAdd, Int.reduceBEq, Int.reduceBNe, Int.reduceLT, aPost, resK, tup, tyf])
    clear hN5
    try clear N5
    refine aw_aws ?_
    simp (config := {maxSteps := 2000000}) only [s59, ↓aw_region, ↓aw_skip, ↓aw_seq, ↓aw_block, ↓aw_exit, ↓aw_ret, ↓sops_nil, ↓sops_go, ↓dops_nil, ↓dopsX_nil, ↓dopsR_nil, ↓vdn, vup, extr_20, extr_21, extr_30, extr_31, extr_32, List.map_cons, List.map_nil, cond_true, cond_false, aop, aThen, aBlock, argEnv, ev, sput, sputO, binK, binI, unK, builtinK, pickK, Nat.reduceBEq, Nat.reduceAdd, Int.reduceBEq, Int.reduceBNe, Int.reduceLT, aPost, resK, tup, tyf, ↓aw_loop_eq]
    refine aws_hide fun Q3 hQ3 => ?_
    refine aw_loop (γ := Nat) (fun j => j ≤ m)
      (fun j => ([(0, vint m), (1, fv), (4, .slice none 0 0), (5, tv h.length m), (6, vint i), (10, vint m), (11, vint i), (14, vint m), (15, vint j)], tabH h (rowsN (rwM p) m i j))) (fun j => m - j) 0 (Nat.zero_le _) (by simp (config := {maxSteps := 2000000}) only [↓aw_region, ↓aw_skip, ↓aw_seq, ↓aw_block, ↓aw_exit, ↓aw_ret, ↓sops_nil, ↓sops_go, ↓dops_nil, ↓dopsX_nil, ↓dopsR_nil, ↓vdn, vup, extr_20, extr_21, extr_30, extr_31, extr_32, List.map_cons, List.map_nil, cond_true, cond_false, aop, aThen, aBlock, argEnv, ev, sput, sputO, binK, binI, unK, builtinK, pickK, Nat.reduceBEq, Nat.reduceAdd, Int.reduceBEq, Int.reduceBNe, Int.reduceLT, aPost, resK, tup, tyf, Int.natCast_zero]) rfl ?_
    intro j hj
    refine aw_hide fun Q4 hQ4 => ?_
    by_cases hjn : (j : Int) < m
    · have hj' : j < m := by omega
      have same : (i == j) = true ∨ p i j = false → tabH h (rowsN (rwM p) m i (j + 1)) = tabH h (rowsN (rwM p) m i j) := fun h1 => by
        rw [tabH, tabH, ← rowsN_set (j := j) (k := j + 1), rwM_no h1, rowsN_set]
      cases hij : (i == j) with
      | true =>
        simp (config := {maxSteps := 2000000}) only [s59, ↓aw_region, ↓aw_skip, ↓aw_seq, ↓aw_block, ↓aw_exit, ↓aw_ret, ↓sops_nil, ↓sops_go, ↓dops_nil, ↓dopsX_nil, ↓dopsR_nil, ↓vdn, vup, extr_20, extr_21, extr_30, extr_31, extr_32, List.map_cons, List.map_nil, cond_true, cond_false, aop, aThen, aBlock, argEnv, ev, sput, sputO, binK, binI, unK, builtinK, pickK, Nat.reduceBEq, Nat.reduceAdd, Int.reduceBEq, Int.reduceBNe, Int.reduceLT, aPost, resK, tup, tyf, l59_0, hjn, bneN, hij, Bool.not_true, add1 (show j < 9223372036854775807 by omega)]
        exact hQ4 _ _ _ ⟨j + 1, by omega, by omega, by simp (config := {maxSteps := 2000000}) only [↓aw_region, ↓aw_skip, ↓aw_seq, ↓aw_block, ↓aw_exit, ↓aw_ret, ↓sops_nil, ↓sops_go, ↓dops_nil, ↓dopsX_nil, ↓dopsR_nil, ↓vdn, vup, extr_20, extr_21, extr_30, extr_31, extr_32, List.map_cons, List.map_nil, cond_true, cond_false, aop, aThen, aBlock, argEnv, ev, sput, sputO, binK, binI, unK, builtinK, pickK, Nat.reduceBEq, Nat.reduceAdd, Int.reduceBEq, Int.reduceBNe, Int.reduceLT, aPost, resK, tup, tyf], (same (.inl hij)).symm⟩
      | false =>
        simp (config := {maxSteps := 2000000}) only [s59, ↓aw_region, ↓aw_skip, ↓aw_seq, ↓aw_block, ↓aw_exit, ↓aw_ret, ↓sops_nil, ↓sops_go, ↓dops_nil, ↓dopsX_nil, ↓dopsR_nil, ↓vdn, vup, extr_20, extr_21, extr_30, extr_31, extr_32, List.map_cons, List.map_nil, cond_true, cond_false, aop, aThen, aBlock, argEnv, ev, sput, sputO, binK, binI, unK, builtinK, pickK, Nat.reduceBEq, Nat.reduceAdd, Int.reduceBEq, Int.reduceBNe, Int.reduceLT, aPost, resK, tup, tyf, l59_0, hjn, bneN, hij, Bool.not_false]
        refine hf (hE i j) i j hi' hj' ?_
        cases hp : p i j with
        | true =>
          have p1 := rwM_lt p i j
          have p2 : 2 ^ (j + 1) ≤ 2 ^ 6 := Nat.pow_le_pow_right (by decide) (by omega)
          have p3 : 2 ^ (j + 1) = 2 ^ j * 2 := Nat.pow_succ ..
          have hor : bitsV .or .i64 ((rwM p i j : Nat) : Int) ((2 ^ j : Nat) : Int) = ((rwM p i (j + 1) : Nat) : Int) := by
            rw [bitsV_or (by omega) (by omega), rwM_yes hij hp]
          simp (config := {maxSteps := 2000000}) only [s59, ↓aw_region, ↓aw_skip, ↓aw_seq, ↓aw_block, ↓aw_exit, ↓aw_ret, ↓sops_nil, ↓sops_go, ↓dops_nil, ↓dopsX_nil, ↓dopsR_nil, ↓vdn, vup, extr_20, extr_21, extr_30, extr_31, extr_32, List.map_cons, List.map_nil, cond_true, cond_false, aop, aThen, aBlock, argEnv, ev, sput, sputO, binK, binI, unK, builtinK, pickK, Nat.reduceBEq, Nat.reduceAdd, Int.reduceBEq, Int.reduceBNe, Int.reduceLT, aPost, resK, tup, tyf]
          refine aw_drawX [] (by kernel_rfl) (by kernel_rfl) (by kernel_rfl) (by kernel_rfl) ?_
          simp (config := {maxSteps := 2000000}) only [s59, ↓aw_region, ↓aw_skip, ↓aw_seq, ↓aw_block, ↓aw_exit, ↓aw_ret, ↓sops_nil, ↓sops_go, ↓dops_nil, ↓dopsX_nil, ↓dopsR_nil, ↓vdn, vup, extr_20, extr_21, extr_30, extr_31, extr_32, List.map_cons, List.map_nil, cond_true, cond_false, aop, aThen, aBlock, argEnv, ev, sput, sputO, binK, binI, unK, builtinK, pickK, Nat.reduceBEq, Nat.reduceAdd, Int.reduceBEq, Int.reduceBNe, Int.reduceLT, aPost, resK, tup, tyf, tH_idx el_56 hi', tH_load hi', hnn, shlI1 (show j ≤ 62 by omega), hor, tH_store hi', add1 (show j < 9223372036854775807 by omega)]
          exact hQ4 _ _ _ ⟨j + 1, by omega, by omega, by simp (config := {maxSteps := 2000000}) only [↓aw_region, ↓aw_skip, ↓aw_seq, ↓aw_block, ↓aw_exit, ↓aw_ret, ↓sops_nil, ↓sops_go, ↓dops_nil, ↓dopsX_nil, ↓dopsR_nil, ↓vdn, vup, extr_20, extr_21, extr_30, extr_31, extr_32, List.map_cons, List.map_nil, cond_true, cond_false, aop, aThen, aBlock, argEnv, ev, sput, sputO, binK, binI, unK, builtinK, pickK, Nat.reduceBEq, Nat.reduceAdd, Int.reduceBEq, Int.reduceBNe, Int.reduceLT, aPost, resK, tup, tyf], rfl⟩
        | false =>
          simp (config := {maxSteps := 2000000}) only [s59, ↓aw_region, ↓aw_skip, ↓aw_seq, ↓aw_block, ↓aw_exit, ↓aw_ret, ↓sops_nil, ↓sops_go, ↓dops_nil, ↓dopsX_nil, ↓dopsR_nil, ↓vdn, vup, extr_20, extr_21, extr_30, extr_31, extr_32, List.map_cons, List.map_nil, cond_true, cond_false, aop, aThen, aBlock, argEnv, ev, sput, sputO, binK, binI, unK, builtinK, pickK, Nat.reduceBEq, Nat.reduceAdd, Int.reduceBEq, Int.reduceBNe, Int.reduceLT, aPost, resK, tup, tyf, add1 (show j < 9223372036854775807 by omega)]
          exact hQ4 _ _ _ ⟨j + 1, by omega, by omega, by simp (config := {maxSteps := 2000000}) only [↓aw_region, ↓aw_skip, ↓aw_seq, ↓aw_block, ↓aw_exit, ↓aw_ret, ↓sops_nil, ↓sops_go, ↓dops_nil, ↓dopsX_nil, ↓dopsR_nil, ↓vdn, vup, extr_20, extr_21, extr_30, extr_31, extr_32, List.map_cons, List.map_nil, cond_true, cond_false, aop, aThen, aBlock, argEnv, ev, sput, sputO, binK, binI, unK, builtinK, pickK, Nat.reduceBEq, Nat.reduceAdd, Int.reduceBEq, Int.reduceBNe, Int.reduceLT, aPost, resK, tup, tyf], (same (.inr hp)).symm⟩
    · obtain rfl : m = j := by omega
      simp (config := {maxSteps := 2000000}) only [s59, ↓aw_region, ↓aw_skip, ↓aw_seq, ↓aw_block, ↓aw_exit, ↓aw_ret, ↓sops_nil, ↓sops_go, ↓dops_nil, ↓dopsX_nil, ↓dopsR_nil, ↓vdn, vup, extr_20, extr_21, extr_30, extr_31, extr_32, List.map_cons, List.map_nil, cond_true, cond_false, aop, aThen, aBlock, argEnv, ev, sput, sputO, binK, binI, unK, builtinK, pickK, Nat.reduceBEq, Nat.reduceAdd, Int.reduceBEq, Int.reduceBNe, Int.reduceLT, aPost, resK, tup, tyf, l59_0, Int.lt_irrefl]
      refine hQ4 _ _ _ (hQ3 _ _ _ ?_)
      simp (config := {maxSteps := 2000000}) only [s59, ↓aw_region, ↓aw_skip, ↓aw_seq, ↓aw_block, ↓aw_exit, ↓aw_ret, ↓sops_nil, ↓sops_go, ↓dops_nil, ↓dopsX_nil, ↓dopsR_nil, ↓vdn, vup, extr_20, extr_21, extr_30, extr_31, extr_32, List.map_cons, List.map_nil, cond_true, cond_false, aop, aThen, aBlock, argEnv, ev, sput, sputO, binK, binI, unK, builtinK, pickK, Nat.reduceBEq, Nat.reduceAdd, Int.reduceBEq, Int.reduceBNe, Int.reduceLT, aPost, resK, tup, tyf, if_true]
      refine hK [(0, vint m), (1, fv), (4, .slice none 0 0), (5, tv h.length m), (10, vint m), (11, vint i)] _ _ ?_ (by simp (config := {maxSteps := 2000000}) only [↓aw_region, ↓aw_skip, ↓aw_seq, ↓aw_block, ↓aw_exit, ↓aw_ret, ↓sops_nil, ↓sops_go, ↓dops_nil, ↓dopsX_nil, ↓dopsR_nil, ↓vdn, vup, extr_20, extr_21, extr_30, extr_31, extr_32, List.map_cons, List.map_nil, cond_true, cond_false, aop, aThen, aBlock, argEnv, ev, sput, sputO, binK, binI, unK, builtinK, pickK, Nat.reduceBEq, Nat.reduceAdd, Int.reduceBEq, Int.reduceBNe, Int.reduceLT, aPost, resK, tup, tyf])
      clear hK
      try clear K
      refine aw_aws ?_
      simp (config := {maxSteps := 2000000}) only [s59, ↓aw_region, ↓aw_skip, ↓aw_seq, ↓aw_block, ↓aw_exit, ↓aw_ret, ↓sops_nil, ↓sops_go, ↓dops_nil, ↓dopsX_nil, ↓dopsR_nil, ↓vdn, vup, extr_20, extr_21, extr_30, extr_31, extr_32, List.map_cons, List.map_nil, cond_true, cond_false, aop, aThen, aBlock, argEnv, ev, sput, sputO, binK, binI, unK, builtinK, pickK, Nat.reduceBEq, Nat.reduceAdd, Int.reduceBEq, Int.reduceBNe, Int.reduceLT, aPost, resK, tup, tyf, add1 (show i < 9223372036854775807 by omega)]
      refine hQ2 _ _ _ ⟨i + 1, by omega, by omega, by simp (config := {maxSteps := 2000000}) only [↓aw_region, ↓aw_skip, ↓aw_seq, ↓aw_block, ↓aw_exit, ↓aw_ret, ↓sops_nil, ↓sops_go, ↓dops_nil, ↓dopsX_nil, ↓dopsR_nil, ↓vdn, vup, extr_20, extr_21, extr_30, extr_31, extr_32, List.map_cons, List.map_nil, cond_true, cond_false, aop, aThen, aBlock, argEnv, ev, sput, sputO, binK, binI, unK, builtinK, pickK, Nat.reduceBEq, Nat.reduceAdd, Int.reduceBEq, Int.reduceBNe, Int.reduceLT, aPost, resK, tup, tyf], ?_⟩
      simp only [tabH]
      rw [rowsN_next fun _ => rfl]
  · obtain rfl : m = i := by omega
    refine aws_cut fun K hK => ?_
    simp (config := {maxSteps := 2000000}) only [s59, ↓aw_region, ↓aw_skip, ↓aw_seq, ↓aw_block, ↓aw_exit, ↓aw_ret, ↓sops_nil, ↓sops_go, ↓dops_nil, ↓dopsX_nil, ↓dopsR_nil, ↓vdn, vup, extr_20, extr_21, extr_30, extr_31, extr_32, List.map_cons, List.map_nil, cond_true, cond_false, aop, aThen, aBlock, argEnv, ev, sput, sputO, binK, binI, unK, builtinK, pickK, Nat.reduceBEq, Nat.reduceAdd, Int.reduceBEq, Int.reduceBNe, Int.reduceLT, aPost, resK, tup, tyf, Int.lt_irrefl]
    refine hK [(0, vint m), (1, fv), (4, .slice none 0 0), (5, tv h.length m), (10, vint m), (11, vint m), (12, .bool false)] _ _ ?_ (by simp (config := {maxSteps := 2000000}) only [↓aw_region, ↓aw_skip, ↓aw_seq, ↓aw_block, ↓aw_exit, ↓aw_ret, ↓sops_nil, ↓sops_go, ↓dops_nil, ↓dopsX_nil, ↓dopsR_nil, ↓vdn, vup, extr_20, extr_21, extr_30, extr_31, extr_32, List.map_cons, List.map_nil, cond_true, cond_false, aop, aThen, aBlock, argEnv, ev, sput, sputO, binK, binI, unK, builtinK, pickK, Nat.reduceBEq, Nat.reduceAdd, Int.reduceBEq, Int.reduceBNe, Int.reduceLT, aPost, resK, tup, tyf])
    clear hK
    try clear K
    refine aw_aws ?_
    simp (config := {maxSteps := 2000000}) only [s59, ↓aw_region, ↓aw_skip, ↓aw_seq, ↓aw_block, ↓aw_exit, ↓aw_ret, ↓sops_nil, ↓sops_go, ↓dops_nil, ↓dopsX_nil, ↓dopsR_nil, ↓vdn, vup, extr_20, extr_21, extr_30, extr_31, extr_32, List.map_cons, List.map_nil, cond_true, cond_false, aop, aThen, aBlock, argEnv, ev, sput, sputO, binK, binI, unK, builtinK, pickK, Nat.reduceBEq, Nat.reduceAdd, Int.reduceBEq, Int.reduceBNe, Int.reduceLT, aPost, resK, tup, tyf]
    refine hQ2 _ _ _ (hQ _ _ _ ?_)
    simp (config := {maxSteps := 2000000}) only [s59, ↓aw_region, ↓aw_skip, ↓aw_seq, ↓aw_block, ↓aw_exit, ↓aw_ret, ↓sops_nil, ↓sops_go, ↓dops_nil, ↓dopsX_nil, ↓dopsR_nil, ↓vdn, vup, extr_20, extr_21, extr_30, extr_31, extr_32, List.map_cons, List.map_nil, cond_true, cond_false, aop, aThen, aBlock, argEnv, ev, sput, sputO, binK, binI, unK, builtinK, pickK, Nat.reduceBEq, Nat.reduceAdd, Int.reduceBEq, Int.reduceBNe, Int.reduceLT, aPost, resK, tup, tyf, if_true]
    refine hZ [(0, vint m), (1, fv), (4, .slice none 0 0), (5, tv h.length m)] _ _ ?_ (by simp (config := {maxSteps := 2000000}) only [↓aw_region, ↓aw_skip, ↓aw_seq, ↓aw_block, ↓aw_exit, ↓aw_ret, ↓sops_nil, ↓sops_go, ↓dops_nil, ↓dopsX_nil, ↓dopsR_nil, ↓vdn, vup, extr_20, extr_21, extr_30, extr_31, extr_32, List.map_cons, List.map_nil, cond_true, cond_false, aop, aThen, aBlock, argEnv, ev, sput, sputO, binK, binI, unK, builtinK, pickK, Nat.reduceBEq, Nat.reduceAdd, Int.reduceBEq, Int.reduceBNe, Int.reduceLT, aPost, resK, tup, tyf])
    clear hZ
    try clear Z
    refine aw_aws ?_
    simp (config := {maxSteps := 2000000}) only [s59, ↓aw_region, ↓aw_skip, ↓aw_seq, ↓aw_block, ↓aw_exit, ↓aw_ret, ↓sops_nil, ↓sops_go, ↓dops_nil, ↓dopsX_nil, ↓dopsR_nil, ↓vdn, vup, extr_20, extr_21, extr_30, extr_31, extr_32, List.map_cons, List.map_nil, cond_true, cond_false, aop, aThen, aBlock, argEnv, ev, sput, sputO, binK, binI, unK, builtinK, pickK, Nat.reduceBEq, Nat.reduceAdd, Int.reduceBEq, Int.reduceBNe, Int.reduceLT, aPost, resK, tup, tyf]
    have h1 := intSl_blk (get_new h (.ints (iL (rowsN (rwM p) m m 0)) 3 false))
    rw [iL_len, rowsN_len, rowsN_all] at h1
    refine ⟨?_, Ext.app _ _ _⟩
    rw [tabH, rowsN_all]
    exact h1

/-! ### Pairs of signals -/
def nq (xs : List Int) (i j : Nat) : Bool := i == j || gb xs i j
/-- Two pairs are confused. -/
def jp (xs ys : List Int) (i j : Nat) : Bool := nq xs (i / ys.length) (j / ys.length) && nq ys (i % ys.length) (j % ys.length)
def joinL (xs ys : List Int) : List Int := iL (mat (jp xs ys) (xs.length * ys.length))
theorem intSl_one {h : Heap} {v : Value} {xs : List Int} (hv : IntSl h v xs) : one v = true := by
  rcases hv with ⟨rfl, _⟩ | ⟨b, o, sp, cap, c, e, ro, rfl, _⟩ <;> rfl

theorem s58_callW [Tabs Tryd.prog] {args : List Value} {h : Heap} {Q : Value → Heap → Prop} (hsz : args.length ≤ 20) (hk : AWS Tryd.prog 20 s58 (aPost Tryd.prog [.tmp 6] Q) (argEnv 0 args) h) : ACall Tryd.prog 58 args h Q :=
  acall_w Tryd.func58 rfl (enters_of Tryd.func58 (by kernel_rfl) rfl) rfl rfl (by decide) s58_strip s58_ok hsz hk
theorem same_call [Tabs prog] {h : Heap} {v : Value} {xs : List Int} (hv : IntSl h v xs) (g : Gs xs) {i j : Nat} (hi : i < xs.length) : APure prog 58 [v, vint i, vint j] h (.bool (nq xs i j)) := by
  have hnn : ∀ i : Nat, (0 : Int) ≤ (i : Int) := Int.natCast_nonneg
  have hr := gs_lt g hi
  have tt : bitsV .and .i64 (shrV .i64 (xs.getD i 0) j) 1 = if gb xs i j then 1 else 0 := testI hr.1 (by omega) j
  refine s58_callW (by simp) ?_
  refine aw_aws ?_
  cases hij : (i == j) with
  | true =>
    have e : nq xs i j = true := by rw [nq, hij]; rfl
    simp (config := {maxSteps := 2000000}) only [s58, ↓aw_region, ↓aw_skip, ↓aw_seq, ↓aw_block, ↓aw_exit, ↓aw_ret, ↓sops_nil, ↓sops_go, ↓dops_nil, ↓dopsX_nil, ↓dopsR_nil, ↓vdn, vup, extr_20, extr_21, extr_30, extr_31, extr_32, List.map_cons, List.map_nil, cond_true, cond_false, aop, aThen, aBlock, argEnv, ev, sput, sputO, binK, binI, unK, builtinK, pickK, Nat.reduceBEq, Nat.reduceAdd, Int.reduceBEq, Int.reduceBNe, Int.reduceLT, aPost, resK, tup, tyf, beqN, hij, e]
  | false =>
    have e : nq xs i j = gb xs i j := by rw [nq, hij]; rfl
    simp (config := {maxSteps := 2000000}) only [s58, ↓aw_region, ↓aw_skip, ↓aw_seq, ↓aw_block, ↓aw_exit, ↓aw_ret, ↓sops_nil, ↓sops_go, ↓dops_nil, ↓dopsX_nil, ↓dopsR_nil, ↓vdn, vup, extr_20, extr_21, extr_30, extr_31, extr_32, List.map_cons, List.map_nil, cond_true, cond_false, aop, aThen, aBlock, argEnv, ev, sput, sputO, binK, binI, unK, builtinK, pickK, Nat.reduceBEq, Nat.reduceAdd, Int.reduceBEq, Int.reduceBNe, Int.reduceLT, aPost, resK, tup, tyf, beqN, hij, hv.idx el_56 esz_3 hi, hv.load shp_3 hi, hnn, tt, beq1, e]

theorem s60_callW [Tabs Tryd.prog] {args : List Value} {h : Heap} {Q : Value → Heap → Prop} (hsz : args.length ≤ 29) (hk : AWS Tryd.prog 29 s60 (aPost Tryd.prog [.tmp 8] Q) (argEnv 0 args) h) : ACall Tryd.prog 60 args h Q :=
  acall_w Tryd.func60 rfl (enters_of Tryd.func60 (by kernel_rfl) rfl) rfl rfl (by decide) s60_strip s60_ok hsz hk
theorem join2_call [Tabs prog] {h : Heap} {v w : Value} {xs ys : List Int} (hv : IntSl h v xs) (hw : IntSl h w ys) (gx : Gs xs) (gy : Gs ys) {b9 b6 b8 b7 : Nat} (h9 : h[b9]? = some (.cells [.func (.func 58) #[] #[]] 68 false)) (h6 : h[b6]? = some (.cells [v] 56 false))
    (h8 : h[b8]? = some (.cells [vint ys.length] 3 false)) (h7 : h[b7]? = some (.cells [w] 56 false)) {i j : Nat} (hi : i < xs.length * ys.length) (hj : j < xs.length * ys.length) :
    APure prog 60 [vint i, vint j, pt b9, pt b6, pt b8, pt b7] h (.bool (jp xs ys i j)) := by
  have hn0 : ¬ ((ys.length : Nat) : Int) = 0 := by have := gy.1; omega
  have hix : i / ys.length < xs.length := Nat.div_lt_of_lt_mul (by rw [Nat.mul_comm]; exact hi)
  have hiy : i % ys.length < ys.length := Nat.mod_lt _ gy.1
  have hb : xs.length * ys.length ≤ 6 * 6 := Nat.mul_le_mul gx.2.1 gy.2.1
  have hq1 := same_call (h := h) (j := j / ys.length) hv gx hix
  have hq2 := same_call (h := h) (j := j % ys.length) hw gy hiy
  refine s60_callW (by simp) ?_
  simp only [s60]
  refine aws_cut fun N6 hN6 => ?_
  simp (config := {maxSteps := 2000000}) only [s60, ↓aw_region, ↓aw_skip, ↓aw_seq, ↓aw_block, ↓aw_exit, ↓aw_ret, ↓sops_nil, ↓sops_go, ↓dops_nil, ↓dopsX_nil, ↓dopsR_nil, ↓vdn, vup, extr_20, extr_21, extr_30, extr_31, extr_32, List.map_cons, List.map_nil, cond_true, cond_false, aop, aThen, aBlock, argEnv, ev, sput, sputO, binK, binI, unK, builtinK, pickK, Nat.reduceBEq, Nat.reduceAdd, Int.reduceBEq, Int.reduceBNe, Int.reduceLT, aPost, resK, tup, tyf]
  refine hN6 [(0, vint i), (1, vint j), (2, pt b9), (3, pt b6), (4, pt b8), (5, pt b7), (8, .bool false)] _ _ ?_ (by simp (config := {maxSteps := 2000000}) only [↓aw_region, ↓aw_skip, ↓aw_seq, ↓aw_block, ↓aw_exit, ↓aw_ret, ↓sops_nil, ↓sops_go, ↓dops_nil, ↓dopsX_nil, ↓dopsR_nil, ↓vdn, vup, extr_20, extr_21, extr_30, extr_31, extr_32, List.map_cons, List.map_nil, cond_true, cond_false, aop, aThen, aBlock, argEnv, ev, sput, sputO, binK, binI, unK, builtinK, pickK, Nat.reduceBEq, Nat.reduceAdd, Int.reduceBEq, Int.reduceBNe, Int.reduceLT, aPost, resK, tup, tyf])
  clear hN6
  try clear N6
  refine aw_aws ?_
  simp (config := {maxSteps := 2000000}) only [s60, ↓aw_region, ↓aw_skip, ↓aw_seq, ↓aw_block, ↓aw_exit, ↓aw_ret, ↓sops_nil, ↓sops_go, ↓dops_nil, ↓dopsX_nil, ↓dopsR_nil, ↓vdn, vup, extr_20, extr_21, extr_30, extr_31, extr_32, List.map_cons, List.map_nil, cond_true, cond_false, aop, aThen, aBlock, argEnv, ev, sput, sputO, binK, binI, unK, builtinK, pickK, Nat.reduceBEq, Nat.reduceAdd, Int.reduceBEq, Int.reduceBNe, Int.reduceLT, aPost, resK, tup, tyf]
  refine aw_drawX [(8, 1), (18, 1)] (by kernel_rfl) (by kernel_rfl) (by kernel_rfl) (by kernel_rfl) ?_
  simp (config := {maxSteps := 2000000}) only [s60, ↓aw_region, ↓aw_skip, ↓aw_seq, ↓aw_block, ↓aw_exit, ↓aw_ret, ↓sops_nil, ↓sops_go, ↓dops_nil, ↓dopsX_nil, ↓dopsR_nil, ↓vdn, vup, extr_20, extr_21, extr_30, extr_31, extr_32, List.map_cons, List.map_nil, cond_true, cond_false, aop, aThen, aBlock, argEnv, ev, sput, sputO, binK, binI, unK, builtinK, pickK, Nat.reduceBEq, Nat.reduceAdd, Int.reduceBEq, Int.reduceBNe, Int.reduceLT, aPost, resK, tup, tyf, load1 h9 shp_68, load1 h6 shp_56, load1 h8 shp_3, ne_eq, hn0, not_false_eq_true, quoN (show i < 9223372036854775808 by omega), quoN (show j < 9223372036854775808 by omega), callK, List.nil_append, List.append_nil, List.toList_toArray, List.cons_append]
  refine ⟨_, _, hq1, rfl, ?_⟩
  cases hx : nq xs (i / ys.length) (j / ys.length) with
  | false =>
    have e : jp xs ys i j = false := by rw [jp, hx]; rfl
    simp (config := {maxSteps := 2000000}) only [s60, ↓aw_region, ↓aw_skip, ↓aw_seq, ↓aw_block, ↓aw_exit, ↓aw_ret, ↓sops_nil, ↓sops_go, ↓dops_nil, ↓dopsX_nil, ↓dopsR_nil, ↓vdn, vup, extr_20, extr_21, extr_30, extr_31, extr_32, List.map_cons, List.map_nil, cond_true, cond_false, aop, aThen, aBlock, argEnv, ev, sput, sputO, binK, binI, unK, builtinK, pickK, Nat.reduceBEq, Nat.reduceAdd, Int.reduceBEq, Int.reduceBNe, Int.reduceLT, aPost, resK, tup, tyf, e]
  | true =>
    have e : jp xs ys i j = nq ys (i % ys.length) (j % ys.length) := by rw [jp, hx]; rfl
    simp (config := {maxSteps := 2000000}) only [s60, ↓aw_region, ↓aw_skip, ↓aw_seq, ↓aw_block, ↓aw_exit, ↓aw_ret, ↓sops_nil, ↓sops_go, ↓dops_nil, ↓dopsX_nil, ↓dopsR_nil, ↓vdn, vup, extr_20, extr_21, extr_30, extr_31, extr_32, List.map_cons, List.map_nil, cond_true, cond_false, aop, aThen, aBlock, argEnv, ev, sput, sputO, binK, binI, unK, builtinK, pickK, Nat.reduceBEq, Nat.reduceAdd, Int.reduceBEq, Int.reduceBNe, Int.reduceLT, aPost, resK, tup, tyf, load1 h9 shp_68, load1 h7 shp_56, load1 h8 shp_3, ne_eq, hn0, not_false_eq_true, tmodN, callK, List.nil_append, List.append_nil, List.toList_toArray, List.cons_append]
    refine ⟨_, _, hq2, rfl, ?_⟩
    simp (config := {maxSteps := 2000000}) only [s60, ↓aw_region, ↓aw_skip, ↓aw_seq, ↓aw_block, ↓aw_exit, ↓aw_ret, ↓sops_nil, ↓sops_go, ↓dops_nil, ↓dopsX_nil, ↓dopsR_nil, ↓vdn, vup, extr_20, extr_21, extr_30, extr_31, extr_32, List.map_cons, List.map_nil, cond_true, cond_false, aop, aThen, aBlock, argEnv, ev, sput, sputO, binK, binI, unK, builtinK, pickK, Nat.reduceBEq, Nat.reduceAdd, Int.reduceBEq, Int.reduceBNe, Int.reduceLT, aPost, resK, tup, tyf, e]
end Go.Proofs.Tryd.Am
