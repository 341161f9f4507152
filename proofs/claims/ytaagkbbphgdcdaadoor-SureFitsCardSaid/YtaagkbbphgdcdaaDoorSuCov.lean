/-
  sure: how many sets of neighbours are needed: the program's and the reference's table.
-/
import Derived.Test.YtaagkbbphgdcdaaDoorSuClq
set_option linter.all false
namespace Go.Proofs.Tryd.Am
open Go.Am Sr
set_option maxRecDepth 100000
set_option maxHeartbeats 1000000

def mn (a b : Nat) : Nat := if b < a then b else a
/-- One set c tried for s. -/
def cvS (s : Nat) (L : List Nat) (c : Nat) : List Nat := if c &&& s = 0 then L else L.set s (mn (L.getD s 0) (1 + L.getD (less s c) 0))
def cvJ (C : List Nat) (n s : Nat) (L : List Nat) (j : Nat) : List Nat := (C.take j).foldl (cvS s) (L.set s n)
def cvAt (C : List Nat) (n M : Nat) : Nat → List Nat
  | 0 => List.replicate M 0
  | k + 1 => cvJ C n (k + 1) (cvAt C n M k) C.length
/-- How many sets of neighbours have all signals. -/
def cov (xs : List Int) : Nat := (cvAt (clq xs) xs.length (2 ^ xs.length) (2 ^ xs.length - 1)).getD (2 ^ xs.length - 1) 0
theorem getD_setN {L : List Nat} {s x i : Nat} (hs : s < L.length) : (L.set s x).getD i 0 = if i = s then x else L.getD i 0 := by
  rw [List.getD, List.getElem?_set]
  by_cases h : s = i
  · subst h; simp [hs]
  · rw [if_neg h, if_neg (Ne.symm h)]; rfl
structure CvB (M n : Nat) (L : List Nat) : Prop where
  len : L.length = M
  le : ∀ i, L.getD i 0 ≤ n
theorem CvB.set {M n s x : Nat} {L : List Nat} (b : CvB M n L) (hs : s < M) (hx : x ≤ n) : CvB M n (L.set s x) :=
  ⟨by rw [List.length_set]; exact b.len, fun i => by rw [getD_setN (by rw [b.len]; exact hs)]; split; exact hx; exact b.le i⟩
theorem CvB.step {M n s : Nat} {L : List Nat} (b : CvB M n L) (hs : s < M) (c : Nat) : CvB M n (cvS s L c) := by
  unfold cvS
  split
  · exact b
  · refine b.set hs ?_
    have := b.le s
    unfold mn; split <;> omega
theorem cvJ_zero (C : List Nat) (n s : Nat) (L : List Nat) : cvJ C n s L 0 = L.set s n := by rw [cvJ, List.take_zero]; rfl
theorem cvJ_succ {C : List Nat} (n s : Nat) (L : List Nat) {j : Nat} (hj : j < C.length) : cvJ C n s L (j + 1) = cvS s (cvJ C n s L j) (C.getD j 0) := by
  rw [cvJ, List.take_succ_eq_append_getElem hj, List.foldl_append, cvJ, List.getD, List.getElem?_eq_getElem hj]; rfl
theorem CvB.run {C : List Nat} {M n s : Nat} {L : List Nat} (b : CvB M n L) (hs : s < M) : ∀ j, j ≤ C.length → CvB M n (cvJ C n s L j)
  | 0, _ => by rw [cvJ_zero]; exact b.set hs (Nat.le_refl _)
  | j + 1, h => by rw [cvJ_succ n s L (by omega)]; exact (b.run hs j (by omega)).step hs _
theorem cvB_at (C : List Nat) (n M : Nat) : ∀ k, k < M → CvB M n (cvAt C n M k)
  | 0, _ => ⟨by simp [cvAt], fun i => by
    rw [cvAt, List.getD]
    by_cases h : i < M
    · simp [h]
    · simp [Nat.le_of_not_lt h]⟩
  | k + 1, h => (cvB_at C n M k (by omega)).run h _ (Nat.le_refl _)
abbrev iL (L : List Nat) : List Int := L.map Int.ofNat
theorem iL_len (L : List Nat) : (iL L).length = L.length := by simp
theorem iL_get (L : List Nat) (i : Nat) : (iL L).getD i 0 = ((L.getD i 0 : Nat) : Int) := by
  rw [List.getD, List.getElem?_map, List.getD]; cases L[i]? <;> rfl
theorem iL_set (L : List Nat) (i x : Nat) : (iL L).set i ((x : Nat) : Int) = iL (L.set i x) := by simp only [iL, List.map_set]; rfl
theorem clq_lt {xs : List Int} {j : Nat} (hj : j < (clq xs).length) : (clq xs).getD j 0 < 2 ^ xs.length := by
  have hm : (clq xs).getD j 0 ∈ clq xs := by rw [List.getD, List.getElem?_eq_getElem hj]; exact List.getElem_mem hj
  rw [clq, clqTo, List.mem_filter, List.mem_range] at hm
  exact hm.1
theorem less_le' (a b : Nat) : less a b ≤ a := Sr.less_le a b
theorem bneZ {a : Nat} : (((a : Nat) : Int) != 0) = !(a == 0) := bneN (b := 0)
theorem mnI (a b : Nat) : (if ((b : Nat) : Int) < ((a : Nat) : Int) then ((b : Nat) : Int) else ((a : Nat) : Int)) = ((mn a b : Nat) : Int) := by
  unfold mn
  by_cases h : b < a
  · rw [if_pos h, if_pos (by omega)]
  · rw [if_neg h, if_neg (by omega)]

/-- The table lies in a block of its own. -/
abbrev tv (b M : Nat) : Value := .slice (some ⟨b, 0, none⟩) M M
section tab
variable {hp : Heap} {b M : Nat} {L : List Nat}
theorem tab_idx (hb : hp[b]? = some (.ints (iL L) 3 false)) (hL : L.length = M) {i : Nat} (hi : i < M) {K : Value → Prop} : idxAddrK prog 22 (tv b M) (vint i) K = K (.pointer (some ⟨b, i, none⟩)) := by
  have h1 := intSl_blk hb
  rw [iL_len, hL] at h1
  rw [h1.idx el_22 esz_3 (by rw [iL_len, hL]; exact hi), elemP_new]
theorem tab_load (hb : hp[b]? = some (.ints (iL L) 3 false)) (hL : L.length = M) {i : Nat} (hi : i < M) {K : Value → Prop} : loadK prog hp 3 (.pointer (some ⟨b, i, none⟩)) K = K (vint (L.getD i 0 : Nat)) := by
  have h1 := intSl_blk hb
  rw [iL_len, hL] at h1
  have := h1.load shp_3 (i := i) (by rw [iL_len, hL]; exact hi) K
  rw [elemP_new, iL_get] at this
  exact this
theorem tab_store (hb : hp[b]? = some (.ints (iL L) 3 false)) (hL : L.length = M) {i x : Nat} (hi : i < M) {K : Heap → Prop} : storeK prog hp 3 (.pointer (some ⟨b, i, none⟩)) (vint (x : Nat)) K = K (hp.set b (.ints (iL (L.set i x)) 3 false)) := by
  rw [storeBI hb shp_3 (by rw [iL_len, hL]; exact hi), iL_set]
end tab

theorem s28_callW [Tabs Tryd.prog] {args : List Value} {h : Heap} {Q : Value → Heap → Prop} (hsz : args.length ≤ 60) (hk : AWS Tryd.prog 60 s28 (aPost Tryd.prog [.tmp 2, .tmp 3] Q) (argEnv 0 args) h) : ACall Tryd.prog 28 args h Q :=
  acall_w Tryd.func28 rfl (enters_of Tryd.func28 (by kernel_rfl) rfl) rfl rfl (by decide) s28_strip s28_ok hsz hk
theorem cover_call [Tabs prog] {h : Heap} {v : Value} {xs : List Int} (hv : IntSl h v xs) (hl : xs.length < 9223372036854775808) (hx : ∀ x ∈ xs, -9223372036854775808 ≤ x ∧ x < 9223372036854775808) :
    ACall prog 28 [v] h fun r h' => Ext (fun _ => False) h h' ∧ r = if grs xs = true then .tuple #[vint (cov xs : Nat), .int .i64 0] else .tuple #[.int .i64 0, .int .i64 2] := by
  refine s28_callW (by simp) ?_
  simp only [s28]
  refine aws_cut fun N1 hN1 => ?_
  simp (config := {maxSteps := 2000000}) only [s28, ↓aw_region, ↓aw_skip, ↓aw_seq, ↓aw_block, ↓aw_exit, ↓aw_ret, ↓sops_nil, ↓sops_go, ↓dops_nil, ↓dopsX_nil, ↓dopsR_nil, ↓vdn, vup, extr_20, extr_21, extr_30, extr_31, extr_32, List.map_cons, List.map_nil, cond_true, cond_false, aop, aThen, aBlock, argEnv, ev, sput, sputO, binK, binI, unK, builtinK, pickK, Nat.reduceBEq, Nat.reduceAdd, Int.reduceBEq, Int.reduceBNe, Int.reduceLT, aPost, resK, tup, tyf]
  refine hN1 [(0, v), (2, .int .i64 0)] _ _ ?_ (by simp (config := {maxSteps := 2000000}) only [↓aw_region, ↓aw_skip, ↓aw_seq, ↓aw_block, ↓aw_exit, ↓aw_ret, ↓sops_nil, ↓sops_go, ↓dops_nil, ↓dopsX_nil, ↓dopsR_nil, ↓vdn, vup, extr_20, extr_21, extr_30, extr_31, extr_32, List.map_cons, List.map_nil, cond_true, cond_false, aop, aThen, aBlock, argEnv, ev, sput, sputO, binK, binI, unK, builtinK, pickK, Nat.reduceBEq, Nat.reduceAdd, Int.reduceBEq, Int.reduceBNe, Int.reduceLT, aPost, resK, tup, tyf])
  clear hN1
  try clear N1
  refine aws_cut fun N2 hN2 => ?_
  simp (config := {maxSteps := 2000000}) only [s28, ↓aw_region, ↓aw_skip, ↓aw_seq, ↓aw_block, ↓aw_exit, ↓aw_ret, ↓sops_nil, ↓sops_go, ↓dops_nil, ↓dopsX_nil, ↓dopsR_nil, ↓vdn, vup, extr_20, extr_21, extr_30, extr_31, extr_32, List.map_cons, List.map_nil, cond_true, cond_false, aop, aThen, aBlock, argEnv, ev, sput, sputO, binK, binI, unK, builtinK, pickK, Nat.reduceBEq, Nat.reduceAdd, Int.reduceBEq, Int.reduceBNe, Int.reduceLT, aPost, resK, tup, tyf]
  refine hN2 [(0, v), (2, .int .i64 0), (4, v)] _ _ ?_ (by simp (config := {maxSteps := 2000000}) only [↓aw_region, ↓aw_skip, ↓aw_seq, ↓aw_block, ↓aw_exit, ↓aw_ret, ↓sops_nil, ↓sops_go, ↓dops_nil, ↓dopsX_nil, ↓dopsR_nil, ↓vdn, vup, extr_20, extr_21, extr_30, extr_31, extr_32, List.map_cons, List.map_nil, cond_true, cond_false, aop, aThen, aBlock, argEnv, ev, sput, sputO, binK, binI, unK, builtinK, pickK, Nat.reduceBEq, Nat.reduceAdd, Int.reduceBEq, Int.reduceBNe, Int.reduceLT, aPost, resK, tup, tyf])
  clear hN2
  try clear N2
  refine aws_cut fun N3 hN3 => ?_
  simp (config := {maxSteps := 2000000}) only [s28, ↓aw_region, ↓aw_skip, ↓aw_seq, ↓aw_block, ↓aw_exit, ↓aw_ret, ↓sops_nil, ↓sops_go, ↓dops_nil, ↓dopsX_nil, ↓dopsR_nil, ↓vdn, vup, extr_20, extr_21, extr_30, extr_31, extr_32, List.map_cons, List.map_nil, cond_true, cond_false, aop, aThen, aBlock, argEnv, ev, sput, sputO, binK, binI, unK, builtinK, pickK, Nat.reduceBEq, Nat.reduceAdd, Int.reduceBEq, Int.reduceBNe, Int.reduceLT, aPost, resK, tup, tyf, callK, List.nil_append, List.append_nil, List.toList_toArray, List.cons_append]
  refine (valid_call hv hl hx).mono ?_
  rintro _ h ⟨rfl, rfl⟩
  cases hg : grs xs with
  | false =>
    simp (config := {maxSteps := 2000000}) only [s28, ↓aw_region, ↓aw_skip, ↓aw_seq, ↓aw_block, ↓aw_exit, ↓aw_ret, ↓sops_nil, ↓sops_go, ↓dops_nil, ↓dopsX_nil, ↓dopsR_nil, ↓vdn, vup, extr_20, extr_21, extr_30, extr_31, extr_32, List.map_cons, List.map_nil, cond_true, cond_false, aop, aThen, aBlock, argEnv, ev, sput, sputO, binK, binI, unK, builtinK, pickK, Nat.reduceBEq, Nat.reduceAdd, Int.reduceBEq, Int.reduceBNe, Int.reduceLT, aPost, resK, tup, tyf, Bool.not_false]
    exact ⟨Ext.refl _ _, by simp⟩
  | true =>
  have g := grs_iff.1 hg
  have h6 := g.2.1
  have h64 := pow6N h6
  have hp0 := Nat.two_pow_pos xs.length
  have hclt := fun j (hj : j < (clq xs).length) => clq_lt hj
  obtain ⟨M, hM⟩ : ∃ M, 2 ^ xs.length = M := ⟨_, rfl⟩
  have hcov : cov xs = (cvAt (clq xs) xs.length M (M - 1)).getD (M - 1) 0 := by rw [cov, hM]
  have hcl := clqTo_len xs (2 ^ xs.length)
  change (clq xs).length ≤ _ at hcl
  rw [hM] at h64 hp0 hcl
  simp only [hM] at hclt
  generalize hC : clq xs = C at hclt hcov hcl
  simp (config := {maxSteps := 2000000}) only [s28, ↓aw_region, ↓aw_skip, ↓aw_seq, ↓aw_block, ↓aw_exit, ↓aw_ret, ↓sops_nil, ↓sops_go, ↓dops_nil, ↓dopsX_nil, ↓dopsR_nil, ↓vdn, vup, extr_20, extr_21, extr_30, extr_31, extr_32, List.map_cons, List.map_nil, cond_true, cond_false, aop, aThen, aBlock, argEnv, ev, sput, sputO, binK, binI, unK, builtinK, pickK, Nat.reduceBEq, Nat.reduceAdd, Int.reduceBEq, Int.reduceBNe, Int.reduceLT, aPost, resK, tup, tyf, Bool.not_true]
  refine hN3 [(0, v), (2, .int .i64 0), (4, v)] _ _ ?_ (by simp (config := {maxSteps := 2000000}) only [↓aw_region, ↓aw_skip, ↓aw_seq, ↓aw_block, ↓aw_exit, ↓aw_ret, ↓sops_nil, ↓sops_go, ↓dops_nil, ↓dopsX_nil, ↓dopsR_nil, ↓vdn, vup, extr_20, extr_21, extr_30, extr_31, extr_32, List.map_cons, List.map_nil, cond_true, cond_false, aop, aThen, aBlock, argEnv, ev, sput, sputO, binK, binI, unK, builtinK, pickK, Nat.reduceBEq, Nat.reduceAdd, Int.reduceBEq, Int.reduceBNe, Int.reduceLT, aPost, resK, tup, tyf])
  clear hN3
  try clear N3
  have hmk : (((M - 1 + 1 : Nat) : Int)) = ((M : Nat) : Int) := by omega
  refine aws_cut fun N4 hN4 => ?_
  simp (config := {maxSteps := 2000000}) only [s28, ↓aw_region, ↓aw_skip, ↓aw_seq, ↓aw_block, ↓aw_exit, ↓aw_ret, ↓sops_nil, ↓sops_go, ↓dops_nil, ↓dopsX_nil, ↓dopsR_nil, ↓vdn, vup, extr_20, extr_21, extr_30, extr_31, extr_32, List.map_cons, List.map_nil, cond_true, cond_false, aop, aThen, aBlock, argEnv, ev, sput, sputO, binK, binI, unK, builtinK, pickK, Nat.reduceBEq, Nat.reduceAdd, Int.reduceBEq, Int.reduceBNe, Int.reduceLT, aPost, resK, tup, tyf, callK, List.nil_append, List.append_nil, List.toList_toArray, List.cons_append]
  refine (all_call hv h6 hM).mono ?_
  rintro _ h ⟨rfl, rfl⟩
  simp (config := {maxSteps := 2000000}) only [s28, ↓aw_region, ↓aw_skip, ↓aw_seq, ↓aw_block, ↓aw_exit, ↓aw_ret, ↓sops_nil, ↓sops_go, ↓dops_nil, ↓dopsX_nil, ↓dopsR_nil, ↓vdn, vup, extr_20, extr_21, extr_30, extr_31, extr_32, List.map_cons, List.map_nil, cond_true, cond_false, aop, aThen, aBlock, argEnv, ev, sput, sputO, binK, binI, unK, builtinK, pickK, Nat.reduceBEq, Nat.reduceAdd, Int.reduceBEq, Int.reduceBNe, Int.reduceLT, aPost, resK, tup, tyf, add1 (show M - 1 < 9223372036854775807 by omega), hmk, makeI el_22 zero_3 info_3 (Int.natCast_nonneg M) (show ((M : Nat) : Int) ≤ 35184372088832 by omega), Int.toNat_natCast]
  refine hN4 [(0, v), (2, .int .i64 0), (4, v), (5, tv h.length M)] _ _ ?_ (by simp (config := {maxSteps := 2000000}) only [↓aw_region, ↓aw_skip, ↓aw_seq, ↓aw_block, ↓aw_exit, ↓aw_ret, ↓sops_nil, ↓sops_go, ↓dops_nil, ↓dopsX_nil, ↓dopsR_nil, ↓vdn, vup, extr_20, extr_21, extr_30, extr_31, extr_32, List.map_cons, List.map_nil, cond_true, cond_false, aop, aThen, aBlock, argEnv, ev, sput, sputO, binK, binI, unK, builtinK, pickK, Nat.reduceBEq, Nat.reduceAdd, Int.reduceBEq, Int.reduceBNe, Int.reduceLT, aPost, resK, tup, tyf])
  clear hN4
  try clear N4
  refine aws_cut fun Z hZ => ?_
  simp (config := {maxSteps := 2000000}) only [s28, ↓aw_region, ↓aw_skip, ↓aw_seq, ↓aw_block, ↓aw_exit, ↓aw_ret, ↓sops_nil, ↓sops_go, ↓dops_nil, ↓dopsX_nil, ↓dopsR_nil, ↓vdn, vup, extr_20, extr_21, extr_30, extr_31, extr_32, List.map_cons, List.map_nil, cond_true, cond_false, aop, aThen, aBlock, argEnv, ev, sput, sputO, binK, binI, unK, builtinK, pickK, Nat.reduceBEq, Nat.reduceAdd, Int.reduceBEq, Int.reduceBNe, Int.reduceLT, aPost, resK, tup, tyf, ↓aw_loop_eq]
  refine aws_hide fun Q hQ => ?_
  have hr0 : List.replicate M (0 : Int) = iL (cvAt C xs.length M 0) := by simp [cvAt, iL]
  refine aw_loopW (γ := Nat × Heap) (fun s => s.1 < M ∧ Ext (fun _ => False) h s.2 ∧ s.2[h.length]? = some (.ints (iL (cvAt C xs.length M s.1)) 3 false))
    (fun s => ([(0, v), (2, .int .i64 0), (4, v), (5, tv h.length M), (6, vint (s.1 + 1 : Nat))], s.2)) (fun s => M - s.1) (0, _) ⟨hp0, Ext.app _ _ _, by rw [← hr0]; exact get_new _ _⟩ (by simp (config := {maxSteps := 2000000}) only [↓aw_region, ↓aw_skip, ↓aw_seq, ↓aw_block, ↓aw_exit, ↓aw_ret, ↓sops_nil, ↓sops_go, ↓dops_nil, ↓dopsX_nil, ↓dopsR_nil, ↓vdn, vup, extr_20, extr_21, extr_30, extr_31, extr_32, List.map_cons, List.map_nil, cond_true, cond_false, aop, aThen, aBlock, argEnv, ev, sput, sputO, binK, binI, unK, builtinK, pickK, Nat.reduceBEq, Nat.reduceAdd, Int.reduceBEq, Int.reduceBNe, Int.reduceLT, aPost, resK, tup, tyf, Nat.zero_add, Int.natCast_one]) rfl ?_
  rintro ⟨k, hp⟩ ⟨hk, hE, hb⟩
  simp only at hk hE hb
  refine aws_hide fun Q2 hQ2 => ?_
  simp only [l28_1]
  obtain ⟨t, htk⟩ : ∃ t, k + 1 = t := ⟨_, rfl⟩
  rw [htk]
  have hv1 := IntSl_ext hv hE
  have hB := cvB_at C xs.length M k hk
  by_cases hin : t < M
  · have hle : ((t : Nat) : Int) ≤ ((M - 1 : Nat) : Int) := by omega
    refine aws_cut fun N5 hN5 => ?_
    simp (config := {maxSteps := 2000000}) only [s28, ↓aw_region, ↓aw_skip, ↓aw_seq, ↓aw_block, ↓aw_exit, ↓aw_ret, ↓sops_nil, ↓sops_go, ↓dops_nil, ↓dopsX_nil, ↓dopsR_nil, ↓vdn, vup, extr_20, extr_21, extr_30, extr_31, extr_32, List.map_cons, List.map_nil, cond_true, cond_false, aop, aThen, aBlock, argEnv, ev, sput, sputO, binK, binI, unK, builtinK, pickK, Nat.reduceBEq, Nat.reduceAdd, Int.reduceBEq, Int.reduceBNe, Int.reduceLT, aPost, resK, tup, tyf, callK, List.nil_append, List.append_nil, List.toList_toArray, List.cons_append]
    refine (all_call hv1 h6 hM).mono ?_
    rintro _ hp ⟨rfl, rfl⟩
    simp (config := {maxSteps := 2000000}) only [s28, ↓aw_region, ↓aw_skip, ↓aw_seq, ↓aw_block, ↓aw_exit, ↓aw_ret, ↓sops_nil, ↓sops_go, ↓dops_nil, ↓dopsX_nil, ↓dopsR_nil, ↓vdn, vup, extr_20, extr_21, extr_30, extr_31, extr_32, List.map_cons, List.map_nil, cond_true, cond_false, aop, aThen, aBlock, argEnv, ev, sput, sputO, binK, binI, unK, builtinK, pickK, Nat.reduceBEq, Nat.reduceAdd, Int.reduceBEq, Int.reduceBNe, Int.reduceLT, aPost, resK, tup, tyf, hle]
    refine hN5 [(0, v), (2, .int .i64 0), (4, v), (5, tv h.length M), (6, vint (t : Nat))] _ _ ?_ (by simp (config := {maxSteps := 2000000}) only [↓aw_region, ↓aw_skip, ↓aw_seq, ↓aw_block, ↓aw_exit, ↓aw_ret, ↓sops_nil, ↓sops_go, ↓dops_nil, ↓dopsX_nil, ↓dopsR_nil, ↓vdn, vup, extr_20, extr_21, extr_30, extr_31, extr_32, List.map_cons, List.map_nil, cond_true, cond_false, aop, aThen, aBlock, argEnv, ev, sput, sputO, binK, binI, unK, builtinK, pickK, Nat.reduceBEq, Nat.reduceAdd, Int.reduceBEq, Int.reduceBNe, Int.reduceLT, aPost, resK, tup, tyf])
    clear hN5
    try clear N5
    refine aws_cutW fun K hK => ?_
    refine aws_block ?_
    refine aws_cut fun N6 hN6 => ?_
    simp (config := {maxSteps := 2000000}) only [s28, ↓aw_region, ↓aw_skip, ↓aw_seq, ↓aw_block, ↓aw_exit, ↓aw_ret, ↓sops_nil, ↓sops_go, ↓dops_nil, ↓dopsX_nil, ↓dopsR_nil, ↓vdn, vup, extr_20, extr_21, extr_30, extr_31, extr_32, List.map_cons, List.map_nil, cond_true, cond_false, aop, aThen, aBlock, argEnv, ev, sput, sputO, binK, binI, unK, builtinK, pickK, Nat.reduceBEq, Nat.reduceAdd, Int.reduceBEq, Int.reduceBNe, Int.reduceLT, aPost, resK, tup, tyf, hv1.len, tab_idx hb hB.len hin, tab_store hb hB.len hin]
    refine hN6 [(0, v), (2, .int .i64 0), (4, v), (5, tv h.length M), (6, vint (t : Nat))] _ _ ?_ (by simp (config := {maxSteps := 2000000}) only [↓aw_region, ↓aw_skip, ↓aw_seq, ↓aw_block, ↓aw_exit, ↓aw_ret, ↓sops_nil, ↓sops_go, ↓dops_nil, ↓dopsX_nil, ↓dopsR_nil, ↓vdn, vup, extr_20, extr_21, extr_30, extr_31, extr_32, List.map_cons, List.map_nil, cond_true, cond_false, aop, aThen, aBlock, argEnv, ev, sput, sputO, binK, binI, unK, builtinK, pickK, Nat.reduceBEq, Nat.reduceAdd, Int.reduceBEq, Int.reduceBNe, Int.reduceLT, aPost, resK, tup, tyf])
    clear hN6
    try clear N6
    refine aw_aws ?_
    have hlt := get_lt hb
    have hE1 := hE.set_ge (Nat.le_refl _) (.ints (iL ((cvAt C xs.length M k).set t xs.length)) 3 false)
    have hb1 : (hp.set h.length (.ints (iL ((cvAt C xs.length M k).set t xs.length)) 3 false))[h.length]? = some (.ints (iL (cvJ C xs.length t (cvAt C xs.length M k) 0)) 3 false) := by rw [cvJ_zero]; exact get_set hlt _
    generalize hp.set h.length (.ints (iL ((cvAt C xs.length M k).set t xs.length)) 3 false) = h1 at hE1 hb1
    have hv2 := IntSl_ext hv hE1
    simp (config := {maxSteps := 2000000}) only [s28, ↓aw_region, ↓aw_skip, ↓aw_seq, ↓aw_block, ↓aw_exit, ↓aw_ret, ↓sops_nil, ↓sops_go, ↓dops_nil, ↓dopsX_nil, ↓dopsR_nil, ↓vdn, vup, extr_20, extr_21, extr_30, extr_31, extr_32, List.map_cons, List.map_nil, cond_true, cond_false, aop, aThen, aBlock, argEnv, ev, sput, sputO, binK, binI, unK, builtinK, pickK, Nat.reduceBEq, Nat.reduceAdd, Int.reduceBEq, Int.reduceBNe, Int.reduceLT, aPost, resK, tup, tyf, callK, List.nil_append, List.append_nil, List.toList_toArray, List.cons_append]
    refine (cliques_call hv2 g).mono ?_
    rintro w h2 ⟨hw, hE2, hwb2⟩
    rw [hC] at hw
    have hb2 : h2[h.length]? = some (.ints (iL (cvJ C xs.length t (cvAt C xs.length M k) 0)) 3 false) := (hE2.2 _ (get_lt hb1) id).trans hb1
    have hE3 := hE1.trans hE2
    simp (config := {maxSteps := 2000000}) only [s28, ↓aw_region, ↓aw_skip, ↓aw_seq, ↓aw_block, ↓aw_exit, ↓aw_ret, ↓sops_nil, ↓sops_go, ↓dops_nil, ↓dopsX_nil, ↓dopsR_nil, ↓vdn, vup, extr_20, extr_21, extr_30, extr_31, extr_32, List.map_cons, List.map_nil, cond_true, cond_false, aop, aThen, aBlock, argEnv, ev, sput, sputO, binK, binI, unK, builtinK, pickK, Nat.reduceBEq, Nat.reduceAdd, Int.reduceBEq, Int.reduceBNe, Int.reduceLT, aPost, resK, tup, tyf, hw.int.len, iL_len, List.length_map, ↓aw_loop_eq]
    refine aws_hide fun Q3 hQ3 => ?_
    refine aw_loop (γ := Nat × Heap) (fun s => s.1 ≤ C.length ∧ Ext (fun _ => False) h s.2 ∧ OwnSl 3 s.2 w (iL C) ∧ blkOf w ≠ some h.length ∧ s.2[h.length]? = some (.ints (iL (cvJ C xs.length t (cvAt C xs.length M k) s.1)) 3 false))
      (fun s => ([(0, v), (2, .int .i64 0), (4, v), (5, tv h.length M), (6, vint (t : Nat)), (29, w), (30, vint C.length), (31, vint s.1)], s.2)) (fun s => C.length - s.1) (0, h2) ⟨Nat.zero_le _, hE3, hw, ?_, hb2⟩ (by simp (config := {maxSteps := 2000000}) only [↓aw_region, ↓aw_skip, ↓aw_seq, ↓aw_block, ↓aw_exit, ↓aw_ret, ↓sops_nil, ↓sops_go, ↓dops_nil, ↓dopsX_nil, ↓dopsR_nil, ↓vdn, vup, extr_20, extr_21, extr_30, extr_31, extr_32, List.map_cons, List.map_nil, cond_true, cond_false, aop, aThen, aBlock, argEnv, ev, sput, sputO, binK, binI, unK, builtinK, pickK, Nat.reduceBEq, Nat.reduceAdd, Int.reduceBEq, Int.reduceBNe, Int.reduceLT, aPost, resK, tup, tyf, Int.natCast_zero]) rfl ?_
    · intro hh
      have := hwb2 _ hh
      have := get_lt hb1
      omega
    rintro ⟨j, hq⟩ ⟨hj, hEq, hwq, hwb, hbq⟩
    simp only at hj hEq hwq hbq
    refine aw_hide fun Q4 hQ4 => ?_
    have hBj := hB.run (C := C) hin j hj
    by_cases hjn : (j : Int) < C.length
    · have hj' : j < C.length := by omega
      have hj2 : j < (iL C).length := by rw [iL_len]; exact hj'
      have hcM := hclt j hj'
      have hlM : less t (C.getD j 0) < M := Nat.lt_of_le_of_lt (Sr.less_le _ _) hin
      have hsucc := cvJ_succ xs.length t (cvAt C xs.length M k) hj'
      have a1 := hBj.le (less t (C.getD j 0))
      have e1 : addV .i64 1 (((cvJ C xs.length t (cvAt C xs.length M k) j).getD (less t (C.getD j 0)) 0 : Nat) : Int) = ((1 + (cvJ C xs.length t (cvAt C xs.length M k) j).getD (less t (C.getD j 0)) 0 : Nat) : Int) := by rw [addV_id (by omega) (by omega)]; omega
      have hand := bitsV_and (a := C.getD j 0) (b := t) (by omega) (by omega)
      have hless := bitsV_andNot (a := t) (b := C.getD j 0) (by omega) (by omega)
      by_cases hz : C.getD j 0 &&& t = 0
      · have hb0 : (C.getD j 0 &&& t == 0) = true := beq_iff_eq.2 hz
        simp (config := {maxSteps := 2000000}) only [s28, ↓aw_region, ↓aw_skip, ↓aw_seq, ↓aw_block, ↓aw_exit, ↓aw_ret, ↓sops_nil, ↓sops_go, ↓dops_nil, ↓dopsX_nil, ↓dopsR_nil, ↓vdn, vup, extr_20, extr_21, extr_30, extr_31, extr_32, List.map_cons, List.map_nil, cond_true, cond_false, aop, aThen, aBlock, argEnv, ev, sput, sputO, binK, binI, unK, builtinK, pickK, Nat.reduceBEq, Nat.reduceAdd, Int.reduceBEq, Int.reduceBNe, Int.reduceLT, aPost, resK, tup, tyf, l28_0, hjn, hwq.int.idx el_22 esz_3 hj2, hwq.int.load shp_3 hj2, iL_get, hand, bneZ, hb0, Bool.not_true, add1 (show j < 9223372036854775807 by omega)]
        refine hQ4 _ _ _ ⟨(j + 1, hq), ⟨by simp only; omega, hEq, hwq, hwb, ?_⟩, by simp only; omega, by simp (config := {maxSteps := 2000000}) only [↓aw_region, ↓aw_skip, ↓aw_seq, ↓aw_block, ↓aw_exit, ↓aw_ret, ↓sops_nil, ↓sops_go, ↓dops_nil, ↓dopsX_nil, ↓dopsR_nil, ↓vdn, vup, extr_20, extr_21, extr_30, extr_31, extr_32, List.map_cons, List.map_nil, cond_true, cond_false, aop, aThen, aBlock, argEnv, ev, sput, sputO, binK, binI, unK, builtinK, pickK, Nat.reduceBEq, Nat.reduceAdd, Int.reduceBEq, Int.reduceBNe, Int.reduceLT, aPost, resK, tup, tyf], rfl⟩
        simp only
        rw [hsucc, cvS, if_pos hz]; exact hbq
      · have hb0 : (C.getD j 0 &&& t == 0) = false := beq_eq_false_iff_ne.2 hz
        simp (config := {maxSteps := 2000000}) only [s28, ↓aw_region, ↓aw_skip, ↓aw_seq, ↓aw_block, ↓aw_exit, ↓aw_ret, ↓sops_nil, ↓sops_go, ↓dops_nil, ↓dopsX_nil, ↓dopsR_nil, ↓vdn, vup, extr_20, extr_21, extr_30, extr_31, extr_32, List.map_cons, List.map_nil, cond_true, cond_false, aop, aThen, aBlock, argEnv, ev, sput, sputO, binK, binI, unK, builtinK, pickK, Nat.reduceBEq, Nat.reduceAdd, Int.reduceBEq, Int.reduceBNe, Int.reduceLT, aPost, resK, tup, tyf, l28_0, hjn, hwq.int.idx el_22 esz_3 hj2, hwq.int.load shp_3 hj2, iL_get, hand, bneZ, hb0, Bool.not_false]
        refine aw_drawX [] (by kernel_rfl) (by kernel_rfl) (by kernel_rfl) (by kernel_rfl) ?_
        simp (config := {maxSteps := 2000000}) only [s28, ↓aw_region, ↓aw_skip, ↓aw_seq, ↓aw_block, ↓aw_exit, ↓aw_ret, ↓sops_nil, ↓sops_go, ↓dops_nil, ↓dopsX_nil, ↓dopsR_nil, ↓vdn, vup, extr_20, extr_21, extr_30, extr_31, extr_32, List.map_cons, List.map_nil, cond_true, cond_false, aop, aThen, aBlock, argEnv, ev, sput, sputO, binK, binI, unK, builtinK, pickK, Nat.reduceBEq, Nat.reduceAdd, Int.reduceBEq, Int.reduceBNe, Int.reduceLT, aPost, resK, tup, tyf, tab_idx hbq hBj.len hin, tab_load hbq hBj.len hin, hless, tab_idx hbq hBj.len hlM, tab_load hbq hBj.len hlM, e1, mmK, Bool.false_eq_true, if_false, gt_iff_lt, mnI, tab_store hbq hBj.len hin, add1 (show j < 9223372036854775807 by omega)]
        refine hQ4 _ _ _ ⟨(j + 1, _), ⟨by simp only; omega, hEq.set_ge (Nat.le_refl _) _, hwq.same fun b hb3 => List.getElem?_set_ne (fun he => hwb (hb3.trans (congrArg some he.symm))), hwb, ?_⟩, by simp only; omega, by simp (config := {maxSteps := 2000000}) only [↓aw_region, ↓aw_skip, ↓aw_seq, ↓aw_block, ↓aw_exit, ↓aw_ret, ↓sops_nil, ↓sops_go, ↓dops_nil, ↓dopsX_nil, ↓dopsR_nil, ↓vdn, vup, extr_20, extr_21, extr_30, extr_31, extr_32, List.map_cons, List.map_nil, cond_true, cond_false, aop, aThen, aBlock, argEnv, ev, sput, sputO, binK, binI, unK, builtinK, pickK, Nat.reduceBEq, Nat.reduceAdd, Int.reduceBEq, Int.reduceBNe, Int.reduceLT, aPost, resK, tup, tyf], rfl⟩
        simp only
        rw [hsucc, cvS, if_neg hz]; exact get_set (get_lt hbq) _
    · obtain rfl : j = C.length := by omega
      simp (config := {maxSteps := 2000000}) only [s28, ↓aw_region, ↓aw_skip, ↓aw_seq, ↓aw_block, ↓aw_exit, ↓aw_ret, ↓sops_nil, ↓sops_go, ↓dops_nil, ↓dopsX_nil, ↓dopsR_nil, ↓vdn, vup, extr_20, extr_21, extr_30, extr_31, extr_32, List.map_cons, List.map_nil, cond_true, cond_false, aop, aThen, aBlock, argEnv, ev, sput, sputO, binK, binI, unK, builtinK, pickK, Nat.reduceBEq, Nat.reduceAdd, Int.reduceBEq, Int.reduceBNe, Int.reduceLT, aPost, resK, tup, tyf, l28_0, Int.lt_irrefl]
      refine hQ4 _ _ _ (hQ3 _ _ _ ?_)
      simp (config := {maxSteps := 2000000}) only [s28, ↓aw_region, ↓aw_skip, ↓aw_seq, ↓aw_block, ↓aw_exit, ↓aw_ret, ↓sops_nil, ↓sops_go, ↓dops_nil, ↓dopsX_nil, ↓dopsR_nil, ↓vdn, vup, extr_20, extr_21, extr_30, extr_31, extr_32, List.map_cons, List.map_nil, cond_true, cond_false, aop, aThen, aBlock, argEnv, ev, sput, sputO, binK, binI, unK, builtinK, pickK, Nat.reduceBEq, Nat.reduceAdd, Int.reduceBEq, Int.reduceBNe, Int.reduceLT, aPost, resK, tup, tyf, if_true]
      refine hK [(0, v), (2, .int .i64 0), (4, v), (5, tv h.length M), (6, vint (t : Nat))] _ _ ?_ (by simp (config := {maxSteps := 2000000}) only [↓aw_region, ↓aw_skip, ↓aw_seq, ↓aw_block, ↓aw_exit, ↓aw_ret, ↓sops_nil, ↓sops_go, ↓dops_nil, ↓dopsX_nil, ↓dopsR_nil, ↓vdn, vup, extr_20, extr_21, extr_30, extr_31, extr_32, List.map_cons, List.map_nil, cond_true, cond_false, aop, aThen, aBlock, argEnv, ev, sput, sputO, binK, binI, unK, builtinK, pickK, Nat.reduceBEq, Nat.reduceAdd, Int.reduceBEq, Int.reduceBNe, Int.reduceLT, aPost, resK, tup, tyf])
      clear hK
      try clear K
      refine aw_aws ?_
      simp (config := {maxSteps := 2000000}) only [s28, ↓aw_region, ↓aw_skip, ↓aw_seq, ↓aw_block, ↓aw_exit, ↓aw_ret, ↓sops_nil, ↓sops_go, ↓dops_nil, ↓dopsX_nil, ↓dopsR_nil, ↓vdn, vup, extr_20, extr_21, extr_30, extr_31, extr_32, List.map_cons, List.map_nil, cond_true, cond_false, aop, aThen, aBlock, argEnv, ev, sput, sputO, binK, binI, unK, builtinK, pickK, Nat.reduceBEq, Nat.reduceAdd, Int.reduceBEq, Int.reduceBNe, Int.reduceLT, aPost, resK, tup, tyf, add1 (show t < 9223372036854775807 by omega)]
      refine hQ2 _ _ _ ⟨(k + 1, hq), ⟨by simp only; omega, hEq, by simp only; rw [cvAt, htk]; exact hbq⟩, by simp only; omega, by simp (config := {maxSteps := 2000000}) only [↓aw_region, ↓aw_skip, ↓aw_seq, ↓aw_block, ↓aw_exit, ↓aw_ret, ↓sops_nil, ↓sops_go, ↓dops_nil, ↓dopsX_nil, ↓dopsR_nil, ↓vdn, vup, extr_20, extr_21, extr_30, extr_31, extr_32, List.map_cons, List.map_nil, cond_true, cond_false, aop, aThen, aBlock, argEnv, ev, sput, sputO, binK, binI, unK, builtinK, pickK, Nat.reduceBEq, Nat.reduceAdd, Int.reduceBEq, Int.reduceBNe, Int.reduceLT, aPost, resK, tup, tyf, htk], rfl⟩
  · have hkM : k = M - 1 := by omega
    have hle : ¬ ((t : Nat) : Int) ≤ ((M - 1 : Nat) : Int) := by omega
    refine aws_cut fun N7 hN7 => ?_
    simp (config := {maxSteps := 2000000}) only [s28, ↓aw_region, ↓aw_skip, ↓aw_seq, ↓aw_block, ↓aw_exit, ↓aw_ret, ↓sops_nil, ↓sops_go, ↓dops_nil, ↓dopsX_nil, ↓dopsR_nil, ↓vdn, vup, extr_20, extr_21, extr_30, extr_31, extr_32, List.map_cons, List.map_nil, cond_true, cond_false, aop, aThen, aBlock, argEnv, ev, sput, sputO, binK, binI, unK, builtinK, pickK, Nat.reduceBEq, Nat.reduceAdd, Int.reduceBEq, Int.reduceBNe, Int.reduceLT, aPost, resK, tup, tyf, callK, List.nil_append, List.append_nil, List.toList_toArray, List.cons_append]
    refine (all_call hv1 h6 hM).mono ?_
    rintro _ hp ⟨rfl, rfl⟩
    simp (config := {maxSteps := 2000000}) only [s28, ↓aw_region, ↓aw_skip, ↓aw_seq, ↓aw_block, ↓aw_exit, ↓aw_ret, ↓sops_nil, ↓sops_go, ↓dops_nil, ↓dopsX_nil, ↓dopsR_nil, ↓vdn, vup, extr_20, extr_21, extr_30, extr_31, extr_32, List.map_cons, List.map_nil, cond_true, cond_false, aop, aThen, aBlock, argEnv, ev, sput, sputO, binK, binI, unK, builtinK, pickK, Nat.reduceBEq, Nat.reduceAdd, Int.reduceBEq, Int.reduceBNe, Int.reduceLT, aPost, resK, tup, tyf, hle]
    refine hQ2 _ _ _ (hQ _ _ _ ?_)
    simp (config := {maxSteps := 2000000}) only [s28, ↓aw_region, ↓aw_skip, ↓aw_seq, ↓aw_block, ↓aw_exit, ↓aw_ret, ↓sops_nil, ↓sops_go, ↓dops_nil, ↓dopsX_nil, ↓dopsR_nil, ↓vdn, vup, extr_20, extr_21, extr_30, extr_31, extr_32, List.map_cons, List.map_nil, cond_true, cond_false, aop, aThen, aBlock, argEnv, ev, sput, sputO, binK, binI, unK, builtinK, pickK, Nat.reduceBEq, Nat.reduceAdd, Int.reduceBEq, Int.reduceBNe, Int.reduceLT, aPost, resK, tup, tyf, if_true]
    refine hZ [(0, v), (2, .int .i64 0), (4, v), (5, tv h.length M), (6, vint (t : Nat))] _ _ ?_ (by simp (config := {maxSteps := 2000000}) only [↓aw_region, ↓aw_skip, ↓aw_seq, ↓aw_block, ↓aw_exit, ↓aw_ret, ↓sops_nil, ↓sops_go, ↓dops_nil, ↓dopsX_nil, ↓dopsR_nil, ↓vdn, vup, extr_20, extr_21, extr_30, extr_31, extr_32, List.map_cons, List.map_nil, cond_true, cond_false, aop, aThen, aBlock, argEnv, ev, sput, sputO, binK, binI, unK, builtinK, pickK, Nat.reduceBEq, Nat.reduceAdd, Int.reduceBEq, Int.reduceBNe, Int.reduceLT, aPost, resK, tup, tyf])
    clear hZ
    try clear Z
    refine aw_aws ?_
    have hm1 : M - 1 < M := by omega
    simp (config := {maxSteps := 2000000}) only [s28, ↓aw_region, ↓aw_skip, ↓aw_seq, ↓aw_block, ↓aw_exit, ↓aw_ret, ↓sops_nil, ↓sops_go, ↓dops_nil, ↓dopsX_nil, ↓dopsR_nil, ↓vdn, vup, extr_20, extr_21, extr_30, extr_31, extr_32, List.map_cons, List.map_nil, cond_true, cond_false, aop, aThen, aBlock, argEnv, ev, sput, sputO, binK, binI, unK, builtinK, pickK, Nat.reduceBEq, Nat.reduceAdd, Int.reduceBEq, Int.reduceBNe, Int.reduceLT, aPost, resK, tup, tyf, callK, List.nil_append, List.append_nil, List.toList_toArray, List.cons_append]
    refine (all_call hv1 h6 hM).mono ?_
    rintro _ hp ⟨rfl, rfl⟩
    simp (config := {maxSteps := 2000000}) only [s28, ↓aw_region, ↓aw_skip, ↓aw_seq, ↓aw_block, ↓aw_exit, ↓aw_ret, ↓sops_nil, ↓sops_go, ↓dops_nil, ↓dopsX_nil, ↓dopsR_nil, ↓vdn, vup, extr_20, extr_21, extr_30, extr_31, extr_32, List.map_cons, List.map_nil, cond_true, cond_false, aop, aThen, aBlock, argEnv, ev, sput, sputO, binK, binI, unK, builtinK, pickK, Nat.reduceBEq, Nat.reduceAdd, Int.reduceBEq, Int.reduceBNe, Int.reduceLT, aPost, resK, tup, tyf, tab_idx hb hB.len hm1, tab_load hb hB.len hm1]
    refine ⟨hE, ?_⟩
    rw [hcov, hkM]
    simp [hg]

theorem s30_callW [Tabs Tryd.prog] {args : List Value} {h : Heap} {Q : Value → Heap → Prop} (hsz : args.length ≤ 57) (hk : AWS Tryd.prog 57 s30 (aPost Tryd.prog [.tmp 2] Q) (argEnv 0 args) h) : ACall Tryd.prog 30 args h Q :=
  acall_w Tryd.func30 rfl (enters_of Tryd.func30 (by kernel_rfl) rfl) rfl rfl (by decide) s30_strip s30_ok hsz hk
theorem rcover_call [Tabs prog] {h : Heap} {v : Value} {xs : List Int} (hv : IntSl h v xs) (g : Gs xs) :
    ACall prog 30 [v] h fun r h' => Ext (fun _ => False) h h' ∧ r = vint (cov xs : Nat) := by
  have h6 := g.2.1
  have h64 := pow6N h6
  have hp0 := Nat.two_pow_pos xs.length
  have hclt := fun j (hj : j < (clq xs).length) => clq_lt hj
  have hnn : ∀ i : Nat, (0 : Int) ≤ (i : Int) := Int.natCast_nonneg
  obtain ⟨M, hM⟩ : ∃ M, 2 ^ xs.length = M := ⟨_, rfl⟩
  have hcov : cov xs = (cvAt (clq xs) xs.length M (M - 1)).getD (M - 1) 0 := by rw [cov, hM]
  have hcl := clqTo_len xs (2 ^ xs.length)
  change (clq xs).length ≤ _ at hcl
  rw [hM] at h64 hp0 hcl
  simp only [hM] at hclt
  have hsh := shlM (n := xs.length) (show xs.length ≤ 62 by omega) hM
  generalize hC : clq xs = C at hclt hcov hcl
  refine s30_callW (by simp) ?_
  simp only [s30]
  refine aws_cut fun N8 hN8 => ?_
  simp (config := {maxSteps := 2000000}) only [s30, ↓aw_region, ↓aw_skip, ↓aw_seq, ↓aw_block, ↓aw_exit, ↓aw_ret, ↓sops_nil, ↓sops_go, ↓dops_nil, ↓dopsX_nil, ↓dopsR_nil, ↓vdn, vup, extr_20, extr_21, extr_30, extr_31, extr_32, List.map_cons, List.map_nil, cond_true, cond_false, aop, aThen, aBlock, argEnv, ev, sput, sputO, binK, binI, unK, builtinK, pickK, Nat.reduceBEq, Nat.reduceAdd, Int.reduceBEq, Int.reduceBNe, Int.reduceLT, aPost, resK, tup, tyf]
  refine hN8 [(0, v), (2, .int .i64 0)] _ _ ?_ (by simp (config := {maxSteps := 2000000}) only [↓aw_region, ↓aw_skip, ↓aw_seq, ↓aw_block, ↓aw_exit, ↓aw_ret, ↓sops_nil, ↓sops_go, ↓dops_nil, ↓dopsX_nil, ↓dopsR_nil, ↓vdn, vup, extr_20, extr_21, extr_30, extr_31, extr_32, List.map_cons, List.map_nil, cond_true, cond_false, aop, aThen, aBlock, argEnv, ev, sput, sputO, binK, binI, unK, builtinK, pickK, Nat.reduceBEq, Nat.reduceAdd, Int.reduceBEq, Int.reduceBNe, Int.reduceLT, aPost, resK, tup, tyf])
  clear hN8
  try clear N8
  refine aws_cut fun N9 hN9 => ?_
  simp (config := {maxSteps := 2000000}) only [s30, ↓aw_region, ↓aw_skip, ↓aw_seq, ↓aw_block, ↓aw_exit, ↓aw_ret, ↓sops_nil, ↓sops_go, ↓dops_nil, ↓dopsX_nil, ↓dopsR_nil, ↓vdn, vup, extr_20, extr_21, extr_30, extr_31, extr_32, List.map_cons, List.map_nil, cond_true, cond_false, aop, aThen, aBlock, argEnv, ev, sput, sputO, binK, binI, unK, builtinK, pickK, Nat.reduceBEq, Nat.reduceAdd, Int.reduceBEq, Int.reduceBNe, Int.reduceLT, aPost, resK, tup, tyf, hv.len, hnn, hsh, makeI el_22 zero_3 info_3 (Int.natCast_nonneg M) (show ((M : Nat) : Int) ≤ 35184372088832 by omega), Int.toNat_natCast]
  refine hN9 [(0, v), (2, .int .i64 0), (3, tv h.length M)] _ _ ?_ (by simp (config := {maxSteps := 2000000}) only [↓aw_region, ↓aw_skip, ↓aw_seq, ↓aw_block, ↓aw_exit, ↓aw_ret, ↓sops_nil, ↓sops_go, ↓dops_nil, ↓dopsX_nil, ↓dopsR_nil, ↓vdn, vup, extr_20, extr_21, extr_30, extr_31, extr_32, List.map_cons, List.map_nil, cond_true, cond_false, aop, aThen, aBlock, argEnv, ev, sput, sputO, binK, binI, unK, builtinK, pickK, Nat.reduceBEq, Nat.reduceAdd, Int.reduceBEq, Int.reduceBNe, Int.reduceLT, aPost, resK, tup, tyf])
  clear hN9
  try clear N9
  refine aws_cut fun Z hZ => ?_
  simp (config := {maxSteps := 2000000}) only [s30, ↓aw_region, ↓aw_skip, ↓aw_seq, ↓aw_block, ↓aw_exit, ↓aw_ret, ↓sops_nil, ↓sops_go, ↓dops_nil, ↓dopsX_nil, ↓dopsR_nil, ↓vdn, vup, extr_20, extr_21, extr_30, extr_31, extr_32, List.map_cons, List.map_nil, cond_true, cond_false, aop, aThen, aBlock, argEnv, ev, sput, sputO, binK, binI, unK, builtinK, pickK, Nat.reduceBEq, Nat.reduceAdd, Int.reduceBEq, Int.reduceBNe, Int.reduceLT, aPost, resK, tup, tyf, ↓aw_loop_eq]
  refine aws_hide fun Q hQ => ?_
  have hr0 : List.replicate M (0 : Int) = iL (cvAt C xs.length M 0) := by simp [cvAt, iL]
  refine aw_loopW (γ := Nat × Heap) (fun s => s.1 < M ∧ Ext (fun _ => False) h s.2 ∧ s.2[h.length]? = some (.ints (iL (cvAt C xs.length M s.1)) 3 false))
    (fun s => ([(0, v), (2, .int .i64 0), (3, tv h.length M), (4, vint (s.1 + 1 : Nat))], s.2)) (fun s => M - s.1) (0, _) ⟨hp0, Ext.app _ _ _, by rw [← hr0]; exact get_new _ _⟩ (by simp (config := {maxSteps := 2000000}) only [↓aw_region, ↓aw_skip, ↓aw_seq, ↓aw_block, ↓aw_exit, ↓aw_ret, ↓sops_nil, ↓sops_go, ↓dops_nil, ↓dopsX_nil, ↓dopsR_nil, ↓vdn, vup, extr_20, extr_21, extr_30, extr_31, extr_32, List.map_cons, List.map_nil, cond_true, cond_false, aop, aThen, aBlock, argEnv, ev, sput, sputO, binK, binI, unK, builtinK, pickK, Nat.reduceBEq, Nat.reduceAdd, Int.reduceBEq, Int.reduceBNe, Int.reduceLT, aPost, resK, tup, tyf, Nat.zero_add, Int.natCast_one]) rfl ?_
  rintro ⟨k, hp⟩ ⟨hk, hE, hb⟩
  simp only at hk hE hb
  refine aws_hide fun Q2 hQ2 => ?_
  simp only [l30_1]
  obtain ⟨t, htk⟩ : ∃ t, k + 1 = t := ⟨_, rfl⟩
  rw [htk]
  have hv1 := IntSl_ext hv hE
  have hB := cvB_at C xs.length M k hk
  by_cases hin : t < M
  · have hle : ((t : Nat) : Int) < ((M : Nat) : Int) := by omega
    refine aws_cut fun N10 hN10 => ?_
    simp (config := {maxSteps := 2000000}) only [s30, ↓aw_region, ↓aw_skip, ↓aw_seq, ↓aw_block, ↓aw_exit, ↓aw_ret, ↓sops_nil, ↓sops_go, ↓dops_nil, ↓dopsX_nil, ↓dopsR_nil, ↓vdn, vup, extr_20, extr_21, extr_30, extr_31, extr_32, List.map_cons, List.map_nil, cond_true, cond_false, aop, aThen, aBlock, argEnv, ev, sput, sputO, binK, binI, unK, builtinK, pickK, Nat.reduceBEq, Nat.reduceAdd, Int.reduceBEq, Int.reduceBNe, Int.reduceLT, aPost, resK, tup, tyf, hv1.len, hnn, hsh, hle]
    refine hN10 [(0, v), (2, .int .i64 0), (3, tv h.length M), (4, vint (t : Nat))] _ _ ?_ (by simp (config := {maxSteps := 2000000}) only [↓aw_region, ↓aw_skip, ↓aw_seq, ↓aw_block, ↓aw_exit, ↓aw_ret, ↓sops_nil, ↓sops_go, ↓dops_nil, ↓dopsX_nil, ↓dopsR_nil, ↓vdn, vup, extr_20, extr_21, extr_30, extr_31, extr_32, List.map_cons, List.map_nil, cond_true, cond_false, aop, aThen, aBlock, argEnv, ev, sput, sputO, binK, binI, unK, builtinK, pickK, Nat.reduceBEq, Nat.reduceAdd, Int.reduceBEq, Int.reduceBNe, Int.reduceLT, aPost, resK, tup, tyf])
    clear hN10
    try clear N10
    refine aws_cutW fun K hK => ?_
    refine aws_block ?_
    refine aws_cut fun N11 hN11 => ?_
    simp (config := {maxSteps := 2000000}) only [s30, ↓aw_region, ↓aw_skip, ↓aw_seq, ↓aw_block, ↓aw_exit, ↓aw_ret, ↓sops_nil, ↓sops_go, ↓dops_nil, ↓dopsX_nil, ↓dopsR_nil, ↓vdn, vup, extr_20, extr_21, extr_30, extr_31, extr_32, List.map_cons, List.map_nil, cond_true, cond_false, aop, aThen, aBlock, argEnv, ev, sput, sputO, binK, binI, unK, builtinK, pickK, Nat.reduceBEq, Nat.reduceAdd, Int.reduceBEq, Int.reduceBNe, Int.reduceLT, aPost, resK, tup, tyf, hv1.len, tab_idx hb hB.len hin, tab_store hb hB.len hin]
    refine hN11 [(0, v), (2, .int .i64 0), (3, tv h.length M), (4, vint (t : Nat))] _ _ ?_ (by simp (config := {maxSteps := 2000000}) only [↓aw_region, ↓aw_skip, ↓aw_seq, ↓aw_block, ↓aw_exit, ↓aw_ret, ↓sops_nil, ↓sops_go, ↓dops_nil, ↓dopsX_nil, ↓dopsR_nil, ↓vdn, vup, extr_20, extr_21, extr_30, extr_31, extr_32, List.map_cons, List.map_nil, cond_true, cond_false, aop, aThen, aBlock, argEnv, ev, sput, sputO, binK, binI, unK, builtinK, pickK, Nat.reduceBEq, Nat.reduceAdd, Int.reduceBEq, Int.reduceBNe, Int.reduceLT, aPost, resK, tup, tyf])
    clear hN11
    try clear N11
    refine aw_aws ?_
    have hlt := get_lt hb
    have hE1 := hE.set_ge (Nat.le_refl _) (.ints (iL ((cvAt C xs.length M k).set t xs.length)) 3 false)
    have hb1 : (hp.set h.length (.ints (iL ((cvAt C xs.length M k).set t xs.length)) 3 false))[h.length]? = some (.ints (iL (cvJ C xs.length t (cvAt C xs.length M k) 0)) 3 false) := by rw [cvJ_zero]; exact get_set hlt _
    generalize hp.set h.length (.ints (iL ((cvAt C xs.length M k).set t xs.length)) 3 false) = h1 at hE1 hb1
    have hv2 := IntSl_ext hv hE1
    simp (config := {maxSteps := 2000000}) only [s30, ↓aw_region, ↓aw_skip, ↓aw_seq, ↓aw_block, ↓aw_exit, ↓aw_ret, ↓sops_nil, ↓sops_go, ↓dops_nil, ↓dopsX_nil, ↓dopsR_nil, ↓vdn, vup, extr_20, extr_21, extr_30, extr_31, extr_32, List.map_cons, List.map_nil, cond_true, cond_false, aop, aThen, aBlock, argEnv, ev, sput, sputO, binK, binI, unK, builtinK, pickK, Nat.reduceBEq, Nat.reduceAdd, Int.reduceBEq, Int.reduceBNe, Int.reduceLT, aPost, resK, tup, tyf, callK, List.nil_append, List.append_nil, List.toList_toArray, List.cons_append]
    refine (rcliques_call hv2 g).mono ?_
    rintro w h2 ⟨hw, hE2, hwb2⟩
    rw [hC] at hw
    have hb2 : h2[h.length]? = some (.ints (iL (cvJ C xs.length t (cvAt C xs.length M k) 0)) 3 false) := (hE2.2 _ (get_lt hb1) id).trans hb1
    have hE3 := hE1.trans hE2
    simp (config := {maxSteps := 2000000}) only [s30, ↓aw_region, ↓aw_skip, ↓aw_seq, ↓aw_block, ↓aw_exit, ↓aw_ret, ↓sops_nil, ↓sops_go, ↓dops_nil, ↓dopsX_nil, ↓dopsR_nil, ↓vdn, vup, extr_20, extr_21, extr_30, extr_31, extr_32, List.map_cons, List.map_nil, cond_true, cond_false, aop, aThen, aBlock, argEnv, ev, sput, sputO, binK, binI, unK, builtinK, pickK, Nat.reduceBEq, Nat.reduceAdd, Int.reduceBEq, Int.reduceBNe, Int.reduceLT, aPost, resK, tup, tyf, hw.int.len, iL_len, List.length_map, ↓aw_loop_eq]
    refine aws_hide fun Q3 hQ3 => ?_
    refine aw_loop (γ := Nat × Heap) (fun s => s.1 ≤ C.length ∧ Ext (fun _ => False) h s.2 ∧ OwnSl 3 s.2 w (iL C) ∧ blkOf w ≠ some h.length ∧ s.2[h.length]? = some (.ints (iL (cvJ C xs.length t (cvAt C xs.length M k) s.1)) 3 false))
      (fun s => ([(0, v), (2, .int .i64 0), (3, tv h.length M), (4, vint (t : Nat)), (24, w), (25, vint C.length), (26, vint s.1)], s.2)) (fun s => C.length - s.1) (0, h2) ⟨Nat.zero_le _, hE3, hw, ?_, hb2⟩ (by simp (config := {maxSteps := 2000000}) only [↓aw_region, ↓aw_skip, ↓aw_seq, ↓aw_block, ↓aw_exit, ↓aw_ret, ↓sops_nil, ↓sops_go, ↓dops_nil, ↓dopsX_nil, ↓dopsR_nil, ↓vdn, vup, extr_20, extr_21, extr_30, extr_31, extr_32, List.map_cons, List.map_nil, cond_true, cond_false, aop, aThen, aBlock, argEnv, ev, sput, sputO, binK, binI, unK, builtinK, pickK, Nat.reduceBEq, Nat.reduceAdd, Int.reduceBEq, Int.reduceBNe, Int.reduceLT, aPost, resK, tup, tyf, Int.natCast_zero]) rfl ?_
    · intro hh
      have := hwb2 _ hh
      have := get_lt hb1
      omega
    rintro ⟨j, hq⟩ ⟨hj, hEq, hwq, hwb, hbq⟩
    simp only at hj hEq hwq hbq
    refine aw_hide fun Q4 hQ4 => ?_
    have hBj := hB.run (C := C) hin j hj
    by_cases hjn : (j : Int) < C.length
    · have hj' : j < C.length := by omega
      have hj2 : j < (iL C).length := by rw [iL_len]; exact hj'
      have hcM := hclt j hj'
      have hlM : less t (C.getD j 0) < M := Nat.lt_of_le_of_lt (Sr.less_le _ _) hin
      have hsucc := cvJ_succ xs.length t (cvAt C xs.length M k) hj'
      have a1 := hBj.le (less t (C.getD j 0))
      have e1 : addV .i64 1 (((cvJ C xs.length t (cvAt C xs.length M k) j).getD (less t (C.getD j 0)) 0 : Nat) : Int) = ((1 + (cvJ C xs.length t (cvAt C xs.length M k) j).getD (less t (C.getD j 0)) 0 : Nat) : Int) := by rw [addV_id (by omega) (by omega)]; omega
      have hand := bitsV_and (a := C.getD j 0) (b := t) (by omega) (by omega)
      have hless := bitsV_andNot (a := t) (b := C.getD j 0) (by omega) (by omega)
      by_cases hz : C.getD j 0 &&& t = 0
      · have hb0 : (C.getD j 0 &&& t == 0) = true := beq_iff_eq.2 hz
        simp (config := {maxSteps := 2000000}) only [s30, ↓aw_region, ↓aw_skip, ↓aw_seq, ↓aw_block, ↓aw_exit, ↓aw_ret, ↓sops_nil, ↓sops_go, ↓dops_nil, ↓dopsX_nil, ↓dopsR_nil, ↓vdn, vup, extr_20, extr_21, extr_30, extr_31, extr_32, List.map_cons, List.map_nil, cond_true, cond_false, aop, aThen, aBlock, argEnv, ev, sput, sputO, binK, binI, unK, builtinK, pickK, Nat.reduceBEq, Nat.reduceAdd, Int.reduceBEq, Int.reduceBNe, Int.reduceLT, aPost, resK, tup, tyf, l30_0, hjn, hwq.int.idx el_22 esz_3 hj2, hwq.int.load shp_3 hj2, iL_get, hand, bneZ, hb0, Bool.not_true, add1 (show j < 9223372036854775807 by omega)]
        refine hQ4 _ _ _ ⟨(j + 1, hq), ⟨by simp only; omega, hEq, hwq, hwb, ?_⟩, by simp only; omega, by simp (config := {maxSteps := 2000000}) only [↓aw_region, ↓aw_skip, ↓aw_seq, ↓aw_block, ↓aw_exit, ↓aw_ret, ↓sops_nil, ↓sops_go, ↓dops_nil, ↓dopsX_nil, ↓dopsR_nil, ↓vdn, vup, extr_20, extr_21, extr_30, extr_31, extr_32, List.map_cons, List.map_nil, cond_true, cond_false, aop, aThen, aBlock, argEnv, ev, sput, sputO, binK, binI, unK, builtinK, pickK, Nat.reduceBEq, Nat.reduceAdd, Int.reduceBEq, Int.reduceBNe, Int.reduceLT, aPost, resK, tup, tyf], rfl⟩
        simp only
        rw [hsucc, cvS, if_pos hz]; exact hbq
      · have hb0 : (C.getD j 0 &&& t == 0) = false := beq_eq_false_iff_ne.2 hz
        simp (config := {maxSteps := 2000000}) only [s30, ↓aw_region, ↓aw_skip, ↓aw_seq, ↓aw_block, ↓aw_exit, ↓aw_ret, ↓sops_nil, ↓sops_go, ↓dops_nil, ↓dopsX_nil, ↓dopsR_nil, ↓vdn, vup, extr_20, extr_21, extr_30, extr_31, extr_32, List.map_cons, List.map_nil, cond_true, cond_false, aop, aThen, aBlock, argEnv, ev, sput, sputO, binK, binI, unK, builtinK, pickK, Nat.reduceBEq, Nat.reduceAdd, Int.reduceBEq, Int.reduceBNe, Int.reduceLT, aPost, resK, tup, tyf, l30_0, hjn, hwq.int.idx el_22 esz_3 hj2, hwq.int.load shp_3 hj2, iL_get, hand, bneZ, hb0, Bool.not_false]
        refine aw_drawX [] (by kernel_rfl) (by kernel_rfl) (by kernel_rfl) (by kernel_rfl) ?_
        simp (config := {maxSteps := 2000000}) only [s30, ↓aw_region, ↓aw_skip, ↓aw_seq, ↓aw_block, ↓aw_exit, ↓aw_ret, ↓sops_nil, ↓sops_go, ↓dops_nil, ↓dopsX_nil, ↓dopsR_nil, ↓vdn, vup, extr_20, extr_21, extr_30, extr_31, extr_32, List.map_cons, List.map_nil, cond_true, cond_false, aop, aThen, aBlock, argEnv, ev, sput, sputO, binK, binI, unK, builtinK, pickK, Nat.reduceBEq, Nat.reduceAdd, Int.reduceBEq, Int.reduceBNe, Int.reduceLT, aPost, resK, tup, tyf, tab_idx hbq hBj.len hin, tab_load hbq hBj.len hin, hless, tab_idx hbq hBj.len hlM, tab_load hbq hBj.len hlM, e1, mmK, Bool.false_eq_true, if_false, gt_iff_lt, mnI, tab_store hbq hBj.len hin, add1 (show j < 9223372036854775807 by omega)]
        refine hQ4 _ _ _ ⟨(j + 1, _), ⟨by simp only; omega, hEq.set_ge (Nat.le_refl _) _, hwq.same fun b hb3 => List.getElem?_set_ne (fun he => hwb (hb3.trans (congrArg some he.symm))), hwb, ?_⟩, by simp only; omega, by simp (config := {maxSteps := 2000000}) only [↓aw_region, ↓aw_skip, ↓aw_seq, ↓aw_block, ↓aw_exit, ↓aw_ret, ↓sops_nil, ↓sops_go, ↓dops_nil, ↓dopsX_nil, ↓dopsR_nil, ↓vdn, vup, extr_20, extr_21, extr_30, extr_31, extr_32, List.map_cons, List.map_nil, cond_true, cond_false, aop, aThen, aBlock, argEnv, ev, sput, sputO, binK, binI, unK, builtinK, pickK, Nat.reduceBEq, Nat.reduceAdd, Int.reduceBEq, Int.reduceBNe, Int.reduceLT, aPost, resK, tup, tyf], rfl⟩
        simp only
        rw [hsucc, cvS, if_neg hz]; exact get_set (get_lt hbq) _
    · obtain rfl : j = C.length := by omega
      simp (config := {maxSteps := 2000000}) only [s30, ↓aw_region, ↓aw_skip, ↓aw_seq, ↓aw_block, ↓aw_exit, ↓aw_ret, ↓sops_nil, ↓sops_go, ↓dops_nil, ↓dopsX_nil, ↓dopsR_nil, ↓vdn, vup, extr_20, extr_21, extr_30, extr_31, extr_32, List.map_cons, List.map_nil, cond_true, cond_false, aop, aThen, aBlock, argEnv, ev, sput, sputO, binK, binI, unK, builtinK, pickK, Nat.reduceBEq, Nat.reduceAdd, Int.reduceBEq, Int.reduceBNe, Int.reduceLT, aPost, resK, tup, tyf, l30_0, Int.lt_irrefl]
      refine hQ4 _ _ _ (hQ3 _ _ _ ?_)
      simp (config := {maxSteps := 2000000}) only [s30, ↓aw_region, ↓aw_skip, ↓aw_seq, ↓aw_block, ↓aw_exit, ↓aw_ret, ↓sops_nil, ↓sops_go, ↓dops_nil, ↓dopsX_nil, ↓dopsR_nil, ↓vdn, vup, extr_20, extr_21, extr_30, extr_31, extr_32, List.map_cons, List.map_nil, cond_true, cond_false, aop, aThen, aBlock, argEnv, ev, sput, sputO, binK, binI, unK, builtinK, pickK, Nat.reduceBEq, Nat.reduceAdd, Int.reduceBEq, Int.reduceBNe, Int.reduceLT, aPost, resK, tup, tyf, if_true]
      refine hK [(0, v), (2, .int .i64 0), (3, tv h.length M), (4, vint (t : Nat))] _ _ ?_ (by simp (config := {maxSteps := 2000000}) only [↓aw_region, ↓aw_skip, ↓aw_seq, ↓aw_block, ↓aw_exit, ↓aw_ret, ↓sops_nil, ↓sops_go, ↓dops_nil, ↓dopsX_nil, ↓dopsR_nil, ↓vdn, vup, extr_20, extr_21, extr_30, extr_31, extr_32, List.map_cons, List.map_nil, cond_true, cond_false, aop, aThen, aBlock, argEnv, ev, sput, sputO, binK, binI, unK, builtinK, pickK, Nat.reduceBEq, Nat.reduceAdd, Int.reduceBEq, Int.reduceBNe, Int.reduceLT, aPost, resK, tup, tyf])
      clear hK
      try clear K
      refine aw_aws ?_
      simp (config := {maxSteps := 2000000}) only [s30, ↓aw_region, ↓aw_skip, ↓aw_seq, ↓aw_block, ↓aw_exit, ↓aw_ret, ↓sops_nil, ↓sops_go, ↓dops_nil, ↓dopsX_nil, ↓dopsR_nil, ↓vdn, vup, extr_20, extr_21, extr_30, extr_31, extr_32, List.map_cons, List.map_nil, cond_true, cond_false, aop, aThen, aBlock, argEnv, ev, sput, sputO, binK, binI, unK, builtinK, pickK, Nat.reduceBEq, Nat.reduceAdd, Int.reduceBEq, Int.reduceBNe, Int.reduceLT, aPost, resK, tup, tyf, add1 (show t < 9223372036854775807 by omega)]
      refine hQ2 _ _ _ ⟨(k + 1, hq), ⟨by simp only; omega, hEq, by simp only; rw [cvAt, htk]; exact hbq⟩, by simp only; omega, by simp (config := {maxSteps := 2000000}) only [↓aw_region, ↓aw_skip, ↓aw_seq, ↓aw_block, ↓aw_exit, ↓aw_ret, ↓sops_nil, ↓sops_go, ↓dops_nil, ↓dopsX_nil, ↓dopsR_nil, ↓vdn, vup, extr_20, extr_21, extr_30, extr_31, extr_32, List.map_cons, List.map_nil, cond_true, cond_false, aop, aThen, aBlock, argEnv, ev, sput, sputO, binK, binI, unK, builtinK, pickK, Nat.reduceBEq, Nat.reduceAdd, Int.reduceBEq, Int.reduceBNe, Int.reduceLT, aPost, resK, tup, tyf, htk], rfl⟩
  · have hkM : k = M - 1 := by omega
    have hle : ¬ ((t : Nat) : Int) < ((M : Nat) : Int) := by omega
    refine aws_cut fun N12 hN12 => ?_
    simp (config := {maxSteps := 2000000}) only [s30, ↓aw_region, ↓aw_skip, ↓aw_seq, ↓aw_block, ↓aw_exit, ↓aw_ret, ↓sops_nil, ↓sops_go, ↓dops_nil, ↓dopsX_nil, ↓dopsR_nil, ↓vdn, vup, extr_20, extr_21, extr_30, extr_31, extr_32, List.map_cons, List.map_nil, cond_true, cond_false, aop, aThen, aBlock, argEnv, ev, sput, sputO, binK, binI, unK, builtinK, pickK, Nat.reduceBEq, Nat.reduceAdd, Int.reduceBEq, Int.reduceBNe, Int.reduceLT, aPost, resK, tup, tyf, hv1.len, hnn, hsh, hle]
    refine hQ2 _ _ _ (hQ _ _ _ ?_)
    simp (config := {maxSteps := 2000000}) only [s30, ↓aw_region, ↓aw_skip, ↓aw_seq, ↓aw_block, ↓aw_exit, ↓aw_ret, ↓sops_nil, ↓sops_go, ↓dops_nil, ↓dopsX_nil, ↓dopsR_nil, ↓vdn, vup, extr_20, extr_21, extr_30, extr_31, extr_32, List.map_cons, List.map_nil, cond_true, cond_false, aop, aThen, aBlock, argEnv, ev, sput, sputO, binK, binI, unK, builtinK, pickK, Nat.reduceBEq, Nat.reduceAdd, Int.reduceBEq, Int.reduceBNe, Int.reduceLT, aPost, resK, tup, tyf, if_true]
    refine hZ [(0, v), (2, .int .i64 0), (3, tv h.length M), (4, vint (t : Nat))] _ _ ?_ (by simp (config := {maxSteps := 2000000}) only [↓aw_region, ↓aw_skip, ↓aw_seq, ↓aw_block, ↓aw_exit, ↓aw_ret, ↓sops_nil, ↓sops_go, ↓dops_nil, ↓dopsX_nil, ↓dopsR_nil, ↓vdn, vup, extr_20, extr_21, extr_30, extr_31, extr_32, List.map_cons, List.map_nil, cond_true, cond_false, aop, aThen, aBlock, argEnv, ev, sput, sputO, binK, binI, unK, builtinK, pickK, Nat.reduceBEq, Nat.reduceAdd, Int.reduceBEq, Int.reduceBNe, Int.reduceLT, aPost, resK, tup, tyf])
    clear hZ
    try clear Z
    refine aw_aws ?_
    have hm1 : M - 1 < M := by omega
    simp (config := {maxSteps := 2000000}) only [s30, ↓aw_region, ↓aw_skip, ↓aw_seq, ↓aw_block, ↓aw_exit, ↓aw_ret, ↓sops_nil, ↓sops_go, ↓dops_nil, ↓dopsX_nil, ↓dopsR_nil, ↓vdn, vup, extr_20, extr_21, extr_30, extr_31, extr_32, List.map_cons, List.map_nil, cond_true, cond_false, aop, aThen, aBlock, argEnv, ev, sput, sputO, binK, binI, unK, builtinK, pickK, Nat.reduceBEq, Nat.reduceAdd, Int.reduceBEq, Int.reduceBNe, Int.reduceLT, aPost, resK, tup, tyf, hv1.len, hnn, hsh, subN1 (show 1 ≤ M by omega) (show M < 9223372036854775808 by omega), tab_idx hb hB.len hm1, tab_load hb hB.len hm1]
    refine ⟨hE, ?_⟩
    rw [hcov, hkM]
end Go.Proofs.Tryd.Am
