/-
  sure: a base with one row more.
-/
import Derived.Test.YtaagkbbphgdcdaaDoorSuSort2
import Derived.Test.YtaagkbbphgdcdaaDoorSuClone
import Derived.Test.YtaagkbbphgdcdaaDoorRank2
set_option linter.all false
namespace Go.Proofs.Tryd.Am
open Go.Am Sr
set_option maxRecDepth 100000
set_option maxHeartbeats 1000000

theorem mnI' (a b : Nat) : (if ((b : Nat) : Int) < ((a : Nat) : Int) then ((b : Nat) : Int) else ((a : Nat) : Int)) = ((Rn.mn a b : Nat) : Int) := mnI a b
/-- A base, as the program holds it. -/
def SpSl (h : Heap) (v : Value) (B : List Nat) : Prop := (v = .slice none 0 0 ∧ B = []) ∨ (B ≠ [] ∧ IntSl h v (iL B))
theorem SpSl.int {h : Heap} {v : Value} {B : List Nat} (hv : SpSl h v B) : IntSl h v (iL B) := by
  rcases hv with ⟨rfl, rfl⟩ | ⟨_, h⟩
  · exact .inl ⟨rfl, rfl⟩
  · exact h
theorem SpSl.ext {h h' : Heap} {v : Value} {B : List Nat} (hv : SpSl h v B) (hE : Ext (fun _ => False) h h') : SpSl h' v B := hv.imp id fun h => ⟨h.1, IntSl_ext h.2 hE⟩
theorem clone_span [Tabs prog] {h : Heap} {v : Value} {B : List Nat} (hv : SpSl h v B) (hl : B.length < 1099511627776) : ACall prog 26 [v] h fun r h' => RSI h h' r (iL B) := by
  rcases hv with ⟨rfl, rfl⟩ | ⟨hne, hv⟩
  · refine s26_call (by simp) ?_
    simp (config := {maxSteps := 2000000}) only [s26, ↓aw_region, ↓aw_skip, ↓aw_seq, ↓aw_block, ↓aw_exit, ↓aw_ret, ↓sops_nil, ↓sops_go, ↓dops_nil, ↓dopsX_nil, ↓dopsR_nil, ↓vdn, vup, extr_20, extr_21, extr_30, extr_31, extr_32, List.map_cons, List.map_nil, cond_true, cond_false, aop, aThen, aBlock, argEnv, ev, sput, sputO, binK, binI, unK, builtinK, pickK, Nat.reduceBEq, Nat.reduceAdd, Int.reduceBEq, Int.reduceBNe, Int.reduceLT, aPost, resK, tup, tyf, Option.isSome_some]
    exact RSI.nil h
  · exact clone_rsi hv (by simpa [iL] using hne) (by rw [iL_len]; exact hl)
theorem bs_len {n : Nat} {B : List Nat} (hB : Rn.Bs B) (hl : ∀ x ∈ B, x < 2 ^ n) : B.length ≤ n := by
  have h1 := Rn.cnt_ind B hl hB.ind
  have h2 : Rn.cnt n B ≤ 2 ^ n := by
    have := List.countP_le_length (p := Rn.S B) (l := List.range (2 ^ n))
    rw [List.length_range] at this; exact this
  rw [h1] at h2
  exact (Nat.pow_le_pow_iff_right (by decide)).1 h2
theorem red_take {B : List Nat} {r j : Nat} (hj : j < B.length) : Rn.red (B.take (j + 1)) r = Rn.mn (Rn.red (B.take j) r) (Rn.red (B.take j) r ^^^ B.getD j 0) := by
  rw [List.take_succ_eq_append_getElem hj, Rn.red, List.foldl_append, List.getD, List.getElem?_eq_getElem hj]; rfl
theorem red_take_lt {n : Nat} {B : List Nat} {r : Nat} (hB : ∀ b ∈ B, b < 2 ^ n ∧ b ≠ 0) (hr : r < 2 ^ n) (j : Nat) : Rn.red (B.take j) r < 2 ^ n :=
  Rn.red_lt (fun b hb => (hB b (List.take_subset _ _ hb)).1) (fun b hb => (hB b (List.take_subset _ _ hb)).2) hr
theorem getD_mem {B : List Nat} {j : Nat} (hj : j < B.length) : B.getD j 0 ∈ B := by
  rw [List.getD, List.getElem?_eq_getElem hj]; exact List.getElem_mem hj

theorem s75_callW [Tabs Tryd.prog] {args : List Value} {h : Heap} {Q : Value → Heap → Prop} (hsz : args.length ≤ 31) (hk : AWS Tryd.prog 31 s75 (aPost Tryd.prog [.tmp 4] Q) (argEnv 0 args) h) : ACall Tryd.prog 75 args h Q :=
  acall_w Tryd.func75 rfl (enters_of Tryd.func75 (by kernel_rfl) rfl) rfl rfl (by decide) s75_strip s75_ok hsz hk
theorem spanned_call [Tabs prog] {h : Heap} {v : Value} {B : List Nat} {n r : Nat} (hv : SpSl h v B) (hn : n ≤ 5) (hB : Rn.Bs B) (hl : ∀ b ∈ B, b < 2 ^ n) (hr : r < 2 ^ n) :
    ACall prog 75 [v, vint r] h fun u h' => Ext (fun _ => False) h h' ∧ (u = v ∨ ∀ b, blkOf u = some b → h.length ≤ b) ∧ ∃ C, SpSl h' u C ∧ Rn.Bs C ∧ (∀ x ∈ C, x < 2 ^ n) ∧ ∀ y, Rn.S C y = Rn.S (B ++ [r]) y := by
  have h32 : 2 ^ n ≤ 2 ^ 5 := Nat.pow_le_pow_right (by decide) hn
  have hl0 : ∀ b ∈ B, b < 2 ^ n ∧ b ≠ 0 := fun b hb => ⟨hl b hb, hB.2 b hb⟩
  have hBl := bs_len hB hl
  refine s75_callW (by simp) ?_
  simp only [s75]
  refine aws_cut fun N1 hN1 => ?_
  simp (config := {maxSteps := 2000000}) only [s75, ↓aw_region, ↓aw_skip, ↓aw_seq, ↓aw_block, ↓aw_exit, ↓aw_ret, ↓sops_nil, ↓sops_go, ↓dops_nil, ↓dopsX_nil, ↓dopsR_nil, ↓vdn, vup, extr_20, extr_21, extr_30, extr_31, extr_32, List.map_cons, List.map_nil, cond_true, cond_false, aop, aThen, aBlock, argEnv, ev, sput, sputO, binK, binI, unK, builtinK, pickK, Nat.reduceBEq, Nat.reduceAdd, Int.reduceBEq, Int.reduceBNe, Int.reduceLT, aPost, resK, tup, tyf]
  refine hN1 [(0, v), (1, vint r), (4, .slice none 0 0)] _ _ ?_ (by simp (config := {maxSteps := 2000000}) only [↓aw_region, ↓aw_skip, ↓aw_seq, ↓aw_block, ↓aw_exit, ↓aw_ret, ↓sops_nil, ↓sops_go, ↓dops_nil, ↓dopsX_nil, ↓dopsR_nil, ↓vdn, vup, extr_20, extr_21, extr_30, extr_31, extr_32, List.map_cons, List.map_nil, cond_true, cond_false, aop, aThen, aBlock, argEnv, ev, sput, sputO, binK, binI, unK, builtinK, pickK, Nat.reduceBEq, Nat.reduceAdd, Int.reduceBEq, Int.reduceBNe, Int.reduceLT, aPost, resK, tup, tyf])
  clear hN1
  try clear N1
  refine aws_cut fun Z hZ => ?_
  simp (config := {maxSteps := 2000000}) only [s75, ↓aw_region, ↓aw_skip, ↓aw_seq, ↓aw_block, ↓aw_exit, ↓aw_ret, ↓sops_nil, ↓sops_go, ↓dops_nil, ↓dopsX_nil, ↓dopsR_nil, ↓vdn, vup, extr_20, extr_21, extr_30, extr_31, extr_32, List.map_cons, List.map_nil, cond_true, cond_false, aop, aThen, aBlock, argEnv, ev, sput, sputO, binK, binI, unK, builtinK, pickK, Nat.reduceBEq, Nat.reduceAdd, Int.reduceBEq, Int.reduceBNe, Int.reduceLT, aPost, resK, tup, tyf, hv.int.len, iL_len, List.length_map, ↓aw_loop_eq]
  refine aws_hide fun Q hQ => ?_
  refine aw_loop (γ := Nat) (fun j => j ≤ B.length)
    (fun j => ([(0, v), (1, vint (Rn.red (B.take j) r : Nat)), (4, .slice none 0 0), (8, v), (9, vint B.length), (10, vint j)], h)) (fun j => B.length - j) 0 (Nat.zero_le _) (by simp (config := {maxSteps := 2000000}) only [↓aw_region, ↓aw_skip, ↓aw_seq, ↓aw_block, ↓aw_exit, ↓aw_ret, ↓sops_nil, ↓sops_go, ↓dops_nil, ↓dopsX_nil, ↓dopsR_nil, ↓vdn, vup, extr_20, extr_21, extr_30, extr_31, extr_32, List.map_cons, List.map_nil, cond_true, cond_false, aop, aThen, aBlock, argEnv, ev, sput, sputO, binK, binI, unK, builtinK, pickK, Nat.reduceBEq, Nat.reduceAdd, Int.reduceBEq, Int.reduceBNe, Int.reduceLT, aPost, resK, tup, tyf, Int.natCast_zero, List.take_zero, Rn.red, List.foldl_nil]) rfl ?_
  intro j hj
  refine aw_hide fun Q2 hQ2 => ?_
  by_cases hjn : (j : Int) < B.length
  · have hj' : j < B.length := by omega
    have hj2 : j < (iL B).length := by rw [iL_len]; exact hj'
    have b1 := red_take_lt hl0 hr j
    have b2 := hl _ (getD_mem hj')
    simp (config := {maxSteps := 2000000}) only [s75, ↓aw_region, ↓aw_skip, ↓aw_seq, ↓aw_block, ↓aw_exit, ↓aw_ret, ↓sops_nil, ↓sops_go, ↓dops_nil, ↓dopsX_nil, ↓dopsR_nil, ↓vdn, vup, extr_20, extr_21, extr_30, extr_31, extr_32, List.map_cons, List.map_nil, cond_true, cond_false, aop, aThen, aBlock, argEnv, ev, sput, sputO, binK, binI, unK, builtinK, pickK, Nat.reduceBEq, Nat.reduceAdd, Int.reduceBEq, Int.reduceBNe, Int.reduceLT, aPost, resK, tup, tyf, l75_0, hjn, hv.int.idx el_22 esz_3 hj2, hv.int.load shp_3 hj2, iL_get, bitsV_xor (show Rn.red (B.take j) r < 9223372036854775808 by omega) (show B.getD j 0 < 9223372036854775808 by omega), mmK, Bool.false_eq_true, if_false, gt_iff_lt, mnI', add1 (show j < 9223372036854775807 by omega)]
    refine hQ2 _ _ _ ⟨j + 1, by omega, by omega, by simp (config := {maxSteps := 2000000}) only [↓aw_region, ↓aw_skip, ↓aw_seq, ↓aw_block, ↓aw_exit, ↓aw_ret, ↓sops_nil, ↓sops_go, ↓dops_nil, ↓dopsX_nil, ↓dopsR_nil, ↓vdn, vup, extr_20, extr_21, extr_30, extr_31, extr_32, List.map_cons, List.map_nil, cond_true, cond_false, aop, aThen, aBlock, argEnv, ev, sput, sputO, binK, binI, unK, builtinK, pickK, Nat.reduceBEq, Nat.reduceAdd, Int.reduceBEq, Int.reduceBNe, Int.reduceLT, aPost, resK, tup, tyf, red_take hj'], rfl⟩
  · obtain rfl : j = B.length := by omega
    simp (config := {maxSteps := 2000000}) only [s75, ↓aw_region, ↓aw_skip, ↓aw_seq, ↓aw_block, ↓aw_exit, ↓aw_ret, ↓sops_nil, ↓sops_go, ↓dops_nil, ↓dopsX_nil, ↓dopsR_nil, ↓vdn, vup, extr_20, extr_21, extr_30, extr_31, extr_32, List.map_cons, List.map_nil, cond_true, cond_false, aop, aThen, aBlock, argEnv, ev, sput, sputO, binK, binI, unK, builtinK, pickK, Nat.reduceBEq, Nat.reduceAdd, Int.reduceBEq, Int.reduceBNe, Int.reduceLT, aPost, resK, tup, tyf, l75_0, Int.lt_irrefl]
    refine hQ2 _ _ _ (hQ _ _ _ ?_)
    simp (config := {maxSteps := 2000000}) only [s75, ↓aw_region, ↓aw_skip, ↓aw_seq, ↓aw_block, ↓aw_exit, ↓aw_ret, ↓sops_nil, ↓sops_go, ↓dops_nil, ↓dopsX_nil, ↓dopsR_nil, ↓vdn, vup, extr_20, extr_21, extr_30, extr_31, extr_32, List.map_cons, List.map_nil, cond_true, cond_false, aop, aThen, aBlock, argEnv, ev, sput, sputO, binK, binI, unK, builtinK, pickK, Nat.reduceBEq, Nat.reduceAdd, Int.reduceBEq, Int.reduceBNe, Int.reduceLT, aPost, resK, tup, tyf, if_true]
    have b1 := red_take_lt hl0 hr B.length
    rw [List.take_length] at b1 ⊢
    refine hZ [(0, v), (1, vint (Rn.red B r : Nat)), (4, .slice none 0 0)] _ _ ?_ (by simp (config := {maxSteps := 2000000}) only [↓aw_region, ↓aw_skip, ↓aw_seq, ↓aw_block, ↓aw_exit, ↓aw_ret, ↓sops_nil, ↓sops_go, ↓dops_nil, ↓dopsX_nil, ↓dopsR_nil, ↓vdn, vup, extr_20, extr_21, extr_30, extr_31, extr_32, List.map_cons, List.map_nil, cond_true, cond_false, aop, aThen, aBlock, argEnv, ev, sput, sputO, binK, binI, unK, builtinK, pickK, Nat.reduceBEq, Nat.reduceAdd, Int.reduceBEq, Int.reduceBNe, Int.reduceLT, aPost, resK, tup, tyf])
    clear hZ
    try clear Z
    have hz : ∀ z : Nat, (((z : Nat) : Int) == 0) = (z == 0) := fun z => beqN (b := 0)
    by_cases h0 : Rn.red B r = 0
    · have hb0 : (Rn.red B r == 0) = true := beq_iff_eq.2 h0
      refine aws_cut fun N2 hN2 => ?_
      simp (config := {maxSteps := 2000000}) only [s75, ↓aw_region, ↓aw_skip, ↓aw_seq, ↓aw_block, ↓aw_exit, ↓aw_ret, ↓sops_nil, ↓sops_go, ↓dops_nil, ↓dopsX_nil, ↓dopsR_nil, ↓vdn, vup, extr_20, extr_21, extr_30, extr_31, extr_32, List.map_cons, List.map_nil, cond_true, cond_false, aop, aThen, aBlock, argEnv, ev, sput, sputO, binK, binI, unK, builtinK, pickK, Nat.reduceBEq, Nat.reduceAdd, Int.reduceBEq, Int.reduceBNe, Int.reduceLT, aPost, resK, tup, tyf, hz, hb0]
      refine ⟨Ext.refl _ _, by simp, B, hv, hB, hl, fun y => ?_⟩
      refine Rn.S_eq (fun x hx => Rn.S_mem (by simp [hx])) (fun x hx => ?_) y
      rcases List.mem_append.1 hx with hx | hx
      · exact Rn.S_mem hx
      · obtain rfl := List.mem_singleton.1 hx
        exact Rn.red_zero hB h0
    · have hb0 : (Rn.red B r == 0) = false := beq_eq_false_iff_ne.2 h0
      refine aws_cut fun N3 hN3 => ?_
      simp (config := {maxSteps := 2000000}) only [s75, ↓aw_region, ↓aw_skip, ↓aw_seq, ↓aw_block, ↓aw_exit, ↓aw_ret, ↓sops_nil, ↓sops_go, ↓dops_nil, ↓dopsX_nil, ↓dopsR_nil, ↓vdn, vup, extr_20, extr_21, extr_30, extr_31, extr_32, List.map_cons, List.map_nil, cond_true, cond_false, aop, aThen, aBlock, argEnv, ev, sput, sputO, binK, binI, unK, builtinK, pickK, Nat.reduceBEq, Nat.reduceAdd, Int.reduceBEq, Int.reduceBNe, Int.reduceLT, aPost, resK, tup, tyf, hz, hb0]
      refine hN3 [(0, v), (1, vint (Rn.red B r : Nat)), (4, .slice none 0 0)] _ _ ?_ (by simp (config := {maxSteps := 2000000}) only [↓aw_region, ↓aw_skip, ↓aw_seq, ↓aw_block, ↓aw_exit, ↓aw_ret, ↓sops_nil, ↓sops_go, ↓dops_nil, ↓dopsX_nil, ↓dopsR_nil, ↓vdn, vup, extr_20, extr_21, extr_30, extr_31, extr_32, List.map_cons, List.map_nil, cond_true, cond_false, aop, aThen, aBlock, argEnv, ev, sput, sputO, binK, binI, unK, builtinK, pickK, Nat.reduceBEq, Nat.reduceAdd, Int.reduceBEq, Int.reduceBNe, Int.reduceLT, aPost, resK, tup, tyf])
      clear hN3
      try clear N3
      refine aws_cut fun N4 hN4 => ?_
      simp (config := {maxSteps := 2000000}) only [s75, ↓aw_region, ↓aw_skip, ↓aw_seq, ↓aw_block, ↓aw_exit, ↓aw_ret, ↓sops_nil, ↓sops_go, ↓dops_nil, ↓dopsX_nil, ↓dopsR_nil, ↓vdn, vup, extr_20, extr_21, extr_30, extr_31, extr_32, List.map_cons, List.map_nil, cond_true, cond_false, aop, aThen, aBlock, argEnv, ev, sput, sputO, binK, binI, unK, builtinK, pickK, Nat.reduceBEq, Nat.reduceAdd, Int.reduceBEq, Int.reduceBNe, Int.reduceLT, aPost, resK, tup, tyf, callK, List.nil_append, List.append_nil, List.toList_toArray, List.cons_append]
      refine (clone_span hv (by omega)).mono ?_
      rintro u h1 hs1
      simp (config := {maxSteps := 2000000}) only [s75, ↓aw_region, ↓aw_skip, ↓aw_seq, ↓aw_block, ↓aw_exit, ↓aw_ret, ↓sops_nil, ↓sops_go, ↓dops_nil, ↓dopsX_nil, ↓dopsR_nil, ↓vdn, vup, extr_20, extr_21, extr_30, extr_31, extr_32, List.map_cons, List.map_nil, cond_true, cond_false, aop, aThen, aBlock, argEnv, ev, sput, sputO, binK, binI, unK, builtinK, pickK, Nat.reduceBEq, Nat.reduceAdd, Int.reduceBEq, Int.reduceBNe, Int.reduceLT, aPost, resK, tup, tyf, litI1]
      refine hs1.push (by rw [iL_len]; omega) fun v' h2 s2 => ?_
      have em : iL B ++ [((Rn.red B r : Nat) : Int)] = iL (B ++ [Rn.red B r]) := by simp [iL]
      rw [em] at s2
      try simp (config := {maxSteps := 2000000}) only [s75, ↓aw_region, ↓aw_skip, ↓aw_seq, ↓aw_block, ↓aw_exit, ↓aw_ret, ↓sops_nil, ↓sops_go, ↓dops_nil, ↓dopsX_nil, ↓dopsR_nil, ↓vdn, vup, extr_20, extr_21, extr_30, extr_31, extr_32, List.map_cons, List.map_nil, cond_true, cond_false, aop, aThen, aBlock, argEnv, ev, sput, sputO, binK, binI, unK, builtinK, pickK, Nat.reduceBEq, Nat.reduceAdd, Int.reduceBEq, Int.reduceBNe, Int.reduceLT, aPost, resK, tup, tyf]
      refine hN4 [(0, v), (1, vint (Rn.red B r : Nat)), (4, .slice none 0 0), (7, v')] _ _ ?_ (by simp (config := {maxSteps := 2000000}) only [↓aw_region, ↓aw_skip, ↓aw_seq, ↓aw_block, ↓aw_exit, ↓aw_ret, ↓sops_nil, ↓sops_go, ↓dops_nil, ↓dopsX_nil, ↓dopsR_nil, ↓vdn, vup, extr_20, extr_21, extr_30, extr_31, extr_32, List.map_cons, List.map_nil, cond_true, cond_false, aop, aThen, aBlock, argEnv, ev, sput, sputO, binK, binI, unK, builtinK, pickK, Nat.reduceBEq, Nat.reduceAdd, Int.reduceBEq, Int.reduceBNe, Int.reduceLT, aPost, resK, tup, tyf])
      clear hN4
      try clear N4
      obtain ⟨ho, hE, hbk⟩ := s2
      rcases ho with ⟨_, hnil⟩ | ⟨b, ys, rfl, hb⟩
      · simp [iL] at hnil
      have hbl := hbk b rfl
      have hlen : (B ++ [Rn.red B r]).length ≤ 12 := by rw [List.length_append, List.length_singleton]; omega
      have hsm : ∀ x ∈ B ++ [Rn.red B r], x < 4611686018427387904 := fun x hx => by
        rcases List.mem_append.1 hx with hx | hx
        · have := hl x hx; omega
        · rw [List.mem_singleton.1 hx]; omega
      rw [iL_len]
      refine aws_cut fun N5 hN5 => ?_
      simp (config := {maxSteps := 2000000}) only [s75, ↓aw_region, ↓aw_skip, ↓aw_seq, ↓aw_block, ↓aw_exit, ↓aw_ret, ↓sops_nil, ↓sops_go, ↓dops_nil, ↓dopsX_nil, ↓dopsR_nil, ↓vdn, vup, extr_20, extr_21, extr_30, extr_31, extr_32, List.map_cons, List.map_nil, cond_true, cond_false, aop, aThen, aBlock, argEnv, ev, sput, sputO, binK, binI, unK, builtinK, pickK, Nat.reduceBEq, Nat.reduceAdd, Int.reduceBEq, Int.reduceBNe, Int.reduceLT, aPost, resK, tup, tyf, callK, List.nil_append, List.append_nil, List.toList_toArray, List.cons_append]
      refine (sort_call hb hlen hsm).mono ?_
      rintro _ h3 ⟨C, hperm, hsort, rfl⟩
      refine hN5 [(0, v), (1, vint (Rn.red B r : Nat)), (4, .slice none 0 0), (7, ov b (B ++ [Rn.red B r]).length ys.length)] _ _ ?_ (by simp (config := {maxSteps := 2000000}) only [↓aw_region, ↓aw_skip, ↓aw_seq, ↓aw_block, ↓aw_exit, ↓aw_ret, ↓sops_nil, ↓sops_go, ↓dops_nil, ↓dopsX_nil, ↓dopsR_nil, ↓vdn, vup, extr_20, extr_21, extr_30, extr_31, extr_32, List.map_cons, List.map_nil, cond_true, cond_false, aop, aThen, aBlock, argEnv, ev, sput, sputO, binK, binI, unK, builtinK, pickK, Nat.reduceBEq, Nat.reduceAdd, Int.reduceBEq, Int.reduceBNe, Int.reduceLT, aPost, resK, tup, tyf])
      clear hN5
      try clear N5
      refine aw_aws ?_
      simp (config := {maxSteps := 2000000}) only [s75, ↓aw_region, ↓aw_skip, ↓aw_seq, ↓aw_block, ↓aw_exit, ↓aw_ret, ↓sops_nil, ↓sops_go, ↓dops_nil, ↓dopsX_nil, ↓dopsR_nil, ↓vdn, vup, extr_20, extr_21, extr_30, extr_31, extr_32, List.map_cons, List.map_nil, cond_true, cond_false, aop, aThen, aBlock, argEnv, ev, sput, sputO, binK, binI, unK, builtinK, pickK, Nat.reduceBEq, Nat.reduceAdd, Int.reduceBEq, Int.reduceBNe, Int.reduceLT, aPost, resK, tup, tyf]
      have hn1 : (B ++ [Rn.red B r]).Nodup := by
        rw [List.nodup_append]
        refine ⟨?_, by simp, ?_⟩
        · rw [List.Nodup]
          exact hB.1.imp fun h e => by rw [e] at h; omega
        · intro x hx y hy e
          rw [List.mem_singleton] at hy
          subst hy e
          exact Rn.red_top hB h0 _ hx rfl
      obtain ⟨m1, m2⟩ := hB.more h0 (C := C) (fun x => by rw [hperm.mem_iff]; simp) hsort (hperm.nodup_iff.2 hn1)
      refine ⟨hE.set_ge hbl _, .inr hbk, C, .inr ⟨fun e => ?_, ?_⟩, m1, fun x hx => ?_, m2⟩
      · have := hperm.length_eq
        rw [e] at this; simp at this
      · have := ov_own (h := h2) (b := b) (n := (B ++ [Rn.red B r]).length) (L := C) (ys := ys) (get_lt hb) hperm.length_eq
        exact this.int
      · rw [hperm.mem_iff] at hx
        rcases List.mem_append.1 hx with hx | hx
        · exact hl x hx
        · rw [List.mem_singleton.1 hx]; exact b1
end Go.Proofs.Tryd.Am
