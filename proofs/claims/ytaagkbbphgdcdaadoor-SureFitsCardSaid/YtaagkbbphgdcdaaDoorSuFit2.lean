/-
  sure: Fit, by the program and by the reference.
-/
import Derived.Test.YtaagkbbphgdcdaaDoorSuFit
import Derived.Test.YtaagkbbphgdcdaaDoorSuRank
import Derived.Test.YtaagkbbphgdcdaaDoorSuTake
set_option linter.all false
namespace Go.Proofs.Tryd.Am
open Go.Am Sr
set_option maxRecDepth 100000
set_option maxHeartbeats 1000000

theorem box22 {h : Heap} {v : Value} {xs : List Int} (hv : IntSl h v xs) {K : Value → Heap → Prop} : boxK prog h 22 v K = K (newPtr h) (h ++ [.cells [v] 22 false]) := by
  rcases hv with ⟨rfl, _⟩ | ⟨b, o, sp, cap, c, e, ro, rfl, _⟩ <;> simp [boxK, esz_22, cellsOf]
theorem slOne {h : Heap} {v : Value} {xs : List Int} (hv : IntSl h v xs) : one v = true := by
  rcases hv with ⟨rfl, _⟩ | ⟨b, o, sp, cap, c, e, ro, rfl, _⟩ <;> rfl
theorem extPast {h h1 h2 : Heap} {b : Nat} (h12 : Ext (fun _ => False) h h1) (h3 : Ext (fun i => i = b) h1 h2) (hb : h.length ≤ b) : Ext (fun _ => False) h h2 :=
  ⟨Nat.le_trans h12.1 h3.1, fun i hi _ => (h3.2 i (Nat.lt_of_lt_of_le hi h12.1) (by omega)).trans (h12.2 i hi id)⟩

/-- What Fit gives back. -/
def FitM (xs : List Int) (m : Nat) : Prop := Rn.IsMin xs.length (Rn.Rk (gn xs) xs.length xs.length 0 []) m
theorem s49_callW [Tabs Tryd.prog] {args : List Value} {h : Heap} {Q : Value → Heap → Prop} (hsz : args.length ≤ 22) (hk : AWS Tryd.prog 22 s49 (aPost Tryd.prog [.tmp 2, .tmp 3] Q) (argEnv 0 args) h) : ACall Tryd.prog 49 args h Q :=
  acall_w Tryd.func49 rfl (enters_of Tryd.func49 (by kernel_rfl) rfl) rfl rfl (by decide) s49_strip s49_ok hsz hk
theorem fit_call [Tabs prog] {h : Heap} {v : Value} {xs : List Int} (hv : IntSl h v xs) (hl : xs.length < 9223372036854775808) (hx : ∀ x ∈ xs, -9223372036854775808 ≤ x ∧ x < 9223372036854775808) :
    ACall prog 49 [v] h fun r h' => Ext (fun _ => False) h h' ∧ if grs xs = true ∧ xs.length ≤ 5 then ∃ m : Nat, r = .tuple #[vint m, .int .i64 0] ∧ FitM xs m else r = .tuple #[.int .i64 0, .int .i64 2] := by
  refine s49_callW (by simp) ?_
  simp only [s49]
  refine aws_cut fun N1 hN1 => ?_
  simp (config := {maxSteps := 2000000}) only [s49, ↓aw_region, ↓aw_skip, ↓aw_seq, ↓aw_block, ↓aw_exit, ↓aw_ret, ↓sops_nil, ↓sops_go, ↓dops_nil, ↓dopsX_nil, ↓dopsR_nil, ↓vdn, vup, extr_20, extr_21, extr_30, extr_31, extr_32, List.map_cons, List.map_nil, cond_true, cond_false, aop, aThen, aBlock, argEnv, ev, sput, sputO, binK, binI, unK, builtinK, pickK, Nat.reduceBEq, Nat.reduceAdd, Int.reduceBEq, Int.reduceBNe, Int.reduceLT, aPost, resK, tup, tyf, box22 hv, newPtr]
  refine hN1 [(1, pt h.length), (2, .int .i64 0), (3, .int .i64 0)] _ _ ?_ (by simp (config := {maxSteps := 2000000}) only [↓aw_region, ↓aw_skip, ↓aw_seq, ↓aw_block, ↓aw_exit, ↓aw_ret, ↓sops_nil, ↓sops_go, ↓dops_nil, ↓dopsX_nil, ↓dopsR_nil, ↓vdn, vup, extr_20, extr_21, extr_30, extr_31, extr_32, List.map_cons, List.map_nil, cond_true, cond_false, aop, aThen, aBlock, argEnv, ev, sput, sputO, binK, binI, unK, builtinK, pickK, Nat.reduceBEq, Nat.reduceAdd, Int.reduceBEq, Int.reduceBNe, Int.reduceLT, aPost, resK, tup, tyf])
  clear hN1
  try clear N1
  have hE0 : Ext (fun _ => False) h (h ++ [Blk.cells [v] 22 false]) := Ext.app _ _ _
  have b1 := get_new h (Blk.cells [v] 22 false)
  generalize hH0 : h ++ [Blk.cells [v] 22 false] = H0 at hE0 b1 ⊢
  have l0 : H0.length = h.length + 1 := by rw [← hH0]; simp
  clear hH0
  refine aws_cut fun N2 hN2 => ?_
  simp (config := {maxSteps := 2000000}) only [s49, ↓aw_region, ↓aw_skip, ↓aw_seq, ↓aw_block, ↓aw_exit, ↓aw_ret, ↓sops_nil, ↓sops_go, ↓dops_nil, ↓dopsX_nil, ↓dopsR_nil, ↓vdn, vup, extr_20, extr_21, extr_30, extr_31, extr_32, List.map_cons, List.map_nil, cond_true, cond_false, aop, aThen, aBlock, argEnv, ev, sput, sputO, binK, binI, unK, builtinK, pickK, Nat.reduceBEq, Nat.reduceAdd, Int.reduceBEq, Int.reduceBNe, Int.reduceLT, aPost, resK, tup, tyf, load1 b1 shp_22, allocK, newPtr, zero_56, store1 (get_new _ _) shp_56 (slOne hv), set_last]
  refine hN2 [(1, pt h.length), (2, .int .i64 0), (3, .int .i64 0), (4, pt H0.length)] _ _ ?_ (by simp (config := {maxSteps := 2000000}) only [↓aw_region, ↓aw_skip, ↓aw_seq, ↓aw_block, ↓aw_exit, ↓aw_ret, ↓sops_nil, ↓sops_go, ↓dops_nil, ↓dopsX_nil, ↓dopsR_nil, ↓vdn, vup, extr_20, extr_21, extr_30, extr_31, extr_32, List.map_cons, List.map_nil, cond_true, cond_false, aop, aThen, aBlock, argEnv, ev, sput, sputO, binK, binI, unK, builtinK, pickK, Nat.reduceBEq, Nat.reduceAdd, Int.reduceBEq, Int.reduceBNe, Int.reduceLT, aPost, resK, tup, tyf])
  clear hN2
  try clear N2
  have hE1 := hE0.trans (Ext.app (fun _ => False) H0 [Blk.cells [v] 56 false])
  have c1 := get_old b1 [Blk.cells [v] 56 false]
  have c4 := get_new H0 (Blk.cells [v] 56 false)
  generalize hH1 : H0 ++ [Blk.cells [v] 56 false] = H1 at hE1 c1 c4 ⊢
  have l1 : H1.length = h.length + 2 := by rw [← hH1]; simp [l0]
  clear hH1
  rw [l0] at c4 ⊢
  have hv1 := IntSl_ext hv hE1
  have hvlt : ∀ b, blkOf v = some b → b < h.length := fun b hb => hv.lt hb
  refine aws_cut fun N3 hN3 => ?_
  simp (config := {maxSteps := 2000000}) only [s49, ↓aw_region, ↓aw_skip, ↓aw_seq, ↓aw_block, ↓aw_exit, ↓aw_ret, ↓sops_nil, ↓sops_go, ↓dops_nil, ↓dopsX_nil, ↓dopsR_nil, ↓vdn, vup, extr_20, extr_21, extr_30, extr_31, extr_32, List.map_cons, List.map_nil, cond_true, cond_false, aop, aThen, aBlock, argEnv, ev, sput, sputO, binK, binI, unK, builtinK, pickK, Nat.reduceBEq, Nat.reduceAdd, Int.reduceBEq, Int.reduceBNe, Int.reduceLT, aPost, resK, tup, tyf, callK, List.nil_append, List.append_nil, List.toList_toArray, List.cons_append, load1 c4 shp_56]
  refine (valid_call hv1 hl hx).mono ?_
  rintro _ H1 ⟨rfl, rfl⟩
  cases hg : grs xs with
  | false =>
    simp (config := {maxSteps := 2000000}) only [s49, ↓aw_region, ↓aw_skip, ↓aw_seq, ↓aw_block, ↓aw_exit, ↓aw_ret, ↓sops_nil, ↓sops_go, ↓dops_nil, ↓dopsX_nil, ↓dopsR_nil, ↓vdn, vup, extr_20, extr_21, extr_30, extr_31, extr_32, List.map_cons, List.map_nil, cond_true, cond_false, aop, aThen, aBlock, argEnv, ev, sput, sputO, binK, binI, unK, builtinK, pickK, Nat.reduceBEq, Nat.reduceAdd, Int.reduceBEq, Int.reduceBNe, Int.reduceLT, aPost, resK, tup, tyf, Bool.not_false]
    exact ⟨hE1, by simp⟩
  | true =>
  by_cases h5 : xs.length ≤ 5
  · have hng : ¬ (5 : Int) < (xs.length : Int) := by omega
    have g := grs_iff.1 hg
    simp (config := {maxSteps := 2000000}) only [s49, ↓aw_region, ↓aw_skip, ↓aw_seq, ↓aw_block, ↓aw_exit, ↓aw_ret, ↓sops_nil, ↓sops_go, ↓dops_nil, ↓dopsX_nil, ↓dopsR_nil, ↓vdn, vup, extr_20, extr_21, extr_30, extr_31, extr_32, List.map_cons, List.map_nil, cond_true, cond_false, aop, aThen, aBlock, argEnv, ev, sput, sputO, binK, binI, unK, builtinK, pickK, Nat.reduceBEq, Nat.reduceAdd, Int.reduceBEq, Int.reduceBNe, Int.reduceLT, aPost, resK, tup, tyf, Bool.not_true, load1 c1 shp_22, hv1.len, gt_iff_lt, hng]
    refine hN3 [(1, pt h.length), (2, .int .i64 0), (3, .int .i64 0), (4, pt (h.length + 1))] _ _ ?_ (by simp (config := {maxSteps := 2000000}) only [↓aw_region, ↓aw_skip, ↓aw_seq, ↓aw_block, ↓aw_exit, ↓aw_ret, ↓sops_nil, ↓sops_go, ↓dops_nil, ↓dopsX_nil, ↓dopsR_nil, ↓vdn, vup, extr_20, extr_21, extr_30, extr_31, extr_32, List.map_cons, List.map_nil, cond_true, cond_false, aop, aThen, aBlock, argEnv, ev, sput, sputO, binK, binI, unK, builtinK, pickK, Nat.reduceBEq, Nat.reduceAdd, Int.reduceBEq, Int.reduceBNe, Int.reduceLT, aPost, resK, tup, tyf])
    clear hN3
    try clear N3
    refine aws_cut fun N4 hN4 => ?_
    simp (config := {maxSteps := 2000000}) only [s49, ↓aw_region, ↓aw_skip, ↓aw_seq, ↓aw_block, ↓aw_exit, ↓aw_ret, ↓sops_nil, ↓sops_go, ↓dops_nil, ↓dopsX_nil, ↓dopsR_nil, ↓vdn, vup, extr_20, extr_21, extr_30, extr_31, extr_32, List.map_cons, List.map_nil, cond_true, cond_false, aop, aThen, aBlock, argEnv, ev, sput, sputO, binK, binI, unK, builtinK, pickK, Nat.reduceBEq, Nat.reduceAdd, Int.reduceBEq, Int.reduceBNe, Int.reduceLT, aPost, resK, tup, tyf, load1 c1 shp_22, hv1.len, allocK, newPtr, zero_3, Am.storeI (get_new _ _) shp_3, set_last]
    refine hN4 [(1, pt h.length), (2, .int .i64 0), (3, .int .i64 0), (4, pt (h.length + 1)), (5, pt H1.length)] _ _ ?_ (by simp (config := {maxSteps := 2000000}) only [↓aw_region, ↓aw_skip, ↓aw_seq, ↓aw_block, ↓aw_exit, ↓aw_ret, ↓sops_nil, ↓sops_go, ↓dops_nil, ↓dopsX_nil, ↓dopsR_nil, ↓vdn, vup, extr_20, extr_21, extr_30, extr_31, extr_32, List.map_cons, List.map_nil, cond_true, cond_false, aop, aThen, aBlock, argEnv, ev, sput, sputO, binK, binI, unK, builtinK, pickK, Nat.reduceBEq, Nat.reduceAdd, Int.reduceBEq, Int.reduceBNe, Int.reduceLT, aPost, resK, tup, tyf])
    clear hN4
    try clear N4
    have hE2 := hE1.trans (Ext.app (fun _ => False) H1 [Blk.cells [vint xs.length] 3 false])
    have d1 := get_old c1 [Blk.cells [vint xs.length] 3 false]
    have d4 := get_old c4 [Blk.cells [vint xs.length] 3 false]
    have d5 := get_new H1 (Blk.cells [vint xs.length] 3 false)
    generalize hH2 : H1 ++ [Blk.cells [vint xs.length] 3 false] = H2 at hE2 d1 d4 d5 ⊢
    have l2 : H2.length = h.length + 3 := by rw [← hH2]; simp [l1]
    clear hH2
    rw [l1] at d5 ⊢
    refine aws_cut fun N5 hN5 => ?_
    simp (config := {maxSteps := 2000000}) only [s49, ↓aw_region, ↓aw_skip, ↓aw_seq, ↓aw_block, ↓aw_exit, ↓aw_ret, ↓sops_nil, ↓sops_go, ↓dops_nil, ↓dopsX_nil, ↓dopsR_nil, ↓vdn, vup, extr_20, extr_21, extr_30, extr_31, extr_32, List.map_cons, List.map_nil, cond_true, cond_false, aop, aThen, aBlock, argEnv, ev, sput, sputO, binK, binI, unK, builtinK, pickK, Nat.reduceBEq, Nat.reduceAdd, Int.reduceBEq, Int.reduceBNe, Int.reduceLT, aPost, resK, tup, tyf, allocK, newPtr, zero_75]
    refine hN5 [(1, pt h.length), (2, .int .i64 0), (3, .int .i64 0), (4, pt (h.length + 1)), (5, pt (h.length + 2)), (6, pt H2.length)] _ _ ?_ (by simp (config := {maxSteps := 2000000}) only [↓aw_region, ↓aw_skip, ↓aw_seq, ↓aw_block, ↓aw_exit, ↓aw_ret, ↓sops_nil, ↓sops_go, ↓dops_nil, ↓dopsX_nil, ↓dopsR_nil, ↓vdn, vup, extr_20, extr_21, extr_30, extr_31, extr_32, List.map_cons, List.map_nil, cond_true, cond_false, aop, aThen, aBlock, argEnv, ev, sput, sputO, binK, binI, unK, builtinK, pickK, Nat.reduceBEq, Nat.reduceAdd, Int.reduceBEq, Int.reduceBNe, Int.reduceLT, aPost, resK, tup, tyf])
    clear hN5
    try clear N5
    have fcell := get_new H2 (Blk.cells [.nilFunc] 75 false)
    refine aws_cut fun N6 hN6 => ?_
    simp (config := {maxSteps := 2000000}) only [s49, ↓aw_region, ↓aw_skip, ↓aw_seq, ↓aw_block, ↓aw_exit, ↓aw_ret, ↓sops_nil, ↓sops_go, ↓dops_nil, ↓dopsX_nil, ↓dopsR_nil, ↓vdn, vup, extr_20, extr_21, extr_30, extr_31, extr_32, List.map_cons, List.map_nil, cond_true, cond_false, aop, aThen, aBlock, argEnv, ev, sput, sputO, binK, binI, unK, builtinK, pickK, Nat.reduceBEq, Nat.reduceAdd, Int.reduceBEq, Int.reduceBNe, Int.reduceLT, aPost, resK, tup, tyf, List.map_toArray, Am.storeF fcell shp_75, set_last]
    refine hN6 [(1, pt h.length), (2, .int .i64 0), (3, .int .i64 0), (4, pt (h.length + 1)), (5, pt (h.length + 2)), (6, pt H2.length)] _ _ ?_ (by simp (config := {maxSteps := 2000000}) only [↓aw_region, ↓aw_skip, ↓aw_seq, ↓aw_block, ↓aw_exit, ↓aw_ret, ↓sops_nil, ↓sops_go, ↓dops_nil, ↓dopsX_nil, ↓dopsR_nil, ↓vdn, vup, extr_20, extr_21, extr_30, extr_31, extr_32, List.map_cons, List.map_nil, cond_true, cond_false, aop, aThen, aBlock, argEnv, ev, sput, sputO, binK, binI, unK, builtinK, pickK, Nat.reduceBEq, Nat.reduceAdd, Int.reduceBEq, Int.reduceBNe, Int.reduceLT, aPost, resK, tup, tyf])
    clear hN6
    try clear N6
    refine aws_cut fun N hN => ?_
    have hE3 := hE2.trans (Ext.app (fun _ => False) H2 [Blk.cells [.func (.func 74) #[] #[pt (h.length + 2), pt h.length, pt (h.length + 1), pt H2.length]] 75 false])
    have e1 := get_old d1 [Blk.cells [.func (.func 74) #[] #[pt (h.length + 2), pt h.length, pt (h.length + 1), pt H2.length]] 75 false]
    have e4 := get_old d4 [Blk.cells [.func (.func 74) #[] #[pt (h.length + 2), pt h.length, pt (h.length + 1), pt H2.length]] 75 false]
    have e5 := get_old d5 [Blk.cells [.func (.func 74) #[] #[pt (h.length + 2), pt h.length, pt (h.length + 1), pt H2.length]] 75 false]
    have e6 := get_new H2 (Blk.cells [.func (.func 74) #[] #[pt (h.length + 2), pt h.length, pt (h.length + 1), pt H2.length]] 75 false)
    generalize H2 ++ [Blk.cells [.func (.func 74) #[] #[pt (h.length + 2), pt h.length, pt (h.length + 1), pt H2.length]] 75 false] = H3 at hE3 e1 e4 e5 e6 ⊢
    have fh : FH H3 v (h.length + 2) h.length (h.length + 1) H2.length := ⟨e1, e4, e6, by omega, by omega, by omega⟩
    have hgb : blkOf v ≠ some (h.length + 2) := fun e => by have := hvlt _ e; omega
    have hB : Rn.Bs [] := ⟨List.Pairwise.nil, fun x hx => by cases hx⟩
    simp (config := {maxSteps := 2000000}) only [s49, ↓aw_region, ↓aw_skip, ↓aw_seq, ↓aw_block, ↓aw_exit, ↓aw_ret, ↓sops_nil, ↓sops_go, ↓dops_nil, ↓dopsX_nil, ↓dopsR_nil, ↓vdn, vup, extr_20, extr_21, extr_30, extr_31, extr_32, List.map_cons, List.map_nil, cond_true, cond_false, aop, aThen, aBlock, argEnv, ev, sput, sputO, binK, binI, unK, builtinK, pickK, Nat.reduceBEq, Nat.reduceAdd, Int.reduceBEq, Int.reduceBNe, Int.reduceLT, aPost, resK, tup, tyf, callK, List.nil_append, List.append_nil, List.toList_toArray, List.cons_append, load1 e6 shp_75]
    refine (fit1_call g rfl h5 hgb xs.length 0 (by omega) (R := []) (B := []) fh (IntSl_ext hv hE3) e5 (.inl ⟨rfl, rfl⟩) (fun e => by cases e) hB (fun b hb => by cases hb) (fun _ => rfl) (Nat.le_refl _)).mono ?_
    rintro _ h4 ⟨m, hm, hE4, hmin⟩
    refine hN [(5, pt (h.length + 2))] _ _ ?_ (by simp (config := {maxSteps := 2000000}) only [↓aw_region, ↓aw_skip, ↓aw_seq, ↓aw_block, ↓aw_exit, ↓aw_ret, ↓sops_nil, ↓sops_go, ↓dops_nil, ↓dopsX_nil, ↓dopsR_nil, ↓vdn, vup, extr_20, extr_21, extr_30, extr_31, extr_32, List.map_cons, List.map_nil, cond_true, cond_false, aop, aThen, aBlock, argEnv, ev, sput, sputO, binK, binI, unK, builtinK, pickK, Nat.reduceBEq, Nat.reduceAdd, Int.reduceBEq, Int.reduceBNe, Int.reduceLT, aPost, resK, tup, tyf])
    clear hN
    refine aw_aws ?_
    simp (config := {maxSteps := 2000000}) only [s49, ↓aw_region, ↓aw_skip, ↓aw_seq, ↓aw_block, ↓aw_exit, ↓aw_ret, ↓sops_nil, ↓sops_go, ↓dops_nil, ↓dopsX_nil, ↓dopsR_nil, ↓vdn, vup, extr_20, extr_21, extr_30, extr_31, extr_32, List.map_cons, List.map_nil, cond_true, cond_false, aop, aThen, aBlock, argEnv, ev, sput, sputO, binK, binI, unK, builtinK, pickK, Nat.reduceBEq, Nat.reduceAdd, Int.reduceBEq, Int.reduceBNe, Int.reduceLT, aPost, resK, tup, tyf, load1 hm shp_3]
    refine ⟨extPast hE3 hE4 (by omega), ?_⟩
    rw [if_pos ⟨hg, h5⟩]
    exact ⟨m, rfl, hmin⟩
  · have hgt : (5 : Int) < (xs.length : Int) := by omega
    simp (config := {maxSteps := 2000000}) only [s49, ↓aw_region, ↓aw_skip, ↓aw_seq, ↓aw_block, ↓aw_exit, ↓aw_ret, ↓sops_nil, ↓sops_go, ↓dops_nil, ↓dopsX_nil, ↓dopsR_nil, ↓vdn, vup, extr_20, extr_21, extr_30, extr_31, extr_32, List.map_cons, List.map_nil, cond_true, cond_false, aop, aThen, aBlock, argEnv, ev, sput, sputO, binK, binI, unK, builtinK, pickK, Nat.reduceBEq, Nat.reduceAdd, Int.reduceBEq, Int.reduceBNe, Int.reduceLT, aPost, resK, tup, tyf, Bool.not_true, load1 c1 shp_22, hv1.len, gt_iff_lt, hgt]
    exact ⟨hE1, by simp [h5]⟩

theorem okRow_or {xs : List Int} (g : Gs xs) {n i r : Nat} (hn : xs.length = n) (hi : i < n) : Rn.okRow (gn xs) n i r ↔ ∃ s, s < 2 ^ n ∧ less s (gn xs i) = 0 ∧ r = s ||| 2 ^ i := by
  have hirr : (gn xs i).testBit i = false := (g.2.2 i (by omega)).2.1
  constructor
  · rintro ⟨h1, h2, h3⟩
    refine ⟨less r (2 ^ i), less_lt h1, ?_, ?_⟩
    · apply Nat.eq_of_testBit_eq
      intro b
      rw [less_testBit, less_testBit, Nat.testBit_two_pow, Nat.zero_testBit]
      cases hb : r.testBit b with
      | false => rfl
      | true =>
        by_cases hbi : i = b
        · simp [hbi]
        · rw [h3 b (Ne.symm hbi) hb]; simp
    · apply Nat.eq_of_testBit_eq
      intro b
      rw [Nat.testBit_or, less_testBit, Nat.testBit_two_pow]
      by_cases hbi : i = b
      · subst hbi; simp [h2]
      · simp [hbi]
  · rintro ⟨s, h1, h2, rfl⟩
    refine ⟨Nat.or_lt_two_pow h1 (Nat.pow_lt_pow_right (by decide) hi), by rw [Nat.testBit_or, Nat.testBit_two_pow]; simp, fun b hb hrb => ?_⟩
    rw [Nat.testBit_or, Nat.testBit_two_pow, decide_eq_false (Ne.symm hb), Bool.or_false] at hrb
    have := congrArg (fun z : Nat => z.testBit b) h2
    simp only [less_testBit, Nat.zero_testBit, hrb] at this
    cases hg : (gn xs i).testBit b with
    | true => rfl
    | false => rw [hg] at this; cases this
theorem rowsF_upd {L L' : Nat → Nat} {i r : Nat} (h : ∀ t, t < i → L' t = L t) : Rn.rowsF (upd L' i r) (i + 1) = Rn.rowsF L i ++ [r] := by
  rw [Rn.rowsF, List.range_succ, List.map_append, Rn.rowsF]
  congr 1
  · refine List.map_congr_left fun t ht => ?_
    have := List.mem_range.1 ht
    rw [upd, if_neg (by omega), h t this]
  · simp [upd]

theorem s76_callW [Tabs Tryd.prog] {args : List Value} {h : Heap} {Q : Value → Heap → Prop} (hsz : args.length ≤ 47) (hk : AWS Tryd.prog 47 s76 (aPost Tryd.prog [.tmp 8] Q) (argEnv 0 args) h) : ACall Tryd.prog 76 args h Q :=
  acall_w Tryd.func76 rfl (enters_of Tryd.func76 (by kernel_rfl) rfl) rfl rfl (by decide) s76_strip s76_ok hsz hk
theorem rfit_call [Tabs prog] {gv : Value} {xs : List Int} {n : Nat} (g : Gs xs) (hn : xs.length = n) (h5 : n ≤ 5) : ∀ (k i : Nat), i + k = n → ∀ {h : Heap} {L : Nat → Nat} {best : Nat}, IntSl h gv xs → (∀ t, t < i → L t < 2 ^ n) →
    ACall prog 76 [gv, .agg (c5 L).toArray, vint i, vint best] h fun r h' => Ext (fun _ => False) h h' ∧ ∃ v : Nat, r = vint v ∧ Rn.IsMin best (Rn.Rk (gn xs) n k i (Rn.rowsF L i)) v := by
  have hs5 : ∀ L, shp prog 77 = some (some (c5 L).length) := fun L => by rw [c5_len]; exact shp_77
  have hnn : ∀ i : Nat, (0 : Int) ≤ (i : Int) := Int.natCast_nonneg
  intro k
  induction k with
  | zero =>
    intro i hik h L best hg hL
    obtain rfl : i = n := by omega
    have hii : ((i : Int) == (xs.length : Int)) = true := by rw [beq_iff_eq]; omega
    refine s76_callW (by simp) ?_
    simp only [s76]
    refine aws_cut fun N7 hN7 => ?_
    simp (config := {maxSteps := 2000000}) only [s76, ↓aw_region, ↓aw_skip, ↓aw_seq, ↓aw_block, ↓aw_exit, ↓aw_ret, ↓sops_nil, ↓sops_go, ↓dops_nil, ↓dopsX_nil, ↓dopsR_nil, ↓vdn, vup, extr_20, extr_21, extr_30, extr_31, extr_32, List.map_cons, List.map_nil, cond_true, cond_false, aop, aThen, aBlock, argEnv, ev, sput, sputO, binK, binI, unK, builtinK, pickK, Nat.reduceBEq, Nat.reduceAdd, Int.reduceBEq, Int.reduceBNe, Int.reduceLT, aPost, resK, tup, tyf, box77, newPtr]
    refine hN7 [(0, gv), (2, vint i), (3, vint best), (5, pt h.length), (8, .int .i64 0)] _ _ ?_ (by simp (config := {maxSteps := 2000000}) only [↓aw_region, ↓aw_skip, ↓aw_seq, ↓aw_block, ↓aw_exit, ↓aw_ret, ↓sops_nil, ↓sops_go, ↓dops_nil, ↓dopsX_nil, ↓dopsR_nil, ↓vdn, vup, extr_20, extr_21, extr_30, extr_31, extr_32, List.map_cons, List.map_nil, cond_true, cond_false, aop, aThen, aBlock, argEnv, ev, sput, sputO, binK, binI, unK, builtinK, pickK, Nat.reduceBEq, Nat.reduceAdd, Int.reduceBEq, Int.reduceBNe, Int.reduceLT, aPost, resK, tup, tyf])
    clear hN7
    try clear N7
    have hE := Ext.app (fun _ => False) h [Blk.cells (c5 L) 77 false]
    have hg1 := IntSl_ext hg hE
    refine aws_cut fun N8 hN8 => ?_
    simp (config := {maxSteps := 2000000}) only [s76, ↓aw_region, ↓aw_skip, ↓aw_seq, ↓aw_block, ↓aw_exit, ↓aw_ret, ↓sops_nil, ↓sops_go, ↓dops_nil, ↓dopsX_nil, ↓dopsR_nil, ↓vdn, vup, extr_20, extr_21, extr_30, extr_31, extr_32, List.map_cons, List.map_nil, cond_true, cond_false, aop, aThen, aBlock, argEnv, ev, sput, sputO, binK, binI, unK, builtinK, pickK, Nat.reduceBEq, Nat.reduceAdd, Int.reduceBEq, Int.reduceBNe, Int.reduceLT, aPost, resK, tup, tyf, callK, List.nil_append, List.append_nil, List.toList_toArray, List.cons_append, hg1.len, hii, loadA (get_new h (Blk.cells (c5 L) 77 false)) (hs5 L)]
    refine ((show APure prog 97 [.agg (c5 L).toArray, vint xs.length] _ _ by rw [hn]; exact rank2_call h5 hL)).mono ?_
    rintro _ _ ⟨rfl, rfl⟩
    simp (config := {maxSteps := 2000000}) only [s76, ↓aw_region, ↓aw_skip, ↓aw_seq, ↓aw_block, ↓aw_exit, ↓aw_ret, ↓sops_nil, ↓sops_go, ↓dops_nil, ↓dopsX_nil, ↓dopsR_nil, ↓vdn, vup, extr_20, extr_21, extr_30, extr_31, extr_32, List.map_cons, List.map_nil, cond_true, cond_false, aop, aThen, aBlock, argEnv, ev, sput, sputO, binK, binI, unK, builtinK, pickK, Nat.reduceBEq, Nat.reduceAdd, Int.reduceBEq, Int.reduceBNe, Int.reduceLT, aPost, resK, tup, tyf, mmK, Bool.false_eq_true, if_false, gt_iff_lt, mnI']
    refine ⟨hE, _, rfl, ?_⟩
    unfold Rn.mn
    by_cases hlt : Rn.dim i (Rn.rowsF L i) < best
    · rw [if_pos hlt]
      exact ⟨.inr ((Rn.Rk.zero _).2 rfl), by omega, fun w hw => by have := (Rn.Rk.zero _).1 hw; omega⟩
    · rw [if_neg hlt]
      exact .skip fun w hw => by have := (Rn.Rk.zero _).1 hw; omega
  | succ k ih =>
    intro i hik h L best hg hL
    have h32 : 2 ^ n ≤ 2 ^ 5 := Nat.pow_le_pow_right (by decide) h5
    have hp0 := Nat.two_pow_pos n
    obtain ⟨M, hM⟩ : ∃ M, 2 ^ n = M := ⟨_, rfl⟩
    rw [hM] at h32 hp0
    have hiX : i < xs.length := by omega
    have hi5 : i < 5 := by omega
    have hin' : i < n := by omega
    obtain ⟨hge, hgl⟩ := gnE g hiX
    have hii : ((i : Int) == (xs.length : Int)) = false := by rw [beq_eq_false_iff_ne]; omega
    have hsh := shlM (n := xs.length) (show xs.length ≤ 62 by omega) (show 2 ^ xs.length = M by rw [hn]; exact hM)
    have hz : ∀ z : Nat, (((z : Nat) : Int) == 0) = (z == 0) := fun z => beqN (b := 0)
    have p2 : 2 ^ i ≤ 2 ^ 5 := Nat.pow_le_pow_right (by decide) (by omega)
    refine s76_callW (by simp) ?_
    simp only [s76]
    refine aws_cut fun N9 hN9 => ?_
    simp (config := {maxSteps := 2000000}) only [s76, ↓aw_region, ↓aw_skip, ↓aw_seq, ↓aw_block, ↓aw_exit, ↓aw_ret, ↓sops_nil, ↓sops_go, ↓dops_nil, ↓dopsX_nil, ↓dopsR_nil, ↓vdn, vup, extr_20, extr_21, extr_30, extr_31, extr_32, List.map_cons, List.map_nil, cond_true, cond_false, aop, aThen, aBlock, argEnv, ev, sput, sputO, binK, binI, unK, builtinK, pickK, Nat.reduceBEq, Nat.reduceAdd, Int.reduceBEq, Int.reduceBNe, Int.reduceLT, aPost, resK, tup, tyf, box77, newPtr]
    refine hN9 [(0, gv), (2, vint i), (3, vint best), (5, pt h.length), (8, .int .i64 0)] _ _ ?_ (by simp (config := {maxSteps := 2000000}) only [↓aw_region, ↓aw_skip, ↓aw_seq, ↓aw_block, ↓aw_exit, ↓aw_ret, ↓sops_nil, ↓sops_go, ↓dops_nil, ↓dopsX_nil, ↓dopsR_nil, ↓vdn, vup, extr_20, extr_21, extr_30, extr_31, extr_32, List.map_cons, List.map_nil, cond_true, cond_false, aop, aThen, aBlock, argEnv, ev, sput, sputO, binK, binI, unK, builtinK, pickK, Nat.reduceBEq, Nat.reduceAdd, Int.reduceBEq, Int.reduceBNe, Int.reduceLT, aPost, resK, tup, tyf])
    clear hN9
    try clear N9
    have hE := Ext.app (fun _ => False) h [Blk.cells (c5 L) 77 false]
    have hg1 := IntSl_ext hg hE
    refine aws_cut fun N10 hN10 => ?_
    simp (config := {maxSteps := 2000000}) only [s76, ↓aw_region, ↓aw_skip, ↓aw_seq, ↓aw_block, ↓aw_exit, ↓aw_ret, ↓sops_nil, ↓sops_go, ↓dops_nil, ↓dopsX_nil, ↓dopsR_nil, ↓vdn, vup, extr_20, extr_21, extr_30, extr_31, extr_32, List.map_cons, List.map_nil, cond_true, cond_false, aop, aThen, aBlock, argEnv, ev, sput, sputO, binK, binI, unK, builtinK, pickK, Nat.reduceBEq, Nat.reduceAdd, Int.reduceBEq, Int.reduceBNe, Int.reduceLT, aPost, resK, tup, tyf, hg1.len, hii]
    refine hN10 [(0, gv), (2, vint i), (3, vint best), (5, pt h.length), (8, .int .i64 0)] _ _ ?_ (by simp (config := {maxSteps := 2000000}) only [↓aw_region, ↓aw_skip, ↓aw_seq, ↓aw_block, ↓aw_exit, ↓aw_ret, ↓sops_nil, ↓sops_go, ↓dops_nil, ↓dopsX_nil, ↓dopsR_nil, ↓vdn, vup, extr_20, extr_21, extr_30, extr_31, extr_32, List.map_cons, List.map_nil, cond_true, cond_false, aop, aThen, aBlock, argEnv, ev, sput, sputO, binK, binI, unK, builtinK, pickK, Nat.reduceBEq, Nat.reduceAdd, Int.reduceBEq, Int.reduceBNe, Int.reduceLT, aPost, resK, tup, tyf])
    clear hN10
    try clear N10
    refine aws_cut fun Z hZ => ?_
    simp (config := {maxSteps := 2000000}) only [s76, ↓aw_region, ↓aw_skip, ↓aw_seq, ↓aw_block, ↓aw_exit, ↓aw_ret, ↓sops_nil, ↓sops_go, ↓dops_nil, ↓dopsX_nil, ↓dopsR_nil, ↓vdn, vup, extr_20, extr_21, extr_30, extr_31, extr_32, List.map_cons, List.map_nil, cond_true, cond_false, aop, aThen, aBlock, argEnv, ev, sput, sputO, binK, binI, unK, builtinK, pickK, Nat.reduceBEq, Nat.reduceAdd, Int.reduceBEq, Int.reduceBNe, Int.reduceLT, aPost, resK, tup, tyf, hg1.len, hnn, hsh, ↓aw_loop_eq]
    refine aws_hide fun Q hQ => ?_
    refine aw_loopW (γ := Nat × Heap × (Nat → Nat) × Nat) (fun s => s.1 ≤ M ∧ Ext (fun _ => False) h s.2.1 ∧ s.2.1[h.length]? = some (.cells (c5 s.2.2.1) 77 false) ∧ (∀ t, t < i → s.2.2.1 t = L t) ∧
        Rn.IsMin best (fun w => ∃ r, r < s.1 ∧ less r (gn xs i) = 0 ∧ Rn.Rk (gn xs) n k (i + 1) (Rn.rowsF L i ++ [r ||| 2 ^ i]) w) s.2.2.2)
      (fun s => ([(0, gv), (2, vint i), (3, vint s.2.2.2), (5, pt h.length), (8, .int .i64 0), (22, vint M), (23, vint s.1)], s.2.1)) (fun s => M - s.1) (0, h ++ [.cells (c5 L) 77 false], L, best)
      ⟨Nat.zero_le _, hE, get_new _ _, fun _ _ => rfl, (Rn.IsMin.start best).congr fun w => ⟨False.elim, fun ⟨r, hr, _⟩ => by omega⟩⟩ (by simp (config := {maxSteps := 2000000}) only [↓aw_region, ↓aw_skip, ↓aw_seq, ↓aw_block, ↓aw_exit, ↓aw_ret, ↓sops_nil, ↓sops_go, ↓dops_nil, ↓dopsX_nil, ↓dopsR_nil, ↓vdn, vup, extr_20, extr_21, extr_30, extr_31, extr_32, List.map_cons, List.map_nil, cond_true, cond_false, aop, aThen, aBlock, argEnv, ev, sput, sputO, binK, binI, unK, builtinK, pickK, Nat.reduceBEq, Nat.reduceAdd, Int.reduceBEq, Int.reduceBNe, Int.reduceLT, aPost, resK, tup, tyf, Int.natCast_zero]) rfl ?_
    rintro ⟨r, hp, L1, bst⟩ ⟨hr, hEp, hb, hL1, hmin⟩
    simp only at hr hEp hb hL1 hmin
    refine aws_hide fun Q2 hQ2 => ?_
    simp only [l76_0]
    by_cases hrn : (r : Int) < M
    · have hr' : r < M := by omega
      have hrM : r < 2 ^ n := by rw [hM]; exact hr'
      have hgp := IntSl_ext hg hEp
      refine aws_cut fun N11 hN11 => ?_
      simp (config := {maxSteps := 2000000}) only [s76, ↓aw_region, ↓aw_skip, ↓aw_seq, ↓aw_block, ↓aw_exit, ↓aw_ret, ↓sops_nil, ↓sops_go, ↓dops_nil, ↓dopsX_nil, ↓dopsR_nil, ↓vdn, vup, extr_20, extr_21, extr_30, extr_31, extr_32, List.map_cons, List.map_nil, cond_true, cond_false, aop, aThen, aBlock, argEnv, ev, sput, sputO, binK, binI, unK, builtinK, pickK, Nat.reduceBEq, Nat.reduceAdd, Int.reduceBEq, Int.reduceBNe, Int.reduceLT, aPost, resK, tup, tyf, hrn]
      refine hN11 [(0, gv), (2, vint i), (3, vint bst), (5, pt h.length), (8, .int .i64 0), (22, vint M), (23, vint r), (24, .bool true)] _ _ ?_ (by simp (config := {maxSteps := 2000000}) only [↓aw_region, ↓aw_skip, ↓aw_seq, ↓aw_block, ↓aw_exit, ↓aw_ret, ↓sops_nil, ↓sops_go, ↓dops_nil, ↓dopsX_nil, ↓dopsR_nil, ↓vdn, vup, extr_20, extr_21, extr_30, extr_31, extr_32, List.map_cons, List.map_nil, cond_true, cond_false, aop, aThen, aBlock, argEnv, ev, sput, sputO, binK, binI, unK, builtinK, pickK, Nat.reduceBEq, Nat.reduceAdd, Int.reduceBEq, Int.reduceBNe, Int.reduceLT, aPost, resK, tup, tyf])
      clear hN11
      try clear N11
      refine aws_cut fun N12 hN12 => ?_
      simp (config := {maxSteps := 2000000}) only [s76, ↓aw_region, ↓aw_skip, ↓aw_seq, ↓aw_block, ↓aw_exit, ↓aw_ret, ↓sops_nil, ↓sops_go, ↓dops_nil, ↓dopsX_nil, ↓dopsR_nil, ↓vdn, vup, extr_20, extr_21, extr_30, extr_31, extr_32, List.map_cons, List.map_nil, cond_true, cond_false, aop, aThen, aBlock, argEnv, ev, sput, sputO, binK, binI, unK, builtinK, pickK, Nat.reduceBEq, Nat.reduceAdd, Int.reduceBEq, Int.reduceBNe, Int.reduceLT, aPost, resK, tup, tyf]
      refine hN12 [(0, gv), (2, vint i), (3, vint bst), (5, pt h.length), (8, .int .i64 0), (22, vint M), (23, vint r)] _ _ ?_ (by simp (config := {maxSteps := 2000000}) only [↓aw_region, ↓aw_skip, ↓aw_seq, ↓aw_block, ↓aw_exit, ↓aw_ret, ↓sops_nil, ↓sops_go, ↓dops_nil, ↓dopsX_nil, ↓dopsR_nil, ↓vdn, vup, extr_20, extr_21, extr_30, extr_31, extr_32, List.map_cons, List.map_nil, cond_true, cond_false, aop, aThen, aBlock, argEnv, ev, sput, sputO, binK, binI, unK, builtinK, pickK, Nat.reduceBEq, Nat.reduceAdd, Int.reduceBEq, Int.reduceBNe, Int.reduceLT, aPost, resK, tup, tyf])
      clear hN12
      try clear N12
      refine aws_cutW fun K hK => ?_
      have fin : ∀ (hq : Heap) (L2 : Nat → Nat) (b2 : Nat), Ext (fun _ => False) h hq → hq[h.length]? = some (.cells (c5 L2) 77 false) → (∀ t, t < i → L2 t = L t) →
          Rn.IsMin best (fun w => ∃ r', r' < r + 1 ∧ less r' (gn xs i) = 0 ∧ Rn.Rk (gn xs) n k (i + 1) (Rn.rowsF L i ++ [r' ||| 2 ^ i]) w) b2 → ∀ e, ELe e [(0, gv), (2, vint i), (3, vint b2), (5, pt h.length), (8, .int .i64 0), (22, vint M), (23, vint r)] → K e hq := by
        intro hq L2 b2 hE2 hb2 hL2 hm2 e he
        refine hK [(0, gv), (2, vint i), (3, vint b2), (5, pt h.length), (8, .int .i64 0), (22, vint M), (23, vint r)] _ _ ?_ he
        refine aw_aws ?_
        simp (config := {maxSteps := 2000000}) only [s76, ↓aw_region, ↓aw_skip, ↓aw_seq, ↓aw_block, ↓aw_exit, ↓aw_ret, ↓sops_nil, ↓sops_go, ↓dops_nil, ↓dopsX_nil, ↓dopsR_nil, ↓vdn, vup, extr_20, extr_21, extr_30, extr_31, extr_32, List.map_cons, List.map_nil, cond_true, cond_false, aop, aThen, aBlock, argEnv, ev, sput, sputO, binK, binI, unK, builtinK, pickK, Nat.reduceBEq, Nat.reduceAdd, Int.reduceBEq, Int.reduceBNe, Int.reduceLT, aPost, resK, tup, tyf, add1 (show r < 9223372036854775807 by omega)]
        exact hQ2 _ _ _ ⟨(r + 1, hq, L2, b2), ⟨by simp only; omega, hE2, hb2, hL2, hm2⟩, by simp only; omega, by simp (config := {maxSteps := 2000000}) only [↓aw_region, ↓aw_skip, ↓aw_seq, ↓aw_block, ↓aw_exit, ↓aw_ret, ↓sops_nil, ↓sops_go, ↓dops_nil, ↓dopsX_nil, ↓dopsR_nil, ↓vdn, vup, extr_20, extr_21, extr_30, extr_31, extr_32, List.map_cons, List.map_nil, cond_true, cond_false, aop, aThen, aBlock, argEnv, ev, sput, sputO, binK, binI, unK, builtinK, pickK, Nat.reduceBEq, Nat.reduceAdd, Int.reduceBEq, Int.reduceBNe, Int.reduceLT, aPost, resK, tup, tyf], rfl⟩
      clear hK
      refine aws_block ?_
      refine aws_cut fun N13 hN13 => ?_
      simp (config := {maxSteps := 2000000}) only [s76, ↓aw_region, ↓aw_skip, ↓aw_seq, ↓aw_block, ↓aw_exit, ↓aw_ret, ↓sops_nil, ↓sops_go, ↓dops_nil, ↓dopsX_nil, ↓dopsR_nil, ↓vdn, vup, extr_20, extr_21, extr_30, extr_31, extr_32, List.map_cons, List.map_nil, cond_true, cond_false, aop, aThen, aBlock, argEnv, ev, sput, sputO, binK, binI, unK, builtinK, pickK, Nat.reduceBEq, Nat.reduceAdd, Int.reduceBEq, Int.reduceBNe, Int.reduceLT, aPost, resK, tup, tyf]
      refine hN13 [(0, gv), (2, vint i), (3, vint bst), (5, pt h.length), (8, .int .i64 0), (9, vint r), (22, vint M), (23, vint r)] _ _ ?_ (by simp (config := {maxSteps := 2000000}) only [↓aw_region, ↓aw_skip, ↓aw_seq, ↓aw_block, ↓aw_exit, ↓aw_ret, ↓sops_nil, ↓sops_go, ↓dops_nil, ↓dopsX_nil, ↓dopsR_nil, ↓vdn, vup, extr_20, extr_21, extr_30, extr_31, extr_32, List.map_cons, List.map_nil, cond_true, cond_false, aop, aThen, aBlock, argEnv, ev, sput, sputO, binK, binI, unK, builtinK, pickK, Nat.reduceBEq, Nat.reduceAdd, Int.reduceBEq, Int.reduceBNe, Int.reduceLT, aPost, resK, tup, tyf])
      clear hN13
      try clear N13
      refine aw_aws ?_
      by_cases hok : less r (gn xs i) = 0
      · have hb0 : (less r (gn xs i) == 0) = true := beq_iff_eq.2 hok
        have hor : bitsV .or .i64 (r : Int) ((2 ^ i : Nat) : Int) = ((r ||| 2 ^ i : Nat) : Int) := bitsV_or (by omega) (by omega)
        have hlt := get_lt hb
        simp (config := {maxSteps := 2000000}) only [s76, ↓aw_region, ↓aw_skip, ↓aw_seq, ↓aw_block, ↓aw_exit, ↓aw_ret, ↓sops_nil, ↓sops_go, ↓dops_nil, ↓dopsX_nil, ↓dopsR_nil, ↓vdn, vup, extr_20, extr_21, extr_30, extr_31, extr_32, List.map_cons, List.map_nil, cond_true, cond_false, aop, aThen, aBlock, argEnv, ev, sput, sputO, binK, binI, unK, builtinK, pickK, Nat.reduceBEq, Nat.reduceAdd, Int.reduceBEq, Int.reduceBNe, Int.reduceLT, aPost, resK, tup, tyf, callK, List.nil_append, List.append_nil, List.toList_toArray, List.cons_append, hgp.idx el_22 esz_3 hiX, hgp.load shp_3 hiX, hge, bitsV_andNot (show r < 9223372036854775808 by omega) (show gn xs i < 9223372036854775808 by omega), hz, hb0, hnn, shlI1 (show i ≤ 62 by omega), hor, ix5 hi5, st5 hb hi5, loadA (get_set hlt (Blk.cells (c5 (upd L1 i (r ||| 2 ^ i))) 77 false)) (hs5 _), add1 (show i < 9223372036854775807 by omega)]
        have hEs : Ext (fun _ => False) h (hp.set h.length (.cells (c5 (upd L1 i (r ||| 2 ^ i))) 77 false)) := hEp.set_ge (Nat.le_refl _) _
        have hrow := rowsF_upd (r := r ||| 2 ^ i) hL1
        have hlt2 : r ||| 2 ^ i < 2 ^ n := Nat.or_lt_two_pow hrM (Nat.pow_lt_pow_right (by decide) hin')
        refine (ih (i + 1) (by omega) (L := upd L1 i (r ||| 2 ^ i)) (best := bst) (IntSl_ext hg hEs) fun t ht => ?_).mono ?_
        · unfold upd
          split
          · exact hlt2
          · rw [hL1 t (by omega)]; exact hL t (by omega)
        rintro _ h2 ⟨hE2, v2, rfl, hm2⟩
        rw [hrow] at hm2
        try simp (config := {maxSteps := 2000000}) only [s76, ↓aw_region, ↓aw_skip, ↓aw_seq, ↓aw_block, ↓aw_exit, ↓aw_ret, ↓sops_nil, ↓sops_go, ↓dops_nil, ↓dopsX_nil, ↓dopsR_nil, ↓vdn, vup, extr_20, extr_21, extr_30, extr_31, extr_32, List.map_cons, List.map_nil, cond_true, cond_false, aop, aThen, aBlock, argEnv, ev, sput, sputO, binK, binI, unK, builtinK, pickK, Nat.reduceBEq, Nat.reduceAdd, Int.reduceBEq, Int.reduceBNe, Int.reduceLT, aPost, resK, tup, tyf]
        refine fin h2 (upd L1 i (r ||| 2 ^ i)) v2 (hEs.trans hE2) ((hE2.2 _ (by rw [List.length_set]; exact hlt) id).trans (get_set hlt _)) (fun t ht => ?_) ((hmin.next hm2).congr fun w => ?_) _ (by simp (config := {maxSteps := 2000000}) only [↓aw_region, ↓aw_skip, ↓aw_seq, ↓aw_block, ↓aw_exit, ↓aw_ret, ↓sops_nil, ↓sops_go, ↓dops_nil, ↓dopsX_nil, ↓dopsR_nil, ↓vdn, vup, extr_20, extr_21, extr_30, extr_31, extr_32, List.map_cons, List.map_nil, cond_true, cond_false, aop, aThen, aBlock, argEnv, ev, sput, sputO, binK, binI, unK, builtinK, pickK, Nat.reduceBEq, Nat.reduceAdd, Int.reduceBEq, Int.reduceBNe, Int.reduceLT, aPost, resK, tup, tyf])
        · rw [upd, if_neg (by omega)]; exact hL1 t ht
        · constructor
          · rintro (⟨r', h1, h2⟩ | h)
            · exact ⟨r', by omega, h2⟩
            · exact ⟨r, by omega, hok, h⟩
          · rintro ⟨r', h1, h2⟩
            by_cases e : r' = r
            · subst e; exact .inr h2.2
            · exact .inl ⟨r', by omega, h2⟩
      · have hb0 : (less r (gn xs i) == 0) = false := beq_eq_false_iff_ne.2 hok
        simp (config := {maxSteps := 2000000}) only [s76, ↓aw_region, ↓aw_skip, ↓aw_seq, ↓aw_block, ↓aw_exit, ↓aw_ret, ↓sops_nil, ↓sops_go, ↓dops_nil, ↓dopsX_nil, ↓dopsR_nil, ↓vdn, vup, extr_20, extr_21, extr_30, extr_31, extr_32, List.map_cons, List.map_nil, cond_true, cond_false, aop, aThen, aBlock, argEnv, ev, sput, sputO, binK, binI, unK, builtinK, pickK, Nat.reduceBEq, Nat.reduceAdd, Int.reduceBEq, Int.reduceBNe, Int.reduceLT, aPost, resK, tup, tyf, hgp.idx el_22 esz_3 hiX, hgp.load shp_3 hiX, hge, bitsV_andNot (show r < 9223372036854775808 by omega) (show gn xs i < 9223372036854775808 by omega), hz, hb0]
        refine fin hp L1 bst hEp hb hL1 (hmin.congr fun w => ?_) _ (by simp (config := {maxSteps := 2000000}) only [↓aw_region, ↓aw_skip, ↓aw_seq, ↓aw_block, ↓aw_exit, ↓aw_ret, ↓sops_nil, ↓sops_go, ↓dops_nil, ↓dopsX_nil, ↓dopsR_nil, ↓vdn, vup, extr_20, extr_21, extr_30, extr_31, extr_32, List.map_cons, List.map_nil, cond_true, cond_false, aop, aThen, aBlock, argEnv, ev, sput, sputO, binK, binI, unK, builtinK, pickK, Nat.reduceBEq, Nat.reduceAdd, Int.reduceBEq, Int.reduceBNe, Int.reduceLT, aPost, resK, tup, tyf])
        constructor
        · rintro ⟨r', h1, h2⟩; exact ⟨r', by omega, h2⟩
        · rintro ⟨r', h1, h2⟩
          refine ⟨r', ?_, h2⟩
          by_cases e : r' = r
          · subst e; exact absurd h2.1 hok
          · omega
    · obtain rfl : M = r := by omega
      refine aws_cut fun K hK => ?_
      simp (config := {maxSteps := 2000000}) only [s76, ↓aw_region, ↓aw_skip, ↓aw_seq, ↓aw_block, ↓aw_exit, ↓aw_ret, ↓sops_nil, ↓sops_go, ↓dops_nil, ↓dopsX_nil, ↓dopsR_nil, ↓vdn, vup, extr_20, extr_21, extr_30, extr_31, extr_32, List.map_cons, List.map_nil, cond_true, cond_false, aop, aThen, aBlock, argEnv, ev, sput, sputO, binK, binI, unK, builtinK, pickK, Nat.reduceBEq, Nat.reduceAdd, Int.reduceBEq, Int.reduceBNe, Int.reduceLT, aPost, resK, tup, tyf, Int.lt_irrefl]
      refine hK [(0, gv), (2, vint i), (3, vint bst), (5, pt h.length), (8, .int .i64 0), (22, vint M), (23, vint M), (24, .bool false)] _ _ ?_ (by simp (config := {maxSteps := 2000000}) only [↓aw_region, ↓aw_skip, ↓aw_seq, ↓aw_block, ↓aw_exit, ↓aw_ret, ↓sops_nil, ↓sops_go, ↓dops_nil, ↓dopsX_nil, ↓dopsR_nil, ↓vdn, vup, extr_20, extr_21, extr_30, extr_31, extr_32, List.map_cons, List.map_nil, cond_true, cond_false, aop, aThen, aBlock, argEnv, ev, sput, sputO, binK, binI, unK, builtinK, pickK, Nat.reduceBEq, Nat.reduceAdd, Int.reduceBEq, Int.reduceBNe, Int.reduceLT, aPost, resK, tup, tyf])
      clear hK
      try clear K
      refine aw_aws ?_
      simp (config := {maxSteps := 2000000}) only [s76, ↓aw_region, ↓aw_skip, ↓aw_seq, ↓aw_block, ↓aw_exit, ↓aw_ret, ↓sops_nil, ↓sops_go, ↓dops_nil, ↓dopsX_nil, ↓dopsR_nil, ↓vdn, vup, extr_20, extr_21, extr_30, extr_31, extr_32, List.map_cons, List.map_nil, cond_true, cond_false, aop, aThen, aBlock, argEnv, ev, sput, sputO, binK, binI, unK, builtinK, pickK, Nat.reduceBEq, Nat.reduceAdd, Int.reduceBEq, Int.reduceBNe, Int.reduceLT, aPost, resK, tup, tyf]
      refine hQ2 _ _ _ (hQ _ _ _ ?_)
      simp (config := {maxSteps := 2000000}) only [s76, ↓aw_region, ↓aw_skip, ↓aw_seq, ↓aw_block, ↓aw_exit, ↓aw_ret, ↓sops_nil, ↓sops_go, ↓dops_nil, ↓dopsX_nil, ↓dopsR_nil, ↓vdn, vup, extr_20, extr_21, extr_30, extr_31, extr_32, List.map_cons, List.map_nil, cond_true, cond_false, aop, aThen, aBlock, argEnv, ev, sput, sputO, binK, binI, unK, builtinK, pickK, Nat.reduceBEq, Nat.reduceAdd, Int.reduceBEq, Int.reduceBNe, Int.reduceLT, aPost, resK, tup, tyf, if_true]
      refine hZ [(3, vint bst)] _ _ ?_ (by simp (config := {maxSteps := 2000000}) only [↓aw_region, ↓aw_skip, ↓aw_seq, ↓aw_block, ↓aw_exit, ↓aw_ret, ↓sops_nil, ↓sops_go, ↓dops_nil, ↓dopsX_nil, ↓dopsR_nil, ↓vdn, vup, extr_20, extr_21, extr_30, extr_31, extr_32, List.map_cons, List.map_nil, cond_true, cond_false, aop, aThen, aBlock, argEnv, ev, sput, sputO, binK, binI, unK, builtinK, pickK, Nat.reduceBEq, Nat.reduceAdd, Int.reduceBEq, Int.reduceBNe, Int.reduceLT, aPost, resK, tup, tyf])
      clear hZ
      try clear Z
      refine aw_aws ?_
      simp (config := {maxSteps := 2000000}) only [s76, ↓aw_region, ↓aw_skip, ↓aw_seq, ↓aw_block, ↓aw_exit, ↓aw_ret, ↓sops_nil, ↓sops_go, ↓dops_nil, ↓dopsX_nil, ↓dopsR_nil, ↓vdn, vup, extr_20, extr_21, extr_30, extr_31, extr_32, List.map_cons, List.map_nil, cond_true, cond_false, aop, aThen, aBlock, argEnv, ev, sput, sputO, binK, binI, unK, builtinK, pickK, Nat.reduceBEq, Nat.reduceAdd, Int.reduceBEq, Int.reduceBNe, Int.reduceLT, aPost, resK, tup, tyf]
      refine ⟨hEp, bst, rfl, hmin.congr fun w => ?_⟩
      rw [Rn.Rk.succ]
      constructor
      · rintro ⟨s, h1, h2, h3⟩
        exact ⟨s ||| 2 ^ i, (okRow_or g hn hin').2 ⟨s, by rw [hM]; exact h1, h2, rfl⟩, h3⟩
      · rintro ⟨r', h1, h2⟩
        obtain ⟨s, a1, a2, rfl⟩ := (okRow_or g hn hin').1 h1
        exact ⟨s, by rw [hM] at a1; exact a1, a2, h2⟩

theorem s50_callW [Tabs Tryd.prog] {args : List Value} {h : Heap} {Q : Value → Heap → Prop} (hsz : args.length ≤ 8) (hk : AWS Tryd.prog 8 s50 (aPost Tryd.prog [.tmp 2] Q) (argEnv 0 args) h) : ACall Tryd.prog 50 args h Q :=
  acall_w Tryd.func50 rfl (enters_of Tryd.func50 (by kernel_rfl) rfl) rfl rfl (by decide) s50_strip s50_ok hsz hk
theorem rfit0_call [Tabs prog] {h : Heap} {v : Value} {xs : List Int} (hv : IntSl h v xs) (g : Gs xs) (h5 : xs.length ≤ 5) : ACall prog 50 [v] h fun r h' => Ext (fun _ => False) h h' ∧ ∃ m : Nat, r = vint m ∧ FitM xs m := by
  have hb : ∀ {K : Value → Prop}, buildK prog 77 [] K = K (.agg (c5 fun _ => 0).toArray) := fun {K} => by
    simp [buildK, zero_77, pl_77_0, fillL, c5, List.range_succ]
  refine s50_callW (by simp) ?_
  simp only [s50]
  refine aws_cut fun N14 hN14 => ?_
  simp (config := {maxSteps := 2000000}) only [s50, ↓aw_region, ↓aw_skip, ↓aw_seq, ↓aw_block, ↓aw_exit, ↓aw_ret, ↓sops_nil, ↓sops_go, ↓dops_nil, ↓dopsX_nil, ↓dopsR_nil, ↓vdn, vup, extr_20, extr_21, extr_30, extr_31, extr_32, List.map_cons, List.map_nil, cond_true, cond_false, aop, aThen, aBlock, argEnv, ev, sput, sputO, binK, binI, unK, builtinK, pickK, Nat.reduceBEq, Nat.reduceAdd, Int.reduceBEq, Int.reduceBNe, Int.reduceLT, aPost, resK, tup, tyf]
  refine hN14 [(0, v), (2, .int .i64 0)] _ _ ?_ (by simp (config := {maxSteps := 2000000}) only [↓aw_region, ↓aw_skip, ↓aw_seq, ↓aw_block, ↓aw_exit, ↓aw_ret, ↓sops_nil, ↓sops_go, ↓dops_nil, ↓dopsX_nil, ↓dopsR_nil, ↓vdn, vup, extr_20, extr_21, extr_30, extr_31, extr_32, List.map_cons, List.map_nil, cond_true, cond_false, aop, aThen, aBlock, argEnv, ev, sput, sputO, binK, binI, unK, builtinK, pickK, Nat.reduceBEq, Nat.reduceAdd, Int.reduceBEq, Int.reduceBNe, Int.reduceLT, aPost, resK, tup, tyf])
  clear hN14
  try clear N14
  refine aw_aws ?_
  simp (config := {maxSteps := 2000000}) only [s50, ↓aw_region, ↓aw_skip, ↓aw_seq, ↓aw_block, ↓aw_exit, ↓aw_ret, ↓sops_nil, ↓sops_go, ↓dops_nil, ↓dopsX_nil, ↓dopsR_nil, ↓vdn, vup, extr_20, extr_21, extr_30, extr_31, extr_32, List.map_cons, List.map_nil, cond_true, cond_false, aop, aThen, aBlock, argEnv, ev, sput, sputO, binK, binI, unK, builtinK, pickK, Nat.reduceBEq, Nat.reduceAdd, Int.reduceBEq, Int.reduceBNe, Int.reduceLT, aPost, resK, tup, tyf, callK, List.nil_append, List.append_nil, List.toList_toArray, List.cons_append, hb, hv.len]
  refine (rfit_call g rfl h5 xs.length 0 (by omega) (L := fun _ => 0) (best := xs.length) hv (fun _ h => by omega)).mono ?_
  rintro _ h' ⟨hE, m, rfl, hm⟩
  exact ⟨hE, m, rfl, hm⟩

theorem s14_callW [Tabs Tryd.prog] {args : List Value} {h : Heap} {Q : Value → Heap → Prop} (hsz : args.length ≤ 39) (hk : AWS Tryd.prog 39 s14 (aPost Tryd.prog [.tmp 2] Q) (argEnv 0 args) h) : ACall Tryd.prog 14 args h Q :=
  acall_w Tryd.func14 rfl (enters_of Tryd.func14 (by kernel_rfl) rfl) rfl rfl (by decide) s14_strip s14_ok hsz hk
theorem law_fits [BitTab prog 0] {h : Heap} {v : Value} {xs : List Int} (hv : IntSl h v xs) (hl : xs.length < 9223372036854775808) (hx : ∀ x ∈ xs, -9223372036854775808 ≤ x ∧ x < 9223372036854775808) :
    ACall prog 14 [v] h fun r _ => r = .bool true := by
  have e22 : ((2 : Int) == 2) = true := rfl
  have e0 : ((0 : Int) == 0) = true := rfl
  refine s14_callW (by simp) ?_
  simp only [s14]
  refine aws_cut fun N15 hN15 => ?_
  simp (config := {maxSteps := 2000000}) only [s14, ↓aw_region, ↓aw_skip, ↓aw_seq, ↓aw_block, ↓aw_exit, ↓aw_ret, ↓sops_nil, ↓sops_go, ↓dops_nil, ↓dopsX_nil, ↓dopsR_nil, ↓vdn, vup, extr_20, extr_21, extr_30, extr_31, extr_32, List.map_cons, List.map_nil, cond_true, cond_false, aop, aThen, aBlock, argEnv, ev, sput, sputO, binK, binI, unK, builtinK, pickK, Nat.reduceBEq, Nat.reduceAdd, Int.reduceBEq, Int.reduceBNe, Int.reduceLT, aPost, resK, tup, tyf]
  refine hN15 [(0, v), (2, .bool false)] _ _ ?_ (by simp (config := {maxSteps := 2000000}) only [↓aw_region, ↓aw_skip, ↓aw_seq, ↓aw_block, ↓aw_exit, ↓aw_ret, ↓sops_nil, ↓sops_go, ↓dops_nil, ↓dopsX_nil, ↓dopsR_nil, ↓vdn, vup, extr_20, extr_21, extr_30, extr_31, extr_32, List.map_cons, List.map_nil, cond_true, cond_false, aop, aThen, aBlock, argEnv, ev, sput, sputO, binK, binI, unK, builtinK, pickK, Nat.reduceBEq, Nat.reduceAdd, Int.reduceBEq, Int.reduceBNe, Int.reduceLT, aPost, resK, tup, tyf])
  clear hN15
  try clear N15
  refine aws_cut fun N16 hN16 => ?_
  simp (config := {maxSteps := 2000000}) only [s14, ↓aw_region, ↓aw_skip, ↓aw_seq, ↓aw_block, ↓aw_exit, ↓aw_ret, ↓sops_nil, ↓sops_go, ↓dops_nil, ↓dopsX_nil, ↓dopsR_nil, ↓vdn, vup, extr_20, extr_21, extr_30, extr_31, extr_32, List.map_cons, List.map_nil, cond_true, cond_false, aop, aThen, aBlock, argEnv, ev, sput, sputO, binK, binI, unK, builtinK, pickK, Nat.reduceBEq, Nat.reduceAdd, Int.reduceBEq, Int.reduceBNe, Int.reduceLT, aPost, resK, tup, tyf, callK, List.nil_append, List.append_nil, List.toList_toArray, List.cons_append]
  refine (list_call hv hl).mono ?_
  rintro l1 _ ⟨hl1, g1, rfl⟩
  refine (fit_call hl1 (take80_len xs) (take80_rng hx)).mono ?_
  rintro r1 h1 ⟨hE1, hr1⟩
  have hv1 := IntSl_ext hv ((Ext.app (fun _ => False) h g1).trans hE1)
  by_cases hok : grs xs = true ∧ xs.length ≤ 5
  · rw [grs_take, grs_same hok.1, if_pos hok] at hr1
    obtain ⟨m, rfl, hm⟩ := hr1
    have hng : ¬ (5 : Int) < (xs.length : Int) := by have := hok.2; omega
    simp (config := {maxSteps := 2000000}) only [s14, ↓aw_region, ↓aw_skip, ↓aw_seq, ↓aw_block, ↓aw_exit, ↓aw_ret, ↓sops_nil, ↓sops_go, ↓dops_nil, ↓dopsX_nil, ↓dopsR_nil, ↓vdn, vup, extr_20, extr_21, extr_30, extr_31, extr_32, List.map_cons, List.map_nil, cond_true, cond_false, aop, aThen, aBlock, argEnv, ev, sput, sputO, binK, binI, unK, builtinK, pickK, Nat.reduceBEq, Nat.reduceAdd, Int.reduceBEq, Int.reduceBNe, Int.reduceLT, aPost, resK, tup, tyf]
    refine hN16 [(0, v), (2, .bool false), (3, vint m), (4, .int .i64 0)] _ _ ?_ (by simp (config := {maxSteps := 2000000}) only [↓aw_region, ↓aw_skip, ↓aw_seq, ↓aw_block, ↓aw_exit, ↓aw_ret, ↓sops_nil, ↓sops_go, ↓dops_nil, ↓dopsX_nil, ↓dopsR_nil, ↓vdn, vup, extr_20, extr_21, extr_30, extr_31, extr_32, List.map_cons, List.map_nil, cond_true, cond_false, aop, aThen, aBlock, argEnv, ev, sput, sputO, binK, binI, unK, builtinK, pickK, Nat.reduceBEq, Nat.reduceAdd, Int.reduceBEq, Int.reduceBNe, Int.reduceLT, aPost, resK, tup, tyf])
    clear hN16
    try clear N16
    refine aws_cut fun N17 hN17 => ?_
    simp (config := {maxSteps := 2000000}) only [s14, ↓aw_region, ↓aw_skip, ↓aw_seq, ↓aw_block, ↓aw_exit, ↓aw_ret, ↓sops_nil, ↓sops_go, ↓dops_nil, ↓dopsX_nil, ↓dopsR_nil, ↓vdn, vup, extr_20, extr_21, extr_30, extr_31, extr_32, List.map_cons, List.map_nil, cond_true, cond_false, aop, aThen, aBlock, argEnv, ev, sput, sputO, binK, binI, unK, builtinK, pickK, Nat.reduceBEq, Nat.reduceAdd, Int.reduceBEq, Int.reduceBNe, Int.reduceLT, aPost, resK, tup, tyf, callK, List.nil_append, List.append_nil, List.toList_toArray, List.cons_append]
    refine (rgraph_call hv1 hl hx).mono ?_
    rintro _ h1 ⟨rfl, rfl⟩
    simp (config := {maxSteps := 2000000}) only [s14, ↓aw_region, ↓aw_skip, ↓aw_seq, ↓aw_block, ↓aw_exit, ↓aw_ret, ↓sops_nil, ↓sops_go, ↓dops_nil, ↓dopsX_nil, ↓dopsR_nil, ↓vdn, vup, extr_20, extr_21, extr_30, extr_31, extr_32, List.map_cons, List.map_nil, cond_true, cond_false, aop, aThen, aBlock, argEnv, ev, sput, sputO, binK, binI, unK, builtinK, pickK, Nat.reduceBEq, Nat.reduceAdd, Int.reduceBEq, Int.reduceBNe, Int.reduceLT, aPost, resK, tup, tyf, hok.1, Bool.not_true, hv1.len, gt_iff_lt, hng]
    refine hN17 [(0, v), (2, .bool false), (3, vint m), (4, .int .i64 0)] _ _ ?_ (by simp (config := {maxSteps := 2000000}) only [↓aw_region, ↓aw_skip, ↓aw_seq, ↓aw_block, ↓aw_exit, ↓aw_ret, ↓sops_nil, ↓sops_go, ↓dops_nil, ↓dopsX_nil, ↓dopsR_nil, ↓vdn, vup, extr_20, extr_21, extr_30, extr_31, extr_32, List.map_cons, List.map_nil, cond_true, cond_false, aop, aThen, aBlock, argEnv, ev, sput, sputO, binK, binI, unK, builtinK, pickK, Nat.reduceBEq, Nat.reduceAdd, Int.reduceBEq, Int.reduceBNe, Int.reduceLT, aPost, resK, tup, tyf])
    clear hN17
    try clear N17
    refine aw_aws ?_
    simp (config := {maxSteps := 2000000}) only [s14, ↓aw_region, ↓aw_skip, ↓aw_seq, ↓aw_block, ↓aw_exit, ↓aw_ret, ↓sops_nil, ↓sops_go, ↓dops_nil, ↓dopsX_nil, ↓dopsR_nil, ↓vdn, vup, extr_20, extr_21, extr_30, extr_31, extr_32, List.map_cons, List.map_nil, cond_true, cond_false, aop, aThen, aBlock, argEnv, ev, sput, sputO, binK, binI, unK, builtinK, pickK, Nat.reduceBEq, Nat.reduceAdd, Int.reduceBEq, Int.reduceBNe, Int.reduceLT, aPost, resK, tup, tyf, callK, List.nil_append, List.append_nil, List.toList_toArray, List.cons_append]
    refine (rfit0_call hv1 (grs_iff.1 hok.1) hok.2).mono ?_
    rintro _ h2 ⟨hE2, m2, rfl, hm2⟩
    obtain rfl := hm.uniq hm2
    have hmm : ((m : Int) == (m : Int)) = true := beq_self_eq_true _
    simp (config := {maxSteps := 2000000}) only [s14, ↓aw_region, ↓aw_skip, ↓aw_seq, ↓aw_block, ↓aw_exit, ↓aw_ret, ↓sops_nil, ↓sops_go, ↓dops_nil, ↓dopsX_nil, ↓dopsR_nil, ↓vdn, vup, extr_20, extr_21, extr_30, extr_31, extr_32, List.map_cons, List.map_nil, cond_true, cond_false, aop, aThen, aBlock, argEnv, ev, sput, sputO, binK, binI, unK, builtinK, pickK, Nat.reduceBEq, Nat.reduceAdd, Int.reduceBEq, Int.reduceBNe, Int.reduceLT, aPost, resK, tup, tyf, callK, List.nil_append, List.append_nil, List.toList_toArray, List.cons_append, hmm, e0]
    refine awk fun g _ => ?_
    simp (config := {maxSteps := 2000000}) only [s14, ↓aw_region, ↓aw_skip, ↓aw_seq, ↓aw_block, ↓aw_exit, ↓aw_ret, ↓sops_nil, ↓sops_go, ↓dops_nil, ↓dopsX_nil, ↓dopsR_nil, ↓vdn, vup, extr_20, extr_21, extr_30, extr_31, extr_32, List.map_cons, List.map_nil, cond_true, cond_false, aop, aThen, aBlock, argEnv, ev, sput, sputO, binK, binI, unK, builtinK, pickK, Nat.reduceBEq, Nat.reduceAdd, Int.reduceBEq, Int.reduceBNe, Int.reduceLT, aPost, resK, tup, tyf]
  · have hno : ¬ (grs (xs.take 80) = true ∧ (xs.take 80).length ≤ 5) := fun h => by
      rw [grs_take] at h
      rw [grs_same h.1] at h
      exact hok h
    rw [if_neg hno] at hr1
    subst hr1
    simp (config := {maxSteps := 2000000}) only [s14, ↓aw_region, ↓aw_skip, ↓aw_seq, ↓aw_block, ↓aw_exit, ↓aw_ret, ↓sops_nil, ↓sops_go, ↓dops_nil, ↓dopsX_nil, ↓dopsR_nil, ↓vdn, vup, extr_20, extr_21, extr_30, extr_31, extr_32, List.map_cons, List.map_nil, cond_true, cond_false, aop, aThen, aBlock, argEnv, ev, sput, sputO, binK, binI, unK, builtinK, pickK, Nat.reduceBEq, Nat.reduceAdd, Int.reduceBEq, Int.reduceBNe, Int.reduceLT, aPost, resK, tup, tyf]
    refine hN16 [(0, v), (2, .bool false), (3, .int .i64 0), (4, .int .i64 2)] _ _ ?_ (by simp (config := {maxSteps := 2000000}) only [↓aw_region, ↓aw_skip, ↓aw_seq, ↓aw_block, ↓aw_exit, ↓aw_ret, ↓sops_nil, ↓sops_go, ↓dops_nil, ↓dopsX_nil, ↓dopsR_nil, ↓vdn, vup, extr_20, extr_21, extr_30, extr_31, extr_32, List.map_cons, List.map_nil, cond_true, cond_false, aop, aThen, aBlock, argEnv, ev, sput, sputO, binK, binI, unK, builtinK, pickK, Nat.reduceBEq, Nat.reduceAdd, Int.reduceBEq, Int.reduceBNe, Int.reduceLT, aPost, resK, tup, tyf])
    clear hN16
    try clear N16
    refine aws_cut fun N18 hN18 => ?_
    simp (config := {maxSteps := 2000000}) only [s14, ↓aw_region, ↓aw_skip, ↓aw_seq, ↓aw_block, ↓aw_exit, ↓aw_ret, ↓sops_nil, ↓sops_go, ↓dops_nil, ↓dopsX_nil, ↓dopsR_nil, ↓vdn, vup, extr_20, extr_21, extr_30, extr_31, extr_32, List.map_cons, List.map_nil, cond_true, cond_false, aop, aThen, aBlock, argEnv, ev, sput, sputO, binK, binI, unK, builtinK, pickK, Nat.reduceBEq, Nat.reduceAdd, Int.reduceBEq, Int.reduceBNe, Int.reduceLT, aPost, resK, tup, tyf, callK, List.nil_append, List.append_nil, List.toList_toArray, List.cons_append]
    refine (rgraph_call hv1 hl hx).mono ?_
    rintro _ h1 ⟨rfl, rfl⟩
    cases hg : grs xs with
    | false =>
      simp (config := {maxSteps := 2000000}) only [s14, ↓aw_region, ↓aw_skip, ↓aw_seq, ↓aw_block, ↓aw_exit, ↓aw_ret, ↓sops_nil, ↓sops_go, ↓dops_nil, ↓dopsX_nil, ↓dopsR_nil, ↓vdn, vup, extr_20, extr_21, extr_30, extr_31, extr_32, List.map_cons, List.map_nil, cond_true, cond_false, aop, aThen, aBlock, argEnv, ev, sput, sputO, binK, binI, unK, builtinK, pickK, Nat.reduceBEq, Nat.reduceAdd, Int.reduceBEq, Int.reduceBNe, Int.reduceLT, aPost, resK, tup, tyf, callK, List.nil_append, List.append_nil, List.toList_toArray, List.cons_append, hg, Bool.not_false, e0, e22]
      refine awk fun g _ => ?_
      simp (config := {maxSteps := 2000000}) only [s14, ↓aw_region, ↓aw_skip, ↓aw_seq, ↓aw_block, ↓aw_exit, ↓aw_ret, ↓sops_nil, ↓sops_go, ↓dops_nil, ↓dopsX_nil, ↓dopsR_nil, ↓vdn, vup, extr_20, extr_21, extr_30, extr_31, extr_32, List.map_cons, List.map_nil, cond_true, cond_false, aop, aThen, aBlock, argEnv, ev, sput, sputO, binK, binI, unK, builtinK, pickK, Nat.reduceBEq, Nat.reduceAdd, Int.reduceBEq, Int.reduceBNe, Int.reduceLT, aPost, resK, tup, tyf]
    | true =>
      have hgt : (5 : Int) < (xs.length : Int) := by
        have : ¬ xs.length ≤ 5 := fun h => hok ⟨hg, h⟩
        omega
      simp (config := {maxSteps := 2000000}) only [s14, ↓aw_region, ↓aw_skip, ↓aw_seq, ↓aw_block, ↓aw_exit, ↓aw_ret, ↓sops_nil, ↓sops_go, ↓dops_nil, ↓dopsX_nil, ↓dopsR_nil, ↓vdn, vup, extr_20, extr_21, extr_30, extr_31, extr_32, List.map_cons, List.map_nil, cond_true, cond_false, aop, aThen, aBlock, argEnv, ev, sput, sputO, binK, binI, unK, builtinK, pickK, Nat.reduceBEq, Nat.reduceAdd, Int.reduceBEq, Int.reduceBNe, Int.reduceLT, aPost, resK, tup, tyf, callK, List.nil_append, List.append_nil, List.toList_toArray, List.cons_append, hg, Bool.not_true, hv1.len, gt_iff_lt, hgt, e0, e22]
      refine awk fun g _ => ?_
      simp (config := {maxSteps := 2000000}) only [s14, ↓aw_region, ↓aw_skip, ↓aw_seq, ↓aw_block, ↓aw_exit, ↓aw_ret, ↓sops_nil, ↓sops_go, ↓dops_nil, ↓dopsX_nil, ↓dopsR_nil, ↓vdn, vup, extr_20, extr_21, extr_30, extr_31, extr_32, List.map_cons, List.map_nil, cond_true, cond_false, aop, aThen, aBlock, argEnv, ev, sput, sputO, binK, binI, unK, builtinK, pickK, Nat.reduceBEq, Nat.reduceAdd, Int.reduceBEq, Int.reduceBNe, Int.reduceLT, aPost, resK, tup, tyf]
end Go.Proofs.Tryd.Am
