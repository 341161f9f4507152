/-
  sure: Join and Sum, by the program and by the reference.
-/
import Derived.Test.YtaagkbbphgdcdaaDoorSuJoin
set_option linter.all false
namespace Go.Proofs.Tryd.Am
open Go.Am Sr
set_option maxRecDepth 100000
set_option maxHeartbeats 1000000

/-- What Join gives back. -/
def joinR (h' : Heap) (xs ys : List Int) (r : Value) : Prop :=
  if grs xs = true ∧ grs ys = true then (if xs.length * ys.length ≤ 6 then ∃ u, r = .tuple #[u, .int .i64 0] ∧ IntSl h' u (joinL xs ys) else r = .tuple #[.slice none 0 0, .int .i64 6]) else r = .tuple #[.slice none 0 0, .int .i64 2]
theorem set_app2 (h : Heap) (A B C : Blk) : (h ++ [A] ++ [B]).set h.length C = h ++ [C] ++ [B] := by
  rw [List.set_append_left _ _ (by simp), set_last]

theorem s31_callW [Tabs Tryd.prog] {args : List Value} {h : Heap} {Q : Value → Heap → Prop} (hsz : args.length ≤ 36) (hk : AWS Tryd.prog 36 s31 (aPost Tryd.prog [.tmp 4, .tmp 5] Q) (argEnv 0 args) h) : ACall Tryd.prog 31 args h Q :=
  acall_w Tryd.func31 rfl (enters_of Tryd.func31 (by kernel_rfl) rfl) rfl rfl (by decide) s31_strip s31_ok hsz hk
theorem join_call [Tabs prog] {h : Heap} {v w : Value} {xs ys : List Int} (hv : IntSl h v xs) (hl : xs.length < 9223372036854775808) (hx : ∀ x ∈ xs, -9223372036854775808 ≤ x ∧ x < 9223372036854775808)
    (hw : IntSl h w ys) (hl2 : ys.length < 9223372036854775808) (hx2 : ∀ x ∈ ys, -9223372036854775808 ≤ x ∧ x < 9223372036854775808) : ACall prog 31 [v, w] h fun r h' => Ext (fun _ => False) h h' ∧ joinR h' xs ys r := by
  refine s31_callW (by simp) ?_
  simp only [s31]
  refine aws_cut fun N1 hN1 => ?_
  simp (config := {maxSteps := 2000000}) only [s31, ↓aw_region, ↓aw_skip, ↓aw_seq, ↓aw_block, ↓aw_exit, ↓aw_ret, ↓sops_nil, ↓sops_go, ↓dops_nil, ↓dopsX_nil, ↓dopsR_nil, ↓vdn, vup, extr_20, extr_21, extr_30, extr_31, extr_32, List.map_cons, List.map_nil, cond_true, cond_false, aop, aThen, aBlock, argEnv, ev, sput, sputO, binK, binI, unK, builtinK, pickK, Nat.reduceBEq, Nat.reduceAdd, Int.reduceBEq, Int.reduceBNe, Int.reduceLT, aPost, resK, tup, tyf]
  refine hN1 [(0, v), (1, w), (4, .slice none 0 0), (5, .int .i64 0)] _ _ ?_ (by simp (config := {maxSteps := 2000000}) only [↓aw_region, ↓aw_skip, ↓aw_seq, ↓aw_block, ↓aw_exit, ↓aw_ret, ↓sops_nil, ↓sops_go, ↓dops_nil, ↓dopsX_nil, ↓dopsR_nil, ↓vdn, vup, extr_20, extr_21, extr_30, extr_31, extr_32, List.map_cons, List.map_nil, cond_true, cond_false, aop, aThen, aBlock, argEnv, ev, sput, sputO, binK, binI, unK, builtinK, pickK, Nat.reduceBEq, Nat.reduceAdd, Int.reduceBEq, Int.reduceBNe, Int.reduceLT, aPost, resK, tup, tyf])
  clear hN1
  try clear N1
  have st1 : ∀ {K : Heap → Prop}, storeK prog (h ++ [Blk.cells [.slice none 0 0] 56 false] ++ [Blk.cells [.slice none 0 0] 56 false]) 56 (.pointer (some ⟨h.length, 0, none⟩)) v K = K (h ++ [.cells [v] 56 false] ++ [.cells [.slice none 0 0] 56 false]) := fun {K} => by
    rw [store1 (get_old (get_new h _) _) shp_56 (intSl_one hv), set_app2]
  have st2 : ∀ {K : Heap → Prop}, storeK prog (h ++ [Blk.cells [v] 56 false] ++ [Blk.cells [.slice none 0 0] 56 false]) 56 (.pointer (some ⟨(h ++ [Blk.cells [.slice none 0 0] 56 false]).length, 0, none⟩)) w K = K (h ++ [.cells [v] 56 false] ++ [.cells [w] 56 false]) := fun {K} => by
    rw [show (h ++ [Blk.cells [.slice none 0 0] 56 false]).length = (h ++ [Blk.cells [v] 56 false]).length by simp, store1 (get_new _ _) shp_56 (intSl_one hw), set_last]
  refine aws_cut fun N2 hN2 => ?_
  simp (config := {maxSteps := 2000000}) only [s31, ↓aw_region, ↓aw_skip, ↓aw_seq, ↓aw_block, ↓aw_exit, ↓aw_ret, ↓sops_nil, ↓sops_go, ↓dops_nil, ↓dopsX_nil, ↓dopsR_nil, ↓vdn, vup, extr_20, extr_21, extr_30, extr_31, extr_32, List.map_cons, List.map_nil, cond_true, cond_false, aop, aThen, aBlock, argEnv, ev, sput, sputO, binK, binI, unK, builtinK, pickK, Nat.reduceBEq, Nat.reduceAdd, Int.reduceBEq, Int.reduceBNe, Int.reduceLT, aPost, resK, tup, tyf, allocK, newPtr, zero_56, st1, st2]
  refine hN2 [(0, v), (1, w), (4, .slice none 0 0), (5, .int .i64 0), (6, pt h.length), (7, pt (h ++ [Blk.cells [.slice none 0 0] 56 false]).length)] _ _ ?_ (by simp (config := {maxSteps := 2000000}) only [↓aw_region, ↓aw_skip, ↓aw_seq, ↓aw_block, ↓aw_exit, ↓aw_ret, ↓sops_nil, ↓sops_go, ↓dops_nil, ↓dopsX_nil, ↓dopsR_nil, ↓vdn, vup, extr_20, extr_21, extr_30, extr_31, extr_32, List.map_cons, List.map_nil, cond_true, cond_false, aop, aThen, aBlock, argEnv, ev, sput, sputO, binK, binI, unK, builtinK, pickK, Nat.reduceBEq, Nat.reduceAdd, Int.reduceBEq, Int.reduceBNe, Int.reduceLT, aPost, resK, tup, tyf])
  clear hN2
  try clear N2
  have hE : Ext (fun _ => False) h (h ++ [Blk.cells [v] 56 false] ++ [.cells [w] 56 false]) := (Ext.app _ _ _).trans (Ext.app _ _ _)
  have b6 : (h ++ [Blk.cells [v] 56 false] ++ [.cells [w] 56 false])[h.length]? = some (.cells [v] 56 false) := get_old (get_new h _) _
  have b7 : (h ++ [Blk.cells [v] 56 false] ++ [.cells [w] 56 false])[(h ++ [Blk.cells [.slice none 0 0] 56 false]).length]? = some (.cells [w] 56 false) := by
    rw [show (h ++ [Blk.cells [.slice none 0 0] 56 false]).length = (h ++ [Blk.cells [v] 56 false]).length by simp]; exact get_new _ _
  clear st1 st2
  generalize h ++ [Blk.cells [v] 56 false] ++ [.cells [w] 56 false] = H at hE b6 b7 ⊢
  generalize (h ++ [Blk.cells [.slice none 0 0] 56 false]).length = n7 at b7 ⊢
  generalize h.length = n6 at b6 ⊢
  refine aws_cut fun M hM => ?_
  simp (config := {maxSteps := 2000000}) only [s31, ↓aw_region, ↓aw_skip, ↓aw_seq, ↓aw_block, ↓aw_exit, ↓aw_ret, ↓sops_nil, ↓sops_go, ↓dops_nil, ↓dopsX_nil, ↓dopsR_nil, ↓vdn, vup, extr_20, extr_21, extr_30, extr_31, extr_32, List.map_cons, List.map_nil, cond_true, cond_false, aop, aThen, aBlock, argEnv, ev, sput, sputO, binK, binI, unK, builtinK, pickK, Nat.reduceBEq, Nat.reduceAdd, Int.reduceBEq, Int.reduceBNe, Int.reduceLT, aPost, resK, tup, tyf, callK, List.nil_append, List.append_nil, List.toList_toArray, List.cons_append, load1 b6 shp_56]
  refine (valid_call (IntSl_ext hv hE) hl hx).mono ?_
  rintro _ H ⟨rfl, rfl⟩
  cases hgx : grs xs with
  | false =>
    simp (config := {maxSteps := 2000000}) only [s31, ↓aw_region, ↓aw_skip, ↓aw_seq, ↓aw_block, ↓aw_exit, ↓aw_ret, ↓sops_nil, ↓sops_go, ↓dops_nil, ↓dopsX_nil, ↓dopsR_nil, ↓vdn, vup, extr_20, extr_21, extr_30, extr_31, extr_32, List.map_cons, List.map_nil, cond_true, cond_false, aop, aThen, aBlock, argEnv, ev, sput, sputO, binK, binI, unK, builtinK, pickK, Nat.reduceBEq, Nat.reduceAdd, Int.reduceBEq, Int.reduceBNe, Int.reduceLT, aPost, resK, tup, tyf, Bool.not_false]
    exact ⟨hE, by rw [joinR, if_neg (by rw [hgx]; exact fun h => by cases h.1)]⟩
  | true =>
  simp (config := {maxSteps := 2000000}) only [s31, ↓aw_region, ↓aw_skip, ↓aw_seq, ↓aw_block, ↓aw_exit, ↓aw_ret, ↓sops_nil, ↓sops_go, ↓dops_nil, ↓dopsX_nil, ↓dopsR_nil, ↓vdn, vup, extr_20, extr_21, extr_30, extr_31, extr_32, List.map_cons, List.map_nil, cond_true, cond_false, aop, aThen, aBlock, argEnv, ev, sput, sputO, binK, binI, unK, builtinK, pickK, Nat.reduceBEq, Nat.reduceAdd, Int.reduceBEq, Int.reduceBNe, Int.reduceLT, aPost, resK, tup, tyf, callK, List.nil_append, List.append_nil, List.toList_toArray, List.cons_append, Bool.not_true, load1 b7 shp_56]
  refine (valid_call (IntSl_ext hw hE) hl2 hx2).mono ?_
  rintro _ H ⟨rfl, rfl⟩
  cases hgy : grs ys with
  | false =>
    simp (config := {maxSteps := 2000000}) only [s31, ↓aw_region, ↓aw_skip, ↓aw_seq, ↓aw_block, ↓aw_exit, ↓aw_ret, ↓sops_nil, ↓sops_go, ↓dops_nil, ↓dopsX_nil, ↓dopsR_nil, ↓vdn, vup, extr_20, extr_21, extr_30, extr_31, extr_32, List.map_cons, List.map_nil, cond_true, cond_false, aop, aThen, aBlock, argEnv, ev, sput, sputO, binK, binI, unK, builtinK, pickK, Nat.reduceBEq, Nat.reduceAdd, Int.reduceBEq, Int.reduceBNe, Int.reduceLT, aPost, resK, tup, tyf, Bool.not_false]
    exact ⟨hE, by rw [joinR, if_neg (by rw [hgy]; exact fun h => by cases h.2)]⟩
  | true =>
  have gx := grs_iff.1 hgx
  have gy := grs_iff.1 hgy
  have hvH := IntSl_ext hv hE
  have hwH := IntSl_ext hw hE
  have hb36 : xs.length * ys.length ≤ 6 * 6 := Nat.mul_le_mul gx.2.1 gy.2.1
  have hmul : mulV .i64 (xs.length : Int) (ys.length : Int) = ((xs.length * ys.length : Nat) : Int) := mulN (by omega)
  by_cases hsm : xs.length * ys.length ≤ 6
  · have hng : ¬ (6 : Int) < ((xs.length * ys.length : Nat) : Int) := by omega
    simp (config := {maxSteps := 2000000}) only [s31, ↓aw_region, ↓aw_skip, ↓aw_seq, ↓aw_block, ↓aw_exit, ↓aw_ret, ↓sops_nil, ↓sops_go, ↓dops_nil, ↓dopsX_nil, ↓dopsR_nil, ↓vdn, vup, extr_20, extr_21, extr_30, extr_31, extr_32, List.map_cons, List.map_nil, cond_true, cond_false, aop, aThen, aBlock, argEnv, ev, sput, sputO, binK, binI, unK, builtinK, pickK, Nat.reduceBEq, Nat.reduceAdd, Int.reduceBEq, Int.reduceBNe, Int.reduceLT, aPost, resK, tup, tyf, Bool.not_true, hvH.len, hwH.len, hmul, gt_iff_lt, hng]
    refine hM [(0, v), (1, w), (4, .slice none 0 0), (5, .int .i64 0), (6, pt n6), (7, pt n7)] _ _ ?_ (by simp (config := {maxSteps := 2000000}) only [↓aw_region, ↓aw_skip, ↓aw_seq, ↓aw_block, ↓aw_exit, ↓aw_ret, ↓sops_nil, ↓sops_go, ↓dops_nil, ↓dopsX_nil, ↓dopsR_nil, ↓vdn, vup, extr_20, extr_21, extr_30, extr_31, extr_32, List.map_cons, List.map_nil, cond_true, cond_false, aop, aThen, aBlock, argEnv, ev, sput, sputO, binK, binI, unK, builtinK, pickK, Nat.reduceBEq, Nat.reduceAdd, Int.reduceBEq, Int.reduceBNe, Int.reduceLT, aPost, resK, tup, tyf])
    clear hM
    try clear M
    refine aws_cut fun N3 hN3 => ?_
    simp (config := {maxSteps := 2000000}) only [s31, ↓aw_region, ↓aw_skip, ↓aw_seq, ↓aw_block, ↓aw_exit, ↓aw_ret, ↓sops_nil, ↓sops_go, ↓dops_nil, ↓dopsX_nil, ↓dopsR_nil, ↓vdn, vup, extr_20, extr_21, extr_30, extr_31, extr_32, List.map_cons, List.map_nil, cond_true, cond_false, aop, aThen, aBlock, argEnv, ev, sput, sputO, binK, binI, unK, builtinK, pickK, Nat.reduceBEq, Nat.reduceAdd, Int.reduceBEq, Int.reduceBNe, Int.reduceLT, aPost, resK, tup, tyf, hwH.len, allocK, newPtr, zero_3, Am.storeI (get_new _ _) shp_3, set_last]
    refine hN3 [(0, v), (1, w), (4, .slice none 0 0), (5, .int .i64 0), (6, pt n6), (7, pt n7), (8, pt H.length)] _ _ ?_ (by simp (config := {maxSteps := 2000000}) only [↓aw_region, ↓aw_skip, ↓aw_seq, ↓aw_block, ↓aw_exit, ↓aw_ret, ↓sops_nil, ↓sops_go, ↓dops_nil, ↓dopsX_nil, ↓dopsR_nil, ↓vdn, vup, extr_20, extr_21, extr_30, extr_31, extr_32, List.map_cons, List.map_nil, cond_true, cond_false, aop, aThen, aBlock, argEnv, ev, sput, sputO, binK, binI, unK, builtinK, pickK, Nat.reduceBEq, Nat.reduceAdd, Int.reduceBEq, Int.reduceBNe, Int.reduceLT, aPost, resK, tup, tyf])
    clear hN3
    try clear N3
    have hE1 := hE.trans (Ext.app (fun _ => False) H [Blk.cells [vint ys.length] 3 false])
    have c6 := get_old b6 [Blk.cells [vint ys.length] 3 false]
    have c7 := get_old b7 [Blk.cells [vint ys.length] 3 false]
    have c8 := get_new H (Blk.cells [vint ys.length] 3 false)
    generalize H ++ [Blk.cells [vint ys.length] 3 false] = H1 at hE1 c6 c7 c8 ⊢
    generalize H.length = n8 at c8 ⊢
    refine aws_cut fun N4 hN4 => ?_
    simp (config := {maxSteps := 2000000}) only [s31, ↓aw_region, ↓aw_skip, ↓aw_seq, ↓aw_block, ↓aw_exit, ↓aw_ret, ↓sops_nil, ↓sops_go, ↓dops_nil, ↓dopsX_nil, ↓dopsR_nil, ↓vdn, vup, extr_20, extr_21, extr_30, extr_31, extr_32, List.map_cons, List.map_nil, cond_true, cond_false, aop, aThen, aBlock, argEnv, ev, sput, sputO, binK, binI, unK, builtinK, pickK, Nat.reduceBEq, Nat.reduceAdd, Int.reduceBEq, Int.reduceBNe, Int.reduceLT, aPost, resK, tup, tyf, allocK, newPtr, zero_68, Am.storeF (get_new _ _) shp_68, set_last]
    refine hN4 [(0, v), (1, w), (4, .slice none 0 0), (5, .int .i64 0), (6, pt n6), (7, pt n7), (8, pt n8), (9, pt H1.length)] _ _ ?_ (by simp (config := {maxSteps := 2000000}) only [↓aw_region, ↓aw_skip, ↓aw_seq, ↓aw_block, ↓aw_exit, ↓aw_ret, ↓sops_nil, ↓sops_go, ↓dops_nil, ↓dopsX_nil, ↓dopsR_nil, ↓vdn, vup, extr_20, extr_21, extr_30, extr_31, extr_32, List.map_cons, List.map_nil, cond_true, cond_false, aop, aThen, aBlock, argEnv, ev, sput, sputO, binK, binI, unK, builtinK, pickK, Nat.reduceBEq, Nat.reduceAdd, Int.reduceBEq, Int.reduceBNe, Int.reduceLT, aPost, resK, tup, tyf])
    clear hN4
    try clear N4
    have hE2 := hE1.trans (Ext.app (fun _ => False) H1 [Blk.cells [.func (.func 58) #[] #[]] 68 false])
    have d6 := get_old c6 [Blk.cells [.func (.func 58) #[] #[]] 68 false]
    have d7 := get_old c7 [Blk.cells [.func (.func 58) #[] #[]] 68 false]
    have d8 := get_old c8 [Blk.cells [.func (.func 58) #[] #[]] 68 false]
    have d9 := get_new H1 (Blk.cells [.func (.func 58) #[] #[]] 68 false)
    generalize H1 ++ [Blk.cells [.func (.func 58) #[] #[]] 68 false] = H2 at hE2 d6 d7 d8 d9 ⊢
    generalize H1.length = n9 at d9 ⊢
    refine aw_aws ?_
    have hv2 := IntSl_ext hv hE2
    have hw2 := IntSl_ext hw hE2
    simp (config := {maxSteps := 2000000}) only [s31, ↓aw_region, ↓aw_skip, ↓aw_seq, ↓aw_block, ↓aw_exit, ↓aw_ret, ↓sops_nil, ↓sops_go, ↓dops_nil, ↓dopsX_nil, ↓dopsR_nil, ↓vdn, vup, extr_20, extr_21, extr_30, extr_31, extr_32, List.map_cons, List.map_nil, cond_true, cond_false, aop, aThen, aBlock, argEnv, ev, sput, sputO, binK, binI, unK, builtinK, pickK, Nat.reduceBEq, Nat.reduceAdd, Int.reduceBEq, Int.reduceBNe, Int.reduceLT, aPost, resK, tup, tyf, callK, List.nil_append, List.append_nil, List.toList_toArray, List.cons_append, hv2.len, load1 d8 shp_3, hmul, List.map_toArray]
    refine (made_call (p := jp xs ys) hsm ?_).mono ?_
    · intro hp hEp i j hi hj K hk
      simp only [callK, List.nil_append, List.cons_append]
      refine (join2_call (IntSl_ext hv2 hEp) (IntSl_ext hw2 hEp) gx gy ((hEp.2 _ (get_lt d9) id).trans d9) ((hEp.2 _ (get_lt d6) id).trans d6) ((hEp.2 _ (get_lt d8) id).trans d8) ((hEp.2 _ (get_lt d7) id).trans d7) hi hj).mono ?_
      rintro _ _ ⟨rfl, rfl⟩
      exact hk
    · rintro r h3 ⟨hr, hE3⟩
      refine ⟨hE2.trans hE3, ?_⟩
      rw [joinR, if_pos ⟨hgx, hgy⟩, if_pos hsm]
      exact ⟨_, rfl, hr⟩
  · have hg : (6 : Int) < ((xs.length * ys.length : Nat) : Int) := by omega
    simp (config := {maxSteps := 2000000}) only [s31, ↓aw_region, ↓aw_skip, ↓aw_seq, ↓aw_block, ↓aw_exit, ↓aw_ret, ↓sops_nil, ↓sops_go, ↓dops_nil, ↓dopsX_nil, ↓dopsR_nil, ↓vdn, vup, extr_20, extr_21, extr_30, extr_31, extr_32, List.map_cons, List.map_nil, cond_true, cond_false, aop, aThen, aBlock, argEnv, ev, sput, sputO, binK, binI, unK, builtinK, pickK, Nat.reduceBEq, Nat.reduceAdd, Int.reduceBEq, Int.reduceBNe, Int.reduceLT, aPost, resK, tup, tyf, Bool.not_true, hvH.len, hwH.len, hmul, gt_iff_lt, hg]
    exact ⟨hE, by rw [joinR, if_pos ⟨hgx, hgy⟩, if_neg hsm]⟩

theorem s33_callW [Tabs Tryd.prog] {args : List Value} {h : Heap} {Q : Value → Heap → Prop} (hsz : args.length ≤ 86) (hk : AWS Tryd.prog 86 s33 (aPost Tryd.prog [.tmp 4] Q) (argEnv 0 args) h) : ACall Tryd.prog 33 args h Q :=
  acall_w Tryd.func33 rfl (enters_of Tryd.func33 (by kernel_rfl) rfl) rfl rfl (by decide) s33_strip s33_ok hsz hk
set_option maxHeartbeats 6000000 in
theorem rjoin_call [Tabs prog] {h : Heap} {v w : Value} {xs ys : List Int} (hv : IntSl h v xs) (hw : IntSl h w ys) (gx : Gs xs) (gy : Gs ys) (hsm : xs.length * ys.length ≤ 6) :
    ACall prog 33 [v, w] h fun r h' => IntSl h' r (joinL xs ys) ∧ Ext (fun _ => False) h h' := by
  have hnn : ∀ i : Nat, (0 : Int) ≤ (i : Int) := Int.natCast_nonneg
  have hn0 : ¬ ((ys.length : Nat) : Int) = 0 := by have := gy.1; omega
  have hmul : mulV .i64 (xs.length : Int) (ys.length : Int) = ((xs.length * ys.length : Nat) : Int) := mulN (by omega)
  obtain ⟨m, hm⟩ : ∃ m, xs.length * ys.length = m := ⟨_, rfl⟩
  rw [hm] at hmul hsm
  refine s33_callW (by simp) ?_
  simp only [s33]
  refine aws_cut fun N5 hN5 => ?_
  simp (config := {maxSteps := 2000000}) only [s33, ↓aw_region, ↓aw_skip, ↓aw_seq, ↓aw_block, ↓aw_exit, ↓aw_ret, ↓sops_nil, ↓sops_go, ↓dops_nil, ↓dopsX_nil, ↓dopsR_nil, ↓vdn, vup, extr_20, extr_21, extr_30, extr_31, extr_32, List.map_cons, List.map_nil, cond_true, cond_false, aop, aThen, aBlock, argEnv, ev, sput, sputO, binK, binI, unK, builtinK, pickK, Nat.reduceBEq, Nat.reduceAdd, Int.reduceBEq, Int.reduceBNe, Int.reduceLT, aPost, resK, tup, tyf]
  refine hN5 [(0, v), (1, w), (4, .slice none 0 0)] _ _ ?_ (by simp (config := {maxSteps := 2000000}) only [↓aw_region, ↓aw_skip, ↓aw_seq, ↓aw_block, ↓aw_exit, ↓aw_ret, ↓sops_nil, ↓sops_go, ↓dops_nil, ↓dopsX_nil, ↓dopsR_nil, ↓vdn, vup, extr_20, extr_21, extr_30, extr_31, extr_32, List.map_cons, List.map_nil, cond_true, cond_false, aop, aThen, aBlock, argEnv, ev, sput, sputO, binK, binI, unK, builtinK, pickK, Nat.reduceBEq, Nat.reduceAdd, Int.reduceBEq, Int.reduceBNe, Int.reduceLT, aPost, resK, tup, tyf])
  clear hN5
  try clear N5
  refine aws_cut fun N6 hN6 => ?_
  simp (config := {maxSteps := 2000000}) only [s33, ↓aw_region, ↓aw_skip, ↓aw_seq, ↓aw_block, ↓aw_exit, ↓aw_ret, ↓sops_nil, ↓sops_go, ↓dops_nil, ↓dopsX_nil, ↓dopsR_nil, ↓vdn, vup, extr_20, extr_21, extr_30, extr_31, extr_32, List.map_cons, List.map_nil, cond_true, cond_false, aop, aThen, aBlock, argEnv, ev, sput, sputO, binK, binI, unK, builtinK, pickK, Nat.reduceBEq, Nat.reduceAdd, Int.reduceBEq, Int.reduceBNe, Int.reduceLT, aPost, resK, tup, tyf, hw.len]
  refine hN6 [(0, v), (1, w), (4, .slice none 0 0), (5, vint ys.length)] _ _ ?_ (by simp (config := {maxSteps := 2000000}) only [↓aw_region, ↓aw_skip, ↓aw_seq, ↓aw_block, ↓aw_exit, ↓aw_ret, ↓sops_nil, ↓sops_go, ↓dops_nil, ↓dopsX_nil, ↓dopsR_nil, ↓vdn, vup, extr_20, extr_21, extr_30, extr_31, extr_32, List.map_cons, List.map_nil, cond_true, cond_false, aop, aThen, aBlock, argEnv, ev, sput, sputO, binK, binI, unK, builtinK, pickK, Nat.reduceBEq, Nat.reduceAdd, Int.reduceBEq, Int.reduceBNe, Int.reduceLT, aPost, resK, tup, tyf])
  clear hN6
  try clear N6
  have hr0 : List.replicate m (0 : Int) = iL (rowsN (rwM (jp xs ys)) m 0 0) := by rw [rowsN_zero rfl]; simp [iL]
  have hlen : ∀ {K : Value → Prop}, lenK (tv h.length m) K = K (vint m) := fun {K} => rfl
  refine aws_cut fun N7 hN7 => ?_
  simp (config := {maxSteps := 2000000}) only [s33, ↓aw_region, ↓aw_skip, ↓aw_seq, ↓aw_block, ↓aw_exit, ↓aw_ret, ↓sops_nil, ↓sops_go, ↓dops_nil, ↓dopsX_nil, ↓dopsR_nil, ↓vdn, vup, extr_20, extr_21, extr_30, extr_31, extr_32, List.map_cons, List.map_nil, cond_true, cond_false, aop, aThen, aBlock, argEnv, ev, sput, sputO, binK, binI, unK, builtinK, pickK, Nat.reduceBEq, Nat.reduceAdd, Int.reduceBEq, Int.reduceBNe, Int.reduceLT, aPost, resK, tup, tyf, hv.len, hmul, makeI el_22 zero_3 info_3 (Int.natCast_nonneg m) (show ((m : Nat) : Int) ≤ 35184372088832 by omega), Int.toNat_natCast, hr0]
  refine hN7 [(0, v), (1, w), (4, .slice none 0 0), (5, vint ys.length), (6, tv h.length m)] _ _ ?_ (by simp (config := {maxSteps := 2000000}) only [↓aw_region, ↓aw_skip, ↓aw_seq, ↓aw_block, ↓aw_exit, ↓aw_ret, ↓sops_nil, ↓sops_go, ↓dops_nil, ↓dopsX_nil, ↓dopsR_nil, ↓vdn, vup, extr_20, extr_21, extr_30, extr_31, extr_32, List.map_cons, List.map_nil, cond_true, cond_false, aop, aThen, aBlock, argEnv, ev, sput, sputO, binK, binI, unK, builtinK, pickK, Nat.reduceBEq, Nat.reduceAdd, Int.reduceBEq, Int.reduceBNe, Int.reduceLT, aPost, resK, tup, tyf])
  clear hN7
  try clear N7
  refine aws_cut fun Z hZ => ?_
  simp (config := {maxSteps := 2000000}) only [s33, ↓aw_region, ↓aw_skip, ↓aw_seq, ↓aw_block, ↓aw_exit, ↓aw_ret, ↓sops_nil, ↓sops_go, ↓dops_nil, ↓dopsX_nil, ↓dopsR_nil, ↓vdn, vup, extr_20, extr_21, extr_30, extr_31, extr_32, List.map_cons, List.map_nil, cond_true, cond_false, aop, aThen, aBlock, argEnv, ev, sput, sputO, binK, binI, unK, builtinK, pickK, Nat.reduceBEq, Nat.reduceAdd, Int.reduceBEq, Int.reduceBNe, Int.reduceLT, aPost, resK, tup, tyf, hlen, ↓aw_loop_eq]
  refine aws_hide fun Q hQ => ?_
  have hE : ∀ i j, Ext (fun _ => False) h (tabH h (rowsN (rwM (jp xs ys)) m i j)) := fun i j => Ext.app _ _ _
  refine aw_loopW (γ := Nat) (fun i => i ≤ m)
    (fun i => ([(0, v), (1, w), (4, .slice none 0 0), (5, vint ys.length), (6, tv h.length m), (20, tv h.length m), (21, vint m), (22, vint i)], tabH h (rowsN (rwM (jp xs ys)) m i 0))) (fun i => m - i) 0 (Nat.zero_le _) (by simp (config := {maxSteps := 2000000}) only [↓aw_region, ↓aw_skip, ↓aw_seq, ↓aw_block, ↓aw_exit, ↓aw_ret, ↓sops_nil, ↓sops_go, ↓dops_nil, ↓dopsX_nil, ↓dopsR_nil, ↓vdn, vup, extr_20, extr_21, extr_30, extr_31, extr_32, List.map_cons, List.map_nil, cond_true, cond_false, aop, aThen, aBlock, argEnv, ev, sput, sputO, binK, binI, unK, builtinK, pickK, Nat.reduceBEq, Nat.reduceAdd, Int.reduceBEq, Int.reduceBNe, Int.reduceLT, aPost, resK, tup, tyf, Int.natCast_zero]) rfl ?_
  intro i hi
  refine aws_hide fun Q2 hQ2 => ?_
  simp only [l33_1]
  by_cases hin : (i : Int) < m
  · have hi' : i < m := by omega
    refine aws_cut fun N8 hN8 => ?_
    simp (config := {maxSteps := 2000000}) only [s33, ↓aw_region, ↓aw_skip, ↓aw_seq, ↓aw_block, ↓aw_exit, ↓aw_ret, ↓sops_nil, ↓sops_go, ↓dops_nil, ↓dopsX_nil, ↓dopsR_nil, ↓vdn, vup, extr_20, extr_21, extr_30, extr_31, extr_32, List.map_cons, List.map_nil, cond_true, cond_false, aop, aThen, aBlock, argEnv, ev, sput, sputO, binK, binI, unK, builtinK, pickK, Nat.reduceBEq, Nat.reduceAdd, Int.reduceBEq, Int.reduceBNe, Int.reduceLT, aPost, resK, tup, tyf, hin]
    refine hN8 [(0, v), (1, w), (4, .slice none 0 0), (5, vint ys.length), (6, tv h.length m), (20, tv h.length m), (21, vint m), (22, vint i), (23, .bool true)] _ _ ?_ (by simp (config := {maxSteps := 2000000}) only [↓aw_region, ↓aw_skip, ↓aw_seq, ↓aw_block, ↓aw_exit, ↓aw_ret, ↓sops_nil, ↓sops_go, ↓dops_nil, ↓dopsX_nil, ↓dopsR_nil, ↓vdn, vup, extr_20, extr_21, extr_30, extr_31, extr_32, List.map_cons, List.map_nil, cond_true, cond_false, aop, aThen, aBlock, argEnv, ev, sput, sputO, binK, binI, unK, builtinK, pickK, Nat.reduceBEq, Nat.reduceAdd, Int.reduceBEq, Int.reduceBNe, Int.reduceLT, aPost, resK, tup, tyf])
    clear hN8
    try clear N8
    refine aws_cut fun N9 hN9 => ?_
    simp (config := {maxSteps := 2000000}) only [s33, ↓aw_region, ↓aw_skip, ↓aw_seq, ↓aw_block, ↓aw_exit, ↓aw_ret, ↓sops_nil, ↓sops_go, ↓dops_nil, ↓dopsX_nil, ↓dopsR_nil, ↓vdn, vup, extr_20, extr_21, extr_30, extr_31, extr_32, List.map_cons, List.map_nil, cond_true, cond_false, aop, aThen, aBlock, argEnv, ev, sput, sputO, binK, binI, unK, builtinK, pickK, Nat.reduceBEq, Nat.reduceAdd, Int.reduceBEq, Int.reduceBNe, Int.reduceLT, aPost, resK, tup, tyf]
    refine hN9 [(0, v), (1, w), (4, .slice none 0 0), (5, vint ys.length), (6, tv h.length m), (20, tv h.length m), (21, vint m), (22, vint i)] _ _ ?_ (by simp (config := {maxSteps := 2000000}) only [↓aw_region, ↓aw_skip, ↓aw_seq, ↓aw_block, ↓aw_exit, ↓aw_ret, ↓sops_nil, ↓sops_go, ↓dops_nil, ↓dopsX_nil, ↓dopsR_nil, ↓vdn, vup, extr_20, extr_21, extr_30, extr_31, extr_32, List.map_cons, List.map_nil, cond_true, cond_false, aop, aThen, aBlock, argEnv, ev, sput, sputO, binK, binI, unK, builtinK, pickK, Nat.reduceBEq, Nat.reduceAdd, Int.reduceBEq, Int.reduceBNe, Int.reduceLT, aPost, resK, tup, tyf])
    clear hN9
    try clear N9
    refine aws_cutW fun K hK => ?_
    refine aws_block ?_
    refine aws_cut fun N10 hN10 => ?_
    simp (config := {maxSteps := 2000000}) only [s33, ↓aw_region, ↓aw_skip, ↓aw_seq, ↓aw_block, ↓aw_exit, ↓aw_ret, ↓sops_nil, ↓sops_go, ↓dops_nil, ↓dopsX_nil, ↓dopsR_nil, ↓vdn, vup, extr_20, extr_21, extr_30, extr_31, extr_32, List.map_cons, List.map_nil, cond_true, cond_false, aop, aThen, aBlock, argEnv, ev, sput, sputO, binK, binI, unK, builtinK, pickK, Nat.reduceBEq, Nat.reduceAdd, Int.reduceBEq, Int.reduceBNe, Int.reduceLT, aPost, resK, tup, tyf]
    refine hN10 [(0, v), (1, w), (4, .slice none 0 0), (5, vint ys.length), (6, tv h.length m), (7, vint i), (20, tv h.length m), (21, vint m), (22, vint i)] _ _ ?_ (by simp (config := {maxSteps := 2000000}) only [↓aw_region, ↓aw_skip, ↓aw_seq, ↓aw_block, ↓aw_exit, ↓aw_ret, ↓sops_nil, ↓sops_go, ↓dops_nil, ↓dopsX_nil, ↓dopsR_nil, ↓vdn, vup, extr_20, extr_21, extr_30, extr_31, extr_32, List.map_cons, List.map_nil, cond_true, cond_false, aop, aThen, aBlock, argEnv, ev, sput, sputO, binK, binI, unK, builtinK, pickK, Nat.reduceBEq, Nat.reduceAdd, Int.reduceBEq, Int.reduceBNe, Int.reduceLT, aPost, resK, tup, tyf])
    clear hN10
    try clear N10
    refine aw_aws ?_
    simp (config := {maxSteps := 2000000}) only [s33, ↓aw_region, ↓aw_skip, ↓aw_seq, ↓aw_block, ↓aw_exit, ↓aw_ret, ↓sops_nil, ↓sops_go, ↓dops_nil, ↓dopsX_nil, ↓dopsR_nil, ↓vdn, vup, extr_20, extr_21, extr_30, extr_31, extr_32, List.map_cons, List.map_nil, cond_true, cond_false, aop, aThen, aBlock, argEnv, ev, sput, sputO, binK, binI, unK, builtinK, pickK, Nat.reduceBEq, Nat.reduceAdd, Int.reduceBEq, Int.reduceBNe, Int.reduceLT, aPost, resK, tup, tyf, hlen, ↓aw_loop_eq]
    refine aws_hide fun Q3 hQ3 => ?_
    refine aw_loopW (γ := Nat) (fun j => j ≤ m)
      (fun j => ([(0, v), (1, w), (4, .slice none 0 0), (5, vint ys.length), (6, tv h.length m), (7, vint i), (20, tv h.length m), (21, vint m), (22, vint i), (25, tv h.length m), (26, vint m), (27, vint j)], tabH h (rowsN (rwM (jp xs ys)) m i j))) (fun j => m - j) 0 (Nat.zero_le _) (by simp (config := {maxSteps := 2000000}) only [↓aw_region, ↓aw_skip, ↓aw_seq, ↓aw_block, ↓aw_exit, ↓aw_ret, ↓sops_nil, ↓sops_go, ↓dops_nil, ↓dopsX_nil, ↓dopsR_nil, ↓vdn, vup, extr_20, extr_21, extr_30, extr_31, extr_32, List.map_cons, List.map_nil, cond_true, cond_false, aop, aThen, aBlock, argEnv, ev, sput, sputO, binK, binI, unK, builtinK, pickK, Nat.reduceBEq, Nat.reduceAdd, Int.reduceBEq, Int.reduceBNe, Int.reduceLT, aPost, resK, tup, tyf, Int.natCast_zero]) rfl ?_
    intro j hj
    refine aws_hide fun Q4 hQ4 => ?_
    simp only [l33_0]
    by_cases hjn : (j : Int) < m
    · have hj' : j < m := by omega
      refine aws_cut fun N11 hN11 => ?_
      simp (config := {maxSteps := 2000000}) only [s33, ↓aw_region, ↓aw_skip, ↓aw_seq, ↓aw_block, ↓aw_exit, ↓aw_ret, ↓sops_nil, ↓sops_go, ↓dops_nil, ↓dopsX_nil, ↓dopsR_nil, ↓vdn, vup, extr_20, extr_21, extr_30, extr_31, extr_32, List.map_cons, List.map_nil, cond_true, cond_false, aop, aThen, aBlock, argEnv, ev, sput, sputO, binK, binI, unK, builtinK, pickK, Nat.reduceBEq, Nat.reduceAdd, Int.reduceBEq, Int.reduceBNe, Int.reduceLT, aPost, resK, tup, tyf, hjn]
      refine hN11 [(0, v), (1, w), (4, .slice none 0 0), (5, vint ys.length), (6, tv h.length m), (7, vint i), (20, tv h.length m), (21, vint m), (22, vint i), (25, tv h.length m), (26, vint m), (27, vint j), (28, .bool true)] _ _ ?_ (by simp (config := {maxSteps := 2000000}) only [↓aw_region, ↓aw_skip, ↓aw_seq, ↓aw_block, ↓aw_exit, ↓aw_ret, ↓sops_nil, ↓sops_go, ↓dops_nil, ↓dopsX_nil, ↓dopsR_nil, ↓vdn, vup, extr_20, extr_21, extr_30, extr_31, extr_32, List.map_cons, List.map_nil, cond_true, cond_false, aop, aThen, aBlock, argEnv, ev, sput, sputO, binK, binI, unK, builtinK, pickK, Nat.reduceBEq, Nat.reduceAdd, Int.reduceBEq, Int.reduceBNe, Int.reduceLT, aPost, resK, tup, tyf])
      clear hN11
      try clear N11
      refine aws_cut fun N12 hN12 => ?_
      simp (config := {maxSteps := 2000000}) only [s33, ↓aw_region, ↓aw_skip, ↓aw_seq, ↓aw_block, ↓aw_exit, ↓aw_ret, ↓sops_nil, ↓sops_go, ↓dops_nil, ↓dopsX_nil, ↓dopsR_nil, ↓vdn, vup, extr_20, extr_21, extr_30, extr_31, extr_32, List.map_cons, List.map_nil, cond_true, cond_false, aop, aThen, aBlock, argEnv, ev, sput, sputO, binK, binI, unK, builtinK, pickK, Nat.reduceBEq, Nat.reduceAdd, Int.reduceBEq, Int.reduceBNe, Int.reduceLT, aPost, resK, tup, tyf]
      refine hN12 [(0, v), (1, w), (4, .slice none 0 0), (5, vint ys.length), (6, tv h.length m), (7, vint i), (20, tv h.length m), (21, vint m), (22, vint i), (25, tv h.length m), (26, vint m), (27, vint j)] _ _ ?_ (by simp (config := {maxSteps := 2000000}) only [↓aw_region, ↓aw_skip, ↓aw_seq, ↓aw_block, ↓aw_exit, ↓aw_ret, ↓sops_nil, ↓sops_go, ↓dops_nil, ↓dopsX_nil, ↓dopsR_nil, ↓vdn, vup, extr_20, extr_21, extr_30, extr_31, extr_32, List.map_cons, List.map_nil, cond_true, cond_false, aop, aThen, aBlock, argEnv, ev, sput, sputO, binK, binI, unK, builtinK, pickK, Nat.reduceBEq, Nat.reduceAdd, Int.reduceBEq, Int.reduceBNe, Int.reduceLT, aPost, resK, tup, tyf])
      clear hN12
      try clear N12
      refine aws_cutW fun M hM => ?_
      have fin : ∀ e, ELe e [(0, v), (1, w), (4, .slice none 0 0), (5, vint ys.length), (6, tv h.length m), (7, vint i), (20, tv h.length m), (21, vint m), (22, vint i), (25, tv h.length m), (26, vint m), (27, vint j)] → M e (tabH h (rowsN (rwM (jp xs ys)) m i (j + 1))) := by
        intro e he
        refine hM [(0, v), (1, w), (4, .slice none 0 0), (5, vint ys.length), (6, tv h.length m), (7, vint i), (20, tv h.length m), (21, vint m), (22, vint i), (25, tv h.length m), (26, vint m), (27, vint j)] _ _ ?_ he
        refine aw_aws ?_
        simp (config := {maxSteps := 2000000}) only [s33, ↓aw_region, ↓aw_skip, ↓aw_seq, ↓aw_block, ↓aw_exit, ↓aw_ret, ↓sops_nil, ↓sops_go, ↓dops_nil, ↓dopsX_nil, ↓dopsR_nil, ↓vdn, vup, extr_20, extr_21, extr_30, extr_31, extr_32, List.map_cons, List.map_nil, cond_true, cond_false, aop, aThen, aBlock, argEnv, ev, sput, sputO, binK, binI, unK, builtinK, pickK, Nat.reduceBEq, Nat.reduceAdd, Int.reduceBEq, Int.reduceBNe, Int.reduceLT, aPost, resK, tup, tyf, add1 (show j < 9223372036854775807 by omega)]
        exact hQ4 _ _ _ ⟨j + 1, by omega, by omega, by simp (config := {maxSteps := 2000000}) only [↓aw_region, ↓aw_skip, ↓aw_seq, ↓aw_block, ↓aw_exit, ↓aw_ret, ↓sops_nil, ↓sops_go, ↓dops_nil, ↓dopsX_nil, ↓dopsR_nil, ↓vdn, vup, extr_20, extr_21, extr_30, extr_31, extr_32, List.map_cons, List.map_nil, cond_true, cond_false, aop, aThen, aBlock, argEnv, ev, sput, sputO, binK, binI, unK, builtinK, pickK, Nat.reduceBEq, Nat.reduceAdd, Int.reduceBEq, Int.reduceBNe, Int.reduceLT, aPost, resK, tup, tyf], rfl⟩
      clear hM
      refine aws_block ?_
      refine aws_cut fun N13 hN13 => ?_
      simp (config := {maxSteps := 2000000}) only [s33, ↓aw_region, ↓aw_skip, ↓aw_seq, ↓aw_block, ↓aw_exit, ↓aw_ret, ↓sops_nil, ↓sops_go, ↓dops_nil, ↓dopsX_nil, ↓dopsR_nil, ↓vdn, vup, extr_20, extr_21, extr_30, extr_31, extr_32, List.map_cons, List.map_nil, cond_true, cond_false, aop, aThen, aBlock, argEnv, ev, sput, sputO, binK, binI, unK, builtinK, pickK, Nat.reduceBEq, Nat.reduceAdd, Int.reduceBEq, Int.reduceBNe, Int.reduceLT, aPost, resK, tup, tyf]
      refine hN13 [(0, v), (1, w), (4, .slice none 0 0), (5, vint ys.length), (6, tv h.length m), (7, vint i), (8, vint j), (20, tv h.length m), (21, vint m), (22, vint i), (25, tv h.length m), (26, vint m), (27, vint j)] _ _ ?_ (by simp (config := {maxSteps := 2000000}) only [↓aw_region, ↓aw_skip, ↓aw_seq, ↓aw_block, ↓aw_exit, ↓aw_ret, ↓sops_nil, ↓sops_go, ↓dops_nil, ↓dopsX_nil, ↓dopsR_nil, ↓vdn, vup, extr_20, extr_21, extr_30, extr_31, extr_32, List.map_cons, List.map_nil, cond_true, cond_false, aop, aThen, aBlock, argEnv, ev, sput, sputO, binK, binI, unK, builtinK, pickK, Nat.reduceBEq, Nat.reduceAdd, Int.reduceBEq, Int.reduceBNe, Int.reduceLT, aPost, resK, tup, tyf])
      clear hN13
      try clear N13
      refine aws_cut fun N14 hN14 => ?_
      refine aw_drawX [] (by kernel_rfl) (by kernel_rfl) (by kernel_rfl) (by kernel_rfl) ?_
      simp (config := {maxSteps := 2000000}) only [s33, ↓aw_region, ↓aw_skip, ↓aw_seq, ↓aw_block, ↓aw_exit, ↓aw_ret, ↓sops_nil, ↓sops_go, ↓dops_nil, ↓dopsX_nil, ↓dopsR_nil, ↓vdn, vup, extr_20, extr_21, extr_30, extr_31, extr_32, List.map_cons, List.map_nil, cond_true, cond_false, aop, aThen, aBlock, argEnv, ev, sput, sputO, binK, binI, unK, builtinK, pickK, Nat.reduceBEq, Nat.reduceAdd, Int.reduceBEq, Int.reduceBNe, Int.reduceLT, aPost, resK, tup, tyf, ne_eq, hn0, not_false_eq_true, quoN (show i < 9223372036854775808 by omega), quoN (show j < 9223372036854775808 by omega), tmodN]
      refine hN14 [(0, v), (1, w), (4, .slice none 0 0), (5, vint ys.length), (6, tv h.length m), (7, vint i), (8, vint j), (9, vint (i / ys.length : Nat)), (10, vint (j / ys.length : Nat)), (11, vint (i % ys.length : Nat)), (12, vint (j % ys.length : Nat)), (20, tv h.length m), (21, vint m), (22, vint i), (25, tv h.length m), (26, vint m), (27, vint j)] _ _ ?_ (by simp (config := {maxSteps := 2000000}) only [↓aw_region, ↓aw_skip, ↓aw_seq, ↓aw_block, ↓aw_exit, ↓aw_ret, ↓sops_nil, ↓sops_go, ↓dops_nil, ↓dopsX_nil, ↓dopsR_nil, ↓vdn, vup, extr_20, extr_21, extr_30, extr_31, extr_32, List.map_cons, List.map_nil, cond_true, cond_false, aop, aThen, aBlock, argEnv, ev, sput, sputO, binK, binI, unK, builtinK, pickK, Nat.reduceBEq, Nat.reduceAdd, Int.reduceBEq, Int.reduceBNe, Int.reduceLT, aPost, resK, tup, tyf])
      clear hN14
      try clear N14
      refine aws_cut fun N15 hN15 => ?_
      have go : ∀ e, ELe e [(0, v), (1, w), (4, .slice none 0 0), (5, vint ys.length), (6, tv h.length m), (7, vint i), (8, vint j), (9, vint (i / ys.length : Nat)), (10, vint (j / ys.length : Nat)), (11, vint (i % ys.length : Nat)), (12, vint (j % ys.length : Nat)), (20, tv h.length m), (21, vint m), (22, vint i), (25, tv h.length m), (26, vint m), (27, vint j), (74, .bool (i != j && jp xs ys i j))] → N15 e (tabH h (rowsN (rwM (jp xs ys)) m i j)) := by
        intro e he
        refine hN15 [(0, v), (1, w), (4, .slice none 0 0), (5, vint ys.length), (6, tv h.length m), (7, vint i), (8, vint j), (9, vint (i / ys.length : Nat)), (10, vint (j / ys.length : Nat)), (11, vint (i % ys.length : Nat)), (12, vint (j % ys.length : Nat)), (20, tv h.length m), (21, vint m), (22, vint i), (25, tv h.length m), (26, vint m), (27, vint j), (74, .bool (i != j && jp xs ys i j))] _ _ ?_ he
        refine aw_aws ?_
        cases hb : (i != j && jp xs ys i j) with
        | true =>
          rw [Bool.and_eq_true] at hb
          have hij : (i == j) = false := by simpa [bne] using hb.1
          have p1 := rwM_lt (jp xs ys) i j
          have p2 : 2 ^ (j + 1) ≤ 2 ^ 6 := Nat.pow_le_pow_right (by decide) (by omega)
          have p3 : 2 ^ (j + 1) = 2 ^ j * 2 := Nat.pow_succ ..
          have hor : bitsV .or .i64 ((rwM (jp xs ys) i j : Nat) : Int) ((2 ^ j : Nat) : Int) = ((rwM (jp xs ys) i (j + 1) : Nat) : Int) := by
            rw [bitsV_or (by omega) (by omega), rwM_yes hij hb.2]
          simp (config := {maxSteps := 2000000}) only [s33, ↓aw_region, ↓aw_skip, ↓aw_seq, ↓aw_block, ↓aw_exit, ↓aw_ret, ↓sops_nil, ↓sops_go, ↓dops_nil, ↓dopsX_nil, ↓dopsR_nil, ↓vdn, vup, extr_20, extr_21, extr_30, extr_31, extr_32, List.map_cons, List.map_nil, cond_true, cond_false, aop, aThen, aBlock, argEnv, ev, sput, sputO, binK, binI, unK, builtinK, pickK, Nat.reduceBEq, Nat.reduceAdd, Int.reduceBEq, Int.reduceBNe, Int.reduceLT, aPost, resK, tup, tyf]
          refine aw_drawX [] (by kernel_rfl) (by kernel_rfl) (by kernel_rfl) (by kernel_rfl) ?_
          simp (config := {maxSteps := 2000000}) only [s33, ↓aw_region, ↓aw_skip, ↓aw_seq, ↓aw_block, ↓aw_exit, ↓aw_ret, ↓sops_nil, ↓sops_go, ↓dops_nil, ↓dopsX_nil, ↓dopsR_nil, ↓vdn, vup, extr_20, extr_21, extr_30, extr_31, extr_32, List.map_cons, List.map_nil, cond_true, cond_false, aop, aThen, aBlock, argEnv, ev, sput, sputO, binK, binI, unK, builtinK, pickK, Nat.reduceBEq, Nat.reduceAdd, Int.reduceBEq, Int.reduceBNe, Int.reduceLT, aPost, resK, tup, tyf, tH_idx el_22 hi', tH_load hi', hnn, shlI1 (show j ≤ 62 by omega), hor, tH_store hi']
          exact fin _ (by simp (config := {maxSteps := 2000000}) only [↓aw_region, ↓aw_skip, ↓aw_seq, ↓aw_block, ↓aw_exit, ↓aw_ret, ↓sops_nil, ↓sops_go, ↓dops_nil, ↓dopsX_nil, ↓dopsR_nil, ↓vdn, vup, extr_20, extr_21, extr_30, extr_31, extr_32, List.map_cons, List.map_nil, cond_true, cond_false, aop, aThen, aBlock, argEnv, ev, sput, sputO, binK, binI, unK, builtinK, pickK, Nat.reduceBEq, Nat.reduceAdd, Int.reduceBEq, Int.reduceBNe, Int.reduceLT, aPost, resK, tup, tyf])
        | false =>
          have hs : tabH h (rowsN (rwM (jp xs ys)) m i (j + 1)) = tabH h (rowsN (rwM (jp xs ys)) m i j) := by
            rw [tabH, tabH, ← rowsN_set (j := j) (k := j + 1), rwM_no, rowsN_set]
            rw [Bool.and_eq_false_iff] at hb
            exact hb.imp (fun h => by simpa [bne] using h) id
          rw [← hs]
          simp (config := {maxSteps := 2000000}) only [s33, ↓aw_region, ↓aw_skip, ↓aw_seq, ↓aw_block, ↓aw_exit, ↓aw_ret, ↓sops_nil, ↓sops_go, ↓dops_nil, ↓dopsX_nil, ↓dopsR_nil, ↓vdn, vup, extr_20, extr_21, extr_30, extr_31, extr_32, List.map_cons, List.map_nil, cond_true, cond_false, aop, aThen, aBlock, argEnv, ev, sput, sputO, binK, binI, unK, builtinK, pickK, Nat.reduceBEq, Nat.reduceAdd, Int.reduceBEq, Int.reduceBNe, Int.reduceLT, aPost, resK, tup, tyf]
          exact fin _ (by simp (config := {maxSteps := 2000000}) only [↓aw_region, ↓aw_skip, ↓aw_seq, ↓aw_block, ↓aw_exit, ↓aw_ret, ↓sops_nil, ↓sops_go, ↓dops_nil, ↓dopsX_nil, ↓dopsR_nil, ↓vdn, vup, extr_20, extr_21, extr_30, extr_31, extr_32, List.map_cons, List.map_nil, cond_true, cond_false, aop, aThen, aBlock, argEnv, ev, sput, sputO, binK, binI, unK, builtinK, pickK, Nat.reduceBEq, Nat.reduceAdd, Int.reduceBEq, Int.reduceBNe, Int.reduceLT, aPost, resK, tup, tyf])
      have hv1 := IntSl_ext hv (hE i j)
      have hw1 := IntSl_ext hw (hE i j)
      have hix : i / ys.length < xs.length := Nat.div_lt_of_lt_mul (by rw [Nat.mul_comm, hm]; exact hi')
      have hiy : i % ys.length < ys.length := Nat.mod_lt _ gy.1
      have hr := gs_lt gx hix
      have tx : bitsV .and .i64 (shrV .i64 (xs.getD (i / ys.length) 0) (j / ys.length : Nat)) 1 = if gb xs (i / ys.length) (j / ys.length) then 1 else 0 := testI hr.1 (by omega) _
      have hr2 := gs_lt gy hiy
      have ty : bitsV .and .i64 (shrV .i64 (ys.getD (i % ys.length) 0) (j % ys.length : Nat)) 1 = if gb ys (i % ys.length) (j % ys.length) then 1 else 0 := testI hr2.1 (by omega) _
      have e : (i != j && jp xs ys i j) = (!(i == j) && ((i / ys.length == j / ys.length || gb xs (i / ys.length) (j / ys.length)) && (i % ys.length == j % ys.length || gb ys (i % ys.length) (j % ys.length)))) := rfl
      cases hij : (i == j) with
      | true =>
        rw [hij, Bool.not_true, Bool.false_and] at e
        simp (config := {maxSteps := 2000000}) only [s33, ↓aw_region, ↓aw_skip, ↓aw_seq, ↓aw_block, ↓aw_exit, ↓aw_ret, ↓sops_nil, ↓sops_go, ↓dops_nil, ↓dopsX_nil, ↓dopsR_nil, ↓vdn, vup, extr_20, extr_21, extr_30, extr_31, extr_32, List.map_cons, List.map_nil, cond_true, cond_false, aop, aThen, aBlock, argEnv, ev, sput, sputO, binK, binI, unK, builtinK, pickK, Nat.reduceBEq, Nat.reduceAdd, Int.reduceBEq, Int.reduceBNe, Int.reduceLT, aPost, resK, tup, tyf, bneN, hij, Bool.not_true]
        exact go _ (by simp (config := {maxSteps := 2000000}) only [↓aw_region, ↓aw_skip, ↓aw_seq, ↓aw_block, ↓aw_exit, ↓aw_ret, ↓sops_nil, ↓sops_go, ↓dops_nil, ↓dopsX_nil, ↓dopsR_nil, ↓vdn, vup, extr_20, extr_21, extr_30, extr_31, extr_32, List.map_cons, List.map_nil, cond_true, cond_false, aop, aThen, aBlock, argEnv, ev, sput, sputO, binK, binI, unK, builtinK, pickK, Nat.reduceBEq, Nat.reduceAdd, Int.reduceBEq, Int.reduceBNe, Int.reduceLT, aPost, resK, tup, tyf, e])
      | false =>
        cases ha : (i / ys.length == j / ys.length) with
        | true =>
          cases hc : (i % ys.length == j % ys.length) with
          | true =>
            rw [hij, ha, hc] at e
            simp (config := {maxSteps := 2000000}) only [s33, ↓aw_region, ↓aw_skip, ↓aw_seq, ↓aw_block, ↓aw_exit, ↓aw_ret, ↓sops_nil, ↓sops_go, ↓dops_nil, ↓dopsX_nil, ↓dopsR_nil, ↓vdn, vup, extr_20, extr_21, extr_30, extr_31, extr_32, List.map_cons, List.map_nil, cond_true, cond_false, aop, aThen, aBlock, argEnv, ev, sput, sputO, binK, binI, unK, builtinK, pickK, Nat.reduceBEq, Nat.reduceAdd, Int.reduceBEq, Int.reduceBNe, Int.reduceLT, aPost, resK, tup, tyf, bneN, beqN, hij, ha, hc, Bool.not_false]
            exact go _ (by simp (config := {maxSteps := 2000000}) only [↓aw_region, ↓aw_skip, ↓aw_seq, ↓aw_block, ↓aw_exit, ↓aw_ret, ↓sops_nil, ↓sops_go, ↓dops_nil, ↓dopsX_nil, ↓dopsR_nil, ↓vdn, vup, extr_20, extr_21, extr_30, extr_31, extr_32, List.map_cons, List.map_nil, cond_true, cond_false, aop, aThen, aBlock, argEnv, ev, sput, sputO, binK, binI, unK, builtinK, pickK, Nat.reduceBEq, Nat.reduceAdd, Int.reduceBEq, Int.reduceBNe, Int.reduceLT, aPost, resK, tup, tyf, e, Bool.not_false, Bool.true_or, Bool.or_true, Bool.false_or, Bool.or_false, Bool.true_and, Bool.and_true, Bool.false_and, Bool.and_false])
          | false =>
            cases hgc : gb ys (i % ys.length) (j % ys.length)
            all_goals
              rw [hij, ha, hc, hgc] at e
              simp (config := {maxSteps := 2000000}) only [s33, ↓aw_region, ↓aw_skip, ↓aw_seq, ↓aw_block, ↓aw_exit, ↓aw_ret, ↓sops_nil, ↓sops_go, ↓dops_nil, ↓dopsX_nil, ↓dopsR_nil, ↓vdn, vup, extr_20, extr_21, extr_30, extr_31, extr_32, List.map_cons, List.map_nil, cond_true, cond_false, aop, aThen, aBlock, argEnv, ev, sput, sputO, binK, binI, unK, builtinK, pickK, Nat.reduceBEq, Nat.reduceAdd, Int.reduceBEq, Int.reduceBNe, Int.reduceLT, aPost, resK, tup, tyf, bneN, beqN, hij, ha, hc, hgc, Bool.not_false, hw1.idx el_22 esz_3 hiy, hw1.load shp_3 hiy, hnn, ty, beq1, if_true, if_false, Bool.false_eq_true]
              exact go _ (by simp (config := {maxSteps := 2000000}) only [↓aw_region, ↓aw_skip, ↓aw_seq, ↓aw_block, ↓aw_exit, ↓aw_ret, ↓sops_nil, ↓sops_go, ↓dops_nil, ↓dopsX_nil, ↓dopsR_nil, ↓vdn, vup, extr_20, extr_21, extr_30, extr_31, extr_32, List.map_cons, List.map_nil, cond_true, cond_false, aop, aThen, aBlock, argEnv, ev, sput, sputO, binK, binI, unK, builtinK, pickK, Nat.reduceBEq, Nat.reduceAdd, Int.reduceBEq, Int.reduceBNe, Int.reduceLT, aPost, resK, tup, tyf, e, Bool.not_false, Bool.true_or, Bool.or_true, Bool.false_or, Bool.or_false, Bool.true_and, Bool.and_true, Bool.false_and, Bool.and_false])
        | false =>
          cases hga : gb xs (i / ys.length) (j / ys.length) with
          | false =>
            rw [hij, ha, hga] at e
            simp (config := {maxSteps := 2000000}) only [s33, ↓aw_region, ↓aw_skip, ↓aw_seq, ↓aw_block, ↓aw_exit, ↓aw_ret, ↓sops_nil, ↓sops_go, ↓dops_nil, ↓dopsX_nil, ↓dopsR_nil, ↓vdn, vup, extr_20, extr_21, extr_30, extr_31, extr_32, List.map_cons, List.map_nil, cond_true, cond_false, aop, aThen, aBlock, argEnv, ev, sput, sputO, binK, binI, unK, builtinK, pickK, Nat.reduceBEq, Nat.reduceAdd, Int.reduceBEq, Int.reduceBNe, Int.reduceLT, aPost, resK, tup, tyf, bneN, beqN, hij, ha, hga, Bool.not_false, hv1.idx el_22 esz_3 hix, hv1.load shp_3 hix, hnn, tx, beq1, if_true, if_false, Bool.false_eq_true]
            exact go _ (by simp (config := {maxSteps := 2000000}) only [↓aw_region, ↓aw_skip, ↓aw_seq, ↓aw_block, ↓aw_exit, ↓aw_ret, ↓sops_nil, ↓sops_go, ↓dops_nil, ↓dopsX_nil, ↓dopsR_nil, ↓vdn, vup, extr_20, extr_21, extr_30, extr_31, extr_32, List.map_cons, List.map_nil, cond_true, cond_false, aop, aThen, aBlock, argEnv, ev, sput, sputO, binK, binI, unK, builtinK, pickK, Nat.reduceBEq, Nat.reduceAdd, Int.reduceBEq, Int.reduceBNe, Int.reduceLT, aPost, resK, tup, tyf, e, Bool.not_false, Bool.true_or, Bool.or_true, Bool.false_or, Bool.or_false, Bool.true_and, Bool.and_true, Bool.false_and, Bool.and_false])
          | true =>
            cases hc : (i % ys.length == j % ys.length) with
            | true =>
              rw [hij, ha, hga, hc] at e
              simp (config := {maxSteps := 2000000}) only [s33, ↓aw_region, ↓aw_skip, ↓aw_seq, ↓aw_block, ↓aw_exit, ↓aw_ret, ↓sops_nil, ↓sops_go, ↓dops_nil, ↓dopsX_nil, ↓dopsR_nil, ↓vdn, vup, extr_20, extr_21, extr_30, extr_31, extr_32, List.map_cons, List.map_nil, cond_true, cond_false, aop, aThen, aBlock, argEnv, ev, sput, sputO, binK, binI, unK, builtinK, pickK, Nat.reduceBEq, Nat.reduceAdd, Int.reduceBEq, Int.reduceBNe, Int.reduceLT, aPost, resK, tup, tyf, bneN, beqN, hij, ha, hga, hc, Bool.not_false, hv1.idx el_22 esz_3 hix, hv1.load shp_3 hix, hnn, tx, beq1, if_true, if_false, Bool.false_eq_true]
              exact go _ (by simp (config := {maxSteps := 2000000}) only [↓aw_region, ↓aw_skip, ↓aw_seq, ↓aw_block, ↓aw_exit, ↓aw_ret, ↓sops_nil, ↓sops_go, ↓dops_nil, ↓dopsX_nil, ↓dopsR_nil, ↓vdn, vup, extr_20, extr_21, extr_30, extr_31, extr_32, List.map_cons, List.map_nil, cond_true, cond_false, aop, aThen, aBlock, argEnv, ev, sput, sputO, binK, binI, unK, builtinK, pickK, Nat.reduceBEq, Nat.reduceAdd, Int.reduceBEq, Int.reduceBNe, Int.reduceLT, aPost, resK, tup, tyf, e, Bool.not_false, Bool.true_or, Bool.or_true, Bool.false_or, Bool.or_false, Bool.true_and, Bool.and_true, Bool.false_and, Bool.and_false])
            | false =>
              cases hgc : gb ys (i % ys.length) (j % ys.length)
              all_goals
                rw [hij, ha, hga, hc, hgc] at e
                simp (config := {maxSteps := 2000000}) only [s33, ↓aw_region, ↓aw_skip, ↓aw_seq, ↓aw_block, ↓aw_exit, ↓aw_ret, ↓sops_nil, ↓sops_go, ↓dops_nil, ↓dopsX_nil, ↓dopsR_nil, ↓vdn, vup, extr_20, extr_21, extr_30, extr_31, extr_32, List.map_cons, List.map_nil, cond_true, cond_false, aop, aThen, aBlock, argEnv, ev, sput, sputO, binK, binI, unK, builtinK, pickK, Nat.reduceBEq, Nat.reduceAdd, Int.reduceBEq, Int.reduceBNe, Int.reduceLT, aPost, resK, tup, tyf, bneN, beqN, hij, ha, hga, hc, hgc, Bool.not_false, hv1.idx el_22 esz_3 hix, hv1.load shp_3 hix, hw1.idx el_22 esz_3 hiy, hw1.load shp_3 hiy, hnn, tx, ty, beq1, if_true, if_false, Bool.false_eq_true]
                exact go _ (by simp (config := {maxSteps := 2000000}) only [↓aw_region, ↓aw_skip, ↓aw_seq, ↓aw_block, ↓aw_exit, ↓aw_ret, ↓sops_nil, ↓sops_go, ↓dops_nil, ↓dopsX_nil, ↓dopsR_nil, ↓vdn, vup, extr_20, extr_21, extr_30, extr_31, extr_32, List.map_cons, List.map_nil, cond_true, cond_false, aop, aThen, aBlock, argEnv, ev, sput, sputO, binK, binI, unK, builtinK, pickK, Nat.reduceBEq, Nat.reduceAdd, Int.reduceBEq, Int.reduceBNe, Int.reduceLT, aPost, resK, tup, tyf, e, Bool.not_false, Bool.true_or, Bool.or_true, Bool.false_or, Bool.or_false, Bool.true_and, Bool.and_true, Bool.false_and, Bool.and_false])
    · obtain rfl : m = j := by omega
      refine aws_cut fun M hM => ?_
      simp (config := {maxSteps := 2000000}) only [s33, ↓aw_region, ↓aw_skip, ↓aw_seq, ↓aw_block, ↓aw_exit, ↓aw_ret, ↓sops_nil, ↓sops_go, ↓dops_nil, ↓dopsX_nil, ↓dopsR_nil, ↓vdn, vup, extr_20, extr_21, extr_30, extr_31, extr_32, List.map_cons, List.map_nil, cond_true, cond_false, aop, aThen, aBlock, argEnv, ev, sput, sputO, binK, binI, unK, builtinK, pickK, Nat.reduceBEq, Nat.reduceAdd, Int.reduceBEq, Int.reduceBNe, Int.reduceLT, aPost, resK, tup, tyf, Int.lt_irrefl]
      refine hM [(0, v), (1, w), (4, .slice none 0 0), (5, vint ys.length), (6, tv h.length m), (7, vint i), (20, tv h.length m), (21, vint m), (22, vint i), (25, tv h.length m), (26, vint m), (27, vint m), (28, .bool false)] _ _ ?_ (by simp (config := {maxSteps := 2000000}) only [↓aw_region, ↓aw_skip, ↓aw_seq, ↓aw_block, ↓aw_exit, ↓aw_ret, ↓sops_nil, ↓sops_go, ↓dops_nil, ↓dopsX_nil, ↓dopsR_nil, ↓vdn, vup, extr_20, extr_21, extr_30, extr_31, extr_32, List.map_cons, List.map_nil, cond_true, cond_false, aop, aThen, aBlock, argEnv, ev, sput, sputO, binK, binI, unK, builtinK, pickK, Nat.reduceBEq, Nat.reduceAdd, Int.reduceBEq, Int.reduceBNe, Int.reduceLT, aPost, resK, tup, tyf])
      clear hM
      try clear M
      refine aw_aws ?_
      simp (config := {maxSteps := 2000000}) only [s33, ↓aw_region, ↓aw_skip, ↓aw_seq, ↓aw_block, ↓aw_exit, ↓aw_ret, ↓sops_nil, ↓sops_go, ↓dops_nil, ↓dopsX_nil, ↓dopsR_nil, ↓vdn, vup, extr_20, extr_21, extr_30, extr_31, extr_32, List.map_cons, List.map_nil, cond_true, cond_false, aop, aThen, aBlock, argEnv, ev, sput, sputO, binK, binI, unK, builtinK, pickK, Nat.reduceBEq, Nat.reduceAdd, Int.reduceBEq, Int.reduceBNe, Int.reduceLT, aPost, resK, tup, tyf]
      refine hQ4 _ _ _ (hQ3 _ _ _ ?_)
      simp (config := {maxSteps := 2000000}) only [s33, ↓aw_region, ↓aw_skip, ↓aw_seq, ↓aw_block, ↓aw_exit, ↓aw_ret, ↓sops_nil, ↓sops_go, ↓dops_nil, ↓dopsX_nil, ↓dopsR_nil, ↓vdn, vup, extr_20, extr_21, extr_30, extr_31, extr_32, List.map_cons, List.map_nil, cond_true, cond_false, aop, aThen, aBlock, argEnv, ev, sput, sputO, binK, binI, unK, builtinK, pickK, Nat.reduceBEq, Nat.reduceAdd, Int.reduceBEq, Int.reduceBNe, Int.reduceLT, aPost, resK, tup, tyf, if_true]
      refine hK [(0, v), (1, w), (4, .slice none 0 0), (5, vint ys.length), (6, tv h.length m), (20, tv h.length m), (21, vint m), (22, vint i)] _ _ ?_ (by simp (config := {maxSteps := 2000000}) only [↓aw_region, ↓aw_skip, ↓aw_seq, ↓aw_block, ↓aw_exit, ↓aw_ret, ↓sops_nil, ↓sops_go, ↓dops_nil, ↓dopsX_nil, ↓dopsR_nil, ↓vdn, vup, extr_20, extr_21, extr_30, extr_31, extr_32, List.map_cons, List.map_nil, cond_true, cond_false, aop, aThen, aBlock, argEnv, ev, sput, sputO, binK, binI, unK, builtinK, pickK, Nat.reduceBEq, Nat.reduceAdd, Int.reduceBEq, Int.reduceBNe, Int.reduceLT, aPost, resK, tup, tyf])
      clear hK
      try clear K
      refine aw_aws ?_
      simp (config := {maxSteps := 2000000}) only [s33, ↓aw_region, ↓aw_skip, ↓aw_seq, ↓aw_block, ↓aw_exit, ↓aw_ret, ↓sops_nil, ↓sops_go, ↓dops_nil, ↓dopsX_nil, ↓dopsR_nil, ↓vdn, vup, extr_20, extr_21, extr_30, extr_31, extr_32, List.map_cons, List.map_nil, cond_true, cond_false, aop, aThen, aBlock, argEnv, ev, sput, sputO, binK, binI, unK, builtinK, pickK, Nat.reduceBEq, Nat.reduceAdd, Int.reduceBEq, Int.reduceBNe, Int.reduceLT, aPost, resK, tup, tyf, add1 (show i < 9223372036854775807 by omega)]
      refine hQ2 _ _ _ ⟨i + 1, by omega, by omega, by simp (config := {maxSteps := 2000000}) only [↓aw_region, ↓aw_skip, ↓aw_seq, ↓aw_block, ↓aw_exit, ↓aw_ret, ↓sops_nil, ↓sops_go, ↓dops_nil, ↓dopsX_nil, ↓dopsR_nil, ↓vdn, vup, extr_20, extr_21, extr_30, extr_31, extr_32, List.map_cons, List.map_nil, cond_true, cond_false, aop, aThen, aBlock, argEnv, ev, sput, sputO, binK, binI, unK, builtinK, pickK, Nat.reduceBEq, Nat.reduceAdd, Int.reduceBEq, Int.reduceBNe, Int.reduceLT, aPost, resK, tup, tyf], ?_⟩
      simp only [tabH]
      rw [rowsN_next fun _ => rfl]
  · obtain rfl : m = i := by omega
    refine aws_cut fun K hK => ?_
    simp (config := {maxSteps := 2000000}) only [s33, ↓aw_region, ↓aw_skip, ↓aw_seq, ↓aw_block, ↓aw_exit, ↓aw_ret, ↓sops_nil, ↓sops_go, ↓dops_nil, ↓dopsX_nil, ↓dopsR_nil, ↓vdn, vup, extr_20, extr_21, extr_30, extr_31, extr_32, List.map_cons, List.map_nil, cond_true, cond_false, aop, aThen, aBlock, argEnv, ev, sput, sputO, binK, binI, unK, builtinK, pickK, Nat.reduceBEq, Nat.reduceAdd, Int.reduceBEq, Int.reduceBNe, Int.reduceLT, aPost, resK, tup, tyf, Int.lt_irrefl]
    refine hK [(0, v), (1, w), (4, .slice none 0 0), (5, vint ys.length), (6, tv h.length m), (20, tv h.length m), (21, vint m), (22, vint m), (23, .bool false)] _ _ ?_ (by simp (config := {maxSteps := 2000000}) only [↓aw_region, ↓aw_skip, ↓aw_seq, ↓aw_block, ↓aw_exit, ↓aw_ret, ↓sops_nil, ↓sops_go, ↓dops_nil, ↓dopsX_nil, ↓dopsR_nil, ↓vdn, vup, extr_20, extr_21, extr_30, extr_31, extr_32, List.map_cons, List.map_nil, cond_true, cond_false, aop, aThen, aBlock, argEnv, ev, sput, sputO, binK, binI, unK, builtinK, pickK, Nat.reduceBEq, Nat.reduceAdd, Int.reduceBEq, Int.reduceBNe, Int.reduceLT, aPost, resK, tup, tyf])
    clear hK
    try clear K
    refine aw_aws ?_
    simp (config := {maxSteps := 2000000}) only [s33, ↓aw_region, ↓aw_skip, ↓aw_seq, ↓aw_block, ↓aw_exit, ↓aw_ret, ↓sops_nil, ↓sops_go, ↓dops_nil, ↓dopsX_nil, ↓dopsR_nil, ↓vdn, vup, extr_20, extr_21, extr_30, extr_31, extr_32, List.map_cons, List.map_nil, cond_true, cond_false, aop, aThen, aBlock, argEnv, ev, sput, sputO, binK, binI, unK, builtinK, pickK, Nat.reduceBEq, Nat.reduceAdd, Int.reduceBEq, Int.reduceBNe, Int.reduceLT, aPost, resK, tup, tyf]
    refine hQ2 _ _ _ (hQ _ _ _ ?_)
    simp (config := {maxSteps := 2000000}) only [s33, ↓aw_region, ↓aw_skip, ↓aw_seq, ↓aw_block, ↓aw_exit, ↓aw_ret, ↓sops_nil, ↓sops_go, ↓dops_nil, ↓dopsX_nil, ↓dopsR_nil, ↓vdn, vup, extr_20, extr_21, extr_30, extr_31, extr_32, List.map_cons, List.map_nil, cond_true, cond_false, aop, aThen, aBlock, argEnv, ev, sput, sputO, binK, binI, unK, builtinK, pickK, Nat.reduceBEq, Nat.reduceAdd, Int.reduceBEq, Int.reduceBNe, Int.reduceLT, aPost, resK, tup, tyf, if_true]
    refine hZ [(0, v), (1, w), (4, .slice none 0 0), (5, vint ys.length), (6, tv h.length m)] _ _ ?_ (by simp (config := {maxSteps := 2000000}) only [↓aw_region, ↓aw_skip, ↓aw_seq, ↓aw_block, ↓aw_exit, ↓aw_ret, ↓sops_nil, ↓sops_go, ↓dops_nil, ↓dopsX_nil, ↓dopsR_nil, ↓vdn, vup, extr_20, extr_21, extr_30, extr_31, extr_32, List.map_cons, List.map_nil, cond_true, cond_false, aop, aThen, aBlock, argEnv, ev, sput, sputO, binK, binI, unK, builtinK, pickK, Nat.reduceBEq, Nat.reduceAdd, Int.reduceBEq, Int.reduceBNe, Int.reduceLT, aPost, resK, tup, tyf])
    clear hZ
    try clear Z
    refine aw_aws ?_
    simp (config := {maxSteps := 2000000}) only [s33, ↓aw_region, ↓aw_skip, ↓aw_seq, ↓aw_block, ↓aw_exit, ↓aw_ret, ↓sops_nil, ↓sops_go, ↓dops_nil, ↓dopsX_nil, ↓dopsR_nil, ↓vdn, vup, extr_20, extr_21, extr_30, extr_31, extr_32, List.map_cons, List.map_nil, cond_true, cond_false, aop, aThen, aBlock, argEnv, ev, sput, sputO, binK, binI, unK, builtinK, pickK, Nat.reduceBEq, Nat.reduceAdd, Int.reduceBEq, Int.reduceBNe, Int.reduceLT, aPost, resK, tup, tyf]
    have h1 := intSl_blk (get_new h (.ints (iL (rowsN (rwM (jp xs ys)) m m 0)) 3 false))
    rw [iL_len, rowsN_len, rowsN_all] at h1
    refine ⟨?_, Ext.app _ _ _⟩
    rw [tabH, rowsN_all, joinL, hm]
    exact h1
end Go.Proofs.Tryd.Am
