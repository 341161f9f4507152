/-
  ranks: the law RanksClear.
-/
import Derived.Test.YtemmcfeekpblkaaDoorRkClear
set_option linter.all false
namespace Go.Proofs.Tryd.Am
open Go.Am
set_option maxRecDepth 100000
set_option maxHeartbeats 1000000

theorem s7_callW [Tabs Tryd.prog] {args : List Value} {h : Heap} {Q : Value → Heap → Prop} (hsz : args.length ≤ 124) (hk : AWS Tryd.prog 124 s7 (aPost Tryd.prog [.tmp 2] Q) (argEnv 0 args) h) : ACall Tryd.prog 7 args h Q :=
  acall_w Tryd.func7 rfl (enters_of Tryd.func7 (by kernel_rfl) rfl) rfl rfl (by decide) s7_strip s7_ok hsz hk
theorem trn_take_eq {xs : List Int} (h : trn xs = true) : xs.take 11 = xs := List.take_of_length_le (by have := trn_len h; omega)

theorem law_clear [BitTab prog 1] {h : Heap} {v : Value} {xs : List Int} (hv : IntSl h v xs) (hl : xs.length < 9223372036854775808) (hx : ∀ x ∈ xs, -9223372036854775808 ≤ x ∧ x < 9223372036854775808) :
    ACall prog 7 [v] h fun r _ => r = .bool true := by
  have awk : ∀ {K : Value → Heap → Prop} {g : Heap}, (∀ g', K (.bool true) g') → ACall prog 21 [] g K := fun {K g} hk => awake_call.mono fun v h' ⟨h1, _⟩ => by rw [h1]; exact hk _
  have hx11 : ∀ x ∈ xs.take 11, -9223372036854775808 ≤ x ∧ x < 9223372036854775808 := fun x hm => hx x (List.take_subset _ _ hm)
  have hl11 : (xs.take 11).length < 9223372036854775808 := by simp; omega
  have hc11 : clearV (xs.take 11) = clearV xs := by
    by_cases ht : trn xs = true
    · rw [trn_take_eq ht]
    · rw [clearV, clearV, trn_take, if_neg ht, if_neg ht]
  have e20 : ((2 : Int) != 0) = true := rfl
  have e22 : ((2 : Int) == 2) = true := rfl
  have e00 : ((0 : Int) != 0) = false := rfl
  have e0 : ((0 : Int) == 0) = true := rfl
  refine s7_callW (by simp) ?_
  simp only [s7]
  refine aws_cut fun N hN => ?_
  simp (config := {maxSteps := 2000000}) only [s7, ↓aw_region, ↓aw_skip, ↓aw_seq, ↓aw_block, ↓aw_exit, ↓aw_ret, ↓sops_nil, ↓sops_go, ↓dops_nil, ↓dopsX_nil, ↓dopsR_nil, ↓vdn, vup, extr_20, extr_21, extr_30, extr_31, extr_32, List.map_cons, List.map_nil, cond_true, cond_false, aop, aThen, aBlock, argEnv, ev, sput, sputO, binK, binI, unK, builtinK, pickK, Nat.reduceBEq, Nat.reduceAdd, Int.reduceBEq, Int.reduceBNe, Int.reduceLT, aPost, resK, tup, tyf]
  refine hN [(0, v), (2, .bool false)] _ _ ?_ (by simp (config := {maxSteps := 2000000}) only [↓aw_region, ↓aw_skip, ↓aw_seq, ↓aw_block, ↓aw_exit, ↓aw_ret, ↓sops_nil, ↓sops_go, ↓dops_nil, ↓dopsX_nil, ↓dopsR_nil, ↓vdn, vup, extr_20, extr_21, extr_30, extr_31, extr_32, List.map_cons, List.map_nil, cond_true, cond_false, aop, aThen, aBlock, argEnv, ev, sput, sputO, binK, binI, unK, builtinK, pickK, Nat.reduceBEq, Nat.reduceAdd, Int.reduceBEq, Int.reduceBNe, Int.reduceLT, aPost, resK, tup, tyf])
  clear hN N
  refine aws_cut fun N hN => ?_
  simp (config := {maxSteps := 2000000}) only [s7, ↓aw_region, ↓aw_skip, ↓aw_seq, ↓aw_block, ↓aw_exit, ↓aw_ret, ↓sops_nil, ↓sops_go, ↓dops_nil, ↓dopsX_nil, ↓dopsR_nil, ↓vdn, vup, extr_20, extr_21, extr_30, extr_31, extr_32, List.map_cons, List.map_nil, cond_true, cond_false, aop, aThen, aBlock, argEnv, ev, sput, sputO, binK, binI, unK, builtinK, pickK, Nat.reduceBEq, Nat.reduceAdd, Int.reduceBEq, Int.reduceBNe, Int.reduceLT, aPost, resK, tup, tyf, callK, List.nil_append, List.append_nil, List.toList_toArray, List.cons_append]
  refine (list_call hv hl).mono ?_
  rintro l1 _ ⟨hl1, g1, rfl⟩
  refine (clear_call hl1 hl11 hx11).mono ?_
  rintro _ h1 ⟨rfl, rfl⟩
  rw [hc11]
  have hv1 := IntSl_ext hv (Ext.app (fun _ => False) h g1)
  clear hl1 hc11
  generalize h ++ g1 = h1 at hv1 ⊢
  cases ht : trn xs with
  | false =>
    rw [clearV, ht, if_neg (by decide)]
    simp (config := {maxSteps := 2000000}) only [s7, ↓aw_region, ↓aw_skip, ↓aw_seq, ↓aw_block, ↓aw_exit, ↓aw_ret, ↓sops_nil, ↓sops_go, ↓dops_nil, ↓dopsX_nil, ↓dopsR_nil, ↓vdn, vup, extr_20, extr_21, extr_30, extr_31, extr_32, List.map_cons, List.map_nil, cond_true, cond_false, aop, aThen, aBlock, argEnv, ev, sput, sputO, binK, binI, unK, builtinK, pickK, Nat.reduceBEq, Nat.reduceAdd, Int.reduceBEq, Int.reduceBNe, Int.reduceLT, aPost, resK, tup, tyf]
    refine hN [(0, v), (2, .bool false), (3, .int .i64 0), (4, .int .i64 2)] _ _ ?_ (by simp (config := {maxSteps := 2000000}) only [↓aw_region, ↓aw_skip, ↓aw_seq, ↓aw_block, ↓aw_exit, ↓aw_ret, ↓sops_nil, ↓sops_go, ↓dops_nil, ↓dopsX_nil, ↓dopsR_nil, ↓vdn, vup, extr_20, extr_21, extr_30, extr_31, extr_32, List.map_cons, List.map_nil, cond_true, cond_false, aop, aThen, aBlock, argEnv, ev, sput, sputO, binK, binI, unK, builtinK, pickK, Nat.reduceBEq, Nat.reduceAdd, Int.reduceBEq, Int.reduceBNe, Int.reduceLT, aPost, resK, tup, tyf])
    refine aws_cut fun N hN => ?_
    simp (config := {maxSteps := 2000000}) only [s7, ↓aw_region, ↓aw_skip, ↓aw_seq, ↓aw_block, ↓aw_exit, ↓aw_ret, ↓sops_nil, ↓sops_go, ↓dops_nil, ↓dopsX_nil, ↓dopsR_nil, ↓vdn, vup, extr_20, extr_21, extr_30, extr_31, extr_32, List.map_cons, List.map_nil, cond_true, cond_false, aop, aThen, aBlock, argEnv, ev, sput, sputO, binK, binI, unK, builtinK, pickK, Nat.reduceBEq, Nat.reduceAdd, Int.reduceBEq, Int.reduceBNe, Int.reduceLT, aPost, resK, tup, tyf, e20, e22, callK, List.nil_append, List.append_nil, List.toList_toArray, List.cons_append]
    refine awk fun g => ?_
    simp (config := {maxSteps := 2000000}) only [s7, ↓aw_region, ↓aw_skip, ↓aw_seq, ↓aw_block, ↓aw_exit, ↓aw_ret, ↓sops_nil, ↓sops_go, ↓dops_nil, ↓dopsX_nil, ↓dopsR_nil, ↓vdn, vup, extr_20, extr_21, extr_30, extr_31, extr_32, List.map_cons, List.map_nil, cond_true, cond_false, aop, aThen, aBlock, argEnv, ev, sput, sputO, binK, binI, unK, builtinK, pickK, Nat.reduceBEq, Nat.reduceAdd, Int.reduceBEq, Int.reduceBNe, Int.reduceLT, aPost, resK, tup, tyf]
  | true =>
    have hlen := trn_len ht
    have htc := trn_clr ht
    have hle := Clr.clear_le htc (by omega)
    obtain ⟨low1, low2, low4, low8⟩ := Clr.clear_low htc (by omega)
    have hall := Clr.clear_all htc (by omega)
    have hcy := cA_all ht
    rw [clearV, ht, if_pos rfl]
    simp (config := {maxSteps := 2000000}) only [s7, ↓aw_region, ↓aw_skip, ↓aw_seq, ↓aw_block, ↓aw_exit, ↓aw_ret, ↓sops_nil, ↓sops_go, ↓dops_nil, ↓dopsX_nil, ↓dopsR_nil, ↓vdn, vup, extr_20, extr_21, extr_30, extr_31, extr_32, List.map_cons, List.map_nil, cond_true, cond_false, aop, aThen, aBlock, argEnv, ev, sput, sputO, binK, binI, unK, builtinK, pickK, Nat.reduceBEq, Nat.reduceAdd, Int.reduceBEq, Int.reduceBNe, Int.reduceLT, aPost, resK, tup, tyf]
    refine hN [(0, v), (2, .bool false), (3, vint (clr xs : Nat)), (4, .int .i64 0)] _ _ ?_ (by simp (config := {maxSteps := 2000000}) only [↓aw_region, ↓aw_skip, ↓aw_seq, ↓aw_block, ↓aw_exit, ↓aw_ret, ↓sops_nil, ↓sops_go, ↓dops_nil, ↓dopsX_nil, ↓dopsR_nil, ↓vdn, vup, extr_20, extr_21, extr_30, extr_31, extr_32, List.map_cons, List.map_nil, cond_true, cond_false, aop, aThen, aBlock, argEnv, ev, sput, sputO, binK, binI, unK, builtinK, pickK, Nat.reduceBEq, Nat.reduceAdd, Int.reduceBEq, Int.reduceBNe, Int.reduceLT, aPost, resK, tup, tyf])
    clear hN N
    refine aws_cut fun N hN => ?_
    simp (config := {maxSteps := 2000000}) only [s7, ↓aw_region, ↓aw_skip, ↓aw_seq, ↓aw_block, ↓aw_exit, ↓aw_ret, ↓sops_nil, ↓sops_go, ↓dops_nil, ↓dopsX_nil, ↓dopsR_nil, ↓vdn, vup, extr_20, extr_21, extr_30, extr_31, extr_32, List.map_cons, List.map_nil, cond_true, cond_false, aop, aThen, aBlock, argEnv, ev, sput, sputO, binK, binI, unK, builtinK, pickK, Nat.reduceBEq, Nat.reduceAdd, Int.reduceBEq, Int.reduceBNe, Int.reduceLT, aPost, resK, tup, tyf, e00, callK, List.nil_append, List.append_nil, List.toList_toArray, List.cons_append]
    refine (rvalid_call hv1 hl hx).mono ?_
    rintro _ h1 ⟨rfl, rfl⟩
    simp (config := {maxSteps := 2000000}) only [s7, ↓aw_region, ↓aw_skip, ↓aw_seq, ↓aw_block, ↓aw_exit, ↓aw_ret, ↓sops_nil, ↓sops_go, ↓dops_nil, ↓dopsX_nil, ↓dopsR_nil, ↓vdn, vup, extr_20, extr_21, extr_30, extr_31, extr_32, List.map_cons, List.map_nil, cond_true, cond_false, aop, aThen, aBlock, argEnv, ev, sput, sputO, binK, binI, unK, builtinK, pickK, Nat.reduceBEq, Nat.reduceAdd, Int.reduceBEq, Int.reduceBNe, Int.reduceLT, aPost, resK, tup, tyf, ht]
    refine hN [(0, v), (2, .bool false), (3, vint (clr xs : Nat))] _ _ ?_ (by simp (config := {maxSteps := 2000000}) only [↓aw_region, ↓aw_skip, ↓aw_seq, ↓aw_block, ↓aw_exit, ↓aw_ret, ↓sops_nil, ↓sops_go, ↓dops_nil, ↓dopsX_nil, ↓dopsR_nil, ↓vdn, vup, extr_20, extr_21, extr_30, extr_31, extr_32, List.map_cons, List.map_nil, cond_true, cond_false, aop, aThen, aBlock, argEnv, ev, sput, sputO, binK, binI, unK, builtinK, pickK, Nat.reduceBEq, Nat.reduceAdd, Int.reduceBEq, Int.reduceBNe, Int.reduceLT, aPost, resK, tup, tyf])
    clear hN N
    refine aws_cut fun N hN => ?_
    simp (config := {maxSteps := 2000000}) only [s7, ↓aw_region, ↓aw_skip, ↓aw_seq, ↓aw_block, ↓aw_exit, ↓aw_ret, ↓sops_nil, ↓sops_go, ↓dops_nil, ↓dopsX_nil, ↓dopsR_nil, ↓vdn, vup, extr_20, extr_21, extr_30, extr_31, extr_32, List.map_cons, List.map_nil, cond_true, cond_false, aop, aThen, aBlock, argEnv, ev, sput, sputO, binK, binI, unK, builtinK, pickK, Nat.reduceBEq, Nat.reduceAdd, Int.reduceBEq, Int.reduceBNe, Int.reduceLT, aPost, resK, tup, tyf, callK, List.nil_append, List.append_nil, List.toList_toArray, List.cons_append]
    refine (list_call hv1 hl).mono ?_
    rintro l2 _ ⟨hl2, g2, rfl⟩
    rw [trn_take_eq ht] at hl2
    refine (cycles30_call hl2 hl hx).mono ?_
    rintro _ h3 ⟨hE3, hr3⟩
    rw [ht, if_pos rfl] at hr3
    obtain ⟨w, rfl, hw⟩ := hr3
    have hv3 : IntSl h3 v xs := IntSl_ext (IntSl_ext hv1 (Ext.app (fun _ => False) h1 g2)) hE3
    simp (config := {maxSteps := 2000000}) only [s7, ↓aw_region, ↓aw_skip, ↓aw_seq, ↓aw_block, ↓aw_exit, ↓aw_ret, ↓sops_nil, ↓sops_go, ↓dops_nil, ↓dopsX_nil, ↓dopsR_nil, ↓vdn, vup, extr_20, extr_21, extr_30, extr_31, extr_32, List.map_cons, List.map_nil, cond_true, cond_false, aop, aThen, aBlock, argEnv, ev, sput, sputO, binK, binI, unK, builtinK, pickK, Nat.reduceBEq, Nat.reduceAdd, Int.reduceBEq, Int.reduceBNe, Int.reduceLT, aPost, resK, tup, tyf]
    refine hN [(0, v), (2, .bool false), (3, vint (clr xs : Nat)), (5, w), (6, .int .i64 0)] _ _ ?_ (by simp (config := {maxSteps := 2000000}) only [↓aw_region, ↓aw_skip, ↓aw_seq, ↓aw_block, ↓aw_exit, ↓aw_ret, ↓sops_nil, ↓sops_go, ↓dops_nil, ↓dopsX_nil, ↓dopsR_nil, ↓vdn, vup, extr_20, extr_21, extr_30, extr_31, extr_32, List.map_cons, List.map_nil, cond_true, cond_false, aop, aThen, aBlock, argEnv, ev, sput, sputO, binK, binI, unK, builtinK, pickK, Nat.reduceBEq, Nat.reduceAdd, Int.reduceBEq, Int.reduceBNe, Int.reduceLT, aPost, resK, tup, tyf])
    clear hN N hl2 hE3
    -- the conditions
    obtain ⟨m, hm⟩ : ∃ m, m = clr xs := ⟨_, rfl⟩
    have hm' : Clr.clearN xs.length (bb xs) = m := hm.symm
    rw [hm'] at hle low1 low2 low4 low8 hall
    rw [← hm]
    have heq : (((m : Nat) : Int) == ((xs.length : Nat) : Int)) = ((((cA xs xs.length).length : Nat) : Int) == 0) := by
      rw [Bool.eq_iff_iff, beq_iff_eq, beq_iff_eq, hcy, List.length_map]
      constructor
      · intro h
        rw [hall.1 (by omega)]; rfl
      · intro h
        have := hall.2 (List.length_eq_zero_iff.1 (by omega))
        omega
    have hbb : ∀ z : Bool, (z != z) = false := fun z => bne_self_eq_false _
    have hmin : ∃ q : Int, (if (2 : Int) < ((xs.length : Nat) : Int) then (2 : Int) else ((xs.length : Nat) : Int)) = q ∧ ¬ ((m : Nat) : Int) < q := by
      refine ⟨_, rfl, ?_⟩
      split <;> omega
    obtain ⟨q, hq, hmq⟩ := hmin
    have hmn : ¬ ((xs.length : Nat) : Int) < ((m : Nat) : Int) := by omega
    refine aws_cutW fun N hN => ?_
    refine aws_cut fun N2 hN2 => ?_
    have cont : ∀ e, ELe e [(0, v), (2, .bool false), (3, vint (m : Nat)), (78, .bool false)] → N2 e h3 := fun e he => by
      refine hN2 [(0, v), (2, .bool false), (3, vint (m : Nat)), (78, .bool false)] _ _ ?_ he
      refine aws_false (by simp (config := {maxSteps := 2000000}) only [↓aw_region, ↓aw_skip, ↓aw_seq, ↓aw_block, ↓aw_exit, ↓aw_ret, ↓sops_nil, ↓sops_go, ↓dops_nil, ↓dopsX_nil, ↓dopsR_nil, ↓vdn, vup, extr_20, extr_21, extr_30, extr_31, extr_32, List.map_cons, List.map_nil, cond_true, cond_false, aop, aThen, aBlock, argEnv, ev, sput, sputO, binK, binI, unK, builtinK, pickK, Nat.reduceBEq, Nat.reduceAdd, Int.reduceBEq, Int.reduceBNe, Int.reduceLT, aPost, resK, tup, tyf]) (aw_aws ?_)
      simp (config := {maxSteps := 2000000}) only [s7, ↓aw_region, ↓aw_skip, ↓aw_seq, ↓aw_block, ↓aw_exit, ↓aw_ret, ↓sops_nil, ↓sops_go, ↓dops_nil, ↓dopsX_nil, ↓dopsR_nil, ↓vdn, vup, extr_20, extr_21, extr_30, extr_31, extr_32, List.map_cons, List.map_nil, cond_true, cond_false, aop, aThen, aBlock, argEnv, ev, sput, sputO, binK, binI, unK, builtinK, pickK, Nat.reduceBEq, Nat.reduceAdd, Int.reduceBEq, Int.reduceBNe, Int.reduceLT, aPost, resK, tup, tyf]
      refine hN [(0, v), (2, .bool false), (3, vint (m : Nat))] _ _ ?_ (by simp (config := {maxSteps := 2000000}) only [↓aw_region, ↓aw_skip, ↓aw_seq, ↓aw_block, ↓aw_exit, ↓aw_ret, ↓sops_nil, ↓sops_go, ↓dops_nil, ↓dopsX_nil, ↓dopsR_nil, ↓vdn, vup, extr_20, extr_21, extr_30, extr_31, extr_32, List.map_cons, List.map_nil, cond_true, cond_false, aop, aThen, aBlock, argEnv, ev, sput, sputO, binK, binI, unK, builtinK, pickK, Nat.reduceBEq, Nat.reduceAdd, Int.reduceBEq, Int.reduceBNe, Int.reduceLT, aPost, resK, tup, tyf])
      clear hN2 N2 hN N he hq hmq heq hw hcy
      clear q w
      -- a player alone
      by_cases h1 : xs.length = 1
      · have hq1 : (((xs.length : Nat) : Int) == 1) = true := by rw [h1]; rfl
        refine aws_cut fun N hN => ?_
        simp (config := {maxSteps := 2000000}) only [s7, ↓aw_region, ↓aw_skip, ↓aw_seq, ↓aw_block, ↓aw_exit, ↓aw_ret, ↓sops_nil, ↓sops_go, ↓dops_nil, ↓dopsX_nil, ↓dopsR_nil, ↓vdn, vup, extr_20, extr_21, extr_30, extr_31, extr_32, List.map_cons, List.map_nil, cond_true, cond_false, aop, aThen, aBlock, argEnv, ev, sput, sputO, binK, binI, unK, builtinK, pickK, Nat.reduceBEq, Nat.reduceAdd, Int.reduceBEq, Int.reduceBNe, Int.reduceLT, aPost, resK, tup, tyf, hv3.len, hq1, callK, List.nil_append, List.append_nil, List.toList_toArray, List.cons_append]
        refine awk fun g => ?_
        simp (config := {maxSteps := 2000000}) only [s7, ↓aw_region, ↓aw_skip, ↓aw_seq, ↓aw_block, ↓aw_exit, ↓aw_ret, ↓sops_nil, ↓sops_go, ↓dops_nil, ↓dopsX_nil, ↓dopsR_nil, ↓vdn, vup, extr_20, extr_21, extr_30, extr_31, extr_32, List.map_cons, List.map_nil, cond_true, cond_false, aop, aThen, aBlock, argEnv, ev, sput, sputO, binK, binI, unK, builtinK, pickK, Nat.reduceBEq, Nat.reduceAdd, Int.reduceBEq, Int.reduceBNe, Int.reduceLT, aPost, resK, tup, tyf]
      have hq1 : (((xs.length : Nat) : Int) == 1) = false := by
        have : ((xs.length : Nat) : Int) ≠ 1 := by omega
        simpa using this
      have h2 : 2 ≤ xs.length := by omega
      obtain ⟨k, hk⟩ : ∃ k, k = xs.length - 1 := ⟨_, rfl⟩
      have hsub : subV .i64 ((xs.length : Nat) : Int) 1 = (k : Int) := by rw [subV_id (by omega) (by omega)]; omega
      have hpw : 2 ^ k ≤ 2 ^ 8 := Nat.pow_le_pow_right (by decide) (by omega)
      have hpk := Nat.two_pow_pos k
      refine aws_cut fun N hN => ?_
      simp (config := {maxSteps := 2000000}) only [s7, ↓aw_region, ↓aw_skip, ↓aw_seq, ↓aw_block, ↓aw_exit, ↓aw_ret, ↓sops_nil, ↓sops_go, ↓dops_nil, ↓dopsX_nil, ↓dopsR_nil, ↓vdn, vup, extr_20, extr_21, extr_30, extr_31, extr_32, List.map_cons, List.map_nil, cond_true, cond_false, aop, aThen, aBlock, argEnv, ev, sput, sputO, binK, binI, unK, builtinK, pickK, Nat.reduceBEq, Nat.reduceAdd, Int.reduceBEq, Int.reduceBNe, Int.reduceLT, aPost, resK, tup, tyf, hv3.len, hq1]
      refine hN [(0, v), (2, .bool false), (3, vint (m : Nat))] _ _ ?_ (by simp (config := {maxSteps := 2000000}) only [↓aw_region, ↓aw_skip, ↓aw_seq, ↓aw_block, ↓aw_exit, ↓aw_ret, ↓sops_nil, ↓sops_go, ↓dops_nil, ↓dopsX_nil, ↓dopsR_nil, ↓vdn, vup, extr_20, extr_21, extr_30, extr_31, extr_32, List.map_cons, List.map_nil, cond_true, cond_false, aop, aThen, aBlock, argEnv, ev, sput, sputO, binK, binI, unK, builtinK, pickK, Nat.reduceBEq, Nat.reduceAdd, Int.reduceBEq, Int.reduceBNe, Int.reduceLT, aPost, resK, tup, tyf])
      clear hN N
      refine aws_cut fun N hN => ?_
      simp (config := {maxSteps := 2000000}) only [s7, ↓aw_region, ↓aw_skip, ↓aw_seq, ↓aw_block, ↓aw_exit, ↓aw_ret, ↓sops_nil, ↓sops_go, ↓dops_nil, ↓dopsX_nil, ↓dopsR_nil, ↓vdn, vup, extr_20, extr_21, extr_30, extr_31, extr_32, List.map_cons, List.map_nil, cond_true, cond_false, aop, aThen, aBlock, argEnv, ev, sput, sputO, binK, binI, unK, builtinK, pickK, Nat.reduceBEq, Nat.reduceAdd, Int.reduceBEq, Int.reduceBNe, Int.reduceLT, aPost, resK, tup, tyf]
      refine hN [(0, v), (2, .bool false), (3, vint (m : Nat)), (7, .slice none 0 0)] _ _ ?_ (by simp (config := {maxSteps := 2000000}) only [↓aw_region, ↓aw_skip, ↓aw_seq, ↓aw_block, ↓aw_exit, ↓aw_ret, ↓sops_nil, ↓sops_go, ↓dops_nil, ↓dopsX_nil, ↓dopsR_nil, ↓vdn, vup, extr_20, extr_21, extr_30, extr_31, extr_32, List.map_cons, List.map_nil, cond_true, cond_false, aop, aThen, aBlock, argEnv, ev, sput, sputO, binK, binI, unK, builtinK, pickK, Nat.reduceBEq, Nat.reduceAdd, Int.reduceBEq, Int.reduceBNe, Int.reduceLT, aPost, resK, tup, tyf])
      clear hN N
      refine aws_cut fun N hN => ?_
      simp (config := {maxSteps := 2000000}) only [s7, ↓aw_region, ↓aw_skip, ↓aw_seq, ↓aw_block, ↓aw_exit, ↓aw_ret, ↓sops_nil, ↓sops_go, ↓dops_nil, ↓dopsX_nil, ↓dopsR_nil, ↓vdn, vup, extr_20, extr_21, extr_30, extr_31, extr_32, List.map_cons, List.map_nil, cond_true, cond_false, aop, aThen, aBlock, argEnv, ev, sput, sputO, binK, binI, unK, builtinK, pickK, Nat.reduceBEq, Nat.reduceAdd, Int.reduceBEq, Int.reduceBNe, Int.reduceLT, aPost, resK, tup, tyf, hv3.len, hsub]
      refine hN [(0, v), (2, .bool false), (3, vint (m : Nat)), (7, .slice none 0 0), (8, vint k)] _ _ ?_ (by simp (config := {maxSteps := 2000000}) only [↓aw_region, ↓aw_skip, ↓aw_seq, ↓aw_block, ↓aw_exit, ↓aw_ret, ↓sops_nil, ↓sops_go, ↓dops_nil, ↓dopsX_nil, ↓dopsR_nil, ↓vdn, vup, extr_20, extr_21, extr_30, extr_31, extr_32, List.map_cons, List.map_nil, cond_true, cond_false, aop, aThen, aBlock, argEnv, ev, sput, sputO, binK, binI, unK, builtinK, pickK, Nat.reduceBEq, Nat.reduceAdd, Int.reduceBEq, Int.reduceBNe, Int.reduceLT, aPost, resK, tup, tyf])
      clear hN N
      refine aws_cutW fun N hN => ?_
      refine aws_cut fun N2 hN2 => ?_
      simp (config := {maxSteps := 2000000}) only [s7, ↓aw_region, ↓aw_skip, ↓aw_seq, ↓aw_block, ↓aw_exit, ↓aw_ret, ↓sops_nil, ↓sops_go, ↓dops_nil, ↓dopsX_nil, ↓dopsR_nil, ↓vdn, vup, extr_20, extr_21, extr_30, extr_31, extr_32, List.map_cons, List.map_nil, cond_true, cond_false, aop, aThen, aBlock, argEnv, ev, sput, sputO, binK, binI, unK, builtinK, pickK, Nat.reduceBEq, Nat.reduceAdd, Int.reduceBEq, Int.reduceBNe, Int.reduceLT, aPost, resK, tup, tyf, Option.map_none, Option.map_some]
      refine hv3.pre el_22 esz_3 (m := k) (by omega) ?_
      intro tv htv
      have htl : (xs.take k).length = k := by simp; omega
      simp (config := {maxSteps := 2000000}) only [s7, ↓aw_region, ↓aw_skip, ↓aw_seq, ↓aw_block, ↓aw_exit, ↓aw_ret, ↓sops_nil, ↓sops_go, ↓dops_nil, ↓dopsX_nil, ↓dopsR_nil, ↓vdn, vup, extr_20, extr_21, extr_30, extr_31, extr_32, List.map_cons, List.map_nil, cond_true, cond_false, aop, aThen, aBlock, argEnv, ev, sput, sputO, binK, binI, unK, builtinK, pickK, Nat.reduceBEq, Nat.reduceAdd, Int.reduceBEq, Int.reduceBNe, Int.reduceLT, aPost, resK, tup, tyf, htv.len, htl]
      refine hN2 [(0, v), (2, .bool false), (3, vint (m : Nat)), (7, .slice none 0 0), (8, vint k), (88, tv), (89, vint k), (90, .int .i64 0)] _ _ ?_ (by simp (config := {maxSteps := 2000000}) only [↓aw_region, ↓aw_skip, ↓aw_seq, ↓aw_block, ↓aw_exit, ↓aw_ret, ↓sops_nil, ↓sops_go, ↓dops_nil, ↓dopsX_nil, ↓dopsR_nil, ↓vdn, vup, extr_20, extr_21, extr_30, extr_31, extr_32, List.map_cons, List.map_nil, cond_true, cond_false, aop, aThen, aBlock, argEnv, ev, sput, sputO, binK, binI, unK, builtinK, pickK, Nat.reduceBEq, Nat.reduceAdd, Int.reduceBEq, Int.reduceBNe, Int.reduceLT, aPost, resK, tup, tyf])
      clear hN2 N2
      refine aws_block ?_
      refine aw_loopW (γ := Nat × Value × Heap) (fun s => s.1 ≤ k ∧ OwnSl 3 s.2.2 s.2.1 ((lessL xs).take s.1) ∧ Ext (fun _ => False) h3 s.2.2 ∧ ∀ b, blkOf s.2.1 = some b → h3.length ≤ b)
        (fun s => ([(0, v), (2, .bool false), (3, vint (m : Nat)), (7, s.2.1), (8, vint k), (88, tv), (89, vint k), (90, vint s.1)], s.2.2)) (fun s => k - s.1) (0, .slice none 0 0, h3) ⟨Nat.zero_le _, .inl ⟨rfl, rfl⟩, Ext.refl _ _, fun _ h => by cases h⟩ (by simp (config := {maxSteps := 2000000}) only [↓aw_region, ↓aw_skip, ↓aw_seq, ↓aw_block, ↓aw_exit, ↓aw_ret, ↓sops_nil, ↓sops_go, ↓dops_nil, ↓dopsX_nil, ↓dopsR_nil, ↓vdn, vup, extr_20, extr_21, extr_30, extr_31, extr_32, List.map_cons, List.map_nil, cond_true, cond_false, aop, aThen, aBlock, argEnv, ev, sput, sputO, binK, binI, unK, builtinK, pickK, Nat.reduceBEq, Nat.reduceAdd, Int.reduceBEq, Int.reduceBNe, Int.reduceLT, aPost, resK, tup, tyf, Int.natCast_zero]) rfl ?_
      rintro ⟨i, lv, hp⟩ ⟨hi, hown, hE, hblk⟩
      simp only at hi hown hE hblk
      refine aw_aws ?_
      refine aw_hide fun Q3 hQ3 => ?_
      by_cases hin : (i : Int) < (k : Int)
      · have hi' : i < k := by omega
        have hix : i < xs.length := by omega
        have htp := IntSl_ext htv hE
        have hit : i < (xs.take k).length := by omega
        have hget : (xs.take k).getD i 0 = xs.getD i 0 := by simp [List.getD, List.getElem?_take, hi']
        obtain ⟨hX, hXl⟩ := trn_nat ht hix
        have hXs : 2 ^ xs.length ≤ 2 ^ 8 := Nat.pow_le_pow_right (by decide) hlen.2
        have hshl : shlV .i64 1 ((k : Nat) : Int) = ((2 ^ k : Nat) : Int) := by rw [shl1 (by omega)]; simp
        have hs1 : subV .i64 ((2 ^ k : Nat) : Int) 1 = ((2 ^ k - 1 : Nat) : Int) := by rw [subV_id (by omega) (by omega)]; omega
        have hand : bitsV .and .i64 (xs.getD i 0) ((2 ^ k - 1 : Nat) : Int) = (((xs.getD i 0).toNat &&& (2 ^ k - 1) : Nat) : Int) := by
          conv => lhs; rw [hX]
          exact bitsV_and (by omega) (by omega)
        have hnx := lessL_take (xs := xs) (i := i) (by omega)
        rw [← hk] at hnx
        simp (config := {maxSteps := 2000000}) only [s7, ↓aw_region, ↓aw_skip, ↓aw_seq, ↓aw_block, ↓aw_exit, ↓aw_ret, ↓sops_nil, ↓sops_go, ↓dops_nil, ↓dopsX_nil, ↓dopsR_nil, ↓vdn, vup, extr_20, extr_21, extr_30, extr_31, extr_32, List.map_cons, List.map_nil, cond_true, cond_false, aop, aThen, aBlock, argEnv, ev, sput, sputO, binK, binI, unK, builtinK, pickK, Nat.reduceBEq, Nat.reduceAdd, Int.reduceBEq, Int.reduceBNe, Int.reduceLT, aPost, resK, tup, tyf, l7_0, hin, htp.idx el_22 esz_3 hit, htp.load shp_3 hit, hget, hshl, hs1, hand, List.toList_toArray, lit1]
        have hx1 : Ext (fun _ => False) hp (hp ++ [.ints [(((xs.getD i 0).toNat &&& (2 ^ k - 1) : Nat) : Int)] 3 false]) := Ext.app _ _ _
        refine (hown.ext hx1 fun _ _ h => h).append app_22_22 (by have := List.length_take_le i (lessL xs); omega) (get_new _ _) ?_
        intro lv' h4 ho4 hx4 hb4
        have hlp := hE.1
        have hE4 : Ext (fun _ => False) h3 h4 := by
          have h1 := hx1.1
          have h2 := hx4.1
          refine ⟨by omega, fun j hj _ => ?_⟩
          rw [hx4.2 j (by omega) fun hb => by have := hblk j hb; omega, hx1.2 j (by omega) id]
          exact hE.2 j hj id
        simp (config := {maxSteps := 2000000}) only [s7, ↓aw_region, ↓aw_skip, ↓aw_seq, ↓aw_block, ↓aw_exit, ↓aw_ret, ↓sops_nil, ↓sops_go, ↓dops_nil, ↓dopsX_nil, ↓dopsR_nil, ↓vdn, vup, extr_20, extr_21, extr_30, extr_31, extr_32, List.map_cons, List.map_nil, cond_true, cond_false, aop, aThen, aBlock, argEnv, ev, sput, sputO, binK, binI, unK, builtinK, pickK, Nat.reduceBEq, Nat.reduceAdd, Int.reduceBEq, Int.reduceBNe, Int.reduceLT, aPost, resK, tup, tyf, add1 (show i < 9223372036854775807 by omega)]
        refine hQ3 _ _ _ ⟨(i + 1, lv', h4), ⟨by simp only; omega, by simp only; rw [hnx]; exact ho4, hE4, fun b hb => ?_⟩, by simp only; omega, by simp (config := {maxSteps := 2000000}) only [↓aw_region, ↓aw_skip, ↓aw_seq, ↓aw_block, ↓aw_exit, ↓aw_ret, ↓sops_nil, ↓sops_go, ↓dops_nil, ↓dopsX_nil, ↓dopsR_nil, ↓vdn, vup, extr_20, extr_21, extr_30, extr_31, extr_32, List.map_cons, List.map_nil, cond_true, cond_false, aop, aThen, aBlock, argEnv, ev, sput, sputO, binK, binI, unK, builtinK, pickK, Nat.reduceBEq, Nat.reduceAdd, Int.reduceBEq, Int.reduceBNe, Int.reduceLT, aPost, resK, tup, tyf], rfl⟩
        simp only at hb
        rcases hb4 with h | ⟨b', h, hl⟩
        · exact hblk b (h ▸ hb)
        · rw [h] at hb; cases hb; have := hx1.1; omega
      · obtain rfl : i = k := by omega
        simp (config := {maxSteps := 2000000}) only [s7, ↓aw_region, ↓aw_skip, ↓aw_seq, ↓aw_block, ↓aw_exit, ↓aw_ret, ↓sops_nil, ↓sops_go, ↓dops_nil, ↓dopsX_nil, ↓dopsR_nil, ↓vdn, vup, extr_20, extr_21, extr_30, extr_31, extr_32, List.map_cons, List.map_nil, cond_true, cond_false, aop, aThen, aBlock, argEnv, ev, sput, sputO, binK, binI, unK, builtinK, pickK, Nat.reduceBEq, Nat.reduceAdd, Int.reduceBEq, Int.reduceBNe, Int.reduceLT, aPost, resK, tup, tyf, l7_0, Int.lt_irrefl]
        refine hQ3 _ _ _ ?_
        simp only [aThen, aBlock, if_true]
        have hll := lessL_len xs
        rw [List.take_of_length_le (by omega)] at hown
        refine hN [(0, v), (2, .bool false), (3, vint (m : Nat)), (7, lv)] _ _ ?_ (by simp (config := {maxSteps := 2000000}) only [↓aw_region, ↓aw_skip, ↓aw_seq, ↓aw_block, ↓aw_exit, ↓aw_ret, ↓sops_nil, ↓sops_go, ↓dops_nil, ↓dopsX_nil, ↓dopsR_nil, ↓vdn, vup, extr_20, extr_21, extr_30, extr_31, extr_32, List.map_cons, List.map_nil, cond_true, cond_false, aop, aThen, aBlock, argEnv, ev, sput, sputO, binK, binI, unK, builtinK, pickK, Nat.reduceBEq, Nat.reduceAdd, Int.reduceBEq, Int.reduceBNe, Int.reduceLT, aPost, resK, tup, tyf])
        clear hN N hQ3 Q3
        have htr := lessL_trn ht h2
        have hlt := trn_len htr
        have hxl : ∀ x ∈ lessL xs, -9223372036854775808 ≤ x ∧ x < 9223372036854775808 := fun x hxm => by
          obtain ⟨j, hj, rfl⟩ := List.mem_iff_getElem.1 hxm
          have h5 := trn_nat htr hj
          have h6 : 2 ^ (lessL xs).length ≤ 2 ^ 8 := Nat.pow_le_pow_right (by decide) hlt.2
          have h7 : (lessL xs)[j] = (lessL xs).getD j 0 := by simp [List.getD, hj]
          rw [h7]; omega
        have hcs := clr_less ht h2
        rw [← hm] at hcs
        refine aws_cut fun N hN => ?_
        simp (config := {maxSteps := 2000000}) only [s7, ↓aw_region, ↓aw_skip, ↓aw_seq, ↓aw_block, ↓aw_exit, ↓aw_ret, ↓sops_nil, ↓sops_go, ↓dops_nil, ↓dopsX_nil, ↓dopsR_nil, ↓vdn, vup, extr_20, extr_21, extr_30, extr_31, extr_32, List.map_cons, List.map_nil, cond_true, cond_false, aop, aThen, aBlock, argEnv, ev, sput, sputO, binK, binI, unK, builtinK, pickK, Nat.reduceBEq, Nat.reduceAdd, Int.reduceBEq, Int.reduceBNe, Int.reduceLT, aPost, resK, tup, tyf, callK, List.nil_append, List.append_nil, List.toList_toArray, List.cons_append]
        refine (clear_call hown.int (by omega) hxl).mono ?_
        rintro _ hp ⟨rfl, rfl⟩
        rw [clearV, htr, if_pos rfl]
        generalize clr (lessL xs) = m2 at hcs ⊢
        simp (config := {maxSteps := 2000000}) only [s7, ↓aw_region, ↓aw_skip, ↓aw_seq, ↓aw_block, ↓aw_exit, ↓aw_ret, ↓sops_nil, ↓sops_go, ↓dops_nil, ↓dopsX_nil, ↓dopsR_nil, ↓vdn, vup, extr_20, extr_21, extr_30, extr_31, extr_32, List.map_cons, List.map_nil, cond_true, cond_false, aop, aThen, aBlock, argEnv, ev, sput, sputO, binK, binI, unK, builtinK, pickK, Nat.reduceBEq, Nat.reduceAdd, Int.reduceBEq, Int.reduceBNe, Int.reduceLT, aPost, resK, tup, tyf]
        refine hN [(2, .bool false), (3, vint (m : Nat)), (11, vint (m2 : Nat)), (6, .int .i64 0)] _ _ ?_ (by simp (config := {maxSteps := 2000000}) only [↓aw_region, ↓aw_skip, ↓aw_seq, ↓aw_block, ↓aw_exit, ↓aw_ret, ↓sops_nil, ↓sops_go, ↓dops_nil, ↓dopsX_nil, ↓dopsR_nil, ↓vdn, vup, extr_20, extr_21, extr_30, extr_31, extr_32, List.map_cons, List.map_nil, cond_true, cond_false, aop, aThen, aBlock, argEnv, ev, sput, sputO, binK, binI, unK, builtinK, pickK, Nat.reduceBEq, Nat.reduceAdd, Int.reduceBEq, Int.reduceBNe, Int.reduceLT, aPost, resK, tup, tyf])
        clear hN N
        refine aw_aws ?_
        by_cases hmm : m2 = m
        · have c1 : (((m2 : Nat) : Int) == ((m : Nat) : Int)) = true := by rw [hmm]; exact beq_self_eq_true _
          simp (config := {maxSteps := 2000000}) only [s7, ↓aw_region, ↓aw_skip, ↓aw_seq, ↓aw_block, ↓aw_exit, ↓aw_ret, ↓sops_nil, ↓sops_go, ↓dops_nil, ↓dopsX_nil, ↓dopsR_nil, ↓vdn, vup, extr_20, extr_21, extr_30, extr_31, extr_32, List.map_cons, List.map_nil, cond_true, cond_false, aop, aThen, aBlock, argEnv, ev, sput, sputO, binK, binI, unK, builtinK, pickK, Nat.reduceBEq, Nat.reduceAdd, Int.reduceBEq, Int.reduceBNe, Int.reduceLT, aPost, resK, tup, tyf, e0, c1, callK, List.nil_append, List.append_nil, List.toList_toArray, List.cons_append]
          refine awk fun g => ?_
          simp (config := {maxSteps := 2000000}) only [s7, ↓aw_region, ↓aw_skip, ↓aw_seq, ↓aw_block, ↓aw_exit, ↓aw_ret, ↓sops_nil, ↓sops_go, ↓dops_nil, ↓dopsX_nil, ↓dopsR_nil, ↓vdn, vup, extr_20, extr_21, extr_30, extr_31, extr_32, List.map_cons, List.map_nil, cond_true, cond_false, aop, aThen, aBlock, argEnv, ev, sput, sputO, binK, binI, unK, builtinK, pickK, Nat.reduceBEq, Nat.reduceAdd, Int.reduceBEq, Int.reduceBNe, Int.reduceLT, aPost, resK, tup, tyf]
        · have c1 : (((m2 : Nat) : Int) == ((m : Nat) : Int)) = false := by
            have : ((m2 : Nat) : Int) ≠ ((m : Nat) : Int) := by omega
            simpa using this
          have c2 : subV .i64 ((m : Nat) : Int) 1 = ((m2 : Nat) : Int) := by rw [subV_id (by omega) (by omega)]; omega
          have c3 : (((m2 : Nat) : Int) == ((m2 : Nat) : Int)) = true := beq_self_eq_true _
          simp (config := {maxSteps := 2000000}) only [s7, ↓aw_region, ↓aw_skip, ↓aw_seq, ↓aw_block, ↓aw_exit, ↓aw_ret, ↓sops_nil, ↓sops_go, ↓dops_nil, ↓dopsX_nil, ↓dopsR_nil, ↓vdn, vup, extr_20, extr_21, extr_30, extr_31, extr_32, List.map_cons, List.map_nil, cond_true, cond_false, aop, aThen, aBlock, argEnv, ev, sput, sputO, binK, binI, unK, builtinK, pickK, Nat.reduceBEq, Nat.reduceAdd, Int.reduceBEq, Int.reduceBNe, Int.reduceLT, aPost, resK, tup, tyf, e0, c1, c2, c3, callK, List.nil_append, List.append_nil, List.toList_toArray, List.cons_append]
          refine awk fun g => ?_
          simp (config := {maxSteps := 2000000}) only [s7, ↓aw_region, ↓aw_skip, ↓aw_seq, ↓aw_block, ↓aw_exit, ↓aw_ret, ↓sops_nil, ↓sops_go, ↓dops_nil, ↓dopsX_nil, ↓dopsR_nil, ↓vdn, vup, extr_20, extr_21, extr_30, extr_31, extr_32, List.map_cons, List.map_nil, cond_true, cond_false, aop, aThen, aBlock, argEnv, ev, sput, sputO, binK, binI, unK, builtinK, pickK, Nat.reduceBEq, Nat.reduceAdd, Int.reduceBEq, Int.reduceBNe, Int.reduceLT, aPost, resK, tup, tyf]
    by_cases h4 : 4 ≤ xs.length
    · have g4 : (4 : Int) ≤ ((xs.length : Nat) : Int) := by omega
      have g3 : ¬ ((m : Nat) : Int) < 3 := by omega
      by_cases h8 : 8 ≤ xs.length
      · have g8 : (8 : Int) ≤ ((xs.length : Nat) : Int) := by omega
        have g9 : ¬ ((m : Nat) : Int) < 4 := by omega
        simp (config := {maxSteps := 2000000}) only [s7, ↓aw_region, ↓aw_skip, ↓aw_seq, ↓aw_block, ↓aw_exit, ↓aw_ret, ↓sops_nil, ↓sops_go, ↓dops_nil, ↓dopsX_nil, ↓dopsR_nil, ↓vdn, vup, extr_20, extr_21, extr_30, extr_31, extr_32, List.map_cons, List.map_nil, cond_true, cond_false, aop, aThen, aBlock, argEnv, ev, sput, sputO, binK, binI, unK, builtinK, pickK, Nat.reduceBEq, Nat.reduceAdd, Int.reduceBEq, Int.reduceBNe, Int.reduceLT, aPost, resK, tup, tyf, e00, hv3.len, hw.trip.len, mmK, Bool.false_eq_true, if_false, hq, hmq, gt_iff_lt, hmn, ge_iff_le, g4, g3, g8, g9, heq, hbb]
        exact cont _ (by simp (config := {maxSteps := 2000000}) only [↓aw_region, ↓aw_skip, ↓aw_seq, ↓aw_block, ↓aw_exit, ↓aw_ret, ↓sops_nil, ↓sops_go, ↓dops_nil, ↓dopsX_nil, ↓dopsR_nil, ↓vdn, vup, extr_20, extr_21, extr_30, extr_31, extr_32, List.map_cons, List.map_nil, cond_true, cond_false, aop, aThen, aBlock, argEnv, ev, sput, sputO, binK, binI, unK, builtinK, pickK, Nat.reduceBEq, Nat.reduceAdd, Int.reduceBEq, Int.reduceBNe, Int.reduceLT, aPost, resK, tup, tyf])
      · have g8 : ¬ (8 : Int) ≤ ((xs.length : Nat) : Int) := by omega
        simp (config := {maxSteps := 2000000}) only [s7, ↓aw_region, ↓aw_skip, ↓aw_seq, ↓aw_block, ↓aw_exit, ↓aw_ret, ↓sops_nil, ↓sops_go, ↓dops_nil, ↓dopsX_nil, ↓dopsR_nil, ↓vdn, vup, extr_20, extr_21, extr_30, extr_31, extr_32, List.map_cons, List.map_nil, cond_true, cond_false, aop, aThen, aBlock, argEnv, ev, sput, sputO, binK, binI, unK, builtinK, pickK, Nat.reduceBEq, Nat.reduceAdd, Int.reduceBEq, Int.reduceBNe, Int.reduceLT, aPost, resK, tup, tyf, e00, hv3.len, hw.trip.len, mmK, Bool.false_eq_true, if_false, hq, hmq, gt_iff_lt, hmn, ge_iff_le, g4, g3, g8, heq, hbb]
        exact cont _ (by simp (config := {maxSteps := 2000000}) only [↓aw_region, ↓aw_skip, ↓aw_seq, ↓aw_block, ↓aw_exit, ↓aw_ret, ↓sops_nil, ↓sops_go, ↓dops_nil, ↓dopsX_nil, ↓dopsR_nil, ↓vdn, vup, extr_20, extr_21, extr_30, extr_31, extr_32, List.map_cons, List.map_nil, cond_true, cond_false, aop, aThen, aBlock, argEnv, ev, sput, sputO, binK, binI, unK, builtinK, pickK, Nat.reduceBEq, Nat.reduceAdd, Int.reduceBEq, Int.reduceBNe, Int.reduceLT, aPost, resK, tup, tyf])
    · have g4 : ¬ (4 : Int) ≤ ((xs.length : Nat) : Int) := by omega
      have g8 : ¬ (8 : Int) ≤ ((xs.length : Nat) : Int) := by omega
      simp (config := {maxSteps := 2000000}) only [s7, ↓aw_region, ↓aw_skip, ↓aw_seq, ↓aw_block, ↓aw_exit, ↓aw_ret, ↓sops_nil, ↓sops_go, ↓dops_nil, ↓dopsX_nil, ↓dopsR_nil, ↓vdn, vup, extr_20, extr_21, extr_30, extr_31, extr_32, List.map_cons, List.map_nil, cond_true, cond_false, aop, aThen, aBlock, argEnv, ev, sput, sputO, binK, binI, unK, builtinK, pickK, Nat.reduceBEq, Nat.reduceAdd, Int.reduceBEq, Int.reduceBNe, Int.reduceLT, aPost, resK, tup, tyf, e00, hv3.len, hw.trip.len, mmK, Bool.false_eq_true, if_false, hq, hmq, gt_iff_lt, hmn, ge_iff_le, g4, g8, heq, hbb]
      exact cont _ (by simp (config := {maxSteps := 2000000}) only [↓aw_region, ↓aw_skip, ↓aw_seq, ↓aw_block, ↓aw_exit, ↓aw_ret, ↓sops_nil, ↓sops_go, ↓dops_nil, ↓dopsX_nil, ↓dopsR_nil, ↓vdn, vup, extr_20, extr_21, extr_30, extr_31, extr_32, List.map_cons, List.map_nil, cond_true, cond_false, aop, aThen, aBlock, argEnv, ev, sput, sputO, binK, binI, unK, builtinK, pickK, Nat.reduceBEq, Nat.reduceAdd, Int.reduceBEq, Int.reduceBNe, Int.reduceLT, aPost, resK, tup, tyf])
end Go.Proofs.Tryd.Am
