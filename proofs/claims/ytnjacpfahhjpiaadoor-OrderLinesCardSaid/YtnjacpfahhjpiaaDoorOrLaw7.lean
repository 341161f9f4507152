/-
  order: the law OrderMakes.
-/
import Derived.Test.YtnjacpfahhjpiaaDoorOrRClose
import Derived.Test.YtnjacpfahhjpiaaDoorOrEven
set_option linter.all false
namespace Go.Proofs.Tryd.Am
open Go.Am Ord
set_option maxRecDepth 100000
set_option maxHeartbeats 1000000

theorem relement_call [Tabs prog] {h : Heap} {v : Value} {o : List Int} {i : Int} (hv : IntSl h v o) : APure prog 27 [v, vint i] h (.bool (elI o i)) := by
  refine s27_call (by simp) ?_
  by_cases h0 : 0 ≤ i
  · have e : elI o i = decide (i < o.length) := by rw [elI, decide_eq_true h0, Bool.true_and]
    simp (config := {maxSteps := 2000000}) only [s27, ↓aw_region, ↓aw_skip, ↓aw_seq, ↓aw_block, ↓aw_exit, ↓aw_ret, ↓sops_nil, ↓sops_go, ↓dops_nil, ↓dopsX_nil, ↓dopsR_nil, ↓vdn, vup, extr_20, extr_21, extr_30, extr_31, extr_32, List.map_cons, List.map_nil, cond_true, cond_false, aop, aThen, aBlock, argEnv, ev, sput, sputO, binK, binI, unK, builtinK, pickK, Nat.reduceBEq, Nat.reduceAdd, Int.reduceBEq, Int.reduceBNe, Int.reduceLT, aPost, resK, tup, tyf, ge_iff_le, h0, hv.len, e]
  · have e : elI o i = false := by rw [elI, decide_eq_false h0, Bool.false_and]
    simp (config := {maxSteps := 2000000}) only [s27, ↓aw_region, ↓aw_skip, ↓aw_seq, ↓aw_block, ↓aw_exit, ↓aw_ret, ↓sops_nil, ↓sops_go, ↓dops_nil, ↓dopsX_nil, ↓dopsR_nil, ↓vdn, vup, extr_20, extr_21, extr_30, extr_31, extr_32, List.map_cons, List.map_nil, cond_true, cond_false, aop, aThen, aBlock, argEnv, ev, sput, sputO, binK, binI, unK, builtinK, pickK, Nat.reduceBEq, Nat.reduceAdd, Int.reduceBEq, Int.reduceBNe, Int.reduceLT, aPost, resK, tup, tyf, ge_iff_le, h0, e]

theorem equal_call [Tabs prog] {h : Heap} {v w : Value} {xs ys : List Int} (hv : IntSl h v xs) (hw : IntSl h w ys) (hl : xs.length < 9223372036854775808) (hl2 : ys.length < 9223372036854775808) :
    APure prog 34 [v, w] h (.bool (decide (xs = ys))) := by
  refine s34_call (by simp) ?_
  by_cases hlen : xs.length = ys.length
  · have hne : ((xs.length : Int) != ys.length) = false := by simp [hlen]
    simp (config := {maxSteps := 2000000}) only [s34, ↓aw_region, ↓aw_skip, ↓aw_seq, ↓aw_block, ↓aw_exit, ↓aw_ret, ↓sops_nil, ↓sops_go, ↓dops_nil, ↓dopsX_nil, ↓dopsR_nil, ↓vdn, vup, extr_20, extr_21, extr_30, extr_31, extr_32, List.map_cons, List.map_nil, cond_true, cond_false, aop, aThen, aBlock, argEnv, ev, sput, sputO, binK, binI, unK, builtinK, pickK, Nat.reduceBEq, Nat.reduceAdd, Int.reduceBEq, Int.reduceBNe, Int.reduceLT, aPost, resK, tup, tyf, hv.len, hw.len, hne, ↓aw_loop_eq]
    refine aws_hide fun Q hQ => ?_
    refine aw_loop (γ := Nat) (fun i => i ≤ xs.length ∧ ∀ k, k < i → xs.getD k 0 = ys.getD k 0)
      (fun i => ([(0, v), (1, w), (12, vint xs.length), (13, vint i)], h)) (fun i => xs.length - i) 0 ⟨by omega, fun _ hk => by omega⟩ (by simp (config := {maxSteps := 2000000}) only [↓aw_region, ↓aw_skip, ↓aw_seq, ↓aw_block, ↓aw_exit, ↓aw_ret, ↓sops_nil, ↓sops_go, ↓dops_nil, ↓dopsX_nil, ↓dopsR_nil, ↓vdn, vup, extr_20, extr_21, extr_30, extr_31, extr_32, List.map_cons, List.map_nil, cond_true, cond_false, aop, aThen, aBlock, argEnv, ev, sput, sputO, binK, binI, unK, builtinK, pickK, Nat.reduceBEq, Nat.reduceAdd, Int.reduceBEq, Int.reduceBNe, Int.reduceLT, aPost, resK, tup, tyf, Int.natCast_zero]) rfl ?_
    rintro i ⟨hi, hok⟩
    refine aw_hide fun Q2 hQ2 => ?_
    by_cases hin : (i : Int) < xs.length
    · have h1 : i < xs.length := by omega
      have h2 : i < ys.length := by omega
      simp (config := {maxSteps := 2000000}) only [s34, ↓aw_region, ↓aw_skip, ↓aw_seq, ↓aw_block, ↓aw_exit, ↓aw_ret, ↓sops_nil, ↓sops_go, ↓dops_nil, ↓dopsX_nil, ↓dopsR_nil, ↓vdn, vup, extr_20, extr_21, extr_30, extr_31, extr_32, List.map_cons, List.map_nil, cond_true, cond_false, aop, aThen, aBlock, argEnv, ev, sput, sputO, binK, binI, unK, builtinK, pickK, Nat.reduceBEq, Nat.reduceAdd, Int.reduceBEq, Int.reduceBNe, Int.reduceLT, aPost, resK, tup, tyf, l34_0, hin]
      refine aw_draw [] (by kernel_rfl) (by kernel_rfl) (by kernel_rfl) ?_
      by_cases heq : xs.getD i 0 = ys.getD i 0
      · have hb : (xs.getD i 0 != ys.getD i 0) = false := by rw [heq]; exact bne_self_eq_false _
        simp (config := {maxSteps := 2000000}) only [s34, ↓aw_region, ↓aw_skip, ↓aw_seq, ↓aw_block, ↓aw_exit, ↓aw_ret, ↓sops_nil, ↓sops_go, ↓dops_nil, ↓dopsX_nil, ↓dopsR_nil, ↓vdn, vup, extr_20, extr_21, extr_30, extr_31, extr_32, List.map_cons, List.map_nil, cond_true, cond_false, aop, aThen, aBlock, argEnv, ev, sput, sputO, binK, binI, unK, builtinK, pickK, Nat.reduceBEq, Nat.reduceAdd, Int.reduceBEq, Int.reduceBNe, Int.reduceLT, aPost, resK, tup, tyf, hv.idx el_22 esz_3 h1, hv.load shp_3 h1, hw.idx el_22 esz_3 h2, hw.load shp_3 h2, hb, add1 (show i < 9223372036854775807 by omega)]
        refine hQ2 _ _ _ ⟨i + 1, ⟨by omega, fun k hk => ?_⟩, by omega, by simp (config := {maxSteps := 2000000}) only [↓aw_region, ↓aw_skip, ↓aw_seq, ↓aw_block, ↓aw_exit, ↓aw_ret, ↓sops_nil, ↓sops_go, ↓dops_nil, ↓dopsX_nil, ↓dopsR_nil, ↓vdn, vup, extr_20, extr_21, extr_30, extr_31, extr_32, List.map_cons, List.map_nil, cond_true, cond_false, aop, aThen, aBlock, argEnv, ev, sput, sputO, binK, binI, unK, builtinK, pickK, Nat.reduceBEq, Nat.reduceAdd, Int.reduceBEq, Int.reduceBNe, Int.reduceLT, aPost, resK, tup, tyf], rfl⟩
        by_cases hki : k = i
        · subst hki; exact heq
        · exact hok k (by omega)
      · have hb : (xs.getD i 0 != ys.getD i 0) = true := by simp only [bne_iff_ne, ne_eq]; exact heq
        simp (config := {maxSteps := 2000000}) only [s34, ↓aw_region, ↓aw_skip, ↓aw_seq, ↓aw_block, ↓aw_exit, ↓aw_ret, ↓sops_nil, ↓sops_go, ↓dops_nil, ↓dopsX_nil, ↓dopsR_nil, ↓vdn, vup, extr_20, extr_21, extr_30, extr_31, extr_32, List.map_cons, List.map_nil, cond_true, cond_false, aop, aThen, aBlock, argEnv, ev, sput, sputO, binK, binI, unK, builtinK, pickK, Nat.reduceBEq, Nat.reduceAdd, Int.reduceBEq, Int.reduceBNe, Int.reduceLT, aPost, resK, tup, tyf, hv.idx el_22 esz_3 h1, hv.load shp_3 h1, hw.idx el_22 esz_3 h2, hw.load shp_3 h2, hb]
        refine hQ2 _ _ _ (hQ _ _ _ ?_)
        have hne : decide (xs = ys) = false := decide_eq_false (fun he => heq (by rw [he]))
        simp (config := {maxSteps := 2000000}) only [↓aw_region, ↓aw_skip, ↓aw_seq, ↓aw_block, ↓aw_exit, ↓aw_ret, ↓sops_nil, ↓sops_go, ↓dops_nil, ↓dopsX_nil, ↓dopsR_nil, ↓vdn, vup, extr_20, extr_21, extr_30, extr_31, extr_32, List.map_cons, List.map_nil, cond_true, cond_false, aop, aThen, aBlock, argEnv, ev, sput, sputO, binK, binI, unK, builtinK, pickK, Nat.reduceBEq, Nat.reduceAdd, Int.reduceBEq, Int.reduceBNe, Int.reduceLT, aPost, resK, tup, tyf, hne]
    · obtain rfl : i = xs.length := by omega
      simp (config := {maxSteps := 2000000}) only [s34, ↓aw_region, ↓aw_skip, ↓aw_seq, ↓aw_block, ↓aw_exit, ↓aw_ret, ↓sops_nil, ↓sops_go, ↓dops_nil, ↓dopsX_nil, ↓dopsR_nil, ↓vdn, vup, extr_20, extr_21, extr_30, extr_31, extr_32, List.map_cons, List.map_nil, cond_true, cond_false, aop, aThen, aBlock, argEnv, ev, sput, sputO, binK, binI, unK, builtinK, pickK, Nat.reduceBEq, Nat.reduceAdd, Int.reduceBEq, Int.reduceBNe, Int.reduceLT, aPost, resK, tup, tyf, l34_0, Int.lt_irrefl]
      refine hQ2 _ _ _ (hQ _ _ _ ?_)
      have he : decide (xs = ys) = true := decide_eq_true (List.ext_getElem hlen fun k h1 h2 => by
        have := hok k h1
        simpa [List.getD, List.getElem?_eq_getElem h1, List.getElem?_eq_getElem h2] using this)
      simp (config := {maxSteps := 2000000}) only [s34, ↓aw_region, ↓aw_skip, ↓aw_seq, ↓aw_block, ↓aw_exit, ↓aw_ret, ↓sops_nil, ↓sops_go, ↓dops_nil, ↓dopsX_nil, ↓dopsR_nil, ↓vdn, vup, extr_20, extr_21, extr_30, extr_31, extr_32, List.map_cons, List.map_nil, cond_true, cond_false, aop, aThen, aBlock, argEnv, ev, sput, sputO, binK, binI, unK, builtinK, pickK, Nat.reduceBEq, Nat.reduceAdd, Int.reduceBEq, Int.reduceBNe, Int.reduceLT, aPost, resK, tup, tyf, if_true, he]
  · have hne : ((xs.length : Int) != ys.length) = true := by simp only [bne_iff_ne, ne_eq]; omega
    have hf : decide (xs = ys) = false := decide_eq_false (fun he => hlen (by rw [he]))
    simp (config := {maxSteps := 2000000}) only [s34, ↓aw_region, ↓aw_skip, ↓aw_seq, ↓aw_block, ↓aw_exit, ↓aw_ret, ↓sops_nil, ↓sops_go, ↓dops_nil, ↓dopsX_nil, ↓dopsR_nil, ↓vdn, vup, extr_20, extr_21, extr_30, extr_31, extr_32, List.map_cons, List.map_nil, cond_true, cond_false, aop, aThen, aBlock, argEnv, ev, sput, sputO, binK, binI, unK, builtinK, pickK, Nat.reduceBEq, Nat.reduceAdd, Int.reduceBEq, Int.reduceBNe, Int.reduceLT, aPost, resK, tup, tyf, hv.len, hw.len, hne, hf]

theorem AddR.ext {o : List Int} {i j : Int} {s : Value} {e : Int} {h h' : Heap} (ha : AddR o i j s e h) (hE : Ext (fun _ => False) h h') : AddR o i j s e h' := by
  by_cases h1 : ord o = true ∧ elI o i = true ∧ elI o j = true
  · rw [AddR, if_pos h1] at ha ⊢
    by_cases h2 : fr o i.toNat j.toNat = true
    · rw [if_pos h2] at ha ⊢; exact ⟨ha.1, IntSl_ext ha.2 hE⟩
    · rw [if_neg h2] at ha ⊢; exact ha
  · rw [AddR, if_neg h1] at ha ⊢; exact ha

theorem nilLen {K : Value → Prop} : lenK (.slice none 0 0) K = K (.int .i64 0) := rfl

theorem makes_tail [BitTab prog 1] {h : Heap} {ov y : Value} {o : List Int} {i j : Int} {f : Int} (hv : IntSl h ov o) (hl : o.length < 9223372036854775808) (hx : ∀ x ∈ o, -9223372036854775808 ≤ x ∧ x < 9223372036854775808) (ha : AddR o i j y f h) :
    AWS prog 110 ((q7_9.seq (SCode.cond (Operand.tmp 71) (q7_10.seq SCode.ret) SCode.skip)).seq ((q7_11.seq (SCode.cond (Operand.tmp 86) (q7_12.seq SCode.ret) SCode.skip)).seq (q7_13.seq SCode.ret)))
      (aPost prog [ResultVar.tmp 10] fun r x => r = Value.bool true) [(2, ov), (3, vint i), (4, vint j), (10, .bool false), (13, y), (14, .int .i64 f)] h := by
  refine aws_cut fun N hN => ?_
  have awk : ∀ {K : Value → Heap → Prop} {g : Heap}, K (.bool true) g → ACall prog 20 [] g K := fun {K g} hk => awake_call.mono fun v h' ⟨h1, h2⟩ => by rw [h1, h2]; exact hk
  by_cases hall : ord o = true ∧ elI o i = true ∧ elI o j = true
  · obtain ⟨ho, hi, hj⟩ := hall
    rw [AddR, if_pos ⟨ho, hi, hj⟩] at ha
    simp (config := {maxSteps := 2000000}) only [s7, ↓aw_region, ↓aw_skip, ↓aw_seq, ↓aw_block, ↓aw_exit, ↓aw_ret, ↓sops_nil, ↓sops_go, ↓dops_nil, ↓dopsX_nil, ↓dopsR_nil, ↓vdn, vup, extr_20, extr_21, extr_30, extr_31, extr_32, List.map_cons, List.map_nil, cond_true, cond_false, aop, aThen, aBlock, argEnv, ev, sput, sputO, binK, binI, unK, builtinK, pickK, Nat.reduceBEq, Nat.reduceAdd, Int.reduceBEq, Int.reduceBNe, Int.reduceLT, aPost, resK, tup, tyf, callK, List.nil_append, List.append_nil, List.toList_toArray, List.cons_append]
    refine (rorder_call hv hl hx).mono ?_
    rintro _ h1 ⟨rfl, rfl⟩
    simp (config := {maxSteps := 2000000}) only [s7, ↓aw_region, ↓aw_skip, ↓aw_seq, ↓aw_block, ↓aw_exit, ↓aw_ret, ↓sops_nil, ↓sops_go, ↓dops_nil, ↓dopsX_nil, ↓dopsR_nil, ↓vdn, vup, extr_20, extr_21, extr_30, extr_31, extr_32, List.map_cons, List.map_nil, cond_true, cond_false, aop, aThen, aBlock, argEnv, ev, sput, sputO, binK, binI, unK, builtinK, pickK, Nat.reduceBEq, Nat.reduceAdd, Int.reduceBEq, Int.reduceBNe, Int.reduceLT, aPost, resK, tup, tyf, ho, callK, List.nil_append, List.append_nil, List.toList_toArray, List.cons_append]
    refine (relement_call hv).mono ?_
    rintro _ h1 ⟨rfl, rfl⟩
    simp (config := {maxSteps := 2000000}) only [s7, ↓aw_region, ↓aw_skip, ↓aw_seq, ↓aw_block, ↓aw_exit, ↓aw_ret, ↓sops_nil, ↓sops_go, ↓dops_nil, ↓dopsX_nil, ↓dopsR_nil, ↓vdn, vup, extr_20, extr_21, extr_30, extr_31, extr_32, List.map_cons, List.map_nil, cond_true, cond_false, aop, aThen, aBlock, argEnv, ev, sput, sputO, binK, binI, unK, builtinK, pickK, Nat.reduceBEq, Nat.reduceAdd, Int.reduceBEq, Int.reduceBNe, Int.reduceLT, aPost, resK, tup, tyf, hi, callK, List.nil_append, List.append_nil, List.toList_toArray, List.cons_append]
    refine (relement_call hv).mono ?_
    rintro _ h1 ⟨rfl, rfl⟩
    simp (config := {maxSteps := 2000000}) only [s7, ↓aw_region, ↓aw_skip, ↓aw_seq, ↓aw_block, ↓aw_exit, ↓aw_ret, ↓sops_nil, ↓sops_go, ↓dops_nil, ↓dopsX_nil, ↓dopsR_nil, ↓vdn, vup, extr_20, extr_21, extr_30, extr_31, extr_32, List.map_cons, List.map_nil, cond_true, cond_false, aop, aThen, aBlock, argEnv, ev, sput, sputO, binK, binI, unK, builtinK, pickK, Nat.reduceBEq, Nat.reduceAdd, Int.reduceBEq, Int.reduceBNe, Int.reduceLT, aPost, resK, tup, tyf, hj]
    refine hN [(2, ov), (3, vint i), (4, vint j), (10, .bool false), (13, y), (14, .int .i64 f)] _ _ ?_ (by simp (config := {maxSteps := 2000000}) only [↓aw_region, ↓aw_skip, ↓aw_seq, ↓aw_block, ↓aw_exit, ↓aw_ret, ↓sops_nil, ↓sops_go, ↓dops_nil, ↓dopsX_nil, ↓dopsR_nil, ↓vdn, vup, extr_20, extr_21, extr_30, extr_31, extr_32, List.map_cons, List.map_nil, cond_true, cond_false, aop, aThen, aBlock, argEnv, ev, sput, sputO, binK, binI, unK, builtinK, pickK, Nat.reduceBEq, Nat.reduceAdd, Int.reduceBEq, Int.reduceBNe, Int.reduceLT, aPost, resK, tup, tyf])
    clear hN N
    have hi' := hi
    have hj' := hj
    simp only [elI, Bool.and_eq_true, decide_eq_true_eq] at hi' hj'
    obtain ⟨i, rfl⟩ : ∃ k : Nat, i = k := ⟨i.toNat, by omega⟩
    obtain ⟨j, rfl⟩ : ∃ k : Nat, j = k := ⟨j.toNat, by omega⟩
    rw [Int.toNat_natCast, Int.toNat_natCast] at ha
    refine aws_cut fun N hN => ?_
    simp (config := {maxSteps := 2000000}) only [s7, ↓aw_region, ↓aw_skip, ↓aw_seq, ↓aw_block, ↓aw_exit, ↓aw_ret, ↓sops_nil, ↓sops_go, ↓dops_nil, ↓dopsX_nil, ↓dopsR_nil, ↓vdn, vup, extr_20, extr_21, extr_30, extr_31, extr_32, List.map_cons, List.map_nil, cond_true, cond_false, aop, aThen, aBlock, argEnv, ev, sput, sputO, binK, binI, unK, builtinK, pickK, Nat.reduceBEq, Nat.reduceAdd, Int.reduceBEq, Int.reduceBNe, Int.reduceLT, aPost, resK, tup, tyf, callK, List.nil_append, List.append_nil, List.toList_toArray, List.cons_append]
    refine (rfree_call hv ho (by omega) (by omega)).mono ?_
    rintro _ h1 ⟨rfl, rfl⟩
    cases hf : fr o i j with
    | false =>
      rw [hf, if_neg (by decide)] at ha
      obtain ⟨rfl, rfl⟩ := ha
      simp (config := {maxSteps := 2000000}) only [s7, ↓aw_region, ↓aw_skip, ↓aw_seq, ↓aw_block, ↓aw_exit, ↓aw_ret, ↓sops_nil, ↓sops_go, ↓dops_nil, ↓dopsX_nil, ↓dopsR_nil, ↓vdn, vup, extr_20, extr_21, extr_30, extr_31, extr_32, List.map_cons, List.map_nil, cond_true, cond_false, aop, aThen, aBlock, argEnv, ev, sput, sputO, binK, binI, unK, builtinK, pickK, Nat.reduceBEq, Nat.reduceAdd, Int.reduceBEq, Int.reduceBNe, Int.reduceLT, aPost, resK, tup, tyf, hf, nilLen, callK, List.nil_append, List.append_nil, List.toList_toArray, List.cons_append]
      refine awk ?_
      simp (config := {maxSteps := 2000000}) only [s7, ↓aw_region, ↓aw_skip, ↓aw_seq, ↓aw_block, ↓aw_exit, ↓aw_ret, ↓sops_nil, ↓sops_go, ↓dops_nil, ↓dopsX_nil, ↓dopsR_nil, ↓vdn, vup, extr_20, extr_21, extr_30, extr_31, extr_32, List.map_cons, List.map_nil, cond_true, cond_false, aop, aThen, aBlock, argEnv, ev, sput, sputO, binK, binI, unK, builtinK, pickK, Nat.reduceBEq, Nat.reduceAdd, Int.reduceBEq, Int.reduceBNe, Int.reduceLT, aPost, resK, tup, tyf]
    | true =>
      rw [hf, if_pos rfl] at ha
      obtain ⟨rfl, hy⟩ := ha
      simp (config := {maxSteps := 2000000}) only [s7, ↓aw_region, ↓aw_skip, ↓aw_seq, ↓aw_block, ↓aw_exit, ↓aw_ret, ↓sops_nil, ↓sops_go, ↓dops_nil, ↓dopsX_nil, ↓dopsR_nil, ↓vdn, vup, extr_20, extr_21, extr_30, extr_31, extr_32, List.map_cons, List.map_nil, cond_true, cond_false, aop, aThen, aBlock, argEnv, ev, sput, sputO, binK, binI, unK, builtinK, pickK, Nat.reduceBEq, Nat.reduceAdd, Int.reduceBEq, Int.reduceBNe, Int.reduceLT, aPost, resK, tup, tyf, hf]
      refine hN [(2, ov), (3, vint (i : Nat)), (4, vint (j : Nat)), (10, .bool false), (13, y), (14, .int .i64 0)] _ _ ?_ (by simp (config := {maxSteps := 2000000}) only [↓aw_region, ↓aw_skip, ↓aw_seq, ↓aw_block, ↓aw_exit, ↓aw_ret, ↓sops_nil, ↓sops_go, ↓dops_nil, ↓dopsX_nil, ↓dopsR_nil, ↓vdn, vup, extr_20, extr_21, extr_30, extr_31, extr_32, List.map_cons, List.map_nil, cond_true, cond_false, aop, aThen, aBlock, argEnv, ev, sput, sputO, binK, binI, unK, builtinK, pickK, Nat.reduceBEq, Nat.reduceAdd, Int.reduceBEq, Int.reduceBNe, Int.reduceLT, aPost, resK, tup, tyf])
      clear hN N
      refine aw_aws ?_
      simp (config := {maxSteps := 2000000}) only [s7, ↓aw_region, ↓aw_skip, ↓aw_seq, ↓aw_block, ↓aw_exit, ↓aw_ret, ↓sops_nil, ↓sops_go, ↓dops_nil, ↓dopsX_nil, ↓dopsR_nil, ↓vdn, vup, extr_20, extr_21, extr_30, extr_31, extr_32, List.map_cons, List.map_nil, cond_true, cond_false, aop, aThen, aBlock, argEnv, ev, sput, sputO, binK, binI, unK, builtinK, pickK, Nat.reduceBEq, Nat.reduceAdd, Int.reduceBEq, Int.reduceBNe, Int.reduceLT, aPost, resK, tup, tyf, callK, List.nil_append, List.append_nil, List.toList_toArray, List.cons_append]
      refine (radd_call hv ho (by omega) (by omega)).mono ?_
      rintro r h3 ⟨hr, hE⟩
      have hal : (addL o i j).length < 9223372036854775808 := by rw [addL_len]; exact hl
      refine (equal_call (IntSl_ext hy hE) hr hal hal).mono ?_
      rintro _ h4 ⟨rfl, rfl⟩
      simp (config := {maxSteps := 2000000}) only [s7, ↓aw_region, ↓aw_skip, ↓aw_seq, ↓aw_block, ↓aw_exit, ↓aw_ret, ↓sops_nil, ↓sops_go, ↓dops_nil, ↓dopsX_nil, ↓dopsR_nil, ↓vdn, vup, extr_20, extr_21, extr_30, extr_31, extr_32, List.map_cons, List.map_nil, cond_true, cond_false, aop, aThen, aBlock, argEnv, ev, sput, sputO, binK, binI, unK, builtinK, pickK, Nat.reduceBEq, Nat.reduceAdd, Int.reduceBEq, Int.reduceBNe, Int.reduceLT, aPost, resK, tup, tyf, decide_true, callK, List.nil_append, List.append_nil, List.toList_toArray, List.cons_append]
      refine awk ?_
      simp (config := {maxSteps := 2000000}) only [s7, ↓aw_region, ↓aw_skip, ↓aw_seq, ↓aw_block, ↓aw_exit, ↓aw_ret, ↓sops_nil, ↓sops_go, ↓dops_nil, ↓dopsX_nil, ↓dopsR_nil, ↓vdn, vup, extr_20, extr_21, extr_30, extr_31, extr_32, List.map_cons, List.map_nil, cond_true, cond_false, aop, aThen, aBlock, argEnv, ev, sput, sputO, binK, binI, unK, builtinK, pickK, Nat.reduceBEq, Nat.reduceAdd, Int.reduceBEq, Int.reduceBNe, Int.reduceLT, aPost, resK, tup, tyf]
  · rw [AddR, if_neg hall] at ha
    obtain ⟨rfl, rfl⟩ := ha
    cases ho : ord o with
    | false =>
      simp (config := {maxSteps := 2000000}) only [s7, ↓aw_region, ↓aw_skip, ↓aw_seq, ↓aw_block, ↓aw_exit, ↓aw_ret, ↓sops_nil, ↓sops_go, ↓dops_nil, ↓dopsX_nil, ↓dopsR_nil, ↓vdn, vup, extr_20, extr_21, extr_30, extr_31, extr_32, List.map_cons, List.map_nil, cond_true, cond_false, aop, aThen, aBlock, argEnv, ev, sput, sputO, binK, binI, unK, builtinK, pickK, Nat.reduceBEq, Nat.reduceAdd, Int.reduceBEq, Int.reduceBNe, Int.reduceLT, aPost, resK, tup, tyf, callK, List.nil_append, List.append_nil, List.toList_toArray, List.cons_append]
      refine (rorder_call hv hl hx).mono ?_
      rintro _ h1 ⟨rfl, rfl⟩
      simp (config := {maxSteps := 2000000}) only [s7, ↓aw_region, ↓aw_skip, ↓aw_seq, ↓aw_block, ↓aw_exit, ↓aw_ret, ↓sops_nil, ↓sops_go, ↓dops_nil, ↓dopsX_nil, ↓dopsR_nil, ↓vdn, vup, extr_20, extr_21, extr_30, extr_31, extr_32, List.map_cons, List.map_nil, cond_true, cond_false, aop, aThen, aBlock, argEnv, ev, sput, sputO, binK, binI, unK, builtinK, pickK, Nat.reduceBEq, Nat.reduceAdd, Int.reduceBEq, Int.reduceBNe, Int.reduceLT, aPost, resK, tup, tyf, ho, nilLen, callK, List.nil_append, List.append_nil, List.toList_toArray, List.cons_append]
      refine awk ?_
      simp (config := {maxSteps := 2000000}) only [s7, ↓aw_region, ↓aw_skip, ↓aw_seq, ↓aw_block, ↓aw_exit, ↓aw_ret, ↓sops_nil, ↓sops_go, ↓dops_nil, ↓dopsX_nil, ↓dopsR_nil, ↓vdn, vup, extr_20, extr_21, extr_30, extr_31, extr_32, List.map_cons, List.map_nil, cond_true, cond_false, aop, aThen, aBlock, argEnv, ev, sput, sputO, binK, binI, unK, builtinK, pickK, Nat.reduceBEq, Nat.reduceAdd, Int.reduceBEq, Int.reduceBNe, Int.reduceLT, aPost, resK, tup, tyf]
    | true =>
      cases hi : elI o i with
      | false =>
        simp (config := {maxSteps := 2000000}) only [s7, ↓aw_region, ↓aw_skip, ↓aw_seq, ↓aw_block, ↓aw_exit, ↓aw_ret, ↓sops_nil, ↓sops_go, ↓dops_nil, ↓dopsX_nil, ↓dopsR_nil, ↓vdn, vup, extr_20, extr_21, extr_30, extr_31, extr_32, List.map_cons, List.map_nil, cond_true, cond_false, aop, aThen, aBlock, argEnv, ev, sput, sputO, binK, binI, unK, builtinK, pickK, Nat.reduceBEq, Nat.reduceAdd, Int.reduceBEq, Int.reduceBNe, Int.reduceLT, aPost, resK, tup, tyf, callK, List.nil_append, List.append_nil, List.toList_toArray, List.cons_append]
        refine (rorder_call hv hl hx).mono ?_
        rintro _ h1 ⟨rfl, rfl⟩
        simp (config := {maxSteps := 2000000}) only [s7, ↓aw_region, ↓aw_skip, ↓aw_seq, ↓aw_block, ↓aw_exit, ↓aw_ret, ↓sops_nil, ↓sops_go, ↓dops_nil, ↓dopsX_nil, ↓dopsR_nil, ↓vdn, vup, extr_20, extr_21, extr_30, extr_31, extr_32, List.map_cons, List.map_nil, cond_true, cond_false, aop, aThen, aBlock, argEnv, ev, sput, sputO, binK, binI, unK, builtinK, pickK, Nat.reduceBEq, Nat.reduceAdd, Int.reduceBEq, Int.reduceBNe, Int.reduceLT, aPost, resK, tup, tyf, ho, callK, List.nil_append, List.append_nil, List.toList_toArray, List.cons_append]
        refine (relement_call hv).mono ?_
        rintro _ h1 ⟨rfl, rfl⟩
        simp (config := {maxSteps := 2000000}) only [s7, ↓aw_region, ↓aw_skip, ↓aw_seq, ↓aw_block, ↓aw_exit, ↓aw_ret, ↓sops_nil, ↓sops_go, ↓dops_nil, ↓dopsX_nil, ↓dopsR_nil, ↓vdn, vup, extr_20, extr_21, extr_30, extr_31, extr_32, List.map_cons, List.map_nil, cond_true, cond_false, aop, aThen, aBlock, argEnv, ev, sput, sputO, binK, binI, unK, builtinK, pickK, Nat.reduceBEq, Nat.reduceAdd, Int.reduceBEq, Int.reduceBNe, Int.reduceLT, aPost, resK, tup, tyf, hi, nilLen, callK, List.nil_append, List.append_nil, List.toList_toArray, List.cons_append]
        refine awk ?_
        simp (config := {maxSteps := 2000000}) only [s7, ↓aw_region, ↓aw_skip, ↓aw_seq, ↓aw_block, ↓aw_exit, ↓aw_ret, ↓sops_nil, ↓sops_go, ↓dops_nil, ↓dopsX_nil, ↓dopsR_nil, ↓vdn, vup, extr_20, extr_21, extr_30, extr_31, extr_32, List.map_cons, List.map_nil, cond_true, cond_false, aop, aThen, aBlock, argEnv, ev, sput, sputO, binK, binI, unK, builtinK, pickK, Nat.reduceBEq, Nat.reduceAdd, Int.reduceBEq, Int.reduceBNe, Int.reduceLT, aPost, resK, tup, tyf]
      | true =>
        have hj : elI o j = false := by
          cases e : elI o j with
          | false => rfl
          | true => exact absurd ⟨ho, hi, e⟩ hall
        simp (config := {maxSteps := 2000000}) only [s7, ↓aw_region, ↓aw_skip, ↓aw_seq, ↓aw_block, ↓aw_exit, ↓aw_ret, ↓sops_nil, ↓sops_go, ↓dops_nil, ↓dopsX_nil, ↓dopsR_nil, ↓vdn, vup, extr_20, extr_21, extr_30, extr_31, extr_32, List.map_cons, List.map_nil, cond_true, cond_false, aop, aThen, aBlock, argEnv, ev, sput, sputO, binK, binI, unK, builtinK, pickK, Nat.reduceBEq, Nat.reduceAdd, Int.reduceBEq, Int.reduceBNe, Int.reduceLT, aPost, resK, tup, tyf, callK, List.nil_append, List.append_nil, List.toList_toArray, List.cons_append]
        refine (rorder_call hv hl hx).mono ?_
        rintro _ h1 ⟨rfl, rfl⟩
        simp (config := {maxSteps := 2000000}) only [s7, ↓aw_region, ↓aw_skip, ↓aw_seq, ↓aw_block, ↓aw_exit, ↓aw_ret, ↓sops_nil, ↓sops_go, ↓dops_nil, ↓dopsX_nil, ↓dopsR_nil, ↓vdn, vup, extr_20, extr_21, extr_30, extr_31, extr_32, List.map_cons, List.map_nil, cond_true, cond_false, aop, aThen, aBlock, argEnv, ev, sput, sputO, binK, binI, unK, builtinK, pickK, Nat.reduceBEq, Nat.reduceAdd, Int.reduceBEq, Int.reduceBNe, Int.reduceLT, aPost, resK, tup, tyf, ho, callK, List.nil_append, List.append_nil, List.toList_toArray, List.cons_append]
        refine (relement_call hv).mono ?_
        rintro _ h1 ⟨rfl, rfl⟩
        simp (config := {maxSteps := 2000000}) only [s7, ↓aw_region, ↓aw_skip, ↓aw_seq, ↓aw_block, ↓aw_exit, ↓aw_ret, ↓sops_nil, ↓sops_go, ↓dops_nil, ↓dopsX_nil, ↓dopsR_nil, ↓vdn, vup, extr_20, extr_21, extr_30, extr_31, extr_32, List.map_cons, List.map_nil, cond_true, cond_false, aop, aThen, aBlock, argEnv, ev, sput, sputO, binK, binI, unK, builtinK, pickK, Nat.reduceBEq, Nat.reduceAdd, Int.reduceBEq, Int.reduceBNe, Int.reduceLT, aPost, resK, tup, tyf, hi, callK, List.nil_append, List.append_nil, List.toList_toArray, List.cons_append]
        refine (relement_call hv).mono ?_
        rintro _ h1 ⟨rfl, rfl⟩
        simp (config := {maxSteps := 2000000}) only [s7, ↓aw_region, ↓aw_skip, ↓aw_seq, ↓aw_block, ↓aw_exit, ↓aw_ret, ↓sops_nil, ↓sops_go, ↓dops_nil, ↓dopsX_nil, ↓dopsR_nil, ↓vdn, vup, extr_20, extr_21, extr_30, extr_31, extr_32, List.map_cons, List.map_nil, cond_true, cond_false, aop, aThen, aBlock, argEnv, ev, sput, sputO, binK, binI, unK, builtinK, pickK, Nat.reduceBEq, Nat.reduceAdd, Int.reduceBEq, Int.reduceBNe, Int.reduceLT, aPost, resK, tup, tyf, hj, nilLen, callK, List.nil_append, List.append_nil, List.toList_toArray, List.cons_append]
        refine awk ?_
        simp (config := {maxSteps := 2000000}) only [s7, ↓aw_region, ↓aw_skip, ↓aw_seq, ↓aw_block, ↓aw_exit, ↓aw_ret, ↓sops_nil, ↓sops_go, ↓dops_nil, ↓dopsX_nil, ↓dopsR_nil, ↓vdn, vup, extr_20, extr_21, extr_30, extr_31, extr_32, List.map_cons, List.map_nil, cond_true, cond_false, aop, aThen, aBlock, argEnv, ev, sput, sputO, binK, binI, unK, builtinK, pickK, Nat.reduceBEq, Nat.reduceAdd, Int.reduceBEq, Int.reduceBNe, Int.reduceLT, aPost, resK, tup, tyf]

theorem s7_callW [Tabs Tryd.prog] {args : List Value} {h : Heap} {Q : Value → Heap → Prop} (hsz : args.length ≤ 110) (hk : AWS Tryd.prog 110 s7 (aPost Tryd.prog [.tmp 10] Q) (argEnv 0 args) h) : ACall Tryd.prog 7 args h Q :=
  acall_w Tryd.func7 rfl (enters_of Tryd.func7 (by kernel_rfl) rfl) rfl rfl (by decide) s7_strip s7_ok hsz hk

theorem prs_take {n : Int} {ps : List (Int × Int)} : prs n (ps.take 35) = prs n ps := by
  by_cases h : ps.length ≤ 35
  · rw [List.take_of_length_le h]
  · rw [prs, prs, decide_eq_false (show ¬ ps.length ≤ 30 by omega), decide_eq_false (show ¬ (ps.take 35).length ≤ 30 by simp; omega), Bool.and_false, Bool.and_false]
theorem take_prs {n : Int} {ps : List (Int × Int)} (h : prs n ps = true) : ps.take 35 = ps := by
  simp only [prs, Bool.and_eq_true, decide_eq_true_eq] at h
  exact List.take_of_length_le (by omega)

theorem close_len : ∀ (l : List (Nat × Nat)) (o q : List Int), close o l = some q → q.length = o.length
  | [], o, q, h => by simp only [close, Option.some.injEq] at h; rw [h]
  | (i, j) :: l, o, q, h => by
    rw [close] at h
    split at h
    · cases h
    · rw [close_len l _ _ h, addL_len]
theorem close_short {n : Nat} {ps : List (Int × Int)} {q : List Int} (h : close (zeros (n : Int).toNat) (natP ps) = some q) : q.length = n := by
  rw [close_len _ _ _ h, zeros, List.length_replicate, Int.toNat_natCast]

theorem law_makes [BitTab prog 1] {h : Heap} {v : Value} {ps : List (Int × Int)} {ov : Value} {o : List Int} (n : Int) (hp : PairSl h v ps) (hpl : ps.length < 9223372036854775808) (hv : IntSl h ov o) (hl : o.length < 9223372036854775808)
    (hx : ∀ x ∈ o, -9223372036854775808 ≤ x ∧ x < 9223372036854775808) (i j : Int) : ACall prog 7 [vint n, v, ov, vint i, vint j] h fun r _ => r = .bool true := by
  have hx9 : ∀ x ∈ o.take 9, -9223372036854775808 ≤ x ∧ x < 9223372036854775808 := fun x hm => hx x (List.take_subset _ _ hm)
  have hl9 : (o.take 9).length < 9223372036854775808 := by simp; omega
  have hp35 : (ps.take 35).length < 9223372036854775808 := by simp; omega
  have hA9 : ∀ {s : Value} {e : Int} {g : Heap}, AddR (o.take 9) i j s e g → AddR o i j s e g := fun {s e g} ha => by
    by_cases ho : ord o = true
    · rwa [ord_take_eq ho] at ha
    · unfold AddR at ha ⊢
      rw [ord_take, if_neg (fun h => ho h.1)] at ha
      rw [if_neg (fun h => ho h.1)]; exact ha
  refine s7_callW (by simp) ?_
  simp only [s7]
  refine aws_cut fun N hN => ?_
  simp (config := {maxSteps := 2000000}) only [s7, ↓aw_region, ↓aw_skip, ↓aw_seq, ↓aw_block, ↓aw_exit, ↓aw_ret, ↓sops_nil, ↓sops_go, ↓dops_nil, ↓dopsX_nil, ↓dopsR_nil, ↓vdn, vup, extr_20, extr_21, extr_30, extr_31, extr_32, List.map_cons, List.map_nil, cond_true, cond_false, aop, aThen, aBlock, argEnv, ev, sput, sputO, binK, binI, unK, builtinK, pickK, Nat.reduceBEq, Nat.reduceAdd, Int.reduceBEq, Int.reduceBNe, Int.reduceLT, aPost, resK, tup, tyf]
  refine hN [(0, vint n), (1, v), (2, ov), (3, vint i), (4, vint j), (10, .bool false)] _ _ ?_ (by simp (config := {maxSteps := 2000000}) only [↓aw_region, ↓aw_skip, ↓aw_seq, ↓aw_block, ↓aw_exit, ↓aw_ret, ↓sops_nil, ↓sops_go, ↓dops_nil, ↓dopsX_nil, ↓dopsR_nil, ↓vdn, vup, extr_20, extr_21, extr_30, extr_31, extr_32, List.map_cons, List.map_nil, cond_true, cond_false, aop, aThen, aBlock, argEnv, ev, sput, sputO, binK, binI, unK, builtinK, pickK, Nat.reduceBEq, Nat.reduceAdd, Int.reduceBEq, Int.reduceBNe, Int.reduceLT, aPost, resK, tup, tyf])
  clear hN N
  refine aws_cut fun N hN => ?_
  simp (config := {maxSteps := 2000000}) only [s7, ↓aw_region, ↓aw_skip, ↓aw_seq, ↓aw_block, ↓aw_exit, ↓aw_ret, ↓sops_nil, ↓sops_go, ↓dops_nil, ↓dopsX_nil, ↓dopsR_nil, ↓vdn, vup, extr_20, extr_21, extr_30, extr_31, extr_32, List.map_cons, List.map_nil, cond_true, cond_false, aop, aThen, aBlock, argEnv, ev, sput, sputO, binK, binI, unK, builtinK, pickK, Nat.reduceBEq, Nat.reduceAdd, Int.reduceBEq, Int.reduceBNe, Int.reduceLT, aPost, resK, tup, tyf, callK, List.nil_append, List.append_nil, List.toList_toArray, List.cons_append]
  refine (pairs_call hp hpl).mono ?_
  rintro l1 _ ⟨hl1, g1, rfl⟩
  refine (close_call (n := n) hl1 hp35).mono ?_
  rintro _ h2 ⟨hE2, s1, e1, rfl, hr1⟩
  simp (config := {maxSteps := 2000000}) only [s7, ↓aw_region, ↓aw_skip, ↓aw_seq, ↓aw_block, ↓aw_exit, ↓aw_ret, ↓sops_nil, ↓sops_go, ↓dops_nil, ↓dopsX_nil, ↓dopsR_nil, ↓vdn, vup, extr_20, extr_21, extr_30, extr_31, extr_32, List.map_cons, List.map_nil, cond_true, cond_false, aop, aThen, aBlock, argEnv, ev, sput, sputO, binK, binI, unK, builtinK, pickK, Nat.reduceBEq, Nat.reduceAdd, Int.reduceBEq, Int.reduceBNe, Int.reduceLT, aPost, resK, tup, tyf]
  refine hN [(0, vint n), (1, v), (2, ov), (3, vint i), (4, vint j), (10, .bool false), (11, s1), (12, .int .i64 e1)] _ _ ?_ (by simp (config := {maxSteps := 2000000}) only [↓aw_region, ↓aw_skip, ↓aw_seq, ↓aw_block, ↓aw_exit, ↓aw_ret, ↓sops_nil, ↓sops_go, ↓dops_nil, ↓dopsX_nil, ↓dopsR_nil, ↓vdn, vup, extr_20, extr_21, extr_30, extr_31, extr_32, List.map_cons, List.map_nil, cond_true, cond_false, aop, aThen, aBlock, argEnv, ev, sput, sputO, binK, binI, unK, builtinK, pickK, Nat.reduceBEq, Nat.reduceAdd, Int.reduceBEq, Int.reduceBNe, Int.reduceLT, aPost, resK, tup, tyf])
  clear hN N
  have hE02 : Ext (fun _ => False) h h2 := (Ext.app _ _ _).trans hE2
  have hv2 := IntSl_ext hv hE02
  have hp2 := hp.ext hE02
  refine aws_cut fun N hN => ?_
  simp (config := {maxSteps := 2000000}) only [s7, ↓aw_region, ↓aw_skip, ↓aw_seq, ↓aw_block, ↓aw_exit, ↓aw_ret, ↓sops_nil, ↓sops_go, ↓dops_nil, ↓dopsX_nil, ↓dopsR_nil, ↓vdn, vup, extr_20, extr_21, extr_30, extr_31, extr_32, List.map_cons, List.map_nil, cond_true, cond_false, aop, aThen, aBlock, argEnv, ev, sput, sputO, binK, binI, unK, builtinK, pickK, Nat.reduceBEq, Nat.reduceAdd, Int.reduceBEq, Int.reduceBNe, Int.reduceLT, aPost, resK, tup, tyf, callK, List.nil_append, List.append_nil, List.toList_toArray, List.cons_append]
  refine (list_call hv2 hl).mono ?_
  rintro l3 _ ⟨hl3, g3, rfl⟩
  refine (add21_call hl3 hl9 hx9).mono ?_
  rintro _ h4 ⟨hE4, s2, e2, rfl, hr2⟩
  replace hr2 := hA9 hr2
  simp (config := {maxSteps := 2000000}) only [s7, ↓aw_region, ↓aw_skip, ↓aw_seq, ↓aw_block, ↓aw_exit, ↓aw_ret, ↓sops_nil, ↓sops_go, ↓dops_nil, ↓dopsX_nil, ↓dopsR_nil, ↓vdn, vup, extr_20, extr_21, extr_30, extr_31, extr_32, List.map_cons, List.map_nil, cond_true, cond_false, aop, aThen, aBlock, argEnv, ev, sput, sputO, binK, binI, unK, builtinK, pickK, Nat.reduceBEq, Nat.reduceAdd, Int.reduceBEq, Int.reduceBNe, Int.reduceLT, aPost, resK, tup, tyf]
  refine hN [(0, vint n), (1, v), (2, ov), (3, vint i), (4, vint j), (10, .bool false), (11, s1), (12, .int .i64 e1), (13, s2), (14, .int .i64 e2)] _ _ ?_ (by simp (config := {maxSteps := 2000000}) only [↓aw_region, ↓aw_skip, ↓aw_seq, ↓aw_block, ↓aw_exit, ↓aw_ret, ↓sops_nil, ↓sops_go, ↓dops_nil, ↓dopsX_nil, ↓dopsR_nil, ↓vdn, vup, extr_20, extr_21, extr_30, extr_31, extr_32, List.map_cons, List.map_nil, cond_true, cond_false, aop, aThen, aBlock, argEnv, ev, sput, sputO, binK, binI, unK, builtinK, pickK, Nat.reduceBEq, Nat.reduceAdd, Int.reduceBEq, Int.reduceBNe, Int.reduceLT, aPost, resK, tup, tyf])
  clear hN N
  have hE24 : Ext (fun _ => False) h2 h4 := (Ext.app _ _ _).trans hE4
  have hv4 := IntSl_ext hv2 hE24
  have hp4 := hp2.ext hE24
  refine aws_cut fun N hN => ?_
  simp (config := {maxSteps := 2000000}) only [s7, ↓aw_region, ↓aw_skip, ↓aw_seq, ↓aw_block, ↓aw_exit, ↓aw_ret, ↓sops_nil, ↓sops_go, ↓dops_nil, ↓dopsX_nil, ↓dopsR_nil, ↓vdn, vup, extr_20, extr_21, extr_30, extr_31, extr_32, List.map_cons, List.map_nil, cond_true, cond_false, aop, aThen, aBlock, argEnv, ev, sput, sputO, binK, binI, unK, builtinK, pickK, Nat.reduceBEq, Nat.reduceAdd, Int.reduceBEq, Int.reduceBNe, Int.reduceLT, aPost, resK, tup, tyf, callK, List.nil_append, List.append_nil, List.toList_toArray, List.cons_append]
  refine (rpairs_call hp4 hpl).mono ?_
  rintro _ h5 ⟨rfl, rfl⟩
  rw [CloseR, prs_take] at hr1
  cases hprs : prs n ps with
  | false =>
    rw [hprs, if_neg (by decide)] at hr1
    obtain ⟨rfl, rfl⟩ := hr1
    simp (config := {maxSteps := 2000000}) only [s7, ↓aw_region, ↓aw_skip, ↓aw_seq, ↓aw_block, ↓aw_exit, ↓aw_ret, ↓sops_nil, ↓sops_go, ↓dops_nil, ↓dopsX_nil, ↓dopsR_nil, ↓vdn, vup, extr_20, extr_21, extr_30, extr_31, extr_32, List.map_cons, List.map_nil, cond_true, cond_false, aop, aThen, aBlock, argEnv, ev, sput, sputO, binK, binI, unK, builtinK, pickK, Nat.reduceBEq, Nat.reduceAdd, Int.reduceBEq, Int.reduceBNe, Int.reduceLT, aPost, resK, tup, tyf, hprs, nilLen]
    exact hN _ _ _ (makes_tail hv4 hl hx hr2) (by simp (config := {maxSteps := 2000000}) only [↓aw_region, ↓aw_skip, ↓aw_seq, ↓aw_block, ↓aw_exit, ↓aw_ret, ↓sops_nil, ↓sops_go, ↓dops_nil, ↓dopsX_nil, ↓dopsR_nil, ↓vdn, vup, extr_20, extr_21, extr_30, extr_31, extr_32, List.map_cons, List.map_nil, cond_true, cond_false, aop, aThen, aBlock, argEnv, ev, sput, sputO, binK, binI, unK, builtinK, pickK, Nat.reduceBEq, Nat.reduceAdd, Int.reduceBEq, Int.reduceBNe, Int.reduceLT, aPost, resK, tup, tyf])
  | true =>
    rw [hprs, if_pos rfl, take_prs hprs] at hr1
    have hn : ∃ k : Nat, n = k := by
      have := hprs
      simp only [prs, Bool.and_eq_true, decide_eq_true_eq] at this
      exact ⟨n.toNat, by omega⟩
    obtain ⟨n, rfl⟩ := hn
    simp (config := {maxSteps := 2000000}) only [s7, ↓aw_region, ↓aw_skip, ↓aw_seq, ↓aw_block, ↓aw_exit, ↓aw_ret, ↓sops_nil, ↓sops_go, ↓dops_nil, ↓dopsX_nil, ↓dopsR_nil, ↓vdn, vup, extr_20, extr_21, extr_30, extr_31, extr_32, List.map_cons, List.map_nil, cond_true, cond_false, aop, aThen, aBlock, argEnv, ev, sput, sputO, binK, binI, unK, builtinK, pickK, Nat.reduceBEq, Nat.reduceAdd, Int.reduceBEq, Int.reduceBNe, Int.reduceLT, aPost, resK, tup, tyf, hprs, callK, List.nil_append, List.append_nil, List.toList_toArray, List.cons_append]
    refine (rclose_call hp4 hprs).mono ?_
    rintro _ h6 ⟨hE6, s3, e3, rfl, hr3⟩
    rw [CloseR, hprs, if_pos rfl] at hr3
    have hE26 := hE24.trans hE6
    have hself : ∀ x : Int, (x != x) = false := fun x => bne_self_eq_false _
    cases hc : close (zeros (n : Int).toNat) (natP ps) with
    | none =>
      rw [hc] at hr1 hr3
      obtain ⟨rfl, rfl⟩ := hr1
      obtain ⟨rfl, rfl⟩ := hr3
      simp (config := {maxSteps := 2000000}) only [s7, ↓aw_region, ↓aw_skip, ↓aw_seq, ↓aw_block, ↓aw_exit, ↓aw_ret, ↓sops_nil, ↓sops_go, ↓dops_nil, ↓dopsX_nil, ↓dopsR_nil, ↓vdn, vup, extr_20, extr_21, extr_30, extr_31, extr_32, List.map_cons, List.map_nil, cond_true, cond_false, aop, aThen, aBlock, argEnv, ev, sput, sputO, binK, binI, unK, builtinK, pickK, Nat.reduceBEq, Nat.reduceAdd, Int.reduceBEq, Int.reduceBNe, Int.reduceLT, aPost, resK, tup, tyf, callK, List.nil_append, List.append_nil, List.toList_toArray, List.cons_append]
      refine (equal_call (xs := []) (ys := []) (.inl ⟨rfl, rfl⟩) (.inl ⟨rfl, rfl⟩) (by decide) (by decide)).mono ?_
      rintro _ h7 ⟨rfl, rfl⟩
      simp (config := {maxSteps := 2000000}) only [s7, ↓aw_region, ↓aw_skip, ↓aw_seq, ↓aw_block, ↓aw_exit, ↓aw_ret, ↓sops_nil, ↓sops_go, ↓dops_nil, ↓dopsX_nil, ↓dopsR_nil, ↓vdn, vup, extr_20, extr_21, extr_30, extr_31, extr_32, List.map_cons, List.map_nil, cond_true, cond_false, aop, aThen, aBlock, argEnv, ev, sput, sputO, binK, binI, unK, builtinK, pickK, Nat.reduceBEq, Nat.reduceAdd, Int.reduceBEq, Int.reduceBNe, Int.reduceLT, aPost, resK, tup, tyf, decide_true]
      exact hN _ _ _ (makes_tail (IntSl_ext hv4 hE6) hl hx (hr2.ext hE6)) (by simp (config := {maxSteps := 2000000}) only [↓aw_region, ↓aw_skip, ↓aw_seq, ↓aw_block, ↓aw_exit, ↓aw_ret, ↓sops_nil, ↓sops_go, ↓dops_nil, ↓dopsX_nil, ↓dopsR_nil, ↓vdn, vup, extr_20, extr_21, extr_30, extr_31, extr_32, List.map_cons, List.map_nil, cond_true, cond_false, aop, aThen, aBlock, argEnv, ev, sput, sputO, binK, binI, unK, builtinK, pickK, Nat.reduceBEq, Nat.reduceAdd, Int.reduceBEq, Int.reduceBNe, Int.reduceLT, aPost, resK, tup, tyf])
    | some q =>
      rw [hc] at hr1 hr3
      obtain ⟨rfl, hq1⟩ := hr1
      obtain ⟨rfl, hq3⟩ := hr3
      have hql : q.length < 9223372036854775808 := by
        have h1 := close_short hc
        have h2 := hprs
        simp only [prs, Bool.and_eq_true, decide_eq_true_eq] at h2
        omega
      simp (config := {maxSteps := 2000000}) only [s7, ↓aw_region, ↓aw_skip, ↓aw_seq, ↓aw_block, ↓aw_exit, ↓aw_ret, ↓sops_nil, ↓sops_go, ↓dops_nil, ↓dopsX_nil, ↓dopsR_nil, ↓vdn, vup, extr_20, extr_21, extr_30, extr_31, extr_32, List.map_cons, List.map_nil, cond_true, cond_false, aop, aThen, aBlock, argEnv, ev, sput, sputO, binK, binI, unK, builtinK, pickK, Nat.reduceBEq, Nat.reduceAdd, Int.reduceBEq, Int.reduceBNe, Int.reduceLT, aPost, resK, tup, tyf, callK, List.nil_append, List.append_nil, List.toList_toArray, List.cons_append]
      refine (equal_call (IntSl_ext hq1 hE26) hq3 hql hql).mono ?_
      rintro _ h7 ⟨rfl, rfl⟩
      simp (config := {maxSteps := 2000000}) only [s7, ↓aw_region, ↓aw_skip, ↓aw_seq, ↓aw_block, ↓aw_exit, ↓aw_ret, ↓sops_nil, ↓sops_go, ↓dops_nil, ↓dopsX_nil, ↓dopsR_nil, ↓vdn, vup, extr_20, extr_21, extr_30, extr_31, extr_32, List.map_cons, List.map_nil, cond_true, cond_false, aop, aThen, aBlock, argEnv, ev, sput, sputO, binK, binI, unK, builtinK, pickK, Nat.reduceBEq, Nat.reduceAdd, Int.reduceBEq, Int.reduceBNe, Int.reduceLT, aPost, resK, tup, tyf, decide_true]
      exact hN _ _ _ (makes_tail (IntSl_ext hv4 hE6) hl hx (hr2.ext hE6)) (by simp (config := {maxSteps := 2000000}) only [↓aw_region, ↓aw_skip, ↓aw_seq, ↓aw_block, ↓aw_exit, ↓aw_ret, ↓sops_nil, ↓sops_go, ↓dops_nil, ↓dopsX_nil, ↓dopsR_nil, ↓vdn, vup, extr_20, extr_21, extr_30, extr_31, extr_32, List.map_cons, List.map_nil, cond_true, cond_false, aop, aThen, aBlock, argEnv, ev, sput, sputO, binK, binI, unK, builtinK, pickK, Nat.reduceBEq, Nat.reduceAdd, Int.reduceBEq, Int.reduceBNe, Int.reduceLT, aPost, resK, tup, tyf])
end Go.Proofs.Tryd.Am
