/-
  ranks: what a player brings.
-/
import Derived.Test.YtemmcfeekpblkaaDoorRkOrder
set_option linter.all false
namespace Go.Proofs.Tryd.Am
open Go.Am Redei Rb
set_option maxRecDepth 100000
set_option maxHeartbeats 1000000

theorem s75_callW [Tabs Tryd.prog] {args : List Value} {h : Heap} {Q : Value → Heap → Prop} (hsz : args.length ≤ 22) (hk : AWS Tryd.prog 22 s75 (aPost Tryd.prog [.tmp 6] Q) (argEnv 0 args) h) : ACall Tryd.prog 75 args h Q :=
  acall_w Tryd.func75 rfl (enters_of Tryd.func75 (by kernel_rfl) rfl) rfl rfl (by decide) s75_strip s75_ok hsz hk
theorem cost_call [Tabs prog] {h hp : Heap} {gv : Value} {xs : List Int} {M : Nat} {T : List Nat} (o : OB h hp gv M T) (hv : IntSl h gv xs) (ht : trn xs = true) (hM : 2 ^ xs.length = M) {s i : Nat} (hs : s < M) (hi : i < xs.length) (hT : T.getD (s ||| 2 ^ i) 0 ≤ 1000) :
    APure prog 75 [vint s, vint i, pt h.length, pt (h.length + 2)] hp (vint (cst xs i s + T.getD (s ||| 2 ^ i) 0 : Nat)) := by
  have hnn : ∀ i : Nat, (0 : Int) ≤ (i : Int) := Int.natCast_nonneg
  have hxl : 1 ≤ xs.length ∧ xs.length ≤ 8 := by simp only [trn, Bool.and_eq_true, decide_eq_true_eq] at ht; omega
  have h256 := pow8N hxl.2
  have hvp := IntSl_ext hv o.E
  obtain ⟨hX, hXl⟩ := trn_nat ht hi
  obtain ⟨X, hXe⟩ : ∃ X, X = (xs.getD i 0).toNat := ⟨_, rfl⟩
  have hcX : cst xs i s = (Am.bits (X &&& s)).length := by rw [cst, ← hXe]
  rw [← hXe] at hX hXl
  have hc64 := cst_le xs i s
  have p2 : 2 ^ i ≤ 2 ^ 8 := Nat.pow_le_pow_right (by decide) (by omega)
  have hor : bitsV .or .i64 ((s : Nat) : Int) ((2 ^ i : Nat) : Int) = ((s ||| 2 ^ i : Nat) : Int) := bitsV_or (by omega) (by omega)
  have hand : bitsV .and .i64 ((X : Nat) : Int) ((s : Nat) : Int) = ((X &&& s : Nat) : Int) := bitsV_and (by omega) (by omega)
  have hal : X &&& s < 256 := Nat.lt_of_le_of_lt Nat.and_le_right (by omega)
  have hsi : s ||| 2 ^ i < M := by rw [← hM]; exact put_lt (by rw [hM]; exact hs) hi
  have hadd : addV .i64 (((Am.bits (X &&& s)).length : Nat) : Int) ((T.getD (s ||| 2 ^ i) 0 : Nat) : Int) = ((cst xs i s + T.getD (s ||| 2 ^ i) 0 : Nat) : Int) := by
    rw [← hcX, addV_id (by omega) (by omega)]; omega
  refine s75_callW (by simp) ?_
  simp only [s75]
  refine aws_cut fun N1 hN1 => ?_
  simp (config := {maxSteps := 2000000}) only [s75, ↓aw_region, ↓aw_skip, ↓aw_seq, ↓aw_block, ↓aw_exit, ↓aw_ret, ↓sops_nil, ↓sops_go, ↓dops_nil, ↓dopsX_nil, ↓dopsR_nil, ↓vdn, vup, extr_20, extr_21, extr_30, extr_31, extr_32, List.map_cons, List.map_nil, cond_true, cond_false, aop, aThen, aBlock, argEnv, ev, sput, sputO, binK, binI, unK, builtinK, pickK, Nat.reduceBEq, Nat.reduceAdd, Int.reduceBEq, Int.reduceBNe, Int.reduceLT, aPost, resK, tup, tyf]
  refine hN1 [(0, vint s), (1, vint i), (2, pt h.length), (3, pt (h.length + 2)), (6, .int .i64 0)] _ _ ?_ (by simp (config := {maxSteps := 2000000}) only [↓aw_region, ↓aw_skip, ↓aw_seq, ↓aw_block, ↓aw_exit, ↓aw_ret, ↓sops_nil, ↓sops_go, ↓dops_nil, ↓dopsX_nil, ↓dopsR_nil, ↓vdn, vup, extr_20, extr_21, extr_30, extr_31, extr_32, List.map_cons, List.map_nil, cond_true, cond_false, aop, aThen, aBlock, argEnv, ev, sput, sputO, binK, binI, unK, builtinK, pickK, Nat.reduceBEq, Nat.reduceAdd, Int.reduceBEq, Int.reduceBNe, Int.reduceLT, aPost, resK, tup, tyf])
  clear hN1
  try clear N1
  refine aw_aws ?_
  simp (config := {maxSteps := 2000000}) only [s75, ↓aw_region, ↓aw_skip, ↓aw_seq, ↓aw_block, ↓aw_exit, ↓aw_ret, ↓sops_nil, ↓sops_go, ↓dops_nil, ↓dopsX_nil, ↓dopsR_nil, ↓vdn, vup, extr_20, extr_21, extr_30, extr_31, extr_32, List.map_cons, List.map_nil, cond_true, cond_false, aop, aThen, aBlock, argEnv, ev, sput, sputO, binK, binI, unK, builtinK, pickK, Nat.reduceBEq, Nat.reduceAdd, Int.reduceBEq, Int.reduceBNe, Int.reduceLT, aPost, resK, tup, tyf]
  refine aw_drawX [(6, 1)] (by kernel_rfl) (by kernel_rfl) (by kernel_rfl) (by kernel_rfl) ?_
  have band : ∀ {K : Value → Prop}, binK prog .and 3 (.int .i64 ((X : Nat) : Int)) (.int .i64 ((s : Nat) : Int)) K = K (vint (X &&& s : Nat)) := fun {K} => by
    simp only [binK, binI]; rw [hand, true_and]
  simp (config := {maxSteps := 2000000}) only [s75, ↓aw_region, ↓aw_skip, ↓aw_seq, ↓aw_block, ↓aw_exit, ↓aw_ret, ↓sops_nil, ↓sops_go, ↓dops_nil, ↓dopsX_nil, ↓dopsR_nil, ↓vdn, vup, extr_20, extr_21, extr_30, extr_31, extr_32, List.map_cons, List.map_nil, cond_true, cond_false, aop, aThen, aBlock, argEnv, ev, sput, sputO, builtinK, Nat.reduceBEq, Nat.reduceAdd, Int.reduceBEq, Int.reduceBNe, Int.reduceLT, aPost, resK, tup, tyf, load1 o.b1 shp_22, hvp.idx el_22 esz_3 hi, hvp.load shp_3 hi, hX, band, load1 o.b5 shp_22, callK, List.nil_append, List.append_nil, List.toList_toArray, List.cons_append]
  refine ⟨_, _, count_call hal, rfl, ?_⟩
  simp (config := {maxSteps := 2000000}) only [s75, ↓aw_region, ↓aw_skip, ↓aw_seq, ↓aw_block, ↓aw_exit, ↓aw_ret, ↓sops_nil, ↓sops_go, ↓dops_nil, ↓dopsX_nil, ↓dopsR_nil, ↓vdn, vup, extr_20, extr_21, extr_30, extr_31, extr_32, List.map_cons, List.map_nil, cond_true, cond_false, aop, aThen, aBlock, argEnv, ev, sput, sputO, binK, binI, unK, builtinK, pickK, Nat.reduceBEq, Nat.reduceAdd, Int.reduceBEq, Int.reduceBNe, Int.reduceLT, aPost, resK, tup, tyf, load1 o.b5 shp_22, hnn, shlI1 (show i ≤ 62 by omega), hor, tab_idx o.bT o.len hsi, tab_load o.bT o.len hsi, hadd]

end Go.Proofs.Tryd.Am
