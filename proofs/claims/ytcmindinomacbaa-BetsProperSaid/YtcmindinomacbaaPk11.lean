/-
  bets: bets that are valid, in the program.
  bets: the corners.
-/
import Derived.Test.YtcmindinomacbaaPk10
import Derived.Test.YtcmindinomacbaaPk8
set_option linter.all false
namespace Go.Proofs.Try.Am
open Go.Am Bq
set_option maxRecDepth 100000
set_option maxHeartbeats 1000000

abbrev bB (x y : Int) : Blk := .cells [vint x, vint y] 92 false
abbrev zB : Blk := .cells [.int .i64 0, .int .i64 0] 92 false
theorem storeBt {h : Heap} {b : Nat} {x y : Int} {e : TypeId} {c : List Value} {K : Heap → Prop} (hb : h[b]? = some (.cells c e false)) (hc : c.length = 2) : storeK prog h 92 (.pointer (some ⟨b, 0, none⟩)) (.agg #[vint x, vint y]) K = K (h.set b (.cells [vint x, vint y] e false)) :=
  storeA (vs := [vint x, vint y]) hb (by rw [shp_92]; rfl) rfl (by rw [hc]; rfl)
theorem bA0 {b : Nat} {K : Value → Prop} : fieldAddrK prog 92 (.pointer (some ⟨b, 0, none⟩)) 0 K = K (.pointer (some ⟨b, 0, none⟩)) := fldA fld_92_0 esz_3
theorem bA1 {b : Nat} {K : Value → Prop} : fieldAddrK prog 92 (.pointer (some ⟨b, 0, none⟩)) 1 K = K (.pointer (some ⟨b, 1, none⟩)) := fldA fld_92_1 esz_3
theorem tA0 {b : Nat} {K : Value → Prop} : fieldAddrK prog 86 (.pointer (some ⟨b, 0, none⟩)) 0 K = K (.pointer (some ⟨b, 0, none⟩)) := fldA fld_86_0 esz_3
theorem tA1 {b : Nat} {K : Value → Prop} : fieldAddrK prog 86 (.pointer (some ⟨b, 0, none⟩)) 1 K = K (.pointer (some ⟨b, 1, none⟩)) := fldA fld_86_1 esz_30
theorem boxB {h : Heap} {x y : Int} {K : Value → Heap → Prop} : boxK prog h 92 (.agg #[vint x, vint y]) K = K (newPtr h) (h ++ [bB x y]) := by
  simp [boxK, esz_92, newPtr, cellsOf]
theorem boxT {h : Heap} {n : Int} {v : Value} {K : Value → Heap → Prop} : boxK prog h 86 (.agg #[vint n, v]) K = K (newPtr h) (h ++ [.cells [vint n, v] 86 false]) := by
  simp [boxK, esz_86, newPtr, cellsOf]
theorem loadT0 {h : Heap} {b : Nat} {n : Int} {v : Value} {K : Value → Prop} (hb : h[b]? = some (.cells [vint n, v] 86 false)) : loadK prog h 3 (.pointer (some ⟨b, 0, none⟩)) K = K (vint n) := loadC hb shp_3 rfl
theorem loadT1 {h : Heap} {b : Nat} {n : Int} {v : Value} {K : Value → Prop} (hb : h[b]? = some (.cells [vint n, v] 86 false)) : loadK prog h 30 (.pointer (some ⟨b, 1, none⟩)) K = K v := loadC hb shp_30 rfl
theorem loadB0 {h : Heap} {b : Nat} {x y : Int} {K : Value → Prop} (hb : h[b]? = some (bB x y)) : loadK prog h 3 (.pointer (some ⟨b, 0, none⟩)) K = K (vint x) := loadC hb shp_3 rfl
theorem loadB1 {h : Heap} {b : Nat} {x y : Int} {K : Value → Prop} (hb : h[b]? = some (bB x y)) : loadK prog h 3 (.pointer (some ⟨b, 1, none⟩)) K = K (vint y) := loadC hb shp_3 rfl

theorem s115_callW [Tabs Try.prog] {args : List Value} {h : Heap} {Q : Value → Heap → Prop} (hsz : args.length ≤ 19) (hk : AWS Try.prog 19 s115 (aPost Try.prog [.tmp 4] Q) (argEnv 0 args) h) : ACall Try.prog 115 args h Q :=
  acall_w Try.func115 rfl (enters_of Try.func115 (by kernel_rfl) rfl) rfl rfl (by decide) s115_strip s115_ok hsz hk
theorem idxB_call [Tabs prog] {h : Heap} {v : Value} {ps : List (Int × Int)} {g : FuncId} {cap : Array Value} {f : Int × Int → Bool} (hv : PairSl h v ps) (hl : ps.length < 9223372036854775808)
    (hc : ∀ h', Ext (fun _ => False) h h' → ∀ p ∈ ps, APure prog g ([.agg #[vint p.1, vint p.2]] ++ cap.toList) h' (.bool (f p))) : ACall prog 115 [v, .func (.func g) #[] cap] h fun r h' => h' = h ∧ ∃ i : Int, r = vint i ∧ decide (0 ≤ i) = ps.any f := by
  refine s115_callW (by simp) ?_
  simp only [s115]
  refine aws_cut fun N1 hN1 => ?_
  simp (maxSteps := 2000000) only [s115, ↓aw_region, ↓aw_skip, ↓aw_seq, ↓aw_block, ↓aw_exit, ↓aw_ret, ↓sops_nil, ↓sops_go, ↓dops_nil, ↓dopsX_nil, ↓dopsR_nil, ↓vdn, vup, extr_20, extr_21, extr_30, extr_31, extr_32, List.map_cons, List.map_nil, cond_true, cond_false, aop, aThen, aBlock, argEnv, ev, sput, sputO, binK, binI, unK, builtinK, pickK, Nat.reduceBEq, Nat.reduceAdd, Int.reduceBEq, Int.reduceBNe, Int.reduceLT, aPost, resK, tup, tyf]
  refine hN1 [(0, v), (1, .func (.func g) #[] cap), (4, .int .i64 0)] _ _ ?_ (by simp (maxSteps := 2000000) only [↓aw_region, ↓aw_skip, ↓aw_seq, ↓aw_block, ↓aw_exit, ↓aw_ret, ↓sops_nil, ↓sops_go, ↓dops_nil, ↓dopsX_nil, ↓dopsR_nil, ↓vdn, vup, extr_20, extr_21, extr_30, extr_31, extr_32, List.map_cons, List.map_nil, cond_true, cond_false, aop, aThen, aBlock, argEnv, ev, sput, sputO, binK, binI, unK, builtinK, pickK, Nat.reduceBEq, Nat.reduceAdd, Int.reduceBEq, Int.reduceBNe, Int.reduceLT, aPost, resK, tup, tyf])
  clear hN1
  try clear N1
  refine aws_cutW fun Z hZ => ?_
  refine aws_cut fun N2 hN2 => ?_
  simp (maxSteps := 2000000) only [s115, ↓aw_region, ↓aw_skip, ↓aw_seq, ↓aw_block, ↓aw_exit, ↓aw_ret, ↓sops_nil, ↓sops_go, ↓dops_nil, ↓dopsX_nil, ↓dopsR_nil, ↓vdn, vup, extr_20, extr_21, extr_30, extr_31, extr_32, List.map_cons, List.map_nil, cond_true, cond_false, aop, aThen, aBlock, argEnv, ev, sput, sputO, binK, binI, unK, builtinK, pickK, Nat.reduceBEq, Nat.reduceAdd, Int.reduceBEq, Int.reduceBNe, Int.reduceLT, aPost, resK, tup, tyf, hv.len]
  refine hN2 [(0, v), (1, .func (.func g) #[] cap), (4, .int .i64 0), (6, v), (7, vint ps.length), (8, .int .i64 0)] _ _ ?_ (by simp (maxSteps := 2000000) only [↓aw_region, ↓aw_skip, ↓aw_seq, ↓aw_block, ↓aw_exit, ↓aw_ret, ↓sops_nil, ↓sops_go, ↓dops_nil, ↓dopsX_nil, ↓dopsR_nil, ↓vdn, vup, extr_20, extr_21, extr_30, extr_31, extr_32, List.map_cons, List.map_nil, cond_true, cond_false, aop, aThen, aBlock, argEnv, ev, sput, sputO, binK, binI, unK, builtinK, pickK, Nat.reduceBEq, Nat.reduceAdd, Int.reduceBEq, Int.reduceBNe, Int.reduceLT, aPost, resK, tup, tyf])
  clear hN2
  try clear N2
  refine aws_block ?_
  refine aws_hide fun Q hQ => ?_
  refine aw_loopW (γ := Nat) (fun k => k ≤ ps.length ∧ ∀ p ∈ ps.take k, f p = false)
    (fun k => ([(0, v), (1, .func (.func g) #[] cap), (4, .int .i64 0), (6, v), (7, vint ps.length), (8, vint (k : Nat))], h)) (fun k => ps.length - k) 0 ⟨Nat.zero_le _, by simp⟩ (by simp (maxSteps := 2000000) only [↓aw_region, ↓aw_skip, ↓aw_seq, ↓aw_block, ↓aw_exit, ↓aw_ret, ↓sops_nil, ↓sops_go, ↓dops_nil, ↓dopsX_nil, ↓dopsR_nil, ↓vdn, vup, extr_20, extr_21, extr_30, extr_31, extr_32, List.map_cons, List.map_nil, cond_true, cond_false, aop, aThen, aBlock, argEnv, ev, sput, sputO, binK, binI, unK, builtinK, pickK, Nat.reduceBEq, Nat.reduceAdd, Int.reduceBEq, Int.reduceBNe, Int.reduceLT, aPost, resK, tup, tyf, Int.natCast_zero]) rfl ?_
  rintro k ⟨hk, hall⟩
  refine aws_hide fun Q2 hQ2 => ?_
  simp only [l115_0]
  by_cases hin : (k : Int) < ps.length
  · have hk' : k < ps.length := by omega
    obtain ⟨⟨x, y⟩, hxy⟩ : ∃ p, ps.getD k (0, 0) = p := ⟨_, rfl⟩
    have hmem : (x, y) ∈ ps := hxy ▸ getD_mem hk'
    refine aws_cut fun N3 hN3 => ?_
    simp (maxSteps := 2000000) only [s115, ↓aw_region, ↓aw_skip, ↓aw_seq, ↓aw_block, ↓aw_exit, ↓aw_ret, ↓sops_nil, ↓sops_go, ↓dops_nil, ↓dopsX_nil, ↓dopsR_nil, ↓vdn, vup, extr_20, extr_21, extr_30, extr_31, extr_32, List.map_cons, List.map_nil, cond_true, cond_false, aop, aThen, aBlock, argEnv, ev, sput, sputO, binK, binI, unK, builtinK, pickK, Nat.reduceBEq, Nat.reduceAdd, Int.reduceBEq, Int.reduceBNe, Int.reduceLT, aPost, resK, tup, tyf, hin]
    refine hN3 [(0, v), (1, .func (.func g) #[] cap), (4, .int .i64 0), (6, v), (7, vint ps.length), (8, vint (k : Nat)), (9, .bool true)] _ _ ?_ (by simp (maxSteps := 2000000) only [↓aw_region, ↓aw_skip, ↓aw_seq, ↓aw_block, ↓aw_exit, ↓aw_ret, ↓sops_nil, ↓sops_go, ↓dops_nil, ↓dopsX_nil, ↓dopsR_nil, ↓vdn, vup, extr_20, extr_21, extr_30, extr_31, extr_32, List.map_cons, List.map_nil, cond_true, cond_false, aop, aThen, aBlock, argEnv, ev, sput, sputO, binK, binI, unK, builtinK, pickK, Nat.reduceBEq, Nat.reduceAdd, Int.reduceBEq, Int.reduceBNe, Int.reduceLT, aPost, resK, tup, tyf])
    clear hN3
    try clear N3
    refine aws_cut fun N4 hN4 => ?_
    simp (maxSteps := 2000000) only [s115, ↓aw_region, ↓aw_skip, ↓aw_seq, ↓aw_block, ↓aw_exit, ↓aw_ret, ↓sops_nil, ↓sops_go, ↓dops_nil, ↓dopsX_nil, ↓dopsR_nil, ↓vdn, vup, extr_20, extr_21, extr_30, extr_31, extr_32, List.map_cons, List.map_nil, cond_true, cond_false, aop, aThen, aBlock, argEnv, ev, sput, sputO, binK, binI, unK, builtinK, pickK, Nat.reduceBEq, Nat.reduceAdd, Int.reduceBEq, Int.reduceBNe, Int.reduceLT, aPost, resK, tup, tyf]
    refine hN4 [(0, v), (1, .func (.func g) #[] cap), (4, .int .i64 0), (6, v), (7, vint ps.length), (8, vint (k : Nat))] _ _ ?_ (by simp (maxSteps := 2000000) only [↓aw_region, ↓aw_skip, ↓aw_seq, ↓aw_block, ↓aw_exit, ↓aw_ret, ↓sops_nil, ↓sops_go, ↓dops_nil, ↓dopsX_nil, ↓dopsR_nil, ↓vdn, vup, extr_20, extr_21, extr_30, extr_31, extr_32, List.map_cons, List.map_nil, cond_true, cond_false, aop, aThen, aBlock, argEnv, ev, sput, sputO, binK, binI, unK, builtinK, pickK, Nat.reduceBEq, Nat.reduceAdd, Int.reduceBEq, Int.reduceBNe, Int.reduceLT, aPost, resK, tup, tyf])
    clear hN4
    try clear N4
    refine aws_cutW fun B hB => ?_
    refine aws_block ?_
    refine aws_cut fun N5 hN5 => ?_
    simp (maxSteps := 2000000) only [s115, ↓aw_region, ↓aw_skip, ↓aw_seq, ↓aw_block, ↓aw_exit, ↓aw_ret, ↓sops_nil, ↓sops_go, ↓dops_nil, ↓dopsX_nil, ↓dopsR_nil, ↓vdn, vup, extr_20, extr_21, extr_30, extr_31, extr_32, List.map_cons, List.map_nil, cond_true, cond_false, aop, aThen, aBlock, argEnv, ev, sput, sputO, binK, binI, unK, builtinK, pickK, Nat.reduceBEq, Nat.reduceAdd, Int.reduceBEq, Int.reduceBNe, Int.reduceLT, aPost, resK, tup, tyf]
    refine hN5 [(0, v), (1, .func (.func g) #[] cap), (4, .int .i64 0), (5, vint (k : Nat)), (6, v), (7, vint ps.length), (8, vint (k : Nat))] _ _ ?_ (by simp (maxSteps := 2000000) only [↓aw_region, ↓aw_skip, ↓aw_seq, ↓aw_block, ↓aw_exit, ↓aw_ret, ↓sops_nil, ↓sops_go, ↓dops_nil, ↓dopsX_nil, ↓dopsR_nil, ↓vdn, vup, extr_20, extr_21, extr_30, extr_31, extr_32, List.map_cons, List.map_nil, cond_true, cond_false, aop, aThen, aBlock, argEnv, ev, sput, sputO, binK, binI, unK, builtinK, pickK, Nat.reduceBEq, Nat.reduceAdd, Int.reduceBEq, Int.reduceBNe, Int.reduceLT, aPost, resK, tup, tyf])
    clear hN5
    try clear N5
    refine aws_cut fun N6 hN6 => ?_
    simp (maxSteps := 2000000) only [s115, ↓aw_region, ↓aw_skip, ↓aw_seq, ↓aw_block, ↓aw_exit, ↓aw_ret, ↓sops_nil, ↓sops_go, ↓dops_nil, ↓dopsX_nil, ↓dopsR_nil, ↓vdn, vup, extr_20, extr_21, extr_30, extr_31, extr_32, List.map_cons, List.map_nil, cond_true, cond_false, aop, aThen, aBlock, argEnv, ev, sput, sputO, binK, binI, unK, builtinK, pickK, Nat.reduceBEq, Nat.reduceAdd, Int.reduceBEq, Int.reduceBNe, Int.reduceLT, aPost, resK, tup, tyf, hv.idx el_30 esz_92 hk', hv.load shp_92 hk', hxy, callK, List.nil_append, List.append_nil]
    refine (show APure prog g ([.agg #[vint x, vint y]] ++ cap.toList) h (.bool (f (x, y))) from hc h (Ext.refl _ _) _ hmem).mono ?_
    rintro _ h ⟨rfl, rfl⟩
    refine hN6 [(0, v), (1, .func (.func g) #[] cap), (4, .int .i64 0), (5, vint (k : Nat)), (6, v), (7, vint ps.length), (8, vint (k : Nat)), (16, .bool (f (x, y)))] _ _ ?_ (by simp (maxSteps := 2000000) only [↓aw_region, ↓aw_skip, ↓aw_seq, ↓aw_block, ↓aw_exit, ↓aw_ret, ↓sops_nil, ↓sops_go, ↓dops_nil, ↓dopsX_nil, ↓dopsR_nil, ↓vdn, vup, extr_20, extr_21, extr_30, extr_31, extr_32, List.map_cons, List.map_nil, cond_true, cond_false, aop, aThen, aBlock, argEnv, ev, sput, sputO, binK, binI, unK, builtinK, pickK, Nat.reduceBEq, Nat.reduceAdd, Int.reduceBEq, Int.reduceBNe, Int.reduceLT, aPost, resK, tup, tyf])
    clear hN6
    try clear N6
    refine aw_aws ?_
    cases hf : f (x, y) with
    | true =>
      simp (maxSteps := 2000000) only [s115, ↓aw_region, ↓aw_skip, ↓aw_seq, ↓aw_block, ↓aw_exit, ↓aw_ret, ↓sops_nil, ↓sops_go, ↓dops_nil, ↓dopsX_nil, ↓dopsR_nil, ↓vdn, vup, extr_20, extr_21, extr_30, extr_31, extr_32, List.map_cons, List.map_nil, cond_true, cond_false, aop, aThen, aBlock, argEnv, ev, sput, sputO, binK, binI, unK, builtinK, pickK, Nat.reduceBEq, Nat.reduceAdd, Int.reduceBEq, Int.reduceBNe, Int.reduceLT, aPost, resK, tup, tyf]
      refine hQ2 _ _ _ (hQ _ _ _ ?_)
      simp (maxSteps := 2000000) only [s115, ↓aw_region, ↓aw_skip, ↓aw_seq, ↓aw_block, ↓aw_exit, ↓aw_ret, ↓sops_nil, ↓sops_go, ↓dops_nil, ↓dopsX_nil, ↓dopsR_nil, ↓vdn, vup, extr_20, extr_21, extr_30, extr_31, extr_32, List.map_cons, List.map_nil, cond_true, cond_false, aop, aThen, aBlock, argEnv, ev, sput, sputO, binK, binI, unK, builtinK, pickK, Nat.reduceBEq, Nat.reduceAdd, Int.reduceBEq, Int.reduceBNe, Int.reduceLT, aPost, resK, tup, tyf]
      exact ⟨_, rfl, by rw [show ps.any f = true from List.any_eq_true.2 ⟨_, hmem, hf⟩]; simp⟩
    | false =>
      simp (maxSteps := 2000000) only [s115, ↓aw_region, ↓aw_skip, ↓aw_seq, ↓aw_block, ↓aw_exit, ↓aw_ret, ↓sops_nil, ↓sops_go, ↓dops_nil, ↓dopsX_nil, ↓dopsR_nil, ↓vdn, vup, extr_20, extr_21, extr_30, extr_31, extr_32, List.map_cons, List.map_nil, cond_true, cond_false, aop, aThen, aBlock, argEnv, ev, sput, sputO, binK, binI, unK, builtinK, pickK, Nat.reduceBEq, Nat.reduceAdd, Int.reduceBEq, Int.reduceBNe, Int.reduceLT, aPost, resK, tup, tyf]
      refine hB [(0, v), (1, .func (.func g) #[] cap), (4, .int .i64 0), (6, v), (7, vint ps.length), (8, vint (k : Nat))] _ _ ?_ (by simp (maxSteps := 2000000) only [↓aw_region, ↓aw_skip, ↓aw_seq, ↓aw_block, ↓aw_exit, ↓aw_ret, ↓sops_nil, ↓sops_go, ↓dops_nil, ↓dopsX_nil, ↓dopsR_nil, ↓vdn, vup, extr_20, extr_21, extr_30, extr_31, extr_32, List.map_cons, List.map_nil, cond_true, cond_false, aop, aThen, aBlock, argEnv, ev, sput, sputO, binK, binI, unK, builtinK, pickK, Nat.reduceBEq, Nat.reduceAdd, Int.reduceBEq, Int.reduceBNe, Int.reduceLT, aPost, resK, tup, tyf])
      clear hB
      try clear B
      refine aw_aws ?_
      simp (maxSteps := 2000000) only [s115, ↓aw_region, ↓aw_skip, ↓aw_seq, ↓aw_block, ↓aw_exit, ↓aw_ret, ↓sops_nil, ↓sops_go, ↓dops_nil, ↓dopsX_nil, ↓dopsR_nil, ↓vdn, vup, extr_20, extr_21, extr_30, extr_31, extr_32, List.map_cons, List.map_nil, cond_true, cond_false, aop, aThen, aBlock, argEnv, ev, sput, sputO, binK, binI, unK, builtinK, pickK, Nat.reduceBEq, Nat.reduceAdd, Int.reduceBEq, Int.reduceBNe, Int.reduceLT, aPost, resK, tup, tyf, add1 (show k < 9223372036854775807 by omega)]
      refine hQ2 _ _ _ ⟨k + 1, ⟨hk', fun p hp => ?_⟩, by omega, by simp (maxSteps := 2000000) only [↓aw_region, ↓aw_skip, ↓aw_seq, ↓aw_block, ↓aw_exit, ↓aw_ret, ↓sops_nil, ↓sops_go, ↓dops_nil, ↓dopsX_nil, ↓dopsR_nil, ↓vdn, vup, extr_20, extr_21, extr_30, extr_31, extr_32, List.map_cons, List.map_nil, cond_true, cond_false, aop, aThen, aBlock, argEnv, ev, sput, sputO, binK, binI, unK, builtinK, pickK, Nat.reduceBEq, Nat.reduceAdd, Int.reduceBEq, Int.reduceBNe, Int.reduceLT, aPost, resK, tup, tyf], rfl⟩
      rw [take_snoc (d := ((0, 0) : Int × Int)) hk', hxy] at hp
      rcases List.mem_append.1 hp with h3 | h3
      · exact hall p h3
      · simp at h3; subst h3; exact hf
  · obtain rfl : k = ps.length := by omega
    refine aws_cut fun N7 hN7 => ?_
    simp (maxSteps := 2000000) only [s115, ↓aw_region, ↓aw_skip, ↓aw_seq, ↓aw_block, ↓aw_exit, ↓aw_ret, ↓sops_nil, ↓sops_go, ↓dops_nil, ↓dopsX_nil, ↓dopsR_nil, ↓vdn, vup, extr_20, extr_21, extr_30, extr_31, extr_32, List.map_cons, List.map_nil, cond_true, cond_false, aop, aThen, aBlock, argEnv, ev, sput, sputO, binK, binI, unK, builtinK, pickK, Nat.reduceBEq, Nat.reduceAdd, Int.reduceBEq, Int.reduceBNe, Int.reduceLT, aPost, resK, tup, tyf, hin]
    refine hN7 [(0, v), (1, .func (.func g) #[] cap), (4, .int .i64 0), (6, v), (7, vint ps.length), (8, vint ps.length), (9, .bool false)] _ _ ?_ (by simp (maxSteps := 2000000) only [↓aw_region, ↓aw_skip, ↓aw_seq, ↓aw_block, ↓aw_exit, ↓aw_ret, ↓sops_nil, ↓sops_go, ↓dops_nil, ↓dopsX_nil, ↓dopsR_nil, ↓vdn, vup, extr_20, extr_21, extr_30, extr_31, extr_32, List.map_cons, List.map_nil, cond_true, cond_false, aop, aThen, aBlock, argEnv, ev, sput, sputO, binK, binI, unK, builtinK, pickK, Nat.reduceBEq, Nat.reduceAdd, Int.reduceBEq, Int.reduceBNe, Int.reduceLT, aPost, resK, tup, tyf])
    clear hN7
    try clear N7
    refine aws_cut fun N8 hN8 => ?_
    simp (maxSteps := 2000000) only [s115, ↓aw_region, ↓aw_skip, ↓aw_seq, ↓aw_block, ↓aw_exit, ↓aw_ret, ↓sops_nil, ↓sops_go, ↓dops_nil, ↓dopsX_nil, ↓dopsR_nil, ↓vdn, vup, extr_20, extr_21, extr_30, extr_31, extr_32, List.map_cons, List.map_nil, cond_true, cond_false, aop, aThen, aBlock, argEnv, ev, sput, sputO, binK, binI, unK, builtinK, pickK, Nat.reduceBEq, Nat.reduceAdd, Int.reduceBEq, Int.reduceBNe, Int.reduceLT, aPost, resK, tup, tyf]
    refine hQ2 _ _ _ (hQ _ _ _ ?_)
    simp (maxSteps := 2000000) only [s115, ↓aw_region, ↓aw_skip, ↓aw_seq, ↓aw_block, ↓aw_exit, ↓aw_ret, ↓sops_nil, ↓sops_go, ↓dops_nil, ↓dopsX_nil, ↓dopsR_nil, ↓vdn, vup, extr_20, extr_21, extr_30, extr_31, extr_32, List.map_cons, List.map_nil, cond_true, cond_false, aop, aThen, aBlock, argEnv, ev, sput, sputO, binK, binI, unK, builtinK, pickK, Nat.reduceBEq, Nat.reduceAdd, Int.reduceBEq, Int.reduceBNe, Int.reduceLT, aPost, resK, tup, tyf, if_true]
    refine hZ [(0, v), (1, .func (.func g) #[] cap), (4, .int .i64 0), (6, v), (7, vint ps.length), (8, vint ps.length), (9, .bool false)] _ _ ?_ (by simp (maxSteps := 2000000) only [↓aw_region, ↓aw_skip, ↓aw_seq, ↓aw_block, ↓aw_exit, ↓aw_ret, ↓sops_nil, ↓sops_go, ↓dops_nil, ↓dopsX_nil, ↓dopsR_nil, ↓vdn, vup, extr_20, extr_21, extr_30, extr_31, extr_32, List.map_cons, List.map_nil, cond_true, cond_false, aop, aThen, aBlock, argEnv, ev, sput, sputO, binK, binI, unK, builtinK, pickK, Nat.reduceBEq, Nat.reduceAdd, Int.reduceBEq, Int.reduceBNe, Int.reduceLT, aPost, resK, tup, tyf])
    clear hZ
    try clear Z
    refine aw_aws ?_
    simp (maxSteps := 2000000) only [s115, ↓aw_region, ↓aw_skip, ↓aw_seq, ↓aw_block, ↓aw_exit, ↓aw_ret, ↓sops_nil, ↓sops_go, ↓dops_nil, ↓dopsX_nil, ↓dopsR_nil, ↓vdn, vup, extr_20, extr_21, extr_30, extr_31, extr_32, List.map_cons, List.map_nil, cond_true, cond_false, aop, aThen, aBlock, argEnv, ev, sput, sputO, binK, binI, unK, builtinK, pickK, Nat.reduceBEq, Nat.reduceAdd, Int.reduceBEq, Int.reduceBNe, Int.reduceLT, aPost, resK, tup, tyf]
    rw [List.take_length] at hall
    exact ⟨_, rfl, by rw [show ps.any f = false from List.any_eq_false.2 fun p hp => by simp [hall p hp]]; decide⟩

theorem s98_callW [Tabs Try.prog] {args : List Value} {h : Heap} {Q : Value → Heap → Prop} (hsz : args.length ≤ 9) (hk : AWS Try.prog 9 s98 (aPost Try.prog [.tmp 4] Q) (argEnv 0 args) h) : ACall Try.prog 98 args h Q :=
  acall_w Try.func98 rfl (enters_of Try.func98 (by kernel_rfl) rfl) rfl rfl (by decide) s98_strip s98_ok hsz hk
theorem hasB_call [Tabs prog] {h : Heap} {v : Value} {ps : List (Int × Int)} {g : FuncId} {cap : Array Value} {f : Int × Int → Bool} (hv : PairSl h v ps) (hl : ps.length < 9223372036854775808)
    (hc : ∀ h', Ext (fun _ => False) h h' → ∀ p ∈ ps, APure prog g ([.agg #[vint p.1, vint p.2]] ++ cap.toList) h' (.bool (f p))) : APure prog 98 [v, .func (.func g) #[] cap] h (.bool (ps.any f)) := by
  refine s98_callW (by simp) ?_
  refine aw_aws ?_
  simp (maxSteps := 2000000) only [s98, ↓aw_region, ↓aw_skip, ↓aw_seq, ↓aw_block, ↓aw_exit, ↓aw_ret, ↓sops_nil, ↓sops_go, ↓dops_nil, ↓dopsX_nil, ↓dopsR_nil, ↓vdn, vup, extr_20, extr_21, extr_30, extr_31, extr_32, List.map_cons, List.map_nil, cond_true, cond_false, aop, aThen, aBlock, argEnv, ev, sput, sputO, binK, binI, unK, builtinK, pickK, Nat.reduceBEq, Nat.reduceAdd, Int.reduceBEq, Int.reduceBNe, Int.reduceLT, aPost, resK, tup, tyf, callK, List.nil_append, List.append_nil, List.toList_toArray, List.cons_append]
  refine (idxB_call hv hl hc).mono ?_
  rintro _ h1 ⟨rfl, i, rfl, hi⟩
  simp (maxSteps := 2000000) only [s98, ↓aw_region, ↓aw_skip, ↓aw_seq, ↓aw_block, ↓aw_exit, ↓aw_ret, ↓sops_nil, ↓sops_go, ↓dops_nil, ↓dopsX_nil, ↓dopsR_nil, ↓vdn, vup, extr_20, extr_21, extr_30, extr_31, extr_32, List.map_cons, List.map_nil, cond_true, cond_false, aop, aThen, aBlock, argEnv, ev, sput, sputO, binK, binI, unK, builtinK, pickK, Nat.reduceBEq, Nat.reduceAdd, Int.reduceBEq, Int.reduceBNe, Int.reduceLT, aPost, resK, tup, tyf, ge_iff_le, hi]

theorem s99_callW [Tabs Try.prog] {args : List Value} {h : Heap} {Q : Value → Heap → Prop} (hsz : args.length ≤ 9) (hk : AWS Try.prog 9 s99 (aPost Try.prog [.tmp 3] Q) (argEnv 0 args) h) : ACall Try.prog 99 args h Q :=
  acall_w Try.func99 rfl (enters_of Try.func99 (by kernel_rfl) rfl) rfl rfl (by decide) s99_strip s99_ok hsz hk
theorem sameB_call [Tabs prog] {h : Heap} {b : Nat} {x y e c : Int} (hb : h[b]? = some (bB e c)) : APure prog 99 [.agg #[vint x, vint y], .pointer (some ⟨b, 0, none⟩)] h (.bool (x == e)) := by
  refine ACall.forget (Low.bool _) ?_
  refine s99_callW (by simp) ?_
  refine aw_aws ?_
  simp (maxSteps := 2000000) only [s99, ↓aw_region, ↓aw_skip, ↓aw_seq, ↓aw_block, ↓aw_exit, ↓aw_ret, ↓sops_nil, ↓sops_go, ↓dops_nil, ↓dopsX_nil, ↓dopsR_nil, ↓vdn, vup, extr_20, extr_21, extr_30, extr_31, extr_32, List.map_cons, List.map_nil, cond_true, cond_false, aop, aThen, aBlock, argEnv, ev, sput, sputO, binK, binI, unK, builtinK, pickK, Nat.reduceBEq, Nat.reduceAdd, Int.reduceBEq, Int.reduceBNe, Int.reduceLT, aPost, resK, tup, tyf, boxB, newPtr, bA0, loadB0 (get_new h _), loadB0 (get_old hb _)]
  exact Ext.app _ _ _

/-- A bet on n worlds. -/
def okB (n : Nat) (p : Int × Int) : Bool := decide (0 ≤ p.1) && (decide (p.1 < 2 ^ n) && (decide (0 ≤ p.2) && decide (p.2 ≤ 12)))
/-- Each is a bet, none ahead is on the same event. -/
def validTo (n : Nat) (l : List (Int × Int)) (k : Nat) : Bool := (List.range k).all fun i => okB n (l.getD i (0, 0)) && !(l.take i).any fun x => x.1 == (l.getD i (0, 0)).1
def validB (n : Int) (l : List (Int × Int)) : Bool := decide (2 ≤ n) && (decide (n ≤ 5) && (decide (1 ≤ l.length) && (decide (l.length ≤ 6) && validTo n.toNat l l.length)))
theorem validTo_succ (n : Nat) (l : List (Int × Int)) (k : Nat) : validTo n l (k + 1) = (validTo n l k && (okB n (l.getD k (0, 0)) && !(l.take k).any fun x => x.1 == (l.getD k (0, 0)).1)) := by
  rw [validTo, List.range_succ, List.all_append]; simp [validTo]
theorem validTo_false {n : Nat} {l : List (Int × Int)} {k : Nat} (hk : k < l.length) (h : (okB n (l.getD k (0, 0)) && !(l.take k).any fun x => x.1 == (l.getD k (0, 0)).1) = false) : validTo n l l.length = false := by
  rw [validTo, List.all_eq_false]
  exact ⟨k, List.mem_range.2 hk, by simp only [h]; decide⟩

set_option maxHeartbeats 2000000
theorem s58_callW [Tabs Try.prog] {args : List Value} {h : Heap} {Q : Value → Heap → Prop} (hsz : args.length ≤ 61) (hk : AWS Try.prog 61 s58 (aPost Try.prog [.tmp 2] Q) (argEnv 0 args) h) : ACall Try.prog 58 args h Q :=
  acall_w Try.func58 rfl (enters_of Try.func58 (by kernel_rfl) rfl) rfl rfl (by decide) s58_strip s58_ok hsz hk
theorem valid_call [Tabs prog] {h : Heap} {n : Int} {v : Value} {l : List (Int × Int)} (hv : PairSl h v l) (hl : l.length < 9223372036854775808) : APure prog 58 [.agg #[vint n, v]] h (.bool (validB n l)) := by
  obtain ⟨H, hH⟩ : ∃ H, H = h ++ [Blk.cells [vint n, v] 86 false] := ⟨_, rfl⟩
  have hE : Ext (fun _ => False) h H := by rw [hH]; exact Ext.app _ _ _
  have b1 : H[h.length]? = some (.cells [vint n, v] 86 false) := by rw [hH]; exact get_new _ _
  have hvH := hv.ext hE
  refine ACall.forget (Low.bool _) ?_
  refine s58_callW (by simp) ?_
  simp only [s58]
  refine aws_cut fun N9 hN9 => ?_
  simp (maxSteps := 2000000) only [s58, ↓aw_region, ↓aw_skip, ↓aw_seq, ↓aw_block, ↓aw_exit, ↓aw_ret, ↓sops_nil, ↓sops_go, ↓dops_nil, ↓dopsX_nil, ↓dopsR_nil, ↓vdn, vup, extr_20, extr_21, extr_30, extr_31, extr_32, List.map_cons, List.map_nil, cond_true, cond_false, aop, aThen, aBlock, argEnv, ev, sput, sputO, binK, binI, unK, builtinK, pickK, Nat.reduceBEq, Nat.reduceAdd, Int.reduceBEq, Int.reduceBNe, Int.reduceLT, aPost, resK, tup, tyf, boxT, newPtr]
  rw [← hH]
  refine hN9 [(1, .pointer (some ⟨h.length, 0, none⟩)), (2, .bool false)] _ _ ?_ (by simp (maxSteps := 2000000) only [↓aw_region, ↓aw_skip, ↓aw_seq, ↓aw_block, ↓aw_exit, ↓aw_ret, ↓sops_nil, ↓sops_go, ↓dops_nil, ↓dopsX_nil, ↓dopsR_nil, ↓vdn, vup, extr_20, extr_21, extr_30, extr_31, extr_32, List.map_cons, List.map_nil, cond_true, cond_false, aop, aThen, aBlock, argEnv, ev, sput, sputO, binK, binI, unK, builtinK, pickK, Nat.reduceBEq, Nat.reduceAdd, Int.reduceBEq, Int.reduceBNe, Int.reduceLT, aPost, resK, tup, tyf])
  clear hN9
  try clear N9
  by_cases h1 : n < 2
  · refine aw_aws ?_
    simp (maxSteps := 2000000) only [s58, ↓aw_region, ↓aw_skip, ↓aw_seq, ↓aw_block, ↓aw_exit, ↓aw_ret, ↓sops_nil, ↓sops_go, ↓dops_nil, ↓dopsX_nil, ↓dopsR_nil, ↓vdn, vup, extr_20, extr_21, extr_30, extr_31, extr_32, List.map_cons, List.map_nil, cond_true, cond_false, aop, aThen, aBlock, argEnv, ev, sput, sputO, binK, binI, unK, builtinK, pickK, Nat.reduceBEq, Nat.reduceAdd, Int.reduceBEq, Int.reduceBNe, Int.reduceLT, aPost, resK, tup, tyf, tA0, loadT0 b1, h1]
    rw [validB, show decide (2 ≤ n) = false by simp; omega, Bool.false_and]
    exact ⟨rfl, hE⟩
  by_cases h2 : n > 5
  · refine aw_aws ?_
    simp (maxSteps := 2000000) only [s58, ↓aw_region, ↓aw_skip, ↓aw_seq, ↓aw_block, ↓aw_exit, ↓aw_ret, ↓sops_nil, ↓sops_go, ↓dops_nil, ↓dopsX_nil, ↓dopsR_nil, ↓vdn, vup, extr_20, extr_21, extr_30, extr_31, extr_32, List.map_cons, List.map_nil, cond_true, cond_false, aop, aThen, aBlock, argEnv, ev, sput, sputO, binK, binI, unK, builtinK, pickK, Nat.reduceBEq, Nat.reduceAdd, Int.reduceBEq, Int.reduceBNe, Int.reduceLT, aPost, resK, tup, tyf, tA0, loadT0 b1, h1, h2]
    rw [validB, show decide (n ≤ 5) = false by simp; omega, Bool.false_and, Bool.and_false]
    exact ⟨rfl, hE⟩
  by_cases h3 : (l.length : Int) < 1
  · refine aw_aws ?_
    simp (maxSteps := 2000000) only [s58, ↓aw_region, ↓aw_skip, ↓aw_seq, ↓aw_block, ↓aw_exit, ↓aw_ret, ↓sops_nil, ↓sops_go, ↓dops_nil, ↓dopsX_nil, ↓dopsR_nil, ↓vdn, vup, extr_20, extr_21, extr_30, extr_31, extr_32, List.map_cons, List.map_nil, cond_true, cond_false, aop, aThen, aBlock, argEnv, ev, sput, sputO, binK, binI, unK, builtinK, pickK, Nat.reduceBEq, Nat.reduceAdd, Int.reduceBEq, Int.reduceBNe, Int.reduceLT, aPost, resK, tup, tyf, tA0, tA1, loadT0 b1, loadT1 b1, h1, h2, hvH.len, h3]
    rw [validB, show decide (1 ≤ l.length) = false by rw [decide_eq_false_iff_not]; omega, Bool.false_and, Bool.and_false, Bool.and_false]
    exact ⟨rfl, hE⟩
  by_cases h4 : (l.length : Int) > 6
  · refine aw_aws ?_
    simp (maxSteps := 2000000) only [s58, ↓aw_region, ↓aw_skip, ↓aw_seq, ↓aw_block, ↓aw_exit, ↓aw_ret, ↓sops_nil, ↓sops_go, ↓dops_nil, ↓dopsX_nil, ↓dopsR_nil, ↓vdn, vup, extr_20, extr_21, extr_30, extr_31, extr_32, List.map_cons, List.map_nil, cond_true, cond_false, aop, aThen, aBlock, argEnv, ev, sput, sputO, binK, binI, unK, builtinK, pickK, Nat.reduceBEq, Nat.reduceAdd, Int.reduceBEq, Int.reduceBNe, Int.reduceLT, aPost, resK, tup, tyf, tA0, tA1, loadT0 b1, loadT1 b1, h1, h2, hvH.len, h3, h4]
    rw [validB, show decide (l.length ≤ 6) = false by simp; omega, Bool.false_and, Bool.and_false, Bool.and_false, Bool.and_false]
    exact ⟨rfl, hE⟩
  obtain ⟨m, rfl⟩ : ∃ m : Nat, n = m := ⟨n.toNat, by omega⟩
  have hval : validB m l = validTo m l l.length := by
    rw [validB, show decide ((2 : Int) ≤ m) = true by simp; omega, show decide ((m : Int) ≤ 5) = true by simp; omega, show decide (1 ≤ l.length) = true by rw [decide_eq_true_eq]; omega, show decide (l.length ≤ 6) = true by simp; omega]
    simp
  rw [hval]
  have hpm : (2 : Nat) ^ m ≤ 2 ^ 5 := Nat.pow_le_pow_right (by decide) (by omega)
  refine aws_cutW fun Y hY => ?_
  refine aws_cut fun N10 hN10 => ?_
  simp (maxSteps := 2000000) only [s58, ↓aw_region, ↓aw_skip, ↓aw_seq, ↓aw_block, ↓aw_exit, ↓aw_ret, ↓sops_nil, ↓sops_go, ↓dops_nil, ↓dopsX_nil, ↓dopsR_nil, ↓vdn, vup, extr_20, extr_21, extr_30, extr_31, extr_32, List.map_cons, List.map_nil, cond_true, cond_false, aop, aThen, aBlock, argEnv, ev, sput, sputO, binK, binI, unK, builtinK, pickK, Nat.reduceBEq, Nat.reduceAdd, Int.reduceBEq, Int.reduceBNe, Int.reduceLT, aPost, resK, tup, tyf, tA0, tA1, loadT0 b1, loadT1 b1, h1, h2, hvH.len, h3, h4]
  refine hN10 [(1, .pointer (some ⟨h.length, 0, none⟩)), (2, .bool false), (24, .bool false)] _ _ ?_ (by simp (maxSteps := 2000000) only [↓aw_region, ↓aw_skip, ↓aw_seq, ↓aw_block, ↓aw_exit, ↓aw_ret, ↓sops_nil, ↓sops_go, ↓dops_nil, ↓dopsX_nil, ↓dopsR_nil, ↓vdn, vup, extr_20, extr_21, extr_30, extr_31, extr_32, List.map_cons, List.map_nil, cond_true, cond_false, aop, aThen, aBlock, argEnv, ev, sput, sputO, binK, binI, unK, builtinK, pickK, Nat.reduceBEq, Nat.reduceAdd, Int.reduceBEq, Int.reduceBNe, Int.reduceLT, aPost, resK, tup, tyf])
  clear hN10
  try clear N10
  refine aws_false rfl ?_
  refine aw_aws ?_
  simp (maxSteps := 2000000) only [s58, ↓aw_region, ↓aw_skip, ↓aw_seq, ↓aw_block, ↓aw_exit, ↓aw_ret, ↓sops_nil, ↓sops_go, ↓dops_nil, ↓dopsX_nil, ↓dopsR_nil, ↓vdn, vup, extr_20, extr_21, extr_30, extr_31, extr_32, List.map_cons, List.map_nil, cond_true, cond_false, aop, aThen, aBlock, argEnv, ev, sput, sputO, binK, binI, unK, builtinK, pickK, Nat.reduceBEq, Nat.reduceAdd, Int.reduceBEq, Int.reduceBNe, Int.reduceLT, aPost, resK, tup, tyf]
  refine hY [(1, .pointer (some ⟨h.length, 0, none⟩)), (2, .bool false), (24, .bool false)] _ _ ?_ (by simp (maxSteps := 2000000) only [↓aw_region, ↓aw_skip, ↓aw_seq, ↓aw_block, ↓aw_exit, ↓aw_ret, ↓sops_nil, ↓sops_go, ↓dops_nil, ↓dopsX_nil, ↓dopsR_nil, ↓vdn, vup, extr_20, extr_21, extr_30, extr_31, extr_32, List.map_cons, List.map_nil, cond_true, cond_false, aop, aThen, aBlock, argEnv, ev, sput, sputO, binK, binI, unK, builtinK, pickK, Nat.reduceBEq, Nat.reduceAdd, Int.reduceBEq, Int.reduceBNe, Int.reduceLT, aPost, resK, tup, tyf])
  clear hY
  try clear Y
  refine aws_cutW fun Z hZ => ?_
  refine aws_cut fun N11 hN11 => ?_
  simp (maxSteps := 2000000) only [s58, ↓aw_region, ↓aw_skip, ↓aw_seq, ↓aw_block, ↓aw_exit, ↓aw_ret, ↓sops_nil, ↓sops_go, ↓dops_nil, ↓dopsX_nil, ↓dopsR_nil, ↓vdn, vup, extr_20, extr_21, extr_30, extr_31, extr_32, List.map_cons, List.map_nil, cond_true, cond_false, aop, aThen, aBlock, argEnv, ev, sput, sputO, binK, binI, unK, builtinK, pickK, Nat.reduceBEq, Nat.reduceAdd, Int.reduceBEq, Int.reduceBNe, Int.reduceLT, aPost, resK, tup, tyf, tA1, loadT1 b1, hvH.len]
  refine hN11 [(1, .pointer (some ⟨h.length, 0, none⟩)), (2, .bool false), (24, .bool false), (26, v), (27, vint l.length), (28, .int .i64 0)] _ _ ?_ (by simp (maxSteps := 2000000) only [↓aw_region, ↓aw_skip, ↓aw_seq, ↓aw_block, ↓aw_exit, ↓aw_ret, ↓sops_nil, ↓sops_go, ↓dops_nil, ↓dopsX_nil, ↓dopsR_nil, ↓vdn, vup, extr_20, extr_21, extr_30, extr_31, extr_32, List.map_cons, List.map_nil, cond_true, cond_false, aop, aThen, aBlock, argEnv, ev, sput, sputO, binK, binI, unK, builtinK, pickK, Nat.reduceBEq, Nat.reduceAdd, Int.reduceBEq, Int.reduceBNe, Int.reduceLT, aPost, resK, tup, tyf])
  clear hN11
  try clear N11
  refine aws_block ?_
  refine aws_hide fun Q hQ => ?_
  refine aw_loopW (γ := Nat × Heap) (fun s => s.1 ≤ l.length ∧ validTo m l s.1 = true ∧ Ext (fun _ => False) H s.2)
    (fun s => ([(1, .pointer (some ⟨h.length, 0, none⟩)), (2, .bool false), (24, .bool false), (26, v), (27, vint l.length), (28, vint (s.1 : Nat))], s.2)) (fun s => l.length - s.1) (0, H) ⟨Nat.zero_le _, rfl, Ext.refl _ _⟩ (by simp (maxSteps := 2000000) only [↓aw_region, ↓aw_skip, ↓aw_seq, ↓aw_block, ↓aw_exit, ↓aw_ret, ↓sops_nil, ↓sops_go, ↓dops_nil, ↓dopsX_nil, ↓dopsR_nil, ↓vdn, vup, extr_20, extr_21, extr_30, extr_31, extr_32, List.map_cons, List.map_nil, cond_true, cond_false, aop, aThen, aBlock, argEnv, ev, sput, sputO, binK, binI, unK, builtinK, pickK, Nat.reduceBEq, Nat.reduceAdd, Int.reduceBEq, Int.reduceBNe, Int.reduceLT, aPost, resK, tup, tyf, Int.natCast_zero]) rfl ?_
  rintro ⟨k, hp⟩ ⟨hk, hall, hEp⟩
  simp only at hk hall hEp
  refine aws_hide fun Q2 hQ2 => ?_
  simp only [l58_0]
  by_cases hin : (k : Int) < l.length
  · have hk' : k < l.length := by omega
    have hvp := hvH.ext hEp
    obtain ⟨⟨x, y⟩, hxy⟩ : ∃ p, l.getD k (0, 0) = p := ⟨_, rfl⟩
    have hmem : (x, y) ∈ l := hxy ▸ getD_mem hk'
    obtain ⟨G, hG⟩ : ∃ G, G = hp ++ [bB x y] := ⟨_, rfl⟩
    have c4 : G[hp.length]? = some (bB x y) := by rw [hG]; exact get_new _ _
    have hEG : Ext (fun _ => False) H G := by rw [hG]; exact hEp.trans (Ext.app _ _ _)
    have c1 : G[h.length]? = some (.cells [vint (m : Int), v] 86 false) := (hEG.2 _ (get_lt b1) id).trans b1
    have hvG := hvH.ext hEG
    have vfalse : (okB m (x, y) && !(l.take k).any fun z => z.1 == x) = false → validTo m l l.length = false := fun hf => validTo_false hk' (by rw [hxy]; exact hf)
    have ret0 : (okB m (x, y) && !(l.take k).any fun z => z.1 == x) = false → ∀ e, sget e 2 = .bool false → Q2 .ret e G := by
      intro hf e he
      refine hQ2 _ _ _ (hQ _ _ _ ?_)
      simp (maxSteps := 2000000) only [s58, ↓aw_region, ↓aw_skip, ↓aw_seq, ↓aw_block, ↓aw_exit, ↓aw_ret, ↓sops_nil, ↓sops_go, ↓dops_nil, ↓dopsX_nil, ↓dopsR_nil, ↓vdn, vup, extr_20, extr_21, extr_30, extr_31, extr_32, List.map_cons, List.map_nil, cond_true, cond_false, aop, aThen, aBlock, argEnv, ev, sput, sputO, binK, binI, unK, builtinK, pickK, Nat.reduceBEq, Nat.reduceAdd, Int.reduceBEq, Int.reduceBNe, Int.reduceLT, aPost, resK, tup, tyf, he, vfalse hf]
      exact hE.trans hEG
    have hsh : shlV .i64 1 (m : Int) = 2 ^ m := shl1 (by omega)
    refine aws_cut fun N12 hN12 => ?_
    simp (maxSteps := 2000000) only [s58, ↓aw_region, ↓aw_skip, ↓aw_seq, ↓aw_block, ↓aw_exit, ↓aw_ret, ↓sops_nil, ↓sops_go, ↓dops_nil, ↓dopsX_nil, ↓dopsR_nil, ↓vdn, vup, extr_20, extr_21, extr_30, extr_31, extr_32, List.map_cons, List.map_nil, cond_true, cond_false, aop, aThen, aBlock, argEnv, ev, sput, sputO, binK, binI, unK, builtinK, pickK, Nat.reduceBEq, Nat.reduceAdd, Int.reduceBEq, Int.reduceBNe, Int.reduceLT, aPost, resK, tup, tyf, hin]
    refine hN12 [(1, .pointer (some ⟨h.length, 0, none⟩)), (2, .bool false), (24, .bool false), (26, v), (27, vint l.length), (28, vint (k : Nat)), (29, .bool true)] _ _ ?_ (by simp (maxSteps := 2000000) only [↓aw_region, ↓aw_skip, ↓aw_seq, ↓aw_block, ↓aw_exit, ↓aw_ret, ↓sops_nil, ↓sops_go, ↓dops_nil, ↓dopsX_nil, ↓dopsR_nil, ↓vdn, vup, extr_20, extr_21, extr_30, extr_31, extr_32, List.map_cons, List.map_nil, cond_true, cond_false, aop, aThen, aBlock, argEnv, ev, sput, sputO, binK, binI, unK, builtinK, pickK, Nat.reduceBEq, Nat.reduceAdd, Int.reduceBEq, Int.reduceBNe, Int.reduceLT, aPost, resK, tup, tyf])
    clear hN12
    try clear N12
    refine aws_cut fun N13 hN13 => ?_
    simp (maxSteps := 2000000) only [s58, ↓aw_region, ↓aw_skip, ↓aw_seq, ↓aw_block, ↓aw_exit, ↓aw_ret, ↓sops_nil, ↓sops_go, ↓dops_nil, ↓dopsX_nil, ↓dopsR_nil, ↓vdn, vup, extr_20, extr_21, extr_30, extr_31, extr_32, List.map_cons, List.map_nil, cond_true, cond_false, aop, aThen, aBlock, argEnv, ev, sput, sputO, binK, binI, unK, builtinK, pickK, Nat.reduceBEq, Nat.reduceAdd, Int.reduceBEq, Int.reduceBNe, Int.reduceLT, aPost, resK, tup, tyf]
    refine hN13 [(1, .pointer (some ⟨h.length, 0, none⟩)), (2, .bool false), (24, .bool false), (26, v), (27, vint l.length), (28, vint (k : Nat))] _ _ ?_ (by simp (maxSteps := 2000000) only [↓aw_region, ↓aw_skip, ↓aw_seq, ↓aw_block, ↓aw_exit, ↓aw_ret, ↓sops_nil, ↓sops_go, ↓dops_nil, ↓dopsX_nil, ↓dopsR_nil, ↓vdn, vup, extr_20, extr_21, extr_30, extr_31, extr_32, List.map_cons, List.map_nil, cond_true, cond_false, aop, aThen, aBlock, argEnv, ev, sput, sputO, binK, binI, unK, builtinK, pickK, Nat.reduceBEq, Nat.reduceAdd, Int.reduceBEq, Int.reduceBNe, Int.reduceLT, aPost, resK, tup, tyf])
    clear hN13
    try clear N13
    refine aws_cutW fun B hB => ?_
    refine aws_block ?_
    refine aws_cut fun N14 hN14 => ?_
    simp (maxSteps := 2000000) only [s58, ↓aw_region, ↓aw_skip, ↓aw_seq, ↓aw_block, ↓aw_exit, ↓aw_ret, ↓sops_nil, ↓sops_go, ↓dops_nil, ↓dopsX_nil, ↓dopsR_nil, ↓vdn, vup, extr_20, extr_21, extr_30, extr_31, extr_32, List.map_cons, List.map_nil, cond_true, cond_false, aop, aThen, aBlock, argEnv, ev, sput, sputO, binK, binI, unK, builtinK, pickK, Nat.reduceBEq, Nat.reduceAdd, Int.reduceBEq, Int.reduceBNe, Int.reduceLT, aPost, resK, tup, tyf, hvp.idx el_30 esz_92 hk', hvp.load shp_92 hk', hxy, allocK, newPtr, zero_92, storeBt (get_new hp zB) rfl, set_new]
    rw [← hG]
    refine hN14 [(1, .pointer (some ⟨h.length, 0, none⟩)), (2, .bool false), (3, vint (k : Nat)), (4, .pointer (some ⟨hp.length, 0, none⟩)), (24, .bool false), (26, v), (27, vint l.length), (28, vint (k : Nat))] _ _ ?_ (by simp (maxSteps := 2000000) only [↓aw_region, ↓aw_skip, ↓aw_seq, ↓aw_block, ↓aw_exit, ↓aw_ret, ↓sops_nil, ↓sops_go, ↓dops_nil, ↓dopsX_nil, ↓dopsR_nil, ↓vdn, vup, extr_20, extr_21, extr_30, extr_31, extr_32, List.map_cons, List.map_nil, cond_true, cond_false, aop, aThen, aBlock, argEnv, ev, sput, sputO, binK, binI, unK, builtinK, pickK, Nat.reduceBEq, Nat.reduceAdd, Int.reduceBEq, Int.reduceBNe, Int.reduceLT, aPost, resK, tup, tyf])
    clear hN14
    try clear N14
    refine aws_cutW fun C hC => ?_
    refine aws_cut fun N15 hN15 => ?_
    simp only [q58_6]
    refine aw_drawX [] (by kernel_rfl) (by kernel_rfl) (by kernel_rfl) (by kernel_rfl) ?_
    by_cases g1 : x < 0
    · simp (maxSteps := 2000000) only [s58, ↓aw_region, ↓aw_skip, ↓aw_seq, ↓aw_block, ↓aw_exit, ↓aw_ret, ↓sops_nil, ↓sops_go, ↓dops_nil, ↓dopsX_nil, ↓dopsR_nil, ↓vdn, vup, extr_20, extr_21, extr_30, extr_31, extr_32, List.map_cons, List.map_nil, cond_true, cond_false, aop, aThen, aBlock, argEnv, ev, sput, sputO, binK, binI, unK, builtinK, pickK, Nat.reduceBEq, Nat.reduceAdd, Int.reduceBEq, Int.reduceBNe, Int.reduceLT, aPost, resK, tup, tyf, bA0, loadB0 c4, g1]
      refine hN15 [(1, .pointer (some ⟨h.length, 0, none⟩)), (2, .bool false), (3, vint (k : Nat)), (4, .pointer (some ⟨hp.length, 0, none⟩)), (24, .bool false), (26, v), (27, vint l.length), (28, vint (k : Nat)), (53, .bool true)] _ _ ?_ (by simp (maxSteps := 2000000) only [↓aw_region, ↓aw_skip, ↓aw_seq, ↓aw_block, ↓aw_exit, ↓aw_ret, ↓sops_nil, ↓sops_go, ↓dops_nil, ↓dopsX_nil, ↓dopsR_nil, ↓vdn, vup, extr_20, extr_21, extr_30, extr_31, extr_32, List.map_cons, List.map_nil, cond_true, cond_false, aop, aThen, aBlock, argEnv, ev, sput, sputO, binK, binI, unK, builtinK, pickK, Nat.reduceBEq, Nat.reduceAdd, Int.reduceBEq, Int.reduceBNe, Int.reduceLT, aPost, resK, tup, tyf])
      clear hN15
      try clear N15
      refine aw_aws ?_
      simp (maxSteps := 2000000) only [s58, ↓aw_region, ↓aw_skip, ↓aw_seq, ↓aw_block, ↓aw_exit, ↓aw_ret, ↓sops_nil, ↓sops_go, ↓dops_nil, ↓dopsX_nil, ↓dopsR_nil, ↓vdn, vup, extr_20, extr_21, extr_30, extr_31, extr_32, List.map_cons, List.map_nil, cond_true, cond_false, aop, aThen, aBlock, argEnv, ev, sput, sputO, binK, binI, unK, builtinK, pickK, Nat.reduceBEq, Nat.reduceAdd, Int.reduceBEq, Int.reduceBNe, Int.reduceLT, aPost, resK, tup, tyf]
      exact ret0 (by simp [okB]; omega) _ rfl
    by_cases g2 : x ≥ 2 ^ m
    · simp (maxSteps := 2000000) only [s58, ↓aw_region, ↓aw_skip, ↓aw_seq, ↓aw_block, ↓aw_exit, ↓aw_ret, ↓sops_nil, ↓sops_go, ↓dops_nil, ↓dopsX_nil, ↓dopsR_nil, ↓vdn, vup, extr_20, extr_21, extr_30, extr_31, extr_32, List.map_cons, List.map_nil, cond_true, cond_false, aop, aThen, aBlock, argEnv, ev, sput, sputO, binK, binI, unK, builtinK, pickK, Nat.reduceBEq, Nat.reduceAdd, Int.reduceBEq, Int.reduceBNe, Int.reduceLT, aPost, resK, tup, tyf, bA0, loadB0 c4, g1, tA0, loadT0 c1, hsh, Int.natCast_nonneg, g2]
      refine hN15 [(1, .pointer (some ⟨h.length, 0, none⟩)), (2, .bool false), (3, vint (k : Nat)), (4, .pointer (some ⟨hp.length, 0, none⟩)), (24, .bool false), (26, v), (27, vint l.length), (28, vint (k : Nat)), (53, .bool true)] _ _ ?_ (by simp (maxSteps := 2000000) only [↓aw_region, ↓aw_skip, ↓aw_seq, ↓aw_block, ↓aw_exit, ↓aw_ret, ↓sops_nil, ↓sops_go, ↓dops_nil, ↓dopsX_nil, ↓dopsR_nil, ↓vdn, vup, extr_20, extr_21, extr_30, extr_31, extr_32, List.map_cons, List.map_nil, cond_true, cond_false, aop, aThen, aBlock, argEnv, ev, sput, sputO, binK, binI, unK, builtinK, pickK, Nat.reduceBEq, Nat.reduceAdd, Int.reduceBEq, Int.reduceBNe, Int.reduceLT, aPost, resK, tup, tyf])
      clear hN15
      try clear N15
      refine aw_aws ?_
      simp (maxSteps := 2000000) only [s58, ↓aw_region, ↓aw_skip, ↓aw_seq, ↓aw_block, ↓aw_exit, ↓aw_ret, ↓sops_nil, ↓sops_go, ↓dops_nil, ↓dopsX_nil, ↓dopsR_nil, ↓vdn, vup, extr_20, extr_21, extr_30, extr_31, extr_32, List.map_cons, List.map_nil, cond_true, cond_false, aop, aThen, aBlock, argEnv, ev, sput, sputO, binK, binI, unK, builtinK, pickK, Nat.reduceBEq, Nat.reduceAdd, Int.reduceBEq, Int.reduceBNe, Int.reduceLT, aPost, resK, tup, tyf]
      exact ret0 (by simp [okB]; omega) _ rfl
    by_cases g3 : y < 0
    · simp (maxSteps := 2000000) only [s58, ↓aw_region, ↓aw_skip, ↓aw_seq, ↓aw_block, ↓aw_exit, ↓aw_ret, ↓sops_nil, ↓sops_go, ↓dops_nil, ↓dopsX_nil, ↓dopsR_nil, ↓vdn, vup, extr_20, extr_21, extr_30, extr_31, extr_32, List.map_cons, List.map_nil, cond_true, cond_false, aop, aThen, aBlock, argEnv, ev, sput, sputO, binK, binI, unK, builtinK, pickK, Nat.reduceBEq, Nat.reduceAdd, Int.reduceBEq, Int.reduceBNe, Int.reduceLT, aPost, resK, tup, tyf, bA0, bA1, loadB0 c4, loadB1 c4, g1, tA0, loadT0 c1, hsh, Int.natCast_nonneg, g2, g3]
      refine hN15 [(1, .pointer (some ⟨h.length, 0, none⟩)), (2, .bool false), (3, vint (k : Nat)), (4, .pointer (some ⟨hp.length, 0, none⟩)), (24, .bool false), (26, v), (27, vint l.length), (28, vint (k : Nat)), (53, .bool true)] _ _ ?_ (by simp (maxSteps := 2000000) only [↓aw_region, ↓aw_skip, ↓aw_seq, ↓aw_block, ↓aw_exit, ↓aw_ret, ↓sops_nil, ↓sops_go, ↓dops_nil, ↓dopsX_nil, ↓dopsR_nil, ↓vdn, vup, extr_20, extr_21, extr_30, extr_31, extr_32, List.map_cons, List.map_nil, cond_true, cond_false, aop, aThen, aBlock, argEnv, ev, sput, sputO, binK, binI, unK, builtinK, pickK, Nat.reduceBEq, Nat.reduceAdd, Int.reduceBEq, Int.reduceBNe, Int.reduceLT, aPost, resK, tup, tyf])
      clear hN15
      try clear N15
      refine aw_aws ?_
      simp (maxSteps := 2000000) only [s58, ↓aw_region, ↓aw_skip, ↓aw_seq, ↓aw_block, ↓aw_exit, ↓aw_ret, ↓sops_nil, ↓sops_go, ↓dops_nil, ↓dopsX_nil, ↓dopsR_nil, ↓vdn, vup, extr_20, extr_21, extr_30, extr_31, extr_32, List.map_cons, List.map_nil, cond_true, cond_false, aop, aThen, aBlock, argEnv, ev, sput, sputO, binK, binI, unK, builtinK, pickK, Nat.reduceBEq, Nat.reduceAdd, Int.reduceBEq, Int.reduceBNe, Int.reduceLT, aPost, resK, tup, tyf]
      exact ret0 (by simp [okB]; omega) _ rfl
    by_cases g4 : y > 12
    · simp (maxSteps := 2000000) only [s58, ↓aw_region, ↓aw_skip, ↓aw_seq, ↓aw_block, ↓aw_exit, ↓aw_ret, ↓sops_nil, ↓sops_go, ↓dops_nil, ↓dopsX_nil, ↓dopsR_nil, ↓vdn, vup, extr_20, extr_21, extr_30, extr_31, extr_32, List.map_cons, List.map_nil, cond_true, cond_false, aop, aThen, aBlock, argEnv, ev, sput, sputO, binK, binI, unK, builtinK, pickK, Nat.reduceBEq, Nat.reduceAdd, Int.reduceBEq, Int.reduceBNe, Int.reduceLT, aPost, resK, tup, tyf, bA0, bA1, loadB0 c4, loadB1 c4, g1, tA0, loadT0 c1, hsh, Int.natCast_nonneg, g2, g3, g4]
      refine hN15 [(1, .pointer (some ⟨h.length, 0, none⟩)), (2, .bool false), (3, vint (k : Nat)), (4, .pointer (some ⟨hp.length, 0, none⟩)), (24, .bool false), (26, v), (27, vint l.length), (28, vint (k : Nat)), (53, .bool true)] _ _ ?_ (by simp (maxSteps := 2000000) only [↓aw_region, ↓aw_skip, ↓aw_seq, ↓aw_block, ↓aw_exit, ↓aw_ret, ↓sops_nil, ↓sops_go, ↓dops_nil, ↓dopsX_nil, ↓dopsR_nil, ↓vdn, vup, extr_20, extr_21, extr_30, extr_31, extr_32, List.map_cons, List.map_nil, cond_true, cond_false, aop, aThen, aBlock, argEnv, ev, sput, sputO, binK, binI, unK, builtinK, pickK, Nat.reduceBEq, Nat.reduceAdd, Int.reduceBEq, Int.reduceBNe, Int.reduceLT, aPost, resK, tup, tyf])
      clear hN15
      try clear N15
      refine aw_aws ?_
      simp (maxSteps := 2000000) only [s58, ↓aw_region, ↓aw_skip, ↓aw_seq, ↓aw_block, ↓aw_exit, ↓aw_ret, ↓sops_nil, ↓sops_go, ↓dops_nil, ↓dopsX_nil, ↓dopsR_nil, ↓vdn, vup, extr_20, extr_21, extr_30, extr_31, extr_32, List.map_cons, List.map_nil, cond_true, cond_false, aop, aThen, aBlock, argEnv, ev, sput, sputO, binK, binI, unK, builtinK, pickK, Nat.reduceBEq, Nat.reduceAdd, Int.reduceBEq, Int.reduceBNe, Int.reduceLT, aPost, resK, tup, tyf]
      exact ret0 (by simp [okB]; omega) _ rfl
    simp (maxSteps := 2000000) only [s58, ↓aw_region, ↓aw_skip, ↓aw_seq, ↓aw_block, ↓aw_exit, ↓aw_ret, ↓sops_nil, ↓sops_go, ↓dops_nil, ↓dopsX_nil, ↓dopsR_nil, ↓vdn, vup, extr_20, extr_21, extr_30, extr_31, extr_32, List.map_cons, List.map_nil, cond_true, cond_false, aop, aThen, aBlock, argEnv, ev, sput, sputO, binK, binI, unK, builtinK, pickK, Nat.reduceBEq, Nat.reduceAdd, Int.reduceBEq, Int.reduceBNe, Int.reduceLT, aPost, resK, tup, tyf, bA0, bA1, loadB0 c4, loadB1 c4, g1, tA0, loadT0 c1, hsh, Int.natCast_nonneg, g2, g3, g4]
    refine hN15 [(1, .pointer (some ⟨h.length, 0, none⟩)), (2, .bool false), (3, vint (k : Nat)), (4, .pointer (some ⟨hp.length, 0, none⟩)), (24, .bool false), (26, v), (27, vint l.length), (28, vint (k : Nat)), (53, .bool false)] _ _ ?_ (by simp (maxSteps := 2000000) only [↓aw_region, ↓aw_skip, ↓aw_seq, ↓aw_block, ↓aw_exit, ↓aw_ret, ↓sops_nil, ↓sops_go, ↓dops_nil, ↓dopsX_nil, ↓dopsR_nil, ↓vdn, vup, extr_20, extr_21, extr_30, extr_31, extr_32, List.map_cons, List.map_nil, cond_true, cond_false, aop, aThen, aBlock, argEnv, ev, sput, sputO, binK, binI, unK, builtinK, pickK, Nat.reduceBEq, Nat.reduceAdd, Int.reduceBEq, Int.reduceBNe, Int.reduceLT, aPost, resK, tup, tyf])
    clear hN15
    try clear N15
    refine aw_aws ?_
    simp (maxSteps := 2000000) only [s58, ↓aw_region, ↓aw_skip, ↓aw_seq, ↓aw_block, ↓aw_exit, ↓aw_ret, ↓sops_nil, ↓sops_go, ↓dops_nil, ↓dopsX_nil, ↓dopsR_nil, ↓vdn, vup, extr_20, extr_21, extr_30, extr_31, extr_32, List.map_cons, List.map_nil, cond_true, cond_false, aop, aThen, aBlock, argEnv, ev, sput, sputO, binK, binI, unK, builtinK, pickK, Nat.reduceBEq, Nat.reduceAdd, Int.reduceBEq, Int.reduceBNe, Int.reduceLT, aPost, resK, tup, tyf]
    refine hC [(1, .pointer (some ⟨h.length, 0, none⟩)), (2, .bool false), (3, vint (k : Nat)), (4, .pointer (some ⟨hp.length, 0, none⟩)), (24, .bool false), (26, v), (27, vint l.length), (28, vint (k : Nat))] _ _ ?_ (by simp (maxSteps := 2000000) only [↓aw_region, ↓aw_skip, ↓aw_seq, ↓aw_block, ↓aw_exit, ↓aw_ret, ↓sops_nil, ↓sops_go, ↓dops_nil, ↓dopsX_nil, ↓dopsR_nil, ↓vdn, vup, extr_20, extr_21, extr_30, extr_31, extr_32, List.map_cons, List.map_nil, cond_true, cond_false, aop, aThen, aBlock, argEnv, ev, sput, sputO, binK, binI, unK, builtinK, pickK, Nat.reduceBEq, Nat.reduceAdd, Int.reduceBEq, Int.reduceBNe, Int.reduceLT, aPost, resK, tup, tyf])
    clear hC
    try clear C
    have hok : okB m (x, y) = true := by simp [okB]; omega
    refine aws_cut fun N16 hN16 => ?_
    simp (maxSteps := 2000000) only [s58, ↓aw_region, ↓aw_skip, ↓aw_seq, ↓aw_block, ↓aw_exit, ↓aw_ret, ↓sops_nil, ↓sops_go, ↓dops_nil, ↓dopsX_nil, ↓dopsR_nil, ↓vdn, vup, extr_20, extr_21, extr_30, extr_31, extr_32, List.map_cons, List.map_nil, cond_true, cond_false, aop, aThen, aBlock, argEnv, ev, sput, sputO, binK, binI, unK, builtinK, pickK, Nat.reduceBEq, Nat.reduceAdd, Int.reduceBEq, Int.reduceBNe, Int.reduceLT, aPost, resK, tup, tyf, tA1, loadT1 c1, Option.map_some, Option.map_none]
    refine hvG.pre el_30 esz_92 (show k ≤ l.length by omega) fun v' hv' => ?_
    have hs := hasB_call (g := 99) (cap := #[.pointer (some ⟨hp.length, 0, none⟩)]) (f := fun z => z.1 == x) hv' (by rw [List.length_take]; omega) (fun h' hx p _ => sameB_call ((hx.2 _ (get_lt c4) id).trans c4))
    simp (maxSteps := 2000000) only [s58, ↓aw_region, ↓aw_skip, ↓aw_seq, ↓aw_block, ↓aw_exit, ↓aw_ret, ↓sops_nil, ↓sops_go, ↓dops_nil, ↓dopsX_nil, ↓dopsR_nil, ↓vdn, vup, extr_20, extr_21, extr_30, extr_31, extr_32, List.map_cons, List.map_nil, cond_true, cond_false, aop, aThen, aBlock, argEnv, ev, sput, sputO, binK, binI, unK, builtinK, pickK, Nat.reduceBEq, Nat.reduceAdd, Int.reduceBEq, Int.reduceBNe, Int.reduceLT, aPost, resK, tup, tyf, callK, List.nil_append, List.append_nil, List.toList_toArray, List.cons_append, List.map_toArray]
    refine (hs).mono ?_
    rintro _ G ⟨rfl, rfl⟩
    refine hN16 [(1, .pointer (some ⟨h.length, 0, none⟩)), (2, .bool false), (3, vint (k : Nat)), (4, .pointer (some ⟨hp.length, 0, none⟩)), (24, .bool false), (26, v), (27, vint l.length), (28, vint (k : Nat)), (59, .bool ((l.take k).any fun z => z.1 == x))] _ _ ?_ (by simp (maxSteps := 2000000) only [↓aw_region, ↓aw_skip, ↓aw_seq, ↓aw_block, ↓aw_exit, ↓aw_ret, ↓sops_nil, ↓sops_go, ↓dops_nil, ↓dopsX_nil, ↓dopsR_nil, ↓vdn, vup, extr_20, extr_21, extr_30, extr_31, extr_32, List.map_cons, List.map_nil, cond_true, cond_false, aop, aThen, aBlock, argEnv, ev, sput, sputO, binK, binI, unK, builtinK, pickK, Nat.reduceBEq, Nat.reduceAdd, Int.reduceBEq, Int.reduceBNe, Int.reduceLT, aPost, resK, tup, tyf])
    clear hN16
    try clear N16
    refine aw_aws ?_
    cases hany : (l.take k).any fun z => z.1 == x with
    | true =>
      simp (maxSteps := 2000000) only [s58, ↓aw_region, ↓aw_skip, ↓aw_seq, ↓aw_block, ↓aw_exit, ↓aw_ret, ↓sops_nil, ↓sops_go, ↓dops_nil, ↓dopsX_nil, ↓dopsR_nil, ↓vdn, vup, extr_20, extr_21, extr_30, extr_31, extr_32, List.map_cons, List.map_nil, cond_true, cond_false, aop, aThen, aBlock, argEnv, ev, sput, sputO, binK, binI, unK, builtinK, pickK, Nat.reduceBEq, Nat.reduceAdd, Int.reduceBEq, Int.reduceBNe, Int.reduceLT, aPost, resK, tup, tyf]
      exact ret0 (by rw [hany]; simp) _ rfl
    | false =>
      simp (maxSteps := 2000000) only [s58, ↓aw_region, ↓aw_skip, ↓aw_seq, ↓aw_block, ↓aw_exit, ↓aw_ret, ↓sops_nil, ↓sops_go, ↓dops_nil, ↓dopsX_nil, ↓dopsR_nil, ↓vdn, vup, extr_20, extr_21, extr_30, extr_31, extr_32, List.map_cons, List.map_nil, cond_true, cond_false, aop, aThen, aBlock, argEnv, ev, sput, sputO, binK, binI, unK, builtinK, pickK, Nat.reduceBEq, Nat.reduceAdd, Int.reduceBEq, Int.reduceBNe, Int.reduceLT, aPost, resK, tup, tyf]
      refine hB [(1, .pointer (some ⟨h.length, 0, none⟩)), (2, .bool false), (24, .bool false), (26, v), (27, vint l.length), (28, vint (k : Nat))] _ _ ?_ (by simp (maxSteps := 2000000) only [↓aw_region, ↓aw_skip, ↓aw_seq, ↓aw_block, ↓aw_exit, ↓aw_ret, ↓sops_nil, ↓sops_go, ↓dops_nil, ↓dopsX_nil, ↓dopsR_nil, ↓vdn, vup, extr_20, extr_21, extr_30, extr_31, extr_32, List.map_cons, List.map_nil, cond_true, cond_false, aop, aThen, aBlock, argEnv, ev, sput, sputO, binK, binI, unK, builtinK, pickK, Nat.reduceBEq, Nat.reduceAdd, Int.reduceBEq, Int.reduceBNe, Int.reduceLT, aPost, resK, tup, tyf])
      clear hB
      try clear B
      refine aw_aws ?_
      simp (maxSteps := 2000000) only [s58, ↓aw_region, ↓aw_skip, ↓aw_seq, ↓aw_block, ↓aw_exit, ↓aw_ret, ↓sops_nil, ↓sops_go, ↓dops_nil, ↓dopsX_nil, ↓dopsR_nil, ↓vdn, vup, extr_20, extr_21, extr_30, extr_31, extr_32, List.map_cons, List.map_nil, cond_true, cond_false, aop, aThen, aBlock, argEnv, ev, sput, sputO, binK, binI, unK, builtinK, pickK, Nat.reduceBEq, Nat.reduceAdd, Int.reduceBEq, Int.reduceBNe, Int.reduceLT, aPost, resK, tup, tyf, add1 (show k < 9223372036854775807 by omega)]
      refine hQ2 _ _ _ ⟨(k + 1, G), ⟨hk', ?_, hEG⟩, by simp only; omega, by simp (maxSteps := 2000000) only [↓aw_region, ↓aw_skip, ↓aw_seq, ↓aw_block, ↓aw_exit, ↓aw_ret, ↓sops_nil, ↓sops_go, ↓dops_nil, ↓dopsX_nil, ↓dopsR_nil, ↓vdn, vup, extr_20, extr_21, extr_30, extr_31, extr_32, List.map_cons, List.map_nil, cond_true, cond_false, aop, aThen, aBlock, argEnv, ev, sput, sputO, binK, binI, unK, builtinK, pickK, Nat.reduceBEq, Nat.reduceAdd, Int.reduceBEq, Int.reduceBNe, Int.reduceLT, aPost, resK, tup, tyf], rfl⟩
      simp only [validTo_succ, hall, hxy, hok, hany]; rfl
  · obtain rfl : k = l.length := by omega
    refine aws_cut fun N17 hN17 => ?_
    simp (maxSteps := 2000000) only [s58, ↓aw_region, ↓aw_skip, ↓aw_seq, ↓aw_block, ↓aw_exit, ↓aw_ret, ↓sops_nil, ↓sops_go, ↓dops_nil, ↓dopsX_nil, ↓dopsR_nil, ↓vdn, vup, extr_20, extr_21, extr_30, extr_31, extr_32, List.map_cons, List.map_nil, cond_true, cond_false, aop, aThen, aBlock, argEnv, ev, sput, sputO, binK, binI, unK, builtinK, pickK, Nat.reduceBEq, Nat.reduceAdd, Int.reduceBEq, Int.reduceBNe, Int.reduceLT, aPost, resK, tup, tyf, hin]
    refine hN17 [(1, .pointer (some ⟨h.length, 0, none⟩)), (2, .bool false), (24, .bool false), (26, v), (27, vint l.length), (28, vint l.length), (29, .bool false)] _ _ ?_ (by simp (maxSteps := 2000000) only [↓aw_region, ↓aw_skip, ↓aw_seq, ↓aw_block, ↓aw_exit, ↓aw_ret, ↓sops_nil, ↓sops_go, ↓dops_nil, ↓dopsX_nil, ↓dopsR_nil, ↓vdn, vup, extr_20, extr_21, extr_30, extr_31, extr_32, List.map_cons, List.map_nil, cond_true, cond_false, aop, aThen, aBlock, argEnv, ev, sput, sputO, binK, binI, unK, builtinK, pickK, Nat.reduceBEq, Nat.reduceAdd, Int.reduceBEq, Int.reduceBNe, Int.reduceLT, aPost, resK, tup, tyf])
    clear hN17
    try clear N17
    refine aws_cut fun N18 hN18 => ?_
    simp (maxSteps := 2000000) only [s58, ↓aw_region, ↓aw_skip, ↓aw_seq, ↓aw_block, ↓aw_exit, ↓aw_ret, ↓sops_nil, ↓sops_go, ↓dops_nil, ↓dopsX_nil, ↓dopsR_nil, ↓vdn, vup, extr_20, extr_21, extr_30, extr_31, extr_32, List.map_cons, List.map_nil, cond_true, cond_false, aop, aThen, aBlock, argEnv, ev, sput, sputO, binK, binI, unK, builtinK, pickK, Nat.reduceBEq, Nat.reduceAdd, Int.reduceBEq, Int.reduceBNe, Int.reduceLT, aPost, resK, tup, tyf]
    refine hQ2 _ _ _ (hQ _ _ _ ?_)
    simp (maxSteps := 2000000) only [s58, ↓aw_region, ↓aw_skip, ↓aw_seq, ↓aw_block, ↓aw_exit, ↓aw_ret, ↓sops_nil, ↓sops_go, ↓dops_nil, ↓dopsX_nil, ↓dopsR_nil, ↓vdn, vup, extr_20, extr_21, extr_30, extr_31, extr_32, List.map_cons, List.map_nil, cond_true, cond_false, aop, aThen, aBlock, argEnv, ev, sput, sputO, binK, binI, unK, builtinK, pickK, Nat.reduceBEq, Nat.reduceAdd, Int.reduceBEq, Int.reduceBNe, Int.reduceLT, aPost, resK, tup, tyf, if_true]
    refine hZ [(1, .pointer (some ⟨h.length, 0, none⟩)), (2, .bool false), (24, .bool false), (26, v), (27, vint l.length), (28, vint l.length), (29, .bool false)] _ _ ?_ (by simp (maxSteps := 2000000) only [↓aw_region, ↓aw_skip, ↓aw_seq, ↓aw_block, ↓aw_exit, ↓aw_ret, ↓sops_nil, ↓sops_go, ↓dops_nil, ↓dopsX_nil, ↓dopsR_nil, ↓vdn, vup, extr_20, extr_21, extr_30, extr_31, extr_32, List.map_cons, List.map_nil, cond_true, cond_false, aop, aThen, aBlock, argEnv, ev, sput, sputO, binK, binI, unK, builtinK, pickK, Nat.reduceBEq, Nat.reduceAdd, Int.reduceBEq, Int.reduceBNe, Int.reduceLT, aPost, resK, tup, tyf])
    clear hZ
    try clear Z
    refine aw_aws ?_
    simp (maxSteps := 2000000) only [s58, ↓aw_region, ↓aw_skip, ↓aw_seq, ↓aw_block, ↓aw_exit, ↓aw_ret, ↓sops_nil, ↓sops_go, ↓dops_nil, ↓dopsX_nil, ↓dopsR_nil, ↓vdn, vup, extr_20, extr_21, extr_30, extr_31, extr_32, List.map_cons, List.map_nil, cond_true, cond_false, aop, aThen, aBlock, argEnv, ev, sput, sputO, binK, binI, unK, builtinK, pickK, Nat.reduceBEq, Nat.reduceAdd, Int.reduceBEq, Int.reduceBNe, Int.reduceLT, aPost, resK, tup, tyf, hall]
    exact hE.trans hEp
end Go.Proofs.Try.Am

namespace Go.Proofs.Try.Am
open Go.Am Bq
set_option maxRecDepth 100000
set_option maxHeartbeats 4000000

theorem rowC_sum {n : Nat} {l : List (Int × Int)} {ws : List Nat} : rowC (sysB n l ws) ws.length 0 = rowL (2 ^ n - 1) ws 1 := by
  apply List.ext_getElem?
  intro c
  simp only [rowC, rowL, List.getElem?_map, List.getElem?_append, List.length_map]
  by_cases h : c < ws.length
  · simp [h, show c < ws.length + 1 by omega, sysB, List.getD]
  · rw [if_neg h]
    by_cases h2 : c = ws.length
    · subst h2; simp [sysB]
    · rw [List.getElem?_eq_none (by simp; omega), List.getElem?_eq_none (by simp; omega)]; rfl
theorem rowC_bet {n : Nat} {l : List (Int × Int)} {ws : List Nat} (i : Nat) : rowC (sysB n l ws) ws.length (i + 1) = rowL (l.getD i (0, 0)).1.toNat ws (Rat.divInt (l.getD i (0, 0)).2 12) := by
  apply List.ext_getElem?
  intro c
  simp only [rowC, rowL, List.getElem?_map, List.getElem?_append, List.length_map]
  by_cases h : c < ws.length
  · simp [h, show c < ws.length + 1 by omega, sysB, List.getD]
  · rw [if_neg h]
    by_cases h2 : c = ws.length
    · subst h2; simp [sysB]
    · rw [List.getElem?_eq_none (by simp; omega), List.getElem?_eq_none (by simp; omega)]; rfl

/-- A slice of slices that was written down, or grew. -/
def QSl (e : TypeId) (h : Heap) (v : Value) (ws : List Value) : Prop := (∃ b, v = .slice (some ⟨b, 0, none⟩) ws.length ws.length ∧ h[b]? = some (.cells ws e false)) ∨ OwnV e h v ws
theorem QSl.app [Tabs prog] {e t : TypeId} {h : Heap} {v r : Value} {ws : List Value} {b2 : Nat} (ho : QSl e h v ws) (hne : ws ≠ []) (hT : appT prog t t = some (e, 1, 24)) (hb2 : h[b2]? = some (.cells [r] e false)) (hw : ∀ w ∈ ws ++ [r], notI w = true ∧ one w = true) (hn : ws.length ≤ 1000)
    {K : Value → Heap → Prop} (hk : ∀ v' h', OwnV e h' v' (ws ++ [r]) → Ext (fun i => blkOf v = some i) h h' → (blkOf v' = blkOf v ∨ ∃ b, blkOf v' = some b ∧ h.length ≤ b) → K v' h') :
    appendK prog h t t v (.slice (some ⟨b2, 0, none⟩) 1 1) K := by
  rcases ho with ⟨b, rfl, hb⟩ | ho
  · simp only [appendK, hT, elemsK, putK, cellsK, hb2, hb]
    refine ⟨fun h0 => absurd h0 (by decide), fun _ => ⟨by simp, fun h0 => by omega, fun _ => ⟨by omega, by simp, ?_⟩⟩⟩
    have e1 : (([r] : List Value).drop 0).take (1 * 1) = [r] := rfl
    have e2 : (ws.drop 0).take (ws.length * 1) = ws := by simp
    rw [e1, e2, mkb_no (by simp) (fun w hw' => (hw w hw').1)]
    refine hk _ _ (.inr ⟨h.length, [], by simp, by simp, by rw [List.append_nil]; exact get_new _ _⟩) (Ext.app _ _ _) (.inr ⟨_, rfl, Nat.le_refl _⟩)
  · exact ho.app hT (us := [r]) (.inr ⟨b2, 0, none, 1, [r], e, false, rfl, Nat.le_refl _, by simp [view, hb2, Blk.view], rfl⟩) hw (by simp; omega) hk

theorem litV [Tabs prog] {h : Heap} {t e : TypeId} {p : Option Addr} {n c : Nat} (he : elemOf' prog t = some e) (hz : zeroOf prog e = some [.slice none 0 0]) (hs : esz prog e = some 1) {K : Value → Heap → Prop} :
    buildSliceK prog h t 1 [(0, .slice p n c)] K = K (.slice (some ⟨h.length, 0, none⟩) 1 1) (h ++ [.cells [.slice p n c] e false]) := by
  simp only [buildSliceK, he, hz, hs, reps, fillL, mkb, notTuple, cellsOf, List.length_cons, List.length_nil, Nat.zero_add, Nat.zero_mul, splice]
  refine propext ⟨fun h => ?_, fun h => ⟨trivial, by decide, by decide, ?_⟩⟩
  · simpa [intsOf] using h.2.2.2
  · simpa [intsOf] using h
/-- A belief as it lies there; some of them. -/
def BelAt (h : Heap) (w : Value) (b : List Rat) : Prop := ∃ bl, w = .slice (some ⟨bl, 0, none⟩) b.length b.length ∧ h[bl]? = some (.cells ((flatP (b.map ofQ)).map vint) 26 false)
def CornSl (h : Heap) (v : Value) (cs : List (List Rat)) : Prop := ∃ ws, OwnV 90 h v ws ∧ Each (BelAt h) ws cs
theorem CornSl.ext {h h' : Heap} {v : Value} {cs : List (List Rat)} (c : CornSl h v cs) (hE : Ext (fun _ => False) h h') : CornSl h' v cs := by
  obtain ⟨ws, h1, h2⟩ := c
  exact ⟨ws, h1.ext hE, h2.imp fun w b ⟨bl, g1, g2⟩ => ⟨bl, g1, (hE.2 _ (get_lt g2) id).trans g2⟩⟩
theorem valid_spec {n : Nat} {l : List (Int × Int)} (h : validB n l = true) : 2 ≤ n ∧ n ≤ 5 ∧ 1 ≤ l.length ∧ l.length ≤ 6 ∧ ∀ i, i < l.length → okB n (l.getD i (0, 0)) = true := by
  simp only [validB, Bool.and_eq_true, decide_eq_true_eq, Int.toNat_natCast] at h
  obtain ⟨h1, h2, h3, h4, h5⟩ := h
  refine ⟨by omega, by omega, h3, h4, fun i hi => ?_⟩
  rw [validTo, List.all_eq_true] at h5
  have := h5 i (List.mem_range.2 hi)
  rw [Bool.and_eq_true] at this
  exact this.1
/-- The block of a row. -/
def bkOf (v : Value) : Nat := (blkOf v).getD 0
/-- Equations as they grow. -/
structure Rows (hp0 : Nat) (G : Heap) (q : Value) (ws : List Value) (k : Nat) (T : SysT) : Prop where
  sl : QSl 47 G q ws
  ne : ws ≠ []
  row : ∀ i, i < ws.length → OwnP 26 G (ws.getD i undef) (rowC T k i)
  inj : ∀ i j, i < ws.length → j < ws.length → blkOf (ws.getD i undef) = blkOf (ws.getD j undef) → i = j
  sep : ∀ i, i < ws.length → blkOf (ws.getD i undef) ≠ blkOf q
  old : (∀ b, blkOf q = some b → hp0 ≤ b) ∧ ∀ i b, i < ws.length → blkOf (ws.getD i undef) = some b → hp0 ≤ b
theorem ownP_shape {e : TypeId} {h : Heap} {v : Value} {ps : List (Int × Int)} (ho : OwnP e h v ps) (hne : ps ≠ []) : ∃ b ys, v = .slice (some ⟨b, 0, some 0⟩) ps.length (ps.length + ys.length) ∧ h[b]? = some (.ints (flatP ps ++ flatP ys) e false) := by
  rcases ho with ⟨_, h1⟩ | ⟨b, ys, h1, h2⟩
  · exact absurd h1 hne
  · exact ⟨b, ys, h1, h2⟩
theorem rowC_ne {T : SysT} {k i : Nat} : rowC T k i ≠ [] := by
  intro h
  have := rowC_len T k i
  rw [h] at this; simp at this
theorem QSl.blk {e : TypeId} {h : Heap} {v : Value} {ws : List Value} (hq : QSl e h v ws) (hne : ws ≠ []) : ∃ b c, blkOf v = some b ∧ h[b]? = some (.cells c e false) ∧ b < h.length := by
  rcases hq with ⟨b, rfl, hb⟩ | ho
  · exact ⟨b, ws, rfl, hb, get_lt hb⟩
  · rcases ho with ⟨_, h1⟩ | ⟨b, ys, rfl, _, hb⟩
    · exact absurd h1 hne
    · exact ⟨b, _, rfl, hb, get_lt hb⟩
theorem Rows.ext {hp0 : Nat} {G G' : Heap} {q : Value} {ws : List Value} {k : Nat} {T : SysT} (R : Rows hp0 G q ws k T) (hE : Ext (fun _ => False) G G') : Rows hp0 G' q ws k T where
  sl := by
    rcases R.sl with ⟨b, h1, h2⟩ | ho
    · exact .inl ⟨b, h1, (hE.2 _ (get_lt h2) id).trans h2⟩
    · exact .inr (ho.ext hE)
  ne := R.ne
  row i hi := (R.row i hi).ext hE
  inj := R.inj
  sep := R.sep
  old := R.old
/-- One row more. -/
theorem Rows.more [Tabs prog] {hp0 : Nat} {G G2 : Heap} {q rv : Value} {ws : List Value} {k b2 : Nat} {T : SysT} (R : Rows hp0 G q ws k T) (hl : ws.length ≤ 1000) (h0 : hp0 ≤ G.length) (hE : Ext (fun _ => False) G G2) (hr : OwnP 26 G2 rv (rowC T k ws.length)) (hrb : ∀ b, blkOf rv = some b → G.length ≤ b) (hb2 : G2[b2]? = some (.cells [rv] 47 false))
    {K : Value → Heap → Prop} (hk : ∀ q' h', OwnV 47 h' q' (ws ++ [rv]) → Rows hp0 h' q' (ws ++ [rv]) k T → Ext (fun b => hp0 ≤ b) G2 h' → Ext (fun i => blkOf q = some i) G2 h' → K q' h') : appendK prog G2 103 103 q (.slice (some ⟨b2, 0, none⟩) 1 1) K := by
  have R2 := R.ext hE
  obtain ⟨bq, cq, hbq, hq1, hq2⟩ := R.sl.blk R.ne
  obtain ⟨br, yr, hr1, hr2⟩ := ownP_shape hr rowC_ne
  have hbr : blkOf rv = some br := by rw [hr1]; rfl
  have hbrl := hrb br hbr
  have hw : ∀ w ∈ ws ++ [rv], notI w = true ∧ one w = true := fun w hw => by
    rcases List.mem_append.1 hw with h1 | h1
    · obtain ⟨i, hi, rfl⟩ := List.mem_iff_getElem.1 h1
      obtain ⟨b, ys, e1, _⟩ := ownP_shape (R.row i hi) rowC_ne
      rw [List.getD, List.getElem?_eq_getElem hi, Option.getD_some] at e1
      rw [e1]; exact ⟨rfl, rfl⟩
    · rw [List.mem_singleton.1 h1, hr1]; exact ⟨rfl, rfl⟩
  refine R2.sl.app R.ne app_103_103 hb2 hw hl fun q' h' ho hE' hb' => ?_
  have rowb : ∀ i, i < ws.length → ∃ b, blkOf (ws.getD i undef) = some b ∧ b < G.length := fun i hi => by
    obtain ⟨b, ys, e1, e2⟩ := ownP_shape (R.row i hi) rowC_ne
    exact ⟨b, by rw [e1]; rfl, get_lt e2⟩
  have g1 : ∀ i, i < ws.length → (ws ++ [rv]).getD i undef = ws.getD i undef := fun i hi => by
    rw [List.getD, List.getElem?_append_left hi]; rfl
  have g2 : (ws ++ [rv]).getD ws.length undef = rv := by simp [List.getD]
  have hq'b : ∀ b, blkOf q' = some b → b = bq ∨ G2.length ≤ b := fun b hb => by
    rcases hb' with h1 | ⟨b', h1, h2⟩
    · rw [h1, hbq] at hb; cases hb; exact .inl rfl
    · rw [h1] at hb; cases hb; exact .inr h2
  have keep : ∀ b, b ≠ bq → b < G2.length → h'[b]? = G2[b]? := fun b hb hl => hE'.2 b hl fun hc => hb (by rw [hbq] at hc; cases hc; rfl)
  refine hk q' h' ho ⟨.inr ho, by simp, fun i hi => ?_, fun i j hi hj he => ?_, fun i hi => ?_, ⟨fun b hb => ?_, fun i b hi hb => ?_⟩⟩ (hE'.mono fun b hb => R.old.1 b hb) hE'
  · rw [List.length_append, List.length_singleton] at hi
    rcases Nat.lt_or_ge i ws.length with h1 | h1
    · rw [g1 i h1]
      refine (R2.row i h1).same fun b hb => ?_
      obtain ⟨b', e1, e2⟩ := rowb i h1
      rw [e1] at hb; cases hb
      exact keep _ (fun hc => R.sep i h1 (by rw [e1, hbq, hc])) (by have := hE.1; omega)
    · rw [show i = ws.length by omega, g2]
      refine hr.same fun b hb => ?_
      rw [hbr] at hb; cases hb
      exact keep _ (by omega) (get_lt hr2)
  · rw [List.length_append, List.length_singleton] at hi hj
    rcases Nat.lt_or_ge i ws.length with h1 | h1 <;> rcases Nat.lt_or_ge j ws.length with h2 | h2
    · rw [g1 i h1, g1 j h2] at he; exact R.inj i j h1 h2 he
    · rw [g1 i h1, show j = ws.length by omega, g2, hbr] at he
      obtain ⟨b', e1, e2⟩ := rowb i h1
      rw [e1] at he; cases he; omega
    · rw [g1 j h2, show i = ws.length by omega, g2, hbr] at he
      obtain ⟨b', e1, e2⟩ := rowb j h2
      rw [e1] at he; cases he; omega
    · omega
  · rw [List.length_append, List.length_singleton] at hi
    intro hc
    rcases Nat.lt_or_ge i ws.length with h1 | h1
    · rw [g1 i h1] at hc
      obtain ⟨b', e1, e2⟩ := rowb i h1
      rw [e1] at hc
      rcases hq'b b' hc.symm with h3 | h3
      · exact R.sep i h1 (by rw [e1, hbq, h3])
      · have := hE.1; omega
    · rw [show i = ws.length by omega, g2, hbr] at hc
      rcases hq'b br hc.symm with h3 | h3
      · omega
      · have := get_lt hr2; omega
  · rcases hq'b b hb with h3 | h3
    · rw [h3]; exact R.old.1 _ hbq
    · have := hE.1; omega
  · rw [List.length_append, List.length_singleton] at hi
    rcases Nat.lt_or_ge i ws.length with h1 | h1
    · rw [g1 i h1] at hb; exact R.old.2 i b h1 hb
    · rw [show i = ws.length by omega, g2] at hb
      have := hrb b hb; omega
/-- Equations ready to be solved. -/
theorem Rows.mat {hp0 : Nat} {G : Heap} {q : Value} {ws : List Value} {k : Nat} {T : SysT} (R : Rows hp0 G q ws k T) (ho : OwnV 47 G q ws) : ∃ B C, q = .slice (some ⟨B, 0, some 0⟩) ws.length C ∧ ws.length ≤ C ∧ hp0 ≤ B ∧ Mat G B ws.length k (fun i => ws.getD i undef) (fun i => bkOf (ws.getD i undef)) T ∧ ∀ i, i < ws.length → hp0 ≤ bkOf (ws.getD i undef) := by
  rcases ho with ⟨_, h1⟩ | ⟨B, us, hq, _, hb⟩
  · exact absurd h1 R.ne
  · have hqb : blkOf q = some B := by rw [hq]; rfl
    have rowb : ∀ i, i < ws.length → ∃ b ys, ws.getD i undef = .slice (some ⟨b, 0, some 0⟩) (k + 1) (k + 1 + ys.length) ∧ G[b]? = some (.ints (flatP (rowC T k i) ++ flatP ys) 26 false) := fun i hi => by
      obtain ⟨b, ys, e1, e2⟩ := ownP_shape (R.row i hi) rowC_ne
      rw [rowC_len] at e1
      exact ⟨b, ys, e1, e2⟩
    have bk : ∀ i, i < ws.length → blkOf (ws.getD i undef) = some (bkOf (ws.getD i undef)) := fun i hi => by
      obtain ⟨b, ys, e1, e2⟩ := rowb i hi
      rw [e1]; rfl
    refine ⟨B, _, hq, by omega, R.old.1 B hqb, ⟨⟨us, ?_⟩, fun i hi => ?_, fun i j hi hj he => ?_, fun i hi hc => ?_⟩, fun i hi => R.old.2 i _ hi (bk i hi)⟩
    · have : (List.range ws.length).map (fun i => ws.getD i undef) = ws := by
        apply List.ext_getElem (by simp)
        intro i h1 h2
        simp [List.getD, h2]
      rw [this]; exact hb
    · obtain ⟨b, ys, e1, e2⟩ := rowb i hi
      refine ⟨k + 1 + ys.length, flatP ys, e1.trans ?_, by omega, ?_⟩
      · rw [bkOf, e1]; rfl
      · rw [bkOf, e1]; exact e2
    · exact R.inj i j hi hj (by rw [bk i hi, bk j hj, he])
    · exact R.sep i hi (by rw [bk i hi, hqb, hc])
end Go.Proofs.Try.Am
