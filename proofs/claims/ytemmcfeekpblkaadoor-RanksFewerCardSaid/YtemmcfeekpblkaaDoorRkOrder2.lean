/-
  ranks: the first best order, as the program finds it.
-/
import Derived.Test.YtemmcfeekpblkaaDoorRkCost
set_option linter.all false
namespace Go.Proofs.Tryd.Am
open Go.Am Redei Rb
set_option maxRecDepth 100000
set_option maxHeartbeats 1000000

theorem or_gt {s i : Nat} (h : s.testBit i = false) : s + 1 ≤ s ||| 2 ^ i := by
  have h1 : s ≤ s ||| 2 ^ i := Nat.left_le_or
  have h2 : s ≠ s ||| 2 ^ i := fun e => by
    have : (s ||| 2 ^ i).testBit i = true := by rw [Nat.testBit_or, Nat.testBit_two_pow]; simp
    rw [← e, h] at this; cases this
  omega
theorem band {x s : Nat} (hx : x < 9223372036854775808) (hs : s < 9223372036854775808) {K : Value → Prop} : binK prog .andNot 3 (.int .i64 ((x : Nat) : Int)) (.int .i64 ((s : Nat) : Int)) K = K (vint (less x s : Nat)) := by
  simp only [binK, binI]; rw [bitsV_andNot hx hs, true_and]
theorem box_ext {hp : Heap} {n b : Nat} (hb : n ≤ b) (B : Blk) : Ext (fun i => n ≤ i) hp (hp.set b B) := Ext.set _ hb
theorem app_ext {hp : Heap} {n : Nat} (g : Heap) : Ext (fun i => n ≤ i) hp (hp ++ g) := Ext.app _ _ _

/-- The table is filled from the end on. -/
theorem fill_loop [BitTab prog 1] {h : Heap} {gv : Value} {xs : List Int} {M : Nat} (hv : IntSl h gv xs) (ht : trn xs = true) (hM : 2 ^ xs.length = M) {N : Env → Heap → Prop} {Q0 : Exit → Env → Heap → Prop} {T0 : List Nat} {H : Heap} {c7 : Nat}
    (o0 : OB h H gv M T0) (hT0 : TOk xs M (M - 1) T0) (h7 : H[c7]? = some (.cells [.int .i64 (((M - 1 : Nat) : Int) - 1)] 3 false)) (hc7 : h.length + 4 ≤ c7)
    (hN : ∀ hp T e, OB h hp gv M T → TOk xs M 0 T → ELe e [(1, pt h.length), (2, .slice none 0 0), (3, .int .i64 0), (4, gv), (5, pt (h.length + 2)), (6, pt (h.length + 3))] → N e hp) :
    AWS prog 84 (.block 0 (.loop l38_1)) (aThen N Q0) [(1, pt h.length), (2, .slice none 0 0), (3, .int .i64 0), (4, gv), (5, pt (h.length + 2)), (6, pt (h.length + 3)), (7, pt c7)] H := by
  have hnn : ∀ i : Nat, (0 : Int) ≤ (i : Int) := Int.natCast_nonneg
  have hxl : 1 ≤ xs.length ∧ xs.length ≤ 8 := by simp only [trn, Bool.and_eq_true, decide_eq_true_eq] at ht; omega
  have h256 := pow8N hxl.2
  have hp0 := Nat.two_pow_pos xs.length
  have h64 : xs.length * xs.length ≤ 8 * 8 := Nat.mul_le_mul hxl.2 hxl.2
  have hmul : mulV .i64 (xs.length : Int) (xs.length : Int) = ((xs.length * xs.length : Nat) : Int) := by
    have e : (xs.length : Int) * (xs.length : Int) = ((xs.length * xs.length : Nat) : Int) := (Int.natCast_mul _ _).symm
    rw [mulV_id (by rw [e]; omega) (by rw [e]; omega), e]
  rw [hM] at h256 hp0
  refine aws_block ?_
  refine aws_hide fun Q hQ => ?_
  refine aw_loopW (γ := Nat × Heap × Nat × List Nat) (fun s => s.1 ≤ M - 1 ∧ OB h s.2.1 gv M s.2.2.2 ∧ s.2.1[s.2.2.1]? = some (.cells [.int .i64 ((s.1 : Int) - 1)] 3 false) ∧ h.length + 4 ≤ s.2.2.1 ∧ TOk xs M s.1 s.2.2.2)
    (fun s => ([(1, pt h.length), (2, .slice none 0 0), (3, .int .i64 0), (4, gv), (5, pt (h.length + 2)), (6, pt (h.length + 3)), (7, pt s.2.2.1)], s.2.1)) (fun s => s.1) (M - 1, H, c7, T0) ⟨Nat.le_refl _, o0, h7, hc7, hT0⟩ (by simp (config := {maxSteps := 2000000}) only [↓aw_region, ↓aw_skip, ↓aw_seq, ↓aw_block, ↓aw_exit, ↓aw_ret, ↓sops_nil, ↓sops_go, ↓dops_nil, ↓dopsX_nil, ↓dopsR_nil, ↓vdn, vup, extr_20, extr_21, extr_30, extr_31, extr_32, List.map_cons, List.map_nil, cond_true, cond_false, aop, aThen, aBlock, argEnv, ev, sput, sputO, binK, binI, unK, builtinK, pickK, Nat.reduceBEq, Nat.reduceAdd, Int.reduceBEq, Int.reduceBNe, Int.reduceLT, aPost, resK, tup, tyf]) rfl ?_
  rintro ⟨t, hp, b7, T⟩ ⟨htM, o, hb7, hl7, hT⟩
  simp only at htM o hb7 hl7 hT
  refine aws_hide fun Q2 hQ2 => ?_
  simp only [l38_1]
  cases t with
  | zero =>
    have hneg : ¬ (0 : Int) ≤ (((0 : Nat) : Int) - 1) := by omega
    refine aws_cut fun N1 hN1 => ?_
    simp (config := {maxSteps := 2000000}) only [s38, ↓aw_region, ↓aw_skip, ↓aw_seq, ↓aw_block, ↓aw_exit, ↓aw_ret, ↓sops_nil, ↓sops_go, ↓dops_nil, ↓dopsX_nil, ↓dopsR_nil, ↓vdn, vup, extr_20, extr_21, extr_30, extr_31, extr_32, List.map_cons, List.map_nil, cond_true, cond_false, aop, aThen, aBlock, argEnv, ev, sput, sputO, binK, binI, unK, builtinK, pickK, Nat.reduceBEq, Nat.reduceAdd, Int.reduceBEq, Int.reduceBNe, Int.reduceLT, aPost, resK, tup, tyf, load1 hb7 shp_3, ge_iff_le, hneg]
    refine hQ2 _ _ _ (hQ _ _ _ ?_)
    simp (config := {maxSteps := 2000000}) only [s38, ↓aw_region, ↓aw_skip, ↓aw_seq, ↓aw_block, ↓aw_exit, ↓aw_ret, ↓sops_nil, ↓sops_go, ↓dops_nil, ↓dopsX_nil, ↓dopsR_nil, ↓vdn, vup, extr_20, extr_21, extr_30, extr_31, extr_32, List.map_cons, List.map_nil, cond_true, cond_false, aop, aThen, aBlock, argEnv, ev, sput, sputO, binK, binI, unK, builtinK, pickK, Nat.reduceBEq, Nat.reduceAdd, Int.reduceBEq, Int.reduceBNe, Int.reduceLT, aPost, resK, tup, tyf, if_true]
    exact hN hp T _ o hT (by simp (config := {maxSteps := 2000000}) only [↓aw_region, ↓aw_skip, ↓aw_seq, ↓aw_block, ↓aw_exit, ↓aw_ret, ↓sops_nil, ↓sops_go, ↓dops_nil, ↓dopsX_nil, ↓dopsR_nil, ↓vdn, vup, extr_20, extr_21, extr_30, extr_31, extr_32, List.map_cons, List.map_nil, cond_true, cond_false, aop, aThen, aBlock, argEnv, ev, sput, sputO, binK, binI, unK, builtinK, pickK, Nat.reduceBEq, Nat.reduceAdd, Int.reduceBEq, Int.reduceBNe, Int.reduceLT, aPost, resK, tup, tyf])
  | succ s =>
  have es : ((((s + 1 : Nat)) : Int) - 1) = ((s : Nat) : Int) := by omega
  rw [es] at hb7
  have hsM : s < M := by omega
  have hsn : s < 2 ^ xs.length := by rw [hM]; exact hsM
  have hfr : fr xs.length s ≠ [] := fun e => by have := (fr_full hM hsM).1 e; omega
  obtain ⟨k, hk⟩ : ∃ k, (fr xs.length s).length = k + 1 := ⟨(fr xs.length s).length - 1, by have := List.length_pos_iff.2 hfr; omega⟩
  refine aws_cut fun N2 hN2 => ?_
  simp (config := {maxSteps := 2000000}) only [s38, ↓aw_region, ↓aw_skip, ↓aw_seq, ↓aw_block, ↓aw_exit, ↓aw_ret, ↓sops_nil, ↓sops_go, ↓dops_nil, ↓dopsX_nil, ↓dopsR_nil, ↓vdn, vup, extr_20, extr_21, extr_30, extr_31, extr_32, List.map_cons, List.map_nil, cond_true, cond_false, aop, aThen, aBlock, argEnv, ev, sput, sputO, binK, binI, unK, builtinK, pickK, Nat.reduceBEq, Nat.reduceAdd, Int.reduceBEq, Int.reduceBNe, Int.reduceLT, aPost, resK, tup, tyf, load1 hb7 shp_3, ge_iff_le, hnn]
  refine hN2 [(1, pt h.length), (2, .slice none 0 0), (3, .int .i64 0), (4, gv), (5, pt (h.length + 2)), (6, pt (h.length + 3)), (7, pt b7)] _ _ ?_ (by simp (config := {maxSteps := 2000000}) only [↓aw_region, ↓aw_skip, ↓aw_seq, ↓aw_block, ↓aw_exit, ↓aw_ret, ↓sops_nil, ↓sops_go, ↓dops_nil, ↓dopsX_nil, ↓dopsR_nil, ↓vdn, vup, extr_20, extr_21, extr_30, extr_31, extr_32, List.map_cons, List.map_nil, cond_true, cond_false, aop, aThen, aBlock, argEnv, ev, sput, sputO, binK, binI, unK, builtinK, pickK, Nat.reduceBEq, Nat.reduceAdd, Int.reduceBEq, Int.reduceBNe, Int.reduceLT, aPost, resK, tup, tyf])
  clear hN2
  try clear N2
  refine aws_cutW fun K hK => ?_
  refine aws_block ?_
  refine aws_cut fun N3 hN3 => ?_
  have hvp := IntSl_ext hv o.E
  have hsg : shlV .i64 1 0 = 1 := rfl
  simp (config := {maxSteps := 2000000}) only [s38, ↓aw_region, ↓aw_skip, ↓aw_seq, ↓aw_block, ↓aw_exit, ↓aw_ret, ↓sops_nil, ↓sops_go, ↓dops_nil, ↓dopsX_nil, ↓dopsR_nil, ↓vdn, vup, extr_20, extr_21, extr_30, extr_31, extr_32, List.map_cons, List.map_nil, cond_true, cond_false, aop, aThen, aBlock, argEnv, ev, sput, sputO, binK, binI, unK, builtinK, pickK, Nat.reduceBEq, Nat.reduceAdd, Int.reduceBEq, Int.reduceBNe, Int.reduceLT, aPost, resK, tup, tyf, load1 o.b5 shp_22, load1 hb7 shp_3, load1 o.b1 shp_22, hvp.len, hmul, tab_idx o.bT o.len hsM, tab_store o.bT o.len hsM]
  refine hN3 [(1, pt h.length), (2, .slice none 0 0), (3, .int .i64 0), (4, gv), (5, pt (h.length + 2)), (6, pt (h.length + 3)), (7, pt b7)] _ _ ?_ (by simp (config := {maxSteps := 2000000}) only [↓aw_region, ↓aw_skip, ↓aw_seq, ↓aw_block, ↓aw_exit, ↓aw_ret, ↓sops_nil, ↓sops_go, ↓dops_nil, ↓dopsX_nil, ↓dopsR_nil, ↓vdn, vup, extr_20, extr_21, extr_30, extr_31, extr_32, List.map_cons, List.map_nil, cond_true, cond_false, aop, aThen, aBlock, argEnv, ev, sput, sputO, binK, binI, unK, builtinK, pickK, Nat.reduceBEq, Nat.reduceAdd, Int.reduceBEq, Int.reduceBNe, Int.reduceLT, aPost, resK, tup, tyf])
  clear hN3
  try clear N3
  have o1 := o.tab (T2 := T.set s (xs.length * xs.length)) (by rw [List.length_set]; exact o.len)
  have hb1 : (hp.set (h.length + 1) (.ints (iL (T.set s (xs.length * xs.length))) 3 false))[b7]? = some (.cells [vint s] 3 false) := by rw [List.getElem?_set_ne (by omega)]; exact hb7
  generalize hp.set (h.length + 1) (.ints (iL (T.set s (xs.length * xs.length))) 3 false) = h1 at o1 hb1 ⊢
  have hv1 := IntSl_ext hv o1.E
  refine aws_cut fun N4 hN4 => ?_
  refine aw_drawX [(1, 1), (4, 4)] (by kernel_rfl) (by kernel_rfl) (by kernel_rfl) (by kernel_rfl) ?_
  simp (config := {maxSteps := 2000000}) only [s38, ↓aw_region, ↓aw_skip, ↓aw_seq, ↓aw_block, ↓aw_exit, ↓aw_ret, ↓sops_nil, ↓sops_go, ↓dops_nil, ↓dopsX_nil, ↓dopsR_nil, ↓vdn, vup, extr_20, extr_21, extr_30, extr_31, extr_32, List.map_cons, List.map_nil, cond_true, cond_false, aop, aThen, aBlock, argEnv, ev, sput, sputO, builtinK, Nat.reduceBEq, Nat.reduceAdd, Int.reduceBEq, Int.reduceBNe, Int.reduceLT, aPost, resK, tup, tyf, load1 hb1 shp_3, callK, List.nil_append, List.append_nil, List.toList_toArray, List.cons_append]
  refine ⟨_, _, all_call hv1 hxl.2, rfl, ?_⟩
  rw [hM]
  simp (config := {maxSteps := 2000000}) only [s38, ↓aw_region, ↓aw_skip, ↓aw_seq, ↓aw_block, ↓aw_exit, ↓aw_ret, ↓sops_nil, ↓sops_go, ↓dops_nil, ↓dopsX_nil, ↓dopsR_nil, ↓vdn, vup, extr_20, extr_21, extr_30, extr_31, extr_32, List.map_cons, List.map_nil, cond_true, cond_false, aop, aThen, aBlock, argEnv, ev, sput, sputO, builtinK, Nat.reduceBEq, Nat.reduceAdd, Int.reduceBEq, Int.reduceBNe, Int.reduceLT, aPost, resK, tup, tyf, load1 hb1 shp_3, band (show M - 1 < 9223372036854775808 by omega) (show s < 9223372036854775808 by omega), callK, List.nil_append, List.append_nil, List.toList_toArray, List.cons_append]
  refine players_call.mono ?_
  rintro v' h2 ⟨rfl, rfl⟩
  try simp (config := {maxSteps := 2000000}) only [s38, ↓aw_region, ↓aw_skip, ↓aw_seq, ↓aw_block, ↓aw_exit, ↓aw_ret, ↓sops_nil, ↓sops_go, ↓dops_nil, ↓dopsX_nil, ↓dopsR_nil, ↓vdn, vup, extr_20, extr_21, extr_30, extr_31, extr_32, List.map_cons, List.map_nil, cond_true, cond_false, aop, aThen, aBlock, argEnv, ev, sput, sputO, binK, binI, unK, builtinK, pickK, Nat.reduceBEq, Nat.reduceAdd, Int.reduceBEq, Int.reduceBNe, Int.reduceLT, aPost, resK, tup, tyf]
  refine hN4 [(1, pt h.length), (2, .slice none 0 0), (3, .int .i64 0), (4, gv), (5, pt (h.length + 2)), (6, pt (h.length + 3)), (7, pt b7), (40, .func (.func 93) #[] #[newPtr h1])] _ _ ?_ (by simp (config := {maxSteps := 2000000}) only [↓aw_region, ↓aw_skip, ↓aw_seq, ↓aw_block, ↓aw_exit, ↓aw_ret, ↓sops_nil, ↓sops_go, ↓dops_nil, ↓dopsX_nil, ↓dopsR_nil, ↓vdn, vup, extr_20, extr_21, extr_30, extr_31, extr_32, List.map_cons, List.map_nil, cond_true, cond_false, aop, aThen, aBlock, argEnv, ev, sput, sputO, binK, binI, unK, builtinK, pickK, Nat.reduceBEq, Nat.reduceAdd, Int.reduceBEq, Int.reduceBNe, Int.reduceLT, aPost, resK, tup, tyf])
  clear hN4
  try clear N4
  have hbl := bits_left hM (show xs.length ≤ 64 by omega) hsM
  have hb7l := get_lt hb1
  have hll : less (M - 1) s < 2 ^ xs.length := less_lt (by rw [hM]; omega)
  refine aws_block ?_
  refine aw_aws ?_
  refine aw_range bitIter (bx := h1.length) (s := less (M - 1) s) (et := 3) rfl (get_new _ _) (by omega) (fun pre hk => OB h hk gv M (T.set s (mnF (fv (cst xs) xs.length k s) pre (xs.length * xs.length))) ∧ hk[b7]? = some (.cells [vint s] 3 false)) ?_ ?_ ?_
  · have hE : Ext (fun i => h.length + 4 ≤ i) h1 ((h1 ++ [Blk.cells [vint (less (M - 1) s : Nat)] 3 false]).set h1.length .dead) := (Ext.app _ _ _).trans (Ext.set _ (by omega))
    refine ⟨o1.up hE, ?_⟩
    rw [List.getElem?_set_ne (by omega), List.getElem?_append_left hb7l]; exact hb1
  · rintro pre x hk2 hpre ⟨o2, hb2⟩
    rw [hbl] at hpre
    have hx := mem_pre hpre
    obtain ⟨hxn, hxs⟩ := mem_fr.1 hx
    have hgt := or_gt hxs
    have hsx : s ||| 2 ^ x < 2 ^ xs.length := put_lt hsn hxn
    have hput := fr_put hx
    have hTx : (T.set s (mnF (fv (cst xs) xs.length k s) pre (xs.length * xs.length))).getD (s ||| 2 ^ x) 0 = rst (cst xs) xs.length k (s ||| 2 ^ x) := by
      rw [getD_setN (by rw [o.len]; exact hsM), if_neg (by omega), hT.1 _ (by omega) (by rw [← hM]; exact hsx), show (fr xs.length (s ||| 2 ^ x)).length = k by omega]
    have hTs : (T.set s (mnF (fv (cst xs) xs.length k s) pre (xs.length * xs.length))).getD s 0 = mnF (fv (cst xs) xs.length k s) pre (xs.length * xs.length) := by
      rw [getD_setN (by rw [o.len]; exact hsM), if_pos rfl]
    have hr64 := rst_64 hxl.2 hsx
    rw [show (fr xs.length (s ||| 2 ^ x)).length = k by omega] at hr64
    have hcc : APure prog 75 [vint s, vint x, pt h.length, pt (h.length + 2)] hk2 (vint (fv (cst xs) xs.length k s x : Nat)) := by
      have := cost_call o2 hv ht hM hsM hxn (by rw [hTx]; omega)
      rw [hTx] at this; exact this
    have hmn : (if fv (cst xs) xs.length k s x < mnF (fv (cst xs) xs.length k s) pre (xs.length * xs.length) then fv (cst xs) xs.length k s x else mnF (fv (cst xs) xs.length k s) pre (xs.length * xs.length)) = mnF (fv (cst xs) xs.length k s) (pre ++ [x]) (xs.length * xs.length) := (mnF_snoc _ _ _).symm
    simp (config := {maxSteps := 2000000}) only [s38, ↓aw_region, ↓aw_skip, ↓aw_seq, ↓aw_block, ↓aw_exit, ↓aw_ret, ↓sops_nil, ↓sops_go, ↓dops_nil, ↓dopsX_nil, ↓dopsR_nil, ↓vdn, vup, extr_20, extr_21, extr_30, extr_31, extr_32, List.map_cons, List.map_nil, cond_true, cond_false, aop, aThen, aBlock, argEnv, ev, sput, sputO, binK, binI, unK, builtinK, pickK, Nat.reduceBEq, Nat.reduceAdd, Int.reduceBEq, Int.reduceBNe, Int.reduceLT, aPost, resK, tup, tyf, r38_0_a, r38_0_b]
    refine aw_drawX [(9, 1)] (by kernel_rfl) (by kernel_rfl) (by kernel_rfl) (by kernel_rfl) ?_
    simp (config := {maxSteps := 2000000}) only [s38, ↓aw_region, ↓aw_skip, ↓aw_seq, ↓aw_block, ↓aw_exit, ↓aw_ret, ↓sops_nil, ↓sops_go, ↓dops_nil, ↓dopsX_nil, ↓dopsR_nil, ↓vdn, vup, extr_20, extr_21, extr_30, extr_31, extr_32, List.map_cons, List.map_nil, cond_true, cond_false, aop, aThen, aBlock, argEnv, ev, sput, sputO, builtinK, Nat.reduceBEq, Nat.reduceAdd, Int.reduceBEq, Int.reduceBNe, Int.reduceLT, aPost, resK, tup, tyf, load1 o2.b5 shp_22, load1 hb2 shp_3, tab_idx o2.bT o2.len hsM, tab_load o2.bT o2.len hsM, hTs, load1 o2.b6 shp_69, callK, List.nil_append, List.append_nil, List.toList_toArray, List.cons_append]
    refine ⟨_, _, hcc, rfl, ?_⟩
    simp (config := {maxSteps := 2000000}) only [s38, ↓aw_region, ↓aw_skip, ↓aw_seq, ↓aw_block, ↓aw_exit, ↓aw_ret, ↓sops_nil, ↓sops_go, ↓dops_nil, ↓dopsX_nil, ↓dopsR_nil, ↓vdn, vup, extr_20, extr_21, extr_30, extr_31, extr_32, List.map_cons, List.map_nil, cond_true, cond_false, aop, aThen, aBlock, argEnv, ev, sput, sputO, binK, binI, unK, builtinK, pickK, Nat.reduceBEq, Nat.reduceAdd, Int.reduceBEq, Int.reduceBNe, Int.reduceLT, aPost, resK, tup, tyf, mmK, Bool.false_eq_true, if_false, gt_iff_lt, mnI, hmn, tab_store o2.bT o2.len hsM, rangeQ]
    rw [List.set_set]
    refine ⟨o2.tab (by rw [List.length_set]; exact o.len), ?_⟩
    rw [List.getElem?_set_ne (by omega)]; exact hb2
  · rintro hk2 ⟨o2, hb2⟩
    rw [hbl, ← rst_succ] at o2
    have hT2 : TOk xs M s (T.set s (rst (cst xs) xs.length (k + 1) s)) := by
      have h64' := rst_64 hxl.2 hsn
      rw [hk] at h64'
      refine ⟨fun r h1 h2 => ?_, fun r => ?_⟩
      · rw [getD_setN (by rw [o.len]; exact hsM)]
        by_cases e : r = s
        · rw [if_pos e, e, hk]
        · rw [if_neg e]; exact hT.1 r (by omega) h2
      · rw [getD_setN (by rw [o.len]; exact hsM)]
        split
        · exact h64'
        · exact hT.2 r
    simp (config := {maxSteps := 2000000}) only [s38, ↓aw_region, ↓aw_skip, ↓aw_seq, ↓aw_block, ↓aw_exit, ↓aw_ret, ↓sops_nil, ↓sops_go, ↓dops_nil, ↓dopsX_nil, ↓dopsR_nil, ↓vdn, vup, extr_20, extr_21, extr_30, extr_31, extr_32, List.map_cons, List.map_nil, cond_true, cond_false, aop, aThen, aBlock, argEnv, ev, sput, sputO, binK, binI, unK, builtinK, pickK, Nat.reduceBEq, Nat.reduceAdd, Int.reduceBEq, Int.reduceBNe, Int.reduceLT, aPost, resK, tup, tyf, Nat.reduceEqDiff, if_true, if_false]
    refine hK [(1, pt h.length), (2, .slice none 0 0), (3, .int .i64 0), (4, gv), (5, pt (h.length + 2)), (6, pt (h.length + 3)), (7, pt b7)] _ _ ?_ (by simp (config := {maxSteps := 2000000}) only [↓aw_region, ↓aw_skip, ↓aw_seq, ↓aw_block, ↓aw_exit, ↓aw_ret, ↓sops_nil, ↓sops_go, ↓dops_nil, ↓dopsX_nil, ↓dopsR_nil, ↓vdn, vup, extr_20, extr_21, extr_30, extr_31, extr_32, List.map_cons, List.map_nil, cond_true, cond_false, aop, aThen, aBlock, argEnv, ev, sput, sputO, binK, binI, unK, builtinK, pickK, Nat.reduceBEq, Nat.reduceAdd, Int.reduceBEq, Int.reduceBNe, Int.reduceLT, aPost, resK, tup, tyf])
    clear hK
    try clear K
    refine aw_aws ?_
    have hsub : subV .i64 ((s : Nat) : Int) 1 = ((s : Nat) : Int) - 1 := subV_id (by omega) (by omega)
    simp (config := {maxSteps := 2000000}) only [s38, ↓aw_region, ↓aw_skip, ↓aw_seq, ↓aw_block, ↓aw_exit, ↓aw_ret, ↓sops_nil, ↓sops_go, ↓dops_nil, ↓dopsX_nil, ↓dopsR_nil, ↓vdn, vup, extr_20, extr_21, extr_30, extr_31, extr_32, List.map_cons, List.map_nil, cond_true, cond_false, aop, aThen, aBlock, argEnv, ev, sput, sputO, binK, binI, unK, builtinK, pickK, Nat.reduceBEq, Nat.reduceAdd, Int.reduceBEq, Int.reduceBNe, Int.reduceLT, aPost, resK, tup, tyf, load1 hb2 shp_3, allocK, newPtr, zero_3, Am.storeI (get_new _ _) shp_3, setLast, load1 (get_new _ _) shp_3, hsub]
    refine hQ2 _ _ _ ⟨(s, hk2 ++ [Blk.cells [.int .i64 (((s : Nat) : Int) - 1)] 3 false], hk2.length, _), ⟨by simp only; omega, o2.up (Ext.app _ _ _), get_new _ _, ?_, hT2⟩, by simp only; omega, by simp (config := {maxSteps := 2000000}) only [↓aw_region, ↓aw_skip, ↓aw_seq, ↓aw_block, ↓aw_exit, ↓aw_ret, ↓sops_nil, ↓sops_go, ↓dops_nil, ↓dopsX_nil, ↓dopsR_nil, ↓vdn, vup, extr_20, extr_21, extr_30, extr_31, extr_32, List.map_cons, List.map_nil, cond_true, cond_false, aop, aThen, aBlock, argEnv, ev, sput, sputO, binK, binI, unK, builtinK, pickK, Nat.reduceBEq, Nat.reduceAdd, Int.reduceBEq, Int.reduceBNe, Int.reduceLT, aPost, resK, tup, tyf], rfl⟩
    have := get_lt hb2
    simp only; omega
end Go.Proofs.Tryd.Am
