/-
  ranks: the size of a set, and Kings.
-/
import Derived.Test.YtemmcfeekpblkaaDoorFnC
import Derived.Test.YtemmcfeekpblkaaDoorRkFind
import Derived.Test.YtemmcfeekpblkaaDoorBits
set_option linter.all false
namespace Go.Proofs.Tryd.Am
open Go.Am
set_option maxRecDepth 100000
set_option maxHeartbeats 1000000

theorem size_call [Tabs prog] {h : Heap} {s : Nat} (hs : s < 9223372036854775808) : APure prog 29 [vint s] h (vint ((Am.bits s).length : Nat)) := by
  refine s29_call (by simp) ?_
  simp (config := {maxSteps := 2000000}) only [s29, ↓aw_region, ↓aw_skip, ↓aw_seq, ↓aw_block, ↓aw_exit, ↓aw_ret, ↓sops_nil, ↓sops_go, ↓dops_nil, ↓dopsX_nil, ↓dopsR_nil, ↓vdn, vup, extr_20, extr_21, extr_30, extr_31, extr_32, List.map_cons, List.map_nil, cond_true, cond_false, aop, aThen, aBlock, argEnv, ev, sput, sputO, binK, binI, unK, builtinK, pickK, Nat.reduceBEq, Nat.reduceAdd, Int.reduceBEq, Int.reduceBNe, Int.reduceLT, aPost, resK, tup, tyf, ↓aw_loop_eq]
  refine aws_hide fun Q hQ => ?_
  refine aw_loop (γ := Nat × Nat) (fun t => t.1 < 9223372036854775808 ∧ t.2 + (Am.bits t.1).length = (Am.bits s).length)
    (fun t => ([(0, vint t.1), (3, vint t.2)], h)) (fun t => t.1) (s, 0) ⟨hs, by simp⟩ (by simp (config := {maxSteps := 2000000}) only [↓aw_region, ↓aw_skip, ↓aw_seq, ↓aw_block, ↓aw_exit, ↓aw_ret, ↓sops_nil, ↓sops_go, ↓dops_nil, ↓dopsX_nil, ↓dopsR_nil, ↓vdn, vup, extr_20, extr_21, extr_30, extr_31, extr_32, List.map_cons, List.map_nil, cond_true, cond_false, aop, aThen, aBlock, argEnv, ev, sput, sputO, binK, binI, unK, builtinK, pickK, Nat.reduceBEq, Nat.reduceAdd, Int.reduceBEq, Int.reduceBNe, Int.reduceLT, aPost, resK, tup, tyf, Int.natCast_zero]) rfl ?_
  rintro ⟨t, m⟩ ⟨ht, hm⟩
  simp only at ht hm
  refine aw_hide fun Q2 hQ2 => ?_
  by_cases h0 : t = 0
  · subst h0
    have hlen : (Am.bits 0).length = 0 := by decide
    have hms : m = (Am.bits s).length := by omega
    simp (config := {maxSteps := 2000000}) only [s29, ↓aw_region, ↓aw_skip, ↓aw_seq, ↓aw_block, ↓aw_exit, ↓aw_ret, ↓sops_nil, ↓sops_go, ↓dops_nil, ↓dopsX_nil, ↓dopsR_nil, ↓vdn, vup, extr_20, extr_21, extr_30, extr_31, extr_32, List.map_cons, List.map_nil, cond_true, cond_false, aop, aThen, aBlock, argEnv, ev, sput, sputO, binK, binI, unK, builtinK, pickK, Nat.reduceBEq, Nat.reduceAdd, Int.reduceBEq, Int.reduceBNe, Int.reduceLT, aPost, resK, tup, tyf, l29_0, Int.natCast_zero, gt_iff_lt, Int.lt_irrefl]
    refine hQ2 _ _ _ (hQ _ _ _ ?_)
    simp (config := {maxSteps := 2000000}) only [s29, ↓aw_region, ↓aw_skip, ↓aw_seq, ↓aw_block, ↓aw_exit, ↓aw_ret, ↓sops_nil, ↓sops_go, ↓dops_nil, ↓dopsX_nil, ↓dopsR_nil, ↓vdn, vup, extr_20, extr_21, extr_30, extr_31, extr_32, List.map_cons, List.map_nil, cond_true, cond_false, aop, aThen, aBlock, argEnv, ev, sput, sputO, binK, binI, unK, builtinK, pickK, Nat.reduceBEq, Nat.reduceAdd, Int.reduceBEq, Int.reduceBNe, Int.reduceLT, aPost, resK, tup, tyf, hms, if_true]
  · have hpos : (0 : Int) < (t : Int) := by omega
    have hstep := bits_step t ht h0
    have hlen : (Am.bits t).length = (Am.bits (t &&& (t - 1))).length + 1 := by rw [hstep]; rfl
    have hle : (Am.bits t).length ≤ 64 := by
      have := List.length_filter_le (fun i => t.testBit i) (List.range 64)
      rw [List.length_range] at this; exact this
    have hle2 : (Am.bits s).length ≤ 64 := by
      have := List.length_filter_le (fun i => s.testBit i) (List.range 64)
      rw [List.length_range] at this; exact this
    have hlt := and_pred_lt t h0
    have hsub : subV .i64 (t : Int) 1 = ((t - 1 : Nat) : Int) := by rw [subV_id (by omega) (by omega)]; omega
    have hand := bitsV_and (a := t) (b := t - 1) ht (by omega)
    simp (config := {maxSteps := 2000000}) only [s29, ↓aw_region, ↓aw_skip, ↓aw_seq, ↓aw_block, ↓aw_exit, ↓aw_ret, ↓sops_nil, ↓sops_go, ↓dops_nil, ↓dopsX_nil, ↓dopsR_nil, ↓vdn, vup, extr_20, extr_21, extr_30, extr_31, extr_32, List.map_cons, List.map_nil, cond_true, cond_false, aop, aThen, aBlock, argEnv, ev, sput, sputO, binK, binI, unK, builtinK, pickK, Nat.reduceBEq, Nat.reduceAdd, Int.reduceBEq, Int.reduceBNe, Int.reduceLT, aPost, resK, tup, tyf, l29_0, hpos, gt_iff_lt, add1 (show m < 9223372036854775807 by omega), hsub, hand]
    exact hQ2 _ _ _ ⟨(t &&& (t - 1), m + 1), ⟨by simp only; omega, by simp only; omega⟩, by simp only; exact hlt, by simp (config := {maxSteps := 2000000}) only [↓aw_region, ↓aw_skip, ↓aw_seq, ↓aw_block, ↓aw_exit, ↓aw_ret, ↓sops_nil, ↓sops_go, ↓dops_nil, ↓dopsX_nil, ↓dopsR_nil, ↓vdn, vup, extr_20, extr_21, extr_30, extr_31, extr_32, List.map_cons, List.map_nil, cond_true, cond_false, aop, aThen, aBlock, argEnv, ev, sput, sputO, binK, binI, unK, builtinK, pickK, Nat.reduceBEq, Nat.reduceAdd, Int.reduceBEq, Int.reduceBNe, Int.reduceLT, aPost, resK, tup, tyf], rfl⟩

/-- Whom a player reaches in two. -/
def reachF (xs : List Int) (i : Nat) : Nat := (Am.bits (xs.getD i 0).toNat).foldl (fun r j => r ||| (xs.getD j 0).toNat) ((xs.getD i 0).toNat ||| 2 ^ i)
/-- The kings among the first. -/
def kingsTo (xs : List Int) : Nat → Nat
  | 0 => 0
  | i + 1 => if reachF xs i = 2 ^ xs.length - 1 then kingsTo xs i ||| 2 ^ i else kingsTo xs i

theorem trn_nat {xs : List Int} (h : trn xs = true) {i : Nat} (hi : i < xs.length) : xs.getD i 0 = ((xs.getD i 0).toNat : Int) ∧ (xs.getD i 0).toNat < 2 ^ xs.length := by
  simp only [trn, Bool.and_eq_true, decide_eq_true_eq, List.all_eq_true, List.mem_range] at h
  have h2 := h.2 i hi
  rw [okAt, Bool.and_eq_true, Bool.and_eq_true, Bool.and_eq_true, decide_eq_true_eq, decide_eq_true_eq] at h2
  have h3 := h2.1.1.1
  have h4 := h2.1.1.2
  have e : ((2 ^ xs.length : Nat) : Int) = 2 ^ xs.length := by simp
  refine ⟨(Int.toNat_of_nonneg h3).symm, ?_⟩
  rw [← Int.toNat_of_nonneg h3, ← e] at h4
  exact Int.ofNat_lt.1 h4

theorem kingsTo_lt {xs : List Int} : ∀ i, i ≤ xs.length → kingsTo xs i < 2 ^ xs.length
  | 0, _ => Nat.two_pow_pos _
  | i + 1, h => by
    have ih := kingsTo_lt (xs := xs) i (by omega)
    rw [kingsTo]
    split
    · exact Nat.or_lt_two_pow ih (Nat.pow_lt_pow_right (by decide) (by omega))
    · exact ih

theorem kings_call [BitTab prog 1] {h : Heap} {v : Value} {xs : List Int} (hv : IntSl h v xs) (hl : xs.length < 9223372036854775808) (hx : ∀ x ∈ xs, -9223372036854775808 ≤ x ∧ x < 9223372036854775808) :
    ACall prog 28 [v] h fun r h' => Ext (fun _ => False) h h' ∧ r = if trn xs = true then .tuple #[vint (kingsTo xs xs.length : Nat), .int .i64 0] else .tuple #[.int .i64 0, .int .i64 2] := by
  refine s28_call (by simp) ?_
  obtain ⟨tp, tl, tc, rfl⟩ : ∃ p l c, v = .slice p l c := by
    rcases hv with ⟨rfl, _⟩ | ⟨b, o, sp, cap, c, e, ro, rfl, _⟩
    · exact ⟨_, _, _, rfl⟩
    · exact ⟨_, _, _, rfl⟩
  simp (config := {maxSteps := 2000000}) only [s28, ↓aw_region, ↓aw_skip, ↓aw_seq, ↓aw_block, ↓aw_exit, ↓aw_ret, ↓sops_nil, ↓sops_go, ↓dops_nil, ↓dopsX_nil, ↓dopsR_nil, ↓vdn, vup, extr_20, extr_21, extr_30, extr_31, extr_32, List.map_cons, List.map_nil, cond_true, cond_false, aop, aThen, aBlock, argEnv, ev, sput, sputO, binK, binI, unK, builtinK, pickK, Nat.reduceBEq, Nat.reduceAdd, Int.reduceBEq, Int.reduceBNe, Int.reduceLT, aPost, resK, tup, tyf, boxK, cellsOf, Option.isSome_some, newPtr]
  generalize htv : Value.slice tp tl tc = tv at *
  obtain ⟨H, hH⟩ : ∃ H, H = h ++ [Blk.cells [tv] 22 false] := ⟨_, rfl⟩
  rw [← hH]
  have hExt0 : Ext (fun _ => False) h H := by rw [hH]; exact Ext.app _ _ _
  have b0 : H[h.length]? = some (.cells [tv] 22 false) := by rw [hH]; exact get_new _ _
  have hvH : IntSl H tv xs := IntSl_ext hv hExt0
  simp (config := {maxSteps := 2000000}) only [s28, ↓aw_region, ↓aw_skip, ↓aw_seq, ↓aw_block, ↓aw_exit, ↓aw_ret, ↓sops_nil, ↓sops_go, ↓dops_nil, ↓dopsX_nil, ↓dopsR_nil, ↓vdn, vup, extr_20, extr_21, extr_30, extr_31, extr_32, List.map_cons, List.map_nil, cond_true, cond_false, aop, aThen, aBlock, argEnv, ev, sput, sputO, binK, binI, unK, builtinK, pickK, Nat.reduceBEq, Nat.reduceAdd, Int.reduceBEq, Int.reduceBNe, Int.reduceLT, aPost, resK, tup, tyf, load1 b0 shp_22, callK, List.nil_append, List.append_nil, List.toList_toArray, List.cons_append]
  refine (valid_call hvH hl hx).mono ?_
  rintro _ G ⟨rfl, hG⟩
  subst hG
  cases ht : trn xs with
  | false =>
    simp (config := {maxSteps := 2000000}) only [s28, ↓aw_region, ↓aw_skip, ↓aw_seq, ↓aw_block, ↓aw_exit, ↓aw_ret, ↓sops_nil, ↓sops_go, ↓dops_nil, ↓dopsX_nil, ↓dopsR_nil, ↓vdn, vup, extr_20, extr_21, extr_30, extr_31, extr_32, List.map_cons, List.map_nil, cond_true, cond_false, aop, aThen, aBlock, argEnv, ev, sput, sputO, binK, binI, unK, builtinK, pickK, Nat.reduceBEq, Nat.reduceAdd, Int.reduceBEq, Int.reduceBNe, Int.reduceLT, aPost, resK, tup, tyf, Bool.false_eq_true, if_false]
    exact hExt0
  | true =>
    have hxl : 1 ≤ xs.length ∧ xs.length ≤ 8 := by simp only [trn, Bool.and_eq_true, decide_eq_true_eq] at ht; omega
    have hpow : 2 ^ xs.length ≤ 2 ^ 8 := Nat.pow_le_pow_right (by decide) hxl.2
    simp (config := {maxSteps := 2000000}) only [s28, ↓aw_region, ↓aw_skip, ↓aw_seq, ↓aw_block, ↓aw_exit, ↓aw_ret, ↓sops_nil, ↓sops_go, ↓dops_nil, ↓dopsX_nil, ↓dopsR_nil, ↓vdn, vup, extr_20, extr_21, extr_30, extr_31, extr_32, List.map_cons, List.map_nil, cond_true, cond_false, aop, aThen, aBlock, argEnv, ev, sput, sputO, binK, binI, unK, builtinK, pickK, Nat.reduceBEq, Nat.reduceAdd, Int.reduceBEq, Int.reduceBNe, Int.reduceLT, aPost, resK, tup, tyf, load1 b0 shp_22, hvH.len, ↓aw_loop_eq]
    refine aws_hide fun Q hQ => ?_
    refine aw_loop (γ := Nat × Heap) (fun s => s.1 ≤ xs.length ∧ Ext (fun _ => False) G s.2)
      (fun s => ([(0, tv), (1, .pointer (some ⟨h.length, 0, none⟩)), (4, tv), (5, vint (kingsTo xs s.1 : Nat)), (14, tv), (15, vint xs.length), (16, vint s.1)], s.2)) (fun s => xs.length - s.1) (0, G) ⟨Nat.zero_le _, Ext.refl _ _⟩ (by simp (config := {maxSteps := 2000000}) only [↓aw_region, ↓aw_skip, ↓aw_seq, ↓aw_block, ↓aw_exit, ↓aw_ret, ↓sops_nil, ↓sops_go, ↓dops_nil, ↓dopsX_nil, ↓dopsR_nil, ↓vdn, vup, extr_20, extr_21, extr_30, extr_31, extr_32, List.map_cons, List.map_nil, cond_true, cond_false, aop, aThen, aBlock, argEnv, ev, sput, sputO, binK, binI, unK, builtinK, pickK, Nat.reduceBEq, Nat.reduceAdd, Int.reduceBEq, Int.reduceBNe, Int.reduceLT, aPost, resK, tup, tyf, Int.natCast_zero, kingsTo]) rfl ?_
    rintro ⟨i, hp⟩ ⟨hi, hE⟩
    simp only at hi hE
    refine aw_hide fun Q2 hQ2 => ?_
    have hvp : IntSl hp tv xs := IntSl_ext hvH hE
    have bp : hp[h.length]? = some (.cells [tv] 22 false) := (hE.2 _ (get_lt b0) id).trans b0
    by_cases hin : (i : Int) < xs.length
    · have hin' : i < xs.length := by omega
      obtain ⟨hX, hXl⟩ := trn_nat ht hin'
      obtain ⟨X, hXe⟩ : ∃ X, X = (xs.getD i 0).toNat := ⟨_, rfl⟩
      rw [← hXe] at hX hXl
      have hshl : shlV .i64 1 i = 2 ^ i := shl1 (by omega)
      have h2i : 2 ^ i < 2 ^ xs.length := Nat.pow_lt_pow_right (by decide) hin'
      have hor : bitsV .or .i64 (X : Int) (2 ^ i) = ((X ||| 2 ^ i : Nat) : Int) := by
        have := bitsV_or (a := X) (b := 2 ^ i) (by omega) (by omega)
        simpa using this
      simp (config := {maxSteps := 2000000}) only [s28, ↓aw_region, ↓aw_skip, ↓aw_seq, ↓aw_block, ↓aw_exit, ↓aw_ret, ↓sops_nil, ↓sops_go, ↓dops_nil, ↓dopsX_nil, ↓dopsR_nil, ↓vdn, vup, extr_20, extr_21, extr_30, extr_31, extr_32, List.map_cons, List.map_nil, cond_true, cond_false, aop, aThen, aBlock, argEnv, ev, sput, sputO, binK, binI, unK, builtinK, pickK, Nat.reduceBEq, Nat.reduceAdd, Int.reduceBEq, Int.reduceBNe, Int.reduceLT, aPost, resK, tup, tyf, l28_1, hin, hvp.idx el_22 esz_3 hin', hvp.load shp_3 hin', hX, hshl, hor, allocK, newPtr]
      rw [storeI (v := .int .i64 0) (e := 3) (get_new _ _) shp_3]
      have hlp := hE.1
      have hbH := get_lt b0
      obtain ⟨P0, hP0⟩ : ∃ P0, P0 = (hp ++ [Blk.cells [Value.int .i64 0] 3 false]).set hp.length (Blk.cells [.int .i64 ((X ||| 2 ^ i : Nat) : Int)] 3 false) := ⟨_, rfl⟩
      rw [← hP0]
      have hlP : P0.length = hp.length + 1 := by rw [hP0]; simp
      have hE0 : Ext (fun _ => False) hp P0 := ⟨by omega, fun j hj _ => by rw [hP0, List.getElem?_set_ne (by omega), List.getElem?_append_left hj]⟩
      have b1 : P0[hp.length]? = some (.cells [.int .i64 ((X ||| 2 ^ i : Nat) : Int)] 3 false) := by rw [hP0]; exact get_set (by simp) _
      simp (config := {maxSteps := 2000000}) only [s28, ↓aw_region, ↓aw_skip, ↓aw_seq, ↓aw_block, ↓aw_exit, ↓aw_ret, ↓sops_nil, ↓sops_go, ↓dops_nil, ↓dopsX_nil, ↓dopsR_nil, ↓vdn, vup, extr_20, extr_21, extr_30, extr_31, extr_32, List.map_cons, List.map_nil, cond_true, cond_false, aop, aThen, aBlock, argEnv, ev, sput, sputO, binK, binI, unK, builtinK, pickK, Nat.reduceBEq, Nat.reduceAdd, Int.reduceBEq, Int.reduceBNe, Int.reduceLT, aPost, resK, tup, tyf, callK, List.nil_append, List.append_nil, List.toList_toArray, List.cons_append]
      refine players_call.mono ?_
      rintro v' h3 ⟨rfl, rfl⟩
      refine aw_range bitIter (bx := P0.length) (s := X) (et := 3) rfl (get_new _ _) (by omega) (fun pre hk => hk[hp.length]? = some (.cells [vint ((pre.foldl (fun r j => r ||| (xs.getD j 0).toNat) (X ||| 2 ^ i) : Nat) : Int)] 3 false) ∧ Ext (fun _ => False) hp hk ∧ pre.foldl (fun r j => r ||| (xs.getD j 0).toNat) (X ||| 2 ^ i) < 2 ^ xs.length) ⟨?_, ?_, ?_⟩ ?_ ?_
      · rw [List.getElem?_set_ne (by omega)]; exact get_old b1 _
      · refine hE0.trans ⟨by simp, fun j hj _ => ?_⟩
        rw [List.getElem?_set_ne (by omega), List.getElem?_append_left hj]
      · exact Nat.or_lt_two_pow hXl h2i
      · rintro pre j hk hpre ⟨hb, hx2, hf⟩
        obtain ⟨hj64, hjb⟩ := mem_bits.1 (mem_pre hpre)
        have hjn : j < xs.length := by
          rcases Nat.lt_or_ge j xs.length with h | h
          · exact h
          · rw [Nat.testBit_lt_two_pow (Nat.lt_of_lt_of_le hXl (Nat.pow_le_pow_right (by decide) h))] at hjb; cases hjb
        obtain ⟨hY, hYl⟩ := trn_nat ht hjn
        have hvk : IntSl hk tv xs := IntSl_ext hvp hx2
        have bk : hk[h.length]? = some (.cells [tv] 22 false) := (hx2.2 _ (by omega) id).trans bp
        generalize hr : pre.foldl (fun r j => r ||| (xs.getD j 0).toNat) (X ||| 2 ^ i) = r at hb hf
        have hor2 : bitsV .or .i64 (r : Int) (xs.getD j 0) = ((r ||| (xs.getD j 0).toNat : Nat) : Int) := by
          have := bitsV_or (a := r) (b := (xs.getD j 0).toNat) (by omega) (by omega)
          rw [← hY] at this; exact this
        simp (config := {maxSteps := 2000000}) only [s28, ↓aw_region, ↓aw_skip, ↓aw_seq, ↓aw_block, ↓aw_exit, ↓aw_ret, ↓sops_nil, ↓sops_go, ↓dops_nil, ↓dopsX_nil, ↓dopsR_nil, ↓vdn, vup, extr_20, extr_21, extr_30, extr_31, extr_32, List.map_cons, List.map_nil, cond_true, cond_false, aop, aThen, aBlock, argEnv, ev, sput, sputO, binK, binI, unK, builtinK, pickK, Nat.reduceBEq, Nat.reduceAdd, Int.reduceBEq, Int.reduceBNe, Int.reduceLT, aPost, resK, tup, tyf, r28_0_a, r28_0_b]
        refine aw_drawX [] (by kernel_rfl) (by kernel_rfl) (by kernel_rfl) (by kernel_rfl) ?_
        simp (config := {maxSteps := 2000000}) only [s28, ↓aw_region, ↓aw_skip, ↓aw_seq, ↓aw_block, ↓aw_exit, ↓aw_ret, ↓sops_nil, ↓sops_go, ↓dops_nil, ↓dopsX_nil, ↓dopsR_nil, ↓vdn, vup, extr_20, extr_21, extr_30, extr_31, extr_32, List.map_cons, List.map_nil, cond_true, cond_false, aop, aThen, aBlock, argEnv, ev, sput, sputO, binK, binI, unK, builtinK, pickK, Nat.reduceBEq, Nat.reduceAdd, Int.reduceBEq, Int.reduceBNe, Int.reduceLT, aPost, resK, tup, tyf, load1 hb shp_3, load1 bk shp_22, hvk.idx el_22 esz_3 hjn, hvk.load shp_3 hjn, hor2, storeI hb shp_3]
        refine ⟨?_, ?_, ?_⟩
        · rw [get_set (get_lt hb), List.foldl_append, hr]; rfl
        · exact ⟨by simp; exact hx2.1, fun q hq _ => by rw [List.getElem?_set_ne (by omega)]; exact hx2.2 q hq id⟩
        · rw [List.foldl_append, hr]; exact Nat.or_lt_two_pow hf hYl
      · rintro hk ⟨hb, hx2, hf⟩
        have hre : (Am.bits X).foldl (fun r j => r ||| (xs.getD j 0).toNat) (X ||| 2 ^ i) = reachF xs i := by rw [reachF, ← hXe]
        rw [hre] at hb hf
        have hvk : IntSl hk tv xs := IntSl_ext hvp hx2
        have hnextE : Ext (fun _ => False) G hk := hE.trans hx2
        have hkl := kingsTo_lt (xs := xs) i (by omega)
        have hor3 : bitsV .or .i64 ((kingsTo xs i : Nat) : Int) (2 ^ i) = ((kingsTo xs i ||| 2 ^ i : Nat) : Int) := by
          have := bitsV_or (a := kingsTo xs i) (b := 2 ^ i) (by omega) (by omega)
          simpa using this
        have hallc := all_call hvk hxl.2
        simp (config := {maxSteps := 2000000}) only [s28, ↓aw_region, ↓aw_skip, ↓aw_seq, ↓aw_block, ↓aw_exit, ↓aw_ret, ↓sops_nil, ↓sops_go, ↓dops_nil, ↓dopsX_nil, ↓dopsR_nil, ↓vdn, vup, extr_20, extr_21, extr_30, extr_31, extr_32, List.map_cons, List.map_nil, cond_true, cond_false, aop, aThen, aBlock, argEnv, ev, sput, sputO, binK, binI, unK, builtinK, pickK, Nat.reduceBEq, Nat.reduceAdd, Int.reduceBEq, Int.reduceBNe, Int.reduceLT, aPost, resK, tup, tyf]
        refine aw_drawX [(2, 1)] (by kernel_rfl) (by kernel_rfl) (by kernel_rfl) (by kernel_rfl) ?_
        simp (config := {maxSteps := 2000000}) only [s28, ↓aw_region, ↓aw_skip, ↓aw_seq, ↓aw_block, ↓aw_exit, ↓aw_ret, ↓sops_nil, ↓sops_go, ↓dops_nil, ↓dopsX_nil, ↓dopsR_nil, ↓vdn, vup, extr_20, extr_21, extr_30, extr_31, extr_32, List.map_cons, List.map_nil, cond_true, cond_false, aop, aThen, aBlock, argEnv, ev, sput, sputO, binK, binI, unK, builtinK, pickK, Nat.reduceBEq, Nat.reduceAdd, Int.reduceBEq, Int.reduceBNe, Int.reduceLT, aPost, resK, tup, tyf, load1 hb shp_3, callK, List.nil_append, List.append_nil, List.toList_toArray, List.cons_append]
        refine ⟨_, _, hallc, rfl, ?_⟩
        by_cases hK : reachF xs i = 2 ^ xs.length - 1
        · have he : (((reachF xs i : Nat) : Int) == ((2 ^ xs.length - 1 : Nat) : Int)) = true := by rw [hK]; exact beq_self_eq_true _
          have hkn : kingsTo xs (i + 1) = kingsTo xs i ||| 2 ^ i := by rw [kingsTo, if_pos hK]
          simp (config := {maxSteps := 2000000}) only [s28, ↓aw_region, ↓aw_skip, ↓aw_seq, ↓aw_block, ↓aw_exit, ↓aw_ret, ↓sops_nil, ↓sops_go, ↓dops_nil, ↓dopsX_nil, ↓dopsR_nil, ↓vdn, vup, extr_20, extr_21, extr_30, extr_31, extr_32, List.map_cons, List.map_nil, cond_true, cond_false, aop, aThen, aBlock, argEnv, ev, sput, sputO, binK, binI, unK, builtinK, pickK, Nat.reduceBEq, Nat.reduceAdd, Int.reduceBEq, Int.reduceBNe, Int.reduceLT, aPost, resK, tup, tyf, he, hshl, hor3, add1 (show i < 9223372036854775807 by omega)]
          exact hQ2 _ _ _ ⟨(i + 1, hk), ⟨by simp only; omega, hnextE⟩, by simp only; omega, by simp (config := {maxSteps := 2000000}) only [↓aw_region, ↓aw_skip, ↓aw_seq, ↓aw_block, ↓aw_exit, ↓aw_ret, ↓sops_nil, ↓sops_go, ↓dops_nil, ↓dopsX_nil, ↓dopsR_nil, ↓vdn, vup, extr_20, extr_21, extr_30, extr_31, extr_32, List.map_cons, List.map_nil, cond_true, cond_false, aop, aThen, aBlock, argEnv, ev, sput, sputO, binK, binI, unK, builtinK, pickK, Nat.reduceBEq, Nat.reduceAdd, Int.reduceBEq, Int.reduceBNe, Int.reduceLT, aPost, resK, tup, tyf, hkn], rfl⟩
        · have he : (((reachF xs i : Nat) : Int) == ((2 ^ xs.length - 1 : Nat) : Int)) = false := by
            have : ((reachF xs i : Nat) : Int) ≠ ((2 ^ xs.length - 1 : Nat) : Int) := fun h => hK (Int.ofNat_inj.1 h)
            simpa using this
          have hkn : kingsTo xs (i + 1) = kingsTo xs i := by rw [kingsTo, if_neg hK]
          simp (config := {maxSteps := 2000000}) only [s28, ↓aw_region, ↓aw_skip, ↓aw_seq, ↓aw_block, ↓aw_exit, ↓aw_ret, ↓sops_nil, ↓sops_go, ↓dops_nil, ↓dopsX_nil, ↓dopsR_nil, ↓vdn, vup, extr_20, extr_21, extr_30, extr_31, extr_32, List.map_cons, List.map_nil, cond_true, cond_false, aop, aThen, aBlock, argEnv, ev, sput, sputO, binK, binI, unK, builtinK, pickK, Nat.reduceBEq, Nat.reduceAdd, Int.reduceBEq, Int.reduceBNe, Int.reduceLT, aPost, resK, tup, tyf, he, add1 (show i < 9223372036854775807 by omega)]
          exact hQ2 _ _ _ ⟨(i + 1, hk), ⟨by simp only; omega, hnextE⟩, by simp only; omega, by simp (config := {maxSteps := 2000000}) only [↓aw_region, ↓aw_skip, ↓aw_seq, ↓aw_block, ↓aw_exit, ↓aw_ret, ↓sops_nil, ↓sops_go, ↓dops_nil, ↓dopsX_nil, ↓dopsR_nil, ↓vdn, vup, extr_20, extr_21, extr_30, extr_31, extr_32, List.map_cons, List.map_nil, cond_true, cond_false, aop, aThen, aBlock, argEnv, ev, sput, sputO, binK, binI, unK, builtinK, pickK, Nat.reduceBEq, Nat.reduceAdd, Int.reduceBEq, Int.reduceBNe, Int.reduceLT, aPost, resK, tup, tyf, hkn], rfl⟩
    · obtain rfl : i = xs.length := by omega
      simp (config := {maxSteps := 2000000}) only [s28, ↓aw_region, ↓aw_skip, ↓aw_seq, ↓aw_block, ↓aw_exit, ↓aw_ret, ↓sops_nil, ↓sops_go, ↓dops_nil, ↓dopsX_nil, ↓dopsR_nil, ↓vdn, vup, extr_20, extr_21, extr_30, extr_31, extr_32, List.map_cons, List.map_nil, cond_true, cond_false, aop, aThen, aBlock, argEnv, ev, sput, sputO, binK, binI, unK, builtinK, pickK, Nat.reduceBEq, Nat.reduceAdd, Int.reduceBEq, Int.reduceBNe, Int.reduceLT, aPost, resK, tup, tyf, l28_1, Int.lt_irrefl]
      refine hQ2 _ _ _ (hQ _ _ _ ?_)
      simp (config := {maxSteps := 2000000}) only [s28, ↓aw_region, ↓aw_skip, ↓aw_seq, ↓aw_block, ↓aw_exit, ↓aw_ret, ↓sops_nil, ↓sops_go, ↓dops_nil, ↓dopsX_nil, ↓dopsR_nil, ↓vdn, vup, extr_20, extr_21, extr_30, extr_31, extr_32, List.map_cons, List.map_nil, cond_true, cond_false, aop, aThen, aBlock, argEnv, ev, sput, sputO, binK, binI, unK, builtinK, pickK, Nat.reduceBEq, Nat.reduceAdd, Int.reduceBEq, Int.reduceBNe, Int.reduceLT, aPost, resK, tup, tyf, if_true]
      exact hExt0.trans hE
end Go.Proofs.Tryd.Am
