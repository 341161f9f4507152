/-
  order: copies, Count, add, slice, Add.
-/
import Derived.Test.YtnjacpfahhjpiaaDoorOrCount
set_option linter.all false
namespace Go.Proofs.Tryd.Am
open Go.Am Ord
set_option maxRecDepth 100000
set_option maxHeartbeats 1000000

theorem clone_call [Tabs prog] {h : Heap} {v : Value} {xs : List Int} (hv : IntSl h v xs) (hl : xs.length < 1099511627776) : ACall prog 66 [v] h fun r h' => IntSl h' r xs ∧ ∃ g, h' = h ++ g := by
  refine s66_call (by simp) ?_
  have hv' := hv
  rcases hv with ⟨rfl, rfl⟩ | ⟨b, o, sp, cap, c, e, ro, rfl, hc, hb, hx⟩
  · simp (config := {maxSteps := 2000000}) only [s66, ↓aw_region, ↓aw_skip, ↓aw_seq, ↓aw_block, ↓aw_exit, ↓aw_ret, ↓sops_nil, ↓sops_go, ↓dops_nil, ↓dopsX_nil, ↓dopsR_nil, ↓vdn, vup, extr_20, extr_21, extr_30, extr_31, extr_32, List.map_cons, List.map_nil, cond_true, cond_false, aop, aThen, aBlock, argEnv, ev, sput, sputO, binK, binI, unK, builtinK, pickK, Nat.reduceBEq, Nat.reduceAdd, Int.reduceBEq, Int.reduceBNe, Int.reduceLT, aPost, resK, tup, tyf, Option.isSome_some]
    exact ⟨.inl ⟨rfl, rfl⟩, [], by rw [List.append_nil]⟩
  · simp (config := {maxSteps := 2000000}) only [s66, ↓aw_region, ↓aw_skip, ↓aw_seq, ↓aw_block, ↓aw_exit, ↓aw_ret, ↓sops_nil, ↓sops_go, ↓dops_nil, ↓dopsX_nil, ↓dopsR_nil, ↓vdn, vup, extr_20, extr_21, extr_30, extr_31, extr_32, List.map_cons, List.map_nil, cond_true, cond_false, aop, aThen, aBlock, argEnv, ev, sput, sputO, binK, binI, unK, builtinK, pickK, Nat.reduceBEq, Nat.reduceAdd, Int.reduceBEq, Int.reduceBNe, Int.reduceLT, aPost, resK, tup, tyf, Option.isSome_some]
    simp only [buildSliceK, el_22, zero_3, esz_3, reps, fillL, mkb, intsOf]
    refine And.intro rfl (And.intro Nat.zero_lt_one (And.intro (Nat.zero_le _) ?_))
    refine (hv'.grow [.ints [] 3 false]).copy app_22_22 hl (by rw [List.getElem?_append_right (Nat.le_refl _)]; simp) ?_
    intro r g hr _
    exact ⟨hr, _, List.append_assoc _ _ _⟩

theorem min9 (n : Nat) : (if (9 : Int) < n then 9 else (n : Int)) = ((min n 9 : Nat) : Int) := by split <;> omega

theorem list_call [Tabs prog] {h : Heap} {v : Value} {xs : List Int} (hv : IntSl h v xs) (hl : xs.length < 9223372036854775808) : ACall prog 18 [v] h fun r h' => IntSl h' r (xs.take 9) ∧ ∃ g, h' = h ++ g := by
  refine s18_call (by simp) ?_
  simp (config := {maxSteps := 2000000}) only [s18, ↓aw_region, ↓aw_skip, ↓aw_seq, ↓aw_block, ↓aw_exit, ↓aw_ret, ↓sops_nil, ↓sops_go, ↓dops_nil, ↓dopsX_nil, ↓dopsR_nil, ↓vdn, vup, extr_20, extr_21, extr_30, extr_31, extr_32, List.map_cons, List.map_nil, cond_true, cond_false, aop, aThen, aBlock, argEnv, ev, sput, sputO, binK, binI, unK, builtinK, pickK, Nat.reduceBEq, Nat.reduceAdd, Int.reduceBEq, Int.reduceBNe, Int.reduceLT, aPost, resK, tup, tyf, hv.len, mmK, Bool.false_eq_true, if_false, gt_iff_lt, min9, Option.map_none, Option.map_some]
  refine hv.pre el_22 esz_3 (Nat.min_le_left _ _) ?_
  intro v' hv'
  have e : xs.take (min xs.length 9) = xs.take 9 := by
    by_cases h : xs.length ≤ 9
    · rw [Nat.min_eq_left h, List.take_length, List.take_of_length_le h]
    · rw [Nat.min_eq_right (by omega)]
  rw [e] at hv'
  simp (config := {maxSteps := 2000000}) only [↓aw_region, ↓aw_skip, ↓aw_seq, ↓aw_block, ↓aw_exit, ↓aw_ret, ↓sops_nil, ↓sops_go, ↓dops_nil, ↓dopsX_nil, ↓dopsR_nil, ↓vdn, vup, extr_20, extr_21, extr_30, extr_31, extr_32, List.map_cons, List.map_nil, cond_true, cond_false, aop, aThen, aBlock, argEnv, ev, sput, sputO, binK, binI, unK, builtinK, pickK, Nat.reduceBEq, Nat.reduceAdd, Int.reduceBEq, Int.reduceBNe, Int.reduceLT, aPost, resK, tup, tyf, callK, List.nil_append, List.append_nil]
  exact clone_call hv' (by simp; omega)

theorem ord_take {o : List Int} : ord (o.take 9) = ord o := by
  by_cases h : o.length ≤ 9
  · rw [List.take_of_length_le h]
  · have h1 : ord o = false := by simp [ord]; omega
    have h2 : ord (o.take 9) = false := by simp [ord]; omega
    rw [h1, h2]
theorem ord_take_eq {o : List Int} (h : ord o = true) : o.take 9 = o := List.take_of_length_le (by have := ord_len h; omega)

theorem storeRd {h : Heap} {o : List Int} {K : Heap → Prop} : storeK prog (h ++ [Blk.cells (ordN 0) 77 false]) 77 (.pointer (some ⟨h.length, 0, none⟩)) (rdV o) K = K ((h ++ [Blk.cells (ordN 0) 77 false]).set h.length (.cells (rdC o) 77 false)) :=
  storeA (c := ordN 0) (get_new _ _) (by rw [shp_77, rdC_len]) (rdC_one o) (by rw [rdC_len]; rfl)
theorem rdBox (h : Heap) (o : List Int) : Ext (fun _ => False) h ((h ++ [Blk.cells (ordN 0) 77 false]).set h.length (.cells (rdC o) 77 false)) ∧ ((h ++ [Blk.cells (ordN 0) 77 false]).set h.length (.cells (rdC o) 77 false))[h.length]? = some (.cells (rdC o) 77 false) :=
  ⟨⟨by simp, fun i hi _ => by rw [List.getElem?_set_ne (by omega), List.getElem?_append_left hi]⟩, get_set (by simp) _⟩

/-- What Count hands back. -/
def countV (o : List Int) : Value := if ord o = true then .tuple #[vint (cn o : Nat), .int .i64 0] else .tuple #[.int .i64 0, .int .i64 2]
theorem count_call [BitTab prog 1] {h : Heap} {v : Value} {o : List Int} (hv : IntSl h v o) (hl : o.length < 9223372036854775808) (hx : ∀ x ∈ o, -9223372036854775808 ≤ x ∧ x < 9223372036854775808) : APure prog 17 [v] h (countV o) := by
  have hlow : Low (countV o) := by unfold countV; split <;> exact .pair (.int _ _) (.int _ _)
  refine ACall.forget hlow ?_
  refine s17_call (by simp) ?_
  simp only [s17]
  simp (config := {maxSteps := 2000000}) only [s17, ↓aw_region, ↓aw_skip, ↓aw_seq, ↓aw_block, ↓aw_exit, ↓aw_ret, ↓sops_nil, ↓sops_go, ↓dops_nil, ↓dopsX_nil, ↓dopsR_nil, ↓vdn, vup, extr_20, extr_21, extr_30, extr_31, extr_32, List.map_cons, List.map_nil, cond_true, cond_false, aop, aThen, aBlock, argEnv, ev, sput, sputO, binK, binI, unK, builtinK, pickK, Nat.reduceBEq, Nat.reduceAdd, Int.reduceBEq, Int.reduceBNe, Int.reduceLT, aPost, resK, tup, tyf, callK, List.nil_append, List.append_nil, List.toList_toArray, List.cons_append]
  refine (read_call hv hl hx).mono ?_
  rintro _ g ⟨rfl, rfl⟩
  simp (config := {maxSteps := 2000000}) only [s17, ↓aw_region, ↓aw_skip, ↓aw_seq, ↓aw_block, ↓aw_exit, ↓aw_ret, ↓sops_nil, ↓sops_go, ↓dops_nil, ↓dopsX_nil, ↓dopsR_nil, ↓vdn, vup, extr_20, extr_21, extr_30, extr_31, extr_32, List.map_cons, List.map_nil, cond_true, cond_false, aop, aThen, aBlock, argEnv, ev, sput, sputO, binK, binI, unK, builtinK, pickK, Nat.reduceBEq, Nat.reduceAdd, Int.reduceBEq, Int.reduceBNe, Int.reduceLT, aPost, resK, tup, tyf, allocK, newPtr, zeroN, zero_77]
  rw [storeRd]
  obtain ⟨hE, hb⟩ := rdBox g o
  generalize hgl : g.length = gl at hE hb ⊢
  generalize (g ++ [Blk.cells (ordN 0) 77 false]).set gl (.cells (rdC o) 77 false) = G at hE hb ⊢
  cases ho : ord o with
  | false =>
    simp (config := {maxSteps := 2000000}) only [s17, ↓aw_region, ↓aw_skip, ↓aw_seq, ↓aw_block, ↓aw_exit, ↓aw_ret, ↓sops_nil, ↓sops_go, ↓dops_nil, ↓dopsX_nil, ↓dopsR_nil, ↓vdn, vup, extr_20, extr_21, extr_30, extr_31, extr_32, List.map_cons, List.map_nil, cond_true, cond_false, aop, aThen, aBlock, argEnv, ev, sput, sputO, binK, binI, unK, builtinK, pickK, Nat.reduceBEq, Nat.reduceAdd, Int.reduceBEq, Int.reduceBNe, Int.reduceLT, aPost, resK, tup, tyf, ho]
    rw [countV, ho]
    exact ⟨rfl, hE⟩
  | true =>
    have hrd : rdC o = ordC o := if_pos (ord_len ho)
    rw [hrd] at hb
    simp (config := {maxSteps := 2000000}) only [s17, ↓aw_region, ↓aw_skip, ↓aw_seq, ↓aw_block, ↓aw_exit, ↓aw_ret, ↓sops_nil, ↓sops_go, ↓dops_nil, ↓dopsX_nil, ↓dopsR_nil, ↓vdn, vup, extr_20, extr_21, extr_30, extr_31, extr_32, List.map_cons, List.map_nil, cond_true, cond_false, aop, aThen, aBlock, argEnv, ev, sput, sputO, binK, binI, unK, builtinK, pickK, Nat.reduceBEq, Nat.reduceAdd, Int.reduceBEq, Int.reduceBNe, Int.reduceLT, aPost, resK, tup, tyf, ho, loadO hb shp_77 (ord_len ho).2, callK, List.nil_append, List.append_nil, List.toList_toArray, List.cons_append]
    refine (counted_call ho).mono ?_
    rintro _ _ ⟨rfl, rfl⟩
    rw [countV, ho]
    exact ⟨rfl, hE⟩

theorem lit2 {h : Heap} {x y : Int} (K : Value → Heap → Prop) : buildSliceK prog h 22 2 [(0, vint x), (1, vint y)] K = K (.slice (some ⟨h.length, 0, none⟩) 2 2) (h ++ [.ints [x, y] 3 false]) := by
  simp only [buildSliceK, el_22, zero_3, esz_3, reps, fillL, mkb, intsOf, notTuple, cellsOf, List.length_singleton, Nat.mul_one, Nat.zero_mul, Nat.zero_add]
  exact propext ⟨fun h => h.2.2.2, fun h => ⟨trivial, Nat.zero_lt_one, by decide, h⟩⟩
theorem litSl {h : Heap} {xs : List Int} : IntSl (h ++ [.ints xs 3 false]) (.slice (some ⟨h.length, 0, none⟩) xs.length xs.length) xs :=
  .inr ⟨h.length, 0, none, xs.length, xs.map vint, 3, false, rfl, Nat.le_refl _, by simp [view, Blk.view], fun i hi => by simp [List.getD, hi]⟩

theorem awake_call [BitTab prog 1] {h : Heap} : APure prog 20 [] h (.bool true) := by
  have hc : countV [0, 0] = .tuple #[vint 2, .int .i64 0] := by
    have h1 : ord [0, 0] = true := by decide
    have h2 : cn [0, 0] = 2 := by decide
    rw [countV, h1, if_pos rfl, h2]; rfl
  refine ACall.forget (Low.bool _) ?_
  refine s20_call (by simp) ?_
  simp (config := {maxSteps := 2000000}) only [s20, ↓aw_region, ↓aw_skip, ↓aw_seq, ↓aw_block, ↓aw_exit, ↓aw_ret, ↓sops_nil, ↓sops_go, ↓dops_nil, ↓dopsX_nil, ↓dopsR_nil, ↓vdn, vup, extr_20, extr_21, extr_30, extr_31, extr_32, List.map_cons, List.map_nil, cond_true, cond_false, aop, aThen, aBlock, argEnv, ev, sput, sputO, binK, binI, unK, builtinK, pickK, Nat.reduceBEq, Nat.reduceAdd, Int.reduceBEq, Int.reduceBNe, Int.reduceLT, aPost, resK, tup, tyf, lit2, callK, List.nil_append, List.append_nil, List.toList_toArray, List.cons_append]
  refine (count_call (o := [0, 0]) litSl (by decide) (by decide)).mono ?_
  rintro _ _ ⟨rfl, rfl⟩
  rw [hc]
  simp (config := {maxSteps := 2000000}) only [s20, ↓aw_region, ↓aw_skip, ↓aw_seq, ↓aw_block, ↓aw_exit, ↓aw_ret, ↓sops_nil, ↓sops_go, ↓dops_nil, ↓dopsX_nil, ↓dopsR_nil, ↓vdn, vup, extr_20, extr_21, extr_30, extr_31, extr_32, List.map_cons, List.map_nil, cond_true, cond_false, aop, aThen, aBlock, argEnv, ev, sput, sputO, binK, binI, unK, builtinK, pickK, Nat.reduceBEq, Nat.reduceAdd, Int.reduceBEq, Int.reduceBNe, Int.reduceLT, aPost, resK, tup, tyf]
  exact Ext.app _ _ _

/-- The order with some elements' sets grown by u. -/
def growL (o : List Int) (u : Nat) (pre : List Nat) : List Int := (List.range o.length).map fun k => if k ∈ pre then ((bt o k ||| u : Nat) : Int) else o.getD k 0
theorem growL_len {o : List Int} {u : Nat} {pre : List Nat} : (growL o u pre).length = o.length := by simp [growL]
theorem growL_nil {o : List Int} {u : Nat} : growL o u [] = o := by
  refine List.ext_getElem (by simp [growL]) fun i h1 h2 => ?_
  simp [growL, List.getD, h2]
theorem growL_snoc {o : List Int} {u x : Nat} {pre : List Nat} (hx : x < o.length) : (growL o u pre).set x ((bt o x ||| u : Nat) : Int) = growL o u (pre ++ [x]) := by
  refine List.ext_getElem (by simp [growL]) fun i h1 h2 => ?_
  rw [List.getElem_set]
  by_cases hi : x = i
  · subst hi; simp [growL]
  · rw [if_neg hi]
    simp [growL, Ne.symm hi]
theorem growL_get {o : List Int} {u x : Nat} {pre : List Nat} (hx : x < o.length) (hn : x ∉ pre) : (growL o u pre).getD x 0 = o.getD x 0 := by
  rw [growL, getD_map, if_pos hx, if_neg hn]
theorem growL_add {o : List Int} (ho : ord o = true) {i j : Nat} (hi : i < o.length) : growL o (bt o j ||| 2 ^ j) (Am.bits (dn o i ||| 2 ^ i)) = addL o i j := by
  rw [growL, addL]
  refine List.map_congr_left fun k hk => ?_
  have hk' := List.mem_range.1 hk
  have hl := ord_len ho
  have : k ∈ Am.bits (dn o i ||| 2 ^ i) ↔ (k = i ∨ ab o k i = true) := by
    rw [mem_bits, Nat.testBit_or, Nat.testBit_two_pow, dn_bit' ho, Bool.or_eq_true, decide_eq_true_eq]
    constructor
    · rintro ⟨_, h | h⟩
      · exact .inr h
      · exact .inl h.symm
    · rintro (h | h)
      · exact ⟨by omega, .inr h.symm⟩
      · exact ⟨by omega, .inl h⟩
  by_cases h : k = i ∨ ab o k i = true
  · rw [if_pos h, if_pos (this.2 h)]
  · rw [if_neg h, if_neg (fun h' => h (this.1 h'))]

theorem add_call [BitTab prog 1] {h : Heap} {o : List Int} (ho : ord o = true) {i j : Nat} (hi : i < o.length) (hj : j < o.length) : APure prog 69 [ordV o, vint i, vint j] h (ordV (addL o i j)) := by
  have hl := ord_len ho
  have hpw := pow6 hl.2
  obtain ⟨hjn, hjl⟩ := ord_nat ho hj
  have h2j : 2 ^ j < 2 ^ o.length := Nat.pow_lt_pow_right (by decide) hj
  have h2i : 2 ^ i < 2 ^ o.length := Nat.pow_lt_pow_right (by decide) hi
  have hul := Nat.or_lt_two_pow hjl h2j
  obtain ⟨u, hu⟩ : ∃ u, u = bt o j ||| 2 ^ j := ⟨_, rfl⟩
  rw [← hu] at hul
  have hor : bitsV .or .i64 (o.getD j 0) (2 ^ j) = ((u : Nat) : Int) := by
    have := bitsV_or (a := bt o j) (b := 2 ^ j) (by omega) (by omega)
    rw [← hjn, pow_cast, ← hu] at this; exact this
  refine ACall.forget (Low.ordV _) ?_
  refine s69_call (by simp) ?_
  simp only [s69]
  refine aw_cut fun N hN => ?_
  simp (config := {maxSteps := 2000000}) only [s69, ↓aw_region, ↓aw_skip, ↓aw_seq, ↓aw_block, ↓aw_exit, ↓aw_ret, ↓sops_nil, ↓sops_go, ↓dops_nil, ↓dopsX_nil, ↓dopsR_nil, ↓vdn, vup, extr_20, extr_21, extr_30, extr_31, extr_32, List.map_cons, List.map_nil, cond_true, cond_false, aop, aThen, aBlock, argEnv, ev, sput, sputO, binK, binI, unK, builtinK, pickK, Nat.reduceBEq, Nat.reduceAdd, Int.reduceBEq, Int.reduceBNe, Int.reduceLT, aPost, resK, tup, tyf, boxO esz_77, newPtr, allocK, zeroN]
  refine hN _ _ ?_
  clear hN N
  obtain ⟨n, hn⟩ : ∃ n, n = h.length := ⟨_, rfl⟩
  obtain ⟨H, hH⟩ : ∃ H, H = h ++ [Blk.cells (ordC o) 77 false] ++ [Blk.cells (ordN 0) 77 false] := ⟨_, rfl⟩
  rw [← hH]
  simp only [List.length_append, List.length_cons, List.length_nil, Nat.zero_add, ← hn]
  have hHl : H.length = n + 2 := by rw [hH, hn]; simp
  have b0 : H[n]? = some (.cells (ordC o) 77 false) := by rw [hH, hn]; exact get_old (get_new _ _) _
  have b1 : H[n + 1]? = some (.cells (ordN 0) 77 false) := by
    rw [hH, hn]; have := get_new (h ++ [Blk.cells (ordC o) 77 false]) (Blk.cells (ordN 0) 77 false)
    simpa using this
  have hE0 : Ext (fun _ => False) h H := by rw [hH, List.append_assoc]; exact Ext.app _ _ _
  clear hH
  refine aw_cut fun N hN => ?_
  refine aw_drawR (fun hp => hp[n]? = some (.cells (ordC o) 77 false)) [(3, 5)] (by kernel_rfl) (by kernel_rfl) (by kernel_rfl) (by kernel_rfl) b0 ?_
  simp (config := {maxSteps := 2000000}) only [s69, ↓aw_region, ↓aw_skip, ↓aw_seq, ↓aw_block, ↓aw_exit, ↓aw_ret, ↓sops_nil, ↓sops_go, ↓dops_nil, ↓dopsX_nil, ↓dopsR_nil, ↓vdn, vup, extr_20, extr_21, extr_30, extr_31, extr_32, List.map_cons, List.map_nil, cond_true, cond_false, aop, aThen, aBlock, argEnv, ev, sput, sputO, binK, binI, unK, builtinK, pickK, Nat.reduceBEq, Nat.reduceAdd, Int.reduceBEq, Int.reduceBNe, Int.reduceLT, aPost, resK, tup, tyf, fldA fld_77_1 esz_75, idxA und_75 esz_3 (show j < 6 by omega), shl1 (show j ≤ 62 by omega), allocK, newPtr]
  refine ⟨vint (o.getD j 0), fun h0 hk => ?_, ?_⟩
  · rw [loadI hk shp_3 hl.2 (show j < 6 by omega)]
  simp (config := {maxSteps := 2000000}) only [s69, ↓aw_region, ↓aw_skip, ↓aw_seq, ↓aw_block, ↓aw_exit, ↓aw_ret, ↓sops_nil, ↓sops_go, ↓dops_nil, ↓dopsX_nil, ↓dopsR_nil, ↓vdn, vup, extr_20, extr_21, extr_30, extr_31, extr_32, List.map_cons, List.map_nil, cond_true, cond_false, aop, aThen, aBlock, argEnv, ev, sput, sputO, binK, binI, unK, builtinK, pickK, Nat.reduceBEq, Nat.reduceAdd, Int.reduceBEq, Int.reduceBNe, Int.reduceLT, aPost, resK, tup, tyf, hor]
  refine ⟨get_old b0 _, ?_⟩
  rw [storeI (v := .int .i64 0) (e := 3) (get_new _ _) shp_3, hHl]
  obtain ⟨G, hG⟩ : ∃ G, G = (H ++ [Blk.cells [Value.int .i64 0] 3 false]).set (n + 2) (.cells [.int .i64 ((u : Nat) : Int)] 3 false) := ⟨_, rfl⟩
  rw [← hG]
  have hGl : G.length = n + 3 := by rw [hG]; simp [hHl]
  have g0 : G[n]? = some (.cells (ordC o) 77 false) := by rw [hG, List.getElem?_set_ne (by omega)]; exact get_old b0 _
  have g1 : G[n + 1]? = some (.cells (ordN 0) 77 false) := by rw [hG, List.getElem?_set_ne (by omega)]; exact get_old b1 _
  have g2 : G[n + 2]? = some (.cells [vint (u : Nat)] 3 false) := by rw [hG]; exact get_set (by simp [hHl]) _
  have hEG : Ext (fun _ => False) h G := ⟨by omega, fun k hk _ => by rw [hG, List.getElem?_set_ne (by omega), List.getElem?_append_left (by omega)]; exact hE0.2 k hk id⟩
  clear hG b0 b1 hE0 hHl
  clear H
  refine ⟨g0, ?_⟩
  refine hN _ _ ?_
  clear hN N
  have hdl := dn_lt (o := o) (i := i)
  have hor2 : bitsV .or .i64 ((dn o i : Nat) : Int) (2 ^ i) = ((dn o i ||| 2 ^ i : Nat) : Int) := by
    rw [← pow_cast]; exact bitsV_or (by omega) (by omega)
  simp (config := {maxSteps := 2000000}) only [s69, ↓aw_region, ↓aw_skip, ↓aw_seq, ↓aw_block, ↓aw_exit, ↓aw_ret, ↓sops_nil, ↓sops_go, ↓dops_nil, ↓dopsX_nil, ↓dopsR_nil, ↓vdn, vup, extr_20, extr_21, extr_30, extr_31, extr_32, List.map_cons, List.map_nil, cond_true, cond_false, aop, aThen, aBlock, argEnv, ev, sput, sputO, binK, binI, unK, builtinK, pickK, Nat.reduceBEq, Nat.reduceAdd, Int.reduceBEq, Int.reduceBNe, Int.reduceLT, aPost, resK, tup, tyf]
  refine aw_drawX [(2, 1)] (by kernel_rfl) (by kernel_rfl) (by kernel_rfl) (by kernel_rfl) ?_
  simp (config := {maxSteps := 2000000}) only [s69, ↓aw_region, ↓aw_skip, ↓aw_seq, ↓aw_block, ↓aw_exit, ↓aw_ret, ↓sops_nil, ↓sops_go, ↓dops_nil, ↓dopsX_nil, ↓dopsR_nil, ↓vdn, vup, extr_20, extr_21, extr_30, extr_31, extr_32, List.map_cons, List.map_nil, cond_true, cond_false, aop, aThen, aBlock, argEnv, ev, sput, sputO, binK, binI, unK, builtinK, pickK, Nat.reduceBEq, Nat.reduceAdd, Int.reduceBEq, Int.reduceBNe, Int.reduceLT, aPost, resK, tup, tyf, loadO g0 shp_77 hl.2, callK, List.nil_append, List.append_nil, List.toList_toArray, List.cons_append]
  refine ⟨_, _, below_call ho, rfl, ?_⟩
  simp (config := {maxSteps := 2000000}) only [s69, ↓aw_region, ↓aw_skip, ↓aw_seq, ↓aw_block, ↓aw_exit, ↓aw_ret, ↓sops_nil, ↓sops_go, ↓dops_nil, ↓dopsX_nil, ↓dopsR_nil, ↓vdn, vup, extr_20, extr_21, extr_30, extr_31, extr_32, List.map_cons, List.map_nil, cond_true, cond_false, aop, aThen, aBlock, argEnv, ev, sput, sputO, binK, binI, unK, builtinK, pickK, Nat.reduceBEq, Nat.reduceAdd, Int.reduceBEq, Int.reduceBNe, Int.reduceLT, aPost, resK, tup, tyf, shl1 (show i ≤ 62 by omega), hor2, callK, List.nil_append, List.append_nil, List.toList_toArray, List.cons_append]
  refine ⟨_, _, elements_call, ?_⟩
  have hsl := Nat.or_lt_two_pow hdl h2i
  refine aw_range bitIter (bx := G.length) (s := dn o i ||| 2 ^ i) (et := 3) rfl (get_new _ _) (by omega) (fun pre hk => hk[n]? = some (.cells (ordC (growL o u pre)) 77 false) ∧ hk[n + 1]? = some (.cells (ordN 0) 77 false) ∧ hk[n + 2]? = some (.cells [vint (u : Nat)] 3 false) ∧ Ext (fun _ => False) h hk) ?_ ?_ ?_
  · have old : ∀ {k B}, G[k]? = some B → ((G ++ [Blk.cells [vint ((dn o i ||| 2 ^ i : Nat) : Int)] 3 false]).set G.length .dead)[k]? = some B := fun {k B} hk => by
      have := get_lt hk
      rw [List.getElem?_set_ne (by omega)]; exact get_old hk _
    refine ⟨by rw [growL_nil]; exact old g0, old g1, old g2, ⟨by simp; omega, fun k hk _ => ?_⟩⟩
    rw [List.getElem?_set_ne (by omega), List.getElem?_append_left (by omega)]; exact hEG.2 k hk id
  · rintro pre x hk hpre ⟨k0, k1, k2, hEk⟩
    obtain ⟨hx64, hxb⟩ := mem_bits.1 (mem_pre hpre)
    have hxn : x < o.length := by
      rcases Nat.lt_or_ge x o.length with h | h
      · exact h
      · rw [Nat.testBit_lt_two_pow (Nat.lt_of_lt_of_le hsl (Nat.pow_le_pow_right (by decide) h))] at hxb; cases hxb
    have hnp : x ∉ pre := fun hx => by
      obtain ⟨t, ht⟩ := hpre
      have hnd := bits_nodup (dn o i ||| 2 ^ i)
      rw [← ht] at hnd
      have := (List.nodup_append.1 (List.nodup_append.1 hnd).1).2.2 x hx x (by simp)
      exact this rfl
    have hgl : (growL o u pre).length ≤ 6 := by rw [growL_len]; exact hl.2
    obtain ⟨hxv, hxl⟩ := ord_nat ho hxn
    have hor3 : bitsV .or .i64 ((growL o u pre).getD x 0) ((u : Nat) : Int) = ((bt o x ||| u : Nat) : Int) := by
      rw [growL_get hxn hnp, hxv]; exact bitsV_or (by omega) (by omega)
    simp (config := {maxSteps := 2000000}) only [s69, ↓aw_region, ↓aw_skip, ↓aw_seq, ↓aw_block, ↓aw_exit, ↓aw_ret, ↓sops_nil, ↓sops_go, ↓dops_nil, ↓dopsX_nil, ↓dopsR_nil, ↓vdn, vup, extr_20, extr_21, extr_30, extr_31, extr_32, List.map_cons, List.map_nil, cond_true, cond_false, aop, aThen, aBlock, argEnv, ev, sput, sputO, binK, binI, unK, builtinK, pickK, Nat.reduceBEq, Nat.reduceAdd, Int.reduceBEq, Int.reduceBNe, Int.reduceLT, aPost, resK, tup, tyf, r69_0_a, r69_0_b]
    refine aw_drawX [] (by kernel_rfl) (by kernel_rfl) (by kernel_rfl) (by kernel_rfl) ?_
    simp (config := {maxSteps := 2000000}) only [s69, ↓aw_region, ↓aw_skip, ↓aw_seq, ↓aw_block, ↓aw_exit, ↓aw_ret, ↓sops_nil, ↓sops_go, ↓dops_nil, ↓dopsX_nil, ↓dopsR_nil, ↓vdn, vup, extr_20, extr_21, extr_30, extr_31, extr_32, List.map_cons, List.map_nil, cond_true, cond_false, aop, aThen, aBlock, argEnv, ev, sput, sputO, binK, binI, unK, builtinK, pickK, Nat.reduceBEq, Nat.reduceAdd, Int.reduceBEq, Int.reduceBNe, Int.reduceLT, aPost, resK, tup, tyf, fldA fld_77_1 esz_75, idxA und_75 esz_3 (show x < 6 by omega), loadI k0 shp_3 hgl (show x < 6 by omega), load1 k2 shp_3, hor3]
    rw [storeN k0 shp_3 hgl (by rw [growL_len]; exact hxn), growL_snoc hxn]
    have hlk := get_lt k0
    refine ⟨get_set hlk _, ?_, ?_, ⟨by simp; exact hEk.1, fun k hk' _ => ?_⟩⟩
    · rw [List.getElem?_set_ne (by omega)]; exact k1
    · rw [List.getElem?_set_ne (by omega)]; exact k2
    · rw [List.getElem?_set_ne (by omega)]; exact hEk.2 k hk' id
  · rintro hk ⟨k0, k1, k2, hEk⟩
    rw [hu, growL_add ho hi] at k0
    have hal : (addL o i j).length ≤ 6 := by rw [addL_len]; exact hl.2
    have hlk := get_lt k1
    have k1' : (hk.set (n + 1) (.cells (ordC (addL o i j)) 77 false))[n + 1]? = some (.cells (ordC (addL o i j)) 77 false) := get_set hlk _
    simp (config := {maxSteps := 2000000}) only [s69, ↓aw_region, ↓aw_skip, ↓aw_seq, ↓aw_block, ↓aw_exit, ↓aw_ret, ↓sops_nil, ↓sops_go, ↓dops_nil, ↓dopsX_nil, ↓dopsR_nil, ↓vdn, vup, extr_20, extr_21, extr_30, extr_31, extr_32, List.map_cons, List.map_nil, cond_true, cond_false, aop, aThen, aBlock, argEnv, ev, sput, sputO, binK, binI, unK, builtinK, pickK, Nat.reduceBEq, Nat.reduceAdd, Int.reduceBEq, Int.reduceBNe, Int.reduceLT, aPost, resK, tup, tyf, loadO k0 shp_77 hal]
    rw [storeO k1 rfl shp_77 hal]
    simp (config := {maxSteps := 2000000}) only [s69, ↓aw_region, ↓aw_skip, ↓aw_seq, ↓aw_block, ↓aw_exit, ↓aw_ret, ↓sops_nil, ↓sops_go, ↓dops_nil, ↓dopsX_nil, ↓dopsR_nil, ↓vdn, vup, extr_20, extr_21, extr_30, extr_31, extr_32, List.map_cons, List.map_nil, cond_true, cond_false, aop, aThen, aBlock, argEnv, ev, sput, sputO, binK, binI, unK, builtinK, pickK, Nat.reduceBEq, Nat.reduceAdd, Int.reduceBEq, Int.reduceBNe, Int.reduceLT, aPost, resK, tup, tyf, loadO k1' shp_77 hal]
    exact ⟨by simp; exact hEk.1, fun k hk' _ => by rw [List.getElem?_set_ne (by omega)]; exact hEk.2 k hk' id⟩
end Go.Proofs.Tryd.Am
