/-
  order: the reference's Add; how many lines have one element before another one; the most even pair.
-/
import Derived.Test.YtnjacpfahhjpiaaDoorOrRef
import Derived.Test.YtnjacpfahhjpiaaDoorAmU
set_option linter.all false
namespace Go.Proofs.Tryd.Am
open Go.Am Ord
set_option maxRecDepth 100000
set_option maxHeartbeats 1000000

theorem idxL {P : Program} {t e : TypeId} {b n c k : Nat} {sp : Option Nat} {K : Value → Prop} (he : elemOf' P t = some e) (hs : esz P e = some 1) (hk : k < n) : idxAddrK P t (.slice (some ⟨b, 0, sp⟩) n c) (vint (k : Nat)) K = K (.pointer (some ⟨b, k, none⟩)) := by
  simp only [idxAddrK, he, hs, Int.natCast_nonneg, Int.toNat_natCast, Nat.mul_one, Nat.zero_add, true_and, Int.ofNat_lt.2 hk]
theorem lit0 {h : Heap} (K : Value → Heap → Prop) : buildSliceK prog h 22 0 [] K = K (.slice (some ⟨h.length, 0, none⟩) 0 0) (h ++ [.ints [] 3 false]) := by
  simp only [buildSliceK, el_22, zero_3, esz_3, reps, fillL, mkb, intsOf, List.length_singleton, Nat.mul_one, Nat.zero_mul]
  exact propext ⟨fun h => h.2.2.2, fun h => ⟨trivial, Nat.zero_lt_one, by decide, h⟩⟩

/-- Who gets j, among the first. -/
def whoTo (o : List Int) (i k : Nat) : List Nat := (List.range k).filter fun q => decide (q = i) || ab o q i
theorem whoTo_succ (o : List Int) (i k : Nat) : whoTo o i (k + 1) = if k = i ∨ ab o k i = true then whoTo o i k ++ [k] else whoTo o i k := by
  rw [whoTo, whoTo, List.range_succ, List.filter_append, List.filter_cons]
  by_cases h : k = i ∨ ab o k i = true
  · rw [if_pos h, if_pos (by simpa using h)]; rfl
  · rw [if_neg h, if_neg (by simpa using h)]; simp
theorem whoTo_not (o : List Int) (i k : Nat) : k ∉ whoTo o i k := fun h => by
  have := List.mem_range.1 (List.mem_filter.1 h).1; omega
theorem whoTo_all {o : List Int} {i j : Nat} : growL o (bt o j ||| 2 ^ j) (whoTo o i o.length) = addL o i j := by
  rw [growL, addL]
  refine List.map_congr_left fun k hk => ?_
  have : k ∈ whoTo o i o.length ↔ (k = i ∨ ab o k i = true) := by
    rw [whoTo, List.mem_filter]
    simp only [Bool.or_eq_true, decide_eq_true_eq]
    exact ⟨fun h => h.2, fun h => ⟨hk, h⟩⟩
  by_cases h : k = i ∨ ab o k i = true
  · rw [if_pos h, if_pos (this.2 h)]
  · rw [if_neg h, if_neg (fun h' => h (this.1 h'))]

theorem radd_call [Tabs prog] {h : Heap} {v : Value} {o : List Int} (hv : IntSl h v o) (ho : ord o = true) {i j : Nat} (hi : i < o.length) (hj : j < o.length) :
    ACall prog 40 [v, vint i, vint j] h fun r h' => IntSl h' r (addL o i j) ∧ Ext (fun _ => False) h h' := by
  have hl := ord_len ho
  have hpw := pow6 hl.2
  have hne : o ≠ [] := by rintro rfl; simp at hl
  obtain ⟨hjn, hjl⟩ := ord_nat ho hj
  have h2j : 2 ^ j < 2 ^ o.length := Nat.pow_lt_pow_right (by decide) hj
  have hul := Nat.or_lt_two_pow hjl h2j
  obtain ⟨u, hu⟩ : ∃ u, u = bt o j ||| 2 ^ j := ⟨_, rfl⟩
  rw [← hu] at hul
  have hor : bitsV .or .i64 (o.getD j 0) (2 ^ j) = ((u : Nat) : Int) := by
    have := bitsV_or (a := bt o j) (b := 2 ^ j) (by omega) (by omega)
    rw [← hjn, pow_cast, ← hu] at this; exact this
  refine s40_call (by simp) ?_
  simp only [s40]
  refine aw_cut fun N hN => ?_
  simp (config := {maxSteps := 2000000}) only [s40, ↓aw_region, ↓aw_skip, ↓aw_seq, ↓aw_block, ↓aw_exit, ↓aw_ret, ↓sops_nil, ↓sops_go, ↓dops_nil, ↓dopsX_nil, ↓dopsR_nil, ↓vdn, vup, extr_20, extr_21, extr_30, extr_31, extr_32, List.map_cons, List.map_nil, cond_true, cond_false, aop, aThen, aBlock, argEnv, ev, sput, sputO, binK, binI, unK, builtinK, pickK, Nat.reduceBEq, Nat.reduceAdd, Int.reduceBEq, Int.reduceBNe, Int.reduceLT, aPost, resK, tup, tyf]
  refine hN _ _ ?_
  clear hN N
  refine aw_cut fun N hN => ?_
  simp (config := {maxSteps := 2000000}) only [s40, ↓aw_region, ↓aw_skip, ↓aw_seq, ↓aw_block, ↓aw_exit, ↓aw_ret, ↓sops_nil, ↓sops_go, ↓dops_nil, ↓dopsX_nil, ↓dopsR_nil, ↓vdn, vup, extr_20, extr_21, extr_30, extr_31, extr_32, List.map_cons, List.map_nil, cond_true, cond_false, aop, aThen, aBlock, argEnv, ev, sput, sputO, binK, binI, unK, builtinK, pickK, Nat.reduceBEq, Nat.reduceAdd, Int.reduceBEq, Int.reduceBNe, Int.reduceLT, aPost, resK, tup, tyf, lit0]
  refine (hv.grow [.ints [] 3 false]).copyOwn hne app_22_22 (by omega) (get_new _ _) ?_
  refine hN _ _ ?_
  clear hN N
  obtain ⟨n, hn⟩ : ∃ n, n = (h ++ [Blk.ints [] 3 false]).length := ⟨_, rfl⟩
  obtain ⟨H, hH⟩ : ∃ H, H = h ++ [Blk.ints [] 3 false] ++ [Blk.ints o 3 false] := ⟨_, rfl⟩
  rw [← hn, ← hH]
  have b0 : H[n]? = some (.ints o 3 false) := by rw [hH, hn]; exact get_new _ _
  have hE0 : Ext (fun _ => False) h H := by rw [hH, List.append_assoc]; exact Ext.app _ _ _
  have hnl : h.length < n := by rw [hn]; simp
  clear hH hn
  obtain ⟨S, hS⟩ : ∃ S : Value, S = .slice (some ⟨n, 0, some 0⟩) o.length o.length := ⟨_, rfl⟩
  rw [← hS]
  have hidx : ∀ {k : Nat} {K : Value → Prop}, k < o.length → idxAddrK prog 22 S (vint (k : Nat)) K = K (.pointer (some ⟨n, k, none⟩)) := fun {k K} hk => by rw [hS]; exact idxL el_22 esz_3 hk
  simp (config := {maxSteps := 2000000}) only [s40, ↓aw_region, ↓aw_skip, ↓aw_seq, ↓aw_block, ↓aw_exit, ↓aw_ret, ↓sops_nil, ↓sops_go, ↓dops_nil, ↓dopsX_nil, ↓dopsR_nil, ↓vdn, vup, extr_20, extr_21, extr_30, extr_31, extr_32, List.map_cons, List.map_nil, cond_true, cond_false, aop, aThen, aBlock, argEnv, ev, sput, sputO, binK, binI, unK, builtinK, pickK, Nat.reduceBEq, Nat.reduceAdd, Int.reduceBEq, Int.reduceBNe, Int.reduceLT, aPost, resK, tup, tyf, hv.len, ↓aw_loop_eq]
  refine aws_hide fun Q hQ => ?_
  refine aw_loop (γ := Nat × Heap) (fun s => s.1 ≤ o.length ∧ s.2[n]? = some (.ints (growL o u (whoTo o i s.1)) 3 false) ∧ Ext (fun _ => False) h s.2)
    (fun s => ([(0, v), (1, vint i), (2, vint j), (7, S), (13, vint o.length), (14, vint s.1)], s.2)) (fun s => o.length - s.1) (0, H) ⟨Nat.zero_le _, by rw [show whoTo o i 0 = [] from rfl, growL_nil]; exact b0, hE0⟩ (by simp (config := {maxSteps := 2000000}) only [↓aw_region, ↓aw_skip, ↓aw_seq, ↓aw_block, ↓aw_exit, ↓aw_ret, ↓sops_nil, ↓sops_go, ↓dops_nil, ↓dopsX_nil, ↓dopsR_nil, ↓vdn, vup, extr_20, extr_21, extr_30, extr_31, extr_32, List.map_cons, List.map_nil, cond_true, cond_false, aop, aThen, aBlock, argEnv, ev, sput, sputO, binK, binI, unK, builtinK, pickK, Nat.reduceBEq, Nat.reduceAdd, Int.reduceBEq, Int.reduceBNe, Int.reduceLT, aPost, resK, tup, tyf, Int.natCast_zero]) rfl ?_
  rintro ⟨k, hp⟩ ⟨hk, e0, hE⟩
  simp only at hk e0 hE
  have hvp : IntSl hp v o := IntSl_ext hv hE
  refine aw_hide fun Q2 hQ2 => ?_
  by_cases hkn : (k : Int) < o.length
  · have hkn' : k < o.length := by omega
    obtain ⟨hkv, hkl⟩ := ord_nat ho hkn'
    have hlen0 : k < (growL o u (whoTo o i k)).length := by rw [growL_len]; exact hkn'
    have hor3 : bitsV .or .i64 ((growL o u (whoTo o i k)).getD k 0) ((u : Nat) : Int) = ((bt o k ||| u : Nat) : Int) := by
      rw [growL_get hkn' (whoTo_not o i k), hkv]; exact bitsV_or (by omega) (by omega)
    have hlp := get_lt e0
    have store : ∀ (hc : k = i ∨ ab o k i = true), (hp.set n (.ints ((growL o u (whoTo o i k)).set k ((bt o k ||| u : Nat) : Int)) 3 false))[n]? = some (.ints (growL o u (whoTo o i (k + 1))) 3 false) ∧ Ext (fun _ => False) h (hp.set n (.ints ((growL o u (whoTo o i k)).set k ((bt o k ||| u : Nat) : Int)) 3 false)) := fun hc => by
      refine ⟨?_, by simp; exact hE.1, fun q hq _ => by rw [List.getElem?_set_ne (by omega)]; exact hE.2 q hq id⟩
      rw [get_set hlp, growL_snoc hkn', whoTo_succ, if_pos hc]
    simp only [l40_0]
    by_cases hki : k = i
    · have hq : ((k : Int) == (i : Int)) = true := by rw [hki]; exact beq_self_eq_true _
      simp (config := {maxSteps := 2000000}) only [s40, ↓aw_region, ↓aw_skip, ↓aw_seq, ↓aw_block, ↓aw_exit, ↓aw_ret, ↓sops_nil, ↓sops_go, ↓dops_nil, ↓dopsX_nil, ↓dopsR_nil, ↓vdn, vup, extr_20, extr_21, extr_30, extr_31, extr_32, List.map_cons, List.map_nil, cond_true, cond_false, aop, aThen, aBlock, argEnv, ev, sput, sputO, binK, binI, unK, builtinK, pickK, Nat.reduceBEq, Nat.reduceAdd, Int.reduceBEq, Int.reduceBNe, Int.reduceLT, aPost, resK, tup, tyf, hkn, hq]
      refine aw_drawX [] (by kernel_rfl) (by kernel_rfl) (by kernel_rfl) (by kernel_rfl) ?_
      simp (config := {maxSteps := 2000000}) only [s40, ↓aw_region, ↓aw_skip, ↓aw_seq, ↓aw_block, ↓aw_exit, ↓aw_ret, ↓sops_nil, ↓sops_go, ↓dops_nil, ↓dopsX_nil, ↓dopsR_nil, ↓vdn, vup, extr_20, extr_21, extr_30, extr_31, extr_32, List.map_cons, List.map_nil, cond_true, cond_false, aop, aThen, aBlock, argEnv, ev, sput, sputO, binK, binI, unK, builtinK, pickK, Nat.reduceBEq, Nat.reduceAdd, Int.reduceBEq, Int.reduceBNe, Int.reduceLT, aPost, resK, tup, tyf, hidx hkn', loadX e0 shp_3 hlen0, hvp.idx el_22 esz_3 hj, hvp.load shp_3 hj, shl1 (show j ≤ 62 by omega), hor, hor3, storeX e0 shp_3 hlen0, add1 (show k < 9223372036854775807 by omega)]
      exact hQ2 _ _ _ ⟨(k + 1, _), ⟨by simp only; omega, store (.inl hki)⟩, by simp only; omega, by simp (config := {maxSteps := 2000000}) only [↓aw_region, ↓aw_skip, ↓aw_seq, ↓aw_block, ↓aw_exit, ↓aw_ret, ↓sops_nil, ↓sops_go, ↓dops_nil, ↓dopsX_nil, ↓dopsR_nil, ↓vdn, vup, extr_20, extr_21, extr_30, extr_31, extr_32, List.map_cons, List.map_nil, cond_true, cond_false, aop, aThen, aBlock, argEnv, ev, sput, sputO, binK, binI, unK, builtinK, pickK, Nat.reduceBEq, Nat.reduceAdd, Int.reduceBEq, Int.reduceBNe, Int.reduceLT, aPost, resK, tup, tyf], rfl⟩
    · have hq : ((k : Int) == (i : Int)) = false := by
        have : (k : Int) ≠ (i : Int) := by omega
        simpa using this
      simp (config := {maxSteps := 2000000}) only [s40, ↓aw_region, ↓aw_skip, ↓aw_seq, ↓aw_block, ↓aw_exit, ↓aw_ret, ↓sops_nil, ↓sops_go, ↓dops_nil, ↓dopsX_nil, ↓dopsR_nil, ↓vdn, vup, extr_20, extr_21, extr_30, extr_31, extr_32, List.map_cons, List.map_nil, cond_true, cond_false, aop, aThen, aBlock, argEnv, ev, sput, sputO, binK, binI, unK, builtinK, pickK, Nat.reduceBEq, Nat.reduceAdd, Int.reduceBEq, Int.reduceBNe, Int.reduceLT, aPost, resK, tup, tyf, hkn, hq, callK, List.nil_append, List.append_nil, List.toList_toArray, List.cons_append]
      refine (above_call hvp ho hkn').mono ?_
      rintro _ _ ⟨rfl, rfl⟩
      cases hab : ab o k i with
      | false =>
        have hw : whoTo o i (k + 1) = whoTo o i k := by rw [whoTo_succ, if_neg (by simp [hki, hab])]
        simp (config := {maxSteps := 2000000}) only [s40, ↓aw_region, ↓aw_skip, ↓aw_seq, ↓aw_block, ↓aw_exit, ↓aw_ret, ↓sops_nil, ↓sops_go, ↓dops_nil, ↓dopsX_nil, ↓dopsR_nil, ↓vdn, vup, extr_20, extr_21, extr_30, extr_31, extr_32, List.map_cons, List.map_nil, cond_true, cond_false, aop, aThen, aBlock, argEnv, ev, sput, sputO, binK, binI, unK, builtinK, pickK, Nat.reduceBEq, Nat.reduceAdd, Int.reduceBEq, Int.reduceBNe, Int.reduceLT, aPost, resK, tup, tyf, hab, add1 (show k < 9223372036854775807 by omega)]
        exact hQ2 _ _ _ ⟨(k + 1, _), ⟨by simp only; omega, by simp only; rw [hw]; exact e0, hE⟩, by simp only; omega, by simp (config := {maxSteps := 2000000}) only [↓aw_region, ↓aw_skip, ↓aw_seq, ↓aw_block, ↓aw_exit, ↓aw_ret, ↓sops_nil, ↓sops_go, ↓dops_nil, ↓dopsX_nil, ↓dopsR_nil, ↓vdn, vup, extr_20, extr_21, extr_30, extr_31, extr_32, List.map_cons, List.map_nil, cond_true, cond_false, aop, aThen, aBlock, argEnv, ev, sput, sputO, binK, binI, unK, builtinK, pickK, Nat.reduceBEq, Nat.reduceAdd, Int.reduceBEq, Int.reduceBNe, Int.reduceLT, aPost, resK, tup, tyf], rfl⟩
      | true =>
        simp (config := {maxSteps := 2000000}) only [s40, ↓aw_region, ↓aw_skip, ↓aw_seq, ↓aw_block, ↓aw_exit, ↓aw_ret, ↓sops_nil, ↓sops_go, ↓dops_nil, ↓dopsX_nil, ↓dopsR_nil, ↓vdn, vup, extr_20, extr_21, extr_30, extr_31, extr_32, List.map_cons, List.map_nil, cond_true, cond_false, aop, aThen, aBlock, argEnv, ev, sput, sputO, binK, binI, unK, builtinK, pickK, Nat.reduceBEq, Nat.reduceAdd, Int.reduceBEq, Int.reduceBNe, Int.reduceLT, aPost, resK, tup, tyf, hab]
        refine aw_drawX [] (by kernel_rfl) (by kernel_rfl) (by kernel_rfl) (by kernel_rfl) ?_
        simp (config := {maxSteps := 2000000}) only [s40, ↓aw_region, ↓aw_skip, ↓aw_seq, ↓aw_block, ↓aw_exit, ↓aw_ret, ↓sops_nil, ↓sops_go, ↓dops_nil, ↓dopsX_nil, ↓dopsR_nil, ↓vdn, vup, extr_20, extr_21, extr_30, extr_31, extr_32, List.map_cons, List.map_nil, cond_true, cond_false, aop, aThen, aBlock, argEnv, ev, sput, sputO, binK, binI, unK, builtinK, pickK, Nat.reduceBEq, Nat.reduceAdd, Int.reduceBEq, Int.reduceBNe, Int.reduceLT, aPost, resK, tup, tyf, hidx hkn', loadX e0 shp_3 hlen0, hvp.idx el_22 esz_3 hj, hvp.load shp_3 hj, shl1 (show j ≤ 62 by omega), hor, hor3, storeX e0 shp_3 hlen0, add1 (show k < 9223372036854775807 by omega)]
        exact hQ2 _ _ _ ⟨(k + 1, _), ⟨by simp only; omega, store (.inr hab)⟩, by simp only; omega, by simp (config := {maxSteps := 2000000}) only [↓aw_region, ↓aw_skip, ↓aw_seq, ↓aw_block, ↓aw_exit, ↓aw_ret, ↓sops_nil, ↓sops_go, ↓dops_nil, ↓dopsX_nil, ↓dopsR_nil, ↓vdn, vup, extr_20, extr_21, extr_30, extr_31, extr_32, List.map_cons, List.map_nil, cond_true, cond_false, aop, aThen, aBlock, argEnv, ev, sput, sputO, binK, binI, unK, builtinK, pickK, Nat.reduceBEq, Nat.reduceAdd, Int.reduceBEq, Int.reduceBNe, Int.reduceLT, aPost, resK, tup, tyf], rfl⟩
  · obtain rfl : k = o.length := by omega
    rw [hu, whoTo_all] at e0
    simp (config := {maxSteps := 2000000}) only [s40, ↓aw_region, ↓aw_skip, ↓aw_seq, ↓aw_block, ↓aw_exit, ↓aw_ret, ↓sops_nil, ↓sops_go, ↓dops_nil, ↓dopsX_nil, ↓dopsR_nil, ↓vdn, vup, extr_20, extr_21, extr_30, extr_31, extr_32, List.map_cons, List.map_nil, cond_true, cond_false, aop, aThen, aBlock, argEnv, ev, sput, sputO, binK, binI, unK, builtinK, pickK, Nat.reduceBEq, Nat.reduceAdd, Int.reduceBEq, Int.reduceBNe, Int.reduceLT, aPost, resK, tup, tyf, l40_0, Int.lt_irrefl]
    refine hQ2 _ _ _ (hQ _ _ _ ?_)
    simp (config := {maxSteps := 2000000}) only [s40, ↓aw_region, ↓aw_skip, ↓aw_seq, ↓aw_block, ↓aw_exit, ↓aw_ret, ↓sops_nil, ↓sops_go, ↓dops_nil, ↓dopsX_nil, ↓dopsR_nil, ↓vdn, vup, extr_20, extr_21, extr_30, extr_31, extr_32, List.map_cons, List.map_nil, cond_true, cond_false, aop, aThen, aBlock, argEnv, ev, sput, sputO, binK, binI, unK, builtinK, pickK, Nat.reduceBEq, Nat.reduceAdd, Int.reduceBEq, Int.reduceBNe, Int.reduceLT, aPost, resK, tup, tyf]
    refine ⟨?_, hE⟩
    rw [hS]
    refine .inr ⟨n, 0, some 0, o.length, (addL o i j).map vint, 3, false, by rw [addL_len], by rw [addL_len]; exact Nat.le_refl _, by simp [view, e0, Blk.view], fun q hq => by simp [List.getD, hq]⟩

theorem before_call [BitTab prog 1] {h : Heap} {o : List Int} (ho : ord o = true) {i j : Nat} (hi : i < o.length) (hj : j < o.length) : APure prog 72 [ordV o, vint i, vint j] h (vint (befN o i j : Nat)) := by
  have hl := ord_len ho
  refine ACall.forget (Low.int _ _) ?_
  refine s72_call (by simp) ?_
  simp only [s72]
  refine aw_cut fun N hN => ?_
  simp (config := {maxSteps := 2000000}) only [s72, ↓aw_region, ↓aw_skip, ↓aw_seq, ↓aw_block, ↓aw_exit, ↓aw_ret, ↓sops_nil, ↓sops_go, ↓dops_nil, ↓dopsX_nil, ↓dopsR_nil, ↓vdn, vup, extr_20, extr_21, extr_30, extr_31, extr_32, List.map_cons, List.map_nil, cond_true, cond_false, aop, aThen, aBlock, argEnv, ev, sput, sputO, binK, binI, unK, builtinK, pickK, Nat.reduceBEq, Nat.reduceAdd, Int.reduceBEq, Int.reduceBNe, Int.reduceLT, aPost, resK, tup, tyf, boxO esz_77, newPtr]
  refine hN _ _ ?_
  clear hN N
  have b0 := get_new h (Blk.cells (ordC o) 77 false)
  have hE : Ext (fun _ => False) h (h ++ [Blk.cells (ordC o) 77 false]) := Ext.app _ _ _
  generalize h ++ [Blk.cells (ordC o) 77 false] = H at b0 hE ⊢
  cases hab : ab o i j with
  | true =>
    have hb : befN o i j = cn o := by rw [befN, if_pos hab]
    simp (config := {maxSteps := 2000000}) only [s72, ↓aw_region, ↓aw_skip, ↓aw_seq, ↓aw_block, ↓aw_exit, ↓aw_ret, ↓sops_nil, ↓sops_go, ↓dops_nil, ↓dopsX_nil, ↓dopsR_nil, ↓vdn, vup, extr_20, extr_21, extr_30, extr_31, extr_32, List.map_cons, List.map_nil, cond_true, cond_false, aop, aThen, aBlock, argEnv, ev, sput, sputO, binK, binI, unK, builtinK, pickK, Nat.reduceBEq, Nat.reduceAdd, Int.reduceBEq, Int.reduceBNe, Int.reduceLT, aPost, resK, tup, tyf, fldA fld_77_1 esz_75, idxA und_75 esz_3 (show i < 6 by omega), loadI b0 shp_3 hl.2 (show i < 6 by omega), testO ho hi, hab, if_true, if_false, Bool.false_eq_true, Int.reduceBEq, loadO b0 shp_77 hl.2, callK, List.nil_append, List.append_nil, List.toList_toArray, List.cons_append]
    refine (counted_call ho).mono ?_
    rintro _ _ ⟨rfl, rfl⟩
    exact ⟨by rw [hb], hE⟩
  | false =>
    simp (config := {maxSteps := 2000000}) only [s72, ↓aw_region, ↓aw_skip, ↓aw_seq, ↓aw_block, ↓aw_exit, ↓aw_ret, ↓sops_nil, ↓sops_go, ↓dops_nil, ↓dopsX_nil, ↓dopsR_nil, ↓vdn, vup, extr_20, extr_21, extr_30, extr_31, extr_32, List.map_cons, List.map_nil, cond_true, cond_false, aop, aThen, aBlock, argEnv, ev, sput, sputO, binK, binI, unK, builtinK, pickK, Nat.reduceBEq, Nat.reduceAdd, Int.reduceBEq, Int.reduceBNe, Int.reduceLT, aPost, resK, tup, tyf, fldA fld_77_1 esz_75, idxA und_75 esz_3 (show i < 6 by omega), loadI b0 shp_3 hl.2 (show i < 6 by omega), testO ho hi, hab, if_true, if_false, Bool.false_eq_true, Int.reduceBEq, loadO b0 shp_77 hl.2, callK, List.nil_append, List.append_nil, List.toList_toArray, List.cons_append]
    refine (free_call ho hi hj).mono ?_
    rintro _ _ ⟨rfl, rfl⟩
    cases hf : fr o i j with
    | false =>
      have hb : befN o i j = 0 := by rw [befN, if_neg (by rw [hab]; decide), if_neg (by rw [hf]; decide)]
      simp (config := {maxSteps := 2000000}) only [s72, ↓aw_region, ↓aw_skip, ↓aw_seq, ↓aw_block, ↓aw_exit, ↓aw_ret, ↓sops_nil, ↓sops_go, ↓dops_nil, ↓dopsX_nil, ↓dopsR_nil, ↓vdn, vup, extr_20, extr_21, extr_30, extr_31, extr_32, List.map_cons, List.map_nil, cond_true, cond_false, aop, aThen, aBlock, argEnv, ev, sput, sputO, binK, binI, unK, builtinK, pickK, Nat.reduceBEq, Nat.reduceAdd, Int.reduceBEq, Int.reduceBNe, Int.reduceLT, aPost, resK, tup, tyf, hf, hb, Int.natCast_zero]
      exact hE
    | true =>
      have hb : befN o i j = cn (addL o i j) := by rw [befN, if_neg (by rw [hab]; decide), if_pos hf]
      have hff := hf
      simp only [fr, Bool.and_eq_true, decide_eq_true_eq, Bool.not_eq_true'] at hff
      simp (config := {maxSteps := 2000000}) only [s72, ↓aw_region, ↓aw_skip, ↓aw_seq, ↓aw_block, ↓aw_exit, ↓aw_ret, ↓sops_nil, ↓sops_go, ↓dops_nil, ↓dopsX_nil, ↓dopsR_nil, ↓vdn, vup, extr_20, extr_21, extr_30, extr_31, extr_32, List.map_cons, List.map_nil, cond_true, cond_false, aop, aThen, aBlock, argEnv, ev, sput, sputO, binK, binI, unK, builtinK, pickK, Nat.reduceBEq, Nat.reduceAdd, Int.reduceBEq, Int.reduceBNe, Int.reduceLT, aPost, resK, tup, tyf, hf, loadO b0 shp_77 hl.2, callK, List.nil_append, List.append_nil, List.toList_toArray, List.cons_append]
      refine (add_call ho hi hj).mono ?_
      rintro _ _ ⟨rfl, rfl⟩
      refine (counted_call (addL_ord ho hi hj hff.1.1 hff.2)).mono ?_
      rintro _ _ ⟨rfl, rfl⟩
      exact ⟨by rw [hb], hE⟩
end Go.Proofs.Tryd.Am
