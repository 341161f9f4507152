/-
  order: slice, Add.
-/
import Derived.Test.YtnjacpfahhjpiaaDoorOrAdd
import Derived.Test.YtnjacpfahhjpiaaDoorAmU
set_option linter.all false
namespace Go.Proofs.Tryd.Am
open Go.Am Ord
set_option maxRecDepth 100000
set_option maxHeartbeats 1000000

theorem clone_new [Tabs prog] {h : Heap} {v : Value} {xs : List Int} (hv : IntSl h v xs) (hx : xs ≠ []) (hl : xs.length < 1099511627776) : ACall prog 66 [v] h fun r h' => IntSl h' r xs ∧ (∃ g, h' = h ++ g) ∧ ∀ b, blkOf r = some b → h.length ≤ b := by
  refine s66_call (by simp) ?_
  have hv' := hv
  rcases hv with ⟨rfl, rfl⟩ | ⟨b, o, sp, cap, c, e, ro, rfl, hc, hb, _⟩
  · exact absurd rfl hx
  · simp (config := {maxSteps := 2000000}) only [s66, ↓aw_region, ↓aw_skip, ↓aw_seq, ↓aw_block, ↓aw_exit, ↓aw_ret, ↓sops_nil, ↓sops_go, ↓dops_nil, ↓dopsX_nil, ↓dopsR_nil, ↓vdn, vup, extr_20, extr_21, extr_30, extr_31, extr_32, List.map_cons, List.map_nil, cond_true, cond_false, aop, aThen, aBlock, argEnv, ev, sput, sputO, binK, binI, unK, builtinK, pickK, Nat.reduceBEq, Nat.reduceAdd, Int.reduceBEq, Int.reduceBNe, Int.reduceLT, aPost, resK, tup, tyf, Option.isSome_some]
    simp only [buildSliceK, el_22, zero_3, esz_3, reps, fillL, mkb, intsOf]
    refine And.intro rfl (And.intro Nat.zero_lt_one (And.intro (Nat.zero_le _) ?_))
    refine (hv'.grow [.ints [] 3 false]).copyOwn hx app_22_22 hl (by rw [List.getElem?_append_right (Nat.le_refl _)]; simp) ?_
    refine ⟨.inr ⟨_, 0, some 0, _, _, 3, false, rfl, Nat.le_refl _, by simp only [view, get_new]; rfl, fun i hi => ?_⟩, ⟨_, List.append_assoc _ _ _⟩, fun b hb => ?_⟩
    · simp [List.getD, hi]
    · cases hb; simp

theorem slice_new [Tabs prog] {h : Heap} {o : List Int} (hl : o.length ≤ 6) (h1 : 1 ≤ o.length) : ACall prog 70 [ordV o] h fun r h' => IntSl h' r o ∧ Ext (fun _ => False) h h' ∧ ∀ b, blkOf r = some b → h.length ≤ b := by
  refine s70_call (by simp) ?_
  simp only [s70]
  refine aw_cut fun N hN => ?_
  simp (config := {maxSteps := 2000000}) only [s70, ↓aw_region, ↓aw_skip, ↓aw_seq, ↓aw_block, ↓aw_exit, ↓aw_ret, ↓sops_nil, ↓sops_go, ↓dops_nil, ↓dopsX_nil, ↓dopsR_nil, ↓vdn, vup, extr_20, extr_21, extr_30, extr_31, extr_32, List.map_cons, List.map_nil, cond_true, cond_false, aop, aThen, aBlock, argEnv, ev, sput, sputO, binK, binI, unK, builtinK, pickK, Nat.reduceBEq, Nat.reduceAdd, Int.reduceBEq, Int.reduceBNe, Int.reduceLT, aPost, resK, tup, tyf, boxO esz_77, newPtr]
  refine hN _ _ ?_
  clear hN N
  have b0 := get_new h (Blk.cells (ordC o) 77 false)
  have hv : IntSl (h ++ [Blk.cells (ordC o) 77 false]) (.slice (some ⟨h.length, 1, none⟩) o.length 6) o :=
    .inr ⟨h.length, 1, none, 6, ordC o, 77, false, rfl, hl, by simp [view, Blk.view], fun i hi => ordC_get hl (by omega)⟩
  have hsl : ∀ {K : Value → Prop}, K (.slice (some ⟨h.length, 1, none⟩) o.length 6) → sliceK prog 75 (.pointer (some ⟨h.length, 1, none⟩)) none (some (vint (o.length : Nat))) none K := fun {K} hk => by
    simp only [sliceK, und_75, esz_3, bnd]
    refine ⟨Int.le_refl _, by omega, by omega, ?_⟩
    have e1 : ¬ (((6 : Nat) : Int) = ((0 : Nat) : Int)) := by decide
    rw [if_neg e1]
    simpa using hk
  simp (config := {maxSteps := 2000000}) only [s70, ↓aw_region, ↓aw_skip, ↓aw_seq, ↓aw_block, ↓aw_exit, ↓aw_ret, ↓sops_nil, ↓sops_go, ↓dops_nil, ↓dopsX_nil, ↓dopsR_nil, ↓vdn, vup, extr_20, extr_21, extr_30, extr_31, extr_32, List.map_cons, List.map_nil, cond_true, cond_false, aop, aThen, aBlock, argEnv, ev, sput, sputO, binK, binI, unK, builtinK, pickK, Nat.reduceBEq, Nat.reduceAdd, Int.reduceBEq, Int.reduceBNe, Int.reduceLT, aPost, resK, tup, tyf, fldA fld_77_1 esz_75, fldA fld_77_0 esz_3, loadN b0 shp_3, Option.map_none, Option.map_some]
  refine hsl ?_
  simp (config := {maxSteps := 2000000}) only [s70, ↓aw_region, ↓aw_skip, ↓aw_seq, ↓aw_block, ↓aw_exit, ↓aw_ret, ↓sops_nil, ↓sops_go, ↓dops_nil, ↓dopsX_nil, ↓dopsR_nil, ↓vdn, vup, extr_20, extr_21, extr_30, extr_31, extr_32, List.map_cons, List.map_nil, cond_true, cond_false, aop, aThen, aBlock, argEnv, ev, sput, sputO, binK, binI, unK, builtinK, pickK, Nat.reduceBEq, Nat.reduceAdd, Int.reduceBEq, Int.reduceBNe, Int.reduceLT, aPost, resK, tup, tyf, callK, List.nil_append, List.append_nil, List.toList_toArray, List.cons_append]
  refine (clone_new hv (fun he => by rw [he] at h1; simp at h1) (by omega)).mono ?_
  rintro r _ ⟨hr, ⟨g, rfl⟩, hb⟩
  exact ⟨hr, by rw [List.append_assoc]; exact Ext.app _ _ _, fun b h1 => by have := hb b h1; simp at this; omega⟩
theorem slice_call [Tabs prog] {h : Heap} {o : List Int} (hl : o.length ≤ 6) (h1 : 1 ≤ o.length) : ACall prog 70 [ordV o] h fun r h' => IntSl h' r o ∧ Ext (fun _ => False) h h' :=
  (slice_new hl h1).mono fun _ _ h => ⟨h.1, h.2.1⟩

/-- Add takes these for elements. -/
def elI (o : List Int) (i : Int) : Bool := decide (0 ≤ i) && decide (i < o.length)
/-- What Add hands back. -/
def AddR (o : List Int) (i j : Int) (s : Value) (e : Int) (h : Heap) : Prop :=
  if ord o = true ∧ elI o i = true ∧ elI o j = true then (if fr o i.toNat j.toNat = true then e = 0 ∧ IntSl h s (addL o i.toNat j.toNat) else e = 5 ∧ s = .slice none 0 0) else e = 2 ∧ s = .slice none 0 0
theorem add21_new [BitTab prog 1] {h : Heap} {v : Value} {o : List Int} {i j : Int} (hv : IntSl h v o) (hl : o.length < 9223372036854775808) (hx : ∀ x ∈ o, -9223372036854775808 ≤ x ∧ x < 9223372036854775808) :
    ACall prog 21 [v, vint i, vint j] h fun r h' => Ext (fun _ => False) h h' ∧ ∃ s e, r = .tuple #[s, .int .i64 e] ∧ AddR o i j s e h' ∧ ∀ b, blkOf s = some b → h.length ≤ b := by
  refine s21_call (by simp) ?_
  simp (config := {maxSteps := 2000000}) only [s21, ↓aw_region, ↓aw_skip, ↓aw_seq, ↓aw_block, ↓aw_exit, ↓aw_ret, ↓sops_nil, ↓sops_go, ↓dops_nil, ↓dopsX_nil, ↓dopsR_nil, ↓vdn, vup, extr_20, extr_21, extr_30, extr_31, extr_32, List.map_cons, List.map_nil, cond_true, cond_false, aop, aThen, aBlock, argEnv, ev, sput, sputO, binK, binI, unK, builtinK, pickK, Nat.reduceBEq, Nat.reduceAdd, Int.reduceBEq, Int.reduceBNe, Int.reduceLT, aPost, resK, tup, tyf, callK, List.nil_append, List.append_nil, List.toList_toArray, List.cons_append]
  refine (read_call hv hl hx).mono ?_
  rintro _ g ⟨rfl, rfl⟩
  simp (config := {maxSteps := 2000000}) only [s21, ↓aw_region, ↓aw_skip, ↓aw_seq, ↓aw_block, ↓aw_exit, ↓aw_ret, ↓sops_nil, ↓sops_go, ↓dops_nil, ↓dopsX_nil, ↓dopsR_nil, ↓vdn, vup, extr_20, extr_21, extr_30, extr_31, extr_32, List.map_cons, List.map_nil, cond_true, cond_false, aop, aThen, aBlock, argEnv, ev, sput, sputO, binK, binI, unK, builtinK, pickK, Nat.reduceBEq, Nat.reduceAdd, Int.reduceBEq, Int.reduceBNe, Int.reduceLT, aPost, resK, tup, tyf, allocK, newPtr, zeroN, zero_77]
  rw [storeRd]
  obtain ⟨hE, hb⟩ := rdBox g o
  generalize hgl : g.length = gl at hE hb ⊢
  generalize (g ++ [Blk.cells (ordN 0) 77 false]).set gl (.cells (rdC o) 77 false) = G at hE hb ⊢
  cases ho : ord o with
  | false =>
    simp (config := {maxSteps := 2000000}) only [s21, ↓aw_region, ↓aw_skip, ↓aw_seq, ↓aw_block, ↓aw_exit, ↓aw_ret, ↓sops_nil, ↓sops_go, ↓dops_nil, ↓dopsX_nil, ↓dopsR_nil, ↓vdn, vup, extr_20, extr_21, extr_30, extr_31, extr_32, List.map_cons, List.map_nil, cond_true, cond_false, aop, aThen, aBlock, argEnv, ev, sput, sputO, binK, binI, unK, builtinK, pickK, Nat.reduceBEq, Nat.reduceAdd, Int.reduceBEq, Int.reduceBNe, Int.reduceLT, aPost, resK, tup, tyf, ho]
    refine ⟨hE, _, _, rfl, ?_, fun b hb => by cases hb⟩
    simp [AddR, ho]
  | true =>
    have hrd : rdC o = ordC o := if_pos (ord_len ho)
    have hlen := ord_len ho
    rw [hrd] at hb
    simp (config := {maxSteps := 2000000}) only [s21, ↓aw_region, ↓aw_skip, ↓aw_seq, ↓aw_block, ↓aw_exit, ↓aw_ret, ↓sops_nil, ↓sops_go, ↓dops_nil, ↓dopsX_nil, ↓dopsR_nil, ↓vdn, vup, extr_20, extr_21, extr_30, extr_31, extr_32, List.map_cons, List.map_nil, cond_true, cond_false, aop, aThen, aBlock, argEnv, ev, sput, sputO, binK, binI, unK, builtinK, pickK, Nat.reduceBEq, Nat.reduceAdd, Int.reduceBEq, Int.reduceBNe, Int.reduceLT, aPost, resK, tup, tyf, ho, loadO hb shp_77 hlen.2, callK, List.nil_append, List.append_nil, List.toList_toArray, List.cons_append]
    refine element_call.mono ?_
    rintro _ _ ⟨rfl, rfl⟩
    cases hi : (decide (0 ≤ i) && decide (i < o.length)) with
    | false =>
      simp (config := {maxSteps := 2000000}) only [s21, ↓aw_region, ↓aw_skip, ↓aw_seq, ↓aw_block, ↓aw_exit, ↓aw_ret, ↓sops_nil, ↓sops_go, ↓dops_nil, ↓dopsX_nil, ↓dopsR_nil, ↓vdn, vup, extr_20, extr_21, extr_30, extr_31, extr_32, List.map_cons, List.map_nil, cond_true, cond_false, aop, aThen, aBlock, argEnv, ev, sput, sputO, binK, binI, unK, builtinK, pickK, Nat.reduceBEq, Nat.reduceAdd, Int.reduceBEq, Int.reduceBNe, Int.reduceLT, aPost, resK, tup, tyf, hi]
      refine ⟨hE, _, _, rfl, ?_, fun b hb => by cases hb⟩
      simp [AddR, ho, elI, hi]
    | true =>
      simp (config := {maxSteps := 2000000}) only [s21, ↓aw_region, ↓aw_skip, ↓aw_seq, ↓aw_block, ↓aw_exit, ↓aw_ret, ↓sops_nil, ↓sops_go, ↓dops_nil, ↓dopsX_nil, ↓dopsR_nil, ↓vdn, vup, extr_20, extr_21, extr_30, extr_31, extr_32, List.map_cons, List.map_nil, cond_true, cond_false, aop, aThen, aBlock, argEnv, ev, sput, sputO, binK, binI, unK, builtinK, pickK, Nat.reduceBEq, Nat.reduceAdd, Int.reduceBEq, Int.reduceBNe, Int.reduceLT, aPost, resK, tup, tyf, hi, loadO hb shp_77 hlen.2, callK, List.nil_append, List.append_nil, List.toList_toArray, List.cons_append]
      refine element_call.mono ?_
      rintro _ _ ⟨rfl, rfl⟩
      cases hj : (decide (0 ≤ j) && decide (j < o.length)) with
      | false =>
        simp (config := {maxSteps := 2000000}) only [s21, ↓aw_region, ↓aw_skip, ↓aw_seq, ↓aw_block, ↓aw_exit, ↓aw_ret, ↓sops_nil, ↓sops_go, ↓dops_nil, ↓dopsX_nil, ↓dopsR_nil, ↓vdn, vup, extr_20, extr_21, extr_30, extr_31, extr_32, List.map_cons, List.map_nil, cond_true, cond_false, aop, aThen, aBlock, argEnv, ev, sput, sputO, binK, binI, unK, builtinK, pickK, Nat.reduceBEq, Nat.reduceAdd, Int.reduceBEq, Int.reduceBNe, Int.reduceLT, aPost, resK, tup, tyf, hj]
        refine ⟨hE, _, _, rfl, ?_, fun b hb => by cases hb⟩
        simp [AddR, ho, elI, hj]
      | true =>
        have hi' := hi
        have hj' := hj
        simp only [Bool.and_eq_true, decide_eq_true_eq] at hi' hj'
        obtain ⟨i, rfl⟩ : ∃ k : Nat, i = k := ⟨i.toNat, by omega⟩
        obtain ⟨j, rfl⟩ : ∃ k : Nat, j = k := ⟨j.toNat, by omega⟩
        simp (config := {maxSteps := 2000000}) only [s21, ↓aw_region, ↓aw_skip, ↓aw_seq, ↓aw_block, ↓aw_exit, ↓aw_ret, ↓sops_nil, ↓sops_go, ↓dops_nil, ↓dopsX_nil, ↓dopsR_nil, ↓vdn, vup, extr_20, extr_21, extr_30, extr_31, extr_32, List.map_cons, List.map_nil, cond_true, cond_false, aop, aThen, aBlock, argEnv, ev, sput, sputO, binK, binI, unK, builtinK, pickK, Nat.reduceBEq, Nat.reduceAdd, Int.reduceBEq, Int.reduceBNe, Int.reduceLT, aPost, resK, tup, tyf, hj, loadO hb shp_77 hlen.2, callK, List.nil_append, List.append_nil, List.toList_toArray, List.cons_append]
        refine (free_call ho (by omega) (by omega)).mono ?_
        rintro _ _ ⟨rfl, rfl⟩
        cases hf : fr o i j with
        | false =>
          simp (config := {maxSteps := 2000000}) only [s21, ↓aw_region, ↓aw_skip, ↓aw_seq, ↓aw_block, ↓aw_exit, ↓aw_ret, ↓sops_nil, ↓sops_go, ↓dops_nil, ↓dopsX_nil, ↓dopsR_nil, ↓vdn, vup, extr_20, extr_21, extr_30, extr_31, extr_32, List.map_cons, List.map_nil, cond_true, cond_false, aop, aThen, aBlock, argEnv, ev, sput, sputO, binK, binI, unK, builtinK, pickK, Nat.reduceBEq, Nat.reduceAdd, Int.reduceBEq, Int.reduceBNe, Int.reduceLT, aPost, resK, tup, tyf, hf]
          refine ⟨hE, _, _, rfl, ?_, fun b hb => by cases hb⟩
          simp [AddR, ho, elI, hi', hj', hf]
        | true =>
          simp (config := {maxSteps := 2000000}) only [s21, ↓aw_region, ↓aw_skip, ↓aw_seq, ↓aw_block, ↓aw_exit, ↓aw_ret, ↓sops_nil, ↓sops_go, ↓dops_nil, ↓dopsX_nil, ↓dopsR_nil, ↓vdn, vup, extr_20, extr_21, extr_30, extr_31, extr_32, List.map_cons, List.map_nil, cond_true, cond_false, aop, aThen, aBlock, argEnv, ev, sput, sputO, binK, binI, unK, builtinK, pickK, Nat.reduceBEq, Nat.reduceAdd, Int.reduceBEq, Int.reduceBNe, Int.reduceLT, aPost, resK, tup, tyf, hf, loadO hb shp_77 hlen.2, callK, List.nil_append, List.append_nil, List.toList_toArray, List.cons_append]
          refine (add_call ho (by omega) (by omega)).mono ?_
          rintro _ _ ⟨rfl, rfl⟩
          refine (slice_new (by rw [addL_len]; exact hlen.2) (by rw [addL_len]; exact hlen.1)).mono ?_
          rintro r h3 ⟨hr, hE3, hb3⟩
          refine ⟨hE.trans hE3, _, _, rfl, ?_, fun b h1 => by have := hb3 b h1; have := hE.1; omega⟩
          simp [AddR, ho, elI, hi', hj', hf, hr]
theorem add21_call [BitTab prog 1] {h : Heap} {v : Value} {o : List Int} {i j : Int} (hv : IntSl h v o) (hl : o.length < 9223372036854775808) (hx : ∀ x ∈ o, -9223372036854775808 ≤ x ∧ x < 9223372036854775808) :
    ACall prog 21 [v, vint i, vint j] h fun r h' => Ext (fun _ => False) h h' ∧ ∃ s e, r = .tuple #[s, .int .i64 e] ∧ AddR o i j s e h' :=
  (add21_new hv hl hx).mono fun _ _ ⟨h1, s, e, h2, h3, _⟩ => ⟨h1, s, e, h2, h3⟩
end Go.Proofs.Tryd.Am
