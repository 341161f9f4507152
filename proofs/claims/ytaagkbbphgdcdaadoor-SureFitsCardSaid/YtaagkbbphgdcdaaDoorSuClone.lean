/-
  sure: a copy that its maker may grow.
-/
import Derived.Test.YtaagkbbphgdcdaaDoorSuCode
set_option linter.all false
namespace Go.Proofs.Tryd.Am
open Go.Am Sr
set_option maxRecDepth 100000
set_option maxHeartbeats 1000000

theorem fresh_rsi {h : Heap} {xs : List Int} : RSI h (h ++ [.ints [] 3 false] ++ [.ints xs 3 false]) (.slice (some ⟨h.length + 1, 0, some 0⟩) xs.length xs.length) xs :=
  ⟨.inr ⟨h.length + 1, [], by simp, by
    have := get_new (h ++ [.ints [] 3 false]) (.ints xs 3 false)
    rw [List.length_append, List.length_singleton] at this
    rw [List.append_nil]; exact this⟩, (Ext.app _ _ _).trans (Ext.app _ _ _), fun b hb => by
    simp only [blkOf, Option.some.injEq] at hb; omega⟩
theorem clone_rsi [Tabs prog] {h : Heap} {v : Value} {xs : List Int} (hv : IntSl h v xs) (hx : xs ≠ []) (hl : xs.length < 1099511627776) : ACall prog 26 [v] h fun r h' => RSI h h' r xs := by
  refine s26_call (by simp) ?_
  have hv' := hv
  rcases hv with ⟨rfl, rfl⟩ | ⟨b, o, sp, cap, c, e, ro, rfl, hc, hb, _⟩
  · exact absurd rfl hx
  · simp (config := {maxSteps := 2000000}) only [s26, ↓aw_region, ↓aw_skip, ↓aw_seq, ↓aw_block, ↓aw_exit, ↓aw_ret, ↓sops_nil, ↓sops_go, ↓dops_nil, ↓dopsX_nil, ↓dopsR_nil, ↓vdn, vup, extr_20, extr_21, extr_30, extr_31, extr_32, List.map_cons, List.map_nil, cond_true, cond_false, aop, aThen, aBlock, argEnv, ev, sput, sputO, binK, binI, unK, builtinK, pickK, Nat.reduceBEq, Nat.reduceAdd, Int.reduceBEq, Int.reduceBNe, Int.reduceLT, aPost, resK, tup, tyf, Option.isSome_some]
    simp only [buildSliceK, el_22, zero_3, esz_3, reps, fillL, mkb, intsOf]
    refine And.intro rfl (And.intro Nat.zero_lt_one (And.intro (Nat.zero_le _) ?_))
    refine (hv'.grow [.ints [] 3 false]).copyOwn hx app_22_22 hl (by rw [List.getElem?_append_right (Nat.le_refl _)]; simp) ?_
    have := fresh_rsi (h := h) (xs := xs)
    simpa using this

end Go.Proofs.Tryd.Am
