/-
  order: slices of pairs: copies, whether they are pairs of elements.
-/
import Derived.Test.YtnjacpfahhjpiaaDoorOrAdd2
import Derived.Test.YtnjacpfahhjpiaaDoorFnC
import Derived.Test.YtnjacpfahhjpiaaDoorAmV
set_option linter.all false
namespace Go.Proofs.Tryd.Am
open Go.Am Ord
set_option maxRecDepth 100000
set_option maxHeartbeats 1000000

theorem lit0P {h : Heap} (K : Value → Heap → Prop) : buildSliceK prog h 52 0 [] K = K (.slice (some ⟨h.length, 0, none⟩) 0 0) (h ++ [.ints [] 33 false]) := by
  simp only [buildSliceK, el_52, zero_33, esz_33, reps, fillL, mkb, intsOf, List.length_cons, List.length_nil, Nat.mul_one, Nat.zero_mul]
  exact propext ⟨fun h => h.2.2.2, fun h => ⟨trivial, by decide, by decide, h⟩⟩

theorem clonep_call [Tabs prog] {h : Heap} {v : Value} {ps : List (Int × Int)} (hv : PairSl h v ps) (hl : ps.length < 1099511627776) : ACall prog 41 [v] h fun r h' => PairSl h' r ps ∧ ∃ g, h' = h ++ g := by
  refine s41_call (by simp) ?_
  have hv' := hv
  rcases hv with ⟨rfl, rfl⟩ | ⟨b, o, sp, cap, c, e, ro, rfl, hc, hb, hx⟩
  · simp (config := {maxSteps := 2000000}) only [s41, ↓aw_region, ↓aw_skip, ↓aw_seq, ↓aw_block, ↓aw_exit, ↓aw_ret, ↓sops_nil, ↓sops_go, ↓dops_nil, ↓dopsX_nil, ↓dopsR_nil, ↓vdn, vup, extr_20, extr_21, extr_30, extr_31, extr_32, List.map_cons, List.map_nil, cond_true, cond_false, aop, aThen, aBlock, argEnv, ev, sput, sputO, binK, binI, unK, builtinK, pickK, Nat.reduceBEq, Nat.reduceAdd, Int.reduceBEq, Int.reduceBNe, Int.reduceLT, aPost, resK, tup, tyf, Option.isSome_some]
    exact ⟨.inl ⟨rfl, rfl⟩, [], by rw [List.append_nil]⟩
  · simp (config := {maxSteps := 2000000}) only [s41, ↓aw_region, ↓aw_skip, ↓aw_seq, ↓aw_block, ↓aw_exit, ↓aw_ret, ↓sops_nil, ↓sops_go, ↓dops_nil, ↓dopsX_nil, ↓dopsR_nil, ↓vdn, vup, extr_20, extr_21, extr_30, extr_31, extr_32, List.map_cons, List.map_nil, cond_true, cond_false, aop, aThen, aBlock, argEnv, ev, sput, sputO, binK, binI, unK, builtinK, pickK, Nat.reduceBEq, Nat.reduceAdd, Int.reduceBEq, Int.reduceBNe, Int.reduceLT, aPost, resK, tup, tyf, Option.isSome_some, lit0P]
    refine (hv'.grow [.ints [] 33 false]).copy app_52_52 hl (get_new _ _) ?_
    intro r g hr
    exact ⟨hr, _, List.append_assoc _ _ _⟩

theorem min35 (n : Nat) : (if (35 : Int) < n then 35 else (n : Int)) = ((min n 35 : Nat) : Int) := by split <;> omega
theorem pairs_call [Tabs prog] {h : Heap} {v : Value} {ps : List (Int × Int)} (hv : PairSl h v ps) (hl : ps.length < 9223372036854775808) : ACall prog 37 [v] h fun r h' => PairSl h' r (ps.take 35) ∧ ∃ g, h' = h ++ g := by
  refine s37_call (by simp) ?_
  simp (config := {maxSteps := 2000000}) only [s37, ↓aw_region, ↓aw_skip, ↓aw_seq, ↓aw_block, ↓aw_exit, ↓aw_ret, ↓sops_nil, ↓sops_go, ↓dops_nil, ↓dopsX_nil, ↓dopsR_nil, ↓vdn, vup, extr_20, extr_21, extr_30, extr_31, extr_32, List.map_cons, List.map_nil, cond_true, cond_false, aop, aThen, aBlock, argEnv, ev, sput, sputO, binK, binI, unK, builtinK, pickK, Nat.reduceBEq, Nat.reduceAdd, Int.reduceBEq, Int.reduceBNe, Int.reduceLT, aPost, resK, tup, tyf, hv.len, mmK, Bool.false_eq_true, if_false, gt_iff_lt, min35, Option.map_none, Option.map_some]
  refine hv.pre el_52 esz_33 (Nat.min_le_left _ _) ?_
  intro v' hv'
  have e : ps.take (min ps.length 35) = ps.take 35 := by
    by_cases h : ps.length ≤ 35
    · rw [Nat.min_eq_left h, List.take_length, List.take_of_length_le h]
    · rw [Nat.min_eq_right (by omega)]
  rw [e] at hv'
  simp (config := {maxSteps := 2000000}) only [↓aw_region, ↓aw_skip, ↓aw_seq, ↓aw_block, ↓aw_exit, ↓aw_ret, ↓sops_nil, ↓sops_go, ↓dops_nil, ↓dopsX_nil, ↓dopsR_nil, ↓vdn, vup, extr_20, extr_21, extr_30, extr_31, extr_32, List.map_cons, List.map_nil, cond_true, cond_false, aop, aThen, aBlock, argEnv, ev, sput, sputO, binK, binI, unK, builtinK, pickK, Nat.reduceBEq, Nat.reduceAdd, Int.reduceBEq, Int.reduceBNe, Int.reduceLT, aPost, resK, tup, tyf, callK, List.nil_append, List.append_nil]
  exact clonep_call hv' (by simp; omega)

/-- A pair of elements. -/
def okP (n : Int) (p : Int × Int) : Bool := decide (0 ≤ p.1) && decide (p.1 < n) && decide (0 ≤ p.2) && decide (p.2 < n)
def prs (n : Int) (ps : List (Int × Int)) : Bool := ps.all (okP n) && (decide (1 ≤ n) && decide (n ≤ 6)) && decide (ps.length ≤ 30)
def okPTo (n : Int) (ps : List (Int × Int)) (k : Nat) : Bool := (List.range k).all fun i => okP n (ps.getD i (0, 0))
theorem okPTo_all (n : Int) (ps : List (Int × Int)) : okPTo n ps ps.length = ps.all (okP n) := by
  rw [okPTo, Bool.eq_iff_iff, List.all_eq_true, List.all_eq_true]
  constructor
  · intro H p hp
    obtain ⟨i, hi, rfl⟩ := List.mem_iff_getElem.1 hp
    have := H i (List.mem_range.2 hi)
    rwa [List.getD, List.getElem?_eq_getElem hi, Option.getD_some] at this
  · intro H i hi
    have hi' := List.mem_range.1 hi
    rw [List.getD, List.getElem?_eq_getElem hi', Option.getD_some]
    exact H _ (List.getElem_mem hi')
theorem okPTo_succ (n : Int) (ps : List (Int × Int)) (k : Nat) : okPTo n ps (k + 1) = (okPTo n ps k && okP n (ps.getD k (0, 0))) := by
  rw [okPTo, okPTo, List.range_succ, List.all_append]; simp

theorem first_bad {n : Int} {ps : List (Int × Int)} : ∀ {m : Nat}, okPTo n ps m = false → ∃ k, k < m ∧ okPTo n ps k = true ∧ okP n (ps.getD k (0, 0)) = false
  | 0, h => by cases h
  | m + 1, h => by
    cases hm : okPTo n ps m with
    | false =>
      obtain ⟨k, h1, h2⟩ := first_bad hm
      exact ⟨k, by omega, h2⟩
    | true =>
      rw [okPTo_succ, hm, Bool.true_and] at h
      exact ⟨m, by omega, hm, h⟩

section
variable {h : Heap} {b : Nat} {e : TypeId} {ro : Bool} {x y : Int} {K : Value → Prop}
theorem pidx0 {p : Nat} : idxAddrK prog 33 (.pointer (some ⟨p, 0, none⟩)) (.int .i64 0) K = K (.pointer (some ⟨p, 0, none⟩)) := idxA (k := 0) und_33 esz_3 (by decide)
theorem pidx1 {p : Nat} : idxAddrK prog 33 (.pointer (some ⟨p, 0, none⟩)) (.int .i64 1) K = K (.pointer (some ⟨p, 1, none⟩)) := idxA (k := 1) und_33 esz_3 (by decide)
theorem pl0 (hb : h[b]? = some (.cells [.int .i64 x, .int .i64 y] e ro)) : loadK prog h 3 (.pointer (some ⟨b, 0, none⟩)) K = K (.int .i64 x) := loadC hb shp_3 rfl
theorem pl1 (hb : h[b]? = some (.cells [.int .i64 x, .int .i64 y] e ro)) : loadK prog h 3 (.pointer (some ⟨b, 1, none⟩)) K = K (.int .i64 y) := loadC hb shp_3 rfl
theorem pst {c : List Value} {K : Heap → Prop} (hb : h[b]? = some (.cells c e false)) (hc : c.length = 2) : storeK prog h 33 (.pointer (some ⟨b, 0, none⟩)) (.agg #[.int .i64 x, .int .i64 y]) K = K (h.set b (.cells [.int .i64 x, .int .i64 y] e false)) :=
  storeA (vs := [.int .i64 x, .int .i64 y]) hb (by rw [shp_33]; rfl) rfl (by rw [hc]; rfl)
end

theorem rpairs_call [Tabs prog] {h : Heap} {n : Int} {v : Value} {ps : List (Int × Int)} (hv : PairSl h v ps) (hl : ps.length < 9223372036854775808) : APure prog 38 [vint n, v] h (.bool (prs n ps)) := by
  refine ACall.forget (Low.bool _) ?_
  refine s38_call (by simp) ?_
  simp only [s38]
  simp (config := {maxSteps := 2000000}) only [s38, ↓aw_region, ↓aw_skip, ↓aw_seq, ↓aw_block, ↓aw_exit, ↓aw_ret, ↓sops_nil, ↓sops_go, ↓dops_nil, ↓dopsX_nil, ↓dopsR_nil, ↓vdn, vup, extr_20, extr_21, extr_30, extr_31, extr_32, List.map_cons, List.map_nil, cond_true, cond_false, aop, aThen, aBlock, argEnv, ev, sput, sputO, binK, binI, unK, builtinK, pickK, Nat.reduceBEq, Nat.reduceAdd, Int.reduceBEq, Int.reduceBNe, Int.reduceLT, aPost, resK, tup, tyf, hv.len, ↓aw_loop_eq]
  refine aws_hide fun Q hQ => ?_
  refine aw_loop (γ := Nat × Heap) (fun s => s.1 ≤ ps.length ∧ okPTo n ps s.1 = true ∧ Ext (fun _ => False) h s.2)
    (fun s => ([(0, vint n), (1, v), (4, .bool false), (7, v), (8, vint ps.length), (9, vint s.1)], s.2)) (fun s => ps.length - s.1) (0, h) ⟨Nat.zero_le _, rfl, Ext.refl _ _⟩ (by simp (config := {maxSteps := 2000000}) only [↓aw_region, ↓aw_skip, ↓aw_seq, ↓aw_block, ↓aw_exit, ↓aw_ret, ↓sops_nil, ↓sops_go, ↓dops_nil, ↓dopsX_nil, ↓dopsR_nil, ↓vdn, vup, extr_20, extr_21, extr_30, extr_31, extr_32, List.map_cons, List.map_nil, cond_true, cond_false, aop, aThen, aBlock, argEnv, ev, sput, sputO, binK, binI, unK, builtinK, pickK, Nat.reduceBEq, Nat.reduceAdd, Int.reduceBEq, Int.reduceBNe, Int.reduceLT, aPost, resK, tup, tyf, Int.natCast_zero]) rfl ?_
  rintro ⟨k, hp⟩ ⟨hk, hok, hE⟩
  simp only at hk hok hE
  have hvp : PairSl hp v ps := hv.ext hE
  refine aw_hide fun Q2 hQ2 => ?_
  by_cases hkn : (k : Int) < ps.length
  · have hkn' : k < ps.length := by omega
    obtain ⟨x, y, hxy⟩ : ∃ x y : Int, ps.getD k (0, 0) = (x, y) := ⟨_, _, rfl⟩
    have hld := hvp.load shp_33 hkn'
    rw [hxy] at hld
    have c0 := get_new hp (Blk.cells [.int .i64 0, .int .i64 0] 33 false)
    obtain ⟨G, hG⟩ : ∃ G, G = (hp ++ [Blk.cells [.int .i64 0, .int .i64 0] 33 false]).set hp.length (.cells [.int .i64 x, .int .i64 y] 33 false) := ⟨_, rfl⟩
    have c1 : G[hp.length]? = some (.cells [.int .i64 x, .int .i64 y] 33 false) := by rw [hG]; exact get_set (by simp) _
    have hEG : Ext (fun _ => False) hp G := ⟨by rw [hG]; simp, fun j hj _ => by rw [hG, List.getElem?_set_ne (by omega), List.getElem?_append_left hj]⟩
    simp only [l38_0]
    simp (config := {maxSteps := 2000000}) only [s38, ↓aw_region, ↓aw_skip, ↓aw_seq, ↓aw_block, ↓aw_exit, ↓aw_ret, ↓sops_nil, ↓sops_go, ↓dops_nil, ↓dopsX_nil, ↓dopsR_nil, ↓vdn, vup, extr_20, extr_21, extr_30, extr_31, extr_32, List.map_cons, List.map_nil, cond_true, cond_false, aop, aThen, aBlock, argEnv, ev, sput, sputO, binK, binI, unK, builtinK, pickK, Nat.reduceBEq, Nat.reduceAdd, Int.reduceBEq, Int.reduceBNe, Int.reduceLT, aPost, resK, tup, tyf, hkn, hvp.idx el_52 esz_33 hkn', hld, allocK, newPtr, zero_33]
    rw [pst c0 rfl, ← hG]
    have hnext := okPTo_succ n ps k
    rw [hok, Bool.true_and, hxy] at hnext
    have hbad : okP n (x, y) = false → prs n ps = false := fun hb => by
      rw [hb] at hnext
      have h2 : ps.all (okP n) = false := by
        rw [List.all_eq_false]
        refine ⟨ps.getD k (0, 0), ?_, by rw [hxy, hb]; decide⟩
        rw [List.getD, List.getElem?_eq_getElem hkn', Option.getD_some]; exact List.getElem_mem hkn'
      rw [prs, h2]; rfl
    have out : prs n ps = false → ∀ e : Env, sget e 4 = .bool false → Q2 .ret e G := fun hb e he => by
      refine hQ2 _ _ _ (hQ _ _ _ ?_)
      simp only [aBlock, aThen, aPost, resK, he, tup, hb]
      exact ⟨trivial, hE.trans hEG⟩
    by_cases h1 : x < 0
    · have hb := hbad (by rw [okP, decide_eq_false (show ¬ 0 ≤ x by omega)]; rfl)
      simp (config := {maxSteps := 2000000}) only [s38, ↓aw_region, ↓aw_skip, ↓aw_seq, ↓aw_block, ↓aw_exit, ↓aw_ret, ↓sops_nil, ↓sops_go, ↓dops_nil, ↓dopsX_nil, ↓dopsR_nil, ↓vdn, vup, extr_20, extr_21, extr_30, extr_31, extr_32, List.map_cons, List.map_nil, cond_true, cond_false, aop, aThen, aBlock, argEnv, ev, sput, sputO, binK, binI, unK, builtinK, pickK, Nat.reduceBEq, Nat.reduceAdd, Int.reduceBEq, Int.reduceBNe, Int.reduceLT, aPost, resK, tup, tyf, pidx0, pidx1, pl0 c1, pl1 c1, h1]
      exact out hb _ rfl
    by_cases h2 : n ≤ x
    · have hb := hbad (by rw [okP, decide_eq_false (show ¬ x < n by omega), Bool.and_false]; rfl)
      simp (config := {maxSteps := 2000000}) only [s38, ↓aw_region, ↓aw_skip, ↓aw_seq, ↓aw_block, ↓aw_exit, ↓aw_ret, ↓sops_nil, ↓sops_go, ↓dops_nil, ↓dopsX_nil, ↓dopsR_nil, ↓vdn, vup, extr_20, extr_21, extr_30, extr_31, extr_32, List.map_cons, List.map_nil, cond_true, cond_false, aop, aThen, aBlock, argEnv, ev, sput, sputO, binK, binI, unK, builtinK, pickK, Nat.reduceBEq, Nat.reduceAdd, Int.reduceBEq, Int.reduceBNe, Int.reduceLT, aPost, resK, tup, tyf, pidx0, pidx1, pl0 c1, pl1 c1, h1, ge_iff_le, h2]
      exact out hb _ rfl
    by_cases h3 : y < 0
    · have hb := hbad (by rw [okP, decide_eq_false (show ¬ 0 ≤ y by omega), Bool.and_false]; rfl)
      simp (config := {maxSteps := 2000000}) only [s38, ↓aw_region, ↓aw_skip, ↓aw_seq, ↓aw_block, ↓aw_exit, ↓aw_ret, ↓sops_nil, ↓sops_go, ↓dops_nil, ↓dopsX_nil, ↓dopsR_nil, ↓vdn, vup, extr_20, extr_21, extr_30, extr_31, extr_32, List.map_cons, List.map_nil, cond_true, cond_false, aop, aThen, aBlock, argEnv, ev, sput, sputO, binK, binI, unK, builtinK, pickK, Nat.reduceBEq, Nat.reduceAdd, Int.reduceBEq, Int.reduceBNe, Int.reduceLT, aPost, resK, tup, tyf, pidx0, pidx1, pl0 c1, pl1 c1, h1, ge_iff_le, h2, h3]
      exact out hb _ rfl
    by_cases h4 : n ≤ y
    · have hb := hbad (by rw [okP, decide_eq_false (show ¬ y < n by omega), Bool.and_false])
      simp (config := {maxSteps := 2000000}) only [s38, ↓aw_region, ↓aw_skip, ↓aw_seq, ↓aw_block, ↓aw_exit, ↓aw_ret, ↓sops_nil, ↓sops_go, ↓dops_nil, ↓dopsX_nil, ↓dopsR_nil, ↓vdn, vup, extr_20, extr_21, extr_30, extr_31, extr_32, List.map_cons, List.map_nil, cond_true, cond_false, aop, aThen, aBlock, argEnv, ev, sput, sputO, binK, binI, unK, builtinK, pickK, Nat.reduceBEq, Nat.reduceAdd, Int.reduceBEq, Int.reduceBNe, Int.reduceLT, aPost, resK, tup, tyf, pidx0, pidx1, pl0 c1, pl1 c1, h1, ge_iff_le, h2, h3, h4]
      exact out hb _ rfl
    have hg : okP n (x, y) = true := by
      rw [okP, decide_eq_true (show 0 ≤ x by omega), decide_eq_true (show x < n by omega), decide_eq_true (show 0 ≤ y by omega), decide_eq_true (show y < n by omega)]; rfl
    simp (config := {maxSteps := 2000000}) only [s38, ↓aw_region, ↓aw_skip, ↓aw_seq, ↓aw_block, ↓aw_exit, ↓aw_ret, ↓sops_nil, ↓sops_go, ↓dops_nil, ↓dopsX_nil, ↓dopsR_nil, ↓vdn, vup, extr_20, extr_21, extr_30, extr_31, extr_32, List.map_cons, List.map_nil, cond_true, cond_false, aop, aThen, aBlock, argEnv, ev, sput, sputO, binK, binI, unK, builtinK, pickK, Nat.reduceBEq, Nat.reduceAdd, Int.reduceBEq, Int.reduceBNe, Int.reduceLT, aPost, resK, tup, tyf, pidx0, pidx1, pl0 c1, pl1 c1, h1, ge_iff_le, h2, h3, h4, add1 (show k < 9223372036854775807 by omega)]
    exact hQ2 _ _ _ ⟨(k + 1, _), ⟨by simp only; omega, by simp only; rw [hnext]; exact hg, hE.trans hEG⟩, by simp only; omega, by simp (config := {maxSteps := 2000000}) only [↓aw_region, ↓aw_skip, ↓aw_seq, ↓aw_block, ↓aw_exit, ↓aw_ret, ↓sops_nil, ↓sops_go, ↓dops_nil, ↓dopsX_nil, ↓dopsR_nil, ↓vdn, vup, extr_20, extr_21, extr_30, extr_31, extr_32, List.map_cons, List.map_nil, cond_true, cond_false, aop, aThen, aBlock, argEnv, ev, sput, sputO, binK, binI, unK, builtinK, pickK, Nat.reduceBEq, Nat.reduceAdd, Int.reduceBEq, Int.reduceBNe, Int.reduceLT, aPost, resK, tup, tyf], rfl⟩
  · obtain rfl : k = ps.length := by omega
    rw [okPTo_all] at hok
    simp (config := {maxSteps := 2000000}) only [s38, ↓aw_region, ↓aw_skip, ↓aw_seq, ↓aw_block, ↓aw_exit, ↓aw_ret, ↓sops_nil, ↓sops_go, ↓dops_nil, ↓dopsX_nil, ↓dopsR_nil, ↓vdn, vup, extr_20, extr_21, extr_30, extr_31, extr_32, List.map_cons, List.map_nil, cond_true, cond_false, aop, aThen, aBlock, argEnv, ev, sput, sputO, binK, binI, unK, builtinK, pickK, Nat.reduceBEq, Nat.reduceAdd, Int.reduceBEq, Int.reduceBNe, Int.reduceLT, aPost, resK, tup, tyf, l38_0, Int.lt_irrefl]
    refine hQ2 _ _ _ (hQ _ _ _ ?_)
    by_cases h1 : (1 : Int) ≤ n
    · by_cases h6 : n ≤ 6
      · have hp' : prs n ps = decide ((ps.length : Int) ≤ 30) := by
          rw [prs, hok, decide_eq_true h1, decide_eq_true h6]
          have : (ps.length ≤ 30) = ((ps.length : Int) ≤ 30) := propext ⟨fun h => by omega, fun h => by omega⟩
          simp [this]
        simp (config := {maxSteps := 2000000}) only [s38, ↓aw_region, ↓aw_skip, ↓aw_seq, ↓aw_block, ↓aw_exit, ↓aw_ret, ↓sops_nil, ↓sops_go, ↓dops_nil, ↓dopsX_nil, ↓dopsR_nil, ↓vdn, vup, extr_20, extr_21, extr_30, extr_31, extr_32, List.map_cons, List.map_nil, cond_true, cond_false, aop, aThen, aBlock, argEnv, ev, sput, sputO, binK, binI, unK, builtinK, pickK, Nat.reduceBEq, Nat.reduceAdd, Int.reduceBEq, Int.reduceBNe, Int.reduceLT, aPost, resK, tup, tyf, ge_iff_le, h1, h6, hvp.len, hp']
        exact hE
      · have hp' : prs n ps = false := by rw [prs, decide_eq_false h6]; simp
        simp (config := {maxSteps := 2000000}) only [s38, ↓aw_region, ↓aw_skip, ↓aw_seq, ↓aw_block, ↓aw_exit, ↓aw_ret, ↓sops_nil, ↓sops_go, ↓dops_nil, ↓dopsX_nil, ↓dopsR_nil, ↓vdn, vup, extr_20, extr_21, extr_30, extr_31, extr_32, List.map_cons, List.map_nil, cond_true, cond_false, aop, aThen, aBlock, argEnv, ev, sput, sputO, binK, binI, unK, builtinK, pickK, Nat.reduceBEq, Nat.reduceAdd, Int.reduceBEq, Int.reduceBNe, Int.reduceLT, aPost, resK, tup, tyf, ge_iff_le, h1, h6, hp']
        exact hE
    · have hp' : prs n ps = false := by rw [prs, decide_eq_false h1]; simp
      simp (config := {maxSteps := 2000000}) only [s38, ↓aw_region, ↓aw_skip, ↓aw_seq, ↓aw_block, ↓aw_exit, ↓aw_ret, ↓sops_nil, ↓sops_go, ↓dops_nil, ↓dopsX_nil, ↓dopsR_nil, ↓vdn, vup, extr_20, extr_21, extr_30, extr_31, extr_32, List.map_cons, List.map_nil, cond_true, cond_false, aop, aThen, aBlock, argEnv, ev, sput, sputO, binK, binI, unK, builtinK, pickK, Nat.reduceBEq, Nat.reduceAdd, Int.reduceBEq, Int.reduceBNe, Int.reduceLT, aPost, resK, tup, tyf, ge_iff_le, h1, hp']
      exact hE

/-- Whether a pair is none of elements: the function literal. -/
theorem bad_call [Tabs prog] {h : Heap} {o : List Int} {b : Nat} {x y : Int} (hb : h[b]? = some (.cells (ordC o) 77 false)) (hl : o.length ≤ 6) :
    APure prog 79 [.agg #[.int .i64 x, .int .i64 y], .pointer (some ⟨b, 0, none⟩)] h (.bool (!okP o.length (x, y))) := by
  refine ACall.forget (Low.bool _) ?_
  refine s79_call (by simp) ?_
  have hcell : cellsOf (.agg #[.int .i64 x, .int .i64 y]) = [.int .i64 x, .int .i64 y] := rfl
  simp only [s79]
  refine aw_cut fun N hN => ?_
  simp (config := {maxSteps := 2000000}) only [s79, ↓aw_region, ↓aw_skip, ↓aw_seq, ↓aw_block, ↓aw_exit, ↓aw_ret, ↓sops_nil, ↓sops_go, ↓dops_nil, ↓dopsX_nil, ↓dopsR_nil, ↓vdn, vup, extr_20, extr_21, extr_30, extr_31, extr_32, List.map_cons, List.map_nil, cond_true, cond_false, aop, aThen, aBlock, argEnv, ev, sput, sputO, binK, binI, unK, builtinK, pickK, Nat.reduceBEq, Nat.reduceAdd, Int.reduceBEq, Int.reduceBNe, Int.reduceLT, aPost, resK, tup, tyf, boxK, hcell, Option.isSome_some, newPtr]
  refine hN _ _ ?_
  clear hN N
  have c0 := get_new h (Blk.cells [.int .i64 x, .int .i64 y] 33 false)
  have hb' := get_old hb [Blk.cells [.int .i64 x, .int .i64 y] 33 false]
  have hE : Ext (fun _ => False) h (h ++ [Blk.cells [.int .i64 x, .int .i64 y] 33 false]) := Ext.app _ _ _
  simp (config := {maxSteps := 2000000}) only [s79, ↓aw_region, ↓aw_skip, ↓aw_seq, ↓aw_block, ↓aw_exit, ↓aw_ret, ↓sops_nil, ↓sops_go, ↓dops_nil, ↓dopsX_nil, ↓dopsR_nil, ↓vdn, vup, extr_20, extr_21, extr_30, extr_31, extr_32, List.map_cons, List.map_nil, cond_true, cond_false, aop, aThen, aBlock, argEnv, ev, sput, sputO, binK, binI, unK, builtinK, pickK, Nat.reduceBEq, Nat.reduceAdd, Int.reduceBEq, Int.reduceBNe, Int.reduceLT, aPost, resK, tup, tyf, loadO hb' shp_77 hl, pidx0, pidx1, pl0 c0, pl1 c0, callK, List.nil_append, List.append_nil, List.toList_toArray, List.cons_append]
  refine element_call.mono ?_
  rintro _ _ ⟨rfl, rfl⟩
  cases h1 : (decide (0 ≤ x) && decide (x < o.length)) with
  | false =>
    have hr : okP o.length (x, y) = false := by rw [okP, h1]; rfl
    simp (config := {maxSteps := 2000000}) only [s79, ↓aw_region, ↓aw_skip, ↓aw_seq, ↓aw_block, ↓aw_exit, ↓aw_ret, ↓sops_nil, ↓sops_go, ↓dops_nil, ↓dopsX_nil, ↓dopsR_nil, ↓vdn, vup, extr_20, extr_21, extr_30, extr_31, extr_32, List.map_cons, List.map_nil, cond_true, cond_false, aop, aThen, aBlock, argEnv, ev, sput, sputO, binK, binI, unK, builtinK, pickK, Nat.reduceBEq, Nat.reduceAdd, Int.reduceBEq, Int.reduceBNe, Int.reduceLT, aPost, resK, tup, tyf, h1, hr]
    exact hE
  | true =>
    have hr : okP o.length (x, y) = (decide (0 ≤ y) && decide (y < o.length)) := by rw [okP, h1, Bool.true_and]
    simp (config := {maxSteps := 2000000}) only [s79, ↓aw_region, ↓aw_skip, ↓aw_seq, ↓aw_block, ↓aw_exit, ↓aw_ret, ↓sops_nil, ↓sops_go, ↓dops_nil, ↓dopsX_nil, ↓dopsR_nil, ↓vdn, vup, extr_20, extr_21, extr_30, extr_31, extr_32, List.map_cons, List.map_nil, cond_true, cond_false, aop, aThen, aBlock, argEnv, ev, sput, sputO, binK, binI, unK, builtinK, pickK, Nat.reduceBEq, Nat.reduceAdd, Int.reduceBEq, Int.reduceBNe, Int.reduceLT, aPost, resK, tup, tyf, h1, hr, loadO hb' shp_77 hl, pidx0, pidx1, pl0 c0, pl1 c0, callK, List.nil_append, List.append_nil, List.toList_toArray, List.cons_append]
    refine element_call.mono ?_
    rintro _ _ ⟨rfl, rfl⟩
    simp (config := {maxSteps := 2000000}) only [s79, ↓aw_region, ↓aw_skip, ↓aw_seq, ↓aw_block, ↓aw_exit, ↓aw_ret, ↓sops_nil, ↓sops_go, ↓dops_nil, ↓dopsX_nil, ↓dopsR_nil, ↓vdn, vup, extr_20, extr_21, extr_30, extr_31, extr_32, List.map_cons, List.map_nil, cond_true, cond_false, aop, aThen, aBlock, argEnv, ev, sput, sputO, binK, binI, unK, builtinK, pickK, Nat.reduceBEq, Nat.reduceAdd, Int.reduceBEq, Int.reduceBNe, Int.reduceLT, aPost, resK, tup, tyf]
    exact hE

theorem anybad_call [Tabs prog] {h : Heap} {o : List Int} {b : Nat} {v : Value} {ps : List (Int × Int)} (hb : h[b]? = some (.cells (ordC o) 77 false)) (hl : o.length ≤ 6) (hv : PairSl h v ps) (hl2 : ps.length < 9223372036854775808) :
    APure prog 78 [v, .func (.func 79) #[] #[.pointer (some ⟨b, 0, none⟩)]] h (.bool (!ps.all (okP o.length))) := by
  have hidx : ∃ r : Int, APure prog 104 [v, .func (.func 79) #[] #[.pointer (some ⟨b, 0, none⟩)]] h (vint r) ∧ decide (r ≥ 0) = !ps.all (okP o.length) := by
    by_cases hall : ps.all (okP o.length) = true
    · refine ⟨-1, ?_, by rw [hall]; decide⟩
      refine s104_call (by simp) ?_
      simp (config := {maxSteps := 2000000}) only [s104, ↓aw_region, ↓aw_skip, ↓aw_seq, ↓aw_block, ↓aw_exit, ↓aw_ret, ↓sops_nil, ↓sops_go, ↓dops_nil, ↓dopsX_nil, ↓dopsR_nil, ↓vdn, vup, extr_20, extr_21, extr_30, extr_31, extr_32, List.map_cons, List.map_nil, cond_true, cond_false, aop, aThen, aBlock, argEnv, ev, sput, sputO, binK, binI, unK, builtinK, pickK, Nat.reduceBEq, Nat.reduceAdd, Int.reduceBEq, Int.reduceBNe, Int.reduceLT, aPost, resK, tup, tyf, hv.len, ↓aw_loop_eq]
      refine aws_hide fun Q hQ => ?_
      refine aw_loop (γ := Nat) (fun k => k ≤ ps.length)
        (fun k => ([(0, v), (1, .func (.func 79) #[] #[.pointer (some ⟨b, 0, none⟩)]), (4, .int .i64 0), (7, vint ps.length), (8, vint k)], h)) (fun k => ps.length - k) 0 (Nat.zero_le _) (by simp (config := {maxSteps := 2000000}) only [↓aw_region, ↓aw_skip, ↓aw_seq, ↓aw_block, ↓aw_exit, ↓aw_ret, ↓sops_nil, ↓sops_go, ↓dops_nil, ↓dopsX_nil, ↓dopsR_nil, ↓vdn, vup, extr_20, extr_21, extr_30, extr_31, extr_32, List.map_cons, List.map_nil, cond_true, cond_false, aop, aThen, aBlock, argEnv, ev, sput, sputO, binK, binI, unK, builtinK, pickK, Nat.reduceBEq, Nat.reduceAdd, Int.reduceBEq, Int.reduceBNe, Int.reduceLT, aPost, resK, tup, tyf, Int.natCast_zero]) rfl ?_
      intro k hk
      refine aw_hide fun Q2 hQ2 => ?_
      by_cases hkn : (k : Int) < ps.length
      · have hkn' : k < ps.length := by omega
        have hok : okP o.length ((ps.getD k (0, 0)).1, (ps.getD k (0, 0)).2) = true := by
          rw [← okPTo_all] at hall
          exact List.all_eq_true.1 hall k (List.mem_range.2 hkn')
        simp (config := {maxSteps := 2000000}) only [s104, ↓aw_region, ↓aw_skip, ↓aw_seq, ↓aw_block, ↓aw_exit, ↓aw_ret, ↓sops_nil, ↓sops_go, ↓dops_nil, ↓dopsX_nil, ↓dopsR_nil, ↓vdn, vup, extr_20, extr_21, extr_30, extr_31, extr_32, List.map_cons, List.map_nil, cond_true, cond_false, aop, aThen, aBlock, argEnv, ev, sput, sputO, binK, binI, unK, builtinK, pickK, Nat.reduceBEq, Nat.reduceAdd, Int.reduceBEq, Int.reduceBNe, Int.reduceLT, aPost, resK, tup, tyf, l104_0, hkn, hv.idx el_52 esz_33 hkn', hv.load shp_33 hkn', callK, List.nil_append, List.append_nil, List.toList_toArray, List.cons_append]
        refine (bad_call hb hl).mono ?_
        rintro _ _ ⟨rfl, rfl⟩
        simp (config := {maxSteps := 2000000}) only [s104, ↓aw_region, ↓aw_skip, ↓aw_seq, ↓aw_block, ↓aw_exit, ↓aw_ret, ↓sops_nil, ↓sops_go, ↓dops_nil, ↓dopsX_nil, ↓dopsR_nil, ↓vdn, vup, extr_20, extr_21, extr_30, extr_31, extr_32, List.map_cons, List.map_nil, cond_true, cond_false, aop, aThen, aBlock, argEnv, ev, sput, sputO, binK, binI, unK, builtinK, pickK, Nat.reduceBEq, Nat.reduceAdd, Int.reduceBEq, Int.reduceBNe, Int.reduceLT, aPost, resK, tup, tyf, hok, add1 (show k < 9223372036854775807 by omega)]
        exact hQ2 _ _ _ ⟨k + 1, by omega, by omega, by simp (config := {maxSteps := 2000000}) only [↓aw_region, ↓aw_skip, ↓aw_seq, ↓aw_block, ↓aw_exit, ↓aw_ret, ↓sops_nil, ↓sops_go, ↓dops_nil, ↓dopsX_nil, ↓dopsR_nil, ↓vdn, vup, extr_20, extr_21, extr_30, extr_31, extr_32, List.map_cons, List.map_nil, cond_true, cond_false, aop, aThen, aBlock, argEnv, ev, sput, sputO, binK, binI, unK, builtinK, pickK, Nat.reduceBEq, Nat.reduceAdd, Int.reduceBEq, Int.reduceBNe, Int.reduceLT, aPost, resK, tup, tyf], rfl⟩
      · obtain rfl : k = ps.length := by omega
        simp (config := {maxSteps := 2000000}) only [s104, ↓aw_region, ↓aw_skip, ↓aw_seq, ↓aw_block, ↓aw_exit, ↓aw_ret, ↓sops_nil, ↓sops_go, ↓dops_nil, ↓dopsX_nil, ↓dopsR_nil, ↓vdn, vup, extr_20, extr_21, extr_30, extr_31, extr_32, List.map_cons, List.map_nil, cond_true, cond_false, aop, aThen, aBlock, argEnv, ev, sput, sputO, binK, binI, unK, builtinK, pickK, Nat.reduceBEq, Nat.reduceAdd, Int.reduceBEq, Int.reduceBNe, Int.reduceLT, aPost, resK, tup, tyf, l104_0, Int.lt_irrefl]
        refine hQ2 _ _ _ (hQ _ _ _ ?_)
        simp (config := {maxSteps := 2000000}) only [s104, ↓aw_region, ↓aw_skip, ↓aw_seq, ↓aw_block, ↓aw_exit, ↓aw_ret, ↓sops_nil, ↓sops_go, ↓dops_nil, ↓dopsX_nil, ↓dopsR_nil, ↓vdn, vup, extr_20, extr_21, extr_30, extr_31, extr_32, List.map_cons, List.map_nil, cond_true, cond_false, aop, aThen, aBlock, argEnv, ev, sput, sputO, binK, binI, unK, builtinK, pickK, Nat.reduceBEq, Nat.reduceAdd, Int.reduceBEq, Int.reduceBNe, Int.reduceLT, aPost, resK, tup, tyf, if_true]
    · have hf : okPTo o.length ps ps.length = false := by rw [okPTo_all]; simpa using hall
      obtain ⟨k0, hk0, hok0, hbad0⟩ := first_bad hf
      refine ⟨k0, ?_, by simp only [Bool.not_eq_true] at hall; rw [hall]; simp⟩
      refine s104_call (by simp) ?_
      simp (config := {maxSteps := 2000000}) only [s104, ↓aw_region, ↓aw_skip, ↓aw_seq, ↓aw_block, ↓aw_exit, ↓aw_ret, ↓sops_nil, ↓sops_go, ↓dops_nil, ↓dopsX_nil, ↓dopsR_nil, ↓vdn, vup, extr_20, extr_21, extr_30, extr_31, extr_32, List.map_cons, List.map_nil, cond_true, cond_false, aop, aThen, aBlock, argEnv, ev, sput, sputO, binK, binI, unK, builtinK, pickK, Nat.reduceBEq, Nat.reduceAdd, Int.reduceBEq, Int.reduceBNe, Int.reduceLT, aPost, resK, tup, tyf, hv.len, ↓aw_loop_eq]
      refine aws_hide fun Q hQ => ?_
      refine aw_loop (γ := Nat) (fun k => k ≤ k0)
        (fun k => ([(0, v), (1, .func (.func 79) #[] #[.pointer (some ⟨b, 0, none⟩)]), (4, .int .i64 0), (7, vint ps.length), (8, vint k)], h)) (fun k => ps.length - k) 0 (Nat.zero_le _) (by simp (config := {maxSteps := 2000000}) only [↓aw_region, ↓aw_skip, ↓aw_seq, ↓aw_block, ↓aw_exit, ↓aw_ret, ↓sops_nil, ↓sops_go, ↓dops_nil, ↓dopsX_nil, ↓dopsR_nil, ↓vdn, vup, extr_20, extr_21, extr_30, extr_31, extr_32, List.map_cons, List.map_nil, cond_true, cond_false, aop, aThen, aBlock, argEnv, ev, sput, sputO, binK, binI, unK, builtinK, pickK, Nat.reduceBEq, Nat.reduceAdd, Int.reduceBEq, Int.reduceBNe, Int.reduceLT, aPost, resK, tup, tyf, Int.natCast_zero]) rfl ?_
      intro k hk
      refine aw_hide fun Q2 hQ2 => ?_
      have hkn : (k : Int) < ps.length := by omega
      have hkn' : k < ps.length := by omega
      simp (config := {maxSteps := 2000000}) only [s104, ↓aw_region, ↓aw_skip, ↓aw_seq, ↓aw_block, ↓aw_exit, ↓aw_ret, ↓sops_nil, ↓sops_go, ↓dops_nil, ↓dopsX_nil, ↓dopsR_nil, ↓vdn, vup, extr_20, extr_21, extr_30, extr_31, extr_32, List.map_cons, List.map_nil, cond_true, cond_false, aop, aThen, aBlock, argEnv, ev, sput, sputO, binK, binI, unK, builtinK, pickK, Nat.reduceBEq, Nat.reduceAdd, Int.reduceBEq, Int.reduceBNe, Int.reduceLT, aPost, resK, tup, tyf, l104_0, hkn, hv.idx el_52 esz_33 hkn', hv.load shp_33 hkn', callK, List.nil_append, List.append_nil, List.toList_toArray, List.cons_append]
      refine (bad_call hb hl).mono ?_
      rintro _ _ ⟨rfl, rfl⟩
      by_cases hkk : k = k0
      · subst hkk
        simp (config := {maxSteps := 2000000}) only [s104, ↓aw_region, ↓aw_skip, ↓aw_seq, ↓aw_block, ↓aw_exit, ↓aw_ret, ↓sops_nil, ↓sops_go, ↓dops_nil, ↓dopsX_nil, ↓dopsR_nil, ↓vdn, vup, extr_20, extr_21, extr_30, extr_31, extr_32, List.map_cons, List.map_nil, cond_true, cond_false, aop, aThen, aBlock, argEnv, ev, sput, sputO, binK, binI, unK, builtinK, pickK, Nat.reduceBEq, Nat.reduceAdd, Int.reduceBEq, Int.reduceBNe, Int.reduceLT, aPost, resK, tup, tyf, hbad0]
        refine hQ2 _ _ _ (hQ _ _ _ ?_)
        simp (config := {maxSteps := 2000000}) only [s104, ↓aw_region, ↓aw_skip, ↓aw_seq, ↓aw_block, ↓aw_exit, ↓aw_ret, ↓sops_nil, ↓sops_go, ↓dops_nil, ↓dopsX_nil, ↓dopsR_nil, ↓vdn, vup, extr_20, extr_21, extr_30, extr_31, extr_32, List.map_cons, List.map_nil, cond_true, cond_false, aop, aThen, aBlock, argEnv, ev, sput, sputO, binK, binI, unK, builtinK, pickK, Nat.reduceBEq, Nat.reduceAdd, Int.reduceBEq, Int.reduceBNe, Int.reduceLT, aPost, resK, tup, tyf, if_true]
      · have hok : okP o.length ((ps.getD k (0, 0)).1, (ps.getD k (0, 0)).2) = true := List.all_eq_true.1 hok0 k (List.mem_range.2 (by omega))
        simp (config := {maxSteps := 2000000}) only [s104, ↓aw_region, ↓aw_skip, ↓aw_seq, ↓aw_block, ↓aw_exit, ↓aw_ret, ↓sops_nil, ↓sops_go, ↓dops_nil, ↓dopsX_nil, ↓dopsR_nil, ↓vdn, vup, extr_20, extr_21, extr_30, extr_31, extr_32, List.map_cons, List.map_nil, cond_true, cond_false, aop, aThen, aBlock, argEnv, ev, sput, sputO, binK, binI, unK, builtinK, pickK, Nat.reduceBEq, Nat.reduceAdd, Int.reduceBEq, Int.reduceBNe, Int.reduceLT, aPost, resK, tup, tyf, hok, add1 (show k < 9223372036854775807 by omega)]
        exact hQ2 _ _ _ ⟨k + 1, by omega, by omega, by simp (config := {maxSteps := 2000000}) only [↓aw_region, ↓aw_skip, ↓aw_seq, ↓aw_block, ↓aw_exit, ↓aw_ret, ↓sops_nil, ↓sops_go, ↓dops_nil, ↓dopsX_nil, ↓dopsR_nil, ↓vdn, vup, extr_20, extr_21, extr_30, extr_31, extr_32, List.map_cons, List.map_nil, cond_true, cond_false, aop, aThen, aBlock, argEnv, ev, sput, sputO, binK, binI, unK, builtinK, pickK, Nat.reduceBEq, Nat.reduceAdd, Int.reduceBEq, Int.reduceBNe, Int.reduceLT, aPost, resK, tup, tyf], rfl⟩
  obtain ⟨r, hr, hd⟩ := hidx
  refine s78_call (by simp) ?_
  simp (config := {maxSteps := 2000000}) only [s78, ↓aw_region, ↓aw_skip, ↓aw_seq, ↓aw_block, ↓aw_exit, ↓aw_ret, ↓sops_nil, ↓sops_go, ↓dops_nil, ↓dopsX_nil, ↓dopsR_nil, ↓vdn, vup, extr_20, extr_21, extr_30, extr_31, extr_32, List.map_cons, List.map_nil, cond_true, cond_false, aop, aThen, aBlock, argEnv, ev, sput, sputO, binK, binI, unK, builtinK, pickK, Nat.reduceBEq, Nat.reduceAdd, Int.reduceBEq, Int.reduceBNe, Int.reduceLT, aPost, resK, tup, tyf, callK, List.nil_append, List.append_nil, List.toList_toArray, List.cons_append]
  refine hr.mono ?_
  rintro _ _ ⟨rfl, rfl⟩
  simp (config := {maxSteps := 2000000}) only [s78, ↓aw_region, ↓aw_skip, ↓aw_seq, ↓aw_block, ↓aw_exit, ↓aw_ret, ↓sops_nil, ↓sops_go, ↓dops_nil, ↓dopsX_nil, ↓dopsR_nil, ↓vdn, vup, extr_20, extr_21, extr_30, extr_31, extr_32, List.map_cons, List.map_nil, cond_true, cond_false, aop, aThen, aBlock, argEnv, ev, sput, sputO, binK, binI, unK, builtinK, pickK, Nat.reduceBEq, Nat.reduceAdd, Int.reduceBEq, Int.reduceBNe, Int.reduceLT, aPost, resK, tup, tyf, ← hd, ge_iff_le]
end Go.Proofs.Tryd.Am
