/-
  order: the most even pair, of the code and of the reference.
-/
import Derived.Test.YtnjacpfahhjpiaaDoorOrEven
set_option linter.all false
namespace Go.Proofs.Tryd.Am
open Go.Am Ord
set_option maxRecDepth 100000
set_option maxHeartbeats 1000000

def bestC (st : Option (Nat × Nat × Nat)) : List Value := match st with | none => [.int .i64 0, .int .i64 0] | some (_, a, b) => [vint (a : Nat), vint (b : Nat)]
def leastI (st : Option (Nat × Nat × Nat)) : Int := match st with | none => -1 | some (d, _, _) => (d : Int)
def bestI (o : List Int) (st : Option (Nat × Nat × Nat)) : Int := match st with | none => ((cn o + 1 : Nat) : Int) | some (d, _, _) => (d : Int)
theorem bestC_len (st : Option (Nat × Nat × Nat)) : (bestC st).length = 2 := by rcases st with _ | ⟨d, a, b⟩ <;> rfl
theorem bestC_one (st : Option (Nat × Nat × Nat)) : (bestC st).all one = true := by rcases st with _ | ⟨d, a, b⟩ <;> rfl
def pairV (st : Option (Nat × Nat × Nat)) : Value := .agg (bestC st).toArray
theorem low_pair (st : Option (Nat × Nat × Nat)) : Low (pairV st) := .agg fun x hx => by
  rcases st with _ | ⟨d, a, b⟩ <;> simp [bestC] at hx <;> rcases hx with rfl | rfl <;> exact .int _ _
/-- What Even hands back. -/
def evenV (o : List Int) : Value := if ord o = true then .tuple #[pairV (evAll o o.length), .int .i64 (if evAll o o.length = none then 4 else 0)] else .tuple #[pairV none, .int .i64 2]
theorem low_even (o : List Int) : Low (evenV o) := by
  unfold evenV
  split <;> exact .pair (low_pair _) (.int _ _)
theorem bld0 {K : Value → Prop} : buildK prog 33 [] K = K (pairV none) := by
  simp [buildK, zero_33, fillL, pl_33_0, pairV, bestC]
theorem bld2 {a b : Nat} {K : Value → Prop} : buildK prog 33 [(0, vint (a : Nat)), (1, vint (b : Nat))] K = K (.agg #[vint (a : Nat), vint (b : Nat)]) := by
  simp [buildK, zero_33, fillL, pl_33_0, pl_33_1, notTuple, cellsOf, splice]
theorem loadP {h : Heap} {b : Nat} {e : TypeId} {ro : Bool} {st : Option (Nat × Nat × Nat)} {K : Value → Prop} (hb : h[b]? = some (.cells (bestC st) e ro)) : loadK prog h 33 (.pointer (some ⟨b, 0, none⟩)) K = K (pairV st) :=
  loadA hb (by rw [shp_33, bestC_len])
theorem storeP {h : Heap} {b : Nat} {e : TypeId} {c : List Value} {st : Option (Nat × Nat × Nat)} {K : Heap → Prop} (hb : h[b]? = some (.cells c e false)) (hc : c.length = 2) : storeK prog h 33 (.pointer (some ⟨b, 0, none⟩)) (pairV st) K = K (h.set b (.cells (bestC st) e false)) :=
  storeA hb (by rw [shp_33, bestC_len]) (bestC_one st) (by rw [hc, bestC_len])
theorem pair_some {d a b : Nat} : (.agg #[vint (a : Nat), vint (b : Nat)] : Value) = pairV (some (d, a, b)) := rfl
theorem zero_pair : ([.int .i64 0, .int .i64 0] : List Value) = bestC none := rfl

theorem ev_lt {o : List Int} (ho : ord o = true) {i j : Nat} (hi : i < o.length) (hj : j < o.length) (hf : fr o i j = true) : evD o i j ≤ cn o := evD_le ho hi hj hf
/-- The distance from a half, as both reckon it. -/
theorem evD_code {o : List Int} (ho : ord o = true) {i j : Nat} (hi : i < o.length) (hj : j < o.length) (hf : fr o i j = true) :
    (if subV .i64 (mulV .i64 2 ((cn (addL o i j) : Nat) : Int)) ((cn o : Nat) : Int) < subV .i64 0 (subV .i64 (mulV .i64 2 ((cn (addL o i j) : Nat) : Int)) ((cn o : Nat) : Int)) then subV .i64 0 (subV .i64 (mulV .i64 2 ((cn (addL o i j) : Nat) : Int)) ((cn o : Nat) : Int)) else subV .i64 (mulV .i64 2 ((cn (addL o i j) : Nat) : Int)) ((cn o : Nat) : Int)) = ((evD o i j : Nat) : Int) := by
  have h1 := cn_two ho hi hj hf
  have h2 := cn_le ho
  rw [mulV_id (by omega) (by omega), subV_id (by omega) (by omega), subV_id (by omega) (by omega)]
  unfold evD
  split <;> omega

/-- What the search has found is no more than the lines. -/
theorem evStep_le {o : List Int} (ho : ord o = true) {st : Option (Nat × Nat × Nat)} {i j : Nat} (hi : i < o.length) (hj : j < o.length) (hst : ∀ d a b, st = some (d, a, b) → d ≤ cn o) : ∀ d a b, evStep o st i j = some (d, a, b) → d ≤ cn o := by
  intro d a b h
  unfold evStep at h
  split at h
  · next hf =>
    have := evD_le ho hi hj hf
    split at h
    · simp only [Option.some.injEq, Prod.mk.injEq] at h; omega
    · split at h
      · simp only [Option.some.injEq, Prod.mk.injEq] at h; omega
      · next e a' b' _ =>
        simp only [Option.some.injEq, Prod.mk.injEq] at h
        have := hst e a' b' rfl
        omega
  · exact hst d a b h

theorem even_call [BitTab prog 1] {h : Heap} {v : Value} {o : List Int} (hv : IntSl h v o) (hl : o.length < 9223372036854775808) (hx : ∀ x ∈ o, -9223372036854775808 ≤ x ∧ x < 9223372036854775808) : APure prog 23 [v] h (evenV o) := by
  refine ACall.forget (low_even o) ?_
  refine s23_call (by simp) ?_
  simp only [s23]
  refine aw_cut fun N hN => ?_
  simp (config := {maxSteps := 2000000}) only [s23, ↓aw_region, ↓aw_skip, ↓aw_seq, ↓aw_block, ↓aw_exit, ↓aw_ret, ↓sops_nil, ↓sops_go, ↓dops_nil, ↓dopsX_nil, ↓dopsR_nil, ↓vdn, vup, extr_20, extr_21, extr_30, extr_31, extr_32, List.map_cons, List.map_nil, cond_true, cond_false, aop, aThen, aBlock, argEnv, ev, sput, sputO, binK, binI, unK, builtinK, pickK, Nat.reduceBEq, Nat.reduceAdd, Int.reduceBEq, Int.reduceBNe, Int.reduceLT, aPost, resK, tup, tyf, allocK, newPtr, zero_33, zero_pair]
  refine hN _ _ ?_
  clear hN N
  obtain ⟨n, hn⟩ : ∃ n, n = h.length := ⟨_, rfl⟩
  obtain ⟨H, hH⟩ : ∃ H, H = h ++ [Blk.cells (bestC none) 33 false] := ⟨_, rfl⟩
  rw [← hn, ← hH]
  have hHl : H.length = n + 1 := by rw [hH, hn]; simp
  have b0 : H[n]? = some (.cells (bestC none) 33 false) := by rw [hH, hn]; exact get_new _ _
  have hE0 : Ext (fun _ => False) h H := by rw [hH]; exact Ext.app _ _ _
  have hvH : IntSl H v o := IntSl_ext hv hE0
  clear hH
  refine aw_cut fun N hN => ?_
  simp (config := {maxSteps := 2000000}) only [s23, ↓aw_region, ↓aw_skip, ↓aw_seq, ↓aw_block, ↓aw_exit, ↓aw_ret, ↓sops_nil, ↓sops_go, ↓dops_nil, ↓dopsX_nil, ↓dopsR_nil, ↓vdn, vup, extr_20, extr_21, extr_30, extr_31, extr_32, List.map_cons, List.map_nil, cond_true, cond_false, aop, aThen, aBlock, argEnv, ev, sput, sputO, binK, binI, unK, builtinK, pickK, Nat.reduceBEq, Nat.reduceAdd, Int.reduceBEq, Int.reduceBNe, Int.reduceLT, aPost, resK, tup, tyf, callK, List.nil_append, List.append_nil, List.toList_toArray, List.cons_append]
  refine (read_call hvH hl hx).mono ?_
  rintro _ g ⟨rfl, rfl⟩
  simp (config := {maxSteps := 2000000}) only [s23, ↓aw_region, ↓aw_skip, ↓aw_seq, ↓aw_block, ↓aw_exit, ↓aw_ret, ↓sops_nil, ↓sops_go, ↓dops_nil, ↓dopsX_nil, ↓dopsR_nil, ↓vdn, vup, extr_20, extr_21, extr_30, extr_31, extr_32, List.map_cons, List.map_nil, cond_true, cond_false, aop, aThen, aBlock, argEnv, ev, sput, sputO, binK, binI, unK, builtinK, pickK, Nat.reduceBEq, Nat.reduceAdd, Int.reduceBEq, Int.reduceBNe, Int.reduceLT, aPost, resK, tup, tyf, allocK, newPtr, zeroN, zero_77]
  rw [storeRd]
  obtain ⟨hE1, b1⟩ := rdBox g o
  generalize hG : (g ++ [Blk.cells (ordN 0) 77 false]).set g.length (.cells (rdC o) 77 false) = G at hE1 b1 ⊢
  have hGl : G.length = n + 2 := by rw [← hG]; simp [hHl]
  rw [hHl] at b1 ⊢
  replace b0 : G[n]? = some (.cells (bestC none) 33 false) := (hE1.2 n (by omega) id).trans b0
  replace hE0 := hE0.trans hE1
  clear hG hE1 hvH hHl
  clear g
  cases ho : ord o with
  | false =>
    refine hN _ _ ?_
    have c0 : (G.set n (.cells (bestC none) 33 false))[n]? = some (.cells (bestC none) 33 false) := get_set (by omega) _
    simp (config := {maxSteps := 2000000}) only [s23, ↓aw_region, ↓aw_skip, ↓aw_seq, ↓aw_block, ↓aw_exit, ↓aw_ret, ↓sops_nil, ↓sops_go, ↓dops_nil, ↓dopsX_nil, ↓dopsR_nil, ↓vdn, vup, extr_20, extr_21, extr_30, extr_31, extr_32, List.map_cons, List.map_nil, cond_true, cond_false, aop, aThen, aBlock, argEnv, ev, sput, sputO, binK, binI, unK, builtinK, pickK, Nat.reduceBEq, Nat.reduceAdd, Int.reduceBEq, Int.reduceBNe, Int.reduceLT, aPost, resK, tup, tyf, bld0, storeP b0 rfl, loadP c0]
    refine ⟨by rw [evenV, ho]; rfl, by simp; exact hE0.1, fun i hi _ => by rw [List.getElem?_set_ne (by omega)]; exact hE0.2 i hi id⟩
  | true =>
    have hlen := ord_len ho
    have hrd : rdC o = ordC o := if_pos hlen
    have hcn := cn_le ho
    rw [hrd] at b1
    refine hN _ _ ?_
    clear hN N
    refine aw_cut fun N hN => ?_
    simp (config := {maxSteps := 2000000}) only [s23, ↓aw_region, ↓aw_skip, ↓aw_seq, ↓aw_block, ↓aw_exit, ↓aw_ret, ↓sops_nil, ↓sops_go, ↓dops_nil, ↓dopsX_nil, ↓dopsR_nil, ↓vdn, vup, extr_20, extr_21, extr_30, extr_31, extr_32, List.map_cons, List.map_nil, cond_true, cond_false, aop, aThen, aBlock, argEnv, ev, sput, sputO, binK, binI, unK, builtinK, pickK, Nat.reduceBEq, Nat.reduceAdd, Int.reduceBEq, Int.reduceBNe, Int.reduceLT, aPost, resK, tup, tyf]
    refine hN _ _ ?_
    clear hN N
    refine aw_cut fun N hN => ?_
    simp (config := {maxSteps := 2000000}) only [s23, ↓aw_region, ↓aw_skip, ↓aw_seq, ↓aw_block, ↓aw_exit, ↓aw_ret, ↓sops_nil, ↓sops_go, ↓dops_nil, ↓dopsX_nil, ↓dopsR_nil, ↓vdn, vup, extr_20, extr_21, extr_30, extr_31, extr_32, List.map_cons, List.map_nil, cond_true, cond_false, aop, aThen, aBlock, argEnv, ev, sput, sputO, binK, binI, unK, builtinK, pickK, Nat.reduceBEq, Nat.reduceAdd, Int.reduceBEq, Int.reduceBNe, Int.reduceLT, aPost, resK, tup, tyf, allocK, newPtr, zero_33, zero_pair]
    refine hN _ _ ?_
    clear hN N
    rw [hGl]
    obtain ⟨F, hF⟩ : ∃ F, F = G ++ [Blk.cells (bestC none) 33 false] := ⟨_, rfl⟩
    rw [← hF]
    have hFl : F.length = n + 3 := by rw [hF]; simp [hGl]
    have f0 : F[n]? = some (.cells (bestC none) 33 false) := by rw [hF]; exact get_old b0 _
    have f1 : F[n + 1]? = some (.cells (ordC o) 77 false) := by rw [hF]; exact get_old b1 _
    have f2 : F[n + 2]? = some (.cells (bestC none) 33 false) := by rw [hF, ← hGl]; exact get_new _ _
    have hEF : Ext (fun _ => False) h F := hE0.trans (by rw [hF]; exact Ext.app _ _ _)
    clear hF b0 b1 hE0 hGl
    clear G
    simp (config := {maxSteps := 2000000}) only [s23, ↓aw_region, ↓aw_skip, ↓aw_seq, ↓aw_block, ↓aw_exit, ↓aw_ret, ↓sops_nil, ↓sops_go, ↓dops_nil, ↓dopsX_nil, ↓dopsR_nil, ↓vdn, vup, extr_20, extr_21, extr_30, extr_31, extr_32, List.map_cons, List.map_nil, cond_true, cond_false, aop, aThen, aBlock, argEnv, ev, sput, sputO, binK, binI, unK, builtinK, pickK, Nat.reduceBEq, Nat.reduceAdd, Int.reduceBEq, Int.reduceBNe, Int.reduceLT, aPost, resK, tup, tyf, fldA fld_77_0 esz_3, loadN f1 shp_3, ↓aw_loop_eq]
    refine aws_hide fun Q hQ => ?_
    refine aw_loop (γ := Nat × Heap) (fun s => s.1 ≤ o.length ∧ s.2[n]? = some (.cells (bestC none) 33 false) ∧ s.2[n + 1]? = some (.cells (ordC o) 77 false) ∧ s.2[n + 2]? = some (.cells (bestC (evAll o s.1)) 33 false) ∧ Ext (fun _ => False) h s.2)
      (fun s => ([(0, v), (2, .pointer (some ⟨n, 0, none⟩)), (3, .int .i64 0), (4, .pointer (some ⟨n + 1, 0, none⟩)), (6, .pointer (some ⟨n + 2, 0, none⟩)), (7, .int .i64 (leastI (evAll o s.1))), (20, vint o.length), (21, vint s.1)], s.2)) (fun s => o.length - s.1) (0, F) ⟨Nat.zero_le _, f0, f1, f2, hEF⟩ (by simp (config := {maxSteps := 2000000}) only [↓aw_region, ↓aw_skip, ↓aw_seq, ↓aw_block, ↓aw_exit, ↓aw_ret, ↓sops_nil, ↓sops_go, ↓dops_nil, ↓dopsX_nil, ↓dopsR_nil, ↓vdn, vup, extr_20, extr_21, extr_30, extr_31, extr_32, List.map_cons, List.map_nil, cond_true, cond_false, aop, aThen, aBlock, argEnv, ev, sput, sputO, binK, binI, unK, builtinK, pickK, Nat.reduceBEq, Nat.reduceAdd, Int.reduceBEq, Int.reduceBNe, Int.reduceLT, aPost, resK, tup, tyf, Int.natCast_zero, leastI, evAll]) rfl ?_
    rintro ⟨i, hp⟩ ⟨hi, e0, e1, e2, hE⟩
    simp only at hi e0 e1 e2 hE
    refine aw_hide fun Q2 hQ2 => ?_
    by_cases hin : (i : Int) < o.length
    · have hin' : i < o.length := by omega
      simp only [l23_1]
      simp (config := {maxSteps := 2000000}) only [s23, ↓aw_region, ↓aw_skip, ↓aw_seq, ↓aw_block, ↓aw_exit, ↓aw_ret, ↓sops_nil, ↓sops_go, ↓dops_nil, ↓dopsX_nil, ↓dopsR_nil, ↓vdn, vup, extr_20, extr_21, extr_30, extr_31, extr_32, List.map_cons, List.map_nil, cond_true, cond_false, aop, aThen, aBlock, argEnv, ev, sput, sputO, binK, binI, unK, builtinK, pickK, Nat.reduceBEq, Nat.reduceAdd, Int.reduceBEq, Int.reduceBNe, Int.reduceLT, aPost, resK, tup, tyf, hin, add1 (show i < 9223372036854775807 by omega), ↓aw_loop_eq]
      refine aws_hide fun Q3 hQ3 => ?_
      refine aw_loop (γ := Nat × Heap) (fun s => i + 1 + s.1 ≤ o.length ∧ s.2[n]? = some (.cells (bestC none) 33 false) ∧ s.2[n + 1]? = some (.cells (ordC o) 77 false) ∧ s.2[n + 2]? = some (.cells (bestC (evRow o i (evAll o i) s.1)) 33 false) ∧ Ext (fun _ => False) h s.2)
        (fun s => ([(0, v), (2, .pointer (some ⟨n, 0, none⟩)), (3, .int .i64 0), (4, .pointer (some ⟨n + 1, 0, none⟩)), (6, .pointer (some ⟨n + 2, 0, none⟩)), (7, .int .i64 (leastI (evRow o i (evAll o i) s.1))), (8, vint i), (9, vint (i + 1 + s.1 : Nat)), (20, vint o.length), (21, vint i)], s.2)) (fun s => o.length - s.1) (0, hp) ⟨by omega, e0, e1, e2, hE⟩ (by simp (config := {maxSteps := 2000000}) only [↓aw_region, ↓aw_skip, ↓aw_seq, ↓aw_block, ↓aw_exit, ↓aw_ret, ↓sops_nil, ↓sops_go, ↓dops_nil, ↓dopsX_nil, ↓dopsR_nil, ↓vdn, vup, extr_20, extr_21, extr_30, extr_31, extr_32, List.map_cons, List.map_nil, cond_true, cond_false, aop, aThen, aBlock, argEnv, ev, sput, sputO, binK, binI, unK, builtinK, pickK, Nat.reduceBEq, Nat.reduceAdd, Int.reduceBEq, Int.reduceBNe, Int.reduceLT, aPost, resK, tup, tyf, Nat.add_zero, evRow]) rfl ?_
      rintro ⟨k, hq⟩ ⟨hk, g0, g1, g2, hEq⟩
      simp only at hk g0 g1 g2 hEq
      refine aw_hide fun Q4 hQ4 => ?_
      obtain ⟨j, hj⟩ : ∃ j, j = i + 1 + k := ⟨_, rfl⟩
      rw [← hj] at hk ⊢
      by_cases hjn : (j : Int) < o.length
      · have hjn' : j < o.length := by omega
        have hnext : evRow o i (evAll o i) (k + 1) = evStep o (evRow o i (evAll o i) k) i j := by rw [evRow, hj]
        generalize hst : evRow o i (evAll o i) k = st at g2 hnext ⊢
        simp only [l23_0]
        simp (config := {maxSteps := 2000000}) only [s23, ↓aw_region, ↓aw_skip, ↓aw_seq, ↓aw_block, ↓aw_exit, ↓aw_ret, ↓sops_nil, ↓sops_go, ↓dops_nil, ↓dopsX_nil, ↓dopsR_nil, ↓vdn, vup, extr_20, extr_21, extr_30, extr_31, extr_32, List.map_cons, List.map_nil, cond_true, cond_false, aop, aThen, aBlock, argEnv, ev, sput, sputO, binK, binI, unK, builtinK, pickK, Nat.reduceBEq, Nat.reduceAdd, Int.reduceBEq, Int.reduceBNe, Int.reduceLT, aPost, resK, tup, tyf, fldA fld_77_0 esz_3, loadN g1 shp_3, hjn, loadO g1 shp_77 hlen.2, callK, List.nil_append, List.append_nil, List.toList_toArray, List.cons_append]
        refine (free_call ho hin' hjn').mono ?_
        rintro _ _ ⟨rfl, rfl⟩
        cases hf : fr o i j with
        | false =>
          have hs : evStep o st i j = st := by unfold evStep; rw [if_neg (by rw [hf]; decide)]
          rw [hs] at hnext
          simp (config := {maxSteps := 2000000}) only [s23, ↓aw_region, ↓aw_skip, ↓aw_seq, ↓aw_block, ↓aw_exit, ↓aw_ret, ↓sops_nil, ↓sops_go, ↓dops_nil, ↓dopsX_nil, ↓dopsR_nil, ↓vdn, vup, extr_20, extr_21, extr_30, extr_31, extr_32, List.map_cons, List.map_nil, cond_true, cond_false, aop, aThen, aBlock, argEnv, ev, sput, sputO, binK, binI, unK, builtinK, pickK, Nat.reduceBEq, Nat.reduceAdd, Int.reduceBEq, Int.reduceBNe, Int.reduceLT, aPost, resK, tup, tyf, hf, add1 (show j < 9223372036854775807 by omega)]
          exact hQ4 _ _ _ ⟨(k + 1, _), ⟨by simp only; omega, g0, g1, by simp only; rw [hnext]; exact g2, hEq⟩, by simp only; omega, by simp (config := {maxSteps := 2000000}) only [↓aw_region, ↓aw_skip, ↓aw_seq, ↓aw_block, ↓aw_exit, ↓aw_ret, ↓sops_nil, ↓sops_go, ↓dops_nil, ↓dopsX_nil, ↓dopsR_nil, ↓vdn, vup, extr_20, extr_21, extr_30, extr_31, extr_32, List.map_cons, List.map_nil, cond_true, cond_false, aop, aThen, aBlock, argEnv, ev, sput, sputO, binK, binI, unK, builtinK, pickK, Nat.reduceBEq, Nat.reduceAdd, Int.reduceBEq, Int.reduceBNe, Int.reduceLT, aPost, resK, tup, tyf, hnext, show i + 1 + (k + 1) = j + 1 by omega], rfl⟩
        | true =>
          have hff := hf
          simp only [fr, Bool.and_eq_true, decide_eq_true_eq, Bool.not_eq_true'] at hff
          have hb : befN o i j = cn (addL o i j) := by rw [befN, if_neg (by rw [hff.1.2]; decide), if_pos hf]
          have hd := evD_code ho hin' hjn' hf
          simp (config := {maxSteps := 2000000}) only [s23, ↓aw_region, ↓aw_skip, ↓aw_seq, ↓aw_block, ↓aw_exit, ↓aw_ret, ↓sops_nil, ↓sops_go, ↓dops_nil, ↓dopsX_nil, ↓dopsR_nil, ↓vdn, vup, extr_20, extr_21, extr_30, extr_31, extr_32, List.map_cons, List.map_nil, cond_true, cond_false, aop, aThen, aBlock, argEnv, ev, sput, sputO, binK, binI, unK, builtinK, pickK, Nat.reduceBEq, Nat.reduceAdd, Int.reduceBEq, Int.reduceBNe, Int.reduceLT, aPost, resK, tup, tyf, hf]
          refine aw_drawX [(3, 1), (6, 1)] (by kernel_rfl) (by kernel_rfl) (by kernel_rfl) (by kernel_rfl) ?_
          simp (config := {maxSteps := 2000000}) only [s23, ↓aw_region, ↓aw_skip, ↓aw_seq, ↓aw_block, ↓aw_exit, ↓aw_ret, ↓sops_nil, ↓sops_go, ↓dops_nil, ↓dopsX_nil, ↓dopsR_nil, ↓vdn, vup, extr_20, extr_21, extr_30, extr_31, extr_32, List.map_cons, List.map_nil, cond_true, cond_false, aop, aThen, aBlock, argEnv, ev, sput, sputO, binK, binI, unK, builtinK, pickK, Nat.reduceBEq, Nat.reduceAdd, Int.reduceBEq, Int.reduceBNe, Int.reduceLT, aPost, resK, tup, tyf, loadO g1 shp_77 hlen.2, callK, List.nil_append, List.append_nil, List.toList_toArray, List.cons_append]
          refine ⟨_, _, before_call ho hin' hjn', rfl, ?_⟩
          simp (config := {maxSteps := 2000000}) only [s23, ↓aw_region, ↓aw_skip, ↓aw_seq, ↓aw_block, ↓aw_exit, ↓aw_ret, ↓sops_nil, ↓sops_go, ↓dops_nil, ↓dopsX_nil, ↓dopsR_nil, ↓vdn, vup, extr_20, extr_21, extr_30, extr_31, extr_32, List.map_cons, List.map_nil, cond_true, cond_false, aop, aThen, aBlock, argEnv, ev, sput, sputO, binK, binI, unK, builtinK, pickK, Nat.reduceBEq, Nat.reduceAdd, Int.reduceBEq, Int.reduceBNe, Int.reduceLT, aPost, resK, tup, tyf, loadO g1 shp_77 hlen.2, callK, List.nil_append, List.append_nil, List.toList_toArray, List.cons_append]
          refine ⟨_, _, counted_call ho, rfl, ?_⟩
          have hlq := get_lt g2
          rcases st with _ | ⟨d, a, b⟩
          · have hs : evStep o none i j = some (evD o i j, i, j) := by simp only [evStep, hf, if_true]
            rw [hs] at hnext
            have hneg : (-1 : Int) < 0 := by decide
            simp (config := {maxSteps := 2000000}) only [s23, ↓aw_region, ↓aw_skip, ↓aw_seq, ↓aw_block, ↓aw_exit, ↓aw_ret, ↓sops_nil, ↓sops_go, ↓dops_nil, ↓dopsX_nil, ↓dopsR_nil, ↓vdn, vup, extr_20, extr_21, extr_30, extr_31, extr_32, List.map_cons, List.map_nil, cond_true, cond_false, aop, aThen, aBlock, argEnv, ev, sput, sputO, binK, binI, unK, builtinK, pickK, Nat.reduceBEq, Nat.reduceAdd, Int.reduceBEq, Int.reduceBNe, Int.reduceLT, aPost, resK, tup, tyf, hb, mmK, if_true, gt_iff_lt, hd, leastI, hneg, bld2]
            rw [pair_some (d := evD o i j), storeP g2 rfl]
            simp (config := {maxSteps := 2000000}) only [s23, ↓aw_region, ↓aw_skip, ↓aw_seq, ↓aw_block, ↓aw_exit, ↓aw_ret, ↓sops_nil, ↓sops_go, ↓dops_nil, ↓dopsX_nil, ↓dopsR_nil, ↓vdn, vup, extr_20, extr_21, extr_30, extr_31, extr_32, List.map_cons, List.map_nil, cond_true, cond_false, aop, aThen, aBlock, argEnv, ev, sput, sputO, binK, binI, unK, builtinK, pickK, Nat.reduceBEq, Nat.reduceAdd, Int.reduceBEq, Int.reduceBNe, Int.reduceLT, aPost, resK, tup, tyf, add1 (show j < 9223372036854775807 by omega)]
            refine hQ4 _ _ _ ⟨(k + 1, _), ⟨by simp only; omega, ?_, ?_, ?_, ?_⟩, by simp only; omega, by simp (config := {maxSteps := 2000000}) only [↓aw_region, ↓aw_skip, ↓aw_seq, ↓aw_block, ↓aw_exit, ↓aw_ret, ↓sops_nil, ↓sops_go, ↓dops_nil, ↓dopsX_nil, ↓dopsR_nil, ↓vdn, vup, extr_20, extr_21, extr_30, extr_31, extr_32, List.map_cons, List.map_nil, cond_true, cond_false, aop, aThen, aBlock, argEnv, ev, sput, sputO, binK, binI, unK, builtinK, pickK, Nat.reduceBEq, Nat.reduceAdd, Int.reduceBEq, Int.reduceBNe, Int.reduceLT, aPost, resK, tup, tyf, hnext, leastI, show i + 1 + (k + 1) = j + 1 by omega], rfl⟩
            · simp only; rw [List.getElem?_set_ne (by omega)]; exact g0
            · simp only; rw [List.getElem?_set_ne (by omega)]; exact g1
            · simp only; rw [hnext]; exact get_set hlq _
            · exact ⟨by simp; exact hEq.1, fun q hq' _ => by rw [List.getElem?_set_ne (by omega)]; exact hEq.2 q hq' id⟩
          · have hneg : ¬ ((d : Nat) : Int) < 0 := by omega
            by_cases hlt : evD o i j < d
            · have hs : evStep o (some (d, a, b)) i j = some (evD o i j, i, j) := by simp only [evStep, hf, if_true, hlt]
              rw [hs] at hnext
              have hlt' : ((evD o i j : Nat) : Int) < ((d : Nat) : Int) := Int.ofNat_lt.2 hlt
              simp (config := {maxSteps := 2000000}) only [s23, ↓aw_region, ↓aw_skip, ↓aw_seq, ↓aw_block, ↓aw_exit, ↓aw_ret, ↓sops_nil, ↓sops_go, ↓dops_nil, ↓dopsX_nil, ↓dopsR_nil, ↓vdn, vup, extr_20, extr_21, extr_30, extr_31, extr_32, List.map_cons, List.map_nil, cond_true, cond_false, aop, aThen, aBlock, argEnv, ev, sput, sputO, binK, binI, unK, builtinK, pickK, Nat.reduceBEq, Nat.reduceAdd, Int.reduceBEq, Int.reduceBNe, Int.reduceLT, aPost, resK, tup, tyf, hb, mmK, if_true, gt_iff_lt, hd, leastI, hneg, hlt', bld2]
              rw [pair_some (d := evD o i j), storeP g2 rfl]
              simp (config := {maxSteps := 2000000}) only [s23, ↓aw_region, ↓aw_skip, ↓aw_seq, ↓aw_block, ↓aw_exit, ↓aw_ret, ↓sops_nil, ↓sops_go, ↓dops_nil, ↓dopsX_nil, ↓dopsR_nil, ↓vdn, vup, extr_20, extr_21, extr_30, extr_31, extr_32, List.map_cons, List.map_nil, cond_true, cond_false, aop, aThen, aBlock, argEnv, ev, sput, sputO, binK, binI, unK, builtinK, pickK, Nat.reduceBEq, Nat.reduceAdd, Int.reduceBEq, Int.reduceBNe, Int.reduceLT, aPost, resK, tup, tyf, add1 (show j < 9223372036854775807 by omega)]
              refine hQ4 _ _ _ ⟨(k + 1, _), ⟨by simp only; omega, ?_, ?_, ?_, ?_⟩, by simp only; omega, by simp (config := {maxSteps := 2000000}) only [↓aw_region, ↓aw_skip, ↓aw_seq, ↓aw_block, ↓aw_exit, ↓aw_ret, ↓sops_nil, ↓sops_go, ↓dops_nil, ↓dopsX_nil, ↓dopsR_nil, ↓vdn, vup, extr_20, extr_21, extr_30, extr_31, extr_32, List.map_cons, List.map_nil, cond_true, cond_false, aop, aThen, aBlock, argEnv, ev, sput, sputO, binK, binI, unK, builtinK, pickK, Nat.reduceBEq, Nat.reduceAdd, Int.reduceBEq, Int.reduceBNe, Int.reduceLT, aPost, resK, tup, tyf, hnext, leastI, show i + 1 + (k + 1) = j + 1 by omega], rfl⟩
              · simp only; rw [List.getElem?_set_ne (by omega)]; exact g0
              · simp only; rw [List.getElem?_set_ne (by omega)]; exact g1
              · simp only; rw [hnext]; exact get_set hlq _
              · exact ⟨by simp; exact hEq.1, fun q hq' _ => by rw [List.getElem?_set_ne (by omega)]; exact hEq.2 q hq' id⟩
            · have hs : evStep o (some (d, a, b)) i j = some (d, a, b) := by simp only [evStep, hf, if_true, hlt, if_false]
              rw [hs] at hnext
              have hlt' : ¬ ((evD o i j : Nat) : Int) < ((d : Nat) : Int) := by omega
              simp (config := {maxSteps := 2000000}) only [s23, ↓aw_region, ↓aw_skip, ↓aw_seq, ↓aw_block, ↓aw_exit, ↓aw_ret, ↓sops_nil, ↓sops_go, ↓dops_nil, ↓dopsX_nil, ↓dopsR_nil, ↓vdn, vup, extr_20, extr_21, extr_30, extr_31, extr_32, List.map_cons, List.map_nil, cond_true, cond_false, aop, aThen, aBlock, argEnv, ev, sput, sputO, binK, binI, unK, builtinK, pickK, Nat.reduceBEq, Nat.reduceAdd, Int.reduceBEq, Int.reduceBNe, Int.reduceLT, aPost, resK, tup, tyf, hb, mmK, if_true, gt_iff_lt, hd, leastI, hneg, hlt', add1 (show j < 9223372036854775807 by omega)]
              exact hQ4 _ _ _ ⟨(k + 1, _), ⟨by simp only; omega, g0, g1, by simp only; rw [hnext]; exact g2, hEq⟩, by simp only; omega, by simp (config := {maxSteps := 2000000}) only [↓aw_region, ↓aw_skip, ↓aw_seq, ↓aw_block, ↓aw_exit, ↓aw_ret, ↓sops_nil, ↓sops_go, ↓dops_nil, ↓dopsX_nil, ↓dopsR_nil, ↓vdn, vup, extr_20, extr_21, extr_30, extr_31, extr_32, List.map_cons, List.map_nil, cond_true, cond_false, aop, aThen, aBlock, argEnv, ev, sput, sputO, binK, binI, unK, builtinK, pickK, Nat.reduceBEq, Nat.reduceAdd, Int.reduceBEq, Int.reduceBNe, Int.reduceLT, aPost, resK, tup, tyf, hnext, leastI, show i + 1 + (k + 1) = j + 1 by omega], rfl⟩
      · have hje : j = o.length := by omega
        have hrow : evAll o (i + 1) = evRow o i (evAll o i) k := by rw [evAll]; congr 1; omega
        have hjn2 : ¬ (j : Int) < o.length := hjn
        simp (config := {maxSteps := 2000000}) only [s23, ↓aw_region, ↓aw_skip, ↓aw_seq, ↓aw_block, ↓aw_exit, ↓aw_ret, ↓sops_nil, ↓sops_go, ↓dops_nil, ↓dopsX_nil, ↓dopsR_nil, ↓vdn, vup, extr_20, extr_21, extr_30, extr_31, extr_32, List.map_cons, List.map_nil, cond_true, cond_false, aop, aThen, aBlock, argEnv, ev, sput, sputO, binK, binI, unK, builtinK, pickK, Nat.reduceBEq, Nat.reduceAdd, Int.reduceBEq, Int.reduceBNe, Int.reduceLT, aPost, resK, tup, tyf, l23_0, fldA fld_77_0 esz_3, loadN g1 shp_3, hjn2]
        refine hQ4 _ _ _ (hQ3 _ _ _ ?_)
        simp (config := {maxSteps := 2000000}) only [s23, ↓aw_region, ↓aw_skip, ↓aw_seq, ↓aw_block, ↓aw_exit, ↓aw_ret, ↓sops_nil, ↓sops_go, ↓dops_nil, ↓dopsX_nil, ↓dopsR_nil, ↓vdn, vup, extr_20, extr_21, extr_30, extr_31, extr_32, List.map_cons, List.map_nil, cond_true, cond_false, aop, aThen, aBlock, argEnv, ev, sput, sputO, binK, binI, unK, builtinK, pickK, Nat.reduceBEq, Nat.reduceAdd, Int.reduceBEq, Int.reduceBNe, Int.reduceLT, aPost, resK, tup, tyf, add1 (show i < 9223372036854775807 by omega)]
        exact hQ2 _ _ _ ⟨(i + 1, _), ⟨by simp only; omega, g0, g1, by simp only; rw [hrow]; exact g2, hEq⟩, by simp only; omega, by simp (config := {maxSteps := 2000000}) only [↓aw_region, ↓aw_skip, ↓aw_seq, ↓aw_block, ↓aw_exit, ↓aw_ret, ↓sops_nil, ↓sops_go, ↓dops_nil, ↓dopsX_nil, ↓dopsR_nil, ↓vdn, vup, extr_20, extr_21, extr_30, extr_31, extr_32, List.map_cons, List.map_nil, cond_true, cond_false, aop, aThen, aBlock, argEnv, ev, sput, sputO, binK, binI, unK, builtinK, pickK, Nat.reduceBEq, Nat.reduceAdd, Int.reduceBEq, Int.reduceBNe, Int.reduceLT, aPost, resK, tup, tyf, hrow], rfl⟩
    obtain rfl : i = o.length := by omega
    simp (config := {maxSteps := 2000000}) only [s23, ↓aw_region, ↓aw_skip, ↓aw_seq, ↓aw_block, ↓aw_exit, ↓aw_ret, ↓sops_nil, ↓sops_go, ↓dops_nil, ↓dopsX_nil, ↓dopsR_nil, ↓vdn, vup, extr_20, extr_21, extr_30, extr_31, extr_32, List.map_cons, List.map_nil, cond_true, cond_false, aop, aThen, aBlock, argEnv, ev, sput, sputO, binK, binI, unK, builtinK, pickK, Nat.reduceBEq, Nat.reduceAdd, Int.reduceBEq, Int.reduceBNe, Int.reduceLT, aPost, resK, tup, tyf, l23_1, Int.lt_irrefl]
    refine hQ2 _ _ _ (hQ _ _ _ ?_)
    clear hQ2 hQ Q2 Q hin hi
    have hlp := get_lt e0
    have fin : ∀ st, (hp.set n (.cells (bestC st) 33 false))[n]? = some (.cells (bestC st) 33 false) ∧ Ext (fun _ => False) h (hp.set n (.cells (bestC st) 33 false)) := fun st =>
      ⟨get_set hlp _, by simp; exact hE.1, fun q hq _ => by rw [List.getElem?_set_ne (by omega)]; exact hE.2 q hq id⟩
    obtain ⟨c0, hEn⟩ := fin (evAll o o.length)
    cases hst : evAll o o.length with
    | none =>
      rw [hst] at c0 hEn e2
      have hneg : (-1 : Int) < 0 := by decide
      simp (config := {maxSteps := 2000000}) only [s23, ↓aw_region, ↓aw_skip, ↓aw_seq, ↓aw_block, ↓aw_exit, ↓aw_ret, ↓sops_nil, ↓sops_go, ↓dops_nil, ↓dopsX_nil, ↓dopsR_nil, ↓vdn, vup, extr_20, extr_21, extr_30, extr_31, extr_32, List.map_cons, List.map_nil, cond_true, cond_false, aop, aThen, aBlock, argEnv, ev, sput, sputO, binK, binI, unK, builtinK, pickK, Nat.reduceBEq, Nat.reduceAdd, Int.reduceBEq, Int.reduceBNe, Int.reduceLT, aPost, resK, tup, tyf, hst, leastI, hneg, bld0, storeP e0 rfl, loadP c0]
      exact ⟨by rw [evenV, ho, hst]; rfl, hEn⟩
    | some t =>
      obtain ⟨d, a, b⟩ := t
      rw [hst] at c0 hEn e2
      have hneg : ¬ ((d : Nat) : Int) < 0 := by omega
      simp (config := {maxSteps := 2000000}) only [s23, ↓aw_region, ↓aw_skip, ↓aw_seq, ↓aw_block, ↓aw_exit, ↓aw_ret, ↓sops_nil, ↓sops_go, ↓dops_nil, ↓dopsX_nil, ↓dopsR_nil, ↓vdn, vup, extr_20, extr_21, extr_30, extr_31, extr_32, List.map_cons, List.map_nil, cond_true, cond_false, aop, aThen, aBlock, argEnv, ev, sput, sputO, binK, binI, unK, builtinK, pickK, Nat.reduceBEq, Nat.reduceAdd, Int.reduceBEq, Int.reduceBNe, Int.reduceLT, aPost, resK, tup, tyf, hst, leastI, hneg, loadP e2, storeP e0 rfl, loadP c0]
      exact ⟨by rw [evenV, ho, hst]; rfl, hEn⟩
end Go.Proofs.Tryd.Am
