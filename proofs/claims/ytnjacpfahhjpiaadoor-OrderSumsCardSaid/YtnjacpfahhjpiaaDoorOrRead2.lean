/-
  order: read.
-/
import Derived.Test.YtnjacpfahhjpiaaDoorOrRead
import Derived.Test.YtnjacpfahhjpiaaDoorClose
set_option linter.all false
namespace Go.Proofs.Tryd.Am
open Go.Am Ord
set_option maxRecDepth 100000
set_option maxHeartbeats 1000000

theorem IntSl_ext {h h' : Heap} {v : Value} {xs : List Int} (hv : IntSl h v xs) (he : Ext (fun _ => False) h h') : IntSl h' v xs := hv.same fun b hb => he.2 b (hv.lt hb) id
/-- An order without pairs, of n elements. -/
def ordN (n : Int) : List Value := [vint n, .int .i64 0, .int .i64 0, .int .i64 0, .int .i64 0, .int .i64 0, .int .i64 0]
theorem bldN {n : Int} {K : Value → Prop} : buildK prog 77 [(0, vint n)] K = K (.agg (ordN n).toArray) := by
  simp [buildK, zero_77, fillL, pl_77_0, notTuple, cellsOf, splice, ordN]
theorem zeroN : ([.int .i64 0, .int .i64 0, .int .i64 0, .int .i64 0, .int .i64 0, .int .i64 0, .int .i64 0] : List Value) = ordN 0 := rfl
theorem ordN_ord {n : Nat} (hn : n ≤ 6) : ordN n = ordC (zeros n) := by
  have : n = 0 ∨ n = 1 ∨ n = 2 ∨ n = 3 ∨ n = 4 ∨ n = 5 ∨ n = 6 := by omega
  rcases this with rfl | rfl | rfl | rfl | rfl | rfl | rfl <;> rfl
theorem copyO {h : Heap} {v : Value} {o : List Int} (hv : IntSl h v o) (h1 : 1 ≤ o.length ∧ o.length ≤ 6) {b : Nat} (hb : h[b]? = some (.cells (ordN o.length) 77 false)) {K : Value → Heap → Prop} (hk : K (vint o.length) (h.set b (.cells (ordC o) 77 false))) :
    copyK prog h 22 (.slice (some ⟨b, 1, none⟩) 6 6) v K := by
  have hne : o ≠ [] := by rintro rfl; simp at h1
  have hv' := hv
  rcases hv with ⟨rfl, hx⟩ | ⟨b2, o2, sp, cap, c, e, ro, rfl, hc, hw, hx⟩
  · exact absurd hx hne
  have e6 : min (o.length : Int) ((6 : Nat) : Int) = o.length := by omega
  simp only [copyK, el_22, esz_3, Nat.min_eq_left h1.2, e6]
  refine hv'.cells hne b2 o2 sp o.length cap rfl ?_
  refine ⟨?_, ?_⟩
  · rw [List.all_eq_true]; intro x hx
    obtain ⟨y, -, rfl⟩ := List.mem_map.1 hx; rfl
  · simp only [hb]
    refine ⟨by simp [ordN]; omega, ?_⟩
    have e1 : splice (ordN o.length) 1 (o.map vint) = ordC o := by
      rw [splice, ordC, ordN, sixs, List.map_append, List.length_map]
      show _ :: (_ ++ _) = _
      congr 2
      rw [List.map_replicate]
      have : o.length = 1 ∨ o.length = 2 ∨ o.length = 3 ∨ o.length = 4 ∨ o.length = 5 ∨ o.length = 6 := by omega
      rcases this with h | h | h | h | h | h <;> rw [h] <;> rfl
    rw [e1]; exact hk

/-- What 'read' hands back beside its answer. -/
def rdC (o : List Int) : List Value := if 1 ≤ o.length ∧ o.length ≤ 6 then ordC o else ordN o.length
def rdV (o : List Int) : Value := .agg (rdC o).toArray
theorem rdV_ord {o : List Int} (h : ord o = true) : rdV o = ordV o := by rw [rdV, rdC, if_pos (ord_len h)]; rfl
theorem rdC_len (o : List Int) : (rdC o).length = 7 := by
  unfold rdC; split
  · next h => exact ordC_len h.2
  · rfl
theorem rdC_one (o : List Int) : (rdC o).all one = true := by
  unfold rdC; split
  · exact ordC_one o
  · rfl
theorem low_rdV (o : List Int) : Low (rdV o) := by
  unfold rdV rdC
  split
  · exact Low.ordV o
  · exact .agg fun x hx => by
      simp only [ordN, List.mem_cons, List.not_mem_nil, or_false] at hx
      rcases hx with rfl | rfl | rfl | rfl | rfl | rfl | rfl <;> exact .int _ _

theorem read_call [BitTab prog 1] {h : Heap} {v : Value} {o : List Int} (hv : IntSl h v o) (hl : o.length < 9223372036854775808) (hx : ∀ x ∈ o, -9223372036854775808 ≤ x ∧ x < 9223372036854775808) : APure prog 64 [v] h (.tuple #[rdV o, .bool (ord o)]) := by
  refine ACall.forget (.pair (low_rdV o) (.bool _)) ?_
  refine s64_call (by simp) ?_
  simp only [s64]
  obtain ⟨tp, tl, tc, rfl⟩ : ∃ p l c, v = .slice p l c := by
    rcases hv with ⟨rfl, _⟩ | ⟨b, o, sp, cap, c, e, ro, rfl, _⟩
    · exact ⟨_, _, _, rfl⟩
    · exact ⟨_, _, _, rfl⟩
  refine aw_cut fun N hN => ?_
  simp (config := {maxSteps := 2000000}) only [s64, ↓aw_region, ↓aw_skip, ↓aw_seq, ↓aw_block, ↓aw_exit, ↓aw_ret, ↓sops_nil, ↓sops_go, ↓dops_nil, ↓dopsX_nil, ↓dopsR_nil, ↓vdn, vup, extr_20, extr_21, extr_30, extr_31, extr_32, List.map_cons, List.map_nil, cond_true, cond_false, aop, aThen, aBlock, argEnv, ev, sput, sputO, binK, binI, unK, builtinK, pickK, Nat.reduceBEq, Nat.reduceAdd, Int.reduceBEq, Int.reduceBNe, Int.reduceLT, aPost, resK, tup, tyf, boxK, cellsOf, Option.isSome_some, newPtr, allocK, zeroN]
  refine hN _ _ ?_
  clear hN N
  generalize htv : Value.slice tp tl tc = tv at *
  obtain ⟨H, hH⟩ : ∃ H, H = h ++ [Blk.cells [tv] 22 false] ++ [Blk.cells (ordN 0) 77 false] ++ [Blk.cells [.bool false] 4 false] := ⟨_, rfl⟩
  rw [← hH]
  simp only [List.length_append, List.length_cons, List.length_nil, Nat.zero_add, Nat.add_assoc, Nat.reduceAdd]
  obtain ⟨n, hn⟩ : ∃ n, n = h.length := ⟨_, rfl⟩
  have hHl : H.length = n + 3 := by rw [hH, hn]; simp
  have hE0 : Ext (fun _ => False) h H := by rw [hH, List.append_assoc, List.append_assoc]; exact Ext.app _ _ _
  have b1 : H[n]? = some (.cells [tv] 22 false) := by rw [hH, hn]; exact get_old (get_old (get_new _ _) _) _
  have b2 : H[n + 1]? = some (.cells (ordN 0) 77 false) := by
    rw [hH, hn]; have := get_old (get_new (h ++ [Blk.cells [tv] 22 false]) (Blk.cells (ordN 0) 77 false)) [Blk.cells [.bool false] 4 false]
    simpa using this
  have b3 : H[n + 2]? = some (.cells [.bool false] 4 false) := by
    rw [hH, hn]; have := get_new (h ++ [Blk.cells [tv] 22 false] ++ [Blk.cells (ordN 0) 77 false]) (Blk.cells [.bool false] 4 false)
    simpa using this
  have hvH : IntSl H tv o := IntSl_ext hv hE0
  rw [← hn]
  clear hH
  refine aw_cut fun N hN => ?_
  simp (config := {maxSteps := 2000000}) only [s64, ↓aw_region, ↓aw_skip, ↓aw_seq, ↓aw_block, ↓aw_exit, ↓aw_ret, ↓sops_nil, ↓sops_go, ↓dops_nil, ↓dopsX_nil, ↓dopsR_nil, ↓vdn, vup, extr_20, extr_21, extr_30, extr_31, extr_32, List.map_cons, List.map_nil, cond_true, cond_false, aop, aThen, aBlock, argEnv, ev, sput, sputO, binK, binI, unK, builtinK, pickK, Nat.reduceBEq, Nat.reduceAdd, Int.reduceBEq, Int.reduceBNe, Int.reduceLT, aPost, resK, tup, tyf, load1 b1 shp_22, hvH.len, allocK, newPtr, bldN, zeroN]
  rw [storeA (c := ordN 0) (vs := ordN o.length) (get_new _ _) (by rw [shp_77]; rfl) rfl rfl]
  refine hN _ _ ?_
  clear hN N
  rw [hHl]
  obtain ⟨G, hG⟩ : ∃ G, G = (H ++ [Blk.cells (ordN 0) 77 false]).set (n + 3) (.cells (ordN o.length) 77 false) := ⟨_, rfl⟩
  rw [← hG]
  have hGl : G.length = n + 4 := by rw [hG]; simp [hHl]
  have oldG : ∀ {k B}, H[k]? = some B → G[k]? = some B := fun {k B} hk => by
    have := get_lt hk
    rw [hG, List.getElem?_set_ne (by omega)]; exact get_old hk _
  have b4 : G[n + 3]? = some (.cells (ordN o.length) 77 false) := by rw [hG]; exact get_set (by simp [hHl]) _
  have hEG : Ext (fun _ => False) h G := ⟨by omega, fun i hi _ => by
    rw [hG, List.getElem?_set_ne (by omega), List.getElem?_append_left (by omega)]; exact hE0.2 i hi id⟩
  replace b1 := oldG b1
  replace b2 := oldG b2
  replace b3 := oldG b3
  clear oldG hG
  have hvG : IntSl G tv o := IntSl_ext hv hEG
  clear hvH hE0 hHl
  clear H
  -- what a return does
  have fin : ∀ (hp : Heap) (bb : Bool), Ext (fun i => i = n + 3) G hp → bb = ord o → Ext (fun _ => False) h ((hp.set (n + 1) (.cells (rdC o) 77 false)).set (n + 2) (.cells [.bool bb] 4 false)) ∧
      ((hp.set (n + 1) (.cells (rdC o) 77 false)).set (n + 2) (.cells [.bool bb] 4 false))[n + 1]? = some (.cells (rdC o) 77 false) ∧
      ((hp.set (n + 1) (.cells (rdC o) 77 false)).set (n + 2) (.cells [.bool bb] 4 false))[n + 2]? = some (.cells [.bool bb] 4 false) ∧
      hp[n + 1]? = some (.cells (ordN 0) 77 false) ∧ (hp.set (n + 1) (.cells (rdC o) 77 false))[n + 2]? = some (.cells [.bool false] 4 false) := fun hp bb hE hb => by
    have hl := hE.1
    have g2 : hp[n + 1]? = some (.cells (ordN 0) 77 false) := (hE.2 _ (by omega) (by omega)).trans b2
    refine ⟨⟨by simp; omega, fun i hi _ => ?_⟩, ?_, ?_, g2, ?_⟩
    · rw [List.getElem?_set_ne (by omega), List.getElem?_set_ne (by omega), hE.2 i (by omega) (by omega)]; exact hEG.2 i hi id
    · rw [List.getElem?_set_ne (by omega)]; exact get_set (by omega) _
    · exact get_set (by simp; omega) _
    · rw [List.getElem?_set_ne (by omega), hE.2 _ (by omega) (by omega)]; exact b3
  refine aw_cut fun N hN => ?_
  by_cases hlen : 1 ≤ o.length ∧ o.length ≤ 6
  rotate_left
  · have ht : ord o = false := by
      cases e : ord o with
      | false => rfl
      | true => exact absurd (ord_len e) hlen
    have hrd : rdC o = ordN o.length := if_neg hlen
    obtain ⟨f1, f2, f3, f4, f5⟩ := fin G false (Ext.refl _ _) ht.symm
    rw [hrd] at f1 f2 f3 f5
    by_cases h1 : (o.length : Int) < 1
    · simp (config := {maxSteps := 2000000}) only [s64, ↓aw_region, ↓aw_skip, ↓aw_seq, ↓aw_block, ↓aw_exit, ↓aw_ret, ↓sops_nil, ↓sops_go, ↓dops_nil, ↓dopsX_nil, ↓dopsR_nil, ↓vdn, vup, extr_20, extr_21, extr_30, extr_31, extr_32, List.map_cons, List.map_nil, cond_true, cond_false, aop, aThen, aBlock, argEnv, ev, sput, sputO, binK, binI, unK, builtinK, pickK, Nat.reduceBEq, Nat.reduceAdd, Int.reduceBEq, Int.reduceBNe, Int.reduceLT, aPost, resK, tup, tyf, load1 b1 shp_22, hvG.len, h1, loadA b4 (t := 77) (by rw [shp_77]; rfl), storeA (vs := ordN o.length) b2 (t := 77) (by rw [shp_77]; rfl) rfl rfl, storeB f5 shp_4, loadA f2 (t := 77) (by rw [shp_77]; rfl), load1 f3 shp_4]
      exact ⟨by rw [rdV, hrd, ht], f1⟩
    · have h6 : (6 : Int) < o.length := by omega
      simp (config := {maxSteps := 2000000}) only [s64, ↓aw_region, ↓aw_skip, ↓aw_seq, ↓aw_block, ↓aw_exit, ↓aw_ret, ↓sops_nil, ↓sops_go, ↓dops_nil, ↓dopsX_nil, ↓dopsR_nil, ↓vdn, vup, extr_20, extr_21, extr_30, extr_31, extr_32, List.map_cons, List.map_nil, cond_true, cond_false, aop, aThen, aBlock, argEnv, ev, sput, sputO, binK, binI, unK, builtinK, pickK, Nat.reduceBEq, Nat.reduceAdd, Int.reduceBEq, Int.reduceBNe, Int.reduceLT, aPost, resK, tup, tyf, load1 b1 shp_22, hvG.len, h1, gt_iff_lt, h6, loadA b4 (t := 77) (by rw [shp_77]; rfl), storeA (vs := ordN o.length) b2 (t := 77) (by rw [shp_77]; rfl) rfl rfl, storeB f5 shp_4, loadA f2 (t := 77) (by rw [shp_77]; rfl), load1 f3 shp_4]
      exact ⟨by rw [rdV, hrd, ht], f1⟩
  have h1 : ¬ (o.length : Int) < 1 := by omega
  have h6 : ¬ (6 : Int) < o.length := by omega
  have hrd : rdC o = ordC o := if_pos hlen
  simp (config := {maxSteps := 2000000}) only [s64, ↓aw_region, ↓aw_skip, ↓aw_seq, ↓aw_block, ↓aw_exit, ↓aw_ret, ↓sops_nil, ↓sops_go, ↓dops_nil, ↓dopsX_nil, ↓dopsR_nil, ↓vdn, vup, extr_20, extr_21, extr_30, extr_31, extr_32, List.map_cons, List.map_nil, cond_true, cond_false, aop, aThen, aBlock, argEnv, ev, sput, sputO, binK, binI, unK, builtinK, pickK, Nat.reduceBEq, Nat.reduceAdd, Int.reduceBEq, Int.reduceBNe, Int.reduceLT, aPost, resK, tup, tyf, load1 b1 shp_22, hvG.len, h1, gt_iff_lt, h6]
  refine hN _ _ ?_
  clear hN N
  refine aw_cut fun N hN => ?_
  refine aw_drawX [] (by kernel_rfl) (by kernel_rfl) (by kernel_rfl) (by kernel_rfl) ?_
  simp (config := {maxSteps := 2000000}) only [s64, ↓aw_region, ↓aw_skip, ↓aw_seq, ↓aw_block, ↓aw_exit, ↓aw_ret, ↓sops_nil, ↓sops_go, ↓dops_nil, ↓dopsX_nil, ↓dopsR_nil, ↓vdn, vup, extr_20, extr_21, extr_30, extr_31, extr_32, List.map_cons, List.map_nil, cond_true, cond_false, aop, aThen, aBlock, argEnv, ev, sput, sputO, binK, binI, unK, builtinK, pickK, Nat.reduceBEq, Nat.reduceAdd, Int.reduceBEq, Int.reduceBNe, Int.reduceLT, aPost, resK, tup, tyf, fldA fld_77_1 esz_75, arrSliceK, Option.isSome_some, load1 b1 shp_22]
  refine copyO hvG hlen b4 ?_
  refine hN _ _ ?_
  clear hN N
  obtain ⟨F, hF⟩ : ∃ F, F = G.set (n + 3) (.cells (ordC o) 77 false) := ⟨_, rfl⟩
  rw [← hF]
  have hEF : Ext (fun i => i = n + 3) G F := by rw [hF]; exact Ext.set _ rfl
  have hvF : IntSl F tv o := by
    refine IntSl_ext hv ⟨by rw [hF]; simp; omega, fun i hi _ => ?_⟩
    rw [hF, List.getElem?_set_ne (by omega)]; exact hEG.2 i hi id
  have c1 : F[n]? = some (.cells [tv] 22 false) := (hEF.2 _ (by omega) (by omega)).trans b1
  have c4 : F[n + 3]? = some (.cells (ordC o) 77 false) := by rw [hF]; exact get_set (by omega) _
  clear hF
  have hp := pow6I hlen.2
  simp (config := {maxSteps := 2000000}) only [s64, ↓aw_region, ↓aw_skip, ↓aw_seq, ↓aw_block, ↓aw_exit, ↓aw_ret, ↓sops_nil, ↓sops_go, ↓dops_nil, ↓dopsX_nil, ↓dopsR_nil, ↓vdn, vup, extr_20, extr_21, extr_30, extr_31, extr_32, List.map_cons, List.map_nil, cond_true, cond_false, aop, aThen, aBlock, argEnv, ev, sput, sputO, binK, binI, unK, builtinK, pickK, Nat.reduceBEq, Nat.reduceAdd, Int.reduceBEq, Int.reduceBNe, Int.reduceLT, aPost, resK, tup, tyf, load1 c1 shp_22, hvF.len, ↓aw_loop_eq]
  refine aws_hide fun Q hQ => ?_
  refine aw_loop (γ := Nat × Heap) (fun s => s.1 ≤ o.length ∧ Ext (fun _ => False) F s.2 ∧ ∀ k, k < s.1 → okO o k = true)
    (fun s => ([(0, tv), (1, .pointer (some ⟨n, 0, none⟩)), (2, .pointer (some ⟨n + 1, 0, none⟩)), (3, .pointer (some ⟨n + 2, 0, none⟩)), (4, .pointer (some ⟨n + 3, 0, none⟩)), (24, tv), (25, vint o.length), (26, vint s.1)], s.2)) (fun s => o.length - s.1) (0, F) ⟨by omega, Ext.refl _ _, fun _ hk => by simp at hk⟩ (by simp (config := {maxSteps := 2000000}) only [↓aw_region, ↓aw_skip, ↓aw_seq, ↓aw_block, ↓aw_exit, ↓aw_ret, ↓sops_nil, ↓sops_go, ↓dops_nil, ↓dopsX_nil, ↓dopsR_nil, ↓vdn, vup, extr_20, extr_21, extr_30, extr_31, extr_32, List.map_cons, List.map_nil, cond_true, cond_false, aop, aThen, aBlock, argEnv, ev, sput, sputO, binK, binI, unK, builtinK, pickK, Nat.reduceBEq, Nat.reduceAdd, Int.reduceBEq, Int.reduceBNe, Int.reduceLT, aPost, resK, tup, tyf, Int.natCast_zero]) rfl ?_
  rintro ⟨i, hp0⟩ ⟨hi, hE, hok⟩
  simp only at hi hE hok
  have e1 : hp0[n]? = some (.cells [tv] 22 false) := (hE.2 _ (get_lt c1) id).trans c1
  have e4 : hp0[n + 3]? = some (.cells (ordC o) 77 false) := (hE.2 _ (get_lt c4) id).trans c4
  have hvE : IntSl hp0 tv o := IntSl_ext hvF hE
  have hGl' := hEF.1
  have hl0 := hE.1
  refine aw_hide fun Q2 hQ2 => ?_
  by_cases hin : (i : Int) < o.length
  · have hin' : i < o.length := by omega
    have hbad : okO o i = false → ord o = false := fun hb => by
      have : (List.range o.length).all (okO o) = false := by
        rw [List.all_eq_false]; exact ⟨i, by simpa using hin', by simp [hb]⟩
      simp [ord, this]
    obtain ⟨hx1, hx2⟩ := hx (o.getD i 0) (by rw [List.getD, List.getElem?_eq_getElem hin']; exact List.getElem_mem hin')
    obtain ⟨m, hm⟩ : ∃ m, m = hp0.length := ⟨_, rfl⟩
    obtain ⟨X, hX⟩ : ∃ X, X = (hp0 ++ [Blk.cells [Value.int .i64 0] 3 false]).set hp0.length (Blk.cells [.int .i64 (o.getD i 0)] 3 false) := ⟨_, rfl⟩
    have hlX : X.length = m + 1 := by rw [hX, hm]; simp
    have hEX : Ext (fun _ => False) hp0 X := ⟨by omega, fun j hj _ => by rw [hX, List.getElem?_set_ne (by omega), List.getElem?_append_left hj]⟩
    have bX : X[m]? = some (.cells [.int .i64 (o.getD i 0)] 3 false) := by rw [hX, hm]; exact get_set (by simp) _
    have x1 : X[n]? = some (.cells [tv] 22 false) := (hEX.2 _ (get_lt e1) id).trans e1
    have x4 : X[n + 3]? = some (.cells (ordC o) 77 false) := (hEX.2 _ (get_lt e4) id).trans e4
    have hvX : IntSl X tv o := IntSl_ext hvE hEX
    have hGX : Ext (fun i => i = n + 3) G X := ⟨by omega, fun j hj hjn => by rw [hEX.2 j (by omega) id, hE.2 j (by omega) id]; exact hEF.2 j hj hjn⟩
    simp only [l64_1]
    refine aw_cut fun N hN => ?_
    simp (config := {maxSteps := 2000000}) only [s64, ↓aw_region, ↓aw_skip, ↓aw_seq, ↓aw_block, ↓aw_exit, ↓aw_ret, ↓sops_nil, ↓sops_go, ↓dops_nil, ↓dopsX_nil, ↓dopsR_nil, ↓vdn, vup, extr_20, extr_21, extr_30, extr_31, extr_32, List.map_cons, List.map_nil, cond_true, cond_false, aop, aThen, aBlock, argEnv, ev, sput, sputO, binK, binI, unK, builtinK, pickK, Nat.reduceBEq, Nat.reduceAdd, Int.reduceBEq, Int.reduceBNe, Int.reduceLT, aPost, resK, tup, tyf]
    refine hN _ _ ?_
    clear hN N
    refine aw_cut fun N hN => ?_
    simp (config := {maxSteps := 2000000}) only [s64, ↓aw_region, ↓aw_skip, ↓aw_seq, ↓aw_block, ↓aw_exit, ↓aw_ret, ↓sops_nil, ↓sops_go, ↓dops_nil, ↓dopsX_nil, ↓dopsR_nil, ↓vdn, vup, extr_20, extr_21, extr_30, extr_31, extr_32, List.map_cons, List.map_nil, cond_true, cond_false, aop, aThen, aBlock, argEnv, ev, sput, sputO, binK, binI, unK, builtinK, pickK, Nat.reduceBEq, Nat.reduceAdd, Int.reduceBEq, Int.reduceBNe, Int.reduceLT, aPost, resK, tup, tyf, hin]
    refine hN _ _ ?_
    clear hN N
    refine aw_cut fun N hN => ?_
    simp only [↓aw_block]
    refine aw_cut fun N2 hN2 => ?_
    simp (config := {maxSteps := 2000000}) only [s64, ↓aw_region, ↓aw_skip, ↓aw_seq, ↓aw_block, ↓aw_exit, ↓aw_ret, ↓sops_nil, ↓sops_go, ↓dops_nil, ↓dopsX_nil, ↓dopsR_nil, ↓vdn, vup, extr_20, extr_21, extr_30, extr_31, extr_32, List.map_cons, List.map_nil, cond_true, cond_false, aop, aThen, aBlock, argEnv, ev, sput, sputO, binK, binI, unK, builtinK, pickK, Nat.reduceBEq, Nat.reduceAdd, Int.reduceBEq, Int.reduceBNe, Int.reduceLT, aPost, resK, tup, tyf, hvE.idx el_22 esz_3 hin', hvE.load shp_3 hin', allocK, newPtr]
    rw [storeI (v := .int .i64 0) (e := 3) (get_new _ _) shp_3, ← hX, ← hm]
    refine hN2 _ _ ?_
    clear hN2 N2
    -- what a return inside does
    have back : ∀ (hq : Heap), Ext (fun i => i = n + 3) G hq → hq[n + 3]? = some (.cells (ordC o) 77 false) → ord o = false → ∀ (e : Env), sget e 2 = .pointer (some ⟨n + 1, 0, none⟩) → sget e 3 = .pointer (some ⟨n + 2, 0, none⟩) →
        Q2 .ret e ((hq.set (n + 1) (.cells (ordC o) 77 false)).set (n + 2) (.cells [.bool false] 4 false)) := fun hq hEq _ ht e g2 g3 => by
      obtain ⟨f1, f2, f3, f4, f5⟩ := fin hq false hEq ht.symm
      rw [hrd] at f1 f2 f3 f5
      refine hQ2 _ _ _ (hQ _ _ _ ?_)
      simp only [aBlock, aThen, aPost, resK, g2, g3]
      rw [loadA f2 (t := 77) (by rw [shp_77, ordC_len hlen.2]), load1 f3 shp_4]
      exact ⟨by rw [rdV, hrd, ht]; rfl, f1⟩
    obtain ⟨f1, f2, f3, f4, f5⟩ : _ := fin X (ord o) hGX rfl
    rw [hrd] at f1 f2 f3 f5
    refine aw_cut fun N2 hN2 => ?_
    simp (config := {maxSteps := 2000000}) only [s64, ↓aw_region, ↓aw_skip, ↓aw_seq, ↓aw_block, ↓aw_exit, ↓aw_ret, ↓sops_nil, ↓sops_go, ↓dops_nil, ↓dopsX_nil, ↓dopsR_nil, ↓vdn, vup, extr_20, extr_21, extr_30, extr_31, extr_32, List.map_cons, List.map_nil, cond_true, cond_false, aop, aThen, aBlock, argEnv, ev, sput, sputO, binK, binI, unK, builtinK, pickK, Nat.reduceBEq, Nat.reduceAdd, Int.reduceBEq, Int.reduceBNe, Int.reduceLT, aPost, resK, tup, tyf]
    refine aw_drawX [] (by kernel_rfl) (by kernel_rfl) (by kernel_rfl) (by kernel_rfl) ?_
    by_cases hneg : o.getD i 0 < 0
    · have hb := hbad (by rw [okO, decide_eq_false (show ¬ 0 ≤ o.getD i 0 by omega)]; rfl)
      simp (config := {maxSteps := 2000000}) only [s64, ↓aw_region, ↓aw_skip, ↓aw_seq, ↓aw_block, ↓aw_exit, ↓aw_ret, ↓sops_nil, ↓sops_go, ↓dops_nil, ↓dopsX_nil, ↓dopsR_nil, ↓vdn, vup, extr_20, extr_21, extr_30, extr_31, extr_32, List.map_cons, List.map_nil, cond_true, cond_false, aop, aThen, aBlock, argEnv, ev, sput, sputO, binK, binI, unK, builtinK, pickK, Nat.reduceBEq, Nat.reduceAdd, Int.reduceBEq, Int.reduceBNe, Int.reduceLT, aPost, resK, tup, tyf, load1 bX shp_3, hneg, loadA x4 (t := 77) (by rw [shp_77, ordC_len hlen.2]), storeA (vs := ordC o) f4 (t := 77) (by rw [shp_77, ordC_len hlen.2]) (ordC_one o) (by rw [ordC_len hlen.2]; rfl), storeB f5 shp_4]
      exact back X hGX x4 hb _ rfl rfl
    by_cases hbig : 2 ^ o.length ≤ o.getD i 0
    · have hb := hbad (by rw [okO, decide_eq_false (show ¬ o.getD i 0 < 2 ^ o.length from Int.not_lt.2 hbig), Bool.and_false]; rfl)
      simp (config := {maxSteps := 2000000}) only [s64, ↓aw_region, ↓aw_skip, ↓aw_seq, ↓aw_block, ↓aw_exit, ↓aw_ret, ↓sops_nil, ↓sops_go, ↓dops_nil, ↓dopsX_nil, ↓dopsR_nil, ↓vdn, vup, extr_20, extr_21, extr_30, extr_31, extr_32, List.map_cons, List.map_nil, cond_true, cond_false, aop, aThen, aBlock, argEnv, ev, sput, sputO, binK, binI, unK, builtinK, pickK, Nat.reduceBEq, Nat.reduceAdd, Int.reduceBEq, Int.reduceBNe, Int.reduceLT, aPost, resK, tup, tyf, load1 bX shp_3, hneg, load1 x1 shp_22, hvX.len, shl1 (show o.length ≤ 62 by omega), ge_iff_le, hbig, loadA x4 (t := 77) (by rw [shp_77, ordC_len hlen.2]), storeA (vs := ordC o) f4 (t := 77) (by rw [shp_77, ordC_len hlen.2]) (ordC_one o) (by rw [ordC_len hlen.2]; rfl), storeB f5 shp_4]
      exact back X hGX x4 hb _ rfl rfl
    have hs0 : 0 ≤ o.getD i 0 := by omega
    have hs1 : o.getD i 0 < 9223372036854775808 := by omega
    by_cases hbit : ab o i i = true
    · have hb := hbad (by rw [okO, hbit, Bool.not_true, Bool.and_false]; rfl)
      simp (config := {maxSteps := 2000000}) only [s64, ↓aw_region, ↓aw_skip, ↓aw_seq, ↓aw_block, ↓aw_exit, ↓aw_ret, ↓sops_nil, ↓sops_go, ↓dops_nil, ↓dopsX_nil, ↓dopsR_nil, ↓vdn, vup, extr_20, extr_21, extr_30, extr_31, extr_32, List.map_cons, List.map_nil, cond_true, cond_false, aop, aThen, aBlock, argEnv, ev, sput, sputO, binK, binI, unK, builtinK, pickK, Nat.reduceBEq, Nat.reduceAdd, Int.reduceBEq, Int.reduceBNe, Int.reduceLT, aPost, resK, tup, tyf, load1 bX shp_3, hneg, load1 x1 shp_22, hvX.len, shl1 (show o.length ≤ 62 by omega), ge_iff_le, hbig, testA hs0 hs1, hbit, if_true, Int.reduceBEq, loadA x4 (t := 77) (by rw [shp_77, ordC_len hlen.2]), storeA (vs := ordC o) f4 (t := 77) (by rw [shp_77, ordC_len hlen.2]) (ordC_one o) (by rw [ordC_len hlen.2]; rfl), storeB f5 shp_4]
      exact back X hGX x4 hb _ rfl rfl
    simp only [Bool.not_eq_true] at hbit
    simp (config := {maxSteps := 2000000}) only [s64, ↓aw_region, ↓aw_skip, ↓aw_seq, ↓aw_block, ↓aw_exit, ↓aw_ret, ↓sops_nil, ↓sops_go, ↓dops_nil, ↓dopsX_nil, ↓dopsR_nil, ↓vdn, vup, extr_20, extr_21, extr_30, extr_31, extr_32, List.map_cons, List.map_nil, cond_true, cond_false, aop, aThen, aBlock, argEnv, ev, sput, sputO, binK, binI, unK, builtinK, pickK, Nat.reduceBEq, Nat.reduceAdd, Int.reduceBEq, Int.reduceBNe, Int.reduceLT, aPost, resK, tup, tyf, load1 bX shp_3, hneg, load1 x1 shp_22, hvX.len, shl1 (show o.length ≤ 62 by omega), ge_iff_le, hbig, testA hs0 hs1, hbit, if_false, Bool.false_eq_true, Int.reduceBEq]
    refine hN2 _ _ ?_
    clear hN2 N2
    have hset : o.getD i 0 = ((bt o i : Nat) : Int) := (Int.toNat_of_nonneg hs0).symm
    have hsl : bt o i < 64 := by have h1 := hp.1; have : o.getD i 0 < 64 := by omega
                                 omega
    simp (config := {maxSteps := 2000000}) only [s64, ↓aw_region, ↓aw_skip, ↓aw_seq, ↓aw_block, ↓aw_exit, ↓aw_ret, ↓sops_nil, ↓sops_go, ↓dops_nil, ↓dopsX_nil, ↓dopsR_nil, ↓vdn, vup, extr_20, extr_21, extr_30, extr_31, extr_32, List.map_cons, List.map_nil, cond_true, cond_false, aop, aThen, aBlock, argEnv, ev, sput, sputO, binK, binI, unK, builtinK, pickK, Nat.reduceBEq, Nat.reduceAdd, Int.reduceBEq, Int.reduceBNe, Int.reduceLT, aPost, resK, tup, tyf, load1 bX shp_3, callK, List.nil_append, List.append_nil, List.toList_toArray, List.cons_append]
    refine elements_call.mono ?_
    rintro _ _ ⟨rfl, rfl⟩
    rw [hset] at bX ⊢
    refine aw_range bitIter (bx := X.length) (s := bt o i) (et := 3) rfl (get_new _ _) (by omega) (fun pre hk => Ext (fun _ => False) X hk ∧ ∀ k ∈ pre, (bitsV .andNot .i64 (o.getD k 0) (o.getD i 0) == 0) = true) ⟨?_, fun _ hk => by cases hk⟩ ?_ ?_
    · refine ⟨by simp, fun j hj _ => ?_⟩
      rw [List.getElem?_set_ne (by omega), List.getElem?_append_left hj]
    · rintro pre x hk hpre ⟨hEk, hall⟩
      obtain ⟨hx64, hxb⟩ := mem_bits.1 (mem_pre hpre)
      have hxn : x < o.length := by
        rcases Nat.lt_or_ge x o.length with h | h
        · exact h
        · have h2 : bt o i < 2 ^ o.length := by
            have h3 : ¬ (2 : Int) ^ o.length ≤ ((bt o i : Nat) : Int) := by rw [← hset]; exact hbig
            rw [← pow_cast] at h3
            omega
          rw [Nat.testBit_lt_two_pow (Nat.lt_of_lt_of_le h2 (Nat.pow_le_pow_right (by decide) h))] at hxb; cases hxb
      have k1 : hk[n]? = some (.cells [tv] 22 false) := (hEk.2 _ (get_lt x1) id).trans x1
      have k4 : hk[n + 3]? = some (.cells (ordC o) 77 false) := (hEk.2 _ (get_lt x4) id).trans x4
      have kX : hk[m]? = some (.cells [.int .i64 ((bt o i : Nat) : Int)] 3 false) := (hEk.2 _ (get_lt bX) id).trans bX
      have hvk : IntSl hk tv o := IntSl_ext hvX hEk
      have hlk := hEk.1
      have hGk : Ext (fun i => i = n + 3) G hk := ⟨by omega, fun j hj hjn => by rw [hEk.2 j (by omega) id]; exact hGX.2 j hj hjn⟩
      simp (config := {maxSteps := 2000000}) only [s64, ↓aw_region, ↓aw_skip, ↓aw_seq, ↓aw_block, ↓aw_exit, ↓aw_ret, ↓sops_nil, ↓sops_go, ↓dops_nil, ↓dopsX_nil, ↓dopsR_nil, ↓vdn, vup, extr_20, extr_21, extr_30, extr_31, extr_32, List.map_cons, List.map_nil, cond_true, cond_false, aop, aThen, aBlock, argEnv, ev, sput, sputO, binK, binI, unK, builtinK, pickK, Nat.reduceBEq, Nat.reduceAdd, Int.reduceBEq, Int.reduceBNe, Int.reduceLT, aPost, resK, tup, tyf, r64_0_a, r64_0_b]
      refine aw_drawX [] (by kernel_rfl) (by kernel_rfl) (by kernel_rfl) (by kernel_rfl) ?_
      cases hlz : (bitsV .andNot .i64 (o.getD x 0) ((bt o i : Nat) : Int) == 0) with
      | true =>
        have hlz' : (bitsV .andNot .i64 (o.getD x 0) ((bt o i : Nat) : Int) != 0) = false := by rw [bne, hlz]; rfl
        simp (config := {maxSteps := 2000000}) only [s64, ↓aw_region, ↓aw_skip, ↓aw_seq, ↓aw_block, ↓aw_exit, ↓aw_ret, ↓sops_nil, ↓sops_go, ↓dops_nil, ↓dopsX_nil, ↓dopsR_nil, ↓vdn, vup, extr_20, extr_21, extr_30, extr_31, extr_32, List.map_cons, List.map_nil, cond_true, cond_false, aop, aThen, aBlock, argEnv, ev, sput, sputO, binK, binI, unK, builtinK, pickK, Nat.reduceBEq, Nat.reduceAdd, Int.reduceBEq, Int.reduceBNe, Int.reduceLT, aPost, resK, tup, tyf, load1 k1 shp_22, hvk.idx el_22 esz_3 hxn, hvk.load shp_3 hxn, load1 kX shp_3, hlz']
        refine ⟨hEk, fun k hk' => ?_⟩
        rcases List.mem_append.1 hk' with h | h
        · exact hall k h
        · rw [List.mem_singleton.1 h, hset]; exact hlz
      | false =>
        have hlz' : (bitsV .andNot .i64 (o.getD x 0) ((bt o i : Nat) : Int) != 0) = true := by rw [bne, hlz]; rfl
        have hb := hbad (by
          have : ((List.range o.length).all fun j => !ab o i j || (bitsV .andNot .i64 (o.getD j 0) (o.getD i 0) == 0)) = false := by
            rw [List.all_eq_false]; exact ⟨x, List.mem_range.2 hxn, by rw [show ab o i x = true from hxb, hset, hlz]; decide⟩
          rw [okO, this, Bool.and_false])
        obtain ⟨g1, g2, g3, g4, g5⟩ := fin hk (ord o) hGk rfl
        rw [hrd] at g1 g2 g3 g5
        simp (config := {maxSteps := 2000000}) only [s64, ↓aw_region, ↓aw_skip, ↓aw_seq, ↓aw_block, ↓aw_exit, ↓aw_ret, ↓sops_nil, ↓sops_go, ↓dops_nil, ↓dopsX_nil, ↓dopsR_nil, ↓vdn, vup, extr_20, extr_21, extr_30, extr_31, extr_32, List.map_cons, List.map_nil, cond_true, cond_false, aop, aThen, aBlock, argEnv, ev, sput, sputO, binK, binI, unK, builtinK, pickK, Nat.reduceBEq, Nat.reduceAdd, Int.reduceBEq, Int.reduceBNe, Int.reduceLT, aPost, resK, tup, tyf, load1 k1 shp_22, hvk.idx el_22 esz_3 hxn, hvk.load shp_3 hxn, load1 kX shp_3, hlz', loadA k4 (t := 77) (by rw [shp_77, ordC_len hlen.2]), storeA (vs := ordC o) g4 (t := 77) (by rw [shp_77, ordC_len hlen.2]) (ordC_one o) (by rw [ordC_len hlen.2]; rfl), storeB g5 shp_4, rangeQ]
        exact back hk hGk k4 hb _ rfl rfl
    · rintro hk ⟨hEk, hall⟩
      simp (config := {maxSteps := 2000000}) only [s64, ↓aw_region, ↓aw_skip, ↓aw_seq, ↓aw_block, ↓aw_exit, ↓aw_ret, ↓sops_nil, ↓sops_go, ↓dops_nil, ↓dopsX_nil, ↓dopsR_nil, ↓vdn, vup, extr_20, extr_21, extr_30, extr_31, extr_32, List.map_cons, List.map_nil, cond_true, cond_false, aop, aThen, aBlock, argEnv, ev, sput, sputO, binK, binI, unK, builtinK, pickK, Nat.reduceBEq, Nat.reduceAdd, Int.reduceBEq, Int.reduceBNe, Int.reduceLT, aPost, resK, tup, tyf, rangeQ]
      refine hN _ _ ?_
      simp (config := {maxSteps := 2000000}) only [s64, ↓aw_region, ↓aw_skip, ↓aw_seq, ↓aw_block, ↓aw_exit, ↓aw_ret, ↓sops_nil, ↓sops_go, ↓dops_nil, ↓dopsX_nil, ↓dopsR_nil, ↓vdn, vup, extr_20, extr_21, extr_30, extr_31, extr_32, List.map_cons, List.map_nil, cond_true, cond_false, aop, aThen, aBlock, argEnv, ev, sput, sputO, binK, binI, unK, builtinK, pickK, Nat.reduceBEq, Nat.reduceAdd, Int.reduceBEq, Int.reduceBNe, Int.reduceLT, aPost, resK, tup, tyf, add1 (show i < 9223372036854775807 by omega)]
      have hlk := hEk.1
      refine hQ2 _ _ _ ⟨(i + 1, hk), ⟨by simp only; omega, ⟨by simp only; omega, fun j hj _ => ?_⟩, fun k hk' => ?_⟩, by simp only; omega, by simp (config := {maxSteps := 2000000}) only [↓aw_region, ↓aw_skip, ↓aw_seq, ↓aw_block, ↓aw_exit, ↓aw_ret, ↓sops_nil, ↓sops_go, ↓dops_nil, ↓dopsX_nil, ↓dopsR_nil, ↓vdn, vup, extr_20, extr_21, extr_30, extr_31, extr_32, List.map_cons, List.map_nil, cond_true, cond_false, aop, aThen, aBlock, argEnv, ev, sput, sputO, binK, binI, unK, builtinK, pickK, Nat.reduceBEq, Nat.reduceAdd, Int.reduceBEq, Int.reduceBNe, Int.reduceLT, aPost, resK, tup, tyf], rfl⟩
      · show hk[j]? = F[j]?
        rw [hEk.2 j (by omega) id, hEX.2 j (by omega) id]; exact hE.2 j hj id
      · simp only at hk'
        by_cases hki : k = i
        · subst hki
          have hle : bt o k < 2 ^ o.length := by
            have h3 : ¬ (2 : Int) ^ o.length ≤ ((bt o k : Nat) : Int) := by rw [← hset]; exact hbig
            rw [← pow_cast] at h3
            omega
          have : ((List.range o.length).all fun j => !ab o k j || (bitsV .andNot .i64 (o.getD j 0) (o.getD k 0) == 0)) = true := by
            rw [List.all_eq_true]
            intro j hj
            cases hkj : ab o k j with
            | false => rfl
            | true => rw [hall j (mem_bits.2 ⟨by have := List.mem_range.1 hj; omega, hkj⟩)]; rfl
          rw [okO, decide_eq_true hs0, decide_eq_true (Int.not_le.1 hbig), hbit, this]; rfl
        · exact hok k (by omega)
  · obtain rfl : i = o.length := by omega
    have ht : ord o = true := by simp only [ord, Bool.and_eq_true, decide_eq_true_eq, List.all_eq_true, List.mem_range]; exact ⟨hlen, hok⟩
    obtain ⟨f1, f2, f3, f4, f5⟩ := fin hp0 true ⟨by omega, fun j hj hjn => by rw [hE.2 j (by omega) id]; exact hEF.2 j hj hjn⟩ ht.symm
    rw [hrd] at f1 f2 f3 f5
    simp (config := {maxSteps := 2000000}) only [s64, ↓aw_region, ↓aw_skip, ↓aw_seq, ↓aw_block, ↓aw_exit, ↓aw_ret, ↓sops_nil, ↓sops_go, ↓dops_nil, ↓dopsX_nil, ↓dopsR_nil, ↓vdn, vup, extr_20, extr_21, extr_30, extr_31, extr_32, List.map_cons, List.map_nil, cond_true, cond_false, aop, aThen, aBlock, argEnv, ev, sput, sputO, binK, binI, unK, builtinK, pickK, Nat.reduceBEq, Nat.reduceAdd, Int.reduceBEq, Int.reduceBNe, Int.reduceLT, aPost, resK, tup, tyf, l64_1, Int.lt_irrefl]
    refine hQ2 _ _ _ (hQ _ _ _ ?_)
    simp (config := {maxSteps := 2000000}) only [s64, ↓aw_region, ↓aw_skip, ↓aw_seq, ↓aw_block, ↓aw_exit, ↓aw_ret, ↓sops_nil, ↓sops_go, ↓dops_nil, ↓dopsX_nil, ↓dopsR_nil, ↓vdn, vup, extr_20, extr_21, extr_30, extr_31, extr_32, List.map_cons, List.map_nil, cond_true, cond_false, aop, aThen, aBlock, argEnv, ev, sput, sputO, binK, binI, unK, builtinK, pickK, Nat.reduceBEq, Nat.reduceAdd, Int.reduceBEq, Int.reduceBNe, Int.reduceLT, aPost, resK, tup, tyf, if_true, loadA e4 (t := 77) (by rw [shp_77, ordC_len hlen.2]), storeA (vs := ordC o) f4 (t := 77) (by rw [shp_77, ordC_len hlen.2]) (ordC_one o) (by rw [ordC_len hlen.2]; rfl), storeB f5 shp_4, loadA f2 (t := 77) (by rw [shp_77, ordC_len hlen.2]), load1 f3 shp_4]
    exact ⟨by rw [rdV, hrd, ht], f1⟩
end Go.Proofs.Tryd.Am
