/-
  ranks: a tournament with some scores: the whole.
  ranks: the law RanksLandau.
-/
import Derived.Test.YtemmcfeekpblkaaDoorPk7
import Derived.Test.YtemmcfeekpblkaaDoorPk5
set_option linter.all false
namespace Go.Proofs.Tryd.Am
open Go.Am Rb
set_option maxRecDepth 100000
set_option maxHeartbeats 1000000

theorem make_call [Tabs prog] {h : Heap} {v : Value} {xs : List Int} (hv : IntSl h v xs) (hl : xs.length < 9223372036854775808) (hx : ∀ x ∈ xs, -9223372036854775808 ≤ x ∧ x < 9223372036854775808) :
    ACall prog 52 [v] h fun r h' => Ext (fun _ => False) h h' ∧ makeR h' xs r := by
  refine s52_callW (by simp) ?_
  simp only [s52]
  refine aws_cut fun N1 hN1 => ?_
  simp (maxSteps := 2000000) only [s52, ↓aw_region, ↓aw_skip, ↓aw_seq, ↓aw_block, ↓aw_exit, ↓aw_ret, ↓sops_nil, ↓sops_go, ↓dops_nil, ↓dopsX_nil, ↓dopsR_nil, ↓vdn, vup, extr_20, extr_21, extr_30, extr_31, extr_32, List.map_cons, List.map_nil, cond_true, cond_false, aop, aThen, aBlock, argEnv, ev, sput, sputO, binK, binI, unK, builtinK, pickK, Nat.reduceBEq, Nat.reduceAdd, Int.reduceBEq, Int.reduceBNe, Int.reduceLT, aPost, resK, tup, tyf]
  refine hN1 [(0, v), (2, .slice none 0 0), (3, .int .i64 0)] _ _ ?_ (by simp (maxSteps := 2000000) only [↓aw_region, ↓aw_skip, ↓aw_seq, ↓aw_block, ↓aw_exit, ↓aw_ret, ↓sops_nil, ↓sops_go, ↓dops_nil, ↓dopsX_nil, ↓dopsR_nil, ↓vdn, vup, extr_20, extr_21, extr_30, extr_31, extr_32, List.map_cons, List.map_nil, cond_true, cond_false, aop, aThen, aBlock, argEnv, ev, sput, sputO, binK, binI, unK, builtinK, pickK, Nat.reduceBEq, Nat.reduceAdd, Int.reduceBEq, Int.reduceBNe, Int.reduceLT, aPost, resK, tup, tyf])
  clear hN1
  try clear N1
  refine aws_cut fun N2 hN2 => ?_
  refine make_chk hv hl (fun hno e he => ?_) (fun hS e he => ?_)
  · have h2 : sget e 2 = .slice none 0 0 := he (2, .slice none 0 0) (by simp)
    have h3 : sget e 3 = .int .i64 2 := he (3, .int .i64 2) (by simp)
    simp (maxSteps := 2000000) only [s52, ↓aw_region, ↓aw_skip, ↓aw_seq, ↓aw_block, ↓aw_exit, ↓aw_ret, ↓sops_nil, ↓sops_go, ↓dops_nil, ↓dopsX_nil, ↓dopsR_nil, ↓vdn, vup, extr_20, extr_21, extr_30, extr_31, extr_32, List.map_cons, List.map_nil, cond_true, cond_false, aop, aThen, aBlock, argEnv, ev, sput, sputO, binK, binI, unK, builtinK, pickK, Nat.reduceBEq, Nat.reduceAdd, Int.reduceBEq, Int.reduceBNe, Int.reduceLT, aPost, resK, tup, tyf, h2, h3]
    exact ⟨Ext.refl _ _, makeR_no hno⟩
  refine hN2 [(0, v)] _ _ ?_ he
  have hSx := isS_iff.1 hS
  have hs := hSx.2.2.1
  have hl1 := hSx.1
  have hl8 := hSx.2.1
  have hne : xs ≠ [] := by rintro rfl; simp at hl1
  refine aws_cut fun N3 hN3 => ?_
  simp (maxSteps := 2000000) only [s52, ↓aw_region, ↓aw_skip, ↓aw_seq, ↓aw_block, ↓aw_exit, ↓aw_ret, ↓sops_nil, ↓sops_go, ↓dops_nil, ↓dopsX_nil, ↓dopsR_nil, ↓vdn, vup, extr_20, extr_21, extr_30, extr_31, extr_32, List.map_cons, List.map_nil, cond_true, cond_false, aop, aThen, aBlock, argEnv, ev, sput, sputO, binK, binI, unK, builtinK, pickK, Nat.reduceBEq, Nat.reduceAdd, Int.reduceBEq, Int.reduceBNe, Int.reduceLT, aPost, resK, tup, tyf, callK, List.nil_append, List.append_nil, List.toList_toArray, List.cons_append]
  refine (clone_fresh hv hne (by omega)).mono ?_
  rintro _ g1 ⟨bn, rfl, hbn, hbl, hE1⟩
  have c0 := get_new g1 (Blk.cells [.slice none 0 0] 22 false)
  simp (maxSteps := 2000000) only [s52, ↓aw_region, ↓aw_skip, ↓aw_seq, ↓aw_block, ↓aw_exit, ↓aw_ret, ↓sops_nil, ↓sops_go, ↓dops_nil, ↓dopsX_nil, ↓dopsR_nil, ↓vdn, vup, extr_20, extr_21, extr_30, extr_31, extr_32, List.map_cons, List.map_nil, cond_true, cond_false, aop, aThen, aBlock, argEnv, ev, sput, sputO, binK, binI, unK, builtinK, pickK, Nat.reduceBEq, Nat.reduceAdd, Int.reduceBEq, Int.reduceBNe, Int.reduceLT, aPost, resK, tup, tyf, allocK, newPtr, zero_22, storeC c0 shp_22 (show one (.slice (some ⟨bn, 0, some 0⟩) xs.length xs.length) = true from rfl) (show 0 < 1 by decide), List.set_cons_zero]
  have c1 : ((g1 ++ [Blk.cells [.slice none 0 0] 22 false]).set g1.length (.cells [.slice (some ⟨bn, 0, some 0⟩) xs.length xs.length] 22 false))[g1.length]? = some (.cells [.slice (some ⟨bn, 0, some 0⟩) xs.length xs.length] 22 false) := get_set (by simp) _
  have hE2 : Ext (fun _ => False) g1 ((g1 ++ [Blk.cells [.slice none 0 0] 22 false]).set g1.length (.cells [.slice (some ⟨bn, 0, some 0⟩) xs.length xs.length] 22 false)) := ⟨by simp, fun j hj _ => by rw [List.getElem?_set_ne (by omega), List.getElem?_append_left hj]⟩
  have hlen2 : ((g1 ++ [Blk.cells [.slice none 0 0] 22 false]).set g1.length (.cells [.slice (some ⟨bn, 0, some 0⟩) xs.length xs.length] 22 false)).length = g1.length + 1 := by simp
  refine hN3 [(0, v), (4, .pointer (some ⟨g1.length, 0, none⟩))] _ _ ?_ (by simp (maxSteps := 2000000) only [↓aw_region, ↓aw_skip, ↓aw_seq, ↓aw_block, ↓aw_exit, ↓aw_ret, ↓sops_nil, ↓sops_go, ↓dops_nil, ↓dopsX_nil, ↓dopsR_nil, ↓vdn, vup, extr_20, extr_21, extr_30, extr_31, extr_32, List.map_cons, List.map_nil, cond_true, cond_false, aop, aThen, aBlock, argEnv, ev, sput, sputO, binK, binI, unK, builtinK, pickK, Nat.reduceBEq, Nat.reduceAdd, Int.reduceBEq, Int.reduceBNe, Int.reduceLT, aPost, resK, tup, tyf])
  clear hN3
  try clear N3
  have hg1 : bn < g1.length := get_lt hbn
  have hgE := hE1.1
  have hbn2 := (hE2.2 _ hg1 id).trans hbn
  have hEx := hE1.trans hE2
  generalize ((g1 ++ [Blk.cells [.slice none 0 0] 22 false]).set g1.length (.cells [.slice (some ⟨bn, 0, some 0⟩) xs.length xs.length] 22 false)) = g2 at c1 hE2 hlen2 hbn2 hEx ⊢
  generalize hbx : g1.length = bx at c1 hlen2 hg1 hgE ⊢
  have hv2 := IntSl_ext hv hEx
  refine aws_cut fun N4 hN4 => ?_
  simp (maxSteps := 2000000) only [s52, ↓aw_region, ↓aw_skip, ↓aw_seq, ↓aw_block, ↓aw_exit, ↓aw_ret, ↓sops_nil, ↓sops_go, ↓dops_nil, ↓dopsX_nil, ↓dopsR_nil, ↓vdn, vup, extr_20, extr_21, extr_30, extr_31, extr_32, List.map_cons, List.map_nil, cond_true, cond_false, aop, aThen, aBlock, argEnv, ev, sput, sputO, binK, binI, unK, builtinK, pickK, Nat.reduceBEq, Nat.reduceAdd, Int.reduceBEq, Int.reduceBNe, Int.reduceLT, aPost, resK, tup, tyf, hv2.len, makeI el_55 zero_3 info_3 (show (0 : Int) ≤ (xs.length : Int) by omega) (show (xs.length : Int) ≤ 35184372088832 by omega), Int.toNat_natCast]
  refine hN4 [(0, v), (4, .pointer (some ⟨bx, 0, none⟩)), (5, tv g2.length xs.length)] _ _ ?_ (by simp (maxSteps := 2000000) only [↓aw_region, ↓aw_skip, ↓aw_seq, ↓aw_block, ↓aw_exit, ↓aw_ret, ↓sops_nil, ↓sops_go, ↓dops_nil, ↓dopsX_nil, ↓dopsR_nil, ↓vdn, vup, extr_20, extr_21, extr_30, extr_31, extr_32, List.map_cons, List.map_nil, cond_true, cond_false, aop, aThen, aBlock, argEnv, ev, sput, sputO, binK, binI, unK, builtinK, pickK, Nat.reduceBEq, Nat.reduceAdd, Int.reduceBEq, Int.reduceBNe, Int.reduceLT, aPost, resK, tup, tyf])
  clear hN4
  try clear N4
  have hbt : (g2 ++ [Blk.ints (List.replicate xs.length 0) 3 false])[g2.length]? = some (.ints (List.replicate xs.length 0) 3 false) := get_new _ _
  have hE3 : Ext (fun _ => False) g2 (g2 ++ [Blk.ints (List.replicate xs.length 0) 3 false]) := Ext.app _ _ _
  have hlen3 : (g2 ++ [Blk.ints (List.replicate xs.length 0) 3 false]).length = g2.length + 1 := by simp
  generalize g2 ++ [Blk.ints (List.replicate xs.length 0) 3 false] = g3 at hbt hE3 hlen3 ⊢
  have ms3 : MS h g3 bx bn g2.length xs.length xs (List.replicate xs.length 0) :=
    ⟨(hE3.2 _ (by omega) id).trans c1, (hE3.2 _ (by omega) id).trans hbn2, hbt, hEx.trans hE3, ⟨by omega, by omega, by omega⟩, ⟨by omega, by omega, by omega⟩⟩
  generalize hbte : g2.length = bt at *
  refine aws_cut fun N5 hN5 => ?_
  simp (maxSteps := 2000000) only [s52, ↓aw_region, ↓aw_skip, ↓aw_seq, ↓aw_block, ↓aw_exit, ↓aw_ret, ↓sops_nil, ↓sops_go, ↓dops_nil, ↓dopsX_nil, ↓dopsR_nil, ↓vdn, vup, extr_20, extr_21, extr_30, extr_31, extr_32, List.map_cons, List.map_nil, cond_true, cond_false, aop, aThen, aBlock, argEnv, ev, sput, sputO, binK, binI, unK, builtinK, pickK, Nat.reduceBEq, Nat.reduceAdd, Int.reduceBEq, Int.reduceBNe, Int.reduceLT, aPost, resK, tup, tyf]
  refine hN5 [(0, v), (4, .pointer (some ⟨bx, 0, none⟩)), (5, tv bt xs.length), (6, .slice none 0 0)] _ _ ?_ (by simp (maxSteps := 2000000) only [↓aw_region, ↓aw_skip, ↓aw_seq, ↓aw_block, ↓aw_exit, ↓aw_ret, ↓sops_nil, ↓sops_go, ↓dops_nil, ↓dopsX_nil, ↓dopsR_nil, ↓vdn, vup, extr_20, extr_21, extr_30, extr_31, extr_32, List.map_cons, List.map_nil, cond_true, cond_false, aop, aThen, aBlock, argEnv, ev, sput, sputO, binK, binI, unK, builtinK, pickK, Nat.reduceBEq, Nat.reduceAdd, Int.reduceBEq, Int.reduceBNe, Int.reduceLT, aPost, resK, tup, tyf])
  clear hN5
  try clear N5
  have hv3 := IntSl_ext hv2 hE3
  refine aws_cut fun Z hZ => ?_
  simp (maxSteps := 2000000) only [s52, ↓aw_region, ↓aw_skip, ↓aw_seq, ↓aw_block, ↓aw_exit, ↓aw_ret, ↓sops_nil, ↓sops_go, ↓dops_nil, ↓dopsX_nil, ↓dopsR_nil, ↓vdn, vup, extr_20, extr_21, extr_30, extr_31, extr_32, List.map_cons, List.map_nil, cond_true, cond_false, aop, aThen, aBlock, argEnv, ev, sput, sputO, binK, binI, unK, builtinK, pickK, Nat.reduceBEq, Nat.reduceAdd, Int.reduceBEq, Int.reduceBNe, Int.reduceLT, aPost, resK, tup, tyf, hv3.len, ↓aw_loop_eq]
  refine aws_hide fun Q hQ => ?_
  refine aw_loop (γ := Nat × Value × Heap) (fun s => s.1 ≤ xs.length ∧ RSI g3 s.2.2 s.2.1 (iL (List.range s.1)))
    (fun s => ([(0, v), (4, .pointer (some ⟨bx, 0, none⟩)), (5, tv bt xs.length), (6, s.2.1), (44, v), (45, vint xs.length), (46, vint s.1)], s.2.2)) (fun s => xs.length - s.1) (0, .slice none 0 0, g3) ⟨Nat.zero_le _, RSI.nil g3⟩ (by simp (maxSteps := 2000000) only [↓aw_region, ↓aw_skip, ↓aw_seq, ↓aw_block, ↓aw_exit, ↓aw_ret, ↓sops_nil, ↓sops_go, ↓dops_nil, ↓dopsX_nil, ↓dopsR_nil, ↓vdn, vup, extr_20, extr_21, extr_30, extr_31, extr_32, List.map_cons, List.map_nil, cond_true, cond_false, aop, aThen, aBlock, argEnv, ev, sput, sputO, binK, binI, unK, builtinK, pickK, Nat.reduceBEq, Nat.reduceAdd, Int.reduceBEq, Int.reduceBNe, Int.reduceLT, aPost, resK, tup, tyf, Int.natCast_zero]) rfl ?_
  rintro ⟨j, w0, hp⟩ ⟨hj, hr⟩
  simp only at hj hr
  refine aw_hide fun Q2 hQ2 => ?_
  by_cases hjn : (j : Int) < xs.length
  · simp (maxSteps := 2000000) only [s52, ↓aw_region, ↓aw_skip, ↓aw_seq, ↓aw_block, ↓aw_exit, ↓aw_ret, ↓sops_nil, ↓sops_go, ↓dops_nil, ↓dopsX_nil, ↓dopsR_nil, ↓vdn, vup, extr_20, extr_21, extr_30, extr_31, extr_32, List.map_cons, List.map_nil, cond_true, cond_false, aop, aThen, aBlock, argEnv, ev, sput, sputO, binK, binI, unK, builtinK, pickK, Nat.reduceBEq, Nat.reduceAdd, Int.reduceBEq, Int.reduceBNe, Int.reduceLT, aPost, resK, tup, tyf, l52_0, hjn, litI1]
    refine hr.push (by rw [iL_len, List.length_range]; omega) fun v' h' s' => ?_
    simp (maxSteps := 2000000) only [s52, ↓aw_region, ↓aw_skip, ↓aw_seq, ↓aw_block, ↓aw_exit, ↓aw_ret, ↓sops_nil, ↓sops_go, ↓dops_nil, ↓dopsX_nil, ↓dopsR_nil, ↓vdn, vup, extr_20, extr_21, extr_30, extr_31, extr_32, List.map_cons, List.map_nil, cond_true, cond_false, aop, aThen, aBlock, argEnv, ev, sput, sputO, binK, binI, unK, builtinK, pickK, Nat.reduceBEq, Nat.reduceAdd, Int.reduceBEq, Int.reduceBNe, Int.reduceLT, aPost, resK, tup, tyf, add1 (show j < 9223372036854775807 by omega)]
    refine hQ2 _ _ _ ⟨(j + 1, v', h'), ⟨by simp only; omega, by rw [iL_range]; exact s'⟩, by simp only; omega, by simp (maxSteps := 2000000) only [↓aw_region, ↓aw_skip, ↓aw_seq, ↓aw_block, ↓aw_exit, ↓aw_ret, ↓sops_nil, ↓sops_go, ↓dops_nil, ↓dopsX_nil, ↓dopsR_nil, ↓vdn, vup, extr_20, extr_21, extr_30, extr_31, extr_32, List.map_cons, List.map_nil, cond_true, cond_false, aop, aThen, aBlock, argEnv, ev, sput, sputO, binK, binI, unK, builtinK, pickK, Nat.reduceBEq, Nat.reduceAdd, Int.reduceBEq, Int.reduceBNe, Int.reduceLT, aPost, resK, tup, tyf], rfl⟩
  · obtain rfl : j = xs.length := by omega
    simp (maxSteps := 2000000) only [s52, ↓aw_region, ↓aw_skip, ↓aw_seq, ↓aw_block, ↓aw_exit, ↓aw_ret, ↓sops_nil, ↓sops_go, ↓dops_nil, ↓dopsX_nil, ↓dopsR_nil, ↓vdn, vup, extr_20, extr_21, extr_30, extr_31, extr_32, List.map_cons, List.map_nil, cond_true, cond_false, aop, aThen, aBlock, argEnv, ev, sput, sputO, binK, binI, unK, builtinK, pickK, Nat.reduceBEq, Nat.reduceAdd, Int.reduceBEq, Int.reduceBNe, Int.reduceLT, aPost, resK, tup, tyf, l52_0, Int.lt_irrefl]
    refine hQ2 _ _ _ (hQ _ _ _ ?_)
    simp (maxSteps := 2000000) only [s52, ↓aw_region, ↓aw_skip, ↓aw_seq, ↓aw_block, ↓aw_exit, ↓aw_ret, ↓sops_nil, ↓sops_go, ↓dops_nil, ↓dopsX_nil, ↓dopsR_nil, ↓vdn, vup, extr_20, extr_21, extr_30, extr_31, extr_32, List.map_cons, List.map_nil, cond_true, cond_false, aop, aThen, aBlock, argEnv, ev, sput, sputO, binK, binI, unK, builtinK, pickK, Nat.reduceBEq, Nat.reduceAdd, Int.reduceBEq, Int.reduceBNe, Int.reduceLT, aPost, resK, tup, tyf, if_true]
    refine hZ [(0, v), (4, .pointer (some ⟨bx, 0, none⟩)), (5, tv bt xs.length), (6, w0)] _ _ ?_ (by simp (maxSteps := 2000000) only [↓aw_region, ↓aw_skip, ↓aw_seq, ↓aw_block, ↓aw_exit, ↓aw_ret, ↓sops_nil, ↓sops_go, ↓dops_nil, ↓dopsX_nil, ↓dopsR_nil, ↓vdn, vup, extr_20, extr_21, extr_30, extr_31, extr_32, List.map_cons, List.map_nil, cond_true, cond_false, aop, aThen, aBlock, argEnv, ev, sput, sputO, binK, binI, unK, builtinK, pickK, Nat.reduceBEq, Nat.reduceAdd, Int.reduceBEq, Int.reduceBNe, Int.reduceLT, aPost, resK, tup, tyf])
    clear hZ
    try clear Z
    obtain ⟨hown, hE4, hblk⟩ := hr
    rcases hown with ⟨_, hnil⟩ | ⟨bl, ys, hov, hb⟩
    · have h0 := congrArg List.length hnil
      rw [iL_len, List.length_range] at h0; simp at h0; exact absurd h0 hne
    have hblg := hblk bl (by rw [hov]; rfl)
    rw [iL_len, List.length_range] at hov
    subst hov
    have ms4 : MS h hp bx bn bt xs.length xs (List.replicate xs.length 0) :=
      ⟨(hE4.2 _ (get_lt ms3.box) id).trans ms3.box, (hE4.2 _ (get_lt ms3.nn) id).trans ms3.nn, (hE4.2 _ (get_lt ms3.tt) id).trans ms3.tt, ms3.E.trans hE4, ms3.ge, ms3.ne⟩
    have hbx3 := get_lt ms3.box
    have hbn3 := get_lt ms3.nn
    have hbt3 := get_lt ms3.tt
    have rs : RMk h hp bx bn bt bl xs.length xs (List.range xs.length) xs (List.replicate xs.length 0) ys :=
      ⟨List.nodup_range, fun x hx => List.mem_range.1 hx, ms4, rfl, hb, MI.start.congr (fun i j hi hj _ => by simp [hi, hj]) (fun i hi => by rw [if_pos (List.mem_range.2 hi)]), by
        have := gd_start (srt_nl hs) (s := nl xs) (by rw [nl]; simpa using hne) (L := List.range xs.length) (f := fun i => xs.getD i 0) (by
          rw [range_getD, nl, List.map_map]
          have hpos := (isS_iff.1 hS).2.2.2
          refine ((List.map_congr_left fun x hx => ?_).trans (List.map_id xs)).symm
          have := hpos x hx
          show ((x.toNat : Nat) : Int) = x
          omega)
        rw [this, nl, List.length_map]⟩
    clear ms4 ms3
    have rng : ∀ e hq, poss xs.length (nl xs) = false → Ext (fun _ => False) h hq → ELe e [(2, .slice none 0 0), (3, .int .i64 4)] → True := fun _ _ _ _ _ => trivial
    refine aws_cutW fun Y hY => ?_
    refine make_rounds hl1 hl8 rfl hS ⟨by omega, by omega, by omega⟩ (by have := hEx.1; have := hE3.1; omega) rs (fun e hq hf hE he => ?_) (fun hq nk tk ys' e hp1 rs2 he => ?_)
    · have h2 : sget e 2 = .slice none 0 0 := he (2, .slice none 0 0) (by simp)
      have h3 : sget e 3 = .int .i64 4 := he (3, .int .i64 4) (by simp)
      simp (maxSteps := 2000000) only [s52, ↓aw_region, ↓aw_skip, ↓aw_seq, ↓aw_block, ↓aw_exit, ↓aw_ret, ↓sops_nil, ↓sops_go, ↓dops_nil, ↓dopsX_nil, ↓dopsR_nil, ↓vdn, vup, extr_20, extr_21, extr_30, extr_31, extr_32, List.map_cons, List.map_nil, cond_true, cond_false, aop, aThen, aBlock, argEnv, ev, sput, sputO, binK, binI, unK, builtinK, pickK, Nat.reduceBEq, Nat.reduceAdd, Int.reduceBEq, Int.reduceBNe, Int.reduceLT, aPost, resK, tup, tyf, h2, h3]
      exact ⟨hE, by rw [makeR, if_pos hS, if_neg (by rw [hf]; decide)]⟩
    · refine hY [(0, v), (5, tv bt xs.length)] _ _ ?_ he
      have hd := rs2.mi.done hl1 hl8 (fun i j _ _ _ h => by cases h.1) (fun i _ => if_neg (by simp))
      have hv5 := IntSl_ext hv rs2.m.E
      have ht5 : IntSl hq (tv bt xs.length) tk := by
        have := intSl_blk rs2.m.tt
        rw [rs2.mi.len] at this
        exact this
      have hrng : ∀ i, i < xs.length → 0 ≤ tk.getD i 0 ∧ tk.getD i 0 < 256 := fun i hi => by
        have h1 := rs2.mi.rng i hi
        have h2 := pow8N hl8
        have e : ((2 : Int) ^ xs.length) = ((2 ^ xs.length : Nat) : Int) := by simp
        rw [e] at h1; omega
      have hEq := rs2.m.E
      have hlk := rs2.mi.len
      clear rs2
      refine aws_cut fun N6 hN6 => ?_
      simp (maxSteps := 2000000) only [s52, ↓aw_region, ↓aw_skip, ↓aw_seq, ↓aw_block, ↓aw_exit, ↓aw_ret, ↓sops_nil, ↓sops_go, ↓dops_nil, ↓dopsX_nil, ↓dopsR_nil, ↓vdn, vup, extr_20, extr_21, extr_30, extr_31, extr_32, List.map_cons, List.map_nil, cond_true, cond_false, aop, aThen, aBlock, argEnv, ev, sput, sputO, binK, binI, unK, builtinK, pickK, Nat.reduceBEq, Nat.reduceAdd, Int.reduceBEq, Int.reduceBNe, Int.reduceLT, aPost, resK, tup, tyf, callK, List.nil_append, List.append_nil, List.toList_toArray, List.cons_append, List.map_toArray]
      refine (equalf_call ht5 hv5 hlk hl8 hrng hd.2).mono ?_
      rintro _ hq ⟨rfl, rfl⟩
      simp (maxSteps := 2000000) only [s52, ↓aw_region, ↓aw_skip, ↓aw_seq, ↓aw_block, ↓aw_exit, ↓aw_ret, ↓sops_nil, ↓sops_go, ↓dops_nil, ↓dopsX_nil, ↓dopsR_nil, ↓vdn, vup, extr_20, extr_21, extr_30, extr_31, extr_32, List.map_cons, List.map_nil, cond_true, cond_false, aop, aThen, aBlock, argEnv, ev, sput, sputO, binK, binI, unK, builtinK, pickK, Nat.reduceBEq, Nat.reduceAdd, Int.reduceBEq, Int.reduceBNe, Int.reduceLT, aPost, resK, tup, tyf, Bool.not_true]
      refine hN6 [(0, v), (5, tv bt xs.length)] _ _ ?_ (by simp (maxSteps := 2000000) only [↓aw_region, ↓aw_skip, ↓aw_seq, ↓aw_block, ↓aw_exit, ↓aw_ret, ↓sops_nil, ↓sops_go, ↓dops_nil, ↓dopsX_nil, ↓dopsR_nil, ↓vdn, vup, extr_20, extr_21, extr_30, extr_31, extr_32, List.map_cons, List.map_nil, cond_true, cond_false, aop, aThen, aBlock, argEnv, ev, sput, sputO, binK, binI, unK, builtinK, pickK, Nat.reduceBEq, Nat.reduceAdd, Int.reduceBEq, Int.reduceBNe, Int.reduceLT, aPost, resK, tup, tyf])
      clear hN6
      try clear N6
      refine aw_aws ?_
      simp (maxSteps := 2000000) only [s52, ↓aw_region, ↓aw_skip, ↓aw_seq, ↓aw_block, ↓aw_exit, ↓aw_ret, ↓sops_nil, ↓sops_go, ↓dops_nil, ↓dopsX_nil, ↓dopsR_nil, ↓vdn, vup, extr_20, extr_21, extr_30, extr_31, extr_32, List.map_cons, List.map_nil, cond_true, cond_false, aop, aThen, aBlock, argEnv, ev, sput, sputO, binK, binI, unK, builtinK, pickK, Nat.reduceBEq, Nat.reduceAdd, Int.reduceBEq, Int.reduceBNe, Int.reduceLT, aPost, resK, tup, tyf]
      exact ⟨hEq, by rw [makeR, if_pos hS, if_pos hp1]; exact ⟨_, tk, rfl, ht5, hd.1, hlk, hd.2⟩⟩
end Go.Proofs.Tryd.Am

namespace Go.Proofs.Tryd.Am
open Go.Am Rb
set_option maxRecDepth 100000
set_option maxHeartbeats 1000000

theorem isS_take {xs : List Int} : isS (xs.take 11) = isS xs := by
  by_cases h : xs.length ≤ 11
  · rw [List.take_of_length_le h]
  · rw [isS, isS, decide_eq_false (show ¬ (xs.take 11).length ≤ 8 by simp; omega), decide_eq_false (show ¬ xs.length ≤ 8 by omega)]
    simp
theorem s17_callW [Tabs Tryd.prog] {args : List Value} {h : Heap} {Q : Value → Heap → Prop} (hsz : args.length ≤ 93) (hk : AWS Tryd.prog 93 s17 (aPost Tryd.prog [.tmp 2] Q) (argEnv 0 args) h) : ACall Tryd.prog 17 args h Q :=
  acall_w Tryd.func17 rfl (enters_of Tryd.func17 (by kernel_rfl) rfl) rfl rfl (by decide) s17_strip s17_ok hsz hk
theorem law_landau [BitTab prog 1] {h : Heap} {v : Value} {xs : List Int} (hv : IntSl h v xs) (hl : xs.length < 9223372036854775808) (hx : ∀ x ∈ xs, -9223372036854775808 ≤ x ∧ x < 9223372036854775808) :
    ACall prog 17 [v] h fun r _ => r = .bool true := by
  have awk : ∀ {K : Value → Heap → Prop} {g : Heap}, (∀ g', Ext (fun _ => False) g g' → K (.bool true) g') → ACall prog 21 [] g K := fun {K g} hk => awake_call.mono fun v h' ⟨h1, h2⟩ => by rw [h1]; exact hk _ h2
  have rng11 : ∀ {ys : List Int}, (∀ x ∈ ys, -9223372036854775808 ≤ x ∧ x < 9223372036854775808) → ∀ x ∈ ys.take 11, -9223372036854775808 ≤ x ∧ x < 9223372036854775808 := fun h x hm => h x (List.take_subset _ _ hm)
  have len11 : ∀ {ys : List Int}, (ys.take 11).length < 9223372036854775808 := by intro ys; simp; omega
  have e22 : ((2 : Int) == 2) = true := rfl
  have e02 : ((0 : Int) == 2) = false := rfl
  have e42 : ((4 : Int) == 2) = false := rfl
  have e44 : ((4 : Int) == 4) = true := rfl
  have e40 : ((4 : Int) == 0) = false := rfl
  have n20 : ((2 : Int) != 0) = true := rfl
  have n40 : ((4 : Int) != 0) = true := rfl
  have n00 : ((0 : Int) != 0) = false := rfl
  have e0 : ((0 : Int) == 0) = true := rfl
  have hnn : ∀ i : Nat, (0 : Int) ≤ (i : Int) := Int.natCast_nonneg
  refine s17_callW (by simp) ?_
  simp only [s17]
  refine aws_cut fun N1 hN1 => ?_
  simp (maxSteps := 2000000) only [s17, ↓aw_region, ↓aw_skip, ↓aw_seq, ↓aw_block, ↓aw_exit, ↓aw_ret, ↓sops_nil, ↓sops_go, ↓dops_nil, ↓dopsX_nil, ↓dopsR_nil, ↓vdn, vup, extr_20, extr_21, extr_30, extr_31, extr_32, List.map_cons, List.map_nil, cond_true, cond_false, aop, aThen, aBlock, argEnv, ev, sput, sputO, binK, binI, unK, builtinK, pickK, Nat.reduceBEq, Nat.reduceAdd, Int.reduceBEq, Int.reduceBNe, Int.reduceLT, aPost, resK, tup, tyf]
  refine hN1 [(0, v), (2, .bool false)] _ _ ?_ (by simp (maxSteps := 2000000) only [↓aw_region, ↓aw_skip, ↓aw_seq, ↓aw_block, ↓aw_exit, ↓aw_ret, ↓sops_nil, ↓sops_go, ↓dops_nil, ↓dopsX_nil, ↓dopsR_nil, ↓vdn, vup, extr_20, extr_21, extr_30, extr_31, extr_32, List.map_cons, List.map_nil, cond_true, cond_false, aop, aThen, aBlock, argEnv, ev, sput, sputO, binK, binI, unK, builtinK, pickK, Nat.reduceBEq, Nat.reduceAdd, Int.reduceBEq, Int.reduceBNe, Int.reduceLT, aPost, resK, tup, tyf])
  clear hN1
  try clear N1
  refine aws_cut fun N2 hN2 => ?_
  simp (maxSteps := 2000000) only [s17, ↓aw_region, ↓aw_skip, ↓aw_seq, ↓aw_block, ↓aw_exit, ↓aw_ret, ↓sops_nil, ↓sops_go, ↓dops_nil, ↓dopsX_nil, ↓dopsR_nil, ↓vdn, vup, extr_20, extr_21, extr_30, extr_31, extr_32, List.map_cons, List.map_nil, cond_true, cond_false, aop, aThen, aBlock, argEnv, ev, sput, sputO, binK, binI, unK, builtinK, pickK, Nat.reduceBEq, Nat.reduceAdd, Int.reduceBEq, Int.reduceBNe, Int.reduceLT, aPost, resK, tup, tyf, callK, List.nil_append, List.append_nil, List.toList_toArray, List.cons_append]
  refine (list_call hv hl).mono ?_
  rintro l1 _ ⟨hl1, g1, rfl⟩
  refine (make_call hl1 len11 (rng11 hx)).mono ?_
  rintro r1 h1 ⟨hE1, hr1⟩
  have hv1 := IntSl_ext (hv.grow g1) hE1
  clear hl1 hE1
  rw [makeR, isS_take] at hr1
  cases hS : isS xs with
  | false =>
    rw [hS, if_neg (by decide)] at hr1
    subst hr1
    simp (maxSteps := 2000000) only [s17, ↓aw_region, ↓aw_skip, ↓aw_seq, ↓aw_block, ↓aw_exit, ↓aw_ret, ↓sops_nil, ↓sops_go, ↓dops_nil, ↓dopsX_nil, ↓dopsR_nil, ↓vdn, vup, extr_20, extr_21, extr_30, extr_31, extr_32, List.map_cons, List.map_nil, cond_true, cond_false, aop, aThen, aBlock, argEnv, ev, sput, sputO, binK, binI, unK, builtinK, pickK, Nat.reduceBEq, Nat.reduceAdd, Int.reduceBEq, Int.reduceBNe, Int.reduceLT, aPost, resK, tup, tyf]
    refine hN2 [(0, v), (2, .bool false), (3, .slice none 0 0), (4, .int .i64 2)] _ _ ?_ (by simp (maxSteps := 2000000) only [↓aw_region, ↓aw_skip, ↓aw_seq, ↓aw_block, ↓aw_exit, ↓aw_ret, ↓sops_nil, ↓sops_go, ↓dops_nil, ↓dopsX_nil, ↓dopsR_nil, ↓vdn, vup, extr_20, extr_21, extr_30, extr_31, extr_32, List.map_cons, List.map_nil, cond_true, cond_false, aop, aThen, aBlock, argEnv, ev, sput, sputO, binK, binI, unK, builtinK, pickK, Nat.reduceBEq, Nat.reduceAdd, Int.reduceBEq, Int.reduceBNe, Int.reduceLT, aPost, resK, tup, tyf])
    clear hN2
    try clear N2
    refine aws_cut fun N3 hN3 => ?_
    simp (maxSteps := 2000000) only [s17, ↓aw_region, ↓aw_skip, ↓aw_seq, ↓aw_block, ↓aw_exit, ↓aw_ret, ↓sops_nil, ↓sops_go, ↓dops_nil, ↓dopsX_nil, ↓dopsR_nil, ↓vdn, vup, extr_20, extr_21, extr_30, extr_31, extr_32, List.map_cons, List.map_nil, cond_true, cond_false, aop, aThen, aBlock, argEnv, ev, sput, sputO, binK, binI, unK, builtinK, pickK, Nat.reduceBEq, Nat.reduceAdd, Int.reduceBEq, Int.reduceBNe, Int.reduceLT, aPost, resK, tup, tyf, callK, List.nil_append, List.append_nil, List.toList_toArray, List.cons_append, e22]
    refine (isscores_call hv1 hl hx).mono ?_
    rintro _ h1 ⟨rfl, rfl⟩
    simp (maxSteps := 2000000) only [s17, ↓aw_region, ↓aw_skip, ↓aw_seq, ↓aw_block, ↓aw_exit, ↓aw_ret, ↓sops_nil, ↓sops_go, ↓dops_nil, ↓dopsX_nil, ↓dopsR_nil, ↓vdn, vup, extr_20, extr_21, extr_30, extr_31, extr_32, List.map_cons, List.map_nil, cond_true, cond_false, aop, aThen, aBlock, argEnv, ev, sput, sputO, binK, binI, unK, builtinK, pickK, Nat.reduceBEq, Nat.reduceAdd, Int.reduceBEq, Int.reduceBNe, Int.reduceLT, aPost, resK, tup, tyf, callK, List.nil_append, List.append_nil, List.toList_toArray, List.cons_append, hS, Bool.not_false]
    refine awk fun g _ => ?_
    simp (maxSteps := 2000000) only [s17, ↓aw_region, ↓aw_skip, ↓aw_seq, ↓aw_block, ↓aw_exit, ↓aw_ret, ↓sops_nil, ↓sops_go, ↓dops_nil, ↓dopsX_nil, ↓dopsR_nil, ↓vdn, vup, extr_20, extr_21, extr_30, extr_31, extr_32, List.map_cons, List.map_nil, cond_true, cond_false, aop, aThen, aBlock, argEnv, ev, sput, sputO, binK, binI, unK, builtinK, pickK, Nat.reduceBEq, Nat.reduceAdd, Int.reduceBEq, Int.reduceBNe, Int.reduceLT, aPost, resK, tup, tyf]
  | true =>
  have hSx := isS_iff.1 hS
  have ht11 : xs.take 11 = xs := List.take_of_length_le (by omega)
  rw [hS, if_pos rfl, ht11, poss_lan xs.length (nl xs) (by simp [nl]) (by omega) (by omega) (srt_nl hSx.2.2.1) (fun x hm => by
    obtain ⟨y, hy, rfl⟩ := List.mem_map.1 hm
    have := hSx.2.2.2 y hy; omega)] at hr1
  -- what Make has answered, and Landau's sums
  obtain ⟨er, u, rfl, hue⟩ : ∃ (er : Int) (u : Value), r1 = .tuple #[u, .int .i64 er] ∧ ((lan (nl xs) = true ∧ er = 0 ∧ ∃ ts, IntSl h1 u ts ∧ trn ts = true ∧ ts.length = xs.length ∧ ∀ i, i < xs.length → (scr (ts.getD i 0) : Int) = xs.getD i 0) ∨ (lan (nl xs) = false ∧ er = 4)) := by
    cases hlan : lan (nl xs) with
    | true =>
      rw [hlan, if_pos rfl] at hr1
      obtain ⟨w, ts, h1, h2⟩ := hr1
      exact ⟨0, w, h1, .inl ⟨rfl, rfl, ts, h2⟩⟩
    | false =>
      rw [hlan, if_neg (by decide)] at hr1
      exact ⟨4, _, hr1, .inr ⟨rfl, rfl⟩⟩
  clear hr1
  have her2 : (er == 2) = false := by rcases hue with ⟨_, rfl, _⟩ | ⟨_, rfl⟩ <;> rfl
  simp (maxSteps := 2000000) only [s17, ↓aw_region, ↓aw_skip, ↓aw_seq, ↓aw_block, ↓aw_exit, ↓aw_ret, ↓sops_nil, ↓sops_go, ↓dops_nil, ↓dopsX_nil, ↓dopsR_nil, ↓vdn, vup, extr_20, extr_21, extr_30, extr_31, extr_32, List.map_cons, List.map_nil, cond_true, cond_false, aop, aThen, aBlock, argEnv, ev, sput, sputO, binK, binI, unK, builtinK, pickK, Nat.reduceBEq, Nat.reduceAdd, Int.reduceBEq, Int.reduceBNe, Int.reduceLT, aPost, resK, tup, tyf]
  refine hN2 [(0, v), (2, .bool false), (3, u), (4, .int .i64 er)] _ _ ?_ (by simp (maxSteps := 2000000) only [↓aw_region, ↓aw_skip, ↓aw_seq, ↓aw_block, ↓aw_exit, ↓aw_ret, ↓sops_nil, ↓sops_go, ↓dops_nil, ↓dopsX_nil, ↓dopsR_nil, ↓vdn, vup, extr_20, extr_21, extr_30, extr_31, extr_32, List.map_cons, List.map_nil, cond_true, cond_false, aop, aThen, aBlock, argEnv, ev, sput, sputO, binK, binI, unK, builtinK, pickK, Nat.reduceBEq, Nat.reduceAdd, Int.reduceBEq, Int.reduceBNe, Int.reduceLT, aPost, resK, tup, tyf])
  clear hN2
  try clear N2
  refine aws_cut fun N4 hN4 => ?_
  simp (maxSteps := 2000000) only [s17, ↓aw_region, ↓aw_skip, ↓aw_seq, ↓aw_block, ↓aw_exit, ↓aw_ret, ↓sops_nil, ↓sops_go, ↓dops_nil, ↓dopsX_nil, ↓dopsR_nil, ↓vdn, vup, extr_20, extr_21, extr_30, extr_31, extr_32, List.map_cons, List.map_nil, cond_true, cond_false, aop, aThen, aBlock, argEnv, ev, sput, sputO, binK, binI, unK, builtinK, pickK, Nat.reduceBEq, Nat.reduceAdd, Int.reduceBEq, Int.reduceBNe, Int.reduceLT, aPost, resK, tup, tyf, callK, List.nil_append, List.append_nil, List.toList_toArray, List.cons_append, her2]
  refine (isscores_call hv1 hl hx).mono ?_
  rintro _ h1 ⟨rfl, rfl⟩
  simp (maxSteps := 2000000) only [s17, ↓aw_region, ↓aw_skip, ↓aw_seq, ↓aw_block, ↓aw_exit, ↓aw_ret, ↓sops_nil, ↓sops_go, ↓dops_nil, ↓dopsX_nil, ↓dopsR_nil, ↓vdn, vup, extr_20, extr_21, extr_30, extr_31, extr_32, List.map_cons, List.map_nil, cond_true, cond_false, aop, aThen, aBlock, argEnv, ev, sput, sputO, binK, binI, unK, builtinK, pickK, Nat.reduceBEq, Nat.reduceAdd, Int.reduceBEq, Int.reduceBNe, Int.reduceLT, aPost, resK, tup, tyf, hS, Bool.not_true]
  refine hN4 [(0, v), (2, .bool false), (3, u), (4, .int .i64 er)] _ _ ?_ (by simp (maxSteps := 2000000) only [↓aw_region, ↓aw_skip, ↓aw_seq, ↓aw_block, ↓aw_exit, ↓aw_ret, ↓sops_nil, ↓sops_go, ↓dops_nil, ↓dopsX_nil, ↓dopsR_nil, ↓vdn, vup, extr_20, extr_21, extr_30, extr_31, extr_32, List.map_cons, List.map_nil, cond_true, cond_false, aop, aThen, aBlock, argEnv, ev, sput, sputO, binK, binI, unK, builtinK, pickK, Nat.reduceBEq, Nat.reduceAdd, Int.reduceBEq, Int.reduceBNe, Int.reduceLT, aPost, resK, tup, tyf])
  clear hN4
  try clear N4
  refine aws_cut fun N5 hN5 => ?_
  simp (maxSteps := 2000000) only [s17, ↓aw_region, ↓aw_skip, ↓aw_seq, ↓aw_block, ↓aw_exit, ↓aw_ret, ↓sops_nil, ↓sops_go, ↓dops_nil, ↓dopsX_nil, ↓dopsR_nil, ↓vdn, vup, extr_20, extr_21, extr_30, extr_31, extr_32, List.map_cons, List.map_nil, cond_true, cond_false, aop, aThen, aBlock, argEnv, ev, sput, sputO, binK, binI, unK, builtinK, pickK, Nat.reduceBEq, Nat.reduceAdd, Int.reduceBEq, Int.reduceBNe, Int.reduceLT, aPost, resK, tup, tyf]
  refine hN5 [(0, v), (2, .bool false), (3, u), (4, .int .i64 er), (5, .int .i64 0), (6, .bool true)] _ _ ?_ (by simp (maxSteps := 2000000) only [↓aw_region, ↓aw_skip, ↓aw_seq, ↓aw_block, ↓aw_exit, ↓aw_ret, ↓sops_nil, ↓sops_go, ↓dops_nil, ↓dopsX_nil, ↓dopsR_nil, ↓vdn, vup, extr_20, extr_21, extr_30, extr_31, extr_32, List.map_cons, List.map_nil, cond_true, cond_false, aop, aThen, aBlock, argEnv, ev, sput, sputO, binK, binI, unK, builtinK, pickK, Nat.reduceBEq, Nat.reduceAdd, Int.reduceBEq, Int.reduceBNe, Int.reduceLT, aPost, resK, tup, tyf])
  clear hN5
  try clear N5
  refine aws_cut fun Z hZ => ?_
  simp (maxSteps := 2000000) only [s17, ↓aw_region, ↓aw_skip, ↓aw_seq, ↓aw_block, ↓aw_exit, ↓aw_ret, ↓sops_nil, ↓sops_go, ↓dops_nil, ↓dopsX_nil, ↓dopsR_nil, ↓vdn, vup, extr_20, extr_21, extr_30, extr_31, extr_32, List.map_cons, List.map_nil, cond_true, cond_false, aop, aThen, aBlock, argEnv, ev, sput, sputO, binK, binI, unK, builtinK, pickK, Nat.reduceBEq, Nat.reduceAdd, Int.reduceBEq, Int.reduceBNe, Int.reduceLT, aPost, resK, tup, tyf, hv1.len, ↓aw_loop_eq]
  refine aws_hide fun Q hQ => ?_
  refine aw_loop (γ := Nat × Nat × Bool) (fun g => g.1 ≤ xs.length ∧ g.2.1 ≤ 7 * g.1 ∧ lan (nl xs) = (g.2.2 && lanS ((nl xs).drop g.1) g.2.1 g.1))
    (fun g => ([(0, v), (2, .bool false), (3, u), (4, .int .i64 er), (5, vint g.2.1), (6, .bool g.2.2), (34, v), (35, vint xs.length), (36, vint g.1)], h1)) (fun g => xs.length - g.1) (0, 0, true) ⟨Nat.zero_le _, Nat.le_refl _, by rw [List.drop_zero, Bool.true_and]; rfl⟩ (by simp (maxSteps := 2000000) only [↓aw_region, ↓aw_skip, ↓aw_seq, ↓aw_block, ↓aw_exit, ↓aw_ret, ↓sops_nil, ↓sops_go, ↓dops_nil, ↓dopsX_nil, ↓dopsR_nil, ↓vdn, vup, extr_20, extr_21, extr_30, extr_31, extr_32, List.map_cons, List.map_nil, cond_true, cond_false, aop, aThen, aBlock, argEnv, ev, sput, sputO, binK, binI, unK, builtinK, pickK, Nat.reduceBEq, Nat.reduceAdd, Int.reduceBEq, Int.reduceBNe, Int.reduceLT, aPost, resK, tup, tyf, Int.natCast_zero]) rfl ?_
  rintro ⟨k, sm, ok⟩ ⟨hk, hsm, hlan⟩
  simp only at hk hsm hlan
  refine aw_hide fun Q2 hQ2 => ?_
  by_cases hkn : (k : Int) < xs.length
  · have hk' : k < xs.length := by omega
    have hxk := hSx.2.2.2 (xs.getD k 0) (by rw [List.getD, List.getElem?_eq_getElem hk', Option.getD_some]; exact List.getElem_mem _)
    obtain ⟨x, hxe⟩ : ∃ x : Nat, xs.getD k 0 = (x : Int) := ⟨(xs.getD k 0).toNat, by omega⟩
    have hadd : addV .i64 ((sm : Nat) : Int) ((x : Nat) : Int) = ((sm + x : Nat) : Int) := by rw [addV_id (by omega) (by omega)]; omega
    have hdrop : (nl xs).drop k = x :: (nl xs).drop (k + 1) := by
      have hkl : k < (nl xs).length := by rw [nl, List.length_map]; exact hk'
      rw [List.drop_eq_getElem_cons hkl]
      congr 1
      rw [List.getD, List.getElem?_eq_getElem hk', Option.getD_some] at hxe
      simp [nl, hxe]
    rw [hdrop, lanS] at hlan
    have hm1 : mulV .i64 2 ((sm + x : Nat) : Int) = ((2 * (sm + x) : Nat) : Int) := by rw [mulV_id (by omega) (by omega)]; omega
    have hkk : (k + 1) * k ≤ 8 * 8 := Nat.mul_le_mul (by omega) (by omega)
    have hm2 : mulV .i64 ((k + 1 : Nat) : Int) ((k : Nat) : Int) = (((k + 1) * k : Nat) : Int) := by
      have e : (((k + 1) * k : Nat) : Int) = ((k + 1 : Nat) : Int) * ((k : Nat) : Int) := Int.natCast_mul _ _
      rw [mulV_id (by rw [← e]; omega) (by rw [← e]; omega), e]
    have hble : Nat.ble ((k + 1) * k) (sm + x + (sm + x)) = decide ((k + 1) * k ≤ 2 * (sm + x)) := by
      rw [Bool.eq_iff_iff, Nat.ble_eq, decide_eq_true_eq, Nat.two_mul]
    rw [hble] at hlan
    cases ok with
    | false =>
      simp (maxSteps := 2000000) only [s17, ↓aw_region, ↓aw_skip, ↓aw_seq, ↓aw_block, ↓aw_exit, ↓aw_ret, ↓sops_nil, ↓sops_go, ↓dops_nil, ↓dopsX_nil, ↓dopsR_nil, ↓vdn, vup, extr_20, extr_21, extr_30, extr_31, extr_32, List.map_cons, List.map_nil, cond_true, cond_false, aop, aThen, aBlock, argEnv, ev, sput, sputO, binK, binI, unK, builtinK, pickK, Nat.reduceBEq, Nat.reduceAdd, Int.reduceBEq, Int.reduceBNe, Int.reduceLT, aPost, resK, tup, tyf, l17_0, hkn, hv1.idx el_22 esz_3 hk', hv1.load shp_3 hk', hxe, hadd, add1 (show k < 9223372036854775807 by omega)]
      exact hQ2 _ _ _ ⟨(k + 1, sm + x, false), ⟨hk', by simp only; omega, by rw [hlan]; rfl⟩, by simp only; omega, by simp (maxSteps := 2000000) only [↓aw_region, ↓aw_skip, ↓aw_seq, ↓aw_block, ↓aw_exit, ↓aw_ret, ↓sops_nil, ↓sops_go, ↓dops_nil, ↓dopsX_nil, ↓dopsR_nil, ↓vdn, vup, extr_20, extr_21, extr_30, extr_31, extr_32, List.map_cons, List.map_nil, cond_true, cond_false, aop, aThen, aBlock, argEnv, ev, sput, sputO, binK, binI, unK, builtinK, pickK, Nat.reduceBEq, Nat.reduceAdd, Int.reduceBEq, Int.reduceBNe, Int.reduceLT, aPost, resK, tup, tyf], rfl⟩
    | true =>
      by_cases hge : (((k + 1) * k : Nat) : Int) ≤ ((2 * (sm + x) : Nat) : Int)
      · rw [decide_eq_true (show (k + 1) * k ≤ 2 * (sm + x) by omega), Bool.true_and] at hlan
        simp (maxSteps := 2000000) only [s17, ↓aw_region, ↓aw_skip, ↓aw_seq, ↓aw_block, ↓aw_exit, ↓aw_ret, ↓sops_nil, ↓sops_go, ↓dops_nil, ↓dopsX_nil, ↓dopsR_nil, ↓vdn, vup, extr_20, extr_21, extr_30, extr_31, extr_32, List.map_cons, List.map_nil, cond_true, cond_false, aop, aThen, aBlock, argEnv, ev, sput, sputO, binK, binI, unK, builtinK, pickK, Nat.reduceBEq, Nat.reduceAdd, Int.reduceBEq, Int.reduceBNe, Int.reduceLT, aPost, resK, tup, tyf, l17_0, hkn, hv1.idx el_22 esz_3 hk', hv1.load shp_3 hk', hxe, hadd, hm1, hm2, add1 (show k < 9223372036854775807 by omega), ge_iff_le, hge]
        exact hQ2 _ _ _ ⟨(k + 1, sm + x, true), ⟨hk', by simp only; omega, hlan⟩, by simp only; omega, by simp (maxSteps := 2000000) only [↓aw_region, ↓aw_skip, ↓aw_seq, ↓aw_block, ↓aw_exit, ↓aw_ret, ↓sops_nil, ↓sops_go, ↓dops_nil, ↓dopsX_nil, ↓dopsR_nil, ↓vdn, vup, extr_20, extr_21, extr_30, extr_31, extr_32, List.map_cons, List.map_nil, cond_true, cond_false, aop, aThen, aBlock, argEnv, ev, sput, sputO, binK, binI, unK, builtinK, pickK, Nat.reduceBEq, Nat.reduceAdd, Int.reduceBEq, Int.reduceBNe, Int.reduceLT, aPost, resK, tup, tyf], rfl⟩
      · rw [decide_eq_false (show ¬ (k + 1) * k ≤ 2 * (sm + x) by omega), Bool.false_and, Bool.and_false] at hlan
        simp (maxSteps := 2000000) only [s17, ↓aw_region, ↓aw_skip, ↓aw_seq, ↓aw_block, ↓aw_exit, ↓aw_ret, ↓sops_nil, ↓sops_go, ↓dops_nil, ↓dopsX_nil, ↓dopsR_nil, ↓vdn, vup, extr_20, extr_21, extr_30, extr_31, extr_32, List.map_cons, List.map_nil, cond_true, cond_false, aop, aThen, aBlock, argEnv, ev, sput, sputO, binK, binI, unK, builtinK, pickK, Nat.reduceBEq, Nat.reduceAdd, Int.reduceBEq, Int.reduceBNe, Int.reduceLT, aPost, resK, tup, tyf, l17_0, hkn, hv1.idx el_22 esz_3 hk', hv1.load shp_3 hk', hxe, hadd, hm1, hm2, add1 (show k < 9223372036854775807 by omega), ge_iff_le, hge]
        exact hQ2 _ _ _ ⟨(k + 1, sm + x, false), ⟨hk', by simp only; omega, by rw [hlan]; rfl⟩, by simp only; omega, by simp (maxSteps := 2000000) only [↓aw_region, ↓aw_skip, ↓aw_seq, ↓aw_block, ↓aw_exit, ↓aw_ret, ↓sops_nil, ↓sops_go, ↓dops_nil, ↓dopsX_nil, ↓dopsR_nil, ↓vdn, vup, extr_20, extr_21, extr_30, extr_31, extr_32, List.map_cons, List.map_nil, cond_true, cond_false, aop, aThen, aBlock, argEnv, ev, sput, sputO, binK, binI, unK, builtinK, pickK, Nat.reduceBEq, Nat.reduceAdd, Int.reduceBEq, Int.reduceBNe, Int.reduceLT, aPost, resK, tup, tyf], rfl⟩
  · obtain rfl : k = xs.length := by omega
    simp (maxSteps := 2000000) only [s17, ↓aw_region, ↓aw_skip, ↓aw_seq, ↓aw_block, ↓aw_exit, ↓aw_ret, ↓sops_nil, ↓sops_go, ↓dops_nil, ↓dopsX_nil, ↓dopsR_nil, ↓vdn, vup, extr_20, extr_21, extr_30, extr_31, extr_32, List.map_cons, List.map_nil, cond_true, cond_false, aop, aThen, aBlock, argEnv, ev, sput, sputO, binK, binI, unK, builtinK, pickK, Nat.reduceBEq, Nat.reduceAdd, Int.reduceBEq, Int.reduceBNe, Int.reduceLT, aPost, resK, tup, tyf, l17_0, Int.lt_irrefl]
    refine hQ2 _ _ _ (hQ _ _ _ ?_)
    simp (maxSteps := 2000000) only [s17, ↓aw_region, ↓aw_skip, ↓aw_seq, ↓aw_block, ↓aw_exit, ↓aw_ret, ↓sops_nil, ↓sops_go, ↓dops_nil, ↓dopsX_nil, ↓dopsR_nil, ↓vdn, vup, extr_20, extr_21, extr_30, extr_31, extr_32, List.map_cons, List.map_nil, cond_true, cond_false, aop, aThen, aBlock, argEnv, ev, sput, sputO, binK, binI, unK, builtinK, pickK, Nat.reduceBEq, Nat.reduceAdd, Int.reduceBEq, Int.reduceBNe, Int.reduceLT, aPost, resK, tup, tyf, if_true]
    refine hZ [(0, v), (2, .bool false), (3, u), (4, .int .i64 er), (5, vint sm), (6, .bool ok)] _ _ ?_ (by simp (maxSteps := 2000000) only [↓aw_region, ↓aw_skip, ↓aw_seq, ↓aw_block, ↓aw_exit, ↓aw_ret, ↓sops_nil, ↓sops_go, ↓dops_nil, ↓dopsX_nil, ↓dopsR_nil, ↓vdn, vup, extr_20, extr_21, extr_30, extr_31, extr_32, List.map_cons, List.map_nil, cond_true, cond_false, aop, aThen, aBlock, argEnv, ev, sput, sputO, binK, binI, unK, builtinK, pickK, Nat.reduceBEq, Nat.reduceAdd, Int.reduceBEq, Int.reduceBNe, Int.reduceLT, aPost, resK, tup, tyf])
    clear hZ
    try clear Z
    rw [List.drop_of_length_le (show (nl xs).length ≤ xs.length by simp [nl]), lanS] at hlan
    have hm1 : mulV .i64 2 ((sm : Nat) : Int) = ((2 * sm : Nat) : Int) := by rw [mulV_id (by omega) (by omega)]; omega
    have hkk : xs.length * (xs.length - 1) ≤ 8 * 8 := Nat.mul_le_mul (by omega) (by omega)
    have e1 : subV .i64 (xs.length : Int) 1 = ((xs.length - 1 : Nat) : Int) := by rw [subV_id (by omega) (by omega)]; omega
    have hm2 : mulV .i64 (xs.length : Int) ((xs.length - 1 : Nat) : Int) = ((xs.length * (xs.length - 1) : Nat) : Int) := by
      have e : ((xs.length * (xs.length - 1) : Nat) : Int) = ((xs.length : Nat) : Int) * ((xs.length - 1 : Nat) : Int) := Int.natCast_mul _ _
      rw [mulV_id (by rw [← e]; omega) (by rw [← e]; omega), e]
    have hq : (((2 * sm : Nat) : Int) == ((xs.length * (xs.length - 1) : Nat) : Int)) = (sm + sm == xs.length * (xs.length - 1)) := by
      rw [Bool.eq_iff_iff, beq_iff_eq, beq_iff_eq]; omega
    refine aws_cut fun Y hY => ?_
    have next : ∀ e, ELe e [(0, v), (2, .bool false), (3, u), (4, .int .i64 er), (6, .bool (lan (nl xs)))] → Y e h1 := by
      intro e he
      refine hY [(0, v), (2, .bool false), (3, u), (4, .int .i64 er), (6, .bool (lan (nl xs)))] _ _ ?_ he
      rcases hue with ⟨hL, rfl, ts, hts, httr, htl, htsc⟩ | ⟨hL, rfl⟩
      · rw [hL]
        have ett : ((true : Bool) != true) = false := rfl
        refine aws_cut fun N6 hN6 => ?_
        simp (maxSteps := 2000000) only [s17, ↓aw_region, ↓aw_skip, ↓aw_seq, ↓aw_block, ↓aw_exit, ↓aw_ret, ↓sops_nil, ↓sops_go, ↓dops_nil, ↓dopsX_nil, ↓dopsR_nil, ↓vdn, vup, extr_20, extr_21, extr_30, extr_31, extr_32, List.map_cons, List.map_nil, cond_true, cond_false, aop, aThen, aBlock, argEnv, ev, sput, sputO, binK, binI, unK, builtinK, pickK, Nat.reduceBEq, Nat.reduceAdd, Int.reduceBEq, Int.reduceBNe, Int.reduceLT, aPost, resK, tup, tyf, e0, ett]
        refine hN6 [(0, v), (2, .bool false), (3, u), (4, .int .i64 0), (6, .bool true)] _ _ ?_ (by simp (maxSteps := 2000000) only [↓aw_region, ↓aw_skip, ↓aw_seq, ↓aw_block, ↓aw_exit, ↓aw_ret, ↓sops_nil, ↓sops_go, ↓dops_nil, ↓dopsX_nil, ↓dopsR_nil, ↓vdn, vup, extr_20, extr_21, extr_30, extr_31, extr_32, List.map_cons, List.map_nil, cond_true, cond_false, aop, aThen, aBlock, argEnv, ev, sput, sputO, binK, binI, unK, builtinK, pickK, Nat.reduceBEq, Nat.reduceAdd, Int.reduceBEq, Int.reduceBNe, Int.reduceLT, aPost, resK, tup, tyf])
        clear hN6
        try clear N6
        refine aws_cut fun N7 hN7 => ?_
        simp (maxSteps := 2000000) only [s17, ↓aw_region, ↓aw_skip, ↓aw_seq, ↓aw_block, ↓aw_exit, ↓aw_ret, ↓sops_nil, ↓sops_go, ↓dops_nil, ↓dopsX_nil, ↓dopsR_nil, ↓vdn, vup, extr_20, extr_21, extr_30, extr_31, extr_32, List.map_cons, List.map_nil, cond_true, cond_false, aop, aThen, aBlock, argEnv, ev, sput, sputO, binK, binI, unK, builtinK, pickK, Nat.reduceBEq, Nat.reduceAdd, Int.reduceBEq, Int.reduceBNe, Int.reduceLT, aPost, resK, tup, tyf, n00]
        refine hN7 [(0, v), (2, .bool false), (3, u), (4, .int .i64 0), (6, .bool true)] _ _ ?_ (by simp (maxSteps := 2000000) only [↓aw_region, ↓aw_skip, ↓aw_seq, ↓aw_block, ↓aw_exit, ↓aw_ret, ↓sops_nil, ↓sops_go, ↓dops_nil, ↓dopsX_nil, ↓dopsR_nil, ↓vdn, vup, extr_20, extr_21, extr_30, extr_31, extr_32, List.map_cons, List.map_nil, cond_true, cond_false, aop, aThen, aBlock, argEnv, ev, sput, sputO, binK, binI, unK, builtinK, pickK, Nat.reduceBEq, Nat.reduceAdd, Int.reduceBEq, Int.reduceBNe, Int.reduceLT, aPost, resK, tup, tyf])
        clear hN7
        try clear N7
        have htx : ∀ x ∈ ts, -9223372036854775808 ≤ x ∧ x < 9223372036854775808 := fun x hm => by
          obtain ⟨i, hi, rfl⟩ := List.getElem_of_mem hm
          have h1 := (trn_sm httr).2 i hi
          rw [List.getD, List.getElem?_eq_getElem hi, Option.getD_some] at h1
          omega
        refine aws_cut fun N8 hN8 => ?_
        simp (maxSteps := 2000000) only [s17, ↓aw_region, ↓aw_skip, ↓aw_seq, ↓aw_block, ↓aw_exit, ↓aw_ret, ↓sops_nil, ↓sops_go, ↓dops_nil, ↓dopsX_nil, ↓dopsR_nil, ↓vdn, vup, extr_20, extr_21, extr_30, extr_31, extr_32, List.map_cons, List.map_nil, cond_true, cond_false, aop, aThen, aBlock, argEnv, ev, sput, sputO, binK, binI, unK, builtinK, pickK, Nat.reduceBEq, Nat.reduceAdd, Int.reduceBEq, Int.reduceBNe, Int.reduceLT, aPost, resK, tup, tyf, callK, List.nil_append, List.append_nil, List.toList_toArray, List.cons_append]
        refine (scores_call hts (by omega) htx).mono ?_
        rintro r2 h2 ⟨hE2, hr2⟩
        rw [if_pos httr] at hr2
        obtain ⟨w, rfl, hw⟩ := hr2
        have hsx : iL (rising (scL ts)) = xs := by
          have e : scL ts = nl xs := by
            apply List.ext_getElem (by simp [scL, nl, htl])
            intro i g1 g2
            have hi : i < ts.length := by simpa [scL] using g1
            have hi2 : i < xs.length := by omega
            have := htsc i hi2
            rw [List.getD, List.getD, List.getElem?_eq_getElem hi, List.getElem?_eq_getElem hi2, Option.getD_some, Option.getD_some] at this
            simp [scL, nl, ← this]
          rw [e, rising_eq (srt_nl hSx.2.2.1) (.refl _), nl, iL, List.map_map]
          refine (List.map_congr_left fun x hx => ?_).trans (List.map_id xs)
          have := hSx.2.2.2 x hx
          show ((x.toNat : Nat) : Int) = x
          omega
        rw [hsx] at hw
        have hv2 := IntSl_ext hv1 hE2
        simp (maxSteps := 2000000) only [s17, ↓aw_region, ↓aw_skip, ↓aw_seq, ↓aw_block, ↓aw_exit, ↓aw_ret, ↓sops_nil, ↓sops_go, ↓dops_nil, ↓dopsX_nil, ↓dopsR_nil, ↓vdn, vup, extr_20, extr_21, extr_30, extr_31, extr_32, List.map_cons, List.map_nil, cond_true, cond_false, aop, aThen, aBlock, argEnv, ev, sput, sputO, binK, binI, unK, builtinK, pickK, Nat.reduceBEq, Nat.reduceAdd, Int.reduceBEq, Int.reduceBNe, Int.reduceLT, aPost, resK, tup, tyf]
        refine hN8 [(0, v), (2, .bool false), (3, u), (4, .int .i64 0), (6, .bool true), (9, w), (10, .int .i64 0)] _ _ ?_ (by simp (maxSteps := 2000000) only [↓aw_region, ↓aw_skip, ↓aw_seq, ↓aw_block, ↓aw_exit, ↓aw_ret, ↓sops_nil, ↓sops_go, ↓dops_nil, ↓dopsX_nil, ↓dopsR_nil, ↓vdn, vup, extr_20, extr_21, extr_30, extr_31, extr_32, List.map_cons, List.map_nil, cond_true, cond_false, aop, aThen, aBlock, argEnv, ev, sput, sputO, binK, binI, unK, builtinK, pickK, Nat.reduceBEq, Nat.reduceAdd, Int.reduceBEq, Int.reduceBNe, Int.reduceLT, aPost, resK, tup, tyf])
        clear hN8
        try clear N8
        refine aws_cut fun N9 hN9 => ?_
        simp (maxSteps := 2000000) only [s17, ↓aw_region, ↓aw_skip, ↓aw_seq, ↓aw_block, ↓aw_exit, ↓aw_ret, ↓sops_nil, ↓sops_go, ↓dops_nil, ↓dopsX_nil, ↓dopsR_nil, ↓vdn, vup, extr_20, extr_21, extr_30, extr_31, extr_32, List.map_cons, List.map_nil, cond_true, cond_false, aop, aThen, aBlock, argEnv, ev, sput, sputO, binK, binI, unK, builtinK, pickK, Nat.reduceBEq, Nat.reduceAdd, Int.reduceBEq, Int.reduceBNe, Int.reduceLT, aPost, resK, tup, tyf, callK, List.nil_append, List.append_nil, List.toList_toArray, List.cons_append, e0]
        refine (equal_call hw.int hv2 hl hl).mono ?_
        rintro _ h2 ⟨rfl, rfl⟩
        have hd : decide (xs = xs) = true := decide_eq_true rfl
        simp (maxSteps := 2000000) only [s17, ↓aw_region, ↓aw_skip, ↓aw_seq, ↓aw_block, ↓aw_exit, ↓aw_ret, ↓sops_nil, ↓sops_go, ↓dops_nil, ↓dopsX_nil, ↓dopsR_nil, ↓vdn, vup, extr_20, extr_21, extr_30, extr_31, extr_32, List.map_cons, List.map_nil, cond_true, cond_false, aop, aThen, aBlock, argEnv, ev, sput, sputO, binK, binI, unK, builtinK, pickK, Nat.reduceBEq, Nat.reduceAdd, Int.reduceBEq, Int.reduceBNe, Int.reduceLT, aPost, resK, tup, tyf, callK, List.nil_append, List.append_nil, List.toList_toArray, List.cons_append, hd]
        refine awk fun g _ => ?_
        refine hN9 [(0, v), (2, .bool true), (3, u), (4, .int .i64 0), (6, .bool true), (9, w), (10, .int .i64 0)] _ _ ?_ (by simp (maxSteps := 2000000) only [↓aw_region, ↓aw_skip, ↓aw_seq, ↓aw_block, ↓aw_exit, ↓aw_ret, ↓sops_nil, ↓sops_go, ↓dops_nil, ↓dopsX_nil, ↓dopsR_nil, ↓vdn, vup, extr_20, extr_21, extr_30, extr_31, extr_32, List.map_cons, List.map_nil, cond_true, cond_false, aop, aThen, aBlock, argEnv, ev, sput, sputO, binK, binI, unK, builtinK, pickK, Nat.reduceBEq, Nat.reduceAdd, Int.reduceBEq, Int.reduceBNe, Int.reduceLT, aPost, resK, tup, tyf])
        clear hN9
        try clear N9
        refine aw_aws ?_
        simp (maxSteps := 2000000) only [s17, ↓aw_region, ↓aw_skip, ↓aw_seq, ↓aw_block, ↓aw_exit, ↓aw_ret, ↓sops_nil, ↓sops_go, ↓dops_nil, ↓dopsX_nil, ↓dopsR_nil, ↓vdn, vup, extr_20, extr_21, extr_30, extr_31, extr_32, List.map_cons, List.map_nil, cond_true, cond_false, aop, aThen, aBlock, argEnv, ev, sput, sputO, binK, binI, unK, builtinK, pickK, Nat.reduceBEq, Nat.reduceAdd, Int.reduceBEq, Int.reduceBNe, Int.reduceLT, aPost, resK, tup, tyf]
      · rw [hL]
        have eff : ((false : Bool) != false) = false := rfl
        refine aws_cut fun N10 hN10 => ?_
        simp (maxSteps := 2000000) only [s17, ↓aw_region, ↓aw_skip, ↓aw_seq, ↓aw_block, ↓aw_exit, ↓aw_ret, ↓sops_nil, ↓sops_go, ↓dops_nil, ↓dopsX_nil, ↓dopsR_nil, ↓vdn, vup, extr_20, extr_21, extr_30, extr_31, extr_32, List.map_cons, List.map_nil, cond_true, cond_false, aop, aThen, aBlock, argEnv, ev, sput, sputO, binK, binI, unK, builtinK, pickK, Nat.reduceBEq, Nat.reduceAdd, Int.reduceBEq, Int.reduceBNe, Int.reduceLT, aPost, resK, tup, tyf, e40, eff]
        refine hN10 [(0, v), (2, .bool false), (3, u), (4, .int .i64 4), (6, .bool false)] _ _ ?_ (by simp (maxSteps := 2000000) only [↓aw_region, ↓aw_skip, ↓aw_seq, ↓aw_block, ↓aw_exit, ↓aw_ret, ↓sops_nil, ↓sops_go, ↓dops_nil, ↓dopsX_nil, ↓dopsR_nil, ↓vdn, vup, extr_20, extr_21, extr_30, extr_31, extr_32, List.map_cons, List.map_nil, cond_true, cond_false, aop, aThen, aBlock, argEnv, ev, sput, sputO, binK, binI, unK, builtinK, pickK, Nat.reduceBEq, Nat.reduceAdd, Int.reduceBEq, Int.reduceBNe, Int.reduceLT, aPost, resK, tup, tyf])
        clear hN10
        try clear N10
        refine aws_cut fun N11 hN11 => ?_
        simp (maxSteps := 2000000) only [s17, ↓aw_region, ↓aw_skip, ↓aw_seq, ↓aw_block, ↓aw_exit, ↓aw_ret, ↓sops_nil, ↓sops_go, ↓dops_nil, ↓dopsX_nil, ↓dopsR_nil, ↓vdn, vup, extr_20, extr_21, extr_30, extr_31, extr_32, List.map_cons, List.map_nil, cond_true, cond_false, aop, aThen, aBlock, argEnv, ev, sput, sputO, binK, binI, unK, builtinK, pickK, Nat.reduceBEq, Nat.reduceAdd, Int.reduceBEq, Int.reduceBNe, Int.reduceLT, aPost, resK, tup, tyf, callK, List.nil_append, List.append_nil, List.toList_toArray, List.cons_append, n40, e44]
        refine awk fun g _ => ?_
        simp (maxSteps := 2000000) only [s17, ↓aw_region, ↓aw_skip, ↓aw_seq, ↓aw_block, ↓aw_exit, ↓aw_ret, ↓sops_nil, ↓sops_go, ↓dops_nil, ↓dopsX_nil, ↓dopsR_nil, ↓vdn, vup, extr_20, extr_21, extr_30, extr_31, extr_32, List.map_cons, List.map_nil, cond_true, cond_false, aop, aThen, aBlock, argEnv, ev, sput, sputO, binK, binI, unK, builtinK, pickK, Nat.reduceBEq, Nat.reduceAdd, Int.reduceBEq, Int.reduceBNe, Int.reduceLT, aPost, resK, tup, tyf]
    clear hY
    cases ok with
    | false =>
      rw [Bool.false_and] at hlan
      rw [hlan] at next
      simp (maxSteps := 2000000) only [s17, ↓aw_region, ↓aw_skip, ↓aw_seq, ↓aw_block, ↓aw_exit, ↓aw_ret, ↓sops_nil, ↓sops_go, ↓dops_nil, ↓dopsX_nil, ↓dopsR_nil, ↓vdn, vup, extr_20, extr_21, extr_30, extr_31, extr_32, List.map_cons, List.map_nil, cond_true, cond_false, aop, aThen, aBlock, argEnv, ev, sput, sputO, binK, binI, unK, builtinK, pickK, Nat.reduceBEq, Nat.reduceAdd, Int.reduceBEq, Int.reduceBNe, Int.reduceLT, aPost, resK, tup, tyf]
      exact next _ (by simp (maxSteps := 2000000) only [↓aw_region, ↓aw_skip, ↓aw_seq, ↓aw_block, ↓aw_exit, ↓aw_ret, ↓sops_nil, ↓sops_go, ↓dops_nil, ↓dopsX_nil, ↓dopsR_nil, ↓vdn, vup, extr_20, extr_21, extr_30, extr_31, extr_32, List.map_cons, List.map_nil, cond_true, cond_false, aop, aThen, aBlock, argEnv, ev, sput, sputO, binK, binI, unK, builtinK, pickK, Nat.reduceBEq, Nat.reduceAdd, Int.reduceBEq, Int.reduceBNe, Int.reduceLT, aPost, resK, tup, tyf])
    | true =>
      rw [Bool.true_and] at hlan
      simp (maxSteps := 2000000) only [s17, ↓aw_region, ↓aw_skip, ↓aw_seq, ↓aw_block, ↓aw_exit, ↓aw_ret, ↓sops_nil, ↓sops_go, ↓dops_nil, ↓dopsX_nil, ↓dopsR_nil, ↓vdn, vup, extr_20, extr_21, extr_30, extr_31, extr_32, List.map_cons, List.map_nil, cond_true, cond_false, aop, aThen, aBlock, argEnv, ev, sput, sputO, binK, binI, unK, builtinK, pickK, Nat.reduceBEq, Nat.reduceAdd, Int.reduceBEq, Int.reduceBNe, Int.reduceLT, aPost, resK, tup, tyf, hm1, hv1.len, e1, hm2, hq, ← hlan]
      exact next _ (by simp (maxSteps := 2000000) only [↓aw_region, ↓aw_skip, ↓aw_seq, ↓aw_block, ↓aw_exit, ↓aw_ret, ↓sops_nil, ↓sops_go, ↓dops_nil, ↓dopsX_nil, ↓dopsR_nil, ↓vdn, vup, extr_20, extr_21, extr_30, extr_31, extr_32, List.map_cons, List.map_nil, cond_true, cond_false, aop, aThen, aBlock, argEnv, ev, sput, sputO, binK, binI, unK, builtinK, pickK, Nat.reduceBEq, Nat.reduceAdd, Int.reduceBEq, Int.reduceBNe, Int.reduceLT, aPost, resK, tup, tyf])
end Go.Proofs.Tryd.Am
