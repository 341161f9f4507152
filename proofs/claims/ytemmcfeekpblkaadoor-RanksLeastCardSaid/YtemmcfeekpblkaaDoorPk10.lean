/-
  ranks: Pack.
  ranks: the reference's packings.
  ranks: the law RanksLeast.
-/
import Derived.Test.YtemmcfeekpblkaaDoorPk9
import Derived.Test.YtemmcfeekpblkaaDoorPk8
import Derived.Test.YtemmcfeekpblkaaDoorPk6
set_option linter.all false
namespace Go.Proofs.Tryd.Am
open Go.Am
set_option maxRecDepth 100000
set_option maxHeartbeats 1000000

theorem cyc_dist {xs : List Int} (h : trn xs = true) {i : Nat} (hi : i < (cA xs xs.length).length) : Pck.Dist ((cA xs xs.length).getD i Go.Am.t0) := by
  have hm : (cA xs xs.length).getD i Go.Am.t0 ∈ dA xs xs.length := by
    rw [dA_all h, List.getD, List.getElem?_eq_getElem hi]; exact List.getElem_mem hi
  generalize (cA xs xs.length).getD i Go.Am.t0 = p at hm
  obtain ⟨a, ha, hm⟩ := List.mem_flatMap.1 hm
  obtain ⟨x, hx, hm⟩ := List.mem_flatMap.1 hm
  obtain ⟨c, hc, hm⟩ := List.mem_flatMap.1 hm
  have hx' := List.mem_range.1 hx
  split at hm
  · rename_i hh
    obtain ⟨h1, h2, h3, h4, h5⟩ := hh
    have hxc : x ≠ c := fun e => by
      subst e
      have := (trn_clr h).2 x hx'
      rw [this] at h4; cases h4
    rw [List.mem_singleton.1 hm]
    exact ⟨by simp only; omega, by simp only; omega, by simp only; omega⟩
  · cases hm
theorem s31_callW [Tabs Tryd.prog] {args : List Value} {h : Heap} {Q : Value → Heap → Prop} (hsz : args.length ≤ 17) (hk : AWS Tryd.prog 17 s31 (aPost Tryd.prog [.tmp 2, .tmp 3] Q) (argEnv 0 args) h) : ACall Tryd.prog 31 args h Q :=
  acall_w Tryd.func31 rfl (enters_of Tryd.func31 (by kernel_rfl) rfl) rfl rfl (by decide) s31_strip s31_ok hsz hk
theorem set_last (g : Heap) (B C : Blk) : (g ++ [B]).set g.length C = g ++ [C] := by
  apply List.ext_getElem?
  intro i
  by_cases hi : i = g.length
  · subst hi; simp
  · rw [List.getElem?_set_ne (Ne.symm hi)]
    by_cases h2 : i < g.length
    · rw [List.getElem?_append_left h2, List.getElem?_append_left h2]
    · rw [List.getElem?_eq_none (by simp; omega), List.getElem?_eq_none (by simp; omega)]
theorem pack_call [BitTab prog 1] {h : Heap} {v : Value} {xs : List Int} (hv : IntSl h v xs) (hl : xs.length < 9223372036854775808) (hx : ∀ x ∈ xs, -9223372036854775808 ≤ x ∧ x < 9223372036854775808) :
    ACall prog 31 [v] h fun r h' => Ext (fun _ => False) h h' ∧ if trn xs = true then ∃ w, r = .tuple #[w, .int .i64 0] ∧ TripSl h' w (Pck.go Pck.okT (cA xs xs.length) [] []) else r = .tuple #[.slice none 0 0, .int .i64 2] := by
  refine s31_callW (by simp) ?_
  simp only [s31]
  refine aws_cut fun N hN => ?_
  simp (maxSteps := 2000000) only [s31, ↓aw_region, ↓aw_skip, ↓aw_seq, ↓aw_block, ↓aw_exit, ↓aw_ret, ↓sops_nil, ↓sops_go, ↓dops_nil, ↓dopsX_nil, ↓dopsR_nil, ↓vdn, vup, extr_20, extr_21, extr_30, extr_31, extr_32, List.map_cons, List.map_nil, cond_true, cond_false, aop, aThen, aBlock, argEnv, ev, sput, sputO, binK, binI, unK, builtinK, pickK, Nat.reduceBEq, Nat.reduceAdd, Int.reduceBEq, Int.reduceBNe, Int.reduceLT, aPost, resK, tup, tyf]
  refine hN [(0, v), (2, .slice none 0 0), (3, .int .i64 0)] _ _ ?_ (by simp (maxSteps := 2000000) only [↓aw_region, ↓aw_skip, ↓aw_seq, ↓aw_block, ↓aw_exit, ↓aw_ret, ↓sops_nil, ↓sops_go, ↓dops_nil, ↓dopsX_nil, ↓dopsR_nil, ↓vdn, vup, extr_20, extr_21, extr_30, extr_31, extr_32, List.map_cons, List.map_nil, cond_true, cond_false, aop, aThen, aBlock, argEnv, ev, sput, sputO, binK, binI, unK, builtinK, pickK, Nat.reduceBEq, Nat.reduceAdd, Int.reduceBEq, Int.reduceBNe, Int.reduceLT, aPost, resK, tup, tyf])
  clear hN N
  refine aws_cut fun N hN => ?_
  simp (maxSteps := 2000000) only [s31, ↓aw_region, ↓aw_skip, ↓aw_seq, ↓aw_block, ↓aw_exit, ↓aw_ret, ↓sops_nil, ↓sops_go, ↓dops_nil, ↓dopsX_nil, ↓dopsR_nil, ↓vdn, vup, extr_20, extr_21, extr_30, extr_31, extr_32, List.map_cons, List.map_nil, cond_true, cond_false, aop, aThen, aBlock, argEnv, ev, sput, sputO, binK, binI, unK, builtinK, pickK, Nat.reduceBEq, Nat.reduceAdd, Int.reduceBEq, Int.reduceBNe, Int.reduceLT, aPost, resK, tup, tyf, callK, List.nil_append, List.append_nil, List.toList_toArray, List.cons_append]
  refine (valid_call hv hl hx).mono ?_
  rintro _ h ⟨rfl, rfl⟩
  cases ht : trn xs with
  | false =>
    simp (maxSteps := 2000000) only [s31, ↓aw_region, ↓aw_skip, ↓aw_seq, ↓aw_block, ↓aw_exit, ↓aw_ret, ↓sops_nil, ↓sops_go, ↓dops_nil, ↓dopsX_nil, ↓dopsR_nil, ↓vdn, vup, extr_20, extr_21, extr_30, extr_31, extr_32, List.map_cons, List.map_nil, cond_true, cond_false, aop, aThen, aBlock, argEnv, ev, sput, sputO, binK, binI, unK, builtinK, pickK, Nat.reduceBEq, Nat.reduceAdd, Int.reduceBEq, Int.reduceBNe, Int.reduceLT, aPost, resK, tup, tyf, ht, Bool.false_eq_true, if_false]
    exact Ext.refl _ _
  | true =>
    simp (maxSteps := 2000000) only [s31, ↓aw_region, ↓aw_skip, ↓aw_seq, ↓aw_block, ↓aw_exit, ↓aw_ret, ↓sops_nil, ↓sops_go, ↓dops_nil, ↓dopsX_nil, ↓dopsR_nil, ↓vdn, vup, extr_20, extr_21, extr_30, extr_31, extr_32, List.map_cons, List.map_nil, cond_true, cond_false, aop, aThen, aBlock, argEnv, ev, sput, sputO, binK, binI, unK, builtinK, pickK, Nat.reduceBEq, Nat.reduceAdd, Int.reduceBEq, Int.reduceBNe, Int.reduceLT, aPost, resK, tup, tyf, ht]
    refine hN [(0, v), (2, .slice none 0 0), (3, .int .i64 0)] _ _ ?_ (by simp (maxSteps := 2000000) only [↓aw_region, ↓aw_skip, ↓aw_seq, ↓aw_block, ↓aw_exit, ↓aw_ret, ↓sops_nil, ↓sops_go, ↓dops_nil, ↓dopsX_nil, ↓dopsR_nil, ↓vdn, vup, extr_20, extr_21, extr_30, extr_31, extr_32, List.map_cons, List.map_nil, cond_true, cond_false, aop, aThen, aBlock, argEnv, ev, sput, sputO, binK, binI, unK, builtinK, pickK, Nat.reduceBEq, Nat.reduceAdd, Int.reduceBEq, Int.reduceBNe, Int.reduceLT, aPost, resK, tup, tyf])
    clear hN N
    refine aws_cut fun N hN => ?_
    simp (maxSteps := 2000000) only [s31, ↓aw_region, ↓aw_skip, ↓aw_seq, ↓aw_block, ↓aw_exit, ↓aw_ret, ↓sops_nil, ↓sops_go, ↓dops_nil, ↓dopsX_nil, ↓dopsR_nil, ↓vdn, vup, extr_20, extr_21, extr_30, extr_31, extr_32, List.map_cons, List.map_nil, cond_true, cond_false, aop, aThen, aBlock, argEnv, ev, sput, sputO, binK, binI, unK, builtinK, pickK, Nat.reduceBEq, Nat.reduceAdd, Int.reduceBEq, Int.reduceBNe, Int.reduceLT, aPost, resK, tup, tyf, callK, List.nil_append, List.append_nil, List.toList_toArray, List.cons_append]
    refine (cycles_call hv ht).mono ?_
    rintro rc h1 ⟨ho, hE1⟩
    have hcl := cA_le ht (Nat.le_refl xs.length)
    have hds : ∀ i, i < (cA xs xs.length).length → Pck.Dist ((cA xs xs.length).getD i Go.Am.t0) := fun i hi => cyc_dist ht hi
    obtain ⟨D, hD⟩ : ∃ D, D = cA xs xs.length := ⟨_, rfl⟩
    rw [← hD] at ho hcl hds
    simp (maxSteps := 2000000) only [s31, ↓aw_region, ↓aw_skip, ↓aw_seq, ↓aw_block, ↓aw_exit, ↓aw_ret, ↓sops_nil, ↓sops_go, ↓dops_nil, ↓dopsX_nil, ↓dopsR_nil, ↓vdn, vup, extr_20, extr_21, extr_30, extr_31, extr_32, List.map_cons, List.map_nil, cond_true, cond_false, aop, aThen, aBlock, argEnv, ev, sput, sputO, binK, binI, unK, builtinK, pickK, Nat.reduceBEq, Nat.reduceAdd, Int.reduceBEq, Int.reduceBNe, Int.reduceLT, aPost, resK, tup, tyf, allocK, newPtr, zero_36, store1 (get_new _ _) shp_36 ho.one, set_last]
    refine hN [(0, v), (2, .slice none 0 0), (3, .int .i64 0), (4, ptP h1.length)] _ _ ?_ (by simp (maxSteps := 2000000) only [↓aw_region, ↓aw_skip, ↓aw_seq, ↓aw_block, ↓aw_exit, ↓aw_ret, ↓sops_nil, ↓sops_go, ↓dops_nil, ↓dopsX_nil, ↓dopsR_nil, ↓vdn, vup, extr_20, extr_21, extr_30, extr_31, extr_32, List.map_cons, List.map_nil, cond_true, cond_false, aop, aThen, aBlock, argEnv, ev, sput, sputO, binK, binI, unK, builtinK, pickK, Nat.reduceBEq, Nat.reduceAdd, Int.reduceBEq, Int.reduceBNe, Int.reduceLT, aPost, resK, tup, tyf])
    clear hN N
    refine aws_cut fun N hN => ?_
    simp (maxSteps := 2000000) only [s31, ↓aw_region, ↓aw_skip, ↓aw_seq, ↓aw_block, ↓aw_exit, ↓aw_ret, ↓sops_nil, ↓sops_go, ↓dops_nil, ↓dopsX_nil, ↓dopsR_nil, ↓vdn, vup, extr_20, extr_21, extr_30, extr_31, extr_32, List.map_cons, List.map_nil, cond_true, cond_false, aop, aThen, aBlock, argEnv, ev, sput, sputO, binK, binI, unK, builtinK, pickK, Nat.reduceBEq, Nat.reduceAdd, Int.reduceBEq, Int.reduceBNe, Int.reduceLT, aPost, resK, tup, tyf, allocK, newPtr, zero_36]
    refine hN [(0, v), (2, .slice none 0 0), (3, .int .i64 0), (4, ptP h1.length), (5, ptP (h1.length + 1)), (6, ptP (h1.length + 2))] _ _ ?_ (by simp (maxSteps := 2000000) only [↓aw_region, ↓aw_skip, ↓aw_seq, ↓aw_block, ↓aw_exit, ↓aw_ret, ↓sops_nil, ↓sops_go, ↓dops_nil, ↓dopsX_nil, ↓dopsR_nil, ↓vdn, vup, extr_20, extr_21, extr_30, extr_31, extr_32, List.map_cons, List.map_nil, cond_true, cond_false, aop, aThen, aBlock, argEnv, ev, sput, sputO, binK, binI, unK, builtinK, pickK, Nat.reduceBEq, Nat.reduceAdd, Int.reduceBEq, Int.reduceBNe, Int.reduceLT, aPost, resK, tup, tyf, List.length_append, List.length_cons, List.length_nil, Nat.zero_add])
    clear hN N
    refine aws_cut fun N hN => ?_
    simp (maxSteps := 2000000) only [s31, ↓aw_region, ↓aw_skip, ↓aw_seq, ↓aw_block, ↓aw_exit, ↓aw_ret, ↓sops_nil, ↓sops_go, ↓dops_nil, ↓dopsX_nil, ↓dopsR_nil, ↓vdn, vup, extr_20, extr_21, extr_30, extr_31, extr_32, List.map_cons, List.map_nil, cond_true, cond_false, aop, aThen, aBlock, argEnv, ev, sput, sputO, binK, binI, unK, builtinK, pickK, Nat.reduceBEq, Nat.reduceAdd, Int.reduceBEq, Int.reduceBNe, Int.reduceLT, aPost, resK, tup, tyf, allocK, newPtr, zero_63]
    refine hN [(0, v), (2, .slice none 0 0), (3, .int .i64 0), (4, ptP h1.length), (5, ptP (h1.length + 1)), (6, ptP (h1.length + 2)), (7, ptP (h1.length + 3))] _ _ ?_ (by simp (maxSteps := 2000000) only [↓aw_region, ↓aw_skip, ↓aw_seq, ↓aw_block, ↓aw_exit, ↓aw_ret, ↓sops_nil, ↓sops_go, ↓dops_nil, ↓dopsX_nil, ↓dopsR_nil, ↓vdn, vup, extr_20, extr_21, extr_30, extr_31, extr_32, List.map_cons, List.map_nil, cond_true, cond_false, aop, aThen, aBlock, argEnv, ev, sput, sputO, binK, binI, unK, builtinK, pickK, Nat.reduceBEq, Nat.reduceAdd, Int.reduceBEq, Int.reduceBNe, Int.reduceLT, aPost, resK, tup, tyf, List.length_append, List.length_cons, List.length_nil, Nat.zero_add])
    clear hN N
    obtain ⟨n, hn⟩ : ∃ n, n = h1.length := ⟨_, rfl⟩
    obtain ⟨g, hg⟩ : ∃ g, g = h1 ++ [Blk.cells [rc] 36 false] ++ [Blk.cells [.slice none 0 0] 36 false] ++ [Blk.cells [.slice none 0 0] 36 false] := ⟨_, rfl⟩
    have hgl : g.length = n + 3 := by rw [hg, hn]; simp
    have hst : ∀ {K : Heap → Prop}, storeK prog (g ++ [Blk.cells [.nilFunc] 63 false]) 63 (ptP (n + 3)) (pgV n) K = K (g ++ [Blk.cells [pgV n] 63 false]) := fun {K} => by
      rw [← set_last g (Blk.cells [.nilFunc] 63 false) (Blk.cells [pgV n] 63 false), hgl]
      have hgn : (g ++ [Blk.cells [Value.nilFunc] 63 false])[n + 3]? = some (.cells [.nilFunc] 63 false) := by rw [← hgl]; exact get_new _ _
      exact storeF hgn shp_63 K
    have hst' : ∀ {K : Heap → Prop}, storeK prog (g ++ [Blk.cells [.nilFunc] 63 false]) 63 (ptP (n + 3)) (.func (.func 65) #[] #[ptP (n + 2), ptP (n + 1), ptP n, ptP (n + 3)]) K = K (g ++ [Blk.cells [pgV n] 63 false]) := fun {K} => hst
    rw [← hg, ← hn]
    refine aws_cut fun N hN => ?_
    simp (maxSteps := 2000000) only [s31, ↓aw_region, ↓aw_skip, ↓aw_seq, ↓aw_block, ↓aw_exit, ↓aw_ret, ↓sops_nil, ↓sops_go, ↓dops_nil, ↓dopsX_nil, ↓dopsR_nil, ↓vdn, vup, extr_20, extr_21, extr_30, extr_31, extr_32, List.map_cons, List.map_nil, cond_true, cond_false, aop, aThen, aBlock, argEnv, ev, sput, sputO, binK, binI, unK, builtinK, pickK, Nat.reduceBEq, Nat.reduceAdd, Int.reduceBEq, Int.reduceBNe, Int.reduceLT, aPost, resK, tup, tyf, List.map_toArray, List.toList_toArray, hst']
    refine hN [(0, v), (2, .slice none 0 0), (3, .int .i64 0), (4, ptP n), (5, ptP (n + 1)), (6, ptP (n + 2)), (7, ptP (n + 3))] _ _ ?_ (by simp (maxSteps := 2000000) only [↓aw_region, ↓aw_skip, ↓aw_seq, ↓aw_block, ↓aw_exit, ↓aw_ret, ↓sops_nil, ↓sops_go, ↓dops_nil, ↓dopsX_nil, ↓dopsR_nil, ↓vdn, vup, extr_20, extr_21, extr_30, extr_31, extr_32, List.map_cons, List.map_nil, cond_true, cond_false, aop, aThen, aBlock, argEnv, ev, sput, sputO, binK, binI, unK, builtinK, pickK, Nat.reduceBEq, Nat.reduceAdd, Int.reduceBEq, Int.reduceBNe, Int.reduceLT, aPost, resK, tup, tyf])
    clear hN N hst hst'
    have g0 : (g ++ [Blk.cells [pgV n] 63 false])[n]? = some (.cells [rc] 36 false) := by rw [hg, hn]; simp
    have g1 : (g ++ [Blk.cells [pgV n] 63 false])[n + 1]? = some (.cells [.slice none 0 0] 36 false) := by rw [hg, hn]; simp
    have g2 : (g ++ [Blk.cells [pgV n] 63 false])[n + 2]? = some (.cells [.slice none 0 0] 36 false) := by rw [hg, hn]; simp
    have g3 : (g ++ [Blk.cells [pgV n] 63 false])[n + 3]? = some (.cells [pgV n] 63 false) := by rw [← hgl]; exact get_new _ _
    have hEx : Ext (fun _ => False) h1 (g ++ [Blk.cells [pgV n] 63 false]) := by
      rw [hg, List.append_assoc, List.append_assoc, List.append_assoc]; exact Ext.app _ _ _
    have hgl2 : (g ++ [Blk.cells [pgV n] 63 false]).length = n + 4 := by simp [hgl]
    clear hg
    generalize g ++ [Blk.cells [pgV n] 63 false] = h2 at g0 g1 g2 g3 hEx hgl2 ⊢
    have hps : PS h2 n h2 (.slice none 0 0) (.slice none 0 0) [] [] :=
      ⟨hgl2, Nat.le_refl _, fun _ _ _ _ => rfl, g1, g2, .inl ⟨rfl, rfl⟩, .inl ⟨rfl, rfl⟩, fun _ h => (by cases h), fun _ h => (by cases h), fun _ h => (by cases h)⟩
    refine aws_cut fun N hN => ?_
    have hpg := pgrow_call g0 g3 (ho.trip.ext hEx) (fun b hb => by rw [hn]; exact ho.lt hb) (by omega) hds _ 0 rfl (Nat.zero_le _) h2 _ _ [] [] hps (Nat.le_refl _) (by simp)
    rw [Int.natCast_zero] at hpg
    simp (maxSteps := 2000000) only [s31, ↓aw_region, ↓aw_skip, ↓aw_seq, ↓aw_block, ↓aw_exit, ↓aw_ret, ↓sops_nil, ↓sops_go, ↓dops_nil, ↓dopsX_nil, ↓dopsR_nil, ↓vdn, vup, extr_20, extr_21, extr_30, extr_31, extr_32, List.map_cons, List.map_nil, cond_true, cond_false, aop, aThen, aBlock, argEnv, ev, sput, sputO, binK, binI, unK, builtinK, pickK, Nat.reduceBEq, Nat.reduceAdd, Int.reduceBEq, Int.reduceBNe, Int.reduceLT, aPost, resK, tup, tyf, load1 g3 shp_63, pgV, callK, List.nil_append, List.append_nil, List.toList_toArray, List.cons_append]
    refine hpg.mono ?_
    rintro _ h3 ⟨nv', bv', s3, m3⟩
    refine hN [(2, .slice none 0 0), (3, .int .i64 0), (5, ptP (n + 1))] _ _ ?_ (by simp (maxSteps := 2000000) only [↓aw_region, ↓aw_skip, ↓aw_seq, ↓aw_block, ↓aw_exit, ↓aw_ret, ↓sops_nil, ↓sops_go, ↓dops_nil, ↓dopsX_nil, ↓dopsR_nil, ↓vdn, vup, extr_20, extr_21, extr_30, extr_31, extr_32, List.map_cons, List.map_nil, cond_true, cond_false, aop, aThen, aBlock, argEnv, ev, sput, sputO, binK, binI, unK, builtinK, pickK, Nat.reduceBEq, Nat.reduceAdd, Int.reduceBEq, Int.reduceBNe, Int.reduceLT, aPost, resK, tup, tyf])
    clear hN N
    refine aw_aws ?_
    simp (maxSteps := 2000000) only [s31, ↓aw_region, ↓aw_skip, ↓aw_seq, ↓aw_block, ↓aw_exit, ↓aw_ret, ↓sops_nil, ↓sops_go, ↓dops_nil, ↓dopsX_nil, ↓dopsR_nil, ↓vdn, vup, extr_20, extr_21, extr_30, extr_31, extr_32, List.map_cons, List.map_nil, cond_true, cond_false, aop, aThen, aBlock, argEnv, ev, sput, sputO, binK, binI, unK, builtinK, pickK, Nat.reduceBEq, Nat.reduceAdd, Int.reduceBEq, Int.reduceBNe, Int.reduceLT, aPost, resK, tup, tyf, load1 s3.b shp_36]
    rw [if_pos ht, ← hD]
    refine ⟨hE1.trans ⟨by have := hEx.1; have := s3.len; omega, fun i hi _ => ?_⟩, bv', rfl, ?_⟩
    · rw [s3.keep i (by omega) (by omega) (by omega)]; exact hEx.2 i hi id
    · have := s3.ob.trip
      rw [List.drop_zero] at this; exact this
end Go.Proofs.Tryd.Am

namespace Go.Proofs.Tryd.Am
open Go.Am
set_option maxRecDepth 100000
set_option maxHeartbeats 1000000

theorem eqT3 [Tabs prog] : EqT prog 40 3 := eqT_array und_40 und_3 esz_3 (by kernel_rfl)
theorem trip_eq (p q : T3) : (([p.1, p.2.1, p.2.2] : List Int) == [q.1, q.2.1, q.2.2]) = decide (p = q) := by
  rw [Bool.eq_iff_iff, beq_iff_eq, decide_eq_true_eq]
  constructor
  · intro h; simp at h; exact Prod.ext h.1 (Prod.ext h.2.1 h.2.2)
  · rintro rfl; rfl
theorem tBox (g : Heap) (p : T3) : ((g ++ [Blk.cells [.int .i64 0, .int .i64 0, .int .i64 0] 40 false]).set g.length (.cells [vint p.1, vint p.2.1, vint p.2.2] 40 false))[g.length]? = some (.cells [vint p.1, vint p.2.1, vint p.2.2] 40 false) ∧ Ext (fun _ => False) g ((g ++ [Blk.cells [.int .i64 0, .int .i64 0, .int .i64 0] 40 false]).set g.length (.cells [vint p.1, vint p.2.1, vint p.2.2] 40 false)) ∧
    ∀ {K : Heap → Prop}, storeK prog (g ++ [Blk.cells [.int .i64 0, .int .i64 0, .int .i64 0] 40 false]) 40 (.pointer (some ⟨g.length, 0, none⟩)) (tV p) K = K ((g ++ [Blk.cells [.int .i64 0, .int .i64 0, .int .i64 0] 40 false]).set g.length (.cells [vint p.1, vint p.2.1, vint p.2.2] 40 false)) :=
  ⟨get_set (by simp) _, ⟨by simp, fun j hj _ => by rw [List.getElem?_set_ne (by omega), List.getElem?_append_left hj]⟩, fun {K} => storeT (get_new _ _) rfl⟩
theorem dropT {D : List T3} {i : Nat} (hi : i < D.length) : D.drop i = D.getD i Go.Am.t0 :: D.drop (i + 1) := by
  rw [List.drop_eq_getElem_cons hi, List.getD, List.getElem?_eq_getElem hi]; rfl
theorem sub_no {x c : T3} {l r : List T3} (h : (x :: l).Sublist (c :: r)) (hne : ¬ c = x) : (x :: l).Sublist r := by
  cases h with
  | cons _ h => exact h
  | cons_cons _ h => exact absurd rfl hne

theorem packed_call [Tabs prog] {h : Heap} {v lv : Value} {xs : List Int} {ls : List T3} (hv : IntSl h v xs) (ht : trn xs = true) (hlv : TripSl h lv ls) (hls : Pck.Good Pck.okT (cA xs xs.length) ls) : APure prog 34 [v, lv] h (.bool true) := by
  have hq : EqT prog 40 3 := eqT3
  have hcl := cA_le ht (Nat.le_refl _)
  obtain ⟨hsub, hpw⟩ := hls
  have hll : ls.length ≤ 512 := Nat.le_trans hsub.length_le hcl
  refine ACall.forget (Low.bool _) ?_
  refine s34_call (by simp) ?_
  simp only [s34]
  refine aw_cut fun N hN => ?_
  simp (maxSteps := 2000000) only [s34, ↓aw_region, ↓aw_skip, ↓aw_seq, ↓aw_block, ↓aw_exit, ↓aw_ret, ↓sops_nil, ↓sops_go, ↓dops_nil, ↓dopsX_nil, ↓dopsR_nil, ↓vdn, vup, extr_20, extr_21, extr_30, extr_31, extr_32, List.map_cons, List.map_nil, cond_true, cond_false, aop, aThen, aBlock, argEnv, ev, sput, sputO, binK, binI, unK, builtinK, pickK, Nat.reduceBEq, Nat.reduceAdd, Int.reduceBEq, Int.reduceBNe, Int.reduceLT, aPost, resK, tup, tyf]
  refine hN _ _ ?_
  clear hN N
  refine aw_cut fun N hN => ?_
  simp (maxSteps := 2000000) only [s34, ↓aw_region, ↓aw_skip, ↓aw_seq, ↓aw_block, ↓aw_exit, ↓aw_ret, ↓sops_nil, ↓sops_go, ↓dops_nil, ↓dopsX_nil, ↓dopsR_nil, ↓vdn, vup, extr_20, extr_21, extr_30, extr_31, extr_32, List.map_cons, List.map_nil, cond_true, cond_false, aop, aThen, aBlock, argEnv, ev, sput, sputO, binK, binI, unK, builtinK, pickK, Nat.reduceBEq, Nat.reduceAdd, Int.reduceBEq, Int.reduceBNe, Int.reduceLT, aPost, resK, tup, tyf]
  refine hN _ _ ?_
  clear hN N
  refine aw_cut fun N hN => ?_
  simp (maxSteps := 2000000) only [s34, ↓aw_region, ↓aw_skip, ↓aw_seq, ↓aw_block, ↓aw_exit, ↓aw_ret, ↓sops_nil, ↓sops_go, ↓dops_nil, ↓dopsX_nil, ↓dopsR_nil, ↓vdn, vup, extr_20, extr_21, extr_30, extr_31, extr_32, List.map_cons, List.map_nil, cond_true, cond_false, aop, aThen, aBlock, argEnv, ev, sput, sputO, binK, binI, unK, builtinK, pickK, Nat.reduceBEq, Nat.reduceAdd, Int.reduceBEq, Int.reduceBNe, Int.reduceLT, aPost, resK, tup, tyf, callK, List.nil_append, List.append_nil, List.toList_toArray, List.cons_append]
  refine (rcycles_call hv ht).mono ?_
  rintro rc h1 ⟨ho, hE1⟩
  have hD := ho.trip
  generalize cA xs xs.length = D at hD hsub hcl
  simp (maxSteps := 2000000) only [s34, ↓aw_region, ↓aw_skip, ↓aw_seq, ↓aw_block, ↓aw_exit, ↓aw_ret, ↓sops_nil, ↓sops_go, ↓dops_nil, ↓dopsX_nil, ↓dopsR_nil, ↓vdn, vup, extr_20, extr_21, extr_30, extr_31, extr_32, List.map_cons, List.map_nil, cond_true, cond_false, aop, aThen, aBlock, argEnv, ev, sput, sputO, binK, binI, unK, builtinK, pickK, Nat.reduceBEq, Nat.reduceAdd, Int.reduceBEq, Int.reduceBNe, Int.reduceLT, aPost, resK, tup, tyf, hD.len, ↓aw_loop_eq]
  refine aws_hide fun Q hQ => ?_
  refine aw_loop (γ := Nat × Nat × Heap) (fun s => s.1 ≤ D.length ∧ s.2.1 ≤ ls.length ∧ Ext (fun _ => False) h1 s.2.2 ∧ (ls.drop s.2.1).Sublist (D.drop s.1))
    (fun s => ([(1, lv), (4, .bool false), (5, vint s.2.1), (13, rc), (14, vint D.length), (15, vint s.1)], s.2.2)) (fun s => D.length - s.1) (0, 0, h1) ⟨Nat.zero_le _, Nat.zero_le _, Ext.refl _ _, by simpa using hsub⟩ (by simp (maxSteps := 2000000) only [↓aw_region, ↓aw_skip, ↓aw_seq, ↓aw_block, ↓aw_exit, ↓aw_ret, ↓sops_nil, ↓sops_go, ↓dops_nil, ↓dopsX_nil, ↓dopsR_nil, ↓vdn, vup, extr_20, extr_21, extr_30, extr_31, extr_32, List.map_cons, List.map_nil, cond_true, cond_false, aop, aThen, aBlock, argEnv, ev, sput, sputO, binK, binI, unK, builtinK, pickK, Nat.reduceBEq, Nat.reduceAdd, Int.reduceBEq, Int.reduceBNe, Int.reduceLT, aPost, resK, tup, tyf, Int.natCast_zero]) rfl ?_
  rintro ⟨k, m, hk1⟩ ⟨hk, hm, hE, hsb⟩
  simp only at hk hm hE hsb
  refine aw_hide fun Q2 hQ2 => ?_
  by_cases hin : (k : Int) < D.length
  · have hk' : k < D.length := by omega
    have hD2 := hD.ext hE
    obtain ⟨p, hpe⟩ : ∃ p, p = D.getD k Go.Am.t0 := ⟨_, rfl⟩
    have hld : ∀ {K : Value → Prop}, loadK prog hk1 40 (elemP rc 3 k) K = K (tV p) := fun {K} => by rw [hpe]; exact hD2.load shp_40 hk' K
    obtain ⟨c1, hE2, hst⟩ := tBox hk1 p
    simp (maxSteps := 2000000) only [s34, ↓aw_region, ↓aw_skip, ↓aw_seq, ↓aw_block, ↓aw_exit, ↓aw_ret, ↓sops_nil, ↓sops_go, ↓dops_nil, ↓dopsX_nil, ↓dopsR_nil, ↓vdn, vup, extr_20, extr_21, extr_30, extr_31, extr_32, List.map_cons, List.map_nil, cond_true, cond_false, aop, aThen, aBlock, argEnv, ev, sput, sputO, binK, binI, unK, builtinK, pickK, Nat.reduceBEq, Nat.reduceAdd, Int.reduceBEq, Int.reduceBNe, Int.reduceLT, aPost, resK, tup, tyf, l34_0, hin, hD2.idx el_36 esz_40 hk', hld, allocK, newPtr, zero_40, hst]
    have hEh := hE.trans hE2
    have hl2 := hlv.ext (hE1.trans hEh)
    generalize (hk1 ++ [Blk.cells [.int .i64 0, .int .i64 0, .int .i64 0] 40 false]).set hk1.length (.cells [vint p.1, vint p.2.1, vint p.2.2] 40 false) = h2 at c1 hE2 hEh hl2 ⊢
    generalize hk1.length = bp at c1 ⊢
    rw [dropT hk', ← hpe] at hsb
    refine aw_drawX [] (by kernel_rfl) (by kernel_rfl) (by kernel_rfl) (by kernel_rfl) ?_
    by_cases hml : (m : Int) < ls.length
    · have hm' : m < ls.length := by omega
      obtain ⟨x, hxe⟩ : ∃ x, x = ls.getD m Go.Am.t0 := ⟨_, rfl⟩
      have hlx : ∀ {K : Value → Prop}, loadK prog h2 40 (elemP lv 3 m) K = K (tV x) := fun {K} => by rw [hxe]; exact hl2.load shp_40 hm' K
      rw [dropT hm', ← hxe] at hsb
      by_cases hpx : p = x
      · have hd : decide (p = x) = true := decide_eq_true hpx
        simp (maxSteps := 2000000) only [s34, ↓aw_region, ↓aw_skip, ↓aw_seq, ↓aw_block, ↓aw_exit, ↓aw_ret, ↓sops_nil, ↓sops_go, ↓dops_nil, ↓dopsX_nil, ↓dopsR_nil, ↓vdn, vup, extr_20, extr_21, extr_30, extr_31, extr_32, List.map_cons, List.map_nil, cond_true, cond_false, aop, aThen, aBlock, argEnv, ev, sput, sputO, binK, binI, unK, builtinK, pickK, Nat.reduceBEq, Nat.reduceAdd, Int.reduceBEq, Int.reduceBNe, Int.reduceLT, aPost, resK, tup, tyf, hl2.len, hml, loadT c1, hl2.idx el_36 esz_40 hm', hlx, tV, List.toList_toArray, intsOf, Option.map_some, List.length_cons, List.length_nil, Nat.zero_add, hq, trip_eq, hd, add1 (show m < 9223372036854775807 by omega), add1 (show k < 9223372036854775807 by omega)]
        refine hQ2 _ _ _ ⟨(k + 1, m + 1, h2), ⟨by simp only; omega, by simp only; omega, hEh, ?_⟩, by simp only; omega, by simp (maxSteps := 2000000) only [↓aw_region, ↓aw_skip, ↓aw_seq, ↓aw_block, ↓aw_exit, ↓aw_ret, ↓sops_nil, ↓sops_go, ↓dops_nil, ↓dopsX_nil, ↓dopsR_nil, ↓vdn, vup, extr_20, extr_21, extr_30, extr_31, extr_32, List.map_cons, List.map_nil, cond_true, cond_false, aop, aThen, aBlock, argEnv, ev, sput, sputO, binK, binI, unK, builtinK, pickK, Nat.reduceBEq, Nat.reduceAdd, Int.reduceBEq, Int.reduceBNe, Int.reduceLT, aPost, resK, tup, tyf], rfl⟩
        rw [hpx] at hsb
        exact List.cons_sublist_cons.1 hsb
      · have hd : decide (p = x) = false := decide_eq_false hpx
        simp (maxSteps := 2000000) only [s34, ↓aw_region, ↓aw_skip, ↓aw_seq, ↓aw_block, ↓aw_exit, ↓aw_ret, ↓sops_nil, ↓sops_go, ↓dops_nil, ↓dopsX_nil, ↓dopsR_nil, ↓vdn, vup, extr_20, extr_21, extr_30, extr_31, extr_32, List.map_cons, List.map_nil, cond_true, cond_false, aop, aThen, aBlock, argEnv, ev, sput, sputO, binK, binI, unK, builtinK, pickK, Nat.reduceBEq, Nat.reduceAdd, Int.reduceBEq, Int.reduceBNe, Int.reduceLT, aPost, resK, tup, tyf, hl2.len, hml, loadT c1, hl2.idx el_36 esz_40 hm', hlx, tV, List.toList_toArray, intsOf, Option.map_some, List.length_cons, List.length_nil, Nat.zero_add, hq, trip_eq, hd, add1 (show k < 9223372036854775807 by omega)]
        refine hQ2 _ _ _ ⟨(k + 1, m, h2), ⟨by simp only; omega, hm, hEh, ?_⟩, by simp only; omega, by simp (maxSteps := 2000000) only [↓aw_region, ↓aw_skip, ↓aw_seq, ↓aw_block, ↓aw_exit, ↓aw_ret, ↓sops_nil, ↓sops_go, ↓dops_nil, ↓dopsX_nil, ↓dopsR_nil, ↓vdn, vup, extr_20, extr_21, extr_30, extr_31, extr_32, List.map_cons, List.map_nil, cond_true, cond_false, aop, aThen, aBlock, argEnv, ev, sput, sputO, binK, binI, unK, builtinK, pickK, Nat.reduceBEq, Nat.reduceAdd, Int.reduceBEq, Int.reduceBNe, Int.reduceLT, aPost, resK, tup, tyf], rfl⟩
        have := sub_no hsb hpx
        simp only
        rw [dropT hm', ← hxe]; exact this
    · simp (maxSteps := 2000000) only [s34, ↓aw_region, ↓aw_skip, ↓aw_seq, ↓aw_block, ↓aw_exit, ↓aw_ret, ↓sops_nil, ↓sops_go, ↓dops_nil, ↓dopsX_nil, ↓dopsR_nil, ↓vdn, vup, extr_20, extr_21, extr_30, extr_31, extr_32, List.map_cons, List.map_nil, cond_true, cond_false, aop, aThen, aBlock, argEnv, ev, sput, sputO, binK, binI, unK, builtinK, pickK, Nat.reduceBEq, Nat.reduceAdd, Int.reduceBEq, Int.reduceBNe, Int.reduceLT, aPost, resK, tup, tyf, hl2.len, hml, add1 (show k < 9223372036854775807 by omega)]
      refine hQ2 _ _ _ ⟨(k + 1, m, h2), ⟨by simp only; omega, hm, hEh, ?_⟩, by simp only; omega, by simp (maxSteps := 2000000) only [↓aw_region, ↓aw_skip, ↓aw_seq, ↓aw_block, ↓aw_exit, ↓aw_ret, ↓sops_nil, ↓sops_go, ↓dops_nil, ↓dopsX_nil, ↓dopsR_nil, ↓vdn, vup, extr_20, extr_21, extr_30, extr_31, extr_32, List.map_cons, List.map_nil, cond_true, cond_false, aop, aThen, aBlock, argEnv, ev, sput, sputO, binK, binI, unK, builtinK, pickK, Nat.reduceBEq, Nat.reduceAdd, Int.reduceBEq, Int.reduceBNe, Int.reduceLT, aPost, resK, tup, tyf], rfl⟩
      simp only
      rw [List.drop_eq_nil_of_le (by omega)]; exact List.nil_sublist _
  · obtain rfl : k = D.length := by omega
    have hm2 : m = ls.length := by
      rw [List.drop_length] at hsb
      have := List.sublist_nil.1 hsb
      rw [List.drop_eq_nil_iff] at this
      omega
    subst hm2
    simp (maxSteps := 2000000) only [s34, ↓aw_region, ↓aw_skip, ↓aw_seq, ↓aw_block, ↓aw_exit, ↓aw_ret, ↓sops_nil, ↓sops_go, ↓dops_nil, ↓dopsX_nil, ↓dopsR_nil, ↓vdn, vup, extr_20, extr_21, extr_30, extr_31, extr_32, List.map_cons, List.map_nil, cond_true, cond_false, aop, aThen, aBlock, argEnv, ev, sput, sputO, binK, binI, unK, builtinK, pickK, Nat.reduceBEq, Nat.reduceAdd, Int.reduceBEq, Int.reduceBNe, Int.reduceLT, aPost, resK, tup, tyf, l34_0, Int.lt_irrefl]
    refine hQ2 _ _ _ (hQ _ _ _ ?_)
    simp (maxSteps := 2000000) only [s34, ↓aw_region, ↓aw_skip, ↓aw_seq, ↓aw_block, ↓aw_exit, ↓aw_ret, ↓sops_nil, ↓sops_go, ↓dops_nil, ↓dopsX_nil, ↓dopsR_nil, ↓vdn, vup, extr_20, extr_21, extr_30, extr_31, extr_32, List.map_cons, List.map_nil, cond_true, cond_false, aop, aThen, aBlock, argEnv, ev, sput, sputO, binK, binI, unK, builtinK, pickK, Nat.reduceBEq, Nat.reduceAdd, Int.reduceBEq, Int.reduceBNe, Int.reduceLT, aPost, resK, tup, tyf, if_true]
    refine hN _ _ ?_
    clear hN N hQ2 Q2 hQ Q
    have hEk := hE1.trans hE
    have hlk := hlv.ext hEk
    refine aw_cut fun N hN => ?_
    simp (maxSteps := 2000000) only [s34, ↓aw_region, ↓aw_skip, ↓aw_seq, ↓aw_block, ↓aw_exit, ↓aw_ret, ↓sops_nil, ↓sops_go, ↓dops_nil, ↓dopsX_nil, ↓dopsR_nil, ↓vdn, vup, extr_20, extr_21, extr_30, extr_31, extr_32, List.map_cons, List.map_nil, cond_true, cond_false, aop, aThen, aBlock, argEnv, ev, sput, sputO, binK, binI, unK, builtinK, pickK, Nat.reduceBEq, Nat.reduceAdd, Int.reduceBEq, Int.reduceBNe, Int.reduceLT, aPost, resK, tup, tyf, hlk.len, ↓aw_loop_eq]
    refine aws_hide fun Q hQ => ?_
    refine aw_loop (γ := Nat × Heap) (fun s => s.1 ≤ ls.length ∧ Ext (fun _ => False) hk1 s.2)
      (fun s => ([(1, lv), (4, .bool false), (5, vint ls.length), (34, lv), (35, vint ls.length), (36, vint s.1)], s.2)) (fun s => ls.length - s.1) (0, hk1) ⟨Nat.zero_le _, Ext.refl _ _⟩ (by simp (maxSteps := 2000000) only [↓aw_region, ↓aw_skip, ↓aw_seq, ↓aw_block, ↓aw_exit, ↓aw_ret, ↓sops_nil, ↓sops_go, ↓dops_nil, ↓dopsX_nil, ↓dopsR_nil, ↓vdn, vup, extr_20, extr_21, extr_30, extr_31, extr_32, List.map_cons, List.map_nil, cond_true, cond_false, aop, aThen, aBlock, argEnv, ev, sput, sputO, binK, binI, unK, builtinK, pickK, Nat.reduceBEq, Nat.reduceAdd, Int.reduceBEq, Int.reduceBNe, Int.reduceLT, aPost, resK, tup, tyf, Int.natCast_zero]) rfl ?_
    rintro ⟨k, h2⟩ ⟨hk2, hE2⟩
    simp only at hk2 hE2
    refine aw_hide fun Q2 hQ2 => ?_
    by_cases hin : (k : Int) < ls.length
    · have hk' : k < ls.length := by omega
      have hl2 := hlk.ext hE2
      obtain ⟨p, hpe⟩ : ∃ p, p = ls.getD k Go.Am.t0 := ⟨_, rfl⟩
      have hld : ∀ {K : Value → Prop}, loadK prog h2 40 (elemP lv 3 k) K = K (tV p) := fun {K} => by rw [hpe]; exact hl2.load shp_40 hk' K
      obtain ⟨c1, hE3, hst⟩ := tBox h2 p
      simp only [l34_2]
      refine aw_cut fun N1 hN1 => ?_
      simp (maxSteps := 2000000) only [s34, ↓aw_region, ↓aw_skip, ↓aw_seq, ↓aw_block, ↓aw_exit, ↓aw_ret, ↓sops_nil, ↓sops_go, ↓dops_nil, ↓dopsX_nil, ↓dopsR_nil, ↓vdn, vup, extr_20, extr_21, extr_30, extr_31, extr_32, List.map_cons, List.map_nil, cond_true, cond_false, aop, aThen, aBlock, argEnv, ev, sput, sputO, binK, binI, unK, builtinK, pickK, Nat.reduceBEq, Nat.reduceAdd, Int.reduceBEq, Int.reduceBNe, Int.reduceLT, aPost, resK, tup, tyf, hin]
      refine hN1 _ _ ?_
      clear hN1 N1
      refine aw_cut fun N1 hN1 => ?_
      simp (maxSteps := 2000000) only [s34, ↓aw_region, ↓aw_skip, ↓aw_seq, ↓aw_block, ↓aw_exit, ↓aw_ret, ↓sops_nil, ↓sops_go, ↓dops_nil, ↓dopsX_nil, ↓dopsR_nil, ↓vdn, vup, extr_20, extr_21, extr_30, extr_31, extr_32, List.map_cons, List.map_nil, cond_true, cond_false, aop, aThen, aBlock, argEnv, ev, sput, sputO, binK, binI, unK, builtinK, pickK, Nat.reduceBEq, Nat.reduceAdd, Int.reduceBEq, Int.reduceBNe, Int.reduceLT, aPost, resK, tup, tyf]
      refine hN1 _ _ ?_
      clear hN1 N1
      refine aw_cut fun N1 hN1 => ?_
      simp (maxSteps := 2000000) only [s34, ↓aw_region, ↓aw_skip, ↓aw_seq, ↓aw_block, ↓aw_exit, ↓aw_ret, ↓sops_nil, ↓sops_go, ↓dops_nil, ↓dopsX_nil, ↓dopsR_nil, ↓vdn, vup, extr_20, extr_21, extr_30, extr_31, extr_32, List.map_cons, List.map_nil, cond_true, cond_false, aop, aThen, aBlock, argEnv, ev, sput, sputO, binK, binI, unK, builtinK, pickK, Nat.reduceBEq, Nat.reduceAdd, Int.reduceBEq, Int.reduceBNe, Int.reduceLT, aPost, resK, tup, tyf, hl2.idx el_36 esz_40 hk', hld, allocK, newPtr, zero_40, hst]
      have hEh := hE2.trans hE3
      have hl3 := hl2.ext hE3
      generalize (h2 ++ [Blk.cells [.int .i64 0, .int .i64 0, .int .i64 0] 40 false]).set h2.length (.cells [vint p.1, vint p.2.1, vint p.2.2] 40 false) = h3 at c1 hE3 hEh hl3 ⊢
      generalize h2.length = bp at c1 ⊢
      simp (maxSteps := 2000000) only [s34, ↓aw_region, ↓aw_skip, ↓aw_seq, ↓aw_block, ↓aw_exit, ↓aw_ret, ↓sops_nil, ↓sops_go, ↓dops_nil, ↓dopsX_nil, ↓dopsR_nil, ↓vdn, vup, extr_20, extr_21, extr_30, extr_31, extr_32, List.map_cons, List.map_nil, cond_true, cond_false, aop, aThen, aBlock, argEnv, ev, sput, sputO, binK, binI, unK, builtinK, pickK, Nat.reduceBEq, Nat.reduceAdd, Int.reduceBEq, Int.reduceBNe, Int.reduceLT, aPost, resK, tup, tyf, Option.map_none, Option.map_some]
      refine hl3.pre el_36 esz_40 (m := k) (by omega) ?_
      intro tv htv
      have htl : (ls.take k).length = k := by simp; omega
      simp (maxSteps := 2000000) only [s34, ↓aw_region, ↓aw_skip, ↓aw_seq, ↓aw_block, ↓aw_exit, ↓aw_ret, ↓sops_nil, ↓sops_go, ↓dops_nil, ↓dopsX_nil, ↓dopsR_nil, ↓vdn, vup, extr_20, extr_21, extr_30, extr_31, extr_32, List.map_cons, List.map_nil, cond_true, cond_false, aop, aThen, aBlock, argEnv, ev, sput, sputO, binK, binI, unK, builtinK, pickK, Nat.reduceBEq, Nat.reduceAdd, Int.reduceBEq, Int.reduceBNe, Int.reduceLT, aPost, resK, tup, tyf, htv.len, htl, ↓aw_loop_eq]
      refine aws_hide fun Q3 hQ3 => ?_
      refine aw_loop (γ := Nat × Heap) (fun s => s.1 ≤ k ∧ Ext (fun _ => False) h3 s.2)
        (fun s => ([(1, lv), (4, .bool false), (5, vint ls.length), (9, .pointer (some ⟨bp, 0, none⟩)), (34, lv), (35, vint ls.length), (36, vint k), (43, tv), (44, vint k), (45, vint s.1)], s.2)) (fun s => k - s.1) (0, h3) ⟨Nat.zero_le _, Ext.refl _ _⟩ (by simp (maxSteps := 2000000) only [↓aw_region, ↓aw_skip, ↓aw_seq, ↓aw_block, ↓aw_exit, ↓aw_ret, ↓sops_nil, ↓sops_go, ↓dops_nil, ↓dopsX_nil, ↓dopsR_nil, ↓vdn, vup, extr_20, extr_21, extr_30, extr_31, extr_32, List.map_cons, List.map_nil, cond_true, cond_false, aop, aThen, aBlock, argEnv, ev, sput, sputO, binK, binI, unK, builtinK, pickK, Nat.reduceBEq, Nat.reduceAdd, Int.reduceBEq, Int.reduceBNe, Int.reduceLT, aPost, resK, tup, tyf, Int.natCast_zero]) rfl ?_
      rintro ⟨i, h4⟩ ⟨hi, hE4⟩
      simp only at hi hE4
      refine aw_hide fun Q4 hQ4 => ?_
      by_cases hik : (i : Int) < (k : Int)
      · have hi' : i < (ls.take k).length := by omega
        have ht4 := htv.ext hE4
        have c4 := (hE4.2 _ (get_lt c1) id).trans c1
        obtain ⟨q, hqe⟩ : ∃ q, q = (ls.take k).getD i Go.Am.t0 := ⟨_, rfl⟩
        have hld2 : ∀ {K : Value → Prop}, loadK prog h4 40 (elemP tv 3 i) K = K (tV q) := fun {K} => by rw [hqe]; exact ht4.load shp_40 hi' K
        obtain ⟨c5, hE5, hst5⟩ := tBox h4 q
        simp (maxSteps := 2000000) only [s34, ↓aw_region, ↓aw_skip, ↓aw_seq, ↓aw_block, ↓aw_exit, ↓aw_ret, ↓sops_nil, ↓sops_go, ↓dops_nil, ↓dopsX_nil, ↓dopsR_nil, ↓vdn, vup, extr_20, extr_21, extr_30, extr_31, extr_32, List.map_cons, List.map_nil, cond_true, cond_false, aop, aThen, aBlock, argEnv, ev, sput, sputO, binK, binI, unK, builtinK, pickK, Nat.reduceBEq, Nat.reduceAdd, Int.reduceBEq, Int.reduceBNe, Int.reduceLT, aPost, resK, tup, tyf, l34_1, hik, ht4.idx el_36 esz_40 hi', hld2, allocK, newPtr, zero_40, hst5]
        have c6 := (hE5.2 _ (get_lt c4) id).trans c4
        generalize (h4 ++ [Blk.cells [.int .i64 0, .int .i64 0, .int .i64 0] 40 false]).set h4.length (.cells [vint q.1, vint q.2.1, vint q.2.2] 40 false) = h5 at c5 c6 hE5 ⊢
        generalize h4.length = bq at c5 ⊢
        have hok : ¬ (1 : Int) < ((Pck.cm p q : Nat) : Int) := by
          have h1 : Pck.okT q p = true := by
            have := List.pairwise_iff_getElem.1 hpw i k (by omega) hk' (by omega)
            rw [hqe, hpe, List.getD, List.getD, List.getElem?_eq_getElem hi', List.getElem?_eq_getElem hk', List.getElem_take]; exact this
          rw [Pck.okT, decide_eq_true_eq, Pck.cm_comm] at h1
          omega
        simp (maxSteps := 2000000) only [s34, ↓aw_region, ↓aw_skip, ↓aw_seq, ↓aw_block, ↓aw_exit, ↓aw_ret, ↓sops_nil, ↓sops_go, ↓dops_nil, ↓dopsX_nil, ↓dopsR_nil, ↓vdn, vup, extr_20, extr_21, extr_30, extr_31, extr_32, List.map_cons, List.map_nil, cond_true, cond_false, aop, aThen, aBlock, argEnv, ev, sput, sputO, binK, binI, unK, builtinK, pickK, Nat.reduceBEq, Nat.reduceAdd, Int.reduceBEq, Int.reduceBNe, Int.reduceLT, aPost, resK, tup, tyf, loadT c6, loadT c5, callK, List.nil_append, List.append_nil, List.toList_toArray, List.cons_append]
        refine (rcommon_call p q).mono ?_
        rintro _ h5 ⟨rfl, rfl⟩
        simp (maxSteps := 2000000) only [s34, ↓aw_region, ↓aw_skip, ↓aw_seq, ↓aw_block, ↓aw_exit, ↓aw_ret, ↓sops_nil, ↓sops_go, ↓dops_nil, ↓dopsX_nil, ↓dopsR_nil, ↓vdn, vup, extr_20, extr_21, extr_30, extr_31, extr_32, List.map_cons, List.map_nil, cond_true, cond_false, aop, aThen, aBlock, argEnv, ev, sput, sputO, binK, binI, unK, builtinK, pickK, Nat.reduceBEq, Nat.reduceAdd, Int.reduceBEq, Int.reduceBNe, Int.reduceLT, aPost, resK, tup, tyf, gt_iff_lt, hok, add1 (show i < 9223372036854775807 by omega)]
        exact hQ4 _ _ _ ⟨(i + 1, h5), ⟨by simp only; omega, hE4.trans hE5⟩, by simp only; omega, by simp (maxSteps := 2000000) only [↓aw_region, ↓aw_skip, ↓aw_seq, ↓aw_block, ↓aw_exit, ↓aw_ret, ↓sops_nil, ↓sops_go, ↓dops_nil, ↓dopsX_nil, ↓dopsR_nil, ↓vdn, vup, extr_20, extr_21, extr_30, extr_31, extr_32, List.map_cons, List.map_nil, cond_true, cond_false, aop, aThen, aBlock, argEnv, ev, sput, sputO, binK, binI, unK, builtinK, pickK, Nat.reduceBEq, Nat.reduceAdd, Int.reduceBEq, Int.reduceBNe, Int.reduceLT, aPost, resK, tup, tyf], rfl⟩
      · obtain rfl : i = k := by omega
        simp (maxSteps := 2000000) only [s34, ↓aw_region, ↓aw_skip, ↓aw_seq, ↓aw_block, ↓aw_exit, ↓aw_ret, ↓sops_nil, ↓sops_go, ↓dops_nil, ↓dopsX_nil, ↓dopsR_nil, ↓vdn, vup, extr_20, extr_21, extr_30, extr_31, extr_32, List.map_cons, List.map_nil, cond_true, cond_false, aop, aThen, aBlock, argEnv, ev, sput, sputO, binK, binI, unK, builtinK, pickK, Nat.reduceBEq, Nat.reduceAdd, Int.reduceBEq, Int.reduceBNe, Int.reduceLT, aPost, resK, tup, tyf, l34_1, Int.lt_irrefl]
        refine hQ4 _ _ _ (hQ3 _ _ _ ?_)
        simp (maxSteps := 2000000) only [s34, ↓aw_region, ↓aw_skip, ↓aw_seq, ↓aw_block, ↓aw_exit, ↓aw_ret, ↓sops_nil, ↓sops_go, ↓dops_nil, ↓dopsX_nil, ↓dopsR_nil, ↓vdn, vup, extr_20, extr_21, extr_30, extr_31, extr_32, List.map_cons, List.map_nil, cond_true, cond_false, aop, aThen, aBlock, argEnv, ev, sput, sputO, binK, binI, unK, builtinK, pickK, Nat.reduceBEq, Nat.reduceAdd, Int.reduceBEq, Int.reduceBNe, Int.reduceLT, aPost, resK, tup, tyf, if_true]
        refine hN1 _ _ ?_
        simp (maxSteps := 2000000) only [s34, ↓aw_region, ↓aw_skip, ↓aw_seq, ↓aw_block, ↓aw_exit, ↓aw_ret, ↓sops_nil, ↓sops_go, ↓dops_nil, ↓dopsX_nil, ↓dopsR_nil, ↓vdn, vup, extr_20, extr_21, extr_30, extr_31, extr_32, List.map_cons, List.map_nil, cond_true, cond_false, aop, aThen, aBlock, argEnv, ev, sput, sputO, binK, binI, unK, builtinK, pickK, Nat.reduceBEq, Nat.reduceAdd, Int.reduceBEq, Int.reduceBNe, Int.reduceLT, aPost, resK, tup, tyf, add1 (show i < 9223372036854775807 by omega)]
        exact hQ2 _ _ _ ⟨(i + 1, h4), ⟨by simp only; omega, hEh.trans hE4⟩, by simp only; omega, by simp (maxSteps := 2000000) only [↓aw_region, ↓aw_skip, ↓aw_seq, ↓aw_block, ↓aw_exit, ↓aw_ret, ↓sops_nil, ↓sops_go, ↓dops_nil, ↓dopsX_nil, ↓dopsR_nil, ↓vdn, vup, extr_20, extr_21, extr_30, extr_31, extr_32, List.map_cons, List.map_nil, cond_true, cond_false, aop, aThen, aBlock, argEnv, ev, sput, sputO, binK, binI, unK, builtinK, pickK, Nat.reduceBEq, Nat.reduceAdd, Int.reduceBEq, Int.reduceBNe, Int.reduceLT, aPost, resK, tup, tyf], rfl⟩
    · obtain rfl : k = ls.length := by omega
      have he : (((ls.length : Nat) : Int) == ((ls.length : Nat) : Int)) = true := beq_self_eq_true _
      simp (maxSteps := 2000000) only [s34, ↓aw_region, ↓aw_skip, ↓aw_seq, ↓aw_block, ↓aw_exit, ↓aw_ret, ↓sops_nil, ↓sops_go, ↓dops_nil, ↓dopsX_nil, ↓dopsR_nil, ↓vdn, vup, extr_20, extr_21, extr_30, extr_31, extr_32, List.map_cons, List.map_nil, cond_true, cond_false, aop, aThen, aBlock, argEnv, ev, sput, sputO, binK, binI, unK, builtinK, pickK, Nat.reduceBEq, Nat.reduceAdd, Int.reduceBEq, Int.reduceBNe, Int.reduceLT, aPost, resK, tup, tyf, l34_2, Int.lt_irrefl]
      refine hQ2 _ _ _ (hQ _ _ _ ?_)
      simp (maxSteps := 2000000) only [s34, ↓aw_region, ↓aw_skip, ↓aw_seq, ↓aw_block, ↓aw_exit, ↓aw_ret, ↓sops_nil, ↓sops_go, ↓dops_nil, ↓dopsX_nil, ↓dopsR_nil, ↓vdn, vup, extr_20, extr_21, extr_30, extr_31, extr_32, List.map_cons, List.map_nil, cond_true, cond_false, aop, aThen, aBlock, argEnv, ev, sput, sputO, binK, binI, unK, builtinK, pickK, Nat.reduceBEq, Nat.reduceAdd, Int.reduceBEq, Int.reduceBNe, Int.reduceLT, aPost, resK, tup, tyf, if_true]
      refine hN _ _ ?_
      simp (maxSteps := 2000000) only [s34, ↓aw_region, ↓aw_skip, ↓aw_seq, ↓aw_block, ↓aw_exit, ↓aw_ret, ↓sops_nil, ↓sops_go, ↓dops_nil, ↓dopsX_nil, ↓dopsR_nil, ↓vdn, vup, extr_20, extr_21, extr_30, extr_31, extr_32, List.map_cons, List.map_nil, cond_true, cond_false, aop, aThen, aBlock, argEnv, ev, sput, sputO, binK, binI, unK, builtinK, pickK, Nat.reduceBEq, Nat.reduceAdd, Int.reduceBEq, Int.reduceBNe, Int.reduceLT, aPost, resK, tup, tyf, hlk.len, he]
      exact hEk.trans hE2
end Go.Proofs.Tryd.Am

namespace Go.Proofs.Tryd.Am
open Go.Am Rb
set_option maxRecDepth 100000
set_option maxHeartbeats 1000000

theorem s11_callW [Tabs Tryd.prog] {args : List Value} {h : Heap} {Q : Value → Heap → Prop} (hsz : args.length ≤ 190) (hk : AWS Tryd.prog 190 s11 (aPost Tryd.prog [.tmp 4] Q) (argEnv 0 args) h) : ACall Tryd.prog 11 args h Q :=
  acall_w Tryd.func11 rfl (enters_of Tryd.func11 (by kernel_rfl) rfl) rfl rfl (by decide) s11_strip s11_ok hsz hk
theorem trn_take_11 {xs : List Int} (h : trn xs = true) : xs.take 11 = xs :=
  List.take_of_length_le (by have := trn_len h; omega)
theorem isOrd_take_11 {n : Nat} (hn : n ≤ 8) (os : List Int) : isOrd n (os.take 11) = isOrd n os := by
  by_cases h : os.length ≤ 11
  · rw [List.take_of_length_le h]
  · rw [isOrd, isOrd, decide_eq_false (show ¬ (os.take 11).length = n by simp; omega), decide_eq_false (show ¬ os.length = n by omega), Bool.and_false, Bool.and_false]
theorem nl_map {l : List Int} (h : ∀ x ∈ l, 0 ≤ x) : (nl l).map Int.ofNat = l := by
  rw [nl, List.map_map]
  refine (List.map_congr_left fun x hx => ?_).trans (List.map_id l)
  exact Int.toNat_of_nonneg (h x hx)
theorem okPs_len {n : Nat} {ps : List (Int × Int)} (h : okPs n ps = true) : ps.length ≤ 28 := by
  rw [okPs, Bool.and_eq_true, decide_eq_true_eq] at h; exact h.2

theorem law_least [BitTab prog 1] {h : Heap} {v cv : Value} {xs os : List Int} (hv : IntSl h v xs) (hl : xs.length < 9223372036854775808) (hx : ∀ x ∈ xs, -9223372036854775808 ≤ x ∧ x < 9223372036854775808) (hc : IntSl h cv os) (hcl : os.length < 9223372036854775808)
    (hcx : ∀ x ∈ os, -9223372036854775808 ≤ x ∧ x < 9223372036854775808) : ACall prog 11 [v, cv] h fun r _ => r = .bool true := by
  have awk : ∀ {K : Value → Heap → Prop} {g : Heap}, (∀ g', Ext (fun _ => False) g g' → K (.bool true) g') → ACall prog 21 [] g K := fun {K g} hk => awake_call.mono fun v h' ⟨h1, h2⟩ => by rw [h1]; exact hk _ h2
  have rng11 : ∀ {ys : List Int}, (∀ x ∈ ys, -9223372036854775808 ≤ x ∧ x < 9223372036854775808) → ∀ x ∈ ys.take 11, -9223372036854775808 ≤ x ∧ x < 9223372036854775808 := fun h x hm => h x (List.take_subset _ _ hm)
  have len11 : ∀ {ys : List Int}, (ys.take 11).length < 9223372036854775808 := by intro ys; simp; omega
  have e22 : ((2 : Int) == 2) = true := rfl
  have n20 : ((2 : Int) != 0) = true := rfl
  have n00 : ((0 : Int) != 0) = false := rfl
  have e0 : ((0 : Int) == 0) = true := rfl
  refine s11_callW (by simp) ?_
  simp only [s11]
  refine aws_cut fun N1 hN1 => ?_
  simp (maxSteps := 2000000) only [s11, ↓aw_region, ↓aw_skip, ↓aw_seq, ↓aw_block, ↓aw_exit, ↓aw_ret, ↓sops_nil, ↓sops_go, ↓dops_nil, ↓dopsX_nil, ↓dopsR_nil, ↓vdn, vup, extr_20, extr_21, extr_30, extr_31, extr_32, List.map_cons, List.map_nil, cond_true, cond_false, aop, aThen, aBlock, argEnv, ev, sput, sputO, binK, binI, unK, builtinK, pickK, Nat.reduceBEq, Nat.reduceAdd, Int.reduceBEq, Int.reduceBNe, Int.reduceLT, aPost, resK, tup, tyf]
  refine hN1 [(0, v), (1, cv), (4, .bool false)] _ _ ?_ (by simp (maxSteps := 2000000) only [↓aw_region, ↓aw_skip, ↓aw_seq, ↓aw_block, ↓aw_exit, ↓aw_ret, ↓sops_nil, ↓sops_go, ↓dops_nil, ↓dopsX_nil, ↓dopsR_nil, ↓vdn, vup, extr_20, extr_21, extr_30, extr_31, extr_32, List.map_cons, List.map_nil, cond_true, cond_false, aop, aThen, aBlock, argEnv, ev, sput, sputO, binK, binI, unK, builtinK, pickK, Nat.reduceBEq, Nat.reduceAdd, Int.reduceBEq, Int.reduceBNe, Int.reduceLT, aPost, resK, tup, tyf])
  clear hN1
  try clear N1
  refine aws_cut fun N2 hN2 => ?_
  simp (maxSteps := 2000000) only [s11, ↓aw_region, ↓aw_skip, ↓aw_seq, ↓aw_block, ↓aw_exit, ↓aw_ret, ↓sops_nil, ↓sops_go, ↓dops_nil, ↓dopsX_nil, ↓dopsR_nil, ↓vdn, vup, extr_20, extr_21, extr_30, extr_31, extr_32, List.map_cons, List.map_nil, cond_true, cond_false, aop, aThen, aBlock, argEnv, ev, sput, sputO, binK, binI, unK, builtinK, pickK, Nat.reduceBEq, Nat.reduceAdd, Int.reduceBEq, Int.reduceBNe, Int.reduceLT, aPost, resK, tup, tyf, callK, List.nil_append, List.append_nil, List.toList_toArray, List.cons_append]
  refine (list_call hv hl).mono ?_
  rintro l1 _ ⟨hl1, g1, rfl⟩
  refine (order_call hl1 len11 (rng11 hx)).mono ?_
  rintro r1 h1 ⟨hE1, hr1⟩
  have hv1 := IntSl_ext (hv.grow g1) hE1
  have hc1 := IntSl_ext (hc.grow g1) hE1
  clear hl1 hE1
  cases ht : trn xs with
  | false =>
    rw [trn_take, ht, if_neg (by decide)] at hr1
    subst hr1
    simp (maxSteps := 2000000) only [s11, ↓aw_region, ↓aw_skip, ↓aw_seq, ↓aw_block, ↓aw_exit, ↓aw_ret, ↓sops_nil, ↓sops_go, ↓dops_nil, ↓dopsX_nil, ↓dopsR_nil, ↓vdn, vup, extr_20, extr_21, extr_30, extr_31, extr_32, List.map_cons, List.map_nil, cond_true, cond_false, aop, aThen, aBlock, argEnv, ev, sput, sputO, binK, binI, unK, builtinK, pickK, Nat.reduceBEq, Nat.reduceAdd, Int.reduceBEq, Int.reduceBNe, Int.reduceLT, aPost, resK, tup, tyf]
    refine hN2 [(0, v), (1, cv), (4, .bool false), (5, .slice none 0 0), (6, .int .i64 2)] _ _ ?_ (by simp (maxSteps := 2000000) only [↓aw_region, ↓aw_skip, ↓aw_seq, ↓aw_block, ↓aw_exit, ↓aw_ret, ↓sops_nil, ↓sops_go, ↓dops_nil, ↓dopsX_nil, ↓dopsR_nil, ↓vdn, vup, extr_20, extr_21, extr_30, extr_31, extr_32, List.map_cons, List.map_nil, cond_true, cond_false, aop, aThen, aBlock, argEnv, ev, sput, sputO, binK, binI, unK, builtinK, pickK, Nat.reduceBEq, Nat.reduceAdd, Int.reduceBEq, Int.reduceBNe, Int.reduceLT, aPost, resK, tup, tyf])
    clear hN2
    try clear N2
    refine aws_cut fun N3 hN3 => ?_
    simp (maxSteps := 2000000) only [s11, ↓aw_region, ↓aw_skip, ↓aw_seq, ↓aw_block, ↓aw_exit, ↓aw_ret, ↓sops_nil, ↓sops_go, ↓dops_nil, ↓dopsX_nil, ↓dopsR_nil, ↓vdn, vup, extr_20, extr_21, extr_30, extr_31, extr_32, List.map_cons, List.map_nil, cond_true, cond_false, aop, aThen, aBlock, argEnv, ev, sput, sputO, binK, binI, unK, builtinK, pickK, Nat.reduceBEq, Nat.reduceAdd, Int.reduceBEq, Int.reduceBNe, Int.reduceLT, aPost, resK, tup, tyf, callK, List.nil_append, List.append_nil, List.toList_toArray, List.cons_append]
    refine (list_call hv1 hl).mono ?_
    rintro l2 _ ⟨hl2, g2, rfl⟩
    refine (pack_call hl2 len11 (rng11 hx)).mono ?_
    rintro r2 h2 ⟨hE2, hr2⟩
    rw [trn_take, ht, if_neg (by decide)] at hr2
    subst hr2
    simp (maxSteps := 2000000) only [s11, ↓aw_region, ↓aw_skip, ↓aw_seq, ↓aw_block, ↓aw_exit, ↓aw_ret, ↓sops_nil, ↓sops_go, ↓dops_nil, ↓dopsX_nil, ↓dopsR_nil, ↓vdn, vup, extr_20, extr_21, extr_30, extr_31, extr_32, List.map_cons, List.map_nil, cond_true, cond_false, aop, aThen, aBlock, argEnv, ev, sput, sputO, binK, binI, unK, builtinK, pickK, Nat.reduceBEq, Nat.reduceAdd, Int.reduceBEq, Int.reduceBNe, Int.reduceLT, aPost, resK, tup, tyf]
    refine hN3 [(0, v), (1, cv), (4, .bool false), (5, .slice none 0 0), (6, .int .i64 2), (7, .slice none 0 0), (8, .int .i64 2)] _ _ ?_ (by simp (maxSteps := 2000000) only [↓aw_region, ↓aw_skip, ↓aw_seq, ↓aw_block, ↓aw_exit, ↓aw_ret, ↓sops_nil, ↓sops_go, ↓dops_nil, ↓dopsX_nil, ↓dopsR_nil, ↓vdn, vup, extr_20, extr_21, extr_30, extr_31, extr_32, List.map_cons, List.map_nil, cond_true, cond_false, aop, aThen, aBlock, argEnv, ev, sput, sputO, binK, binI, unK, builtinK, pickK, Nat.reduceBEq, Nat.reduceAdd, Int.reduceBEq, Int.reduceBNe, Int.reduceLT, aPost, resK, tup, tyf])
    clear hN3
    try clear N3
    refine aws_cut fun N4 hN4 => ?_
    simp (maxSteps := 2000000) only [s11, ↓aw_region, ↓aw_skip, ↓aw_seq, ↓aw_block, ↓aw_exit, ↓aw_ret, ↓sops_nil, ↓sops_go, ↓dops_nil, ↓dopsX_nil, ↓dopsR_nil, ↓vdn, vup, extr_20, extr_21, extr_30, extr_31, extr_32, List.map_cons, List.map_nil, cond_true, cond_false, aop, aThen, aBlock, argEnv, ev, sput, sputO, binK, binI, unK, builtinK, pickK, Nat.reduceBEq, Nat.reduceAdd, Int.reduceBEq, Int.reduceBNe, Int.reduceLT, aPost, resK, tup, tyf, callK, List.nil_append, List.append_nil, List.toList_toArray, List.cons_append, n20, e22]
    refine awk fun g _ => ?_
    simp (maxSteps := 2000000) only [s11, ↓aw_region, ↓aw_skip, ↓aw_seq, ↓aw_block, ↓aw_exit, ↓aw_ret, ↓sops_nil, ↓sops_go, ↓dops_nil, ↓dopsX_nil, ↓dopsR_nil, ↓vdn, vup, extr_20, extr_21, extr_30, extr_31, extr_32, List.map_cons, List.map_nil, cond_true, cond_false, aop, aThen, aBlock, argEnv, ev, sput, sputO, binK, binI, unK, builtinK, pickK, Nat.reduceBEq, Nat.reduceAdd, Int.reduceBEq, Int.reduceBNe, Int.reduceLT, aPost, resK, tup, tyf]
  | true =>
    have hxl := trn_len ht
    rw [trn_take_11 ht, ht, if_pos rfl] at hr1
    obtain ⟨u, rfl, hu⟩ := hr1
    simp (maxSteps := 2000000) only [s11, ↓aw_region, ↓aw_skip, ↓aw_seq, ↓aw_block, ↓aw_exit, ↓aw_ret, ↓sops_nil, ↓sops_go, ↓dops_nil, ↓dopsX_nil, ↓dopsR_nil, ↓vdn, vup, extr_20, extr_21, extr_30, extr_31, extr_32, List.map_cons, List.map_nil, cond_true, cond_false, aop, aThen, aBlock, argEnv, ev, sput, sputO, binK, binI, unK, builtinK, pickK, Nat.reduceBEq, Nat.reduceAdd, Int.reduceBEq, Int.reduceBNe, Int.reduceLT, aPost, resK, tup, tyf]
    refine hN2 [(0, v), (1, cv), (4, .bool false), (5, u), (6, .int .i64 0)] _ _ ?_ (by simp (maxSteps := 2000000) only [↓aw_region, ↓aw_skip, ↓aw_seq, ↓aw_block, ↓aw_exit, ↓aw_ret, ↓sops_nil, ↓sops_go, ↓dops_nil, ↓dopsX_nil, ↓dopsR_nil, ↓vdn, vup, extr_20, extr_21, extr_30, extr_31, extr_32, List.map_cons, List.map_nil, cond_true, cond_false, aop, aThen, aBlock, argEnv, ev, sput, sputO, binK, binI, unK, builtinK, pickK, Nat.reduceBEq, Nat.reduceAdd, Int.reduceBEq, Int.reduceBNe, Int.reduceLT, aPost, resK, tup, tyf])
    clear hN2
    try clear N2
    refine aws_cut fun N5 hN5 => ?_
    simp (maxSteps := 2000000) only [s11, ↓aw_region, ↓aw_skip, ↓aw_seq, ↓aw_block, ↓aw_exit, ↓aw_ret, ↓sops_nil, ↓sops_go, ↓dops_nil, ↓dopsX_nil, ↓dopsR_nil, ↓vdn, vup, extr_20, extr_21, extr_30, extr_31, extr_32, List.map_cons, List.map_nil, cond_true, cond_false, aop, aThen, aBlock, argEnv, ev, sput, sputO, binK, binI, unK, builtinK, pickK, Nat.reduceBEq, Nat.reduceAdd, Int.reduceBEq, Int.reduceBNe, Int.reduceLT, aPost, resK, tup, tyf, callK, List.nil_append, List.append_nil, List.toList_toArray, List.cons_append]
    refine (list_call hv1 hl).mono ?_
    rintro l2 _ ⟨hl2, g2, rfl⟩
    rw [trn_take_11 ht] at hl2
    refine (pack_call hl2 hl hx).mono ?_
    rintro r2 h2 ⟨hE2, hr2⟩
    rw [ht, if_pos rfl] at hr2
    obtain ⟨w, rfl, hw⟩ := hr2
    have hv2 := IntSl_ext (hv1.grow g2) hE2
    have hc2 := IntSl_ext (hc1.grow g2) hE2
    have hu2 := IntSl_ext (hu.int.grow g2) hE2
    clear hl2 hE2 hu
    simp (maxSteps := 2000000) only [s11, ↓aw_region, ↓aw_skip, ↓aw_seq, ↓aw_block, ↓aw_exit, ↓aw_ret, ↓sops_nil, ↓sops_go, ↓dops_nil, ↓dopsX_nil, ↓dopsR_nil, ↓vdn, vup, extr_20, extr_21, extr_30, extr_31, extr_32, List.map_cons, List.map_nil, cond_true, cond_false, aop, aThen, aBlock, argEnv, ev, sput, sputO, binK, binI, unK, builtinK, pickK, Nat.reduceBEq, Nat.reduceAdd, Int.reduceBEq, Int.reduceBNe, Int.reduceLT, aPost, resK, tup, tyf]
    refine hN5 [(0, v), (1, cv), (4, .bool false), (5, u), (6, .int .i64 0), (7, w), (8, .int .i64 0)] _ _ ?_ (by simp (maxSteps := 2000000) only [↓aw_region, ↓aw_skip, ↓aw_seq, ↓aw_block, ↓aw_exit, ↓aw_ret, ↓sops_nil, ↓sops_go, ↓dops_nil, ↓dopsX_nil, ↓dopsR_nil, ↓vdn, vup, extr_20, extr_21, extr_30, extr_31, extr_32, List.map_cons, List.map_nil, cond_true, cond_false, aop, aThen, aBlock, argEnv, ev, sput, sputO, binK, binI, unK, builtinK, pickK, Nat.reduceBEq, Nat.reduceAdd, Int.reduceBEq, Int.reduceBNe, Int.reduceLT, aPost, resK, tup, tyf])
    clear hN5
    try clear N5
    obtain ⟨ho, hbest⟩ := gr_best hxl.2
    have hnx : ∀ i a b : Nat, i + 1 < (iL (gr (cst xs) xs.length xs.length 0)).length → (iL (gr (cst xs) xs.length xs.length 0)).getD i 0 = (a : Int) → (iL (gr (cst xs) xs.length xs.length 0)).getD (i + 1) 0 = (b : Int) → bb xs a b = true := fun i a b hi ha hb => by
      rw [iL_len] at hi
      rw [iL_get] at ha hb
      have ha' : (gr (cst xs) xs.length xs.length 0)[i] = a := by
        rw [List.getD, List.getElem?_eq_getElem (by omega), Option.getD_some] at ha; omega
      have hb' : (gr (cst xs) xs.length xs.length 0)[i + 1] = b := by
        rw [List.getD, List.getElem?_eq_getElem (by omega), Option.getD_some] at hb; omega
      refine gr_next ht (p := (gr (cst xs) xs.length xs.length 0).take i) (m := (gr (cst xs) xs.length xs.length 0).drop (i + 1 + 1)) ?_
      conv => lhs; rw [← List.take_append_drop i (gr (cst xs) xs.length xs.length 0), List.drop_eq_getElem_cons (by omega : i < _), List.drop_eq_getElem_cons (by omega : i + 1 < _), ha', hb']
    have hlexA : ∀ os, isOrd xs.length os = true → agTo xs os os.length ≤ agTo xs (iL (gr (cst xs) xs.length xs.length 0)) (iL (gr (cst xs) xs.length xs.length 0)).length → lexL (nl (iL (gr (cst xs) xs.length xs.length 0))) (nl os) := fun os ho he => by
      rw [nl_iL]; exact gr_lex ht ho he
    have hple := pack_le ht ho
    have htl := turnL_len ht ho
    have htok := turnL_ok ht ho
    obtain ⟨hX1, hX2⟩ := turnL_none ht ho
    have hgood := Pck.go_good (ok := Pck.okT) (cA xs xs.length)
    generalize iL (gr (cst xs) xs.length xs.length 0) = B at *
    generalize hp : Pck.go Pck.okT (cA xs xs.length) [] [] = pk at *
    obtain ⟨o1, o2, o3⟩ := isOrd_iff.1 ho
    have hol : B.length < 9223372036854775808 := by omega
    have hor : ∀ x ∈ B, -9223372036854775808 ≤ x ∧ x < 9223372036854775808 := fun x hm => by have := o2 x hm; omega
    refine aws_cut fun N6 hN6 => ?_
    simp (maxSteps := 2000000) only [s11, ↓aw_region, ↓aw_skip, ↓aw_seq, ↓aw_block, ↓aw_exit, ↓aw_ret, ↓sops_nil, ↓sops_go, ↓dops_nil, ↓dopsX_nil, ↓dopsR_nil, ↓vdn, vup, extr_20, extr_21, extr_30, extr_31, extr_32, List.map_cons, List.map_nil, cond_true, cond_false, aop, aThen, aBlock, argEnv, ev, sput, sputO, binK, binI, unK, builtinK, pickK, Nat.reduceBEq, Nat.reduceAdd, Int.reduceBEq, Int.reduceBNe, Int.reduceLT, aPost, resK, tup, tyf, callK, List.nil_append, List.append_nil, List.toList_toArray, List.cons_append, n00]
    refine (rvalid_call hv2 hl hx).mono ?_
    rintro _ h2 ⟨rfl, rfl⟩
    simp (maxSteps := 2000000) only [s11, ↓aw_region, ↓aw_skip, ↓aw_seq, ↓aw_block, ↓aw_exit, ↓aw_ret, ↓sops_nil, ↓sops_go, ↓dops_nil, ↓dopsX_nil, ↓dopsR_nil, ↓vdn, vup, extr_20, extr_21, extr_30, extr_31, extr_32, List.map_cons, List.map_nil, cond_true, cond_false, aop, aThen, aBlock, argEnv, ev, sput, sputO, binK, binI, unK, builtinK, pickK, Nat.reduceBEq, Nat.reduceAdd, Int.reduceBEq, Int.reduceBNe, Int.reduceLT, aPost, resK, tup, tyf, ht, Bool.not_true]
    refine hN6 [(0, v), (1, cv), (4, .bool false), (5, u), (6, .int .i64 0), (7, w), (8, .int .i64 0)] _ _ ?_ (by simp (maxSteps := 2000000) only [↓aw_region, ↓aw_skip, ↓aw_seq, ↓aw_block, ↓aw_exit, ↓aw_ret, ↓sops_nil, ↓sops_go, ↓dops_nil, ↓dopsX_nil, ↓dopsR_nil, ↓vdn, vup, extr_20, extr_21, extr_30, extr_31, extr_32, List.map_cons, List.map_nil, cond_true, cond_false, aop, aThen, aBlock, argEnv, ev, sput, sputO, binK, binI, unK, builtinK, pickK, Nat.reduceBEq, Nat.reduceAdd, Int.reduceBEq, Int.reduceBNe, Int.reduceLT, aPost, resK, tup, tyf])
    clear hN6
    try clear N6
    refine aws_cut fun N7 hN7 => ?_
    simp (maxSteps := 2000000) only [s11, ↓aw_region, ↓aw_skip, ↓aw_seq, ↓aw_block, ↓aw_exit, ↓aw_ret, ↓sops_nil, ↓sops_go, ↓dops_nil, ↓dopsX_nil, ↓dopsR_nil, ↓vdn, vup, extr_20, extr_21, extr_30, extr_31, extr_32, List.map_cons, List.map_nil, cond_true, cond_false, aop, aThen, aBlock, argEnv, ev, sput, sputO, binK, binI, unK, builtinK, pickK, Nat.reduceBEq, Nat.reduceAdd, Int.reduceBEq, Int.reduceBNe, Int.reduceLT, aPost, resK, tup, tyf, callK, List.nil_append, List.append_nil, List.toList_toArray, List.cons_append]
    refine (list_call hv2 hl).mono ?_
    rintro l3 _ ⟨hl3, g3, rfl⟩
    rw [trn_take_11 ht] at hl3
    refine (clone_call (hu2.grow g3) (by omega)).mono ?_
    rintro c3 _ ⟨hc3, g4, rfl⟩
    refine (against_call (hl3.grow g4) hl hx hc3 hol hor).mono ?_
    rintro _ h3 ⟨rfl, rfl⟩
    rw [if_pos ⟨ht, ho⟩]
    have hv3 := (hv2.grow g3).grow g4
    have hc4 := (hc2.grow g3).grow g4
    have hu3 := (hu2.grow g3).grow g4
    have hw3 := (hw.ext (Ext.app (fun _ => False) _ g3)).ext (Ext.app (fun _ => False) _ g4)
    clear hl3 hc3
    generalize h2 ++ g3 ++ g4 = h3 at hv3 hc4 hu3 hw3 ⊢
    generalize agTo xs B B.length = a at *
    simp (maxSteps := 2000000) only [s11, ↓aw_region, ↓aw_skip, ↓aw_seq, ↓aw_block, ↓aw_exit, ↓aw_ret, ↓sops_nil, ↓sops_go, ↓dops_nil, ↓dopsX_nil, ↓dopsR_nil, ↓vdn, vup, extr_20, extr_21, extr_30, extr_31, extr_32, List.map_cons, List.map_nil, cond_true, cond_false, aop, aThen, aBlock, argEnv, ev, sput, sputO, binK, binI, unK, builtinK, pickK, Nat.reduceBEq, Nat.reduceAdd, Int.reduceBEq, Int.reduceBNe, Int.reduceLT, aPost, resK, tup, tyf]
    refine hN7 [(0, v), (1, cv), (4, .bool false), (5, u), (6, .int .i64 0), (7, w), (8, .int .i64 0), (9, vint (a : Nat)), (10, .int .i64 0)] _ _ ?_ (by simp (maxSteps := 2000000) only [↓aw_region, ↓aw_skip, ↓aw_seq, ↓aw_block, ↓aw_exit, ↓aw_ret, ↓sops_nil, ↓sops_go, ↓dops_nil, ↓dopsX_nil, ↓dopsR_nil, ↓vdn, vup, extr_20, extr_21, extr_30, extr_31, extr_32, List.map_cons, List.map_nil, cond_true, cond_false, aop, aThen, aBlock, argEnv, ev, sput, sputO, binK, binI, unK, builtinK, pickK, Nat.reduceBEq, Nat.reduceAdd, Int.reduceBEq, Int.reduceBNe, Int.reduceLT, aPost, resK, tup, tyf])
    clear hN7
    try clear N7
    refine aws_cut fun N8 hN8 => ?_
    simp (maxSteps := 2000000) only [s11, ↓aw_region, ↓aw_skip, ↓aw_seq, ↓aw_block, ↓aw_exit, ↓aw_ret, ↓sops_nil, ↓sops_go, ↓dops_nil, ↓dopsX_nil, ↓dopsR_nil, ↓vdn, vup, extr_20, extr_21, extr_30, extr_31, extr_32, List.map_cons, List.map_nil, cond_true, cond_false, aop, aThen, aBlock, argEnv, ev, sput, sputO, binK, binI, unK, builtinK, pickK, Nat.reduceBEq, Nat.reduceAdd, Int.reduceBEq, Int.reduceBNe, Int.reduceLT, aPost, resK, tup, tyf, callK, List.nil_append, List.append_nil, List.toList_toArray, List.cons_append, n00]
    refine (isord_call hv3 hu3 hxl.2 hol).mono ?_
    rintro _ h3 ⟨rfl, rfl⟩
    have hlt : ¬ ((a : Nat) : Int) < ((pk.length : Nat) : Int) := by omega
    simp (maxSteps := 2000000) only [s11, ↓aw_region, ↓aw_skip, ↓aw_seq, ↓aw_block, ↓aw_exit, ↓aw_ret, ↓sops_nil, ↓sops_go, ↓dops_nil, ↓dopsX_nil, ↓dopsR_nil, ↓vdn, vup, extr_20, extr_21, extr_30, extr_31, extr_32, List.map_cons, List.map_nil, cond_true, cond_false, aop, aThen, aBlock, argEnv, ev, sput, sputO, binK, binI, unK, builtinK, pickK, Nat.reduceBEq, Nat.reduceAdd, Int.reduceBEq, Int.reduceBNe, Int.reduceLT, aPost, resK, tup, tyf, callK, List.nil_append, List.append_nil, List.toList_toArray, List.cons_append, ho, Bool.not_true, hw3.len, hlt, decide_false]
    refine (packed_call hv3 ht hw3 hgood).mono ?_
    rintro _ h3 ⟨rfl, rfl⟩
    simp (maxSteps := 2000000) only [s11, ↓aw_region, ↓aw_skip, ↓aw_seq, ↓aw_block, ↓aw_exit, ↓aw_ret, ↓sops_nil, ↓sops_go, ↓dops_nil, ↓dopsX_nil, ↓dopsR_nil, ↓vdn, vup, extr_20, extr_21, extr_30, extr_31, extr_32, List.map_cons, List.map_nil, cond_true, cond_false, aop, aThen, aBlock, argEnv, ev, sput, sputO, binK, binI, unK, builtinK, pickK, Nat.reduceBEq, Nat.reduceAdd, Int.reduceBEq, Int.reduceBNe, Int.reduceLT, aPost, resK, tup, tyf, Bool.not_true]
    refine hN8 [(0, v), (1, cv), (4, .bool false), (5, u), (6, .int .i64 0), (7, w), (8, .int .i64 0), (9, vint (a : Nat)), (10, .int .i64 0)] _ _ ?_ (by simp (maxSteps := 2000000) only [↓aw_region, ↓aw_skip, ↓aw_seq, ↓aw_block, ↓aw_exit, ↓aw_ret, ↓sops_nil, ↓sops_go, ↓dops_nil, ↓dopsX_nil, ↓dopsR_nil, ↓vdn, vup, extr_20, extr_21, extr_30, extr_31, extr_32, List.map_cons, List.map_nil, cond_true, cond_false, aop, aThen, aBlock, argEnv, ev, sput, sputO, binK, binI, unK, builtinK, pickK, Nat.reduceBEq, Nat.reduceAdd, Int.reduceBEq, Int.reduceBNe, Int.reduceLT, aPost, resK, tup, tyf])
    clear hN8
    try clear N8
    refine aws_cut fun N9 hN9 => ?_
    simp (maxSteps := 2000000) only [s11, ↓aw_region, ↓aw_skip, ↓aw_seq, ↓aw_block, ↓aw_exit, ↓aw_ret, ↓sops_nil, ↓sops_go, ↓dops_nil, ↓dopsX_nil, ↓dopsR_nil, ↓vdn, vup, extr_20, extr_21, extr_30, extr_31, extr_32, List.map_cons, List.map_nil, cond_true, cond_false, aop, aThen, aBlock, argEnv, ev, sput, sputO, binK, binI, unK, builtinK, pickK, Nat.reduceBEq, Nat.reduceAdd, Int.reduceBEq, Int.reduceBNe, Int.reduceLT, aPost, resK, tup, tyf]
    refine hN9 [(0, v), (1, cv), (4, .bool false), (5, u), (7, w), (9, vint (a : Nat)), (11, .slice none 0 0)] _ _ ?_ (by simp (maxSteps := 2000000) only [↓aw_region, ↓aw_skip, ↓aw_seq, ↓aw_block, ↓aw_exit, ↓aw_ret, ↓sops_nil, ↓sops_go, ↓dops_nil, ↓dopsX_nil, ↓dopsR_nil, ↓vdn, vup, extr_20, extr_21, extr_30, extr_31, extr_32, List.map_cons, List.map_nil, cond_true, cond_false, aop, aThen, aBlock, argEnv, ev, sput, sputO, binK, binI, unK, builtinK, pickK, Nat.reduceBEq, Nat.reduceAdd, Int.reduceBEq, Int.reduceBNe, Int.reduceLT, aPost, resK, tup, tyf])
    clear hN9
    try clear N9
    refine aws_cut fun M hM => ?_
    refine turn_loop hv3 ht hu3 ho hnx fun h4 tv e4 hE4 hown he4 => ?_
    refine hM [(0, v), (1, cv), (4, .bool false), (5, u), (7, w), (9, vint (a : Nat)), (11, tv)] _ _ ?_ he4
    clear hM
    have hv4 := IntSl_ext hv3 hE4
    have hc5 := IntSl_ext hc4 hE4
    have hu4 := IntSl_ext hu3 hE4
    clear hv hv1 hv2 hv3 hc hc1 hc2 hc4 hu2 hu3 hw hw3 hE4 he4 e4
    have hne : ((((turnL xs B).length : Nat) : Int) != ((a : Nat) : Int)) = false := by rw [htl]; exact bne_self_eq_false _
    refine aws_cut fun N10 hN10 => ?_
    simp (maxSteps := 2000000) only [s11, ↓aw_region, ↓aw_skip, ↓aw_seq, ↓aw_block, ↓aw_exit, ↓aw_ret, ↓sops_nil, ↓sops_go, ↓dops_nil, ↓dopsX_nil, ↓dopsR_nil, ↓vdn, vup, extr_20, extr_21, extr_30, extr_31, extr_32, List.map_cons, List.map_nil, cond_true, cond_false, aop, aThen, aBlock, argEnv, ev, sput, sputO, binK, binI, unK, builtinK, pickK, Nat.reduceBEq, Nat.reduceAdd, Int.reduceBEq, Int.reduceBNe, Int.reduceLT, aPost, resK, tup, tyf, hown.pair.len, hne]
    refine hN10 [(0, v), (1, cv), (4, .bool false), (5, u), (7, w), (9, vint (a : Nat)), (11, tv)] _ _ ?_ (by simp (maxSteps := 2000000) only [↓aw_region, ↓aw_skip, ↓aw_seq, ↓aw_block, ↓aw_exit, ↓aw_ret, ↓sops_nil, ↓sops_go, ↓dops_nil, ↓dopsX_nil, ↓dopsR_nil, ↓vdn, vup, extr_20, extr_21, extr_30, extr_31, extr_32, List.map_cons, List.map_nil, cond_true, cond_false, aop, aThen, aBlock, argEnv, ev, sput, sputO, binK, binI, unK, builtinK, pickK, Nat.reduceBEq, Nat.reduceAdd, Int.reduceBEq, Int.reduceBNe, Int.reduceLT, aPost, resK, tup, tyf])
    clear hN10
    try clear N10
    refine aws_cut fun N11 hN11 => ?_
    simp (maxSteps := 2000000) only [s11, ↓aw_region, ↓aw_skip, ↓aw_seq, ↓aw_block, ↓aw_exit, ↓aw_ret, ↓sops_nil, ↓sops_go, ↓dops_nil, ↓dopsX_nil, ↓dopsR_nil, ↓vdn, vup, extr_20, extr_21, extr_30, extr_31, extr_32, List.map_cons, List.map_nil, cond_true, cond_false, aop, aThen, aBlock, argEnv, ev, sput, sputO, binK, binI, unK, builtinK, pickK, Nat.reduceBEq, Nat.reduceAdd, Int.reduceBEq, Int.reduceBNe, Int.reduceLT, aPost, resK, tup, tyf, callK, List.nil_append, List.append_nil, List.toList_toArray, List.cons_append]
    refine (list_call hv4 hl).mono ?_
    rintro l5 _ ⟨hl5, g5, rfl⟩
    rw [trn_take_11 ht] at hl5
    refine (turn_call hl5 (hown.pair.grow g5) hl hx (by rw [htl]; have := okPs_len htok; omega)).mono ?_
    rintro r5 h5 ⟨hE5, hr5⟩
    rw [if_pos ⟨ht, htok⟩] at hr5
    obtain ⟨xv, rfl, hxv⟩ := hr5
    have hv5 := IntSl_ext (hv4.grow g5) hE5
    have hc6 := IntSl_ext (hc5.grow g5) hE5
    have hu5 := IntSl_ext (hu4.grow g5) hE5
    have hlen2 := turn_len xs (turnL xs B) (turnL xs B).length
    have hsm2 := trn_sm hX1
    generalize turnTo xs (turnL xs B) (turnL xs B).length = ys at *
    have hyl : ys.length < 9223372036854775808 := by omega
    have hyx : ∀ x ∈ ys, -9223372036854775808 ≤ x ∧ x < 9223372036854775808 := fun x hm => by
      obtain ⟨i, hi, rfl⟩ := List.getElem_of_mem hm
      have := hsm2.2 i hi
      rw [List.getD, List.getElem?_eq_getElem hi, Option.getD_some] at this
      have := pow8N (show ys.length ≤ 8 by omega)
      omega
    clear hl5 hE5 hv4 hc5 hu4 hown
    simp (maxSteps := 2000000) only [s11, ↓aw_region, ↓aw_skip, ↓aw_seq, ↓aw_block, ↓aw_exit, ↓aw_ret, ↓sops_nil, ↓sops_go, ↓dops_nil, ↓dopsX_nil, ↓dopsR_nil, ↓vdn, vup, extr_20, extr_21, extr_30, extr_31, extr_32, List.map_cons, List.map_nil, cond_true, cond_false, aop, aThen, aBlock, argEnv, ev, sput, sputO, binK, binI, unK, builtinK, pickK, Nat.reduceBEq, Nat.reduceAdd, Int.reduceBEq, Int.reduceBNe, Int.reduceLT, aPost, resK, tup, tyf]
    refine hN11 [(0, v), (1, cv), (4, .bool false), (5, u), (7, w), (9, vint (a : Nat)), (10, .int .i64 0), (11, tv), (16, xv)] _ _ ?_ (by simp (maxSteps := 2000000) only [↓aw_region, ↓aw_skip, ↓aw_seq, ↓aw_block, ↓aw_exit, ↓aw_ret, ↓sops_nil, ↓sops_go, ↓dops_nil, ↓dopsX_nil, ↓dopsR_nil, ↓vdn, vup, extr_20, extr_21, extr_30, extr_31, extr_32, List.map_cons, List.map_nil, cond_true, cond_false, aop, aThen, aBlock, argEnv, ev, sput, sputO, binK, binI, unK, builtinK, pickK, Nat.reduceBEq, Nat.reduceAdd, Int.reduceBEq, Int.reduceBNe, Int.reduceLT, aPost, resK, tup, tyf])
    clear hN11
    try clear N11
    refine aws_cut fun N12 hN12 => ?_
    simp (maxSteps := 2000000) only [s11, ↓aw_region, ↓aw_skip, ↓aw_seq, ↓aw_block, ↓aw_exit, ↓aw_ret, ↓sops_nil, ↓sops_go, ↓dops_nil, ↓dopsX_nil, ↓dopsR_nil, ↓vdn, vup, extr_20, extr_21, extr_30, extr_31, extr_32, List.map_cons, List.map_nil, cond_true, cond_false, aop, aThen, aBlock, argEnv, ev, sput, sputO, binK, binI, unK, builtinK, pickK, Nat.reduceBEq, Nat.reduceAdd, Int.reduceBEq, Int.reduceBNe, Int.reduceLT, aPost, resK, tup, tyf, callK, List.nil_append, List.append_nil, List.toList_toArray, List.cons_append]
    refine (cycles30_call hxv hyl hyx).mono ?_
    rintro r6 h6 ⟨hE6, hr6⟩
    rw [if_pos hX1] at hr6
    obtain ⟨cw, rfl, hcw⟩ := hr6
    rw [hlen2, hX2] at hcw
    have hv6 := IntSl_ext hv5 hE6
    have hc7 := IntSl_ext hc6 hE6
    have hu6 := IntSl_ext hu5 hE6
    simp (maxSteps := 2000000) only [s11, ↓aw_region, ↓aw_skip, ↓aw_seq, ↓aw_block, ↓aw_exit, ↓aw_ret, ↓sops_nil, ↓sops_go, ↓dops_nil, ↓dopsX_nil, ↓dopsR_nil, ↓vdn, vup, extr_20, extr_21, extr_30, extr_31, extr_32, List.map_cons, List.map_nil, cond_true, cond_false, aop, aThen, aBlock, argEnv, ev, sput, sputO, binK, binI, unK, builtinK, pickK, Nat.reduceBEq, Nat.reduceAdd, Int.reduceBEq, Int.reduceBNe, Int.reduceLT, aPost, resK, tup, tyf]
    refine hN12 [(0, v), (1, cv), (4, .bool false), (5, u), (7, w), (9, vint (a : Nat)), (10, .int .i64 0), (11, tv), (16, xv), (17, cw), (18, .int .i64 0)] _ _ ?_ (by simp (maxSteps := 2000000) only [↓aw_region, ↓aw_skip, ↓aw_seq, ↓aw_block, ↓aw_exit, ↓aw_ret, ↓sops_nil, ↓sops_go, ↓dops_nil, ↓dopsX_nil, ↓dopsR_nil, ↓vdn, vup, extr_20, extr_21, extr_30, extr_31, extr_32, List.map_cons, List.map_nil, cond_true, cond_false, aop, aThen, aBlock, argEnv, ev, sput, sputO, binK, binI, unK, builtinK, pickK, Nat.reduceBEq, Nat.reduceAdd, Int.reduceBEq, Int.reduceBNe, Int.reduceLT, aPost, resK, tup, tyf])
    clear hN12
    try clear N12
    refine aws_cut fun N13 hN13 => ?_
    simp (maxSteps := 2000000) only [s11, ↓aw_region, ↓aw_skip, ↓aw_seq, ↓aw_block, ↓aw_exit, ↓aw_ret, ↓sops_nil, ↓sops_go, ↓dops_nil, ↓dopsX_nil, ↓dopsR_nil, ↓vdn, vup, extr_20, extr_21, extr_30, extr_31, extr_32, List.map_cons, List.map_nil, cond_true, cond_false, aop, aThen, aBlock, argEnv, ev, sput, sputO, binK, binI, unK, builtinK, pickK, Nat.reduceBEq, Nat.reduceAdd, Int.reduceBEq, Int.reduceBNe, Int.reduceLT, aPost, resK, tup, tyf, n00, hcw.trip.len, List.length_nil, Int.natCast_zero]
    refine hN13 [(0, v), (1, cv), (4, .bool false), (5, u), (7, w), (9, vint (a : Nat)), (10, .int .i64 0), (11, tv), (16, xv), (17, cw), (18, .int .i64 0)] _ _ ?_ (by simp (maxSteps := 2000000) only [↓aw_region, ↓aw_skip, ↓aw_seq, ↓aw_block, ↓aw_exit, ↓aw_ret, ↓sops_nil, ↓sops_go, ↓dops_nil, ↓dopsX_nil, ↓dopsR_nil, ↓vdn, vup, extr_20, extr_21, extr_30, extr_31, extr_32, List.map_cons, List.map_nil, cond_true, cond_false, aop, aThen, aBlock, argEnv, ev, sput, sputO, binK, binI, unK, builtinK, pickK, Nat.reduceBEq, Nat.reduceAdd, Int.reduceBEq, Int.reduceBNe, Int.reduceLT, aPost, resK, tup, tyf])
    clear hN13
    try clear N13
    refine aws_cut fun N14 hN14 => ?_
    simp (maxSteps := 2000000) only [s11, ↓aw_region, ↓aw_skip, ↓aw_seq, ↓aw_block, ↓aw_exit, ↓aw_ret, ↓sops_nil, ↓sops_go, ↓dops_nil, ↓dopsX_nil, ↓dopsR_nil, ↓vdn, vup, extr_20, extr_21, extr_30, extr_31, extr_32, List.map_cons, List.map_nil, cond_true, cond_false, aop, aThen, aBlock, argEnv, ev, sput, sputO, binK, binI, unK, builtinK, pickK, Nat.reduceBEq, Nat.reduceAdd, Int.reduceBEq, Int.reduceBNe, Int.reduceLT, aPost, resK, tup, tyf, callK, List.nil_append, List.append_nil, List.toList_toArray, List.cons_append]
    refine (list_call hv6 hl).mono ?_
    rintro l7 _ ⟨hl7, g7, rfl⟩
    rw [trn_take_11 ht] at hl7
    refine (list_call (hc7.grow g7) hcl).mono ?_
    rintro l8 _ ⟨hl8, g8, rfl⟩
    refine (against_call (hl7.grow g8) hl hx hl8 len11 (rng11 hcx)).mono ?_
    rintro _ h7 ⟨rfl, rfl⟩
    have hc8 := (hc7.grow g7).grow g8
    have hu7 := (hu6.grow g7).grow g8
    clear hl7 hl8
    generalize h6 ++ g7 ++ g8 = h8 at hc8 hu7 ⊢
    rw [isOrd_take_11 hxl.2]
    cases hio : isOrd xs.length os with
    | false =>
      rw [if_neg (fun h => by cases h.2)]
      simp (maxSteps := 2000000) only [s11, ↓aw_region, ↓aw_skip, ↓aw_seq, ↓aw_block, ↓aw_exit, ↓aw_ret, ↓sops_nil, ↓sops_go, ↓dops_nil, ↓dopsX_nil, ↓dopsR_nil, ↓vdn, vup, extr_20, extr_21, extr_30, extr_31, extr_32, List.map_cons, List.map_nil, cond_true, cond_false, aop, aThen, aBlock, argEnv, ev, sput, sputO, binK, binI, unK, builtinK, pickK, Nat.reduceBEq, Nat.reduceAdd, Int.reduceBEq, Int.reduceBNe, Int.reduceLT, aPost, resK, tup, tyf]
      refine hN14 [(0, v), (1, cv), (4, .bool false), (5, u), (7, w), (9, vint (a : Nat)), (10, .int .i64 2), (11, tv), (16, xv), (17, cw), (18, .int .i64 0), (19, .int .i64 0)] _ _ ?_ (by simp (maxSteps := 2000000) only [↓aw_region, ↓aw_skip, ↓aw_seq, ↓aw_block, ↓aw_exit, ↓aw_ret, ↓sops_nil, ↓sops_go, ↓dops_nil, ↓dopsX_nil, ↓dopsR_nil, ↓vdn, vup, extr_20, extr_21, extr_30, extr_31, extr_32, List.map_cons, List.map_nil, cond_true, cond_false, aop, aThen, aBlock, argEnv, ev, sput, sputO, binK, binI, unK, builtinK, pickK, Nat.reduceBEq, Nat.reduceAdd, Int.reduceBEq, Int.reduceBNe, Int.reduceLT, aPost, resK, tup, tyf])
      clear hN14
      try clear N14
      refine aws_cut fun N15 hN15 => ?_
      simp (maxSteps := 2000000) only [s11, ↓aw_region, ↓aw_skip, ↓aw_seq, ↓aw_block, ↓aw_exit, ↓aw_ret, ↓sops_nil, ↓sops_go, ↓dops_nil, ↓dopsX_nil, ↓dopsR_nil, ↓vdn, vup, extr_20, extr_21, extr_30, extr_31, extr_32, List.map_cons, List.map_nil, cond_true, cond_false, aop, aThen, aBlock, argEnv, ev, sput, sputO, binK, binI, unK, builtinK, pickK, Nat.reduceBEq, Nat.reduceAdd, Int.reduceBEq, Int.reduceBNe, Int.reduceLT, aPost, resK, tup, tyf, callK, List.nil_append, List.append_nil, List.toList_toArray, List.cons_append, n20, e22]
      refine awk fun g _ => ?_
      simp (maxSteps := 2000000) only [s11, ↓aw_region, ↓aw_skip, ↓aw_seq, ↓aw_block, ↓aw_exit, ↓aw_ret, ↓sops_nil, ↓sops_go, ↓dops_nil, ↓dopsX_nil, ↓dopsR_nil, ↓vdn, vup, extr_20, extr_21, extr_30, extr_31, extr_32, List.map_cons, List.map_nil, cond_true, cond_false, aop, aThen, aBlock, argEnv, ev, sput, sputO, binK, binI, unK, builtinK, pickK, Nat.reduceBEq, Nat.reduceAdd, Int.reduceBEq, Int.reduceBNe, Int.reduceLT, aPost, resK, tup, tyf]
    | true =>
      have hot : os.take 11 = os := List.take_of_length_le (by have := (ord_rng hio).1; omega)
      rw [if_pos ⟨ht, rfl⟩, hot]
      have hle := hbest os hio
      have hlex := hlexA os hio
      have hosl := (ord_rng hio).1
      have hosx := (isOrd_iff.1 hio).2.1
      generalize agTo xs os os.length = m at *
      simp (maxSteps := 2000000) only [s11, ↓aw_region, ↓aw_skip, ↓aw_seq, ↓aw_block, ↓aw_exit, ↓aw_ret, ↓sops_nil, ↓sops_go, ↓dops_nil, ↓dopsX_nil, ↓dopsR_nil, ↓vdn, vup, extr_20, extr_21, extr_30, extr_31, extr_32, List.map_cons, List.map_nil, cond_true, cond_false, aop, aThen, aBlock, argEnv, ev, sput, sputO, binK, binI, unK, builtinK, pickK, Nat.reduceBEq, Nat.reduceAdd, Int.reduceBEq, Int.reduceBNe, Int.reduceLT, aPost, resK, tup, tyf]
      refine hN14 [(0, v), (1, cv), (4, .bool false), (5, u), (7, w), (9, vint (a : Nat)), (10, .int .i64 0), (11, tv), (16, xv), (17, cw), (18, .int .i64 0), (19, vint (m : Nat))] _ _ ?_ (by simp (maxSteps := 2000000) only [↓aw_region, ↓aw_skip, ↓aw_seq, ↓aw_block, ↓aw_exit, ↓aw_ret, ↓sops_nil, ↓sops_go, ↓dops_nil, ↓dopsX_nil, ↓dopsR_nil, ↓vdn, vup, extr_20, extr_21, extr_30, extr_31, extr_32, List.map_cons, List.map_nil, cond_true, cond_false, aop, aThen, aBlock, argEnv, ev, sput, sputO, binK, binI, unK, builtinK, pickK, Nat.reduceBEq, Nat.reduceAdd, Int.reduceBEq, Int.reduceBNe, Int.reduceLT, aPost, resK, tup, tyf])
      clear hN14
      try clear N14
      refine aws_cut fun N16 hN16 => ?_
      simp (maxSteps := 2000000) only [s11, ↓aw_region, ↓aw_skip, ↓aw_seq, ↓aw_block, ↓aw_exit, ↓aw_ret, ↓sops_nil, ↓sops_go, ↓dops_nil, ↓dopsX_nil, ↓dopsR_nil, ↓vdn, vup, extr_20, extr_21, extr_30, extr_31, extr_32, List.map_cons, List.map_nil, cond_true, cond_false, aop, aThen, aBlock, argEnv, ev, sput, sputO, binK, binI, unK, builtinK, pickK, Nat.reduceBEq, Nat.reduceAdd, Int.reduceBEq, Int.reduceBNe, Int.reduceLT, aPost, resK, tup, tyf, n00]
      refine hN16 [(0, v), (1, cv), (4, .bool false), (5, u), (7, w), (9, vint (a : Nat)), (10, .int .i64 0), (11, tv), (16, xv), (17, cw), (18, .int .i64 0), (19, vint (m : Nat))] _ _ ?_ (by simp (maxSteps := 2000000) only [↓aw_region, ↓aw_skip, ↓aw_seq, ↓aw_block, ↓aw_exit, ↓aw_ret, ↓sops_nil, ↓sops_go, ↓dops_nil, ↓dopsX_nil, ↓dopsR_nil, ↓vdn, vup, extr_20, extr_21, extr_30, extr_31, extr_32, List.map_cons, List.map_nil, cond_true, cond_false, aop, aThen, aBlock, argEnv, ev, sput, sputO, binK, binI, unK, builtinK, pickK, Nat.reduceBEq, Nat.reduceAdd, Int.reduceBEq, Int.reduceBNe, Int.reduceLT, aPost, resK, tup, tyf])
      clear hN16
      try clear N16
      have hge : ((a : Nat) : Int) ≤ ((m : Nat) : Int) := by omega
      by_cases hgt : ((a : Nat) : Int) < ((m : Nat) : Int)
      · refine aws_cut fun N17 hN17 => ?_
        simp (maxSteps := 2000000) only [s11, ↓aw_region, ↓aw_skip, ↓aw_seq, ↓aw_block, ↓aw_exit, ↓aw_ret, ↓sops_nil, ↓sops_go, ↓dops_nil, ↓dopsX_nil, ↓dopsR_nil, ↓vdn, vup, extr_20, extr_21, extr_30, extr_31, extr_32, List.map_cons, List.map_nil, cond_true, cond_false, aop, aThen, aBlock, argEnv, ev, sput, sputO, binK, binI, unK, builtinK, pickK, Nat.reduceBEq, Nat.reduceAdd, Int.reduceBEq, Int.reduceBNe, Int.reduceLT, aPost, resK, tup, tyf, callK, List.nil_append, List.append_nil, List.toList_toArray, List.cons_append, ge_iff_le, gt_iff_lt, hge, hgt, decide_true]
        refine awk fun g _ => ?_
        refine hN17 [(0, v), (1, cv), (4, .bool true), (5, u), (7, w), (9, vint (a : Nat)), (10, .int .i64 0), (11, tv), (16, xv), (17, cw), (18, .int .i64 0), (19, vint (m : Nat))] _ _ ?_ (by simp (maxSteps := 2000000) only [↓aw_region, ↓aw_skip, ↓aw_seq, ↓aw_block, ↓aw_exit, ↓aw_ret, ↓sops_nil, ↓sops_go, ↓dops_nil, ↓dopsX_nil, ↓dopsR_nil, ↓vdn, vup, extr_20, extr_21, extr_30, extr_31, extr_32, List.map_cons, List.map_nil, cond_true, cond_false, aop, aThen, aBlock, argEnv, ev, sput, sputO, binK, binI, unK, builtinK, pickK, Nat.reduceBEq, Nat.reduceAdd, Int.reduceBEq, Int.reduceBNe, Int.reduceLT, aPost, resK, tup, tyf])
        clear hN17
        try clear N17
        refine aw_aws ?_
        simp (maxSteps := 2000000) only [s11, ↓aw_region, ↓aw_skip, ↓aw_seq, ↓aw_block, ↓aw_exit, ↓aw_ret, ↓sops_nil, ↓sops_go, ↓dops_nil, ↓dopsX_nil, ↓dopsR_nil, ↓vdn, vup, extr_20, extr_21, extr_30, extr_31, extr_32, List.map_cons, List.map_nil, cond_true, cond_false, aop, aThen, aBlock, argEnv, ev, sput, sputO, binK, binI, unK, builtinK, pickK, Nat.reduceBEq, Nat.reduceAdd, Int.reduceBEq, Int.reduceBNe, Int.reduceLT, aPost, resK, tup, tyf]
      · have hcm : cmpL B os ≤ 0 := by
          have h1 := hlex (by omega)
          have h2 := cmpL_le (by simp [nl, o1, hosl]) h1
          rw [nl_map fun x hx => (o2 x hx).1, nl_map fun x hx => (hosx x hx).1] at h2
          exact h2
        refine aws_cut fun N18 hN18 => ?_
        simp (maxSteps := 2000000) only [s11, ↓aw_region, ↓aw_skip, ↓aw_seq, ↓aw_block, ↓aw_exit, ↓aw_ret, ↓sops_nil, ↓sops_go, ↓dops_nil, ↓dopsX_nil, ↓dopsR_nil, ↓vdn, vup, extr_20, extr_21, extr_30, extr_31, extr_32, List.map_cons, List.map_nil, cond_true, cond_false, aop, aThen, aBlock, argEnv, ev, sput, sputO, binK, binI, unK, builtinK, pickK, Nat.reduceBEq, Nat.reduceAdd, Int.reduceBEq, Int.reduceBNe, Int.reduceLT, aPost, resK, tup, tyf, callK, List.nil_append, List.append_nil, List.toList_toArray, List.cons_append, ge_iff_le, gt_iff_lt, hge, hgt, decide_true, decide_false]
        refine (compare_call hu7 hc8 (by omega) (by omega)).mono ?_
        rintro _ h8 ⟨rfl, rfl⟩
        simp (maxSteps := 2000000) only [s11, ↓aw_region, ↓aw_skip, ↓aw_seq, ↓aw_block, ↓aw_exit, ↓aw_ret, ↓sops_nil, ↓sops_go, ↓dops_nil, ↓dopsX_nil, ↓dopsR_nil, ↓vdn, vup, extr_20, extr_21, extr_30, extr_31, extr_32, List.map_cons, List.map_nil, cond_true, cond_false, aop, aThen, aBlock, argEnv, ev, sput, sputO, binK, binI, unK, builtinK, pickK, Nat.reduceBEq, Nat.reduceAdd, Int.reduceBEq, Int.reduceBNe, Int.reduceLT, aPost, resK, tup, tyf, callK, List.nil_append, List.append_nil, List.toList_toArray, List.cons_append, hcm, decide_true]
        refine awk fun g _ => ?_
        refine hN18 [(0, v), (1, cv), (4, .bool true), (5, u), (7, w), (9, vint (a : Nat)), (10, .int .i64 0), (11, tv), (16, xv), (17, cw), (18, .int .i64 0), (19, vint (m : Nat))] _ _ ?_ (by simp (maxSteps := 2000000) only [↓aw_region, ↓aw_skip, ↓aw_seq, ↓aw_block, ↓aw_exit, ↓aw_ret, ↓sops_nil, ↓sops_go, ↓dops_nil, ↓dopsX_nil, ↓dopsR_nil, ↓vdn, vup, extr_20, extr_21, extr_30, extr_31, extr_32, List.map_cons, List.map_nil, cond_true, cond_false, aop, aThen, aBlock, argEnv, ev, sput, sputO, binK, binI, unK, builtinK, pickK, Nat.reduceBEq, Nat.reduceAdd, Int.reduceBEq, Int.reduceBNe, Int.reduceLT, aPost, resK, tup, tyf])
        clear hN18
        try clear N18
        refine aw_aws ?_
        simp (maxSteps := 2000000) only [s11, ↓aw_region, ↓aw_skip, ↓aw_seq, ↓aw_block, ↓aw_exit, ↓aw_ret, ↓sops_nil, ↓sops_go, ↓dops_nil, ↓dopsX_nil, ↓dopsR_nil, ↓vdn, vup, extr_20, extr_21, extr_30, extr_31, extr_32, List.map_cons, List.map_nil, cond_true, cond_false, aop, aThen, aBlock, argEnv, ev, sput, sputO, binK, binI, unK, builtinK, pickK, Nat.reduceBEq, Nat.reduceAdd, Int.reduceBEq, Int.reduceBNe, Int.reduceLT, aPost, resK, tup, tyf]
end Go.Proofs.Tryd.Am
