/-
  order: the function literal that grows the lines, walked.
-/
import Derived.Test.YtnjacpfahhjpiaaDoorOrGrow
set_option linter.all false
namespace Go.Proofs.Tryd.Am
open Go.Am Ord
set_option maxRecDepth 100000
set_option maxHeartbeats 1000000

theorem flat_pre {α β : Type} {f : α → List β} {pre l : List α} {x : α} (h : pre ++ [x] <+: l) : (pre.flatMap f).length + (f x).length ≤ (l.flatMap f).length := by
  obtain ⟨t, rfl⟩ := h
  rw [List.flatMap_append, List.flatMap_append, List.length_append, List.length_append, List.flatMap_singleton]
  omega

/-- The closure that grows. -/
def gV (bo bl bd bg : Nat) : Value := .func (.func 103) #[] #[.pointer (some ⟨bo, 0, none⟩), .pointer (some ⟨bl, 0, none⟩), .pointer (some ⟨bd, 0, none⟩), .pointer (some ⟨bg, 0, none⟩)]

theorem grow_call [BitTab prog 1] {I : Nat → Prop} {h0 : Heap} {bo bl bd bg : Nat} {o : List Int} (ho : ord o = true) (hI : I bd ∧ I bg) (hd : h0[bd]? = some (.cells (ordC o) 77 false)) (hg : h0[bg]? = some (.cells [gV bo bl bd bg] 118 false)) :
    ∀ (n left : Nat) (cur : List Int) (Ls : List (List Int)) (h : Heap) (ov lv : Value), LS I h0 bo bl h ov lv Ls cur → (Am.bits left).length = n → left < 2 ^ o.length → cur.length + n = o.length → Ls.length + (lines (ab o) n (Am.bits left)).length ≤ 46656 →
      ACall prog 103 [vint left, .pointer (some ⟨bo, 0, none⟩), .pointer (some ⟨bl, 0, none⟩), .pointer (some ⟨bd, 0, none⟩), .pointer (some ⟨bg, 0, none⟩)] h fun _ h' =>
        ∃ ov' lv', LS I h0 bo bl h' ov' lv' (Ls ++ behind cur (lines (ab o) n (Am.bits left))) cur ∧ Ext (gS bo bl ov lv) h h' ∧ (blkOf ov' = blkOf ov ∨ ∃ b, blkOf ov' = some b ∧ h.length ≤ b) ∧ (blkOf lv' = blkOf lv ∨ ∃ b, blkOf lv' = some b ∧ h.length ≤ b) := by
  have hlen := ord_len ho
  have hpw := pow6 hlen.2
  intro n
  induction n with
  | zero =>
    intro left cur Ls h ov lv gs hn hlt hcl hLs
    have hz : left = 0 := by
      rcases Nat.eq_zero_or_pos left with h | h
      · exact h
      · exact absurd (List.length_eq_zero_iff.1 hn) (Ord.bits_ne (by omega) (by omega))
    subst hz
    have hcne : cur ≠ [] := by rintro rfl; simp at hcl; omega
    refine s103_call (by simp) ?_
    simp only [s103]
    refine aw_cut fun N hN => ?_
    simp (config := {maxSteps := 2000000}) only [s103, ↓aw_region, ↓aw_skip, ↓aw_seq, ↓aw_block, ↓aw_exit, ↓aw_ret, ↓sops_nil, ↓sops_go, ↓dops_nil, ↓dopsX_nil, ↓dopsR_nil, ↓vdn, vup, extr_20, extr_21, extr_30, extr_31, extr_32, List.map_cons, List.map_nil, cond_true, cond_false, aop, aThen, aBlock, argEnv, ev, sput, sputO, binK, binI, unK, builtinK, pickK, Nat.reduceBEq, Nat.reduceAdd, Int.reduceBEq, Int.reduceBNe, Int.reduceLT, aPost, resK, tup, tyf, boxK, cellsOf, Option.isSome_some, newPtr]
    refine hN _ _ ?_
    clear hN N
    have rs0 := LR.of (left := 0) gs
    have e0 : vint ((0 : Nat) : Int) = .int .i64 0 := rfl
    rw [e0] at rs0
    generalize h ++ [.cells [.int .i64 0] 3 false] = h2 at rs0 ⊢
    have hb0 : h2[h.length]? = some (.cells [.int .i64 0] 3 false) := rs0.bx
    refine aw_cut fun N hN => ?_
    simp (config := {maxSteps := 2000000}) only [s103, ↓aw_region, ↓aw_skip, ↓aw_seq, ↓aw_block, ↓aw_exit, ↓aw_ret, ↓sops_nil, ↓sops_go, ↓dops_nil, ↓dopsX_nil, ↓dopsR_nil, ↓vdn, vup, extr_20, extr_21, extr_30, extr_31, extr_32, List.map_cons, List.map_nil, cond_true, cond_false, aop, aThen, aBlock, argEnv, ev, sput, sputO, binK, binI, unK, builtinK, pickK, Nat.reduceBEq, Nat.reduceAdd, Int.reduceBEq, Int.reduceBNe, Int.reduceLT, aPost, resK, tup, tyf, load1 hb0 shp_3, beq_self_eq_true]
    refine aw_drawR (fun hp => hp[bo]? = some (.cells [ov] 45 false)) [(0, 5), (5, 6)] (by kernel_rfl) (by kernel_rfl) (by kernel_rfl) (by kernel_rfl) rs0.gs.o ?_
    simp (config := {maxSteps := 2000000}) only [s103, ↓aw_region, ↓aw_skip, ↓aw_seq, ↓aw_block, ↓aw_exit, ↓aw_ret, ↓sops_nil, ↓sops_go, ↓dops_nil, ↓dopsX_nil, ↓dopsR_nil, ↓vdn, vup, extr_20, extr_21, extr_30, extr_31, extr_32, List.map_cons, List.map_nil, cond_true, cond_false, aop, aThen, aBlock, argEnv, ev, sput, sputO, binK, binI, unK, builtinK, pickK, Nat.reduceBEq, Nat.reduceAdd, Int.reduceBEq, Int.reduceBNe, Int.reduceLT, aPost, resK, tup, tyf, Nat.reduceLT, Bool.false_or, Bool.true_or, load1 rs0.gs.l shp_22, callK, List.nil_append, List.append_nil, List.toList_toArray, List.cons_append]
    refine ⟨ov, fun hp hhp => by simp only [load1 hhp shp_45], ?_⟩
    refine ⟨_, _, clone_det rs0.gs.own.int hcne (by omega), get_old (get_old rs0.gs.o _) _, ?_⟩
    obtain ⟨w, hw⟩ : ∃ w : Value, w = .slice (some ⟨h2.length + 1, 0, some 0⟩) cur.length cur.length := ⟨_, rfl⟩
    rw [← hw]
    obtain ⟨H1, hH1⟩ : ∃ H1, H1 = h2 ++ [Blk.ints [] 3 false] ++ [Blk.ints cur 3 false] := ⟨_, rfl⟩
    rw [← hH1]
    have how : OwnSl 3 H1 w cur := .inr ⟨h2.length + 1, [], by rw [hw]; simp, by rw [hH1, List.getElem?_append_right (by simp)]; simp⟩
    have hl1 : H1.length = h2.length + 2 := by rw [hH1]; simp
    have rs1 := (rs0.app [Blk.ints [] 3 false]).app [Blk.ints cur 3 false]
    rw [← hH1] at rs1
    clear hH1
    simp (config := {maxSteps := 2000000}) only [s103, ↓aw_region, ↓aw_skip, ↓aw_seq, ↓aw_block, ↓aw_exit, ↓aw_ret, ↓sops_nil, ↓sops_go, ↓dops_nil, ↓dopsX_nil, ↓dopsR_nil, ↓vdn, vup, extr_20, extr_21, extr_30, extr_31, extr_32, List.map_cons, List.map_nil, cond_true, cond_false, aop, aThen, aBlock, argEnv, ev, sput, sputO, binK, binI, unK, builtinK, pickK, Nat.reduceBEq, Nat.reduceAdd, Int.reduceBEq, Int.reduceBNe, Int.reduceLT, aPost, resK, tup, tyf, Nat.reduceLT, Bool.false_or, Bool.true_or, List.toList_toArray, buildSl1 el_45 zero_22 esz_22 how]
    have rs2 := rs1.app [Blk.cells [w] 22 false]
    have how2 : OwnSl 3 (H1 ++ [Blk.cells [w] 22 false]) w cur := how.ext (S := fun _ => False) (Ext.app _ _ _) (fun _ _ h => h)
    have hval : ValSl (H1 ++ [Blk.cells [w] 22 false]) (.slice (some ⟨H1.length, 0, none⟩) 1 1) [w] := .inr ⟨H1.length, 0, none, 1, [w], 22, false, rfl, Nat.le_refl _, by simp [view, Blk.view], rfl⟩
    refine ⟨rs2.gs.o, ?_⟩
    obtain ⟨ws, g1, g2, g3⟩ := rs2.gs.out
    have hall := g2.app (show Each (OwnSl 3 (H1 ++ [Blk.cells [w] 22 false])) [w] [cur] from ⟨how2, trivial⟩)
    refine g1.app app_45_45 hval (fun y hy => by obtain ⟨l, hl⟩ := hall.mem y hy; exact hl.notI) ?_ fun ov' h' hov hE hb => ⟨?_, ?_⟩
    · rw [g2.len]
      have : (lines (ab o) 0 (Am.bits 0)).length = 1 := rfl
      simp only [List.length_singleton]; omega
    · exact (hE.2 bo (get_lt rs2.gs.o) (fun h => (rs2.gs.apo _ h).2.1 rfl)).trans rs2.gs.o
    have ho' := (hE.2 bo (get_lt rs2.gs.o) (fun h => (rs2.gs.apo _ h).2.1 rfl)).trans rs2.gs.o
    have hone : one ov' = true := by rcases hov with ⟨rfl, _⟩ | ⟨b, ys, rfl, _⟩ <;> rfl
    simp (config := {maxSteps := 2000000}) only [s103, ↓aw_region, ↓aw_skip, ↓aw_seq, ↓aw_block, ↓aw_exit, ↓aw_ret, ↓sops_nil, ↓sops_go, ↓dops_nil, ↓dopsX_nil, ↓dopsR_nil, ↓vdn, vup, extr_20, extr_21, extr_30, extr_31, extr_32, List.map_cons, List.map_nil, cond_true, cond_false, aop, aThen, aBlock, argEnv, ev, sput, sputO, binK, binI, unK, builtinK, pickK, Nat.reduceBEq, Nat.reduceAdd, Int.reduceBEq, Int.reduceBNe, Int.reduceLT, aPost, resK, tup, tyf, Nat.reduceLT, Bool.false_or, Bool.true_or, store1 ho' shp_45 hone]
    have hwl : ∀ b, blkOf w = some b → blkOf lv ≠ some b := fun b hbw hbl => by
      rw [hw] at hbw; cases hbw
      have := rs0.gs.own.lt hbl; omega
    have gs3 := rs2.gs.storeO g1 g2 g3 how2 hwl hE hov hb
    have rs3 := rs2.go gs3 ((hE.mono fun _ h => .inr (.inr (.inl h))).trans (Ext.set _ (.inl rfl))) hb (.inl rfl)
    refine hN _ _ ?_
    clear hN N gs3 hone ho' hwl hb hE hov
    generalize h'.set bo (.cells [ov'] 45 false) = h3 at rs3 ⊢
    have hb3 : h3[h.length]? = some (.cells [.int .i64 0] 3 false) := rs3.bx
    simp (config := {maxSteps := 2000000}) only [s103, ↓aw_region, ↓aw_skip, ↓aw_seq, ↓aw_block, ↓aw_exit, ↓aw_ret, ↓sops_nil, ↓sops_go, ↓dops_nil, ↓dopsX_nil, ↓dopsR_nil, ↓vdn, vup, extr_20, extr_21, extr_30, extr_31, extr_32, List.map_cons, List.map_nil, cond_true, cond_false, aop, aThen, aBlock, argEnv, ev, sput, sputO, binK, binI, unK, builtinK, pickK, Nat.reduceBEq, Nat.reduceAdd, Int.reduceBEq, Int.reduceBNe, Int.reduceLT, aPost, resK, tup, tyf, load1 hb3 shp_3, callK, List.nil_append, List.append_nil, List.toList_toArray, List.cons_append]
    refine elements_call.mono ?_
    rintro _ _ ⟨rfl, rfl⟩
    simp (config := {maxSteps := 2000000}) only [s103, ↓aw_region, ↓aw_skip, ↓aw_seq, ↓aw_block, ↓aw_exit, ↓aw_ret, ↓sops_nil, ↓sops_go, ↓dops_nil, ↓dopsX_nil, ↓dopsR_nil, ↓vdn, vup, extr_20, extr_21, extr_30, extr_31, extr_32, List.map_cons, List.map_nil, cond_true, cond_false, aop, aThen, aBlock, argEnv, ev, sput, sputO, binK, binI, unK, builtinK, pickK, Nat.reduceBEq, Nat.reduceAdd, Int.reduceBEq, Int.reduceBNe, Int.reduceLT, aPost, resK, tup, tyf, newPtr]
    have hb4 := get_lt rs3.bx
    have rs4 : LR I h0 bo bl h ov lv 0 ((h3 ++ [Blk.cells [.int .i64 0] 3 false]).set h3.length Blk.dead) ov' lv (Ls ++ [cur]) cur :=
      (rs3.app _).else hb4 (fun hb => by obtain ⟨ws, g1, _⟩ := rs3.gs.out; have := g1.lt hb; omega) (fun ys e => by rw [get_new]; intro h; cases h)
    refine aw_range bitIter (bx := h3.length) (s := 0) (et := 3) rfl (get_new _ _) (by decide) (fun pre hk => LR I h0 bo bl h ov lv 0 hk ov' lv (Ls ++ [cur]) cur) rs4 ?_ ?_
    · rintro pre x hk hpre _
      have := mem_pre hpre
      exact absurd this (by simp [Am.bits])
    · rintro hk rs
      simp (config := {maxSteps := 2000000}) only [s103, ↓aw_region, ↓aw_skip, ↓aw_seq, ↓aw_block, ↓aw_exit, ↓aw_ret, ↓sops_nil, ↓sops_go, ↓dops_nil, ↓dopsX_nil, ↓dopsR_nil, ↓vdn, vup, extr_20, extr_21, extr_30, extr_31, extr_32, List.map_cons, List.map_nil, cond_true, cond_false, aop, aThen, aBlock, argEnv, ev, sput, sputO, binK, binI, unK, builtinK, pickK, Nat.reduceBEq, Nat.reduceAdd, Int.reduceBEq, Int.reduceBNe, Int.reduceLT, aPost, resK, tup, tyf]
      have e1 : behind cur (lines (ab o) 0 (Am.bits 0)) = [cur] := by simp [behind, lines, castN]
      rw [e1]
      exact ⟨ov', lv, rs.gs, rs.ext, rs.blko, rs.blkl⟩
  | succ k ih =>
    intro left cur Ls h ov lv gs hn hlt hcl hLs
    have hz : left ≠ 0 := by
      rintro rfl
      have : Am.bits 0 = [] := by simp [Am.bits]
      rw [this] at hn; cases hn
    have hz2 : (((left : Nat) : Int) == 0) = false := by rw [eq0, decide_eq_false hz]
    have hall := gF_all ho (n := k) (left := left) (by omega) cur
    refine s103_call (by simp) ?_
    simp only [s103]
    refine aw_cut fun N hN => ?_
    simp (config := {maxSteps := 2000000}) only [s103, ↓aw_region, ↓aw_skip, ↓aw_seq, ↓aw_block, ↓aw_exit, ↓aw_ret, ↓sops_nil, ↓sops_go, ↓dops_nil, ↓dopsX_nil, ↓dopsR_nil, ↓vdn, vup, extr_20, extr_21, extr_30, extr_31, extr_32, List.map_cons, List.map_nil, cond_true, cond_false, aop, aThen, aBlock, argEnv, ev, sput, sputO, binK, binI, unK, builtinK, pickK, Nat.reduceBEq, Nat.reduceAdd, Int.reduceBEq, Int.reduceBNe, Int.reduceLT, aPost, resK, tup, tyf, boxK, cellsOf, Option.isSome_some, newPtr]
    refine hN _ _ ?_
    clear hN N
    have rs0 := LR.of (left := left) gs
    generalize h ++ [.cells [vint left] 3 false] = h2 at rs0 ⊢
    simp (config := {maxSteps := 2000000}) only [s103, ↓aw_region, ↓aw_skip, ↓aw_seq, ↓aw_block, ↓aw_exit, ↓aw_ret, ↓sops_nil, ↓sops_go, ↓dops_nil, ↓dopsX_nil, ↓dopsR_nil, ↓vdn, vup, extr_20, extr_21, extr_30, extr_31, extr_32, List.map_cons, List.map_nil, cond_true, cond_false, aop, aThen, aBlock, argEnv, ev, sput, sputO, binK, binI, unK, builtinK, pickK, Nat.reduceBEq, Nat.reduceAdd, Int.reduceBEq, Int.reduceBNe, Int.reduceLT, aPost, resK, tup, tyf, load1 rs0.bx shp_3, hz2, callK, List.nil_append, List.append_nil, List.toList_toArray, List.cons_append]
    refine elements_call.mono ?_
    rintro _ _ ⟨rfl, rfl⟩
    simp (config := {maxSteps := 2000000}) only [s103, ↓aw_region, ↓aw_skip, ↓aw_seq, ↓aw_block, ↓aw_exit, ↓aw_ret, ↓sops_nil, ↓sops_go, ↓dops_nil, ↓dopsX_nil, ↓dopsR_nil, ↓vdn, vup, extr_20, extr_21, extr_30, extr_31, extr_32, List.map_cons, List.map_nil, cond_true, cond_false, aop, aThen, aBlock, argEnv, ev, sput, sputO, binK, binI, unK, builtinK, pickK, Nat.reduceBEq, Nat.reduceAdd, Int.reduceBEq, Int.reduceBNe, Int.reduceLT, aPost, resK, tup, tyf, newPtr]
    have hb4 := get_lt rs0.bx
    have rs4 : LR I h0 bo bl h ov lv left ((h2 ++ [Blk.cells [vint left] 3 false]).set h2.length Blk.dead) ov lv Ls cur :=
      (rs0.app _).else hb4 (fun hb => by obtain ⟨ws, g1, _⟩ := rs0.gs.out; have := g1.lt hb; omega) (fun ys e => by rw [get_new]; intro h; cases h)
    refine aw_range bitIter (bx := h2.length) (s := left) (et := 3) rfl (get_new _ _) (by omega) (fun pre hk => ∃ ov' lv', LR I h0 bo bl h ov lv left hk ov' lv' (Ls ++ pre.flatMap (gF o k left cur)) cur) ⟨ov, lv, by simpa using rs4⟩ ?_ ?_
    · rintro pre x hk hpre ⟨ov1, lv1, rs⟩
      obtain ⟨hx64, hxb⟩ := mem_bits.1 (mem_pre hpre)
      have hx6 : x < o.length := by
        rcases Nat.lt_or_ge x o.length with h | h
        · exact h
        · rw [Nat.testBit_lt_two_pow (Nat.lt_of_lt_of_le hlt (Nat.pow_le_pow_right (by decide) h))] at hxb; cases hxb
      have hdl := dn_lt (o := o) (i := x)
      have hand : bitsV .and .i64 ((dn o x : Nat) : Int) (left : Int) = ((dn o x &&& left : Nat) : Int) := bitsV_and (by omega) (by omega)
      have hcnt := flat_pre (f := gF o k left cur) hpre
      rw [hall, behind, List.length_map] at hcnt
      simp (config := {maxSteps := 2000000}) only [s103, ↓aw_region, ↓aw_skip, ↓aw_seq, ↓aw_block, ↓aw_exit, ↓aw_ret, ↓sops_nil, ↓sops_go, ↓dops_nil, ↓dopsX_nil, ↓dopsR_nil, ↓vdn, vup, extr_20, extr_21, extr_30, extr_31, extr_32, List.map_cons, List.map_nil, cond_true, cond_false, aop, aThen, aBlock, argEnv, ev, sput, sputO, binK, binI, unK, builtinK, pickK, Nat.reduceBEq, Nat.reduceAdd, Int.reduceBEq, Int.reduceBNe, Int.reduceLT, aPost, resK, tup, tyf, r103_0_a, r103_0_b]
      refine aw_drawX [(2, 1)] (by kernel_rfl) (by kernel_rfl) (by kernel_rfl) (by kernel_rfl) ?_
      simp (config := {maxSteps := 2000000}) only [s103, ↓aw_region, ↓aw_skip, ↓aw_seq, ↓aw_block, ↓aw_exit, ↓aw_ret, ↓sops_nil, ↓sops_go, ↓dops_nil, ↓dopsX_nil, ↓dopsR_nil, ↓vdn, vup, extr_20, extr_21, extr_30, extr_31, extr_32, List.map_cons, List.map_nil, cond_true, cond_false, aop, aThen, aBlock, argEnv, ev, sput, sputO, binK, binI, unK, builtinK, pickK, Nat.reduceBEq, Nat.reduceAdd, Int.reduceBEq, Int.reduceBNe, Int.reduceLT, aPost, resK, tup, tyf, loadO (rs.box hI.1 hd) shp_77 hlen.2, callK, List.nil_append, List.append_nil, List.toList_toArray, List.cons_append]
      refine ⟨_, _, below_call ho, rfl, ?_⟩
      by_cases hd1 : dn o x &&& left = 0
      · have hd2 : (((dn o x &&& left : Nat) : Int) == 0) = true := by rw [hd1]; rfl
        have hF : gF o k left cur x = behind (cur ++ [(x : Int)]) (lines (ab o) k (Am.bits (less left (2 ^ x)))) := by rw [gF, if_pos hd1]
        have hl1 : (Am.bits (less left (2 ^ x))).length = k := by
          rw [← Ord.bits_erase hx64, List.length_erase_of_mem (mem_bits.2 ⟨hx64, hxb⟩), hn]; rfl
        rw [hF, behind, List.length_map] at hcnt
        simp (config := {maxSteps := 2000000}) only [s103, ↓aw_region, ↓aw_skip, ↓aw_seq, ↓aw_block, ↓aw_exit, ↓aw_ret, ↓sops_nil, ↓sops_go, ↓dops_nil, ↓dopsX_nil, ↓dopsR_nil, ↓vdn, vup, extr_20, extr_21, extr_30, extr_31, extr_32, List.map_cons, List.map_nil, cond_true, cond_false, aop, aThen, aBlock, argEnv, ev, sput, sputO, binK, binI, unK, builtinK, pickK, Nat.reduceBEq, Nat.reduceAdd, Int.reduceBEq, Int.reduceBNe, Int.reduceLT, aPost, resK, tup, tyf, load1 rs.bx shp_3, hand, hd2, load1 rs.gs.l shp_22, litI1]
        have hx1 : Ext (fun _ => False) hk (hk ++ [.ints [(x : Int)] 3 false]) := Ext.app _ _ _
        refine (rs.gs.own.ext hx1 fun _ _ h => h).append app_22_22 (by omega) (get_new _ _) ?_
        intro lv3 h4 ho4 hx4 hb4
        have hx5 : Ext (fun i => blkOf lv1 = some i) hk h4 := (hx1.mono fun _ h => h.elim).trans hx4
        have hb5 : blkOf lv3 = blkOf lv1 ∨ ∃ b, blkOf lv3 = some b ∧ hk.length ≤ b := by
          rcases hb4 with h | ⟨b, h, hl⟩
          · exact .inl h
          · exact .inr ⟨b, h, by simp at hl; omega⟩
        have hbl4 : h4[bl]? = some (.cells [lv1] 22 false) := (hx5.2 bl (get_lt rs.gs.l) (rs.gs.own.notCells rs.gs.l)).trans rs.gs.l
        have rs3 := rs.go (rs.gs.storeL hx5 ho4 hb5) ((hx5.mono fun _ h => .inr (.inr (.inr h))).trans (Ext.set _ (.inr (.inl rfl)))) (.inl rfl) hb5
        have hshl : shlV .i64 1 x = 2 ^ x := shl1 (by omega)
        have h2x : 2 ^ x < 2 ^ o.length := Nat.pow_lt_pow_right (by decide) hx6
        have hand3 : bitsV .andNot .i64 (left : Int) (2 ^ x) = ((less left (2 ^ x) : Nat) : Int) := by
          have := bitsV_andNot (a := left) (b := 2 ^ x) (by omega) (by omega)
          rw [pow_cast] at this; exact this
        simp (config := {maxSteps := 2000000}) only [s103, ↓aw_region, ↓aw_skip, ↓aw_seq, ↓aw_block, ↓aw_exit, ↓aw_ret, ↓sops_nil, ↓sops_go, ↓dops_nil, ↓dopsX_nil, ↓dopsR_nil, ↓vdn, vup, extr_20, extr_21, extr_30, extr_31, extr_32, List.map_cons, List.map_nil, cond_true, cond_false, aop, aThen, aBlock, argEnv, ev, sput, sputO, binK, binI, unK, builtinK, pickK, Nat.reduceBEq, Nat.reduceAdd, Int.reduceBEq, Int.reduceBNe, Int.reduceLT, aPost, resK, tup, tyf, store1 hbl4 shp_22 ho4.one]
        refine aw_drawX [(5, 4)] (by kernel_rfl) (by kernel_rfl) (by kernel_rfl) (by kernel_rfl) ?_
        simp (config := {maxSteps := 2000000}) only [s103, ↓aw_region, ↓aw_skip, ↓aw_seq, ↓aw_block, ↓aw_exit, ↓aw_ret, ↓sops_nil, ↓sops_go, ↓dops_nil, ↓dopsX_nil, ↓dopsR_nil, ↓vdn, vup, extr_20, extr_21, extr_30, extr_31, extr_32, List.map_cons, List.map_nil, cond_true, cond_false, aop, aThen, aBlock, argEnv, ev, sput, sputO, binK, binI, unK, builtinK, pickK, Nat.reduceBEq, Nat.reduceAdd, Int.reduceBEq, Int.reduceBNe, Int.reduceLT, aPost, resK, tup, tyf, load1 (rs3.box hI.2 hg) shp_118, gV, load1 rs3.bx shp_3, hshl, hand3, callK, List.nil_append, List.append_nil, List.toList_toArray, List.cons_append]
        refine (ih (less left (2 ^ x)) (cur ++ [(x : Int)]) _ _ ov1 lv3 rs3.gs hl1 (less_lt hlt) (by simp; omega) (by rw [List.length_append]; omega)).mono ?_
        rintro _ h6 ⟨ov4, lv4, gs6, hx6, hbo6, hbl6⟩
        have rs6 := rs3.go gs6 hx6 hbo6 hbl6
        have hsub6 : subV .i64 ((cur ++ [(x : Int)]).length : Nat) 1 = (cur.length : Int) := by
          rw [List.length_append, List.length_singleton, subV_id (by omega) (by omega)]; omega
        simp (config := {maxSteps := 2000000}) only [s103, ↓aw_region, ↓aw_skip, ↓aw_seq, ↓aw_block, ↓aw_exit, ↓aw_ret, ↓sops_nil, ↓sops_go, ↓dops_nil, ↓dopsX_nil, ↓dopsR_nil, ↓vdn, vup, extr_20, extr_21, extr_30, extr_31, extr_32, List.map_cons, List.map_nil, cond_true, cond_false, aop, aThen, aBlock, argEnv, ev, sput, sputO, binK, binI, unK, builtinK, pickK, Nat.reduceBEq, Nat.reduceAdd, Int.reduceBEq, Int.reduceBNe, Int.reduceLT, aPost, resK, tup, tyf, load1 rs6.gs.l shp_22, rs6.gs.own.int.len, hsub6]
        refine rs6.gs.own.cut el_22 esz_3 ?_
        intro lv5 ho5 hb7
        simp (config := {maxSteps := 2000000}) only [s103, ↓aw_region, ↓aw_skip, ↓aw_seq, ↓aw_block, ↓aw_exit, ↓aw_ret, ↓sops_nil, ↓sops_go, ↓dops_nil, ↓dopsX_nil, ↓dopsR_nil, ↓vdn, vup, extr_20, extr_21, extr_30, extr_31, extr_32, List.map_cons, List.map_nil, cond_true, cond_false, aop, aThen, aBlock, argEnv, ev, sput, sputO, binK, binI, unK, builtinK, pickK, Nat.reduceBEq, Nat.reduceAdd, Int.reduceBEq, Int.reduceBNe, Int.reduceLT, aPost, resK, tup, tyf, store1 rs6.gs.l shp_22 ho5.one, rangeQ]
        refine ⟨ov4, lv5, ?_⟩
        have e1 : Ls ++ (pre ++ [x]).flatMap (gF o k left cur) = Ls ++ pre.flatMap (gF o k left cur) ++ behind (cur ++ [(x : Int)]) (lines (ab o) k (Am.bits (less left (2 ^ x)))) := by
          rw [List.flatMap_append, List.flatMap_singleton, hF, List.append_assoc]
        rw [e1]
        exact rs6.go (rs6.gs.storeL (Ext.refl _ _) ho5 (.inl hb7)) (Ext.set _ (.inr (.inl rfl))) (.inl rfl) (.inl hb7)
      · have hd2 : (((dn o x &&& left : Nat) : Int) == 0) = false := by rw [eq0, decide_eq_false hd1]
        have hF : gF o k left cur x = [] := by rw [gF, if_neg hd1]
        simp (config := {maxSteps := 2000000}) only [s103, ↓aw_region, ↓aw_skip, ↓aw_seq, ↓aw_block, ↓aw_exit, ↓aw_ret, ↓sops_nil, ↓sops_go, ↓dops_nil, ↓dopsX_nil, ↓dopsR_nil, ↓vdn, vup, extr_20, extr_21, extr_30, extr_31, extr_32, List.map_cons, List.map_nil, cond_true, cond_false, aop, aThen, aBlock, argEnv, ev, sput, sputO, binK, binI, unK, builtinK, pickK, Nat.reduceBEq, Nat.reduceAdd, Int.reduceBEq, Int.reduceBNe, Int.reduceLT, aPost, resK, tup, tyf, load1 rs.bx shp_3, hand, hd2, rangeQ]
        refine ⟨ov1, lv1, ?_⟩
        rw [List.flatMap_append, List.flatMap_singleton, hF, List.append_nil]
        exact rs
    · rintro hk ⟨ov1, lv1, rs⟩
      rw [hall] at rs
      simp (config := {maxSteps := 2000000}) only [s103, ↓aw_region, ↓aw_skip, ↓aw_seq, ↓aw_block, ↓aw_exit, ↓aw_ret, ↓sops_nil, ↓sops_go, ↓dops_nil, ↓dopsX_nil, ↓dopsR_nil, ↓vdn, vup, extr_20, extr_21, extr_30, extr_31, extr_32, List.map_cons, List.map_nil, cond_true, cond_false, aop, aThen, aBlock, argEnv, ev, sput, sputO, binK, binI, unK, builtinK, pickK, Nat.reduceBEq, Nat.reduceAdd, Int.reduceBEq, Int.reduceBNe, Int.reduceLT, aPost, resK, tup, tyf]
      exact ⟨ov1, lv1, rs.gs, rs.ext, rs.blko, rs.blkl⟩
end Go.Proofs.Tryd.Am
