/-
  ranks: the first best order, as the reference finds it.
-/
import Derived.Test.YtemmcfeekpblkaaDoorRkAg
set_option linter.all false
namespace Go.Proofs.Tryd.Am
open Go.Am Redei Rb
set_option maxRecDepth 100000
set_option maxHeartbeats 1000000

theorem setLast (g : Heap) (B C : Blk) : (g ++ [B]).set g.length C = g ++ [C] := by rw [List.set_append_right _ _ (Nat.le_refl _), Nat.sub_self]; rfl
abbrev pt (b : Nat) : Value := .pointer (some ⟨b, 0, none⟩)
abbrev iL (L : List Nat) : List Int := L.map Int.ofNat
theorem iL_len (L : List Nat) : (iL L).length = L.length := by simp
theorem iL_snoc (L : List Nat) (i : Nat) : iL L ++ [(i : Int)] = iL (L ++ [i]) := by simp [iL]
def frTo (s t : Nat) : List Nat := (List.range t).filter fun i => !s.testBit i
/-- What is kept when the players below t have been tried. -/
def dfTo (xs : List Int) (k : Nat) (begun : List Nat) (met a : Nat) (st : Nat × List Nat) (t : Nat) : Nat × List Nat :=
  (frTo met t).foldl (fun st i => dfs (cst xs) xs.length k (begun ++ [i]) (met ||| 2 ^ i) (a + cst xs i met) st) st
theorem dfTo_zero {xs : List Int} {k : Nat} {begun : List Nat} {met a : Nat} {st : Nat × List Nat} : dfTo xs k begun met a st 0 = st := rfl
theorem dfTo_skip {xs : List Int} {k : Nat} {begun : List Nat} {met a t : Nat} {st : Nat × List Nat} (h : met.testBit t = true) : dfTo xs k begun met a st (t + 1) = dfTo xs k begun met a st t := by
  rw [dfTo, frTo, List.range_succ, List.filter_append, dfTo, frTo]; simp [h]
theorem dfTo_step {xs : List Int} {k : Nat} {begun : List Nat} {met a t : Nat} {st : Nat × List Nat} (h : met.testBit t = false) :
    dfTo xs k begun met a st (t + 1) = dfs (cst xs) xs.length k (begun ++ [t]) (met ||| 2 ^ t) (a + cst xs t met) (dfTo xs k begun met a st t) := by
  rw [dfTo, frTo, List.range_succ, List.filter_append, dfTo, frTo]; simp [h]

/-- The two boxes of the search. -/
structure BO (h : Heap) (bb bo : Nat) (st : Nat × List Nat) : Prop where
  b : h[bb]? = some (.cells [vint st.1] 3 false)
  o : ∃ ov, h[bo]? = some (.cells [ov] 22 false) ∧ OwnSl 3 h ov (iL st.2)
  ne : bb ≠ bo
abbrev EB (bb bo : Nat) : Heap → Heap → Prop := Ext fun i => i = bb ∨ i = bo
theorem own_ne {h : Heap} {v : Value} {xs : List Int} (ho : OwnSl 3 h v xs) {b : Nat} {c : List Value} {e : TypeId} (hb : h[b]? = some (.cells c e false)) : blkOf v ≠ some b := fun hv => by
  obtain ⟨ys, h1⟩ := ho.ints hv
  rw [hb] at h1; cases h1
theorem BO.own {h h' : Heap} {bb bo : Nat} {st : Nat × List Nat} (B : BO h bb bo st) {v : Value} {xs : List Int} (ho : OwnSl 3 h v xs) (hE : EB bb bo h h') : OwnSl 3 h' v xs := by
  obtain ⟨ov, h1, _⟩ := B.o
  refine ho.ext hE fun b hb hx => ?_
  rcases hx with rfl | rfl
  · exact own_ne ho B.b hb
  · exact own_ne ho h1 hb
theorem BO.ext {h h' : Heap} {bb bo : Nat} {st : Nat × List Nat} (B : BO h bb bo st) (hE : Ext (fun _ => False) h h') : BO h' bb bo st := by
  obtain ⟨ov, h1, h2⟩ := B.o
  exact ⟨(hE.2 _ (get_lt B.b) id).trans B.b, ⟨ov, (hE.2 _ (get_lt h1) id).trans h1, h2.ext hE fun _ _ => id⟩, B.ne⟩
theorem intSl_but {h h' : Heap} {v : Value} {xs : List Int} {bb bo : Nat} (hv : IntSl h v xs) (hn : blkOf v ≠ some bb ∧ blkOf v ≠ some bo) (hE : EB bb bo h h') : IntSl h' v xs :=
  hv.same fun b hb => hE.2 b (hv.lt hb) fun e => by
    rcases e with rfl | rfl
    · exact hn.1 hb
    · exact hn.2 hb
theorem own_one {h : Heap} {v : Value} {xs : List Int} (ho : OwnSl 3 h v xs) : one v = true := ho.notI.2

theorem litI1 {h : Heap} {x : Int} (K : Value → Heap → Prop) : buildSliceK prog h 22 1 [(0, vint x)] K = K (.slice (some ⟨h.length, 0, none⟩) 1 1) (h ++ [.ints [x] 3 false]) := by
  simp only [buildSliceK, el_22, zero_3, esz_3, reps, fillL, mkb, intsOf, notTuple, cellsOf, List.length_singleton, Nat.mul_one, Nat.zero_mul, Nat.zero_add]
  exact propext ⟨fun h => h.2.2.2, fun h => ⟨trivial, by decide, by decide, h⟩⟩
theorem cap22 {h : Heap} {v : Value} {L : List Nat} {K : Value → Prop} (ho : OwnSl 3 h v (iL L)) (hk : ∀ v', (v' = .slice none 0 0 ∧ iL L = []) ∨ (∃ (b : Nat) (ys : List Int), v' = .slice (some ⟨b, 0, none⟩) (iL L).length (iL L).length ∧ h[b]? = some (.ints (iL L ++ ys) 3 false)) → K v') :
    sliceK prog 22 v none (some (vint L.length)) (some (vint L.length)) K := by
  have := ho.cap (P := prog) (t := 22) el_22 esz_3 hk
  rw [iL_len] at this
  exact this
theorem s76_callW [Tabs Tryd.prog] {args : List Value} {h : Heap} {Q : Value → Heap → Prop} (hsz : args.length ≤ 66) (hk : AWS Tryd.prog 66 s76 (aPost Tryd.prog [] Q) (argEnv 0 args) h) : ACall Tryd.prog 76 args h Q :=
  acall_w Tryd.func76 rfl (enters_of Tryd.func76 (by kernel_rfl) rfl) rfl rfl (by decide) s76_strip s76_ok hsz hk
theorem rorder_call [Tabs prog] {gv : Value} {xs : List Int} {bb bo : Nat} (ht : trn xs = true) (hgb : blkOf gv ≠ some bb ∧ blkOf gv ≠ some bo) : ∀ (k : Nat) {h : Heap} {v : Value} {begun : List Nat} {met a : Nat} {st : Nat × List Nat},
    IntSl h gv xs → BO h bb bo st → OwnSl 3 h v (iL begun) → met < 2 ^ xs.length → (fr xs.length met).length = k → begun.length + k = xs.length → a ≤ begun.length * 64 →
    ACall prog 76 [gv, v, vint met, vint a, pt bb, pt bo] h fun _ h' => BO h' bb bo (dfs (cst xs) xs.length k begun met a st) ∧ EB bb bo h h' := by
  have hnn : ∀ i : Nat, (0 : Int) ≤ (i : Int) := Int.natCast_nonneg
  have hxl : 1 ≤ xs.length ∧ xs.length ≤ 8 := by simp only [trn, Bool.and_eq_true, decide_eq_true_eq] at ht; omega
  have h256 := pow8N hxl.2
  intro k
  induction k with
  | zero =>
    intro h v begun met a st hg B ho hm hk hbl ha
    obtain ⟨ov, hbo, hoo⟩ := B.o
    refine s76_callW (by simp) ?_
    simp only [s76]
    refine aws_cut fun N1 hN1 => ?_
    by_cases hge : st.1 ≤ a
    · have hge2 : ((st.1 : Nat) : Int) ≤ (a : Int) := by omega
      simp (config := {maxSteps := 2000000}) only [s76, ↓aw_region, ↓aw_skip, ↓aw_seq, ↓aw_block, ↓aw_exit, ↓aw_ret, ↓sops_nil, ↓sops_go, ↓dops_nil, ↓dopsX_nil, ↓dopsR_nil, ↓vdn, vup, extr_20, extr_21, extr_30, extr_31, extr_32, List.map_cons, List.map_nil, cond_true, cond_false, aop, aThen, aBlock, argEnv, ev, sput, sputO, binK, binI, unK, builtinK, pickK, Nat.reduceBEq, Nat.reduceAdd, Int.reduceBEq, Int.reduceBNe, Int.reduceLT, aPost, resK, tup, tyf, nilK, load1 B.b shp_3, ge_iff_le, hge2]
      rw [dfs, if_pos hge]
      exact ⟨B, Ext.refl _ _⟩
    · have hge2 : ¬ ((st.1 : Nat) : Int) ≤ (a : Int) := by omega
      simp (config := {maxSteps := 2000000}) only [s76, ↓aw_region, ↓aw_skip, ↓aw_seq, ↓aw_block, ↓aw_exit, ↓aw_ret, ↓sops_nil, ↓sops_go, ↓dops_nil, ↓dopsX_nil, ↓dopsR_nil, ↓vdn, vup, extr_20, extr_21, extr_30, extr_31, extr_32, List.map_cons, List.map_nil, cond_true, cond_false, aop, aThen, aBlock, argEnv, ev, sput, sputO, binK, binI, unK, builtinK, pickK, Nat.reduceBEq, Nat.reduceAdd, Int.reduceBEq, Int.reduceBNe, Int.reduceLT, aPost, resK, tup, tyf, nilK, load1 B.b shp_3, ge_iff_le, hge2]
      refine hN1 [(0, gv), (1, v), (2, vint met), (3, vint a), (4, pt bb), (5, pt bo)] _ _ ?_ (by simp (config := {maxSteps := 2000000}) only [↓aw_region, ↓aw_skip, ↓aw_seq, ↓aw_block, ↓aw_exit, ↓aw_ret, ↓sops_nil, ↓sops_go, ↓dops_nil, ↓dopsX_nil, ↓dopsR_nil, ↓vdn, vup, extr_20, extr_21, extr_30, extr_31, extr_32, List.map_cons, List.map_nil, cond_true, cond_false, aop, aThen, aBlock, argEnv, ev, sput, sputO, binK, binI, unK, builtinK, pickK, Nat.reduceBEq, Nat.reduceAdd, Int.reduceBEq, Int.reduceBNe, Int.reduceLT, aPost, resK, tup, tyf])
      clear hN1
      try clear N1
      refine aws_cut fun N2 hN2 => ?_
      simp (config := {maxSteps := 2000000}) only [s76, ↓aw_region, ↓aw_skip, ↓aw_seq, ↓aw_block, ↓aw_exit, ↓aw_ret, ↓sops_nil, ↓sops_go, ↓dops_nil, ↓dopsX_nil, ↓dopsR_nil, ↓vdn, vup, extr_20, extr_21, extr_30, extr_31, extr_32, List.map_cons, List.map_nil, cond_true, cond_false, aop, aThen, aBlock, argEnv, ev, sput, sputO, binK, binI, unK, builtinK, pickK, Nat.reduceBEq, Nat.reduceAdd, Int.reduceBEq, Int.reduceBNe, Int.reduceLT, aPost, resK, tup, tyf, ho.int.len, iL_len, List.length_map]
      refine hN2 [(0, gv), (1, v), (2, vint met), (3, vint a), (4, pt bb), (5, pt bo), (12, vint begun.length)] _ _ ?_ (by simp (config := {maxSteps := 2000000}) only [↓aw_region, ↓aw_skip, ↓aw_seq, ↓aw_block, ↓aw_exit, ↓aw_ret, ↓sops_nil, ↓sops_go, ↓dops_nil, ↓dopsX_nil, ↓dopsR_nil, ↓vdn, vup, extr_20, extr_21, extr_30, extr_31, extr_32, List.map_cons, List.map_nil, cond_true, cond_false, aop, aThen, aBlock, argEnv, ev, sput, sputO, binK, binI, unK, builtinK, pickK, Nat.reduceBEq, Nat.reduceAdd, Int.reduceBEq, Int.reduceBNe, Int.reduceLT, aPost, resK, tup, tyf])
      clear hN2
      try clear N2
      have hii : ((begun.length : Int) == (xs.length : Int)) = true := by rw [beq_iff_eq]; omega
      have hbo2 : (h.set bb (.cells [vint a] 3 false))[bo]? = some (.cells [ov] 22 false) := by rw [List.getElem?_set_ne B.ne]; exact hbo
      refine aws_cut fun N3 hN3 => ?_
      simp (config := {maxSteps := 2000000}) only [s76, ↓aw_region, ↓aw_skip, ↓aw_seq, ↓aw_block, ↓aw_exit, ↓aw_ret, ↓sops_nil, ↓sops_go, ↓dops_nil, ↓dopsX_nil, ↓dopsR_nil, ↓vdn, vup, extr_20, extr_21, extr_30, extr_31, extr_32, List.map_cons, List.map_nil, cond_true, cond_false, aop, aThen, aBlock, argEnv, ev, sput, sputO, binK, binI, unK, builtinK, pickK, Nat.reduceBEq, Nat.reduceAdd, Int.reduceBEq, Int.reduceBNe, Int.reduceLT, aPost, resK, tup, tyf, hg.len, hii, nilK, Am.storeI B.b shp_3, store1 hbo2 shp_22 (own_one ho)]
      rw [dfs, if_neg hge]
      have hE : EB bb bo h ((h.set bb (.cells [vint a] 3 false)).set bo (.cells [v] 22 false)) := (Ext.set _ (.inl rfl)).trans (Ext.set _ (.inr rfl))
      refine ⟨⟨?_, ⟨v, get_set (get_lt hbo2) _, B.own ho hE⟩, B.ne⟩, hE⟩
      rw [List.getElem?_set_ne (Ne.symm B.ne)]
      exact get_set (get_lt B.b) _
  | succ k ih =>
    intro h v begun met a st hg B ho hm hk hbl ha
    refine s76_callW (by simp) ?_
    simp only [s76]
    refine aws_cut fun N4 hN4 => ?_
    by_cases hge : st.1 ≤ a
    · have hge2 : ((st.1 : Nat) : Int) ≤ (a : Int) := by omega
      simp (config := {maxSteps := 2000000}) only [s76, ↓aw_region, ↓aw_skip, ↓aw_seq, ↓aw_block, ↓aw_exit, ↓aw_ret, ↓sops_nil, ↓sops_go, ↓dops_nil, ↓dopsX_nil, ↓dopsR_nil, ↓vdn, vup, extr_20, extr_21, extr_30, extr_31, extr_32, List.map_cons, List.map_nil, cond_true, cond_false, aop, aThen, aBlock, argEnv, ev, sput, sputO, binK, binI, unK, builtinK, pickK, Nat.reduceBEq, Nat.reduceAdd, Int.reduceBEq, Int.reduceBNe, Int.reduceLT, aPost, resK, tup, tyf, nilK, load1 B.b shp_3, ge_iff_le, hge2]
      rw [dfs, if_pos hge]
      exact ⟨B, Ext.refl _ _⟩
    have hge2 : ¬ ((st.1 : Nat) : Int) ≤ (a : Int) := by omega
    simp (config := {maxSteps := 2000000}) only [s76, ↓aw_region, ↓aw_skip, ↓aw_seq, ↓aw_block, ↓aw_exit, ↓aw_ret, ↓sops_nil, ↓sops_go, ↓dops_nil, ↓dopsX_nil, ↓dopsR_nil, ↓vdn, vup, extr_20, extr_21, extr_30, extr_31, extr_32, List.map_cons, List.map_nil, cond_true, cond_false, aop, aThen, aBlock, argEnv, ev, sput, sputO, binK, binI, unK, builtinK, pickK, Nat.reduceBEq, Nat.reduceAdd, Int.reduceBEq, Int.reduceBNe, Int.reduceLT, aPost, resK, tup, tyf, nilK, load1 B.b shp_3, ge_iff_le, hge2]
    refine hN4 [(0, gv), (1, v), (2, vint met), (3, vint a), (4, pt bb), (5, pt bo)] _ _ ?_ (by simp (config := {maxSteps := 2000000}) only [↓aw_region, ↓aw_skip, ↓aw_seq, ↓aw_block, ↓aw_exit, ↓aw_ret, ↓sops_nil, ↓sops_go, ↓dops_nil, ↓dopsX_nil, ↓dopsR_nil, ↓vdn, vup, extr_20, extr_21, extr_30, extr_31, extr_32, List.map_cons, List.map_nil, cond_true, cond_false, aop, aThen, aBlock, argEnv, ev, sput, sputO, binK, binI, unK, builtinK, pickK, Nat.reduceBEq, Nat.reduceAdd, Int.reduceBEq, Int.reduceBNe, Int.reduceLT, aPost, resK, tup, tyf])
    clear hN4
    try clear N4
    refine aws_cut fun N5 hN5 => ?_
    simp (config := {maxSteps := 2000000}) only [s76, ↓aw_region, ↓aw_skip, ↓aw_seq, ↓aw_block, ↓aw_exit, ↓aw_ret, ↓sops_nil, ↓sops_go, ↓dops_nil, ↓dopsX_nil, ↓dopsR_nil, ↓vdn, vup, extr_20, extr_21, extr_30, extr_31, extr_32, List.map_cons, List.map_nil, cond_true, cond_false, aop, aThen, aBlock, argEnv, ev, sput, sputO, binK, binI, unK, builtinK, pickK, Nat.reduceBEq, Nat.reduceAdd, Int.reduceBEq, Int.reduceBNe, Int.reduceLT, aPost, resK, tup, tyf, ho.int.len, iL_len, List.length_map]
    refine hN5 [(0, gv), (1, v), (2, vint met), (3, vint a), (4, pt bb), (5, pt bo), (12, vint begun.length)] _ _ ?_ (by simp (config := {maxSteps := 2000000}) only [↓aw_region, ↓aw_skip, ↓aw_seq, ↓aw_block, ↓aw_exit, ↓aw_ret, ↓sops_nil, ↓sops_go, ↓dops_nil, ↓dopsX_nil, ↓dopsR_nil, ↓vdn, vup, extr_20, extr_21, extr_30, extr_31, extr_32, List.map_cons, List.map_nil, cond_true, cond_false, aop, aThen, aBlock, argEnv, ev, sput, sputO, binK, binI, unK, builtinK, pickK, Nat.reduceBEq, Nat.reduceAdd, Int.reduceBEq, Int.reduceBNe, Int.reduceLT, aPost, resK, tup, tyf])
    clear hN5
    try clear N5
    have hii : ((begun.length : Int) == (xs.length : Int)) = false := by rw [beq_eq_false_iff_ne]; omega
    refine aws_cut fun N6 hN6 => ?_
    simp (config := {maxSteps := 2000000}) only [s76, ↓aw_region, ↓aw_skip, ↓aw_seq, ↓aw_block, ↓aw_exit, ↓aw_ret, ↓sops_nil, ↓sops_go, ↓dops_nil, ↓dopsX_nil, ↓dopsR_nil, ↓vdn, vup, extr_20, extr_21, extr_30, extr_31, extr_32, List.map_cons, List.map_nil, cond_true, cond_false, aop, aThen, aBlock, argEnv, ev, sput, sputO, binK, binI, unK, builtinK, pickK, Nat.reduceBEq, Nat.reduceAdd, Int.reduceBEq, Int.reduceBNe, Int.reduceLT, aPost, resK, tup, tyf, hg.len, hii]
    refine hN6 [(0, gv), (1, v), (2, vint met), (3, vint a), (4, pt bb), (5, pt bo), (12, vint begun.length)] _ _ ?_ (by simp (config := {maxSteps := 2000000}) only [↓aw_region, ↓aw_skip, ↓aw_seq, ↓aw_block, ↓aw_exit, ↓aw_ret, ↓sops_nil, ↓sops_go, ↓dops_nil, ↓dopsX_nil, ↓dopsR_nil, ↓vdn, vup, extr_20, extr_21, extr_30, extr_31, extr_32, List.map_cons, List.map_nil, cond_true, cond_false, aop, aThen, aBlock, argEnv, ev, sput, sputO, binK, binI, unK, builtinK, pickK, Nat.reduceBEq, Nat.reduceAdd, Int.reduceBEq, Int.reduceBNe, Int.reduceLT, aPost, resK, tup, tyf])
    clear hN6
    try clear N6
    refine aws_cut fun N7 hN7 => ?_
    simp (config := {maxSteps := 2000000}) only [s76, ↓aw_region, ↓aw_skip, ↓aw_seq, ↓aw_block, ↓aw_exit, ↓aw_ret, ↓sops_nil, ↓sops_go, ↓dops_nil, ↓dopsX_nil, ↓dopsR_nil, ↓vdn, vup, extr_20, extr_21, extr_30, extr_31, extr_32, List.map_cons, List.map_nil, cond_true, cond_false, aop, aThen, aBlock, argEnv, ev, sput, sputO, binK, binI, unK, builtinK, pickK, Nat.reduceBEq, Nat.reduceAdd, Int.reduceBEq, Int.reduceBNe, Int.reduceLT, aPost, resK, tup, tyf, hg.len]
    refine hN7 [(0, gv), (1, v), (2, vint met), (3, vint a), (4, pt bb), (5, pt bo), (12, vint begun.length), (32, gv), (33, vint xs.length), (34, .int .i64 0)] _ _ ?_ (by simp (config := {maxSteps := 2000000}) only [↓aw_region, ↓aw_skip, ↓aw_seq, ↓aw_block, ↓aw_exit, ↓aw_ret, ↓sops_nil, ↓sops_go, ↓dops_nil, ↓dopsX_nil, ↓dopsR_nil, ↓vdn, vup, extr_20, extr_21, extr_30, extr_31, extr_32, List.map_cons, List.map_nil, cond_true, cond_false, aop, aThen, aBlock, argEnv, ev, sput, sputO, binK, binI, unK, builtinK, pickK, Nat.reduceBEq, Nat.reduceAdd, Int.reduceBEq, Int.reduceBNe, Int.reduceLT, aPost, resK, tup, tyf])
    clear hN7
    try clear N7
    refine aws_block ?_
    refine aws_hide fun Q hQ => ?_
    refine aw_loopW (γ := Nat × Heap) (fun s => s.1 ≤ xs.length ∧ EB bb bo h s.2 ∧ BO s.2 bb bo (dfTo xs k begun met a st s.1))
      (fun s => ([(0, gv), (1, v), (2, vint met), (3, vint a), (4, pt bb), (5, pt bo), (12, vint begun.length), (32, gv), (33, vint xs.length), (34, vint s.1)], s.2)) (fun s => xs.length - s.1) (0, h) ⟨Nat.zero_le _, Ext.refl _ _, by rw [dfTo_zero]; exact B⟩ (by simp (config := {maxSteps := 2000000}) only [↓aw_region, ↓aw_skip, ↓aw_seq, ↓aw_block, ↓aw_exit, ↓aw_ret, ↓sops_nil, ↓sops_go, ↓dops_nil, ↓dopsX_nil, ↓dopsR_nil, ↓vdn, vup, extr_20, extr_21, extr_30, extr_31, extr_32, List.map_cons, List.map_nil, cond_true, cond_false, aop, aThen, aBlock, argEnv, ev, sput, sputO, binK, binI, unK, builtinK, pickK, Nat.reduceBEq, Nat.reduceAdd, Int.reduceBEq, Int.reduceBNe, Int.reduceLT, aPost, resK, tup, tyf, Int.natCast_zero]) rfl ?_
    rintro ⟨i, hp⟩ ⟨hi, hE, Bp⟩
    simp only at hi hE Bp
    refine aws_hide fun Q2 hQ2 => ?_
    simp only [l76_0]
    by_cases hin : (i : Int) < xs.length
    · have hi' : i < xs.length := by omega
      have hgp := intSl_but hg hgb hE
      have hop := B.own ho hE
      obtain ⟨hX, hXl⟩ := trn_nat ht hi'
      obtain ⟨X, hXe⟩ : ∃ X, X = (xs.getD i 0).toNat := ⟨_, rfl⟩
      have hcX : cst xs i met = (Am.bits (X &&& met)).length := by rw [cst, ← hXe]
      rw [← hXe] at hX hXl
      refine aws_cut fun N8 hN8 => ?_
      simp (config := {maxSteps := 2000000}) only [s76, ↓aw_region, ↓aw_skip, ↓aw_seq, ↓aw_block, ↓aw_exit, ↓aw_ret, ↓sops_nil, ↓sops_go, ↓dops_nil, ↓dopsX_nil, ↓dopsR_nil, ↓vdn, vup, extr_20, extr_21, extr_30, extr_31, extr_32, List.map_cons, List.map_nil, cond_true, cond_false, aop, aThen, aBlock, argEnv, ev, sput, sputO, binK, binI, unK, builtinK, pickK, Nat.reduceBEq, Nat.reduceAdd, Int.reduceBEq, Int.reduceBNe, Int.reduceLT, aPost, resK, tup, tyf, hin]
      refine hN8 [(0, gv), (1, v), (2, vint met), (3, vint a), (4, pt bb), (5, pt bo), (12, vint begun.length), (32, gv), (33, vint xs.length), (34, vint i), (35, .bool true)] _ _ ?_ (by simp (config := {maxSteps := 2000000}) only [↓aw_region, ↓aw_skip, ↓aw_seq, ↓aw_block, ↓aw_exit, ↓aw_ret, ↓sops_nil, ↓sops_go, ↓dops_nil, ↓dopsX_nil, ↓dopsR_nil, ↓vdn, vup, extr_20, extr_21, extr_30, extr_31, extr_32, List.map_cons, List.map_nil, cond_true, cond_false, aop, aThen, aBlock, argEnv, ev, sput, sputO, binK, binI, unK, builtinK, pickK, Nat.reduceBEq, Nat.reduceAdd, Int.reduceBEq, Int.reduceBNe, Int.reduceLT, aPost, resK, tup, tyf])
      clear hN8
      try clear N8
      refine aws_cut fun N9 hN9 => ?_
      simp (config := {maxSteps := 2000000}) only [s76, ↓aw_region, ↓aw_skip, ↓aw_seq, ↓aw_block, ↓aw_exit, ↓aw_ret, ↓sops_nil, ↓sops_go, ↓dops_nil, ↓dopsX_nil, ↓dopsR_nil, ↓vdn, vup, extr_20, extr_21, extr_30, extr_31, extr_32, List.map_cons, List.map_nil, cond_true, cond_false, aop, aThen, aBlock, argEnv, ev, sput, sputO, binK, binI, unK, builtinK, pickK, Nat.reduceBEq, Nat.reduceAdd, Int.reduceBEq, Int.reduceBNe, Int.reduceLT, aPost, resK, tup, tyf]
      refine hN9 [(0, gv), (1, v), (2, vint met), (3, vint a), (4, pt bb), (5, pt bo), (12, vint begun.length), (32, gv), (33, vint xs.length), (34, vint i)] _ _ ?_ (by simp (config := {maxSteps := 2000000}) only [↓aw_region, ↓aw_skip, ↓aw_seq, ↓aw_block, ↓aw_exit, ↓aw_ret, ↓sops_nil, ↓sops_go, ↓dops_nil, ↓dopsX_nil, ↓dopsR_nil, ↓vdn, vup, extr_20, extr_21, extr_30, extr_31, extr_32, List.map_cons, List.map_nil, cond_true, cond_false, aop, aThen, aBlock, argEnv, ev, sput, sputO, binK, binI, unK, builtinK, pickK, Nat.reduceBEq, Nat.reduceAdd, Int.reduceBEq, Int.reduceBNe, Int.reduceLT, aPost, resK, tup, tyf])
      clear hN9
      try clear N9
      refine aws_cutW fun K hK => ?_
      have fin : ∀ hq, EB bb bo h hq → BO hq bb bo (dfTo xs k begun met a st (i + 1)) → ∀ e, ELe e [(0, gv), (1, v), (2, vint met), (3, vint a), (4, pt bb), (5, pt bo), (12, vint begun.length), (32, gv), (33, vint xs.length), (34, vint i)] → K e hq := by
        intro hq hE2 B2 e he
        refine hK [(0, gv), (1, v), (2, vint met), (3, vint a), (4, pt bb), (5, pt bo), (12, vint begun.length), (32, gv), (33, vint xs.length), (34, vint i)] _ _ ?_ he
        refine aw_aws ?_
        simp (config := {maxSteps := 2000000}) only [s76, ↓aw_region, ↓aw_skip, ↓aw_seq, ↓aw_block, ↓aw_exit, ↓aw_ret, ↓sops_nil, ↓sops_go, ↓dops_nil, ↓dopsX_nil, ↓dopsR_nil, ↓vdn, vup, extr_20, extr_21, extr_30, extr_31, extr_32, List.map_cons, List.map_nil, cond_true, cond_false, aop, aThen, aBlock, argEnv, ev, sput, sputO, binK, binI, unK, builtinK, pickK, Nat.reduceBEq, Nat.reduceAdd, Int.reduceBEq, Int.reduceBNe, Int.reduceLT, aPost, resK, tup, tyf, add1 (show i < 9223372036854775807 by omega)]
        exact hQ2 _ _ _ ⟨(i + 1, hq), ⟨by simp only; omega, hE2, B2⟩, by simp only; omega, by simp (config := {maxSteps := 2000000}) only [↓aw_region, ↓aw_skip, ↓aw_seq, ↓aw_block, ↓aw_exit, ↓aw_ret, ↓sops_nil, ↓sops_go, ↓dops_nil, ↓dopsX_nil, ↓dopsR_nil, ↓vdn, vup, extr_20, extr_21, extr_30, extr_31, extr_32, List.map_cons, List.map_nil, cond_true, cond_false, aop, aThen, aBlock, argEnv, ev, sput, sputO, binK, binI, unK, builtinK, pickK, Nat.reduceBEq, Nat.reduceAdd, Int.reduceBEq, Int.reduceBNe, Int.reduceLT, aPost, resK, tup, tyf], rfl⟩
      clear hK
      refine aws_block ?_
      refine aws_cut fun N10 hN10 => ?_
      simp (config := {maxSteps := 2000000}) only [s76, ↓aw_region, ↓aw_skip, ↓aw_seq, ↓aw_block, ↓aw_exit, ↓aw_ret, ↓sops_nil, ↓sops_go, ↓dops_nil, ↓dopsX_nil, ↓dopsR_nil, ↓vdn, vup, extr_20, extr_21, extr_30, extr_31, extr_32, List.map_cons, List.map_nil, cond_true, cond_false, aop, aThen, aBlock, argEnv, ev, sput, sputO, binK, binI, unK, builtinK, pickK, Nat.reduceBEq, Nat.reduceAdd, Int.reduceBEq, Int.reduceBNe, Int.reduceLT, aPost, resK, tup, tyf, hgp.idx el_22 esz_3 hi', hgp.load shp_3 hi', hX]
      refine hN10 [(0, gv), (1, v), (2, vint met), (3, vint a), (4, pt bb), (5, pt bo), (12, vint begun.length), (13, vint i), (14, vint X), (32, gv), (33, vint xs.length), (34, vint i)] _ _ ?_ (by simp (config := {maxSteps := 2000000}) only [↓aw_region, ↓aw_skip, ↓aw_seq, ↓aw_block, ↓aw_exit, ↓aw_ret, ↓sops_nil, ↓sops_go, ↓dops_nil, ↓dopsX_nil, ↓dopsR_nil, ↓vdn, vup, extr_20, extr_21, extr_30, extr_31, extr_32, List.map_cons, List.map_nil, cond_true, cond_false, aop, aThen, aBlock, argEnv, ev, sput, sputO, binK, binI, unK, builtinK, pickK, Nat.reduceBEq, Nat.reduceAdd, Int.reduceBEq, Int.reduceBNe, Int.reduceLT, aPost, resK, tup, tyf])
      clear hN10
      try clear N10
      refine aw_aws ?_
      cases hb : met.testBit i with
      | true =>
        simp (config := {maxSteps := 2000000}) only [s76, ↓aw_region, ↓aw_skip, ↓aw_seq, ↓aw_block, ↓aw_exit, ↓aw_ret, ↓sops_nil, ↓sops_go, ↓dops_nil, ↓dopsX_nil, ↓dopsR_nil, ↓vdn, vup, extr_20, extr_21, extr_30, extr_31, extr_32, List.map_cons, List.map_nil, cond_true, cond_false, aop, aThen, aBlock, argEnv, ev, sput, sputO, binK, binI, unK, builtinK, pickK, Nat.reduceBEq, Nat.reduceAdd, Int.reduceBEq, Int.reduceBNe, Int.reduceLT, aPost, resK, tup, tyf, hnn, testV (show met < 9223372036854775808 by omega), hb, beq0, if_true, Bool.not_true]
        exact fin hp hE (by rw [dfTo_skip hb]; exact Bp) _ (by simp (config := {maxSteps := 2000000}) only [↓aw_region, ↓aw_skip, ↓aw_seq, ↓aw_block, ↓aw_exit, ↓aw_ret, ↓sops_nil, ↓sops_go, ↓dops_nil, ↓dopsX_nil, ↓dopsR_nil, ↓vdn, vup, extr_20, extr_21, extr_30, extr_31, extr_32, List.map_cons, List.map_nil, cond_true, cond_false, aop, aThen, aBlock, argEnv, ev, sput, sputO, binK, binI, unK, builtinK, pickK, Nat.reduceBEq, Nat.reduceAdd, Int.reduceBEq, Int.reduceBNe, Int.reduceLT, aPost, resK, tup, tyf])
      | false =>
        have p2 : 2 ^ i ≤ 2 ^ 8 := Nat.pow_le_pow_right (by decide) (by omega)
        have hor : bitsV .or .i64 ((met : Nat) : Int) ((2 ^ i : Nat) : Int) = ((met ||| 2 ^ i : Nat) : Int) := bitsV_or (by omega) (by omega)
        have hand : bitsV .and .i64 ((X : Nat) : Int) ((met : Nat) : Int) = ((X &&& met : Nat) : Int) := bitsV_and (by omega) (by omega)
        have hal : X &&& met < 9223372036854775808 := Nat.lt_of_le_of_lt Nat.and_le_right (by omega)
        have hc64 : cst xs i met ≤ 64 := by
          rw [hcX, bitsLen]
          have := List.countP_le_length (p := (X &&& met).testBit) (l := List.range 64)
          rw [List.length_range] at this; exact this
        have hadd : addV .i64 ((a : Nat) : Int) (((Am.bits (X &&& met)).length : Nat) : Int) = ((a + cst xs i met : Nat) : Int) := by
          rw [← hcX]
          rw [addV_id (by omega) (by omega)]; omega
        simp (config := {maxSteps := 2000000}) only [s76, ↓aw_region, ↓aw_skip, ↓aw_seq, ↓aw_block, ↓aw_exit, ↓aw_ret, ↓sops_nil, ↓sops_go, ↓dops_nil, ↓dopsX_nil, ↓dopsR_nil, ↓vdn, vup, extr_20, extr_21, extr_30, extr_31, extr_32, List.map_cons, List.map_nil, cond_true, cond_false, aop, aThen, aBlock, argEnv, ev, sput, sputO, binK, binI, unK, builtinK, pickK, Nat.reduceBEq, Nat.reduceAdd, Int.reduceBEq, Int.reduceBNe, Int.reduceLT, aPost, resK, tup, tyf, hnn, testV (show met < 9223372036854775808 by omega), hb, beq0, Bool.false_eq_true, if_false, Bool.not_false]
        refine aw_drawX [(16, 1), (20, 4)] (by kernel_rfl) (by kernel_rfl) (by kernel_rfl) (by kernel_rfl) ?_
        simp (config := {maxSteps := 2000000}) only [s76, ↓aw_region, ↓aw_skip, ↓aw_seq, ↓aw_block, ↓aw_exit, ↓aw_ret, ↓sops_nil, ↓sops_go, ↓dops_nil, ↓dopsX_nil, ↓dopsR_nil, ↓vdn, vup, extr_20, extr_21, extr_30, extr_31, extr_32, List.map_cons, List.map_nil, cond_true, cond_false, aop, aThen, aBlock, argEnv, ev, sput, sputO, binK, binI, unK, builtinK, pickK, Nat.reduceBEq, Nat.reduceAdd, Int.reduceBEq, Int.reduceBNe, Int.reduceLT, aPost, resK, tup, tyf, Option.map_some, Option.map_none]
        refine cap22 hop fun cv hcv => ?_
        simp (config := {maxSteps := 2000000}) only [s76, ↓aw_region, ↓aw_skip, ↓aw_seq, ↓aw_block, ↓aw_exit, ↓aw_ret, ↓sops_nil, ↓sops_go, ↓dops_nil, ↓dopsX_nil, ↓dopsR_nil, ↓vdn, vup, extr_20, extr_21, extr_30, extr_31, extr_32, List.map_cons, List.map_nil, cond_true, cond_false, aop, aThen, aBlock, argEnv, ev, sput, sputO, binK, binI, unK, builtinK, pickK, Nat.reduceBEq, Nat.reduceAdd, Int.reduceBEq, Int.reduceBNe, Int.reduceLT, aPost, resK, tup, tyf, litI1]
        refine capApp (hcv.imp id fun ⟨b, ys, h1, h2⟩ => ⟨b, ys, h1, get_old h2 _⟩) app_22_22 (by rw [iL_len]; omega) (get_new _ _) fun nv hnv => ?_
        rw [iL_snoc] at hnv
        have hE2 : Ext (fun _ => False) hp (hp ++ [Blk.ints [(i : Int)] 3 false] ++ [.ints (iL begun ++ [(i : Int)]) 3 false]) := (Ext.app _ _ _).trans (Ext.app _ _ _)
        rw [iL_snoc] at hE2 ⊢
        generalize hp ++ [Blk.ints [(i : Int)] 3 false] ++ [.ints (iL (begun ++ [i])) 3 false] = h2 at hnv hE2 ⊢
        simp (config := {maxSteps := 2000000}) only [s76, ↓aw_region, ↓aw_skip, ↓aw_seq, ↓aw_block, ↓aw_exit, ↓aw_ret, ↓sops_nil, ↓sops_go, ↓dops_nil, ↓dopsX_nil, ↓dopsR_nil, ↓vdn, vup, extr_20, extr_21, extr_30, extr_31, extr_32, List.map_cons, List.map_nil, cond_true, cond_false, aop, aThen, aBlock, argEnv, ev, sput, sputO, binK, binI, unK, builtinK, pickK, Nat.reduceBEq, Nat.reduceAdd, Int.reduceBEq, Int.reduceBNe, Int.reduceLT, aPost, resK, tup, tyf, hnn, shlI1 (show i ≤ 62 by omega), hor, hand, callK, List.nil_append, List.append_nil, List.toList_toArray, List.cons_append]
        refine ⟨_, _, size79_call hal, rfl, ?_⟩
        simp (config := {maxSteps := 2000000}) only [s76, ↓aw_region, ↓aw_skip, ↓aw_seq, ↓aw_block, ↓aw_exit, ↓aw_ret, ↓sops_nil, ↓sops_go, ↓dops_nil, ↓dopsX_nil, ↓dopsR_nil, ↓vdn, vup, extr_20, extr_21, extr_30, extr_31, extr_32, List.map_cons, List.map_nil, cond_true, cond_false, aop, aThen, aBlock, argEnv, ev, sput, sputO, binK, binI, unK, builtinK, pickK, Nat.reduceBEq, Nat.reduceAdd, Int.reduceBEq, Int.reduceBNe, Int.reduceLT, aPost, resK, tup, tyf, hadd, callK, List.nil_append, List.append_nil, List.toList_toArray, List.cons_append]
        have hEb : EB bb bo hp h2 := hE2.mono fun _ h => h.elim
        refine (ih (intSl_but hgp hgb hEb) (Bp.ext hE2) hnv (put_lt hm hi') (by have := fr_put (mem_fr.2 ⟨hi', hb⟩); omega) (by rw [List.length_append, List.length_singleton]; omega) (by rw [List.length_append, List.length_singleton]; omega)).mono ?_
        rintro _ h3 ⟨B3, hE3⟩
        rw [← dfTo_step hb] at B3
        try simp (config := {maxSteps := 2000000}) only [s76, ↓aw_region, ↓aw_skip, ↓aw_seq, ↓aw_block, ↓aw_exit, ↓aw_ret, ↓sops_nil, ↓sops_go, ↓dops_nil, ↓dopsX_nil, ↓dopsR_nil, ↓vdn, vup, extr_20, extr_21, extr_30, extr_31, extr_32, List.map_cons, List.map_nil, cond_true, cond_false, aop, aThen, aBlock, argEnv, ev, sput, sputO, binK, binI, unK, builtinK, pickK, Nat.reduceBEq, Nat.reduceAdd, Int.reduceBEq, Int.reduceBNe, Int.reduceLT, aPost, resK, tup, tyf]
        exact fin h3 ((hE.trans hEb).trans hE3) B3 _ (by simp (config := {maxSteps := 2000000}) only [↓aw_region, ↓aw_skip, ↓aw_seq, ↓aw_block, ↓aw_exit, ↓aw_ret, ↓sops_nil, ↓sops_go, ↓dops_nil, ↓dopsX_nil, ↓dopsR_nil, ↓vdn, vup, extr_20, extr_21, extr_30, extr_31, extr_32, List.map_cons, List.map_nil, cond_true, cond_false, aop, aThen, aBlock, argEnv, ev, sput, sputO, binK, binI, unK, builtinK, pickK, Nat.reduceBEq, Nat.reduceAdd, Int.reduceBEq, Int.reduceBNe, Int.reduceLT, aPost, resK, tup, tyf])
    · obtain rfl : i = xs.length := by omega
      refine aws_cut fun K hK => ?_
      simp (config := {maxSteps := 2000000}) only [s76, ↓aw_region, ↓aw_skip, ↓aw_seq, ↓aw_block, ↓aw_exit, ↓aw_ret, ↓sops_nil, ↓sops_go, ↓dops_nil, ↓dopsX_nil, ↓dopsR_nil, ↓vdn, vup, extr_20, extr_21, extr_30, extr_31, extr_32, List.map_cons, List.map_nil, cond_true, cond_false, aop, aThen, aBlock, argEnv, ev, sput, sputO, binK, binI, unK, builtinK, pickK, Nat.reduceBEq, Nat.reduceAdd, Int.reduceBEq, Int.reduceBNe, Int.reduceLT, aPost, resK, tup, tyf, Int.lt_irrefl]
      refine hK [(35, .bool false)] _ _ ?_ (by simp (config := {maxSteps := 2000000}) only [↓aw_region, ↓aw_skip, ↓aw_seq, ↓aw_block, ↓aw_exit, ↓aw_ret, ↓sops_nil, ↓sops_go, ↓dops_nil, ↓dopsX_nil, ↓dopsR_nil, ↓vdn, vup, extr_20, extr_21, extr_30, extr_31, extr_32, List.map_cons, List.map_nil, cond_true, cond_false, aop, aThen, aBlock, argEnv, ev, sput, sputO, binK, binI, unK, builtinK, pickK, Nat.reduceBEq, Nat.reduceAdd, Int.reduceBEq, Int.reduceBNe, Int.reduceLT, aPost, resK, tup, tyf])
      clear hK
      try clear K
      refine aw_aws ?_
      simp (config := {maxSteps := 2000000}) only [s76, ↓aw_region, ↓aw_skip, ↓aw_seq, ↓aw_block, ↓aw_exit, ↓aw_ret, ↓sops_nil, ↓sops_go, ↓dops_nil, ↓dopsX_nil, ↓dopsR_nil, ↓vdn, vup, extr_20, extr_21, extr_30, extr_31, extr_32, List.map_cons, List.map_nil, cond_true, cond_false, aop, aThen, aBlock, argEnv, ev, sput, sputO, binK, binI, unK, builtinK, pickK, Nat.reduceBEq, Nat.reduceAdd, Int.reduceBEq, Int.reduceBNe, Int.reduceLT, aPost, resK, tup, tyf]
      refine hQ2 _ _ _ (hQ _ _ _ ?_)
      simp (config := {maxSteps := 2000000}) only [s76, ↓aw_region, ↓aw_skip, ↓aw_seq, ↓aw_block, ↓aw_exit, ↓aw_ret, ↓sops_nil, ↓sops_go, ↓dops_nil, ↓dopsX_nil, ↓dopsR_nil, ↓vdn, vup, extr_20, extr_21, extr_30, extr_31, extr_32, List.map_cons, List.map_nil, cond_true, cond_false, aop, aThen, aBlock, argEnv, ev, sput, sputO, binK, binI, unK, builtinK, pickK, Nat.reduceBEq, Nat.reduceAdd, Int.reduceBEq, Int.reduceBNe, Int.reduceLT, aPost, resK, tup, tyf, if_true]
      rw [dfs, if_neg hge]
      exact ⟨Bp, hE⟩

theorem s39_callW [Tabs Tryd.prog] {args : List Value} {h : Heap} {Q : Value → Heap → Prop} (hsz : args.length ≤ 8) (hk : AWS Tryd.prog 8 s39 (aPost Tryd.prog [.tmp 2] Q) (argEnv 0 args) h) : ACall Tryd.prog 39 args h Q :=
  acall_w Tryd.func39 rfl (enters_of Tryd.func39 (by kernel_rfl) rfl) rfl rfl (by decide) s39_strip s39_ok hsz hk
theorem rorder0_call [Tabs prog] {h : Heap} {gv : Value} {xs : List Int} (hg : IntSl h gv xs) (ht : trn xs = true) : ACall prog 39 [gv] h fun r h' => OwnSl 3 h' r (iL (gr (cst xs) xs.length xs.length 0)) ∧ Ext (fun _ => False) h h' := by
  have hxl : 1 ≤ xs.length ∧ xs.length ≤ 8 := by simp only [trn, Bool.and_eq_true, decide_eq_true_eq] at ht; omega
  refine s39_callW (by simp) ?_
  simp only [s39]
  refine aws_cut fun N11 hN11 => ?_
  simp (config := {maxSteps := 2000000}) only [s39, ↓aw_region, ↓aw_skip, ↓aw_seq, ↓aw_block, ↓aw_exit, ↓aw_ret, ↓sops_nil, ↓sops_go, ↓dops_nil, ↓dopsX_nil, ↓dopsR_nil, ↓vdn, vup, extr_20, extr_21, extr_30, extr_31, extr_32, List.map_cons, List.map_nil, cond_true, cond_false, aop, aThen, aBlock, argEnv, ev, sput, sputO, binK, binI, unK, builtinK, pickK, Nat.reduceBEq, Nat.reduceAdd, Int.reduceBEq, Int.reduceBNe, Int.reduceLT, aPost, resK, tup, tyf]
  refine hN11 [(0, gv), (2, .slice none 0 0)] _ _ ?_ (by simp (config := {maxSteps := 2000000}) only [↓aw_region, ↓aw_skip, ↓aw_seq, ↓aw_block, ↓aw_exit, ↓aw_ret, ↓sops_nil, ↓sops_go, ↓dops_nil, ↓dopsX_nil, ↓dopsR_nil, ↓vdn, vup, extr_20, extr_21, extr_30, extr_31, extr_32, List.map_cons, List.map_nil, cond_true, cond_false, aop, aThen, aBlock, argEnv, ev, sput, sputO, binK, binI, unK, builtinK, pickK, Nat.reduceBEq, Nat.reduceAdd, Int.reduceBEq, Int.reduceBNe, Int.reduceLT, aPost, resK, tup, tyf])
  clear hN11
  try clear N11
  refine aws_cut fun N12 hN12 => ?_
  simp (config := {maxSteps := 2000000}) only [s39, ↓aw_region, ↓aw_skip, ↓aw_seq, ↓aw_block, ↓aw_exit, ↓aw_ret, ↓sops_nil, ↓sops_go, ↓dops_nil, ↓dopsX_nil, ↓dopsR_nil, ↓vdn, vup, extr_20, extr_21, extr_30, extr_31, extr_32, List.map_cons, List.map_nil, cond_true, cond_false, aop, aThen, aBlock, argEnv, ev, sput, sputO, binK, binI, unK, builtinK, pickK, Nat.reduceBEq, Nat.reduceAdd, Int.reduceBEq, Int.reduceBNe, Int.reduceLT, aPost, resK, tup, tyf, allocK, newPtr, zero_3, Am.storeI (get_new _ _) shp_3, setLast]
  refine hN12 [(0, gv), (2, .slice none 0 0), (3, pt h.length)] _ _ ?_ (by simp (config := {maxSteps := 2000000}) only [↓aw_region, ↓aw_skip, ↓aw_seq, ↓aw_block, ↓aw_exit, ↓aw_ret, ↓sops_nil, ↓sops_go, ↓dops_nil, ↓dopsX_nil, ↓dopsR_nil, ↓vdn, vup, extr_20, extr_21, extr_30, extr_31, extr_32, List.map_cons, List.map_nil, cond_true, cond_false, aop, aThen, aBlock, argEnv, ev, sput, sputO, binK, binI, unK, builtinK, pickK, Nat.reduceBEq, Nat.reduceAdd, Int.reduceBEq, Int.reduceBNe, Int.reduceLT, aPost, resK, tup, tyf])
  clear hN12
  try clear N12
  have b3 := get_new h (Blk.cells [vint 29] 3 false)
  have hE1 : Ext (fun _ => False) h (h ++ [Blk.cells [vint 29] 3 false]) := Ext.app _ _ _
  generalize hH : h ++ [Blk.cells [vint 29] 3 false] = H at b3 hE1 ⊢
  have hHl : H.length = h.length + 1 := by rw [← hH]; simp
  refine aws_cut fun N13 hN13 => ?_
  simp (config := {maxSteps := 2000000}) only [s39, ↓aw_region, ↓aw_skip, ↓aw_seq, ↓aw_block, ↓aw_exit, ↓aw_ret, ↓sops_nil, ↓sops_go, ↓dops_nil, ↓dopsX_nil, ↓dopsR_nil, ↓vdn, vup, extr_20, extr_21, extr_30, extr_31, extr_32, List.map_cons, List.map_nil, cond_true, cond_false, aop, aThen, aBlock, argEnv, ev, sput, sputO, binK, binI, unK, builtinK, pickK, Nat.reduceBEq, Nat.reduceAdd, Int.reduceBEq, Int.reduceBNe, Int.reduceLT, aPost, resK, tup, tyf, allocK, newPtr, zero_22]
  refine hN13 [(0, gv), (2, .slice none 0 0), (3, pt h.length), (4, pt H.length)] _ _ ?_ (by simp (config := {maxSteps := 2000000}) only [↓aw_region, ↓aw_skip, ↓aw_seq, ↓aw_block, ↓aw_exit, ↓aw_ret, ↓sops_nil, ↓sops_go, ↓dops_nil, ↓dopsX_nil, ↓dopsR_nil, ↓vdn, vup, extr_20, extr_21, extr_30, extr_31, extr_32, List.map_cons, List.map_nil, cond_true, cond_false, aop, aThen, aBlock, argEnv, ev, sput, sputO, binK, binI, unK, builtinK, pickK, Nat.reduceBEq, Nat.reduceAdd, Int.reduceBEq, Int.reduceBNe, Int.reduceLT, aPost, resK, tup, tyf])
  clear hN13
  try clear N13
  have b4 := get_new H (Blk.cells [.slice none 0 0] 22 false)
  have hE2 := hE1.trans (Ext.app (fun _ => False) H [Blk.cells [.slice none 0 0] 22 false])
  have B : BO (H ++ [Blk.cells [.slice none 0 0] 22 false]) h.length H.length (29, []) := ⟨get_old b3 _, ⟨_, b4, .inl ⟨rfl, rfl⟩⟩, by omega⟩
  have hgb : blkOf gv ≠ some h.length ∧ blkOf gv ≠ some H.length := ⟨fun e => by have := hg.lt e; omega, fun e => by have := hg.lt e; omega⟩
  have hf0 : (fr xs.length 0).length = xs.length := by rw [fr, List.filter_eq_self.2 (fun i _ => by simp), List.length_range]
  refine aws_cut fun N14 hN14 => ?_
  simp (config := {maxSteps := 2000000}) only [s39, ↓aw_region, ↓aw_skip, ↓aw_seq, ↓aw_block, ↓aw_exit, ↓aw_ret, ↓sops_nil, ↓sops_go, ↓dops_nil, ↓dopsX_nil, ↓dopsR_nil, ↓vdn, vup, extr_20, extr_21, extr_30, extr_31, extr_32, List.map_cons, List.map_nil, cond_true, cond_false, aop, aThen, aBlock, argEnv, ev, sput, sputO, binK, binI, unK, builtinK, pickK, Nat.reduceBEq, Nat.reduceAdd, Int.reduceBEq, Int.reduceBNe, Int.reduceLT, aPost, resK, tup, tyf, callK, List.nil_append, List.append_nil, List.toList_toArray, List.cons_append]
  refine (rorder_call ht hgb xs.length (begun := []) (met := 0) (a := 0) (IntSl_ext hg hE2) B (.inl ⟨rfl, rfl⟩) (Nat.two_pow_pos _) hf0 (by simp) (Nat.zero_le _)).mono ?_
  rintro _ h3 ⟨B3, hE3⟩
  refine hN14 [(4, pt H.length)] _ _ ?_ (by simp (config := {maxSteps := 2000000}) only [↓aw_region, ↓aw_skip, ↓aw_seq, ↓aw_block, ↓aw_exit, ↓aw_ret, ↓sops_nil, ↓sops_go, ↓dops_nil, ↓dopsX_nil, ↓dopsR_nil, ↓vdn, vup, extr_20, extr_21, extr_30, extr_31, extr_32, List.map_cons, List.map_nil, cond_true, cond_false, aop, aThen, aBlock, argEnv, ev, sput, sputO, binK, binI, unK, builtinK, pickK, Nat.reduceBEq, Nat.reduceAdd, Int.reduceBEq, Int.reduceBNe, Int.reduceLT, aPost, resK, tup, tyf])
  clear hN14
  try clear N14
  refine aw_aws ?_
  obtain ⟨ov, h1, h2⟩ := B3.o
  simp (config := {maxSteps := 2000000}) only [s39, ↓aw_region, ↓aw_skip, ↓aw_seq, ↓aw_block, ↓aw_exit, ↓aw_ret, ↓sops_nil, ↓sops_go, ↓dops_nil, ↓dopsX_nil, ↓dopsR_nil, ↓vdn, vup, extr_20, extr_21, extr_30, extr_31, extr_32, List.map_cons, List.map_nil, cond_true, cond_false, aop, aThen, aBlock, argEnv, ev, sput, sputO, binK, binI, unK, builtinK, pickK, Nat.reduceBEq, Nat.reduceAdd, Int.reduceBEq, Int.reduceBNe, Int.reduceLT, aPost, resK, tup, tyf, load1 h1 shp_22]
  rw [dfs_all (cst_few hxl.2) hxl.2] at h2
  refine ⟨h2, Nat.le_trans hE2.1 hE3.1, fun i hi _ => ?_⟩
  rw [hE3.2 i (Nat.lt_of_lt_of_le hi hE2.1) (by omega)]
  exact hE2.2 i hi id
end Go.Proofs.Tryd.Am
