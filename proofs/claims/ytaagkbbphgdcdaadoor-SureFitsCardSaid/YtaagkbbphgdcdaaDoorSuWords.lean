/-
  sure: the graph of all words of some length.
-/
import Derived.Test.YtaagkbbphgdcdaaDoorSuConf
set_option linter.all false
namespace Go.Proofs.Tryd.Am
open Go.Am Sr
set_option maxRecDepth 100000
set_option maxHeartbeats 1000000

abbrev pt (b : Nat) : Value := .pointer (some ⟨b, 0, none⟩)
theorem set_last (g : Heap) (B C : Blk) : (g ++ [B]).set g.length C = g ++ [C] := by
  apply List.ext_getElem?
  intro i
  by_cases hi : i = g.length
  · subst hi; simp
  · rw [List.getElem?_set_ne (Ne.symm hi)]
    by_cases h2 : i < g.length
    · rw [List.getElem?_append_left h2, List.getElem?_append_left h2]
    · rw [List.getElem?_eq_none (by simp; omega), List.getElem?_eq_none (by simp; omega)]
theorem IntSl_ext {h h' : Heap} {v : Value} {xs : List Int} (hv : IntSl h v xs) (hE : Ext (fun _ => False) h h') : IntSl h' v xs := hv.same fun b hb => hE.2 b (hv.lt hb) id
theorem ownV_one {e : TypeId} {h : Heap} {v : Value} {ws : List Value} (ho : OwnV e h v ws) : one v = true := by
  rcases ho with ⟨rfl, _⟩ | ⟨b, ys, rfl, _⟩ <;> rfl
/-- A slice written down, of one unsigned int. -/
theorem litU {h : Heap} {s : Int} {K : Value → Heap → Prop} : buildSliceK prog h 60 1 [(0, .int .u64 s)] K = K (.slice (some ⟨h.length, 0, none⟩) 1 1) (h ++ [.cells [.int .u64 s] 63 false]) := by
  have e1 : fillL (fun i => some (i * 1, 1)) (reps [.int .u64 0] 1) [(0, .int .u64 s)] = some [.int .u64 s] := by simp [fillL, notTuple, cellsOf, reps, splice]
  have e2 : mkb [.int .u64 s] 63 = .cells [.int .u64 s] 63 false := mkb_no (by simp) fun w' hw' => by
    rw [List.mem_singleton.1 hw']; rfl
  simp only [buildSliceK, el_60, zero_63, esz_63, e1, e2]
  exact propext ⟨fun h => h.2.2.2, fun h => ⟨rfl, by decide, by decide, h⟩⟩
theorem litU_val (h : Heap) (s : Int) : ValSl (h ++ [.cells [.int .u64 s] 63 false]) (.slice (some ⟨h.length, 0, none⟩) 1 1) [.int .u64 s] :=
  .inr ⟨h.length, 0, none, 1, [.int .u64 s], 63, false, rfl, Nat.le_refl _, by simp [view, Blk.view], rfl⟩
theorem bld62 {K : Value → Prop} : buildK prog 62 [(0, .int .i64 1)] K = K (.agg #[.int .i64 1, .slice none 0 0]) := by
  simp [buildK, zero_62, fillL, pl_62_0, notTuple, cellsOf, splice]
theorem box62 {h : Heap} {a b : Value} {K : Value → Heap → Prop} : boxK prog h 62 (.agg #[a, b]) K = K (newPtr h) (h ++ [.cells [a, b] 62 false]) := by
  simp [boxK, esz_62, cellsOf]

/-- A graph of words, as the program holds it. -/
def WO (h : Heap) (b : Nat) (nr : List Nat) : Prop := ∃ nv, h[b]? = some (.cells [vint nr.length, nv] 62 false) ∧ ValSl h nv (nr.map fun x => vu x)
theorem WO.ext {h h' : Heap} {b : Nat} {nr : List Nat} (w : WO h b nr) (hE : Ext (fun _ => False) h h') : WO h' b nr := by
  obtain ⟨nv, h1, h2⟩ := w
  exact ⟨nv, (hE.2 b (get_lt h1) id).trans h1, h2.ext hE⟩

theorem words_call [Tabs prog] {h : Heap} {v : Value} {xs : List Int} (hv : IntSl h v xs) (g : Gs xs) {k : Nat} (hk : k ≤ 6) :
    ACall prog 52 [v, vint k] h fun r h' => Ext (fun _ => False) h h' ∧ if wn xs k ≤ 64 then ∃ b, r = .tuple #[pt b, .bool true] ∧ WO h' b (nearL xs k) else r = .tuple #[.pointer none, .bool false] := by
  have h0 : 0 < xs.length := g.1
  have mono : ∀ i, i ≤ k → wn xs i ≤ wn xs k := fun i hi => Nat.pow_le_pow_right h0 hi
  have hb : ∀ i : Nat, (h ++ [Blk.cells [vint (wn xs i : Nat), .slice none 0 0] 62 false])[h.length]? = some (.cells [vint (wn xs i : Nat), .slice none 0 0] 62 false) := fun i => get_new _ _
  have ld : ∀ (i : Nat) {K : Value → Prop}, loadK prog (h ++ [Blk.cells [vint (wn xs i : Nat), .slice none 0 0] 62 false]) 3 (.pointer (some ⟨h.length, 0, none⟩)) K = K (vint (wn xs i : Nat)) := fun i {K} => loadC (o := 0) (hb i) shp_3 rfl
  have st : ∀ (i : Nat) {z : Int} {K : Heap → Prop}, storeK prog (h ++ [Blk.cells [vint (wn xs i : Nat), .slice none 0 0] 62 false]) 3 (.pointer (some ⟨h.length, 0, none⟩)) (.int .i64 z) K = K (h ++ [Blk.cells [vint z, .slice none 0 0] 62 false]) := fun i {z K} => by
    rw [storeC (hb i) shp_3 rfl (by simp), set_last]; rfl
  have hv1 : ∀ i : Nat, IntSl (h ++ [Blk.cells [vint (wn xs i : Nat), .slice none 0 0] 62 false]) v xs := fun i => IntSl_ext hv (Ext.app (fun _ => False) h _)
  refine s52_call (by simp) ?_
  simp only [s52]
  refine aw_cut fun N hN => ?_
  simp (config := {maxSteps := 2000000}) only [s52, ↓aw_region, ↓aw_skip, ↓aw_seq, ↓aw_block, ↓aw_exit, ↓aw_ret, ↓sops_nil, ↓sops_go, ↓dops_nil, ↓dopsX_nil, ↓dopsR_nil, ↓vdn, vup, extr_20, extr_21, extr_30, extr_31, extr_32, List.map_cons, List.map_nil, cond_true, cond_false, aop, aThen, aBlock, argEnv, ev, sput, sputO, binK, binI, unK, builtinK, pickK, Nat.reduceBEq, Nat.reduceAdd, Int.reduceBEq, Int.reduceBNe, Int.reduceLT, aPost, resK, tup, tyf]
  refine hN _ _ ?_
  clear hN N
  refine aw_cut fun N hN => ?_
  simp (config := {maxSteps := 2000000}) only [s52, ↓aw_region, ↓aw_skip, ↓aw_seq, ↓aw_block, ↓aw_exit, ↓aw_ret, ↓sops_nil, ↓sops_go, ↓dops_nil, ↓dopsX_nil, ↓dopsR_nil, ↓vdn, vup, extr_20, extr_21, extr_30, extr_31, extr_32, List.map_cons, List.map_nil, cond_true, cond_false, aop, aThen, aBlock, argEnv, ev, sput, sputO, binK, binI, unK, builtinK, pickK, Nat.reduceBEq, Nat.reduceAdd, Int.reduceBEq, Int.reduceBNe, Int.reduceLT, aPost, resK, tup, tyf, bld62, box62, newPtr]
  refine hN _ _ ?_
  clear hN N
  refine aw_cut fun N hN => ?_
  simp (config := {maxSteps := 2000000}) only [s52, ↓aw_region, ↓aw_skip, ↓aw_seq, ↓aw_block, ↓aw_exit, ↓aw_ret, ↓sops_nil, ↓sops_go, ↓dops_nil, ↓dopsX_nil, ↓dopsR_nil, ↓vdn, vup, extr_20, extr_21, extr_30, extr_31, extr_32, List.map_cons, List.map_nil, cond_true, cond_false, aop, aThen, aBlock, argEnv, ev, sput, sputO, binK, binI, unK, builtinK, pickK, Nat.reduceBEq, Nat.reduceAdd, Int.reduceBEq, Int.reduceBNe, Int.reduceLT, aPost, resK, tup, tyf, ↓aw_loop_eq]
  refine aws_hide fun Q hQ => ?_
  refine aw_loop (γ := Nat) (fun i => i ≤ k ∧ wn xs i ≤ 64)
    (fun i => ([(0, v), (1, vint k), (4, .pointer none), (5, .bool false), (6, pt h.length), (12, vint k), (13, vint i)], h ++ [Blk.cells [vint (wn xs i : Nat), .slice none 0 0] 62 false])) (fun i => k - i) 0 ⟨Nat.zero_le _, by show 1 ≤ 64; decide⟩ (by simp (config := {maxSteps := 2000000}) only [↓aw_region, ↓aw_skip, ↓aw_seq, ↓aw_block, ↓aw_exit, ↓aw_ret, ↓sops_nil, ↓sops_go, ↓dops_nil, ↓dopsX_nil, ↓dopsR_nil, ↓vdn, vup, extr_20, extr_21, extr_30, extr_31, extr_32, List.map_cons, List.map_nil, cond_true, cond_false, aop, aThen, aBlock, argEnv, ev, sput, sputO, binK, binI, unK, builtinK, pickK, Nat.reduceBEq, Nat.reduceAdd, Int.reduceBEq, Int.reduceBNe, Int.reduceLT, aPost, resK, tup, tyf, Int.natCast_zero]) rfl ?_
  rintro i ⟨hi, hw⟩
  refine aw_hide fun Q2 hQ2 => ?_
  by_cases hin : (i : Int) < k
  · have hi' : i < k := by omega
    have e : wn xs i * xs.length = wn xs (i + 1) := (Nat.pow_succ ..).symm
    have h6 := g.2.1
    have hle := wn_le g (show i + 1 ≤ 6 by omega)
    have hm : mulV .i64 ((wn xs i : Nat) : Int) ((xs.length : Nat) : Int) = ((wn xs (i + 1) : Nat) : Int) := by
      rw [mulN (by rw [e]; omega), e]
    by_cases hbig : 64 < wn xs (i + 1)
    · have hb2 : (64 : Int) < ((wn xs (i + 1) : Nat) : Int) := by omega
      simp (config := {maxSteps := 2000000}) only [s52, ↓aw_region, ↓aw_skip, ↓aw_seq, ↓aw_block, ↓aw_exit, ↓aw_ret, ↓sops_nil, ↓sops_go, ↓dops_nil, ↓dopsX_nil, ↓dopsR_nil, ↓vdn, vup, extr_20, extr_21, extr_30, extr_31, extr_32, List.map_cons, List.map_nil, cond_true, cond_false, aop, aThen, aBlock, argEnv, ev, sput, sputO, binK, binI, unK, builtinK, pickK, Nat.reduceBEq, Nat.reduceAdd, Int.reduceBEq, Int.reduceBNe, Int.reduceLT, aPost, resK, tup, tyf, l52_0, hin, nilK, fldA fld_62_0 esz_3, ld i, (hv1 i).len, hm, st i, ld (i + 1), gt_iff_lt, hb2]
      refine hQ2 _ _ _ (hQ _ _ _ ?_)
      simp (config := {maxSteps := 2000000}) only [s52, ↓aw_region, ↓aw_skip, ↓aw_seq, ↓aw_block, ↓aw_exit, ↓aw_ret, ↓sops_nil, ↓sops_go, ↓dops_nil, ↓dopsX_nil, ↓dopsR_nil, ↓vdn, vup, extr_20, extr_21, extr_30, extr_31, extr_32, List.map_cons, List.map_nil, cond_true, cond_false, aop, aThen, aBlock, argEnv, ev, sput, sputO, binK, binI, unK, builtinK, pickK, Nat.reduceBEq, Nat.reduceAdd, Int.reduceBEq, Int.reduceBNe, Int.reduceLT, aPost, resK, tup, tyf]
      have := mono (i + 1) (by omega)
      rw [if_neg (by omega)]
      exact ⟨Ext.app _ _ _, trivial⟩
    · have hb2 : ¬ (64 : Int) < ((wn xs (i + 1) : Nat) : Int) := by omega
      simp (config := {maxSteps := 2000000}) only [s52, ↓aw_region, ↓aw_skip, ↓aw_seq, ↓aw_block, ↓aw_exit, ↓aw_ret, ↓sops_nil, ↓sops_go, ↓dops_nil, ↓dopsX_nil, ↓dopsR_nil, ↓vdn, vup, extr_20, extr_21, extr_30, extr_31, extr_32, List.map_cons, List.map_nil, cond_true, cond_false, aop, aThen, aBlock, argEnv, ev, sput, sputO, binK, binI, unK, builtinK, pickK, Nat.reduceBEq, Nat.reduceAdd, Int.reduceBEq, Int.reduceBNe, Int.reduceLT, aPost, resK, tup, tyf, l52_0, hin, nilK, fldA fld_62_0 esz_3, ld i, (hv1 i).len, hm, st i, ld (i + 1), gt_iff_lt, hb2, add1 (show i < 9223372036854775807 by omega)]
      exact hQ2 _ _ _ ⟨i + 1, ⟨by omega, by omega⟩, by omega, by simp (config := {maxSteps := 2000000}) only [↓aw_region, ↓aw_skip, ↓aw_seq, ↓aw_block, ↓aw_exit, ↓aw_ret, ↓sops_nil, ↓sops_go, ↓dops_nil, ↓dopsX_nil, ↓dopsR_nil, ↓vdn, vup, extr_20, extr_21, extr_30, extr_31, extr_32, List.map_cons, List.map_nil, cond_true, cond_false, aop, aThen, aBlock, argEnv, ev, sput, sputO, binK, binI, unK, builtinK, pickK, Nat.reduceBEq, Nat.reduceAdd, Int.reduceBEq, Int.reduceBNe, Int.reduceLT, aPost, resK, tup, tyf], rfl⟩
  · obtain rfl : i = k := by omega
    simp (config := {maxSteps := 2000000}) only [s52, ↓aw_region, ↓aw_skip, ↓aw_seq, ↓aw_block, ↓aw_exit, ↓aw_ret, ↓sops_nil, ↓sops_go, ↓dops_nil, ↓dopsX_nil, ↓dopsR_nil, ↓vdn, vup, extr_20, extr_21, extr_30, extr_31, extr_32, List.map_cons, List.map_nil, cond_true, cond_false, aop, aThen, aBlock, argEnv, ev, sput, sputO, binK, binI, unK, builtinK, pickK, Nat.reduceBEq, Nat.reduceAdd, Int.reduceBEq, Int.reduceBNe, Int.reduceLT, aPost, resK, tup, tyf, l52_0, Int.lt_irrefl]
    refine hQ2 _ _ _ (hQ _ _ _ ?_)
    simp (config := {maxSteps := 2000000}) only [s52, ↓aw_region, ↓aw_skip, ↓aw_seq, ↓aw_block, ↓aw_exit, ↓aw_ret, ↓sops_nil, ↓sops_go, ↓dops_nil, ↓dopsX_nil, ↓dopsR_nil, ↓vdn, vup, extr_20, extr_21, extr_30, extr_31, extr_32, List.map_cons, List.map_nil, cond_true, cond_false, aop, aThen, aBlock, argEnv, ev, sput, sputO, binK, binI, unK, builtinK, pickK, Nat.reduceBEq, Nat.reduceAdd, Int.reduceBEq, Int.reduceBNe, Int.reduceLT, aPost, resK, tup, tyf, if_true]
    refine hN _ _ ?_
    clear hN N hQ2 Q2 hQ Q
    refine aw_cut fun N hN => ?_
    simp (config := {maxSteps := 2000000}) only [s52, ↓aw_region, ↓aw_skip, ↓aw_seq, ↓aw_block, ↓aw_exit, ↓aw_ret, ↓sops_nil, ↓sops_go, ↓dops_nil, ↓dopsX_nil, ↓dopsR_nil, ↓vdn, vup, extr_20, extr_21, extr_30, extr_31, extr_32, List.map_cons, List.map_nil, cond_true, cond_false, aop, aThen, aBlock, argEnv, ev, sput, sputO, binK, binI, unK, builtinK, pickK, Nat.reduceBEq, Nat.reduceAdd, Int.reduceBEq, Int.reduceBNe, Int.reduceLT, aPost, resK, tup, tyf, nilK, fldA fld_62_0 esz_3, ld i, ↓aw_loop_eq]
    refine aws_hide fun Q hQ => ?_
    refine aw_loop (γ := Nat × Heap × Value) (fun s => s.1 ≤ wn xs i ∧ Ext (fun _ => False) h s.2.1 ∧ s.2.1[h.length]? = some (.cells [vint (wn xs i : Nat), s.2.2] 62 false) ∧ OwnV 63 s.2.1 s.2.2 (((List.range s.1).map (nearW xs i)).map fun x => vu x) ∧ ∀ b, blkOf s.2.2 = some b → h.length < b)
      (fun s => ([(0, v), (1, vint i), (4, .pointer none), (5, .bool false), (6, pt h.length), (33, vint (wn xs i : Nat)), (34, vint s.1)], s.2.1)) (fun s => wn xs i - s.1) (0, _, .slice none 0 0)
      ⟨Nat.zero_le _, Ext.app _ _ _, hb i, .inl ⟨rfl, rfl⟩, fun b h => by cases h⟩ (by simp (config := {maxSteps := 2000000}) only [↓aw_region, ↓aw_skip, ↓aw_seq, ↓aw_block, ↓aw_exit, ↓aw_ret, ↓sops_nil, ↓sops_go, ↓dops_nil, ↓dopsX_nil, ↓dopsR_nil, ↓vdn, vup, extr_20, extr_21, extr_30, extr_31, extr_32, List.map_cons, List.map_nil, cond_true, cond_false, aop, aThen, aBlock, argEnv, ev, sput, sputO, binK, binI, unK, builtinK, pickK, Nat.reduceBEq, Nat.reduceAdd, Int.reduceBEq, Int.reduceBNe, Int.reduceLT, aPost, resK, tup, tyf, Int.natCast_zero]) rfl ?_
    rintro ⟨a, hp, nv⟩ ⟨ha, hE, hc, ho, hbl⟩
    simp only at ha hE hc ho hbl
    refine aw_hide fun Q2 hQ2 => ?_
    have ldp : ∀ {K : Value → Prop}, loadK prog hp 3 (.pointer (some ⟨h.length, 0, none⟩)) K = K (vint (wn xs i : Nat)) := fun {K} => loadC (o := 0) hc shp_3 rfl
    have ldn : ∀ {K : Value → Prop}, loadK prog hp 60 (.pointer (some ⟨h.length, 1, none⟩)) K = K nv := fun {K} => loadC (o := 1) hc shp_60 rfl
    by_cases hin : (a : Int) < (wn xs i : Nat)
    · have ha' : a < wn xs i := by omega
      obtain ⟨p, hp'⟩ : ∃ p : Nat → Bool, p = fun b => a != b && cf xs i a b := ⟨_, rfl⟩
      have hmk : ∀ j, mk p j < 2 ^ j := mk_lt p
      simp (config := {maxSteps := 2000000}) only [s52, ↓aw_region, ↓aw_skip, ↓aw_seq, ↓aw_block, ↓aw_exit, ↓aw_ret, ↓sops_nil, ↓sops_go, ↓dops_nil, ↓dopsX_nil, ↓dopsR_nil, ↓vdn, vup, extr_20, extr_21, extr_30, extr_31, extr_32, List.map_cons, List.map_nil, cond_true, cond_false, aop, aThen, aBlock, argEnv, ev, sput, sputO, binK, binI, unK, builtinK, pickK, Nat.reduceBEq, Nat.reduceAdd, Int.reduceBEq, Int.reduceBNe, Int.reduceLT, aPost, resK, tup, tyf, l52_2, hin, nilK, fldA fld_62_0 esz_3, ldp, ↓aw_loop_eq]
      refine aws_hide fun Q3 hQ3 => ?_
      refine aw_loop (γ := Nat) (fun j => j ≤ wn xs i)
        (fun j => ([(0, v), (1, vint i), (4, .pointer none), (5, .bool false), (6, pt h.length), (7, vint a), (8, vu (mk p j)), (33, vint (wn xs i : Nat)), (34, vint a), (40, vint (wn xs i : Nat)), (41, vint j)], hp)) (fun j => wn xs i - j) 0 (Nat.zero_le _) (by simp (config := {maxSteps := 2000000}) only [↓aw_region, ↓aw_skip, ↓aw_seq, ↓aw_block, ↓aw_exit, ↓aw_ret, ↓sops_nil, ↓sops_go, ↓dops_nil, ↓dopsX_nil, ↓dopsR_nil, ↓vdn, vup, extr_20, extr_21, extr_30, extr_31, extr_32, List.map_cons, List.map_nil, cond_true, cond_false, aop, aThen, aBlock, argEnv, ev, sput, sputO, binK, binI, unK, builtinK, pickK, Nat.reduceBEq, Nat.reduceAdd, Int.reduceBEq, Int.reduceBNe, Int.reduceLT, aPost, resK, tup, tyf, vu, mk_zero, Int.natCast_zero]) rfl ?_
      intro j hj
      refine aw_hide fun Q4 hQ4 => ?_
      by_cases hjn : (j : Int) < (wn xs i : Nat)
      · have hj' : j < wn xs i := by omega
        have p1 := hmk j
        have p2 : 2 ^ (j + 1) ≤ 2 ^ 64 := Nat.pow_le_pow_right (by decide) (by omega)
        have p3 : 2 ^ (j + 1) = 2 ^ j * 2 := Nat.pow_succ ..
        have hor : bitsV .or .u64 ((mk p j : Nat) : Int) ((2 ^ j : Nat) : Int) = ((mk p j ||| 2 ^ j : Nat) : Int) := orU (by omega) (by omega)
        cases haj : (a == j) with
        | true =>
          have e : mk p (j + 1) = mk p j := by
            have : p j = false := by rw [hp']; simp only [bne, haj]; rfl
            rw [mk, this]; rfl
          simp (config := {maxSteps := 2000000}) only [s52, ↓aw_region, ↓aw_skip, ↓aw_seq, ↓aw_block, ↓aw_exit, ↓aw_ret, ↓sops_nil, ↓sops_go, ↓dops_nil, ↓dopsX_nil, ↓dopsR_nil, ↓vdn, vup, extr_20, extr_21, extr_30, extr_31, extr_32, List.map_cons, List.map_nil, cond_true, cond_false, aop, aThen, aBlock, argEnv, ev, sput, sputO, binK, binI, unK, builtinK, pickK, Nat.reduceBEq, Nat.reduceAdd, Int.reduceBEq, Int.reduceBNe, Int.reduceLT, aPost, resK, tup, tyf, l52_1, hjn, bneN, haj, Bool.not_true, add1 (show j < 9223372036854775807 by omega)]
          exact hQ4 _ _ _ ⟨j + 1, by omega, by omega, by simp (config := {maxSteps := 2000000}) only [↓aw_region, ↓aw_skip, ↓aw_seq, ↓aw_block, ↓aw_exit, ↓aw_ret, ↓sops_nil, ↓sops_go, ↓dops_nil, ↓dopsX_nil, ↓dopsR_nil, ↓vdn, vup, extr_20, extr_21, extr_30, extr_31, extr_32, List.map_cons, List.map_nil, cond_true, cond_false, aop, aThen, aBlock, argEnv, ev, sput, sputO, binK, binI, unK, builtinK, pickK, Nat.reduceBEq, Nat.reduceAdd, Int.reduceBEq, Int.reduceBNe, Int.reduceLT, aPost, resK, tup, tyf, e], rfl⟩
        | false =>
          simp (config := {maxSteps := 2000000}) only [s52, ↓aw_region, ↓aw_skip, ↓aw_seq, ↓aw_block, ↓aw_exit, ↓aw_ret, ↓sops_nil, ↓sops_go, ↓dops_nil, ↓dopsX_nil, ↓dopsR_nil, ↓vdn, vup, extr_20, extr_21, extr_30, extr_31, extr_32, List.map_cons, List.map_nil, cond_true, cond_false, aop, aThen, aBlock, argEnv, ev, sput, sputO, binK, binI, unK, builtinK, pickK, Nat.reduceBEq, Nat.reduceAdd, Int.reduceBEq, Int.reduceBNe, Int.reduceLT, aPost, resK, tup, tyf, l52_1, hjn, bneN, haj, Bool.not_false, callK, List.nil_append, List.append_nil, List.toList_toArray, List.cons_append]
          refine (confused_call (IntSl_ext hv hE) g (show a < 9223372036854775808 by omega) (show j < 9223372036854775808 by omega) (show i < 9223372036854775807 by omega)).mono ?_
          rintro _ hp ⟨rfl, rfl⟩
          cases hcf : cf xs i a j with
          | true =>
            have e : mk p (j + 1) = mk p j ||| 2 ^ j := by
              have : p j = true := by rw [hp']; simp only [bne, haj, hcf]; rfl
              rw [mk, this]; rfl
            simp (config := {maxSteps := 2000000}) only [s52, ↓aw_region, ↓aw_skip, ↓aw_seq, ↓aw_block, ↓aw_exit, ↓aw_ret, ↓sops_nil, ↓sops_go, ↓dops_nil, ↓dopsX_nil, ↓dopsR_nil, ↓vdn, vup, extr_20, extr_21, extr_30, extr_31, extr_32, List.map_cons, List.map_nil, cond_true, cond_false, aop, aThen, aBlock, argEnv, ev, sput, sputO, binK, binI, unK, builtinK, pickK, Nat.reduceBEq, Nat.reduceAdd, Int.reduceBEq, Int.reduceBNe, Int.reduceLT, aPost, resK, tup, tyf, Int.natCast_nonneg, shlU1 (show j < 64 by omega), hor, add1 (show j < 9223372036854775807 by omega)]
            exact hQ4 _ _ _ ⟨j + 1, by omega, by omega, by simp (config := {maxSteps := 2000000}) only [↓aw_region, ↓aw_skip, ↓aw_seq, ↓aw_block, ↓aw_exit, ↓aw_ret, ↓sops_nil, ↓sops_go, ↓dops_nil, ↓dopsX_nil, ↓dopsR_nil, ↓vdn, vup, extr_20, extr_21, extr_30, extr_31, extr_32, List.map_cons, List.map_nil, cond_true, cond_false, aop, aThen, aBlock, argEnv, ev, sput, sputO, binK, binI, unK, builtinK, pickK, Nat.reduceBEq, Nat.reduceAdd, Int.reduceBEq, Int.reduceBNe, Int.reduceLT, aPost, resK, tup, tyf, e], rfl⟩
          | false =>
            have e : mk p (j + 1) = mk p j := by
              have : p j = false := by rw [hp']; simp only [hcf, Bool.and_false]
              rw [mk, this]; rfl
            simp (config := {maxSteps := 2000000}) only [s52, ↓aw_region, ↓aw_skip, ↓aw_seq, ↓aw_block, ↓aw_exit, ↓aw_ret, ↓sops_nil, ↓sops_go, ↓dops_nil, ↓dopsX_nil, ↓dopsR_nil, ↓vdn, vup, extr_20, extr_21, extr_30, extr_31, extr_32, List.map_cons, List.map_nil, cond_true, cond_false, aop, aThen, aBlock, argEnv, ev, sput, sputO, binK, binI, unK, builtinK, pickK, Nat.reduceBEq, Nat.reduceAdd, Int.reduceBEq, Int.reduceBNe, Int.reduceLT, aPost, resK, tup, tyf, add1 (show j < 9223372036854775807 by omega)]
            exact hQ4 _ _ _ ⟨j + 1, by omega, by omega, by simp (config := {maxSteps := 2000000}) only [↓aw_region, ↓aw_skip, ↓aw_seq, ↓aw_block, ↓aw_exit, ↓aw_ret, ↓sops_nil, ↓sops_go, ↓dops_nil, ↓dopsX_nil, ↓dopsR_nil, ↓vdn, vup, extr_20, extr_21, extr_30, extr_31, extr_32, List.map_cons, List.map_nil, cond_true, cond_false, aop, aThen, aBlock, argEnv, ev, sput, sputO, binK, binI, unK, builtinK, pickK, Nat.reduceBEq, Nat.reduceAdd, Int.reduceBEq, Int.reduceBNe, Int.reduceLT, aPost, resK, tup, tyf, e], rfl⟩
      · obtain rfl : j = wn xs i := by omega
        simp (config := {maxSteps := 2000000}) only [s52, ↓aw_region, ↓aw_skip, ↓aw_seq, ↓aw_block, ↓aw_exit, ↓aw_ret, ↓sops_nil, ↓sops_go, ↓dops_nil, ↓dopsX_nil, ↓dopsR_nil, ↓vdn, vup, extr_20, extr_21, extr_30, extr_31, extr_32, List.map_cons, List.map_nil, cond_true, cond_false, aop, aThen, aBlock, argEnv, ev, sput, sputO, binK, binI, unK, builtinK, pickK, Nat.reduceBEq, Nat.reduceAdd, Int.reduceBEq, Int.reduceBNe, Int.reduceLT, aPost, resK, tup, tyf, l52_1, Int.lt_irrefl]
        refine hQ4 _ _ _ (hQ3 _ _ _ ?_)
        simp (config := {maxSteps := 2000000}) only [s52, ↓aw_region, ↓aw_skip, ↓aw_seq, ↓aw_block, ↓aw_exit, ↓aw_ret, ↓sops_nil, ↓sops_go, ↓dops_nil, ↓dopsX_nil, ↓dopsR_nil, ↓vdn, vup, extr_20, extr_21, extr_30, extr_31, extr_32, List.map_cons, List.map_nil, cond_true, cond_false, aop, aThen, aBlock, argEnv, ev, sput, sputO, binK, binI, unK, builtinK, pickK, Nat.reduceBEq, Nat.reduceAdd, Int.reduceBEq, Int.reduceBNe, Int.reduceLT, aPost, resK, tup, tyf, if_true, nilK, fldA fld_62_0 esz_3, fldA fld_62_1 esz_60, ldn, litU]
        have en : mk p (wn xs i) = nearW xs i a := by rw [hp']; rfl
        rw [en]
        have hE1 : Ext (fun _ => False) hp (hp ++ [Blk.cells [.int .u64 ((nearW xs i a : Nat) : Int)] 63 false]) := Ext.app _ _ _
        refine (ho.ext hE1).app app_60_60 (litU_val hp _) ?_ ?_ fun nv2 h2 ho2 hE2 hb2 => ?_
        · intro w hw
          rcases List.mem_append.1 hw with hw | hw
          · obtain ⟨z, _, rfl⟩ := List.mem_map.1 hw; exact ⟨rfl, rfl⟩
          · rw [List.mem_singleton.1 hw]; exact ⟨rfl, rfl⟩
        · simp only [List.length_map, List.length_range, List.length_singleton]; omega
        have hlt := get_lt hc
        have hc2 : h2[h.length]? = some (.cells [vint (wn xs i : Nat), nv] 62 false) := by
          rw [hE2.2 _ (Nat.lt_of_lt_of_le hlt hE1.1) fun h1 => by have := hbl _ h1; omega, hE1.2 _ hlt id]; exact hc
        have hst : ∀ {K : Heap → Prop}, storeK prog h2 60 (.pointer (some ⟨h.length, 1, none⟩)) nv2 K = K (h2.set h.length (.cells [vint (wn xs i : Nat), nv2] 62 false)) := fun {K} => by
          rw [storeC hc2 shp_60 (ownV_one ho2) (by simp)]; rfl
        have hb3 : ∀ b, blkOf nv2 = some b → h.length < b := fun b h1 => by
          rcases hb2 with h3 | ⟨b', h3, h4⟩
          · exact hbl b (h3 ▸ h1)
          · rw [h3] at h1; cases h1; have := hE1.1; omega
        simp (config := {maxSteps := 2000000}) only [s52, ↓aw_region, ↓aw_skip, ↓aw_seq, ↓aw_block, ↓aw_exit, ↓aw_ret, ↓sops_nil, ↓sops_go, ↓dops_nil, ↓dopsX_nil, ↓dopsR_nil, ↓vdn, vup, extr_20, extr_21, extr_30, extr_31, extr_32, List.map_cons, List.map_nil, cond_true, cond_false, aop, aThen, aBlock, argEnv, ev, sput, sputO, binK, binI, unK, builtinK, pickK, Nat.reduceBEq, Nat.reduceAdd, Int.reduceBEq, Int.reduceBNe, Int.reduceLT, aPost, resK, tup, tyf, hst, add1 (show a < 9223372036854775807 by omega)]
        refine hQ2 _ _ _ ⟨(a + 1, h2.set h.length (.cells [vint (wn xs i : Nat), nv2] 62 false), nv2), ⟨by simp only; omega, ⟨?_, fun x hx _ => ?_⟩, get_set (get_lt hc2) _, ?_, hb3⟩, by simp only; omega, by simp (config := {maxSteps := 2000000}) only [↓aw_region, ↓aw_skip, ↓aw_seq, ↓aw_block, ↓aw_exit, ↓aw_ret, ↓sops_nil, ↓sops_go, ↓dops_nil, ↓dopsX_nil, ↓dopsR_nil, ↓vdn, vup, extr_20, extr_21, extr_30, extr_31, extr_32, List.map_cons, List.map_nil, cond_true, cond_false, aop, aThen, aBlock, argEnv, ev, sput, sputO, binK, binI, unK, builtinK, pickK, Nat.reduceBEq, Nat.reduceAdd, Int.reduceBEq, Int.reduceBNe, Int.reduceLT, aPost, resK, tup, tyf], rfl⟩
        · rw [List.length_set]; have := hE.1; have := hE1.1; have := hE2.1; omega
        · have l1 := hE.1
          have l2 := hE1.1
          rw [List.getElem?_set_ne (by omega), hE2.2 x (by omega) fun h1 => by have := hbl _ h1; omega, hE1.2 x (by omega) id]
          exact hE.2 x hx id
        · rw [List.range_succ, List.map_append, List.map_append]
          exact ho2.same fun b h1 => List.getElem?_set_ne (by have := hb3 b h1; omega)
    · obtain rfl : a = wn xs i := by omega
      simp (config := {maxSteps := 2000000}) only [s52, ↓aw_region, ↓aw_skip, ↓aw_seq, ↓aw_block, ↓aw_exit, ↓aw_ret, ↓sops_nil, ↓sops_go, ↓dops_nil, ↓dopsX_nil, ↓dopsR_nil, ↓vdn, vup, extr_20, extr_21, extr_30, extr_31, extr_32, List.map_cons, List.map_nil, cond_true, cond_false, aop, aThen, aBlock, argEnv, ev, sput, sputO, binK, binI, unK, builtinK, pickK, Nat.reduceBEq, Nat.reduceAdd, Int.reduceBEq, Int.reduceBNe, Int.reduceLT, aPost, resK, tup, tyf, l52_2, Int.lt_irrefl]
      refine hQ2 _ _ _ (hQ _ _ _ ?_)
      simp (config := {maxSteps := 2000000}) only [s52, ↓aw_region, ↓aw_skip, ↓aw_seq, ↓aw_block, ↓aw_exit, ↓aw_ret, ↓sops_nil, ↓sops_go, ↓dops_nil, ↓dopsX_nil, ↓dopsR_nil, ↓vdn, vup, extr_20, extr_21, extr_30, extr_31, extr_32, List.map_cons, List.map_nil, cond_true, cond_false, aop, aThen, aBlock, argEnv, ev, sput, sputO, binK, binI, unK, builtinK, pickK, Nat.reduceBEq, Nat.reduceAdd, Int.reduceBEq, Int.reduceBNe, Int.reduceLT, aPost, resK, tup, tyf, if_true]
      refine hN _ _ ?_
      simp (config := {maxSteps := 2000000}) only [s52, ↓aw_region, ↓aw_skip, ↓aw_seq, ↓aw_block, ↓aw_exit, ↓aw_ret, ↓sops_nil, ↓sops_go, ↓dops_nil, ↓dopsX_nil, ↓dopsR_nil, ↓vdn, vup, extr_20, extr_21, extr_30, extr_31, extr_32, List.map_cons, List.map_nil, cond_true, cond_false, aop, aThen, aBlock, argEnv, ev, sput, sputO, binK, binI, unK, builtinK, pickK, Nat.reduceBEq, Nat.reduceAdd, Int.reduceBEq, Int.reduceBNe, Int.reduceLT, aPost, resK, tup, tyf]
      rw [if_pos hw]
      exact ⟨hE, h.length, rfl, nv, by rw [nearL_len]; exact hc, ho.val⟩
end Go.Proofs.Tryd.Am
