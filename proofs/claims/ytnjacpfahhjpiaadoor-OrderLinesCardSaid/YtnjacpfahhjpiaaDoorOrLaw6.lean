/-
  order: Lines, EqualFunc; the law OrderLines.
-/
import Derived.Test.YtnjacpfahhjpiaaDoorOrGrow2
import Derived.Test.YtnjacpfahhjpiaaDoorOrLaw7
set_option linter.all false
namespace Go.Proofs.Tryd.Am
open Go.Am Ord
set_option maxRecDepth 100000
set_option maxHeartbeats 1000000

theorem lines75_call [BitTab prog 1] {h : Heap} {o : List Int} (ho : ord o = true) : ACall prog 75 [ordV o] h fun r h' => RdL 3 h' r (linesI o) ∧ Ext (fun _ => False) h h' := by
  have hlen := ord_len ho
  have hpw := pow6 hlen.2
  have hcn := cn_le ho
  refine s75_call (by simp) ?_
  simp only [s75]
  refine aw_cut fun N hN => ?_
  simp (config := {maxSteps := 2000000}) only [s75, ↓aw_region, ↓aw_skip, ↓aw_seq, ↓aw_block, ↓aw_exit, ↓aw_ret, ↓sops_nil, ↓sops_go, ↓dops_nil, ↓dopsX_nil, ↓dopsR_nil, ↓vdn, vup, extr_20, extr_21, extr_30, extr_31, extr_32, List.map_cons, List.map_nil, cond_true, cond_false, aop, aThen, aBlock, argEnv, ev, sput, sputO, binK, binI, unK, builtinK, pickK, Nat.reduceBEq, Nat.reduceAdd, Int.reduceBEq, Int.reduceBNe, Int.reduceLT, aPost, resK, tup, tyf, boxO esz_77, newPtr]
  refine hN _ _ ?_
  clear hN N
  refine aw_cut fun N hN => ?_
  simp (config := {maxSteps := 2000000}) only [s75, ↓aw_region, ↓aw_skip, ↓aw_seq, ↓aw_block, ↓aw_exit, ↓aw_ret, ↓sops_nil, ↓sops_go, ↓dops_nil, ↓dopsX_nil, ↓dopsR_nil, ↓vdn, vup, extr_20, extr_21, extr_30, extr_31, extr_32, List.map_cons, List.map_nil, cond_true, cond_false, aop, aThen, aBlock, argEnv, ev, sput, sputO, binK, binI, unK, builtinK, pickK, Nat.reduceBEq, Nat.reduceAdd, Int.reduceBEq, Int.reduceBNe, Int.reduceLT, aPost, resK, tup, tyf, allocK, newPtr, zero_45]
  refine hN _ _ ?_
  clear hN N
  refine aw_cut fun N hN => ?_
  simp (config := {maxSteps := 2000000}) only [s75, ↓aw_region, ↓aw_skip, ↓aw_seq, ↓aw_block, ↓aw_exit, ↓aw_ret, ↓sops_nil, ↓sops_go, ↓dops_nil, ↓dopsX_nil, ↓dopsR_nil, ↓vdn, vup, extr_20, extr_21, extr_30, extr_31, extr_32, List.map_cons, List.map_nil, cond_true, cond_false, aop, aThen, aBlock, argEnv, ev, sput, sputO, binK, binI, unK, builtinK, pickK, Nat.reduceBEq, Nat.reduceAdd, Int.reduceBEq, Int.reduceBNe, Int.reduceLT, aPost, resK, tup, tyf, allocK, newPtr, zero_22]
  refine hN _ _ ?_
  clear hN N
  refine aw_cut fun N hN => ?_
  simp (config := {maxSteps := 2000000}) only [s75, ↓aw_region, ↓aw_skip, ↓aw_seq, ↓aw_block, ↓aw_exit, ↓aw_ret, ↓sops_nil, ↓sops_go, ↓dops_nil, ↓dopsX_nil, ↓dopsR_nil, ↓vdn, vup, extr_20, extr_21, extr_30, extr_31, extr_32, List.map_cons, List.map_nil, cond_true, cond_false, aop, aThen, aBlock, argEnv, ev, sput, sputO, binK, binI, unK, builtinK, pickK, Nat.reduceBEq, Nat.reduceAdd, Int.reduceBEq, Int.reduceBNe, Int.reduceLT, aPost, resK, tup, tyf, allocK, newPtr, zero_118]
  refine hN _ _ ?_
  clear hN N
  obtain ⟨n, hn⟩ : ∃ n, n = h.length := ⟨_, rfl⟩
  simp only [List.length_append, List.length_cons, List.length_nil, Nat.zero_add, Nat.add_assoc, Nat.reduceAdd, ← hn]
  obtain ⟨F, hF⟩ : ∃ F, F = h ++ [Blk.cells (ordC o) 77 false] ++ [Blk.cells [.slice none 0 0] 45 false] ++ [Blk.cells [.slice none 0 0] 22 false] ++ [Blk.cells [.nilFunc] 118 false] := ⟨_, rfl⟩
  rw [← hF]
  have hFl : F.length = n + 4 := by rw [hF, hn]; simp
  have f0 : F[n]? = some (.cells (ordC o) 77 false) := by rw [hF, hn]; exact get_old (get_old (get_old (get_new _ _) _) _) _
  have f1 : F[n + 1]? = some (.cells [.slice none 0 0] 45 false) := by
    have := get_new (h ++ [Blk.cells (ordC o) 77 false]) (Blk.cells [.slice none 0 0] 45 false)
    simp only [List.length_append, List.length_singleton, ← hn] at this
    rw [hF]; exact get_old (get_old this _) _
  have f2 : F[n + 2]? = some (.cells [.slice none 0 0] 22 false) := by
    have := get_new (h ++ [Blk.cells (ordC o) 77 false] ++ [Blk.cells [.slice none 0 0] 45 false]) (Blk.cells [.slice none 0 0] 22 false)
    simp only [List.length_append, List.length_singleton, ← hn, Nat.add_assoc, Nat.reduceAdd] at this
    rw [hF]; exact get_old this _
  have f3 : F[n + 3]? = some (.cells [.nilFunc] 118 false) := by
    have := get_new (h ++ [Blk.cells (ordC o) 77 false] ++ [Blk.cells [.slice none 0 0] 45 false] ++ [Blk.cells [.slice none 0 0] 22 false]) (Blk.cells [.nilFunc] 118 false)
    simp only [List.length_append, List.length_singleton, ← hn, Nat.add_assoc, Nat.reduceAdd] at this
    rw [hF]; exact this
  have hEF : Ext (fun _ => False) h F := by rw [hF]; simp only [List.append_assoc]; exact Ext.app _ _ _
  clear hF
  refine aw_cut fun N hN => ?_
  simp (config := {maxSteps := 2000000}) only [s75, ↓aw_region, ↓aw_skip, ↓aw_seq, ↓aw_block, ↓aw_exit, ↓aw_ret, ↓sops_nil, ↓sops_go, ↓dops_nil, ↓dopsX_nil, ↓dopsR_nil, ↓vdn, vup, extr_20, extr_21, extr_30, extr_31, extr_32, List.map_cons, List.map_nil, cond_true, cond_false, aop, aThen, aBlock, argEnv, ev, sput, sputO, binK, binI, unK, builtinK, pickK, Nat.reduceBEq, Nat.reduceAdd, Int.reduceBEq, Int.reduceBNe, Int.reduceLT, aPost, resK, tup, tyf, List.map_toArray, storeF f3 shp_118]
  refine hN _ _ ?_
  clear hN N
  obtain ⟨G, hG⟩ : ∃ G, G = F.set (n + 3) (.cells [gV (n + 1) (n + 2) n (n + 3)] 118 false) := ⟨_, rfl⟩
  have hG' := hG
  rw [gV] at hG'
  rw [← hG']
  have g0 : G[n]? = some (.cells (ordC o) 77 false) := by rw [hG, List.getElem?_set_ne (by omega)]; exact f0
  have g1 : G[n + 1]? = some (.cells [.slice none 0 0] 45 false) := by rw [hG, List.getElem?_set_ne (by omega)]; exact f1
  have g2 : G[n + 2]? = some (.cells [.slice none 0 0] 22 false) := by rw [hG, List.getElem?_set_ne (by omega)]; exact f2
  have g3 : G[n + 3]? = some (.cells [gV (n + 1) (n + 2) n (n + 3)] 118 false) := by rw [hG]; exact get_set (by omega) _
  have hGl : G.length = n + 4 := by rw [hG]; simp [hFl]
  have hEG : Ext (fun _ => False) h G := ⟨by omega, fun i hi _ => by rw [hG, List.getElem?_set_ne (by omega)]; exact hEF.2 i hi id⟩
  clear hG hG' hEF f0 f1 f2 f3 hFl
  clear F
  have ls : LS (fun i => i = n ∨ i = n + 3) G (n + 1) (n + 2) G (.slice none 0 0) (.slice none 0 0) [] [] :=
    ⟨Nat.le_refl _, fun _ _ => rfl, fun i hi => by omega, g1, g2, by omega, by omega, by omega, .inl ⟨rfl, rfl⟩, ⟨[], .inl ⟨rfl, rfl⟩, trivial, fun _ h => by cases h⟩, fun _ h => (by cases h), fun _ h => (by cases h)⟩
  have hba : Am.bits (2 ^ o.length - 1) = List.range o.length := Ord.bits_all (by omega)
  have hgr := grow_call (I := fun i => i = n ∨ i = n + 3) ho ⟨.inl rfl, .inr rfl⟩ g0 g3 o.length (2 ^ o.length - 1) [] [] G _ _ ls (by rw [hba, List.length_range]) (by have := Nat.two_pow_pos o.length; omega) (by simp) (by
    rw [hba]
    have := allLines_len o
    rw [allLines] at this
    rw [this, List.length_nil]; omega)
  rw [hba] at hgr
  simp (config := {maxSteps := 2000000}) only [s75, ↓aw_region, ↓aw_skip, ↓aw_seq, ↓aw_block, ↓aw_exit, ↓aw_ret, ↓sops_nil, ↓sops_go, ↓dops_nil, ↓dopsX_nil, ↓dopsR_nil, ↓vdn, vup, extr_20, extr_21, extr_30, extr_31, extr_32, List.map_cons, List.map_nil, cond_true, cond_false, aop, aThen, aBlock, argEnv, ev, sput, sputO, binK, binI, unK, builtinK, pickK, Nat.reduceBEq, Nat.reduceAdd, Int.reduceBEq, Int.reduceBNe, Int.reduceLT, aPost, resK, tup, tyf]
  refine aw_drawX [(2, 1), (3, 4)] (by kernel_rfl) (by kernel_rfl) (by kernel_rfl) (by kernel_rfl) ?_
  simp (config := {maxSteps := 2000000}) only [s75, ↓aw_region, ↓aw_skip, ↓aw_seq, ↓aw_block, ↓aw_exit, ↓aw_ret, ↓sops_nil, ↓sops_go, ↓dops_nil, ↓dopsX_nil, ↓dopsR_nil, ↓vdn, vup, extr_20, extr_21, extr_30, extr_31, extr_32, List.map_cons, List.map_nil, cond_true, cond_false, aop, aThen, aBlock, argEnv, ev, sput, sputO, binK, binI, unK, builtinK, pickK, Nat.reduceBEq, Nat.reduceAdd, Int.reduceBEq, Int.reduceBNe, Int.reduceLT, aPost, resK, tup, tyf, load1 g3 shp_118, gV, loadO g0 shp_77 hlen.2, callK, List.nil_append, List.append_nil, List.toList_toArray, List.cons_append]
  refine ⟨_, _, all_call hlen.2, rfl, ?_⟩
  refine hgr.mono ?_
  rintro _ h' ⟨ov, lv, gs, hE, _, _⟩
  simp (config := {maxSteps := 2000000}) only [s75, ↓aw_region, ↓aw_skip, ↓aw_seq, ↓aw_block, ↓aw_exit, ↓aw_ret, ↓sops_nil, ↓sops_go, ↓dops_nil, ↓dopsX_nil, ↓dopsR_nil, ↓vdn, vup, extr_20, extr_21, extr_30, extr_31, extr_32, List.map_cons, List.map_nil, cond_true, cond_false, aop, aThen, aBlock, argEnv, ev, sput, sputO, binK, binI, unK, builtinK, pickK, Nat.reduceBEq, Nat.reduceAdd, Int.reduceBEq, Int.reduceBNe, Int.reduceLT, aPost, resK, tup, tyf, load1 gs.o shp_45]
  obtain ⟨ws, k1, k2, _⟩ := gs.out
  refine ⟨⟨ws, k1.val, ?_⟩, ⟨by have := hE.1; omega, fun i hi _ => ?_⟩⟩
  · rw [List.nil_append] at k2; exact k2
  · rw [hE.2 i (by omega) ?_, hEG.2 i hi id]
    rintro (h | h | h | h)
    · omega
    · omega
    · cases h
    · cases h

/-- What Lines hands back. -/
def LinesR (o : List Int) (r : Value) (h : Heap) : Prop := if ord o = true then ∃ w, r = .tuple #[w, .int .i64 0] ∧ RdL 3 h w (linesI o) else r = .tuple #[.slice none 0 0, .int .i64 2]
theorem lines31_call [BitTab prog 1] {h : Heap} {v : Value} {o : List Int} (hv : IntSl h v o) (hl : o.length < 9223372036854775808) (hx : ∀ x ∈ o, -9223372036854775808 ≤ x ∧ x < 9223372036854775808) :
    ACall prog 31 [v] h fun r h' => LinesR o r h' ∧ Ext (fun _ => False) h h' := by
  refine s31_call (by simp) ?_
  simp only [s31]
  simp (config := {maxSteps := 2000000}) only [s31, ↓aw_region, ↓aw_skip, ↓aw_seq, ↓aw_block, ↓aw_exit, ↓aw_ret, ↓sops_nil, ↓sops_go, ↓dops_nil, ↓dopsX_nil, ↓dopsR_nil, ↓vdn, vup, extr_20, extr_21, extr_30, extr_31, extr_32, List.map_cons, List.map_nil, cond_true, cond_false, aop, aThen, aBlock, argEnv, ev, sput, sputO, binK, binI, unK, builtinK, pickK, Nat.reduceBEq, Nat.reduceAdd, Int.reduceBEq, Int.reduceBNe, Int.reduceLT, aPost, resK, tup, tyf, callK, List.nil_append, List.append_nil, List.toList_toArray, List.cons_append]
  refine (read_call hv hl hx).mono ?_
  rintro _ g ⟨rfl, rfl⟩
  simp (config := {maxSteps := 2000000}) only [s31, ↓aw_region, ↓aw_skip, ↓aw_seq, ↓aw_block, ↓aw_exit, ↓aw_ret, ↓sops_nil, ↓sops_go, ↓dops_nil, ↓dopsX_nil, ↓dopsR_nil, ↓vdn, vup, extr_20, extr_21, extr_30, extr_31, extr_32, List.map_cons, List.map_nil, cond_true, cond_false, aop, aThen, aBlock, argEnv, ev, sput, sputO, binK, binI, unK, builtinK, pickK, Nat.reduceBEq, Nat.reduceAdd, Int.reduceBEq, Int.reduceBNe, Int.reduceLT, aPost, resK, tup, tyf, allocK, newPtr, zeroN, zero_77]
  rw [storeRd]
  obtain ⟨hE, hb⟩ := rdBox g o
  generalize hgl : g.length = gl at hE hb ⊢
  generalize (g ++ [Blk.cells (ordN 0) 77 false]).set gl (.cells (rdC o) 77 false) = G at hE hb ⊢
  cases ho : ord o with
  | false =>
    simp (config := {maxSteps := 2000000}) only [s31, ↓aw_region, ↓aw_skip, ↓aw_seq, ↓aw_block, ↓aw_exit, ↓aw_ret, ↓sops_nil, ↓sops_go, ↓dops_nil, ↓dopsX_nil, ↓dopsR_nil, ↓vdn, vup, extr_20, extr_21, extr_30, extr_31, extr_32, List.map_cons, List.map_nil, cond_true, cond_false, aop, aThen, aBlock, argEnv, ev, sput, sputO, binK, binI, unK, builtinK, pickK, Nat.reduceBEq, Nat.reduceAdd, Int.reduceBEq, Int.reduceBNe, Int.reduceLT, aPost, resK, tup, tyf, ho]
    rw [LinesR, ho]
    exact ⟨rfl, hE⟩
  | true =>
    have hrd : rdC o = ordC o := if_pos (ord_len ho)
    rw [hrd] at hb
    simp (config := {maxSteps := 2000000}) only [s31, ↓aw_region, ↓aw_skip, ↓aw_seq, ↓aw_block, ↓aw_exit, ↓aw_ret, ↓sops_nil, ↓sops_go, ↓dops_nil, ↓dopsX_nil, ↓dopsR_nil, ↓vdn, vup, extr_20, extr_21, extr_30, extr_31, extr_32, List.map_cons, List.map_nil, cond_true, cond_false, aop, aThen, aBlock, argEnv, ev, sput, sputO, binK, binI, unK, builtinK, pickK, Nat.reduceBEq, Nat.reduceAdd, Int.reduceBEq, Int.reduceBNe, Int.reduceLT, aPost, resK, tup, tyf, ho, loadO hb shp_77 (ord_len ho).2, callK, List.nil_append, List.append_nil, List.toList_toArray, List.cons_append]
    refine (lines75_call ho).mono ?_
    rintro r h' ⟨hr, hE2⟩
    rw [LinesR, ho]
    exact ⟨⟨r, rfl, hr⟩, hE.trans hE2⟩

theorem equalFunc_call [Tabs prog] {h : Heap} {v w : Value} {Ls : List (List Int)} (hv : RdL 3 h v Ls) (hw : RdL 3 h w Ls) (hl : Ls.length < 9223372036854775807) (hl2 : ∀ i, i < Ls.length → (Ls.getD i []).length < 9223372036854775808) :
    APure prog 32 [v, w, .func (.func 34) #[] #[]] h (.bool true) := by
  refine s32_call (by simp) ?_
  have hne : ((Ls.length : Int) != Ls.length) = false := by simp
  simp (config := {maxSteps := 2000000}) only [s32, ↓aw_region, ↓aw_skip, ↓aw_seq, ↓aw_block, ↓aw_exit, ↓aw_ret, ↓sops_nil, ↓sops_go, ↓dops_nil, ↓dopsX_nil, ↓dopsR_nil, ↓vdn, vup, extr_20, extr_21, extr_30, extr_31, extr_32, List.map_cons, List.map_nil, cond_true, cond_false, aop, aThen, aBlock, argEnv, ev, sput, sputO, binK, binI, unK, builtinK, pickK, Nat.reduceBEq, Nat.reduceAdd, Int.reduceBEq, Int.reduceBNe, Int.reduceLT, aPost, resK, tup, tyf, hv.len, hw.len, hne, ↓aw_loop_eq]
  refine aws_hide fun Q hQ => ?_
  refine aw_loop (γ := Nat) (fun i => i ≤ Ls.length)
    (fun i => ([(0, v), (1, w), (2, .func (.func 34) #[] #[]), (15, v), (16, vint Ls.length), (17, vint i)], h)) (fun i => Ls.length - i) 0 (Nat.zero_le _) (by simp (config := {maxSteps := 2000000}) only [↓aw_region, ↓aw_skip, ↓aw_seq, ↓aw_block, ↓aw_exit, ↓aw_ret, ↓sops_nil, ↓sops_go, ↓dops_nil, ↓dopsX_nil, ↓dopsR_nil, ↓vdn, vup, extr_20, extr_21, extr_30, extr_31, extr_32, List.map_cons, List.map_nil, cond_true, cond_false, aop, aThen, aBlock, argEnv, ev, sput, sputO, binK, binI, unK, builtinK, pickK, Nat.reduceBEq, Nat.reduceAdd, Int.reduceBEq, Int.reduceBNe, Int.reduceLT, aPost, resK, tup, tyf, Int.natCast_zero]) rfl ?_
  intro i hi
  refine aw_hide fun Q2 hQ2 => ?_
  by_cases hin : (i : Int) < Ls.length
  · have h1 : i < Ls.length := by omega
    obtain ⟨w1, hw1, l1⟩ := hv.load (P := prog) shp_22 h1
    obtain ⟨w2, hw2, l2⟩ := hw.load (P := prog) shp_22 h1
    simp (config := {maxSteps := 2000000}) only [s32, ↓aw_region, ↓aw_skip, ↓aw_seq, ↓aw_block, ↓aw_exit, ↓aw_ret, ↓sops_nil, ↓sops_go, ↓dops_nil, ↓dopsX_nil, ↓dopsR_nil, ↓vdn, vup, extr_20, extr_21, extr_30, extr_31, extr_32, List.map_cons, List.map_nil, cond_true, cond_false, aop, aThen, aBlock, argEnv, ev, sput, sputO, binK, binI, unK, builtinK, pickK, Nat.reduceBEq, Nat.reduceAdd, Int.reduceBEq, Int.reduceBNe, Int.reduceLT, aPost, resK, tup, tyf, l32_0, hin, hv.idx el_45 esz_22 h1, hw.idx el_45 esz_22 h1, l1, l2, callK, List.nil_append, List.append_nil, List.toList_toArray, List.cons_append]
    refine (equal_call hw1.int hw2.int (hl2 i h1) (hl2 i h1)).mono ?_
    rintro _ _ ⟨rfl, rfl⟩
    simp (config := {maxSteps := 2000000}) only [s32, ↓aw_region, ↓aw_skip, ↓aw_seq, ↓aw_block, ↓aw_exit, ↓aw_ret, ↓sops_nil, ↓sops_go, ↓dops_nil, ↓dopsX_nil, ↓dopsR_nil, ↓vdn, vup, extr_20, extr_21, extr_30, extr_31, extr_32, List.map_cons, List.map_nil, cond_true, cond_false, aop, aThen, aBlock, argEnv, ev, sput, sputO, binK, binI, unK, builtinK, pickK, Nat.reduceBEq, Nat.reduceAdd, Int.reduceBEq, Int.reduceBNe, Int.reduceLT, aPost, resK, tup, tyf, add1 (show i < 9223372036854775807 by omega)]
    exact hQ2 _ _ _ ⟨i + 1, by omega, by omega, by simp (config := {maxSteps := 2000000}) only [↓aw_region, ↓aw_skip, ↓aw_seq, ↓aw_block, ↓aw_exit, ↓aw_ret, ↓sops_nil, ↓sops_go, ↓dops_nil, ↓dopsX_nil, ↓dopsR_nil, ↓vdn, vup, extr_20, extr_21, extr_30, extr_31, extr_32, List.map_cons, List.map_nil, cond_true, cond_false, aop, aThen, aBlock, argEnv, ev, sput, sputO, binK, binI, unK, builtinK, pickK, Nat.reduceBEq, Nat.reduceAdd, Int.reduceBEq, Int.reduceBNe, Int.reduceLT, aPost, resK, tup, tyf], rfl⟩
  · obtain rfl : i = Ls.length := by omega
    simp (config := {maxSteps := 2000000}) only [s32, ↓aw_region, ↓aw_skip, ↓aw_seq, ↓aw_block, ↓aw_exit, ↓aw_ret, ↓sops_nil, ↓sops_go, ↓dops_nil, ↓dopsX_nil, ↓dopsR_nil, ↓vdn, vup, extr_20, extr_21, extr_30, extr_31, extr_32, List.map_cons, List.map_nil, cond_true, cond_false, aop, aThen, aBlock, argEnv, ev, sput, sputO, binK, binI, unK, builtinK, pickK, Nat.reduceBEq, Nat.reduceAdd, Int.reduceBEq, Int.reduceBNe, Int.reduceLT, aPost, resK, tup, tyf, l32_0, Int.lt_irrefl]
    refine hQ2 _ _ _ (hQ _ _ _ ?_)
    simp (config := {maxSteps := 2000000}) only [s32, ↓aw_region, ↓aw_skip, ↓aw_seq, ↓aw_block, ↓aw_exit, ↓aw_ret, ↓sops_nil, ↓sops_go, ↓dops_nil, ↓dopsX_nil, ↓dopsR_nil, ↓vdn, vup, extr_20, extr_21, extr_30, extr_31, extr_32, List.map_cons, List.map_nil, cond_true, cond_false, aop, aThen, aBlock, argEnv, ev, sput, sputO, binK, binI, unK, builtinK, pickK, Nat.reduceBEq, Nat.reduceAdd, Int.reduceBEq, Int.reduceBNe, Int.reduceLT, aPost, resK, tup, tyf, if_true]

theorem law_lines [BitTab prog 1] {h : Heap} {v : Value} {o : List Int} (hv : IntSl h v o) (hl : o.length < 9223372036854775808) (hx : ∀ x ∈ o, -9223372036854775808 ≤ x ∧ x < 9223372036854775808) :
    ACall prog 6 [v] h fun r _ => r = .bool true := by
  have hx9 : ∀ x ∈ o.take 9, -9223372036854775808 ≤ x ∧ x < 9223372036854775808 := fun x hm => hx x (List.take_subset _ _ hm)
  have hl9 : (o.take 9).length < 9223372036854775808 := by simp; omega
  have hc9 : countV (o.take 9) = countV o := by
    by_cases ho : ord o = true
    · rw [ord_take_eq ho]
    · rw [countV, countV, ord_take, if_neg ho, if_neg ho]
  refine s6_call (by simp) ?_
  simp only [s6]
  refine aw_cut fun N hN => ?_
  simp (config := {maxSteps := 2000000}) only [s6, ↓aw_region, ↓aw_skip, ↓aw_seq, ↓aw_block, ↓aw_exit, ↓aw_ret, ↓sops_nil, ↓sops_go, ↓dops_nil, ↓dopsX_nil, ↓dopsR_nil, ↓vdn, vup, extr_20, extr_21, extr_30, extr_31, extr_32, List.map_cons, List.map_nil, cond_true, cond_false, aop, aThen, aBlock, argEnv, ev, sput, sputO, binK, binI, unK, builtinK, pickK, Nat.reduceBEq, Nat.reduceAdd, Int.reduceBEq, Int.reduceBNe, Int.reduceLT, aPost, resK, tup, tyf]
  refine hN _ _ ?_
  clear hN N
  refine aw_cut fun N hN => ?_
  simp (config := {maxSteps := 2000000}) only [s6, ↓aw_region, ↓aw_skip, ↓aw_seq, ↓aw_block, ↓aw_exit, ↓aw_ret, ↓sops_nil, ↓sops_go, ↓dops_nil, ↓dopsX_nil, ↓dopsR_nil, ↓vdn, vup, extr_20, extr_21, extr_30, extr_31, extr_32, List.map_cons, List.map_nil, cond_true, cond_false, aop, aThen, aBlock, argEnv, ev, sput, sputO, binK, binI, unK, builtinK, pickK, Nat.reduceBEq, Nat.reduceAdd, Int.reduceBEq, Int.reduceBNe, Int.reduceLT, aPost, resK, tup, tyf, callK, List.nil_append, List.append_nil, List.toList_toArray, List.cons_append]
  refine (list_call hv hl).mono ?_
  rintro l1 _ ⟨hl1, g1, rfl⟩
  refine (lines31_call hl1 hl9 hx9).mono ?_
  rintro r1 h1 ⟨hr1, hE1⟩
  have hv1 : IntSl h1 v o := IntSl_ext (hv.grow g1) hE1
  clear hl1 hE1
  cases ho : ord o with
  | false =>
    rw [LinesR, ord_take, ho, if_neg (by decide)] at hr1
    subst hr1
    simp (config := {maxSteps := 2000000}) only [s6, ↓aw_region, ↓aw_skip, ↓aw_seq, ↓aw_block, ↓aw_exit, ↓aw_ret, ↓sops_nil, ↓sops_go, ↓dops_nil, ↓dopsX_nil, ↓dopsR_nil, ↓vdn, vup, extr_20, extr_21, extr_30, extr_31, extr_32, List.map_cons, List.map_nil, cond_true, cond_false, aop, aThen, aBlock, argEnv, ev, sput, sputO, binK, binI, unK, builtinK, pickK, Nat.reduceBEq, Nat.reduceAdd, Int.reduceBEq, Int.reduceBNe, Int.reduceLT, aPost, resK, tup, tyf]
    refine hN _ _ ?_
    clear hN N
    simp (config := {maxSteps := 2000000}) only [s6, ↓aw_region, ↓aw_skip, ↓aw_seq, ↓aw_block, ↓aw_exit, ↓aw_ret, ↓sops_nil, ↓sops_go, ↓dops_nil, ↓dopsX_nil, ↓dopsR_nil, ↓vdn, vup, extr_20, extr_21, extr_30, extr_31, extr_32, List.map_cons, List.map_nil, cond_true, cond_false, aop, aThen, aBlock, argEnv, ev, sput, sputO, binK, binI, unK, builtinK, pickK, Nat.reduceBEq, Nat.reduceAdd, Int.reduceBEq, Int.reduceBNe, Int.reduceLT, aPost, resK, tup, tyf, callK, List.nil_append, List.append_nil, List.toList_toArray, List.cons_append]
    refine (list_call hv1 hl).mono ?_
    rintro l2 _ ⟨hl2, g2, rfl⟩
    refine (count_call hl2 hl9 hx9).mono ?_
    rintro _ _ ⟨rfl, rfl⟩
    have hv2 := hv1.grow g2
    rw [hc9, countV, ho, if_neg (by decide)]
    simp (config := {maxSteps := 2000000}) only [s6, ↓aw_region, ↓aw_skip, ↓aw_seq, ↓aw_block, ↓aw_exit, ↓aw_ret, ↓sops_nil, ↓sops_go, ↓dops_nil, ↓dopsX_nil, ↓dopsR_nil, ↓vdn, vup, extr_20, extr_21, extr_30, extr_31, extr_32, List.map_cons, List.map_nil, cond_true, cond_false, aop, aThen, aBlock, argEnv, ev, sput, sputO, binK, binI, unK, builtinK, pickK, Nat.reduceBEq, Nat.reduceAdd, Int.reduceBEq, Int.reduceBNe, Int.reduceLT, aPost, resK, tup, tyf, callK, List.nil_append, List.append_nil, List.toList_toArray, List.cons_append]
    refine (rorder_call hv2 hl hx).mono ?_
    rintro _ _ ⟨rfl, rfl⟩
    simp (config := {maxSteps := 2000000}) only [s6, ↓aw_region, ↓aw_skip, ↓aw_seq, ↓aw_block, ↓aw_exit, ↓aw_ret, ↓sops_nil, ↓sops_go, ↓dops_nil, ↓dopsX_nil, ↓dopsR_nil, ↓vdn, vup, extr_20, extr_21, extr_30, extr_31, extr_32, List.map_cons, List.map_nil, cond_true, cond_false, aop, aThen, aBlock, argEnv, ev, sput, sputO, binK, binI, unK, builtinK, pickK, Nat.reduceBEq, Nat.reduceAdd, Int.reduceBEq, Int.reduceBNe, Int.reduceLT, aPost, resK, tup, tyf, ho, lenK, Int.natCast_zero, callK, List.nil_append, List.append_nil, List.toList_toArray, List.cons_append]
    refine awake_call.mono ?_
    rintro _ _ ⟨rfl, rfl⟩
    simp (config := {maxSteps := 2000000}) only [s6, ↓aw_region, ↓aw_skip, ↓aw_seq, ↓aw_block, ↓aw_exit, ↓aw_ret, ↓sops_nil, ↓sops_go, ↓dops_nil, ↓dopsX_nil, ↓dopsR_nil, ↓vdn, vup, extr_20, extr_21, extr_30, extr_31, extr_32, List.map_cons, List.map_nil, cond_true, cond_false, aop, aThen, aBlock, argEnv, ev, sput, sputO, binK, binI, unK, builtinK, pickK, Nat.reduceBEq, Nat.reduceAdd, Int.reduceBEq, Int.reduceBNe, Int.reduceLT, aPost, resK, tup, tyf]
  | true =>
    have hlen := ord_len ho
    have hcn := cn_le ho
    rw [LinesR, ord_take_eq ho, ho, if_pos rfl] at hr1
    obtain ⟨w1, rfl, hw1⟩ := hr1
    simp (config := {maxSteps := 2000000}) only [s6, ↓aw_region, ↓aw_skip, ↓aw_seq, ↓aw_block, ↓aw_exit, ↓aw_ret, ↓sops_nil, ↓sops_go, ↓dops_nil, ↓dopsX_nil, ↓dopsR_nil, ↓vdn, vup, extr_20, extr_21, extr_30, extr_31, extr_32, List.map_cons, List.map_nil, cond_true, cond_false, aop, aThen, aBlock, argEnv, ev, sput, sputO, binK, binI, unK, builtinK, pickK, Nat.reduceBEq, Nat.reduceAdd, Int.reduceBEq, Int.reduceBNe, Int.reduceLT, aPost, resK, tup, tyf]
    refine hN _ _ ?_
    clear hN N
    refine aw_cut fun N hN => ?_
    simp (config := {maxSteps := 2000000}) only [s6, ↓aw_region, ↓aw_skip, ↓aw_seq, ↓aw_block, ↓aw_exit, ↓aw_ret, ↓sops_nil, ↓sops_go, ↓dops_nil, ↓dopsX_nil, ↓dopsR_nil, ↓vdn, vup, extr_20, extr_21, extr_30, extr_31, extr_32, List.map_cons, List.map_nil, cond_true, cond_false, aop, aThen, aBlock, argEnv, ev, sput, sputO, binK, binI, unK, builtinK, pickK, Nat.reduceBEq, Nat.reduceAdd, Int.reduceBEq, Int.reduceBNe, Int.reduceLT, aPost, resK, tup, tyf, callK, List.nil_append, List.append_nil, List.toList_toArray, List.cons_append]
    refine (list_call hv1 hl).mono ?_
    rintro l2 _ ⟨hl2, g2, rfl⟩
    refine (count_call hl2 hl9 hx9).mono ?_
    rintro _ _ ⟨rfl, rfl⟩
    have hv2 := hv1.grow g2
    have hw2 : RdL 3 (h1 ++ g2) w1 (linesI o) := hw1.ext (Ext.app _ _ _)
    rw [hc9, countV, ho, if_pos rfl]
    generalize h1 ++ g2 = h2 at hv2 hw2 ⊢
    clear hl2 hw1 hv1
    simp (config := {maxSteps := 2000000}) only [s6, ↓aw_region, ↓aw_skip, ↓aw_seq, ↓aw_block, ↓aw_exit, ↓aw_ret, ↓sops_nil, ↓sops_go, ↓dops_nil, ↓dopsX_nil, ↓dopsR_nil, ↓vdn, vup, extr_20, extr_21, extr_30, extr_31, extr_32, List.map_cons, List.map_nil, cond_true, cond_false, aop, aThen, aBlock, argEnv, ev, sput, sputO, binK, binI, unK, builtinK, pickK, Nat.reduceBEq, Nat.reduceAdd, Int.reduceBEq, Int.reduceBNe, Int.reduceLT, aPost, resK, tup, tyf]
    refine hN _ _ ?_
    clear hN N
    refine aw_cut fun N hN => ?_
    simp (config := {maxSteps := 2000000}) only [s6, ↓aw_region, ↓aw_skip, ↓aw_seq, ↓aw_block, ↓aw_exit, ↓aw_ret, ↓sops_nil, ↓sops_go, ↓dops_nil, ↓dopsX_nil, ↓dopsR_nil, ↓vdn, vup, extr_20, extr_21, extr_30, extr_31, extr_32, List.map_cons, List.map_nil, cond_true, cond_false, aop, aThen, aBlock, argEnv, ev, sput, sputO, binK, binI, unK, builtinK, pickK, Nat.reduceBEq, Nat.reduceAdd, Int.reduceBEq, Int.reduceBNe, Int.reduceLT, aPost, resK, tup, tyf, callK, List.nil_append, List.append_nil, List.toList_toArray, List.cons_append]
    refine (rorder_call hv2 hl hx).mono ?_
    rintro _ h2 ⟨rfl, rfl⟩
    simp (config := {maxSteps := 2000000}) only [s6, ↓aw_region, ↓aw_skip, ↓aw_seq, ↓aw_block, ↓aw_exit, ↓aw_ret, ↓sops_nil, ↓sops_go, ↓dops_nil, ↓dopsX_nil, ↓dopsR_nil, ↓vdn, vup, extr_20, extr_21, extr_30, extr_31, extr_32, List.map_cons, List.map_nil, cond_true, cond_false, aop, aThen, aBlock, argEnv, ev, sput, sputO, binK, binI, unK, builtinK, pickK, Nat.reduceBEq, Nat.reduceAdd, Int.reduceBEq, Int.reduceBNe, Int.reduceLT, aPost, resK, tup, tyf, ho]
    refine hN _ _ ?_
    clear hN N
    simp (config := {maxSteps := 2000000}) only [s6, ↓aw_region, ↓aw_skip, ↓aw_seq, ↓aw_block, ↓aw_exit, ↓aw_ret, ↓sops_nil, ↓sops_go, ↓dops_nil, ↓dopsX_nil, ↓dopsR_nil, ↓vdn, vup, extr_20, extr_21, extr_30, extr_31, extr_32, List.map_cons, List.map_nil, cond_true, cond_false, aop, aThen, aBlock, argEnv, ev, sput, sputO, binK, binI, unK, builtinK, pickK, Nat.reduceBEq, Nat.reduceAdd, Int.reduceBEq, Int.reduceBNe, Int.reduceLT, aPost, resK, tup, tyf, callK, List.nil_append, List.append_nil, List.toList_toArray, List.cons_append]
    refine (rlinesAll_call hv2 ho).mono ?_
    rintro r3 h3 ⟨hr3, hE3⟩
    have hv3 := IntSl_ext hv2 hE3
    refine (equalFunc_call (hw2.ext hE3) hr3 (by rw [linesI_len]; omega) (fun i hi => ?_)).mono ?_
    · rw [linesI_len] at hi
      rw [linesI_get o hi, castN_len]
      have := ((mem_all ho).1 (show (allLines o).getD i [] ∈ allLines o by
        have h1 : i < (allLines o).length := by rw [allLines_len]; exact hi
        rw [List.getD, List.getElem?_eq_getElem h1]; exact List.getElem_mem _)).1.length_eq
      rw [this, List.length_range]; exact hl
    rintro _ _ ⟨rfl, rfl⟩
    simp (config := {maxSteps := 2000000}) only [s6, ↓aw_region, ↓aw_skip, ↓aw_seq, ↓aw_block, ↓aw_exit, ↓aw_ret, ↓sops_nil, ↓sops_go, ↓dops_nil, ↓dopsX_nil, ↓dopsR_nil, ↓vdn, vup, extr_20, extr_21, extr_30, extr_31, extr_32, List.map_cons, List.map_nil, cond_true, cond_false, aop, aThen, aBlock, argEnv, ev, sput, sputO, binK, binI, unK, builtinK, pickK, Nat.reduceBEq, Nat.reduceAdd, Int.reduceBEq, Int.reduceBNe, Int.reduceLT, aPost, resK, tup, tyf, callK, List.nil_append, List.append_nil, List.toList_toArray, List.cons_append]
    refine (rcount_call hv3 ho).mono ?_
    rintro _ _ ⟨rfl, rfl⟩
    simp (config := {maxSteps := 2000000}) only [s6, ↓aw_region, ↓aw_skip, ↓aw_seq, ↓aw_block, ↓aw_exit, ↓aw_ret, ↓sops_nil, ↓sops_go, ↓dops_nil, ↓dopsX_nil, ↓dopsR_nil, ↓vdn, vup, extr_20, extr_21, extr_30, extr_31, extr_32, List.map_cons, List.map_nil, cond_true, cond_false, aop, aThen, aBlock, argEnv, ev, sput, sputO, binK, binI, unK, builtinK, pickK, Nat.reduceBEq, Nat.reduceAdd, Int.reduceBEq, Int.reduceBNe, Int.reduceLT, aPost, resK, tup, tyf, beq_self_eq_true, callK, List.nil_append, List.append_nil, List.toList_toArray, List.cons_append]
    refine awake_call.mono ?_
    rintro _ _ ⟨rfl, rfl⟩
    simp (config := {maxSteps := 2000000}) only [s6, ↓aw_region, ↓aw_skip, ↓aw_seq, ↓aw_block, ↓aw_exit, ↓aw_ret, ↓sops_nil, ↓sops_go, ↓dops_nil, ↓dopsX_nil, ↓dopsR_nil, ↓vdn, vup, extr_20, extr_21, extr_30, extr_31, extr_32, List.map_cons, List.map_nil, cond_true, cond_false, aop, aThen, aBlock, argEnv, ev, sput, sputO, binK, binI, unK, builtinK, pickK, Nat.reduceBEq, Nat.reduceAdd, Int.reduceBEq, Int.reduceBNe, Int.reduceLT, aPost, resK, tup, tyf]
end Go.Proofs.Tryd.Am
