/-
  order: how many lines there are: by which sets can come first.
-/
import Derived.Test.YtnjacpfahhjpiaaDoorOrRead2
set_option linter.all false
namespace Go.Proofs.Tryd.Am
open Go.Am Ord
set_option maxRecDepth 100000
set_option maxHeartbeats 1000000

section
variable {P : Program} {h : Heap} {t e : TypeId} {b o n c k : Nat} {xs : List Int} {ro : Bool}
theorem idxS {K : Value → Prop} (he : elemOf' P t = some e) (hs : esz P e = some 1) (hk : k < n) : idxAddrK P t (.slice (some ⟨b, 0, none⟩) n c) (vint (k : Nat)) K = K (.pointer (some ⟨b, k, none⟩)) := by
  simp only [idxAddrK, he, hs, Int.natCast_nonneg, Int.toNat_natCast, Nat.mul_one, Nat.zero_add, true_and, Int.ofNat_lt.2 hk]
theorem loadX {K : Value → Prop} (hb : h[b]? = some (.ints xs e ro)) (hs : shp P t = some none) (ho : o < xs.length) : loadK P h t (.pointer (some ⟨b, o, none⟩)) K = K (vint (xs.getD o 0)) := by
  simp only [loadK, hs, cellK, hb, ho, true_and]
theorem storeX {K : Heap → Prop} {x : Int} (hb : h[b]? = some (.ints xs e false)) (hs : shp P t = some none) (ho : o < xs.length) : storeK P h t (.pointer (some ⟨b, o, none⟩)) (vint x) K = K (h.set b (.ints (xs.set o x) e false)) := by
  simp only [storeK, hs, hb, ho, true_and]
end

/-- The table of ways, with those below s filled in. -/
def WS (o : List Int) (s : Nat) : List Int := (List.range (2 ^ o.length)).map fun k => if k < s then ((W o k : Nat) : Int) else 0
theorem WS_len {o : List Int} {s : Nat} : (WS o s).length = 2 ^ o.length := by simp [WS]
theorem WS_get {o : List Int} {s k : Nat} (hk : k < s) (hs : s ≤ 2 ^ o.length) : (WS o s).getD k 0 = ((W o k : Nat) : Int) := by
  rw [WS, getD_map, if_pos (by omega), if_pos hk]
theorem WS_one {o : List Int} : (List.replicate (2 ^ o.length) (0 : Int)).set 0 1 = WS o 1 := by
  have hp := Nat.two_pow_pos o.length
  refine List.ext_getElem (by simp [WS_len]) fun i h1 h2 => ?_
  rw [List.getElem_set]
  by_cases hi : 0 = i
  · subst hi; simp [WS, W_zero]
  · rw [if_neg hi]; simp [WS]; omega
theorem WS_set {o : List Int} {s : Nat} : (WS o s).set s ((W o s : Nat) : Int) = WS o (s + 1) := by
  refine List.ext_getElem (by simp [WS_len]) fun i h1 h2 => ?_
  rw [List.getElem_set]
  by_cases hi : s = i
  · subst hi; simp [WS]
  · rw [if_neg hi]
    simp only [WS, List.getElem_map, List.getElem_range]
    by_cases hlt : i < s
    · rw [if_pos hlt, if_pos (by omega)]
    · rw [if_neg hlt, if_neg (by omega)]
theorem WS_zero {o : List Int} {s : Nat} (hs : s < 2 ^ o.length) : (WS o s).set s 0 = WS o s := by
  refine List.ext_getElem (by simp) fun i h1 h2 => ?_
  rw [List.getElem_set]
  by_cases hi : s = i
  · subst hi; simp [WS]
  · rw [if_neg hi]
/-- What has come together from some last elements. -/
def ps (o : List Int) (s : Nat) (pre : List Nat) : Nat := ((pre.filter (okLast o s)).map fun i => W o (less s (2 ^ i))).sum
theorem ps_snoc {o : List Int} {s : Nat} {pre : List Nat} {x : Nat} : ps o s (pre ++ [x]) = if okLast o s x = true then ps o s pre + W o (less s (2 ^ x)) else ps o s pre := by
  unfold ps
  rw [List.filter_append, List.map_append, List.sum_append, List.filter_cons]
  split <;> simp
theorem ps_le {o : List Int} {s : Nat} (hs : s < 64) : ∀ pre : List Nat, ps o s pre ≤ pre.length * 46656 := by
  intro pre
  unfold ps
  induction pre with
  | nil => simp
  | cons x pre ih =>
    rw [List.filter_cons, List.length_cons, Nat.succ_mul]
    split
    · rw [List.map_cons, List.sum_cons]
      have := W_le (o := o) (s := less s (2 ^ x)) (less_lt (n := 6) hs)
      omega
    · omega

theorem eq0 (n : Nat) : (((n : Nat) : Int) == 0) = decide (n = 0) := by
  by_cases h : n = 0
  · subst h; rfl
  · rw [decide_eq_false h]
    have : ((n : Nat) : Int) ≠ 0 := by omega
    simpa using this

theorem counted_call [BitTab prog 1] {h : Heap} {o : List Int} (ho : ord o = true) : APure prog 65 [ordV o] h (vint (cn o : Nat)) := by
  have hlen := ord_len ho
  have hpw := pow6 hlen.2
  refine ACall.forget (Low.int _ _) ?_
  refine s65_call (by simp) ?_
  simp only [s65]
  refine aw_cut fun N hN => ?_
  simp (config := {maxSteps := 2000000}) only [s65, ↓aw_region, ↓aw_skip, ↓aw_seq, ↓aw_block, ↓aw_exit, ↓aw_ret, ↓sops_nil, ↓sops_go, ↓dops_nil, ↓dopsX_nil, ↓dopsR_nil, ↓vdn, vup, extr_20, extr_21, extr_30, extr_31, extr_32, List.map_cons, List.map_nil, cond_true, cond_false, aop, aThen, aBlock, argEnv, ev, sput, sputO, binK, binI, unK, builtinK, pickK, Nat.reduceBEq, Nat.reduceAdd, Int.reduceBEq, Int.reduceBNe, Int.reduceLT, aPost, resK, tup, tyf, boxO esz_77, newPtr]
  refine hN _ _ ?_
  clear hN N
  obtain ⟨n, hn⟩ : ∃ n, n = h.length := ⟨_, rfl⟩
  rw [← hn]
  have hadd : addV .i64 ((2 ^ o.length - 1 : Nat) : Int) 1 = ((2 ^ o.length : Nat) : Int) := by rw [addV_id (by omega) (by omega)]; omega
  have hm0 : (0 : Int) ≤ ((2 ^ o.length : Nat) : Int) := Int.natCast_nonneg _
  have hm1 : ((2 ^ o.length : Nat) : Int) ≤ 35184372088832 := by omega
  have c0 : (h ++ [Blk.cells (ordC o) 77 false])[n]? = some (.cells (ordC o) 77 false) := by rw [hn]; exact get_new _ _
  refine aw_cut fun N hN => ?_
  simp (config := {maxSteps := 2000000}) only [s65, ↓aw_region, ↓aw_skip, ↓aw_seq, ↓aw_block, ↓aw_exit, ↓aw_ret, ↓sops_nil, ↓sops_go, ↓dops_nil, ↓dopsX_nil, ↓dopsR_nil, ↓vdn, vup, extr_20, extr_21, extr_30, extr_31, extr_32, List.map_cons, List.map_nil, cond_true, cond_false, aop, aThen, aBlock, argEnv, ev, sput, sputO, binK, binI, unK, builtinK, pickK, Nat.reduceBEq, Nat.reduceAdd, Int.reduceBEq, Int.reduceBNe, Int.reduceLT, aPost, resK, tup, tyf, loadO c0 shp_77 hlen.2, callK, List.nil_append, List.append_nil, List.toList_toArray, List.cons_append]
  refine (all_call hlen.2).mono ?_
  rintro _ _ ⟨rfl, rfl⟩
  simp (config := {maxSteps := 2000000}) only [s65, ↓aw_region, ↓aw_skip, ↓aw_seq, ↓aw_block, ↓aw_exit, ↓aw_ret, ↓sops_nil, ↓sops_go, ↓dops_nil, ↓dopsX_nil, ↓dopsR_nil, ↓vdn, vup, extr_20, extr_21, extr_30, extr_31, extr_32, List.map_cons, List.map_nil, cond_true, cond_false, aop, aThen, aBlock, argEnv, ev, sput, sputO, binK, binI, unK, builtinK, pickK, Nat.reduceBEq, Nat.reduceAdd, Int.reduceBEq, Int.reduceBNe, Int.reduceLT, aPost, resK, tup, tyf, hadd, makeI el_22 zero_3 info_3 hm0 hm1, Int.toNat_natCast, allocK, newPtr]
  obtain ⟨N0, hN0⟩ : ∃ N0, N0 = 2 ^ o.length := ⟨_, rfl⟩
  obtain ⟨S, hS⟩ : ∃ S : Value, S = .slice (some ⟨n + 1, 0, none⟩) N0 N0 := ⟨_, rfl⟩
  simp only [zero_22, List.length_append, List.length_cons, List.length_nil, Nat.zero_add, Nat.add_assoc, Nat.reduceAdd, ← hn, ← hN0, ← hS]
  have hone : one S = true := by rw [hS]; rfl
  have c2 : (h ++ [Blk.cells (ordC o) 77 false] ++ [Blk.ints (List.replicate N0 0) 3 false] ++ [Blk.cells [.slice none 0 0] 22 false])[n + 2]? = some (.cells [.slice none 0 0] 22 false) := by
    have := get_new (h ++ [Blk.cells (ordC o) 77 false] ++ [Blk.ints (List.replicate N0 0) 3 false]) (Blk.cells [.slice none 0 0] 22 false)
    simpa [hn] using this
  rw [store1 c2 shp_22 hone]
  obtain ⟨H, hH⟩ : ∃ H, H = (h ++ [Blk.cells (ordC o) 77 false] ++ [Blk.ints (List.replicate N0 0) 3 false] ++ [Blk.cells [.slice none 0 0] 22 false]).set (n + 2) (.cells [S] 22 false) := ⟨_, rfl⟩
  rw [← hH]
  have hHl : H.length = n + 3 := by rw [hH, hn]; simp
  have b0 : H[n]? = some (.cells (ordC o) 77 false) := by rw [hH, List.getElem?_set_ne (by omega)]; exact get_old (get_old c0 _) _
  have b1 : H[n + 1]? = some (.ints (List.replicate N0 0) 3 false) := by
    rw [hH, List.getElem?_set_ne (by omega)]
    have := get_new (h ++ [Blk.cells (ordC o) 77 false]) (Blk.ints (List.replicate N0 0) 3 false)
    simp only [List.length_append, List.length_singleton, ← hn] at this
    exact get_old this _
  have b2 : H[n + 2]? = some (.cells [S] 22 false) := by rw [hH]; exact get_set (by rw [hn]; simp) _
  have hE0 : Ext (fun _ => False) h H := ⟨by omega, fun i hi _ => by
    rw [hH, List.getElem?_set_ne (by omega), List.append_assoc, List.append_assoc, List.getElem?_append_left hi]⟩
  clear c2 hH
  refine hN _ _ ?_
  clear hN N
  -- ways[0] = 1
  refine aw_cut fun N hN => ?_
  have hidx : ∀ {k : Nat} {K : Value → Prop}, k < N0 → idxAddrK prog 22 S (vint (k : Nat)) K = K (.pointer (some ⟨n + 1, k, none⟩)) := fun {k K} hk => by rw [hS]; exact idxS el_22 esz_3 hk
  have hidx0 : ∀ {K : Value → Prop}, idxAddrK prog 22 S (.int .i64 0) K = K (.pointer (some ⟨n + 1, 0, none⟩)) := fun {K} => hidx (k := 0) (by omega)
  simp (config := {maxSteps := 2000000}) only [s65, ↓aw_region, ↓aw_skip, ↓aw_seq, ↓aw_block, ↓aw_exit, ↓aw_ret, ↓sops_nil, ↓sops_go, ↓dops_nil, ↓dopsX_nil, ↓dopsR_nil, ↓vdn, vup, extr_20, extr_21, extr_30, extr_31, extr_32, List.map_cons, List.map_nil, cond_true, cond_false, aop, aThen, aBlock, argEnv, ev, sput, sputO, binK, binI, unK, builtinK, pickK, Nat.reduceBEq, Nat.reduceAdd, Int.reduceBEq, Int.reduceBNe, Int.reduceLT, aPost, resK, tup, tyf, load1 b2 shp_22, hidx0]
  rw [storeX (x := 1) b1 shp_3 (by simp; omega)]
  refine hN _ _ ?_
  clear hN N
  obtain ⟨G, hG⟩ : ∃ G, G = H.set (n + 1) (.ints ((List.replicate N0 0).set 0 1) 3 false) := ⟨_, rfl⟩
  rw [← hG]
  rw [hN0, WS_one] at hG
  have hGl : G.length = n + 3 := by rw [hG]; simp [hHl]
  have g0 : G[n]? = some (.cells (ordC o) 77 false) := by rw [hG, List.getElem?_set_ne (by omega)]; exact b0
  have g1 : G[n + 1]? = some (.ints (WS o 1) 3 false) := by rw [hG]; exact get_set (by omega) _
  have g2 : G[n + 2]? = some (.cells [S] 22 false) := by rw [hG, List.getElem?_set_ne (by omega)]; exact b2
  have hEG : Ext (fun _ => False) h G := ⟨by omega, fun i hi _ => by rw [hG, List.getElem?_set_ne (by omega)]; exact hE0.2 i hi id⟩
  clear b0 b1 b2 hG hE0 hHl
  clear H
  -- the sets
  simp (config := {maxSteps := 2000000}) only [s65, ↓aw_region, ↓aw_skip, ↓aw_seq, ↓aw_block, ↓aw_exit, ↓aw_ret, ↓sops_nil, ↓sops_go, ↓dops_nil, ↓dopsX_nil, ↓dopsR_nil, ↓vdn, vup, extr_20, extr_21, extr_30, extr_31, extr_32, List.map_cons, List.map_nil, cond_true, cond_false, aop, aThen, aBlock, argEnv, ev, sput, sputO, binK, binI, unK, builtinK, pickK, Nat.reduceBEq, Nat.reduceAdd, Int.reduceBEq, Int.reduceBNe, Int.reduceLT, aPost, resK, tup, tyf, allocK, newPtr]
  rw [storeI (v := .int .i64 0) (e := 3) (get_new _ _) shp_3, hGl]
  obtain ⟨F, hF⟩ : ∃ F, F = (G ++ [Blk.cells [.int .i64 0] 3 false]).set (n + 3) (.cells [.int .i64 1] 3 false) := ⟨_, rfl⟩
  rw [← hF]
  have hFl : F.length = n + 4 := by rw [hF]; simp [hGl]
  have oldF : ∀ {k B}, G[k]? = some B → F[k]? = some B := fun {k B} hk => by
    have := get_lt hk
    rw [hF, List.getElem?_set_ne (by omega)]; exact get_old hk _
  have f3 : F[n + 3]? = some (.cells [.int .i64 1] 3 false) := by rw [hF]; exact get_set (by simp [hGl]) _
  have hEF : Ext (fun _ => False) h F := ⟨by omega, fun i hi _ => by rw [hF, List.getElem?_set_ne (by omega), List.getElem?_append_left (by omega)]; exact hEG.2 i hi id⟩
  have f0 := oldF g0
  have f1 := oldF g1
  have f2 := oldF g2
  clear g0 g1 g2 oldF hEG hF hGl
  clear G
  simp only [↓aw_loop_eq]
  refine aws_hide fun Q hQ => ?_
  refine aw_loop (γ := Nat × Nat × Heap) (fun s => 1 ≤ s.1 ∧ s.1 ≤ N0 ∧ n + 3 ≤ s.2.1 ∧ s.2.2[n]? = some (.cells (ordC o) 77 false) ∧ s.2.2[n + 1]? = some (.ints (WS o s.1) 3 false) ∧ s.2.2[n + 2]? = some (.cells [S] 22 false) ∧ s.2.2[s.2.1]? = some (.cells [vint (s.1 : Nat)] 3 false) ∧ Ext (fun _ => False) h s.2.2)
    (fun s => ([(0, ordV o), (1, .pointer (some ⟨n, 0, none⟩)), (2, .int .i64 0), (3, .pointer (some ⟨n + 2, 0, none⟩)), (4, .pointer (some ⟨s.2.1, 0, none⟩))], s.2.2)) (fun s => N0 - s.1) (1, n + 3, F) ⟨Nat.le_refl _, by omega, Nat.le_refl _, f0, f1, f2, f3, hEF⟩ (by simp (config := {maxSteps := 2000000}) only [↓aw_region, ↓aw_skip, ↓aw_seq, ↓aw_block, ↓aw_exit, ↓aw_ret, ↓sops_nil, ↓sops_go, ↓dops_nil, ↓dopsX_nil, ↓dopsR_nil, ↓vdn, vup, extr_20, extr_21, extr_30, extr_31, extr_32, List.map_cons, List.map_nil, cond_true, cond_false, aop, aThen, aBlock, argEnv, ev, sput, sputO, binK, binI, unK, builtinK, pickK, Nat.reduceBEq, Nat.reduceAdd, Int.reduceBEq, Int.reduceBNe, Int.reduceLT, aPost, resK, tup, tyf, Int.natCast_one]) rfl ?_
  rintro ⟨s, b, hp⟩ ⟨hs1, hsN, hb, e0, e1, e2, e3, hE⟩
  simp only at hs1 hsN hb e0 e1 e2 e3 hE
  refine aw_hide fun Q2 hQ2 => ?_
  have hbl := get_lt e3
  have hlE := hE.1
  simp only [l65_1]
  simp (config := {maxSteps := 2000000}) only [s65, ↓aw_region, ↓aw_skip, ↓aw_seq, ↓aw_block, ↓aw_exit, ↓aw_ret, ↓sops_nil, ↓sops_go, ↓dops_nil, ↓dopsX_nil, ↓dopsR_nil, ↓vdn, vup, extr_20, extr_21, extr_30, extr_31, extr_32, List.map_cons, List.map_nil, cond_true, cond_false, aop, aThen, aBlock, argEnv, ev, sput, sputO, binK, binI, unK, builtinK, pickK, Nat.reduceBEq, Nat.reduceAdd, Int.reduceBEq, Int.reduceBNe, Int.reduceLT, aPost, resK, tup, tyf]
  refine aw_drawX [(2, 1)] (by kernel_rfl) (by kernel_rfl) (by kernel_rfl) (by kernel_rfl) ?_
  simp (config := {maxSteps := 2000000}) only [s65, ↓aw_region, ↓aw_skip, ↓aw_seq, ↓aw_block, ↓aw_exit, ↓aw_ret, ↓sops_nil, ↓sops_go, ↓dops_nil, ↓dopsX_nil, ↓dopsR_nil, ↓vdn, vup, extr_20, extr_21, extr_30, extr_31, extr_32, List.map_cons, List.map_nil, cond_true, cond_false, aop, aThen, aBlock, argEnv, ev, sput, sputO, binK, binI, unK, builtinK, pickK, Nat.reduceBEq, Nat.reduceAdd, Int.reduceBEq, Int.reduceBNe, Int.reduceLT, aPost, resK, tup, tyf, load1 e3 shp_3, loadO e0 shp_77 hlen.2, callK, List.nil_append, List.append_nil, List.toList_toArray, List.cons_append]
  refine ⟨_, _, all_call hlen.2, rfl, ?_⟩
  by_cases hlast : s = N0
  · have hle : ¬ (s : Int) ≤ ((2 ^ o.length - 1 : Nat) : Int) := by omega
    simp (config := {maxSteps := 2000000}) only [s65, ↓aw_region, ↓aw_skip, ↓aw_seq, ↓aw_block, ↓aw_exit, ↓aw_ret, ↓sops_nil, ↓sops_go, ↓dops_nil, ↓dopsX_nil, ↓dopsR_nil, ↓vdn, vup, extr_20, extr_21, extr_30, extr_31, extr_32, List.map_cons, List.map_nil, cond_true, cond_false, aop, aThen, aBlock, argEnv, ev, sput, sputO, binK, binI, unK, builtinK, pickK, Nat.reduceBEq, Nat.reduceAdd, Int.reduceBEq, Int.reduceBNe, Int.reduceLT, aPost, resK, tup, tyf, hle]
    refine hQ2 _ _ _ (hQ _ _ _ ?_)
    simp (config := {maxSteps := 2000000}) only [s65, ↓aw_region, ↓aw_skip, ↓aw_seq, ↓aw_block, ↓aw_exit, ↓aw_ret, ↓sops_nil, ↓sops_go, ↓dops_nil, ↓dopsX_nil, ↓dopsR_nil, ↓vdn, vup, extr_20, extr_21, extr_30, extr_31, extr_32, List.map_cons, List.map_nil, cond_true, cond_false, aop, aThen, aBlock, argEnv, ev, sput, sputO, binK, binI, unK, builtinK, pickK, Nat.reduceBEq, Nat.reduceAdd, Int.reduceBEq, Int.reduceBNe, Int.reduceLT, aPost, resK, tup, tyf]
    refine aw_drawX [(2, 1)] (by kernel_rfl) (by kernel_rfl) (by kernel_rfl) (by kernel_rfl) ?_
    simp (config := {maxSteps := 2000000}) only [s65, ↓aw_region, ↓aw_skip, ↓aw_seq, ↓aw_block, ↓aw_exit, ↓aw_ret, ↓sops_nil, ↓sops_go, ↓dops_nil, ↓dopsX_nil, ↓dopsR_nil, ↓vdn, vup, extr_20, extr_21, extr_30, extr_31, extr_32, List.map_cons, List.map_nil, cond_true, cond_false, aop, aThen, aBlock, argEnv, ev, sput, sputO, binK, binI, unK, builtinK, pickK, Nat.reduceBEq, Nat.reduceAdd, Int.reduceBEq, Int.reduceBNe, Int.reduceLT, aPost, resK, tup, tyf, load1 e2 shp_22, loadO e0 shp_77 hlen.2, callK, List.nil_append, List.append_nil, List.toList_toArray, List.cons_append]
    refine ⟨_, _, all_call hlen.2, rfl, ?_⟩
    have hk : 2 ^ o.length - 1 < N0 := by omega
    have hk2 : 2 ^ o.length - 1 < (WS o s).length := by rw [WS_len]; omega
    have hget : (WS o s).getD (2 ^ o.length - 1) 0 = ((cn o : Nat) : Int) := by rw [WS_get (by omega) (by omega), cn_len ho]
    simp (config := {maxSteps := 2000000}) only [s65, ↓aw_region, ↓aw_skip, ↓aw_seq, ↓aw_block, ↓aw_exit, ↓aw_ret, ↓sops_nil, ↓sops_go, ↓dops_nil, ↓dopsX_nil, ↓dopsR_nil, ↓vdn, vup, extr_20, extr_21, extr_30, extr_31, extr_32, List.map_cons, List.map_nil, cond_true, cond_false, aop, aThen, aBlock, argEnv, ev, sput, sputO, binK, binI, unK, builtinK, pickK, Nat.reduceBEq, Nat.reduceAdd, Int.reduceBEq, Int.reduceBNe, Int.reduceLT, aPost, resK, tup, tyf, hidx hk, loadX e1 shp_3 hk2, hget]
    exact hE
  have hs : s < 64 := by omega
  have hle : (s : Int) ≤ ((2 ^ o.length - 1 : Nat) : Int) := by omega
  simp (config := {maxSteps := 2000000}) only [s65, ↓aw_region, ↓aw_skip, ↓aw_seq, ↓aw_block, ↓aw_exit, ↓aw_ret, ↓sops_nil, ↓sops_go, ↓dops_nil, ↓dopsX_nil, ↓dopsR_nil, ↓vdn, vup, extr_20, extr_21, extr_30, extr_31, extr_32, List.map_cons, List.map_nil, cond_true, cond_false, aop, aThen, aBlock, argEnv, ev, sput, sputO, binK, binI, unK, builtinK, pickK, Nat.reduceBEq, Nat.reduceAdd, Int.reduceBEq, Int.reduceBNe, Int.reduceLT, aPost, resK, tup, tyf, hle, load1 e3 shp_3, callK, List.nil_append, List.append_nil, List.toList_toArray, List.cons_append]
  refine elements_call.mono ?_
  rintro _ _ ⟨rfl, rfl⟩
  have hWl : (WS o s).length = N0 := by rw [WS_len, hN0]
  refine aw_range bitIter (bx := hp.length) (s := s) (et := 3) rfl (get_new _ _) (by omega) (fun pre hk => hk[n]? = some (.cells (ordC o) 77 false) ∧ hk[n + 1]? = some (.ints ((WS o s).set s ((ps o s pre : Nat) : Int)) 3 false) ∧ hk[n + 2]? = some (.cells [S] 22 false) ∧ hk[b]? = some (.cells [vint (s : Nat)] 3 false) ∧ Ext (fun i => i = n + 1) hp hk ∧ Ext (fun _ => False) h hk) ?_ ?_ ?_
  · have old : ∀ {k B}, hp[k]? = some B → ((hp ++ [Blk.cells [vint (s : Nat)] 3 false]).set hp.length .dead)[k]? = some B := fun {k B} hk => by
      have := get_lt hk
      rw [List.getElem?_set_ne (by omega)]; exact get_old hk _
    refine ⟨old e0, ?_, old e2, old e3, ⟨by simp, fun j hj _ => ?_⟩, ⟨by simp; omega, fun j hj _ => ?_⟩⟩
    · rw [show ps o s [] = 0 from rfl, Int.natCast_zero, WS_zero (by omega)]; exact old e1
    · rw [List.getElem?_set_ne (by omega), List.getElem?_append_left hj]
    · rw [List.getElem?_set_ne (by omega), List.getElem?_append_left (by omega)]; exact hE.2 j hj id
  · rintro pre x hk hpre ⟨k0, k1, k2, k3, hEk, hEh⟩
    obtain ⟨hx64, hxb⟩ := mem_bits.1 (mem_pre hpre)
    have hx6 : x < o.length := by
      rcases Nat.lt_or_ge x o.length with h | h
      · exact h
      · rw [Nat.testBit_lt_two_pow (Nat.lt_of_lt_of_le (show s < 2 ^ o.length by omega) (Nat.pow_le_pow_right (by decide) h))] at hxb; cases hxb
    have hpl : pre.length ≤ 64 := by
      obtain ⟨t, ht⟩ := hpre
      have h1 := bits_len6 hs
      have h2 := congrArg List.length ht
      simp only [List.length_append, List.length_singleton] at h2
      omega
    have hps := ps_le (o := o) hs pre
    have hdl := dn_lt (o := o) (i := x)
    have hxn := ord_nat ho hx6
    have hand1 := bitsV_andNot (a := dn o x) (b := s) (by omega) (by omega)
    have hand2 : bitsV .and .i64 (o.getD x 0) (s : Int) = ((bt o x &&& s : Nat) : Int) := by rw [hxn.1]; exact bitsV_and (by omega) (by omega)
    simp (config := {maxSteps := 2000000}) only [s65, ↓aw_region, ↓aw_skip, ↓aw_seq, ↓aw_block, ↓aw_exit, ↓aw_ret, ↓sops_nil, ↓sops_go, ↓dops_nil, ↓dopsX_nil, ↓dopsR_nil, ↓vdn, vup, extr_20, extr_21, extr_30, extr_31, extr_32, List.map_cons, List.map_nil, cond_true, cond_false, aop, aThen, aBlock, argEnv, ev, sput, sputO, binK, binI, unK, builtinK, pickK, Nat.reduceBEq, Nat.reduceAdd, Int.reduceBEq, Int.reduceBNe, Int.reduceLT, aPost, resK, tup, tyf, r65_0_a, r65_0_b]
    refine aw_drawX [(2, 1)] (by kernel_rfl) (by kernel_rfl) (by kernel_rfl) (by kernel_rfl) ?_
    simp (config := {maxSteps := 2000000}) only [s65, ↓aw_region, ↓aw_skip, ↓aw_seq, ↓aw_block, ↓aw_exit, ↓aw_ret, ↓sops_nil, ↓sops_go, ↓dops_nil, ↓dopsX_nil, ↓dopsR_nil, ↓vdn, vup, extr_20, extr_21, extr_30, extr_31, extr_32, List.map_cons, List.map_nil, cond_true, cond_false, aop, aThen, aBlock, argEnv, ev, sput, sputO, binK, binI, unK, builtinK, pickK, Nat.reduceBEq, Nat.reduceAdd, Int.reduceBEq, Int.reduceBNe, Int.reduceLT, aPost, resK, tup, tyf, loadO k0 shp_77 hlen.2, callK, List.nil_append, List.append_nil, List.toList_toArray, List.cons_append]
    refine ⟨_, _, below_call ho, rfl, ?_⟩
    by_cases hd1 : less (dn o x) s = 0
    · by_cases hd2 : bt o x &&& s = 0
      · have hok : okLast o s x = true := by simp [okLast, hd1, hd2]
        have hlt := less_bit_lt hxb
        have h2x : 2 ^ x ≤ 32 := Nat.pow_le_pow_right (n := 2) (j := 5) (by decide) (by omega)
        have hshl : shlV .i64 1 x = 2 ^ x := shl1 (by omega)
        have hand3 : bitsV .andNot .i64 (s : Int) (2 ^ x) = ((less s (2 ^ x) : Nat) : Int) := by
          have := bitsV_andNot (a := s) (b := 2 ^ x) (by omega) (by omega)
          rw [pow_cast] at this; exact this
        have hi1 : s < N0 := by omega
        have hi2 : less s (2 ^ x) < N0 := by omega
        have hsl : s < ((WS o s).set s ((ps o s pre : Nat) : Int)).length := by rw [List.length_set]; omega
        have hsl2 : less s (2 ^ x) < ((WS o s).set s ((ps o s pre : Nat) : Int)).length := by rw [List.length_set]; omega
        have hg1 : ((WS o s).set s ((ps o s pre : Nat) : Int)).getD s 0 = ((ps o s pre : Nat) : Int) := by
          rw [List.getD, List.getElem?_set_self (by omega)]; rfl
        have hg2 : ((WS o s).set s ((ps o s pre : Nat) : Int)).getD (less s (2 ^ x)) 0 = ((W o (less s (2 ^ x)) : Nat) : Int) := by
          rw [List.getD, List.getElem?_set_ne (by omega)]; exact WS_get hlt (by omega)
        have hW := W_le (o := o) (s := less s (2 ^ x)) (by omega)
        have hsum : addV .i64 ((ps o s pre : Nat) : Int) ((W o (less s (2 ^ x)) : Nat) : Int) = ((ps o s (pre ++ [x]) : Nat) : Int) := by
          rw [ps_snoc, if_pos hok, addV_id (by omega) (by omega)]; omega
        have hone2 : (0 : Nat) < 1 := by decide
        simp (config := {maxSteps := 2000000}) only [s65, ↓aw_region, ↓aw_skip, ↓aw_seq, ↓aw_block, ↓aw_exit, ↓aw_ret, ↓sops_nil, ↓sops_go, ↓dops_nil, ↓dopsX_nil, ↓dopsR_nil, ↓vdn, vup, extr_20, extr_21, extr_30, extr_31, extr_32, List.map_cons, List.map_nil, cond_true, cond_false, aop, aThen, aBlock, argEnv, ev, sput, sputO, binK, binI, unK, builtinK, pickK, Nat.reduceBEq, Nat.reduceAdd, Int.reduceBEq, Int.reduceBNe, Int.reduceLT, aPost, resK, tup, tyf, load1 k3 shp_3, hand1, hd1, Int.natCast_zero, fldA fld_77_1 esz_75, idxA und_75 esz_3 (show x < 6 by omega), loadI k0 shp_3 hlen.2 (show x < 6 by omega), hand2, hd2]
        refine aw_drawX [] (by kernel_rfl) (by kernel_rfl) (by kernel_rfl) (by kernel_rfl) ?_
        simp (config := {maxSteps := 2000000}) only [s65, ↓aw_region, ↓aw_skip, ↓aw_seq, ↓aw_block, ↓aw_exit, ↓aw_ret, ↓sops_nil, ↓sops_go, ↓dops_nil, ↓dopsX_nil, ↓dopsR_nil, ↓vdn, vup, extr_20, extr_21, extr_30, extr_31, extr_32, List.map_cons, List.map_nil, cond_true, cond_false, aop, aThen, aBlock, argEnv, ev, sput, sputO, binK, binI, unK, builtinK, pickK, Nat.reduceBEq, Nat.reduceAdd, Int.reduceBEq, Int.reduceBNe, Int.reduceLT, aPost, resK, tup, tyf, load1 k2 shp_22, load1 k3 shp_3, hidx hi1, loadX k1 shp_3 hsl, hg1, hshl, hand3, hidx hi2, loadX k1 shp_3 hsl2, hg2, hsum, storeX k1 shp_3 hsl, List.set_set, rangeQ]
        have hlk := get_lt k1
        refine ⟨?_, get_set hlk _, ?_, ?_, ?_, ?_⟩
        · rw [List.getElem?_set_ne (by omega)]; exact k0
        · rw [List.getElem?_set_ne (by omega)]; exact k2
        · rw [List.getElem?_set_ne (by omega)]; exact k3
        · exact hEk.trans (Ext.set _ rfl)
        · exact ⟨by simp; exact hEh.1, fun j hj _ => by rw [List.getElem?_set_ne (by omega)]; exact hEh.2 j hj id⟩
      · have hok : okLast o s x = false := by simp [okLast, hd2]
        have hne : (((bt o x &&& s : Nat) : Int) == 0) = false := by rw [eq0, decide_eq_false hd2]
        simp (config := {maxSteps := 2000000}) only [s65, ↓aw_region, ↓aw_skip, ↓aw_seq, ↓aw_block, ↓aw_exit, ↓aw_ret, ↓sops_nil, ↓sops_go, ↓dops_nil, ↓dopsX_nil, ↓dopsR_nil, ↓vdn, vup, extr_20, extr_21, extr_30, extr_31, extr_32, List.map_cons, List.map_nil, cond_true, cond_false, aop, aThen, aBlock, argEnv, ev, sput, sputO, binK, binI, unK, builtinK, pickK, Nat.reduceBEq, Nat.reduceAdd, Int.reduceBEq, Int.reduceBNe, Int.reduceLT, aPost, resK, tup, tyf, load1 k3 shp_3, hand1, hd1, Int.natCast_zero, fldA fld_77_1 esz_75, idxA und_75 esz_3 (show x < 6 by omega), loadI k0 shp_3 hlen.2 (show x < 6 by omega), hand2, hne, rangeQ]
        refine ⟨k0, ?_, k2, k3, hEk, hEh⟩
        rw [ps_snoc, if_neg (by rw [hok]; decide)]; exact k1
    · have hok : okLast o s x = false := by simp [okLast, hd1]
      have hne : (((less (dn o x) s : Nat) : Int) == 0) = false := by rw [eq0, decide_eq_false hd1]
      simp (config := {maxSteps := 2000000}) only [s65, ↓aw_region, ↓aw_skip, ↓aw_seq, ↓aw_block, ↓aw_exit, ↓aw_ret, ↓sops_nil, ↓sops_go, ↓dops_nil, ↓dopsX_nil, ↓dopsR_nil, ↓vdn, vup, extr_20, extr_21, extr_30, extr_31, extr_32, List.map_cons, List.map_nil, cond_true, cond_false, aop, aThen, aBlock, argEnv, ev, sput, sputO, binK, binI, unK, builtinK, pickK, Nat.reduceBEq, Nat.reduceAdd, Int.reduceBEq, Int.reduceBNe, Int.reduceLT, aPost, resK, tup, tyf, load1 k3 shp_3, hand1, hne, rangeQ]
      refine ⟨k0, ?_, k2, k3, hEk, hEh⟩
      rw [ps_snoc, if_neg (by rw [hok]; decide)]; exact k1
  · rintro hk ⟨k0, k1, k2, k3, hEk, hEh⟩
    have hW : ps o s (Am.bits s) = W o s := by rw [W_step (by omega) (by omega)]; rfl
    rw [hW, WS_set] at k1
    have hlk := hEk.1
    simp (config := {maxSteps := 2000000}) only [s65, ↓aw_region, ↓aw_skip, ↓aw_seq, ↓aw_block, ↓aw_exit, ↓aw_ret, ↓sops_nil, ↓sops_go, ↓dops_nil, ↓dopsX_nil, ↓dopsR_nil, ↓vdn, vup, extr_20, extr_21, extr_30, extr_31, extr_32, List.map_cons, List.map_nil, cond_true, cond_false, aop, aThen, aBlock, argEnv, ev, sput, sputO, binK, binI, unK, builtinK, pickK, Nat.reduceBEq, Nat.reduceAdd, Int.reduceBEq, Int.reduceBNe, Int.reduceLT, aPost, resK, tup, tyf, load1 k3 shp_3, allocK, newPtr]
    rw [storeI (v := .int .i64 0) (e := 3) (get_new _ _) shp_3]
    have j3 : ((hk ++ [Blk.cells [Value.int .i64 0] 3 false]).set hk.length (Blk.cells [.int .i64 (s : Int)] 3 false))[hk.length]? = some (Blk.cells [.int .i64 (s : Int)] 3 false) := get_set (by simp) _
    simp (config := {maxSteps := 2000000}) only [s65, ↓aw_region, ↓aw_skip, ↓aw_seq, ↓aw_block, ↓aw_exit, ↓aw_ret, ↓sops_nil, ↓sops_go, ↓dops_nil, ↓dopsX_nil, ↓dopsR_nil, ↓vdn, vup, extr_20, extr_21, extr_30, extr_31, extr_32, List.map_cons, List.map_nil, cond_true, cond_false, aop, aThen, aBlock, argEnv, ev, sput, sputO, binK, binI, unK, builtinK, pickK, Nat.reduceBEq, Nat.reduceAdd, Int.reduceBEq, Int.reduceBNe, Int.reduceLT, aPost, resK, tup, tyf, load1 j3 shp_3, add1 (show s < 9223372036854775807 by omega), storeI j3 shp_3, List.set_set]
    have old : ∀ {k B}, hk[k]? = some B → ((hk ++ [Blk.cells [Value.int .i64 0] 3 false]).set hk.length (Blk.cells [.int .i64 ((s + 1 : Nat) : Int)] 3 false))[k]? = some B := fun {k B} hk' => by
      have := get_lt hk'
      rw [List.getElem?_set_ne (by omega)]; exact get_old hk' _
    refine hQ2 _ _ _ ⟨(s + 1, hk.length, _), ⟨by simp only; omega, by simp only; omega, by simp only; omega, old k0, old k1, old k2, get_set (by simp) _, ⟨by simp; omega, fun j hj _ => ?_⟩⟩, by simp only; omega, by simp (config := {maxSteps := 2000000}) only [↓aw_region, ↓aw_skip, ↓aw_seq, ↓aw_block, ↓aw_exit, ↓aw_ret, ↓sops_nil, ↓sops_go, ↓dops_nil, ↓dopsX_nil, ↓dopsR_nil, ↓vdn, vup, extr_20, extr_21, extr_30, extr_31, extr_32, List.map_cons, List.map_nil, cond_true, cond_false, aop, aThen, aBlock, argEnv, ev, sput, sputO, binK, binI, unK, builtinK, pickK, Nat.reduceBEq, Nat.reduceAdd, Int.reduceBEq, Int.reduceBNe, Int.reduceLT, aPost, resK, tup, tyf], rfl⟩
    have hEl := hEh.1
    rw [List.getElem?_set_ne (by omega), List.getElem?_append_left (by omega)]; exact hEh.2 j hj id
end Go.Proofs.Tryd.Am
