/-
  order: how many lines there are: by which sets can come first.
  order: copies, Count, add, slice, Add.
  order: slice, Add.
  Printed by gen.py: the code of some functions, without what no step looks at; held against the program's own by the kernel.
  Plain theory: in how many lines one element stands before another one; heights; fractions; the most even pair.
  order: the reference's count of lines, and its Add.
  Printed by gen.py: the code of some functions, without what no step looks at; held against the program's own by the kernel.
  order: the reference's lines.
  Printed by gen.py: the code of some functions, without what no step looks at; held against the program's own by the kernel.
  Printed by gen.py: the code of some functions, without what no step looks at; held against the program's own by the kernel.
  order: how many elements a set has, by the library and by the reference.
-/
import Derived.Test.YtnjacpfahhjpiaaDoorPk5
import Derived.Test.YtnjacpfahhjpiaaDoorPk4
import Derived.Test.YtnjacpfahhjpiaaDoorPk3
import Derived.Test.YtnjacpfahhjpiaaDoorProg
import Derived.KernelRfl
import Derived.Shelf.Abstract
set_option linter.all false
namespace Go.Proofs.Tryd.Am
open Go.Am Ord
set_option maxRecDepth 100000
set_option maxHeartbeats 1000000

section
variable {P : Program} {h : Zx} {t e : TypeId} {b o n c k : Nat} {xs : List Int} {ro : Bool}
theorem idxS {K : Value → Prop} (he : elemOf' P t = some e) (hs : esz P e = some 1) (hk : k < n) : Yt P t (.slice (some ⟨b, 0, none⟩) n c) (Yb (k : Nat)) K = K (.pointer (some ⟨b, k, none⟩)) := by
  simp only [Yt, he, hs, Int.natCast_nonneg, Int.toNat_natCast, Nat.mul_one, Nat.zero_add, true_and, Int.ofNat_lt.2 hk]
theorem loadX {K : Value → Prop} (hb : h[b]? = some (.ints xs e ro)) (hs : shp P t = some none) (ho : o < xs.length) : Xz P h t (.pointer (some ⟨b, o, none⟩)) K = K (Yb (xs.getD o 0)) := by
  simp only [Xz, hs, cellK, hb, ho, true_and]
theorem storeX {K : Zx → Prop} {x : Int} (hb : h[b]? = some (.ints xs e false)) (hs : shp P t = some none) (ho : o < xs.length) : Wd P h t (.pointer (some ⟨b, o, none⟩)) (Yb x) K = K (h.set b (.ints (xs.set o x) e false)) := by
  simp only [Wd, hs, hb, ho, true_and]
end

/-- The table of ways, with those below s filled in. -/
def WS (o : List Int) (s : Nat) : List Int := (List.range (2 ^ o.length)).map fun k => if k < s then ((W o k : Nat) : Int) else 0
theorem WS_len {o : List Int} {s : Nat} : (WS o s).length = 2 ^ o.length := by simp [WS]
theorem WS_get {o : List Int} {s k : Nat} (hk : k < s) (hs : s ≤ 2 ^ o.length) : (WS o s).getD k 0 = ((W o k : Nat) : Int) := by
  rw [WS, getD_map, if_pos (by omega), if_pos hk]
theorem WS_one {o : List Int} : (List.replicate (2 ^ o.length) (0 : Int)).set 0 1 = WS o 1 := by
  have hp := Nat.two_pow_pos o.length
  refine List.ext_getElem (by simp [WS_len]) fun i h1 h2 => ?_
  rw [List.getElem_set]
  by_cases hi : 0 = i
  · subst hi; simp [WS, W_zero]
  · rw [if_neg hi]; simp [WS]; omega
theorem WS_set {o : List Int} {s : Nat} : (WS o s).set s ((W o s : Nat) : Int) = WS o (s + 1) := by
  refine List.ext_getElem (by simp [WS_len]) fun i h1 h2 => ?_
  rw [List.getElem_set]
  by_cases hi : s = i
  · subst hi; simp [WS]
  · rw [if_neg hi]
    simp only [WS, List.getElem_map, List.getElem_range]
    by_cases hlt : i < s
    · rw [if_pos hlt, if_pos (by omega)]
    · rw [if_neg hlt, if_neg (by omega)]
theorem WS_zero {o : List Int} {s : Nat} (hs : s < 2 ^ o.length) : (WS o s).set s 0 = WS o s := by
  refine List.ext_getElem (by simp) fun i h1 h2 => ?_
  rw [List.getElem_set]
  by_cases hi : s = i
  · subst hi; simp [WS]
  · rw [if_neg hi]
/-- What has come together from some last elements. -/
def ps (o : List Int) (s : Nat) (pre : List Nat) : Nat := ((pre.filter (okLast o s)).map fun i => W o (Xi s (2 ^ i))).sum
theorem ps_snoc {o : List Int} {s : Nat} {pre : List Nat} {x : Nat} : ps o s (pre ++ [x]) = if okLast o s x = true then ps o s pre + W o (Xi s (2 ^ x)) else ps o s pre := by
  unfold ps
  rw [List.filter_append, List.map_append, List.sum_append, List.filter_cons]
  split <;> simp
theorem ps_le {o : List Int} {s : Nat} (hs : s < 64) : ∀ pre : List Nat, ps o s pre ≤ pre.length * 46656 := by
  intro pre
  unfold ps
  induction pre with
  | nil => simp
  | cons x pre ih =>
    rw [List.filter_cons, List.length_cons, Nat.succ_mul]
    split
    · rw [List.map_cons, List.sum_cons]
      have := W_le (o := o) (s := Xi s (2 ^ x)) (less_lt (n := 6) hs)
      omega
    · omega

theorem eq0 (n : Nat) : (((n : Nat) : Int) == 0) = decide (n = 0) := by
  by_cases h : n = 0
  · subst h; rfl
  · rw [decide_eq_false h]
    have : ((n : Nat) : Int) ≠ 0 := by omega
    simpa using this

theorem counted_call [BitTab prog 1] {h : Zx} {o : List Int} (ho : ord o = true) : Wv prog 65 [ordV o] h (Yb (cn o : Nat)) := by
  have hlen := Yx ho
  have hpw := pow6 hlen.2
  refine ACall.forget (Low.int _ _) ?_
  refine s65_call (by simp) ?_
  simp only [s65]
  refine aw_cut fun N hN => ?_
  simp (maxSteps := 2000000) only [s65, ↓Za, ↓Zj, ↓Zr, ↓Ze, ↓Zl, ↓Zs, ↓Zf, ↓Zm, ↓Zg, ↓Zb, ↓Zc, ↓vdn, vup, Zk, Zo, Zn, Zi, Zh, List.map_cons, List.map_nil, cond_true, cond_false, aop, Zv, Zq, Zp, ev, sput, Zt, Zy, Ya, unK, Zd, Zw, Nat.reduceBEq, Nat.reduceAdd, Int.reduceBEq, Int.reduceBNe, Int.reduceLT, Zu, Zz, tup, tyf, boxO esz_77, Wk]
  refine hN _ _ ?_
  clear hN N
  obtain ⟨n, hn⟩ : ∃ n, n = h.length := ⟨_, rfl⟩
  rw [← hn]
  have hadd : addV .i64 ((2 ^ o.length - 1 : Nat) : Int) 1 = ((2 ^ o.length : Nat) : Int) := by rw [addV_id (by omega) (by omega)]; omega
  have hm0 : (0 : Int) ≤ ((2 ^ o.length : Nat) : Int) := Int.natCast_nonneg _
  have hm1 : ((2 ^ o.length : Nat) : Int) ≤ 35184372088832 := by omega
  have c0 : (h ++ [Blk.cells (Wx o) 77 false])[n]? = some (.cells (Wx o) 77 false) := by rw [hn]; exact Xc _ _
  refine aw_cut fun N hN => ?_
  simp (maxSteps := 2000000) only [s65, ↓Za, ↓Zj, ↓Zr, ↓Ze, ↓Zl, ↓Zs, ↓Zf, ↓Zm, ↓Zg, ↓Zb, ↓Zc, ↓vdn, vup, Zk, Zo, Zn, Zi, Zh, List.map_cons, List.map_nil, cond_true, cond_false, aop, Zv, Zq, Zp, ev, sput, Zt, Zy, Ya, unK, Zd, Zw, Nat.reduceBEq, Nat.reduceAdd, Int.reduceBEq, Int.reduceBNe, Int.reduceLT, Zu, Zz, tup, tyf, loadO c0 Xa hlen.2, Yr, List.nil_append, List.append_nil, List.toList_toArray, List.cons_append]
  refine (all_call hlen.2).mono ?_
  rintro _ _ ⟨rfl, rfl⟩
  simp (maxSteps := 2000000) only [s65, ↓Za, ↓Zj, ↓Zr, ↓Ze, ↓Zl, ↓Zs, ↓Zf, ↓Zm, ↓Zg, ↓Zb, ↓Zc, ↓vdn, vup, Zk, Zo, Zn, Zi, Zh, List.map_cons, List.map_nil, cond_true, cond_false, aop, Zv, Zq, Zp, ev, sput, Zt, Zy, Ya, unK, Zd, Zw, Nat.reduceBEq, Nat.reduceAdd, Int.reduceBEq, Int.reduceBNe, Int.reduceLT, Zu, Zz, tup, tyf, hadd, makeI Xy zero_3 info_3 hm0 hm1, Int.toNat_natCast, Wo, Wk]
  obtain ⟨N0, hN0⟩ : ∃ N0, N0 = 2 ^ o.length := ⟨_, rfl⟩
  obtain ⟨S, hS⟩ : ∃ S : Value, S = .slice (some ⟨n + 1, 0, none⟩) N0 N0 := ⟨_, rfl⟩
  simp only [zero_22, List.length_append, List.length_cons, List.length_nil, Nat.zero_add, Nat.add_assoc, Nat.reduceAdd, ← hn, ← hN0, ← hS]
  have hone : one S = true := by rw [hS]; rfl
  have c2 : (h ++ [Blk.cells (Wx o) 77 false] ++ [Blk.ints (List.replicate N0 0) 3 false] ++ [Blk.cells [.slice none 0 0] 22 false])[n + 2]? = some (.cells [.slice none 0 0] 22 false) := by
    have := Xc (h ++ [Blk.cells (Wx o) 77 false] ++ [Blk.ints (List.replicate N0 0) 3 false]) (Blk.cells [.slice none 0 0] 22 false)
    simpa [hn] using this
  rw [store1 c2 Ve hone]
  obtain ⟨H, hH⟩ : ∃ H, H = (h ++ [Blk.cells (Wx o) 77 false] ++ [Blk.ints (List.replicate N0 0) 3 false] ++ [Blk.cells [.slice none 0 0] 22 false]).set (n + 2) (.cells [S] 22 false) := ⟨_, rfl⟩
  rw [← hH]
  have hHl : H.length = n + 3 := by rw [hH, hn]; simp
  have b0 : H[n]? = some (.cells (Wx o) 77 false) := by rw [hH, List.getElem?_set_ne (by omega)]; exact get_old (get_old c0 _) _
  have b1 : H[n + 1]? = some (.ints (List.replicate N0 0) 3 false) := by
    rw [hH, List.getElem?_set_ne (by omega)]
    have := Xc (h ++ [Blk.cells (Wx o) 77 false]) (Blk.ints (List.replicate N0 0) 3 false)
    simp only [List.length_append, List.length_singleton, ← hn] at this
    exact get_old this _
  have b2 : H[n + 2]? = some (.cells [S] 22 false) := by rw [hH]; exact Xs (by rw [hn]; simp) _
  have hE0 : Ext (fun _ => False) h H := ⟨by omega, fun i hi _ => by
    rw [hH, List.getElem?_set_ne (by omega), List.append_assoc, List.append_assoc, List.getElem?_append_left hi]⟩
  clear c2 hH
  refine hN _ _ ?_
  clear hN N
  -- ways[0] = 1
  refine aw_cut fun N hN => ?_
  have hidx : ∀ {k : Nat} {K : Value → Prop}, k < N0 → Yt prog 22 S (Yb (k : Nat)) K = K (.pointer (some ⟨n + 1, k, none⟩)) := fun {k K} hk => by rw [hS]; exact idxS Xy Xr hk
  have hidx0 : ∀ {K : Value → Prop}, Yt prog 22 S (.int .i64 0) K = K (.pointer (some ⟨n + 1, 0, none⟩)) := fun {K} => hidx (k := 0) (by omega)
  simp (maxSteps := 2000000) only [s65, ↓Za, ↓Zj, ↓Zr, ↓Ze, ↓Zl, ↓Zs, ↓Zf, ↓Zm, ↓Zg, ↓Zb, ↓Zc, ↓vdn, vup, Zk, Zo, Zn, Zi, Zh, List.map_cons, List.map_nil, cond_true, cond_false, aop, Zv, Zq, Zp, ev, sput, Zt, Zy, Ya, unK, Zd, Zw, Nat.reduceBEq, Nat.reduceAdd, Int.reduceBEq, Int.reduceBNe, Int.reduceLT, Zu, Zz, tup, tyf, Xn b2 Ve, hidx0]
  rw [storeX (x := 1) b1 Yq (by simp; omega)]
  refine hN _ _ ?_
  clear hN N
  obtain ⟨G, hG⟩ : ∃ G, G = H.set (n + 1) (.ints ((List.replicate N0 0).set 0 1) 3 false) := ⟨_, rfl⟩
  rw [← hG]
  rw [hN0, WS_one] at hG
  have hGl : G.length = n + 3 := by rw [hG]; simp [hHl]
  have g0 : G[n]? = some (.cells (Wx o) 77 false) := by rw [hG, List.getElem?_set_ne (by omega)]; exact b0
  have g1 : G[n + 1]? = some (.ints (WS o 1) 3 false) := by rw [hG]; exact Xs (by omega) _
  have g2 : G[n + 2]? = some (.cells [S] 22 false) := by rw [hG, List.getElem?_set_ne (by omega)]; exact b2
  have hEG : Ext (fun _ => False) h G := ⟨by omega, fun i hi _ => by rw [hG, List.getElem?_set_ne (by omega)]; exact hE0.2 i hi id⟩
  clear b0 b1 b2 hG hE0 hHl
  clear H
  -- the sets
  simp (maxSteps := 2000000) only [s65, ↓Za, ↓Zj, ↓Zr, ↓Ze, ↓Zl, ↓Zs, ↓Zf, ↓Zm, ↓Zg, ↓Zb, ↓Zc, ↓vdn, vup, Zk, Zo, Zn, Zi, Zh, List.map_cons, List.map_nil, cond_true, cond_false, aop, Zv, Zq, Zp, ev, sput, Zt, Zy, Ya, unK, Zd, Zw, Nat.reduceBEq, Nat.reduceAdd, Int.reduceBEq, Int.reduceBNe, Int.reduceLT, Zu, Zz, tup, tyf, Wo, Wk]
  rw [storeI (v := .int .i64 0) (e := 3) (Xc _ _) Yq, hGl]
  obtain ⟨F, hF⟩ : ∃ F, F = (G ++ [Blk.cells [.int .i64 0] 3 false]).set (n + 3) (.cells [.int .i64 1] 3 false) := ⟨_, rfl⟩
  rw [← hF]
  have hFl : F.length = n + 4 := by rw [hF]; simp [hGl]
  have oldF : ∀ {k B}, G[k]? = some B → F[k]? = some B := fun {k B} hk => by
    have := Yz hk
    rw [hF, List.getElem?_set_ne (by omega)]; exact get_old hk _
  have f3 : F[n + 3]? = some (.cells [.int .i64 1] 3 false) := by rw [hF]; exact Xs (by simp [hGl]) _
  have hEF : Ext (fun _ => False) h F := ⟨by omega, fun i hi _ => by rw [hF, List.getElem?_set_ne (by omega), List.getElem?_append_left (by omega)]; exact hEG.2 i hi id⟩
  have f0 := oldF g0
  have f1 := oldF g1
  have f2 := oldF g2
  clear g0 g1 g2 oldF hEG hF hGl
  clear G
  simp only [↓aw_loop_eq]
  refine Yo fun Q hQ => ?_
  refine aw_loop (γ := Nat × Nat × Zx) (fun s => 1 ≤ s.1 ∧ s.1 ≤ N0 ∧ n + 3 ≤ s.2.1 ∧ s.2.2[n]? = some (.cells (Wx o) 77 false) ∧ s.2.2[n + 1]? = some (.ints (WS o s.1) 3 false) ∧ s.2.2[n + 2]? = some (.cells [S] 22 false) ∧ s.2.2[s.2.1]? = some (.cells [Yb (s.1 : Nat)] 3 false) ∧ Ext (fun _ => False) h s.2.2)
    (fun s => ([(0, ordV o), (1, .pointer (some ⟨n, 0, none⟩)), (2, .int .i64 0), (3, .pointer (some ⟨n + 2, 0, none⟩)), (4, .pointer (some ⟨s.2.1, 0, none⟩))], s.2.2)) (fun s => N0 - s.1) (1, n + 3, F) ⟨Nat.le_refl _, by omega, Nat.le_refl _, f0, f1, f2, f3, hEF⟩ (by simp (maxSteps := 2000000) only [↓Za, ↓Zj, ↓Zr, ↓Ze, ↓Zl, ↓Zs, ↓Zf, ↓Zm, ↓Zg, ↓Zb, ↓Zc, ↓vdn, vup, Zk, Zo, Zn, Zi, Zh, List.map_cons, List.map_nil, cond_true, cond_false, aop, Zv, Zq, Zp, ev, sput, Zt, Zy, Ya, unK, Zd, Zw, Nat.reduceBEq, Nat.reduceAdd, Int.reduceBEq, Int.reduceBNe, Int.reduceLT, Zu, Zz, tup, tyf, Int.natCast_one]) rfl ?_
  rintro ⟨s, b, hp⟩ ⟨hs1, hsN, hb, e0, e1, e2, e3, hE⟩
  simp only at hs1 hsN hb e0 e1 e2 e3 hE
  refine aw_hide fun Q2 hQ2 => ?_
  have hbl := Yz e3
  have hlE := hE.1
  simp only [l65_1]
  simp (maxSteps := 2000000) only [s65, ↓Za, ↓Zj, ↓Zr, ↓Ze, ↓Zl, ↓Zs, ↓Zf, ↓Zm, ↓Zg, ↓Zb, ↓Zc, ↓vdn, vup, Zk, Zo, Zn, Zi, Zh, List.map_cons, List.map_nil, cond_true, cond_false, aop, Zv, Zq, Zp, ev, sput, Zt, Zy, Ya, unK, Zd, Zw, Nat.reduceBEq, Nat.reduceAdd, Int.reduceBEq, Int.reduceBNe, Int.reduceLT, Zu, Zz, tup, tyf]
  refine Xx [(2, 1)] (by kernel_rfl) (by kernel_rfl) (by kernel_rfl) (by kernel_rfl) ?_
  simp (maxSteps := 2000000) only [s65, ↓Za, ↓Zj, ↓Zr, ↓Ze, ↓Zl, ↓Zs, ↓Zf, ↓Zm, ↓Zg, ↓Zb, ↓Zc, ↓vdn, vup, Zk, Zo, Zn, Zi, Zh, List.map_cons, List.map_nil, cond_true, cond_false, aop, Zv, Zq, Zp, ev, sput, Zt, Zy, Ya, unK, Zd, Zw, Nat.reduceBEq, Nat.reduceAdd, Int.reduceBEq, Int.reduceBNe, Int.reduceLT, Zu, Zz, tup, tyf, Xn e3 Yq, loadO e0 Xa hlen.2, Yr, List.nil_append, List.append_nil, List.toList_toArray, List.cons_append]
  refine ⟨_, _, all_call hlen.2, rfl, ?_⟩
  by_cases hlast : s = N0
  · have hle : ¬ (s : Int) ≤ ((2 ^ o.length - 1 : Nat) : Int) := by omega
    simp (maxSteps := 2000000) only [s65, ↓Za, ↓Zj, ↓Zr, ↓Ze, ↓Zl, ↓Zs, ↓Zf, ↓Zm, ↓Zg, ↓Zb, ↓Zc, ↓vdn, vup, Zk, Zo, Zn, Zi, Zh, List.map_cons, List.map_nil, cond_true, cond_false, aop, Zv, Zq, Zp, ev, sput, Zt, Zy, Ya, unK, Zd, Zw, Nat.reduceBEq, Nat.reduceAdd, Int.reduceBEq, Int.reduceBNe, Int.reduceLT, Zu, Zz, tup, tyf, hle]
    refine hQ2 _ _ _ (hQ _ _ _ ?_)
    simp (maxSteps := 2000000) only [s65, ↓Za, ↓Zj, ↓Zr, ↓Ze, ↓Zl, ↓Zs, ↓Zf, ↓Zm, ↓Zg, ↓Zb, ↓Zc, ↓vdn, vup, Zk, Zo, Zn, Zi, Zh, List.map_cons, List.map_nil, cond_true, cond_false, aop, Zv, Zq, Zp, ev, sput, Zt, Zy, Ya, unK, Zd, Zw, Nat.reduceBEq, Nat.reduceAdd, Int.reduceBEq, Int.reduceBNe, Int.reduceLT, Zu, Zz, tup, tyf]
    refine Xx [(2, 1)] (by kernel_rfl) (by kernel_rfl) (by kernel_rfl) (by kernel_rfl) ?_
    simp (maxSteps := 2000000) only [s65, ↓Za, ↓Zj, ↓Zr, ↓Ze, ↓Zl, ↓Zs, ↓Zf, ↓Zm, ↓Zg, ↓Zb, ↓Zc, ↓vdn, vup, Zk, Zo, Zn, Zi, Zh, List.map_cons, List.map_nil, cond_true, cond_false, aop, Zv, Zq, Zp, ev, sput, Zt, Zy, Ya, unK, Zd, Zw, Nat.reduceBEq, Nat.reduceAdd, Int.reduceBEq, Int.reduceBNe, Int.reduceLT, Zu, Zz, tup, tyf, Xn e2 Ve, loadO e0 Xa hlen.2, Yr, List.nil_append, List.append_nil, List.toList_toArray, List.cons_append]
    refine ⟨_, _, all_call hlen.2, rfl, ?_⟩
    have hk : 2 ^ o.length - 1 < N0 := by omega
    have hk2 : 2 ^ o.length - 1 < (WS o s).length := by rw [WS_len]; omega
    have hget : (WS o s).getD (2 ^ o.length - 1) 0 = ((cn o : Nat) : Int) := by rw [WS_get (by omega) (by omega), cn_len ho]
    simp (maxSteps := 2000000) only [s65, ↓Za, ↓Zj, ↓Zr, ↓Ze, ↓Zl, ↓Zs, ↓Zf, ↓Zm, ↓Zg, ↓Zb, ↓Zc, ↓vdn, vup, Zk, Zo, Zn, Zi, Zh, List.map_cons, List.map_nil, cond_true, cond_false, aop, Zv, Zq, Zp, ev, sput, Zt, Zy, Ya, unK, Zd, Zw, Nat.reduceBEq, Nat.reduceAdd, Int.reduceBEq, Int.reduceBNe, Int.reduceLT, Zu, Zz, tup, tyf, hidx hk, loadX e1 Yq hk2, hget]
    exact hE
  have hs : s < 64 := by omega
  have hle : (s : Int) ≤ ((2 ^ o.length - 1 : Nat) : Int) := by omega
  simp (maxSteps := 2000000) only [s65, ↓Za, ↓Zj, ↓Zr, ↓Ze, ↓Zl, ↓Zs, ↓Zf, ↓Zm, ↓Zg, ↓Zb, ↓Zc, ↓vdn, vup, Zk, Zo, Zn, Zi, Zh, List.map_cons, List.map_nil, cond_true, cond_false, aop, Zv, Zq, Zp, ev, sput, Zt, Zy, Ya, unK, Zd, Zw, Nat.reduceBEq, Nat.reduceAdd, Int.reduceBEq, Int.reduceBNe, Int.reduceLT, Zu, Zz, tup, tyf, hle, Xn e3 Yq, Yr, List.nil_append, List.append_nil, List.toList_toArray, List.cons_append]
  refine elements_call.mono ?_
  rintro _ _ ⟨rfl, rfl⟩
  have hWl : (WS o s).length = N0 := by rw [WS_len, hN0]
  refine aw_range bitIter (bx := hp.length) (s := s) (et := 3) rfl (Xc _ _) (by omega) (fun pre hk => hk[n]? = some (.cells (Wx o) 77 false) ∧ hk[n + 1]? = some (.ints ((WS o s).set s ((ps o s pre : Nat) : Int)) 3 false) ∧ hk[n + 2]? = some (.cells [S] 22 false) ∧ hk[b]? = some (.cells [Yb (s : Nat)] 3 false) ∧ Ext (fun i => i = n + 1) hp hk ∧ Ext (fun _ => False) h hk) ?_ ?_ ?_
  · have old : ∀ {k B}, hp[k]? = some B → ((hp ++ [Blk.cells [Yb (s : Nat)] 3 false]).set hp.length .dead)[k]? = some B := fun {k B} hk => by
      have := Yz hk
      rw [List.getElem?_set_ne (by omega)]; exact get_old hk _
    refine ⟨old e0, ?_, old e2, old e3, ⟨by simp, fun j hj _ => ?_⟩, ⟨by simp; omega, fun j hj _ => ?_⟩⟩
    · rw [show ps o s [] = 0 from rfl, Int.natCast_zero, WS_zero (by omega)]; exact old e1
    · rw [List.getElem?_set_ne (by omega), List.getElem?_append_left hj]
    · rw [List.getElem?_set_ne (by omega), List.getElem?_append_left (by omega)]; exact hE.2 j hj id
  · rintro pre x hk hpre ⟨k0, k1, k2, k3, hEk, hEh⟩
    obtain ⟨hx64, hxb⟩ := Xg.1 (mem_pre hpre)
    have hx6 : x < o.length := by
      rcases Nat.lt_or_ge x o.length with h | h
      · exact h
      · rw [Nat.testBit_lt_two_pow (Nat.lt_of_lt_of_le (show s < 2 ^ o.length by omega) (Nat.pow_le_pow_right (by decide) h))] at hxb; cases hxb
    have hpl : pre.length ≤ 64 := by
      obtain ⟨t, ht⟩ := hpre
      have h1 := bits_len6 hs
      have h2 := congrArg List.length ht
      simp only [List.length_append, List.length_singleton] at h2
      omega
    have hps := ps_le (o := o) hs pre
    have hdl := dn_lt (o := o) (i := x)
    have hxn := ord_nat ho hx6
    have hand1 := Wp (a := dn o x) (b := s) (by omega) (by omega)
    have hand2 : Wg .and .i64 (o.getD x 0) (s : Int) = ((bt o x &&& s : Nat) : Int) := by rw [hxn.1]; exact bitsV_and (by omega) (by omega)
    simp (maxSteps := 2000000) only [s65, ↓Za, ↓Zj, ↓Zr, ↓Ze, ↓Zl, ↓Zs, ↓Zf, ↓Zm, ↓Zg, ↓Zb, ↓Zc, ↓vdn, vup, Zk, Zo, Zn, Zi, Zh, List.map_cons, List.map_nil, cond_true, cond_false, aop, Zv, Zq, Zp, ev, sput, Zt, Zy, Ya, unK, Zd, Zw, Nat.reduceBEq, Nat.reduceAdd, Int.reduceBEq, Int.reduceBNe, Int.reduceLT, Zu, Zz, tup, tyf, r65_0_a, r65_0_b]
    refine Xx [(2, 1)] (by kernel_rfl) (by kernel_rfl) (by kernel_rfl) (by kernel_rfl) ?_
    simp (maxSteps := 2000000) only [s65, ↓Za, ↓Zj, ↓Zr, ↓Ze, ↓Zl, ↓Zs, ↓Zf, ↓Zm, ↓Zg, ↓Zb, ↓Zc, ↓vdn, vup, Zk, Zo, Zn, Zi, Zh, List.map_cons, List.map_nil, cond_true, cond_false, aop, Zv, Zq, Zp, ev, sput, Zt, Zy, Ya, unK, Zd, Zw, Nat.reduceBEq, Nat.reduceAdd, Int.reduceBEq, Int.reduceBNe, Int.reduceLT, Zu, Zz, tup, tyf, loadO k0 Xa hlen.2, Yr, List.nil_append, List.append_nil, List.toList_toArray, List.cons_append]
    refine ⟨_, _, below_call ho, rfl, ?_⟩
    by_cases hd1 : Xi (dn o x) s = 0
    · by_cases hd2 : bt o x &&& s = 0
      · have hok : okLast o s x = true := by simp [okLast, hd1, hd2]
        have hlt := less_bit_lt hxb
        have h2x : 2 ^ x ≤ 32 := Nat.pow_le_pow_right (n := 2) (j := 5) (by decide) (by omega)
        have hshl : shlV .i64 1 x = 2 ^ x := shl1 (by omega)
        have hand3 : Wg .andNot .i64 (s : Int) (2 ^ x) = ((Xi s (2 ^ x) : Nat) : Int) := by
          have := Wp (a := s) (b := 2 ^ x) (by omega) (by omega)
          rw [pow_cast] at this; exact this
        have hi1 : s < N0 := by omega
        have hi2 : Xi s (2 ^ x) < N0 := by omega
        have hsl : s < ((WS o s).set s ((ps o s pre : Nat) : Int)).length := by rw [List.length_set]; omega
        have hsl2 : Xi s (2 ^ x) < ((WS o s).set s ((ps o s pre : Nat) : Int)).length := by rw [List.length_set]; omega
        have hg1 : ((WS o s).set s ((ps o s pre : Nat) : Int)).getD s 0 = ((ps o s pre : Nat) : Int) := by
          rw [List.getD, List.getElem?_set_self (by omega)]; rfl
        have hg2 : ((WS o s).set s ((ps o s pre : Nat) : Int)).getD (Xi s (2 ^ x)) 0 = ((W o (Xi s (2 ^ x)) : Nat) : Int) := by
          rw [List.getD, List.getElem?_set_ne (by omega)]; exact WS_get hlt (by omega)
        have hW := W_le (o := o) (s := Xi s (2 ^ x)) (by omega)
        have hsum : addV .i64 ((ps o s pre : Nat) : Int) ((W o (Xi s (2 ^ x)) : Nat) : Int) = ((ps o s (pre ++ [x]) : Nat) : Int) := by
          rw [ps_snoc, if_pos hok, addV_id (by omega) (by omega)]; omega
        have hone2 : (0 : Nat) < 1 := by decide
        simp (maxSteps := 2000000) only [s65, ↓Za, ↓Zj, ↓Zr, ↓Ze, ↓Zl, ↓Zs, ↓Zf, ↓Zm, ↓Zg, ↓Zb, ↓Zc, ↓vdn, vup, Zk, Zo, Zn, Zi, Zh, List.map_cons, List.map_nil, cond_true, cond_false, aop, Zv, Zq, Zp, ev, sput, Zt, Zy, Ya, unK, Zd, Zw, Nat.reduceBEq, Nat.reduceAdd, Int.reduceBEq, Int.reduceBNe, Int.reduceLT, Zu, Zz, tup, tyf, Xn k3 Yq, hand1, hd1, Int.natCast_zero, fldA fld_77_1 esz_75, idxA und_75 Xr (show x < 6 by omega), loadI k0 Yq hlen.2 (show x < 6 by omega), hand2, hd2]
        refine Xx [] (by kernel_rfl) (by kernel_rfl) (by kernel_rfl) (by kernel_rfl) ?_
        simp (maxSteps := 2000000) only [s65, ↓Za, ↓Zj, ↓Zr, ↓Ze, ↓Zl, ↓Zs, ↓Zf, ↓Zm, ↓Zg, ↓Zb, ↓Zc, ↓vdn, vup, Zk, Zo, Zn, Zi, Zh, List.map_cons, List.map_nil, cond_true, cond_false, aop, Zv, Zq, Zp, ev, sput, Zt, Zy, Ya, unK, Zd, Zw, Nat.reduceBEq, Nat.reduceAdd, Int.reduceBEq, Int.reduceBNe, Int.reduceLT, Zu, Zz, tup, tyf, Xn k2 Ve, Xn k3 Yq, hidx hi1, loadX k1 Yq hsl, hg1, hshl, hand3, hidx hi2, loadX k1 Yq hsl2, hg2, hsum, storeX k1 Yq hsl, List.set_set, rangeQ]
        have hlk := Yz k1
        refine ⟨?_, Xs hlk _, ?_, ?_, ?_, ?_⟩
        · rw [List.getElem?_set_ne (by omega)]; exact k0
        · rw [List.getElem?_set_ne (by omega)]; exact k2
        · rw [List.getElem?_set_ne (by omega)]; exact k3
        · exact hEk.trans (Ext.set _ rfl)
        · exact ⟨by simp; exact hEh.1, fun j hj _ => by rw [List.getElem?_set_ne (by omega)]; exact hEh.2 j hj id⟩
      · have hok : okLast o s x = false := by simp [okLast, hd2]
        have hne : (((bt o x &&& s : Nat) : Int) == 0) = false := by rw [eq0, decide_eq_false hd2]
        simp (maxSteps := 2000000) only [s65, ↓Za, ↓Zj, ↓Zr, ↓Ze, ↓Zl, ↓Zs, ↓Zf, ↓Zm, ↓Zg, ↓Zb, ↓Zc, ↓vdn, vup, Zk, Zo, Zn, Zi, Zh, List.map_cons, List.map_nil, cond_true, cond_false, aop, Zv, Zq, Zp, ev, sput, Zt, Zy, Ya, unK, Zd, Zw, Nat.reduceBEq, Nat.reduceAdd, Int.reduceBEq, Int.reduceBNe, Int.reduceLT, Zu, Zz, tup, tyf, Xn k3 Yq, hand1, hd1, Int.natCast_zero, fldA fld_77_1 esz_75, idxA und_75 Xr (show x < 6 by omega), loadI k0 Yq hlen.2 (show x < 6 by omega), hand2, hne, rangeQ]
        refine ⟨k0, ?_, k2, k3, hEk, hEh⟩
        rw [ps_snoc, if_neg (by rw [hok]; decide)]; exact k1
    · have hok : okLast o s x = false := by simp [okLast, hd1]
      have hne : (((Xi (dn o x) s : Nat) : Int) == 0) = false := by rw [eq0, decide_eq_false hd1]
      simp (maxSteps := 2000000) only [s65, ↓Za, ↓Zj, ↓Zr, ↓Ze, ↓Zl, ↓Zs, ↓Zf, ↓Zm, ↓Zg, ↓Zb, ↓Zc, ↓vdn, vup, Zk, Zo, Zn, Zi, Zh, List.map_cons, List.map_nil, cond_true, cond_false, aop, Zv, Zq, Zp, ev, sput, Zt, Zy, Ya, unK, Zd, Zw, Nat.reduceBEq, Nat.reduceAdd, Int.reduceBEq, Int.reduceBNe, Int.reduceLT, Zu, Zz, tup, tyf, Xn k3 Yq, hand1, hne, rangeQ]
      refine ⟨k0, ?_, k2, k3, hEk, hEh⟩
      rw [ps_snoc, if_neg (by rw [hok]; decide)]; exact k1
  · rintro hk ⟨k0, k1, k2, k3, hEk, hEh⟩
    have hW : ps o s (Am.bits s) = W o s := by rw [W_step (by omega) (by omega)]; rfl
    rw [hW, WS_set] at k1
    have hlk := hEk.1
    simp (maxSteps := 2000000) only [s65, ↓Za, ↓Zj, ↓Zr, ↓Ze, ↓Zl, ↓Zs, ↓Zf, ↓Zm, ↓Zg, ↓Zb, ↓Zc, ↓vdn, vup, Zk, Zo, Zn, Zi, Zh, List.map_cons, List.map_nil, cond_true, cond_false, aop, Zv, Zq, Zp, ev, sput, Zt, Zy, Ya, unK, Zd, Zw, Nat.reduceBEq, Nat.reduceAdd, Int.reduceBEq, Int.reduceBNe, Int.reduceLT, Zu, Zz, tup, tyf, Xn k3 Yq, Wo, Wk]
    rw [storeI (v := .int .i64 0) (e := 3) (Xc _ _) Yq]
    have j3 : ((hk ++ [Blk.cells [Value.int .i64 0] 3 false]).set hk.length (Blk.cells [.int .i64 (s : Int)] 3 false))[hk.length]? = some (Blk.cells [.int .i64 (s : Int)] 3 false) := Xs (by simp) _
    simp (maxSteps := 2000000) only [s65, ↓Za, ↓Zj, ↓Zr, ↓Ze, ↓Zl, ↓Zs, ↓Zf, ↓Zm, ↓Zg, ↓Zb, ↓Zc, ↓vdn, vup, Zk, Zo, Zn, Zi, Zh, List.map_cons, List.map_nil, cond_true, cond_false, aop, Zv, Zq, Zp, ev, sput, Zt, Zy, Ya, unK, Zd, Zw, Nat.reduceBEq, Nat.reduceAdd, Int.reduceBEq, Int.reduceBNe, Int.reduceLT, Zu, Zz, tup, tyf, Xn j3 Yq, add1 (show s < 9223372036854775807 by omega), storeI j3 Yq, List.set_set]
    have old : ∀ {k B}, hk[k]? = some B → ((hk ++ [Blk.cells [Value.int .i64 0] 3 false]).set hk.length (Blk.cells [.int .i64 ((s + 1 : Nat) : Int)] 3 false))[k]? = some B := fun {k B} hk' => by
      have := Yz hk'
      rw [List.getElem?_set_ne (by omega)]; exact get_old hk' _
    refine hQ2 _ _ _ ⟨(s + 1, hk.length, _), ⟨by simp only; omega, by simp only; omega, by simp only; omega, old k0, old k1, old k2, Xs (by simp) _, ⟨by simp; omega, fun j hj _ => ?_⟩⟩, by simp only; omega, by simp (maxSteps := 2000000) only [↓Za, ↓Zj, ↓Zr, ↓Ze, ↓Zl, ↓Zs, ↓Zf, ↓Zm, ↓Zg, ↓Zb, ↓Zc, ↓vdn, vup, Zk, Zo, Zn, Zi, Zh, List.map_cons, List.map_nil, cond_true, cond_false, aop, Zv, Zq, Zp, ev, sput, Zt, Zy, Ya, unK, Zd, Zw, Nat.reduceBEq, Nat.reduceAdd, Int.reduceBEq, Int.reduceBNe, Int.reduceLT, Zu, Zz, tup, tyf], rfl⟩
    have hEl := hEh.1
    rw [List.getElem?_set_ne (by omega), List.getElem?_append_left (by omega)]; exact hEh.2 j hj id
end Go.Proofs.Tryd.Am

namespace Go.Proofs.Tryd.Am
open Go.Am Ord
set_option maxRecDepth 100000
set_option maxHeartbeats 1000000

theorem clone_call [Tabs prog] {h : Zx} {v : Value} {xs : List Int} (hv : IntSl h v xs) (hl : xs.length < 1099511627776) : ACall prog 66 [v] h fun r h' => IntSl h' r xs ∧ ∃ g, h' = h ++ g := by
  refine s66_call (by simp) ?_
  have hv' := hv
  rcases hv with ⟨rfl, rfl⟩ | ⟨b, o, sp, cap, c, e, ro, rfl, hc, hb, hx⟩
  · simp (maxSteps := 2000000) only [s66, ↓Za, ↓Zj, ↓Zr, ↓Ze, ↓Zl, ↓Zs, ↓Zf, ↓Zm, ↓Zg, ↓Zb, ↓Zc, ↓vdn, vup, Zk, Zo, Zn, Zi, Zh, List.map_cons, List.map_nil, cond_true, cond_false, aop, Zv, Zq, Zp, ev, sput, Zt, Zy, Ya, unK, Zd, Zw, Nat.reduceBEq, Nat.reduceAdd, Int.reduceBEq, Int.reduceBNe, Int.reduceLT, Zu, Zz, tup, tyf, Option.isSome_some]
    exact ⟨.inl ⟨rfl, rfl⟩, [], by rw [List.append_nil]⟩
  · simp (maxSteps := 2000000) only [s66, ↓Za, ↓Zj, ↓Zr, ↓Ze, ↓Zl, ↓Zs, ↓Zf, ↓Zm, ↓Zg, ↓Zb, ↓Zc, ↓vdn, vup, Zk, Zo, Zn, Zi, Zh, List.map_cons, List.map_nil, cond_true, cond_false, aop, Zv, Zq, Zp, ev, sput, Zt, Zy, Ya, unK, Zd, Zw, Nat.reduceBEq, Nat.reduceAdd, Int.reduceBEq, Int.reduceBNe, Int.reduceLT, Zu, Zz, tup, tyf, Option.isSome_some]
    simp only [Xe, Xy, zero_3, Xr, reps, fillL, mkb, Xj]
    refine And.intro rfl (And.intro Nat.zero_lt_one (And.intro (Nat.zero_le _) ?_))
    refine (hv'.grow [.ints [] 3 false]).copy app_22_22 hl (by rw [List.getElem?_append_right (Nat.le_refl _)]; simp) ?_
    intro r g hr _
    exact ⟨hr, _, List.append_assoc _ _ _⟩

theorem min9 (n : Nat) : (if (9 : Int) < n then 9 else (n : Int)) = ((min n 9 : Nat) : Int) := by split <;> omega

theorem list_call [Tabs prog] {h : Zx} {v : Value} {xs : List Int} (hv : IntSl h v xs) (hl : xs.length < 9223372036854775808) : ACall prog 18 [v] h fun r h' => IntSl h' r (xs.take 9) ∧ ∃ g, h' = h ++ g := by
  refine s18_call (by simp) ?_
  simp (maxSteps := 2000000) only [s18, ↓Za, ↓Zj, ↓Zr, ↓Ze, ↓Zl, ↓Zs, ↓Zf, ↓Zm, ↓Zg, ↓Zb, ↓Zc, ↓vdn, vup, Zk, Zo, Zn, Zi, Zh, List.map_cons, List.map_nil, cond_true, cond_false, aop, Zv, Zq, Zp, ev, sput, Zt, Zy, Ya, unK, Zd, Zw, Nat.reduceBEq, Nat.reduceAdd, Int.reduceBEq, Int.reduceBNe, Int.reduceLT, Zu, Zz, tup, tyf, hv.len, mmK, Bool.false_eq_true, if_false, gt_iff_lt, min9, Option.map_none, Option.map_some]
  refine hv.pre Xy Xr (Nat.min_le_left _ _) ?_
  intro v' hv'
  have e : xs.take (min xs.length 9) = xs.take 9 := by
    by_cases h : xs.length ≤ 9
    · rw [Nat.min_eq_left h, List.take_length, List.take_of_length_le h]
    · rw [Nat.min_eq_right (by omega)]
  rw [e] at hv'
  simp (maxSteps := 2000000) only [↓Za, ↓Zj, ↓Zr, ↓Ze, ↓Zl, ↓Zs, ↓Zf, ↓Zm, ↓Zg, ↓Zb, ↓Zc, ↓vdn, vup, Zk, Zo, Zn, Zi, Zh, List.map_cons, List.map_nil, cond_true, cond_false, aop, Zv, Zq, Zp, ev, sput, Zt, Zy, Ya, unK, Zd, Zw, Nat.reduceBEq, Nat.reduceAdd, Int.reduceBEq, Int.reduceBNe, Int.reduceLT, Zu, Zz, tup, tyf, Yr, List.nil_append, List.append_nil]
  exact clone_call hv' (by simp; omega)

theorem ord_take {o : List Int} : ord (o.take 9) = ord o := by
  by_cases h : o.length ≤ 9
  · rw [List.take_of_length_le h]
  · have h1 : ord o = false := by simp [ord]; omega
    have h2 : ord (o.take 9) = false := by simp [ord]; omega
    rw [h1, h2]
theorem ord_take_eq {o : List Int} (h : ord o = true) : o.take 9 = o := List.take_of_length_le (by have := Yx h; omega)

theorem storeRd {h : Zx} {o : List Int} {K : Zx → Prop} : Wd prog (h ++ [Blk.cells (ordN 0) 77 false]) 77 (.pointer (some ⟨h.length, 0, none⟩)) (rdV o) K = K ((h ++ [Blk.cells (ordN 0) 77 false]).set h.length (.cells (rdC o) 77 false)) :=
  storeA (c := ordN 0) (Xc _ _) (by rw [Xa, rdC_len]) (rdC_one o) (by rw [rdC_len]; rfl)
theorem rdBox (h : Zx) (o : List Int) : Ext (fun _ => False) h ((h ++ [Blk.cells (ordN 0) 77 false]).set h.length (.cells (rdC o) 77 false)) ∧ ((h ++ [Blk.cells (ordN 0) 77 false]).set h.length (.cells (rdC o) 77 false))[h.length]? = some (.cells (rdC o) 77 false) :=
  ⟨⟨by simp, fun i hi _ => by rw [List.getElem?_set_ne (by omega), List.getElem?_append_left hi]⟩, Xs (by simp) _⟩

/-- What Count hands back. -/
def countV (o : List Int) : Value := if ord o = true then .tuple #[Yb (cn o : Nat), .int .i64 0] else .tuple #[.int .i64 0, .int .i64 2]
theorem count_call [BitTab prog 1] {h : Zx} {v : Value} {o : List Int} (hv : IntSl h v o) (hl : o.length < 9223372036854775808) (hx : ∀ x ∈ o, -9223372036854775808 ≤ x ∧ x < 9223372036854775808) : Wv prog 17 [v] h (countV o) := by
  have hlow : Low (countV o) := by unfold countV; split <;> exact .pair (.int _ _) (.int _ _)
  refine ACall.forget hlow ?_
  refine s17_call (by simp) ?_
  simp only [s17]
  simp (maxSteps := 2000000) only [s17, ↓Za, ↓Zj, ↓Zr, ↓Ze, ↓Zl, ↓Zs, ↓Zf, ↓Zm, ↓Zg, ↓Zb, ↓Zc, ↓vdn, vup, Zk, Zo, Zn, Zi, Zh, List.map_cons, List.map_nil, cond_true, cond_false, aop, Zv, Zq, Zp, ev, sput, Zt, Zy, Ya, unK, Zd, Zw, Nat.reduceBEq, Nat.reduceAdd, Int.reduceBEq, Int.reduceBNe, Int.reduceLT, Zu, Zz, tup, tyf, Yr, List.nil_append, List.append_nil, List.toList_toArray, List.cons_append]
  refine (read_call hv hl hx).mono ?_
  rintro _ g ⟨rfl, rfl⟩
  simp (maxSteps := 2000000) only [s17, ↓Za, ↓Zj, ↓Zr, ↓Ze, ↓Zl, ↓Zs, ↓Zf, ↓Zm, ↓Zg, ↓Zb, ↓Zc, ↓vdn, vup, Zk, Zo, Zn, Zi, Zh, List.map_cons, List.map_nil, cond_true, cond_false, aop, Zv, Zq, Zp, ev, sput, Zt, Zy, Ya, unK, Zd, Zw, Nat.reduceBEq, Nat.reduceAdd, Int.reduceBEq, Int.reduceBNe, Int.reduceLT, Zu, Zz, tup, tyf, Wo, Wk, zeroN, zero_77]
  rw [storeRd]
  obtain ⟨hE, hb⟩ := rdBox g o
  generalize hgl : g.length = gl at hE hb ⊢
  generalize (g ++ [Blk.cells (ordN 0) 77 false]).set gl (.cells (rdC o) 77 false) = G at hE hb ⊢
  cases ho : ord o with
  | false =>
    simp (maxSteps := 2000000) only [s17, ↓Za, ↓Zj, ↓Zr, ↓Ze, ↓Zl, ↓Zs, ↓Zf, ↓Zm, ↓Zg, ↓Zb, ↓Zc, ↓vdn, vup, Zk, Zo, Zn, Zi, Zh, List.map_cons, List.map_nil, cond_true, cond_false, aop, Zv, Zq, Zp, ev, sput, Zt, Zy, Ya, unK, Zd, Zw, Nat.reduceBEq, Nat.reduceAdd, Int.reduceBEq, Int.reduceBNe, Int.reduceLT, Zu, Zz, tup, tyf, ho]
    rw [countV, ho]
    exact ⟨rfl, hE⟩
  | true =>
    have hrd : rdC o = Wx o := if_pos (Yx ho)
    rw [hrd] at hb
    simp (maxSteps := 2000000) only [s17, ↓Za, ↓Zj, ↓Zr, ↓Ze, ↓Zl, ↓Zs, ↓Zf, ↓Zm, ↓Zg, ↓Zb, ↓Zc, ↓vdn, vup, Zk, Zo, Zn, Zi, Zh, List.map_cons, List.map_nil, cond_true, cond_false, aop, Zv, Zq, Zp, ev, sput, Zt, Zy, Ya, unK, Zd, Zw, Nat.reduceBEq, Nat.reduceAdd, Int.reduceBEq, Int.reduceBNe, Int.reduceLT, Zu, Zz, tup, tyf, ho, loadO hb Xa (Yx ho).2, Yr, List.nil_append, List.append_nil, List.toList_toArray, List.cons_append]
    refine (counted_call ho).mono ?_
    rintro _ _ ⟨rfl, rfl⟩
    rw [countV, ho]
    exact ⟨rfl, hE⟩

theorem lit2 {h : Zx} {x y : Int} (K : Value → Zx → Prop) : Xe prog h 22 2 [(0, Yb x), (1, Yb y)] K = K (.slice (some ⟨h.length, 0, none⟩) 2 2) (h ++ [.ints [x, y] 3 false]) := by
  simp only [Xe, Xy, zero_3, Xr, reps, fillL, mkb, Xj, notTuple, cellsOf, List.length_singleton, Nat.mul_one, Nat.zero_mul, Nat.zero_add]
  exact propext ⟨fun h => h.2.2.2, fun h => ⟨trivial, Nat.zero_lt_one, by decide, h⟩⟩
theorem litSl {h : Zx} {xs : List Int} : IntSl (h ++ [.ints xs 3 false]) (.slice (some ⟨h.length, 0, none⟩) xs.length xs.length) xs :=
  .inr ⟨h.length, 0, none, xs.length, xs.map Yb, 3, false, rfl, Nat.le_refl _, by simp [view, Blk.view], fun i hi => by simp [List.getD, hi]⟩

theorem awake_call [BitTab prog 1] {h : Zx} : Wv prog 20 [] h (.bool true) := by
  have hc : countV [0, 0] = .tuple #[Yb 2, .int .i64 0] := by
    have h1 : ord [0, 0] = true := by decide
    have h2 : cn [0, 0] = 2 := by decide
    rw [countV, h1, if_pos rfl, h2]; rfl
  refine ACall.forget (Low.bool _) ?_
  refine s20_call (by simp) ?_
  simp (maxSteps := 2000000) only [s20, ↓Za, ↓Zj, ↓Zr, ↓Ze, ↓Zl, ↓Zs, ↓Zf, ↓Zm, ↓Zg, ↓Zb, ↓Zc, ↓vdn, vup, Zk, Zo, Zn, Zi, Zh, List.map_cons, List.map_nil, cond_true, cond_false, aop, Zv, Zq, Zp, ev, sput, Zt, Zy, Ya, unK, Zd, Zw, Nat.reduceBEq, Nat.reduceAdd, Int.reduceBEq, Int.reduceBNe, Int.reduceLT, Zu, Zz, tup, tyf, lit2, Yr, List.nil_append, List.append_nil, List.toList_toArray, List.cons_append]
  refine (count_call (o := [0, 0]) litSl (by decide) (by decide)).mono ?_
  rintro _ _ ⟨rfl, rfl⟩
  rw [hc]
  simp (maxSteps := 2000000) only [s20, ↓Za, ↓Zj, ↓Zr, ↓Ze, ↓Zl, ↓Zs, ↓Zf, ↓Zm, ↓Zg, ↓Zb, ↓Zc, ↓vdn, vup, Zk, Zo, Zn, Zi, Zh, List.map_cons, List.map_nil, cond_true, cond_false, aop, Zv, Zq, Zp, ev, sput, Zt, Zy, Ya, unK, Zd, Zw, Nat.reduceBEq, Nat.reduceAdd, Int.reduceBEq, Int.reduceBNe, Int.reduceLT, Zu, Zz, tup, tyf]
  exact Ext.app _ _ _

end Go.Proofs.Tryd.Am

namespace Go.Proofs.Tryd.Am
open Go.Am Ord
set_option maxRecDepth 100000
set_option maxHeartbeats 1000000

/-- Add takes these for elements. -/
def elI (o : List Int) (i : Int) : Bool := decide (0 ≤ i) && decide (i < o.length)
/-- What Add hands back. -/
def AddR (o : List Int) (i j : Int) (s : Value) (e : Int) (h : Zx) : Prop :=
  if ord o = true ∧ elI o i = true ∧ elI o j = true then (if fr o i.toNat j.toNat = true then e = 0 ∧ IntSl h s (addL o i.toNat j.toNat) else e = 5 ∧ s = .slice none 0 0) else e = 2 ∧ s = .slice none 0 0
end Go.Proofs.Tryd.Am

namespace Go.Proofs.Tryd.Am
open Go.Am
set_option maxRecDepth 100000
/-! 3: planchet planchetlaw07.OrderCounts -/
@[reducible] def q3_0 : SCode := .region [⟨some 6, .assign (.const (.bool false)), none⟩]
@[reducible] def q3_1 : SCode := .region [⟨some 27, .move (.tmp 0), none⟩,
    ⟨some 28, .call { callee := .value (.func 18), args := #[.tmp 27], argTypes := #[22] }, none⟩,
    ⟨some 29, .call { callee := .value (.func 17), args := #[.tmp 28], argTypes := #[22] }, none⟩,
    ⟨some 26, .move (.tmp 29), none⟩,
    ⟨some 30, .extract (.tmp 26) 0, none⟩,
    ⟨some 31, .extract (.tmp 26) 1, none⟩,
    ⟨some 7, .assign (.tmp 30), none⟩,
    ⟨some 8, .assign (.tmp 31), none⟩]
@[reducible] def q3_2 : SCode := .region [⟨some 32, .move (.tmp 8), none⟩,
    ⟨some 33, .binOp .neq 23 (.tmp 32) (.const (.int .i64 0)) 23, none⟩,
    ⟨some 34, .move (.tmp 33), none⟩,
    ⟨some 35, .move (.tmp 0), some (34, false)⟩,
    ⟨some 36, .call { callee := .value (.func 19), args := #[.tmp 35], argTypes := #[22] }, some (34, false)⟩,
    ⟨some 37, .unOp .not 4 (.tmp 36), some (34, false)⟩,
    ⟨some 38, .pick (.tmp 34) (.const (.bool true)) (.tmp 37), none⟩]
@[reducible] def q3_3 : SCode := .region [⟨some 39, .move (.tmp 8), none⟩,
    ⟨some 40, .binOp .eql 23 (.tmp 39) (.const (.int .i64 2)) 23, none⟩,
    ⟨some 41, .move (.tmp 40), none⟩,
    ⟨some 42, .call { callee := .value (.func 20), args := #[], argTypes := #[] }, some (41, true)⟩,
    ⟨some 43, .pick (.tmp 41) (.tmp 42) (.const (.bool false)), none⟩,
    ⟨some 6, .assign (.tmp 43), none⟩]
@[reducible] def q3_4 : SCode := .region [⟨some 9, .assign (.const (.int .i64 0)), none⟩]
@[reducible] def q3_5 : SCode := .region [⟨some 44, .move (.tmp 0), none⟩,
    ⟨some 45, .call { callee := .builtin .len, args := #[.tmp 44], argTypes := #[22] }, none⟩,
    ⟨some 46, .move (.const (.int .i64 0)), none⟩]
@[reducible] def q3_6 : SCode := .region [⟨some 47, .binOp .lss 3 (.tmp 46) (.tmp 45) 3, none⟩]
@[reducible] def q3_7 : SCode := .region [⟨some 48, .move (.tmp 46), none⟩,
    ⟨some 10, .assign (.tmp 48), none⟩]
@[reducible] def q3_8 : SCode := .region [⟨some 11, .assign (.const (.bool true)), none⟩]
@[reducible] def q3_9 : SCode := .region [⟨some 49, .move (.tmp 0), none⟩,
    ⟨some 50, .call { callee := .builtin .len, args := #[.tmp 49], argTypes := #[22] }, none⟩,
    ⟨some 51, .move (.const (.int .i64 0)), none⟩]
@[reducible] def q3_10 : SCode := .region [⟨some 52, .binOp .lss 3 (.tmp 51) (.tmp 50) 3, none⟩]
@[reducible] def q3_11 : SCode := .region [⟨some 53, .indexAddr 22 (.tmp 49) (.tmp 51), none⟩,
    ⟨some 54, .load 3 (.tmp 53), none⟩,
    ⟨some 13, .assign (.tmp 54), none⟩]
@[reducible] def q3_12 : SCode := .region [⟨some 55, .move (.tmp 11), none⟩,
    ⟨some 56, .move (.tmp 55), none⟩,
    ⟨some 57, .move (.tmp 13), some (56, true)⟩,
    ⟨some 58, .move (.tmp 10), some (56, true)⟩,
    ⟨some 59, .binOp .shr 3 (.tmp 57) (.tmp 58) 3, some (56, true)⟩,
    ⟨some 60, .binOp .and 3 (.tmp 59) (.const (.int .i64 1)) 3, some (56, true)⟩,
    ⟨some 61, .binOp .eql 3 (.tmp 60) (.const (.int .i64 0)) 3, some (56, true)⟩,
    ⟨some 62, .pick (.tmp 56) (.tmp 61) (.const (.bool false)), none⟩,
    ⟨some 11, .assign (.tmp 62), none⟩]
@[reducible] def q3_13 : SCode := .region [⟨some 63, .binOp .add 3 (.tmp 51) (.const (.int .i64 1)) 3, none⟩,
    ⟨some 51, .move (.tmp 63), none⟩]
def l3_0 : SCode := (.seq q3_10 (.seq (.cond (.tmp 52) .skip (.exit 2)) (.seq (.block 3 (.seq q3_11 q3_12)) q3_13)))
@[reducible] def q3_14 : SCode := .region [⟨some 64, .move (.tmp 11), none⟩,
    ⟨some 65, .unOp .not 4 (.tmp 64), none⟩]
@[reducible] def q3_15 : SCode := .region [⟨some 66, .move (.tmp 0), none⟩,
    ⟨some 67, .call { callee := .builtin .len, args := #[.tmp 66], argTypes := #[22] }, none⟩,
    ⟨some 68, .binOp .eql 3 (.tmp 67) (.const (.int .i64 1)) 3, none⟩]
@[reducible] def q3_16 : SCode := .region [⟨some 69, .move (.tmp 9), none⟩,
    ⟨some 70, .binOp .add 3 (.tmp 69) (.const (.int .i64 1)) 3, none⟩,
    ⟨some 9, .assign (.tmp 70), none⟩]
@[reducible] def q3_17 : SCode := .region [⟨some 14, .assign (.const (.slice none 0 0)), none⟩]
@[reducible] def q3_18 : SCode := .region [⟨some 71, .move (.tmp 0), none⟩,
    ⟨some 72, .call { callee := .builtin .len, args := #[.tmp 71], argTypes := #[22] }, none⟩,
    ⟨some 73, .move (.const (.int .i64 0)), none⟩]
@[reducible] def q3_19 : SCode := .region [⟨some 74, .binOp .lss 3 (.tmp 73) (.tmp 72) 3, none⟩]
@[reducible] def q3_20 : SCode := .region [⟨some 75, .move (.tmp 73), none⟩,
    ⟨some 76, .indexAddr 22 (.tmp 71) (.tmp 73), none⟩,
    ⟨some 77, .load 3 (.tmp 76), none⟩,
    ⟨some 15, .assign (.tmp 75), none⟩,
    ⟨some 16, .assign (.tmp 77), none⟩]
@[reducible] def q3_21 : SCode := .region [⟨some 78, .move (.tmp 15), none⟩,
    ⟨some 79, .move (.tmp 10), none⟩,
    ⟨some 80, .binOp .neq 3 (.tmp 78) (.tmp 79) 3, none⟩]
def q3_22 : SCode := .draw [⟨some 81, .move (.tmp 14), none⟩,
    ⟨some 82, .move (.tmp 16), none⟩,
    ⟨some 83, .move (.tmp 10), none⟩,
    ⟨some 84, .binOp .shl 3 (.const (.int .i64 1)) (.tmp 83) 3, none⟩,
    ⟨some 85, .binOp .sub 3 (.tmp 84) (.const (.int .i64 1)) 3, none⟩,
    ⟨some 86, .binOp .and 3 (.tmp 82) (.tmp 85) 3, none⟩,
    ⟨some 87, .move (.tmp 16), none⟩,
    ⟨some 88, .move (.tmp 10), none⟩,
    ⟨some 89, .binOp .add 3 (.tmp 88) (.const (.int .i64 1)) 3, none⟩,
    ⟨some 90, .binOp .shr 3 (.tmp 87) (.tmp 89) 3, none⟩,
    ⟨some 91, .move (.tmp 10), none⟩,
    ⟨some 92, .binOp .shl 3 (.tmp 90) (.tmp 91) 3, none⟩,
    ⟨some 93, .binOp .or 3 (.tmp 86) (.tmp 92) 3, none⟩,
    ⟨some 94, .buildSlice 22 1 #[(0, .tmp 93)], none⟩,
    ⟨some 95, .call { callee := .builtin .append, args := #[.tmp 81, .tmp 94], argTypes := #[22, 22] }, none⟩,
    ⟨some 14, .assign (.tmp 95), none⟩]
   [[], [], [], [2], [3], [1, 4], [], [], [7], [6, 8], [], [9, 10], [5, 11], [12], [0, 13], [14, 14, 0, 1, 2, 3, 4, 5, 6, 7, 8, 9, 10, 11, 12, 13, 14]]
@[reducible] def q3_23 : SCode := .region [⟨some 96, .binOp .add 3 (.tmp 73) (.const (.int .i64 1)) 3, none⟩,
    ⟨some 73, .move (.tmp 96), none⟩]
def l3_1 : SCode := (.seq q3_19 (.seq (.cond (.tmp 74) .skip (.exit 4)) (.seq (.block 5 (.seq q3_20 (.seq q3_21 (.cond (.tmp 80) q3_22 .skip)))) q3_23)))
@[reducible] def q3_24 : SCode := .region [⟨some 98, .move (.tmp 14), none⟩,
    ⟨some 99, .call { callee := .value (.func 17), args := #[.tmp 98], argTypes := #[22] }, none⟩,
    ⟨some 97, .move (.tmp 99), none⟩,
    ⟨some 100, .extract (.tmp 97) 0, none⟩,
    ⟨some 101, .extract (.tmp 97) 1, none⟩,
    ⟨some 17, .assign (.tmp 100), none⟩,
    ⟨some 18, .assign (.tmp 101), none⟩]
@[reducible] def q3_25 : SCode := .region [⟨some 102, .move (.tmp 18), none⟩,
    ⟨some 103, .binOp .neq 23 (.tmp 102) (.const (.int .i64 0)) 23, none⟩]
@[reducible] def q3_26 : SCode := .region [⟨some 6, .assign (.const (.bool false)), none⟩]
@[reducible] def q3_27 : SCode := .region [⟨some 104, .move (.tmp 9), none⟩,
    ⟨some 105, .move (.tmp 17), none⟩,
    ⟨some 106, .binOp .add 3 (.tmp 104) (.tmp 105) 3, none⟩,
    ⟨some 9, .assign (.tmp 106), none⟩]
@[reducible] def q3_28 : SCode := .region [⟨some 107, .binOp .add 3 (.tmp 46) (.const (.int .i64 1)) 3, none⟩,
    ⟨some 46, .move (.tmp 107), none⟩]
def l3_2 : SCode := (.seq q3_6 (.seq (.cond (.tmp 47) .skip (.exit 0)) (.seq (.block 1 (.seq q3_7 (.seq q3_8 (.seq (.seq q3_9 (.block 2 (.loop l3_0))) (.seq (.seq q3_14 (.cond (.tmp 65) (.exit 1) .skip)) (.seq (.seq q3_15 (.cond (.tmp 68) (.seq q3_16 (.exit 1)) .skip)) (.seq q3_17 (.seq (.seq q3_18 (.block 4 (.loop l3_1))) (.seq q3_24 (.seq (.seq q3_25 (.cond (.tmp 103) (.seq q3_26 .ret) .skip)) q3_27)))))))))) q3_28)))
@[reducible] def q3_29 : SCode := .region [⟨some 108, .move (.tmp 9), none⟩,
    ⟨some 109, .move (.tmp 7), none⟩,
    ⟨some 110, .binOp .neq 3 (.tmp 108) (.tmp 109) 3, none⟩]
@[reducible] def q3_30 : SCode := .region [⟨some 6, .assign (.const (.bool false)), none⟩]
def q3_31 : SCode := .draw [⟨some 111, .move (.tmp 1), none⟩,
    ⟨some 112, .convert 3 29 (.tmp 111), none⟩,
    ⟨some 113, .move (.tmp 0), none⟩,
    ⟨some 114, .call { callee := .builtin .len, args := #[.tmp 113], argTypes := #[22] }, none⟩,
    ⟨some 115, .convert 3 29 (.tmp 114), none⟩,
    ⟨some 116, .binOp .rem 29 (.tmp 112) (.tmp 115) 29, none⟩,
    ⟨some 117, .convert 29 3 (.tmp 116), none⟩,
    ⟨some 118, .move (.tmp 2), none⟩,
    ⟨some 119, .convert 3 29 (.tmp 118), none⟩,
    ⟨some 120, .move (.tmp 0), none⟩,
    ⟨some 121, .call { callee := .builtin .len, args := #[.tmp 120], argTypes := #[22] }, none⟩,
    ⟨some 122, .convert 3 29 (.tmp 121), none⟩,
    ⟨some 123, .binOp .rem 29 (.tmp 119) (.tmp 122) 29, none⟩,
    ⟨some 124, .convert 29 3 (.tmp 123), none⟩,
    ⟨some 1, .assign (.tmp 117), none⟩,
    ⟨some 2, .assign (.tmp 124), none⟩]
   [[], [0], [], [2], [3], [1, 4], [5], [], [7], [], [9], [10], [8, 11], [12], [6, 0, 1, 2, 3, 4, 5, 6], [13, 14, 0, 1, 2, 3, 4, 5, 6, 7, 8, 9, 10, 11, 12, 13, 14]]
@[reducible] def q3_32 : SCode := .region [⟨some 126, .move (.tmp 0), none⟩,
    ⟨some 127, .call { callee := .value (.func 18), args := #[.tmp 126], argTypes := #[22] }, none⟩,
    ⟨some 128, .move (.tmp 1), none⟩,
    ⟨some 129, .move (.tmp 2), none⟩,
    ⟨some 130, .call { callee := .value (.func 21), args := #[.tmp 127, .tmp 128, .tmp 129], argTypes := #[22, 3, 3] }, none⟩,
    ⟨some 125, .move (.tmp 130), none⟩,
    ⟨some 131, .extract (.tmp 125) 0, none⟩,
    ⟨some 132, .extract (.tmp 125) 1, none⟩,
    ⟨some 19, .assign (.tmp 131), none⟩,
    ⟨some 8, .assign (.tmp 132), none⟩]
@[reducible] def q3_33 : SCode := .region [⟨some 134, .move (.tmp 0), none⟩,
    ⟨some 135, .call { callee := .value (.func 18), args := #[.tmp 134], argTypes := #[22] }, none⟩,
    ⟨some 136, .move (.tmp 2), none⟩,
    ⟨some 137, .move (.tmp 1), none⟩,
    ⟨some 138, .call { callee := .value (.func 21), args := #[.tmp 135, .tmp 136, .tmp 137], argTypes := #[22, 3, 3] }, none⟩,
    ⟨some 133, .move (.tmp 138), none⟩,
    ⟨some 139, .extract (.tmp 133) 0, none⟩,
    ⟨some 140, .extract (.tmp 133) 1, none⟩,
    ⟨some 20, .assign (.tmp 139), none⟩,
    ⟨some 21, .assign (.tmp 140), none⟩]
@[reducible] def q3_34 : SCode := .region [⟨some 141, .move (.tmp 8), none⟩,
    ⟨some 142, .binOp .neq 23 (.tmp 141) (.const (.int .i64 0)) 23, none⟩]
@[reducible] def q3_35 : SCode := .region [⟨some 143, .move (.tmp 8), none⟩,
    ⟨some 144, .binOp .eql 23 (.tmp 143) (.const (.int .i64 5)) 23, none⟩,
    ⟨some 145, .move (.tmp 144), none⟩,
    ⟨some 146, .move (.tmp 21), some (145, true)⟩,
    ⟨some 147, .move (.tmp 8), some (145, true)⟩,
    ⟨some 148, .binOp .eql 23 (.tmp 146) (.tmp 147) 23, some (145, true)⟩,
    ⟨some 149, .pick (.tmp 145) (.tmp 148) (.const (.bool false)), none⟩,
    ⟨some 150, .move (.tmp 149), none⟩,
    ⟨some 151, .move (.tmp 0), some (150, true)⟩,
    ⟨some 152, .move (.tmp 1), some (150, true)⟩,
    ⟨some 153, .move (.tmp 2), some (150, true)⟩,
    ⟨some 154, .call { callee := .value (.func 22), args := #[.tmp 151, .tmp 152, .tmp 153], argTypes := #[22, 3, 3] }, some (150, true)⟩,
    ⟨some 155, .unOp .not 4 (.tmp 154), some (150, true)⟩,
    ⟨some 156, .pick (.tmp 150) (.tmp 155) (.const (.bool false)), none⟩,
    ⟨some 157, .move (.tmp 156), none⟩,
    ⟨some 158, .call { callee := .value (.func 20), args := #[], argTypes := #[] }, some (157, true)⟩,
    ⟨some 159, .pick (.tmp 157) (.tmp 158) (.const (.bool false)), none⟩,
    ⟨some 6, .assign (.tmp 159), none⟩]
@[reducible] def q3_36 : SCode := .region [⟨some 161, .move (.tmp 19), none⟩,
    ⟨some 162, .call { callee := .value (.func 17), args := #[.tmp 161], argTypes := #[22] }, none⟩,
    ⟨some 160, .move (.tmp 162), none⟩,
    ⟨some 163, .extract (.tmp 160) 0, none⟩,
    ⟨some 164, .extract (.tmp 160) 1, none⟩,
    ⟨some 22, .assign (.tmp 163), none⟩,
    ⟨some 23, .assign (.tmp 164), none⟩]
@[reducible] def q3_37 : SCode := .region [⟨some 166, .move (.tmp 20), none⟩,
    ⟨some 167, .call { callee := .value (.func 17), args := #[.tmp 166], argTypes := #[22] }, none⟩,
    ⟨some 165, .move (.tmp 167), none⟩,
    ⟨some 168, .extract (.tmp 165) 0, none⟩,
    ⟨some 169, .extract (.tmp 165) 1, none⟩,
    ⟨some 24, .assign (.tmp 168), none⟩,
    ⟨some 25, .assign (.tmp 169), none⟩]
@[reducible] def q3_38 : SCode := .region [⟨some 170, .move (.tmp 21), none⟩,
    ⟨some 171, .binOp .eql 23 (.tmp 170) (.const (.int .i64 0)) 23, none⟩,
    ⟨some 172, .move (.tmp 171), none⟩,
    ⟨some 173, .move (.tmp 23), some (172, true)⟩,
    ⟨some 174, .binOp .eql 23 (.tmp 173) (.const (.int .i64 0)) 23, some (172, true)⟩,
    ⟨some 175, .pick (.tmp 172) (.tmp 174) (.const (.bool false)), none⟩,
    ⟨some 176, .move (.tmp 175), none⟩,
    ⟨some 177, .move (.tmp 25), some (176, true)⟩,
    ⟨some 178, .binOp .eql 23 (.tmp 177) (.const (.int .i64 0)) 23, some (176, true)⟩,
    ⟨some 179, .pick (.tmp 176) (.tmp 178) (.const (.bool false)), none⟩,
    ⟨some 180, .move (.tmp 179), none⟩,
    ⟨some 181, .move (.tmp 22), some (180, true)⟩,
    ⟨some 182, .move (.tmp 24), some (180, true)⟩,
    ⟨some 183, .binOp .add 3 (.tmp 181) (.tmp 182) 3, some (180, true)⟩,
    ⟨some 184, .move (.tmp 7), some (180, true)⟩,
    ⟨some 185, .binOp .eql 3 (.tmp 183) (.tmp 184) 3, some (180, true)⟩,
    ⟨some 186, .pick (.tmp 180) (.tmp 185) (.const (.bool false)), none⟩,
    ⟨some 187, .move (.tmp 186), none⟩,
    ⟨some 188, .move (.tmp 22), some (187, true)⟩,
    ⟨some 189, .binOp .gtr 3 (.tmp 188) (.const (.int .i64 0)) 3, some (187, true)⟩,
    ⟨some 190, .pick (.tmp 187) (.tmp 189) (.const (.bool false)), none⟩,
    ⟨some 191, .move (.tmp 190), none⟩,
    ⟨some 192, .move (.tmp 24), some (191, true)⟩,
    ⟨some 193, .binOp .gtr 3 (.tmp 192) (.const (.int .i64 0)) 3, some (191, true)⟩,
    ⟨some 194, .pick (.tmp 191) (.tmp 193) (.const (.bool false)), none⟩,
    ⟨some 195, .move (.tmp 194), none⟩,
    ⟨some 196, .call { callee := .value (.func 20), args := #[], argTypes := #[] }, some (195, true)⟩,
    ⟨some 197, .pick (.tmp 195) (.tmp 196) (.const (.bool false)), none⟩,
    ⟨some 6, .assign (.tmp 197), none⟩]
def s3 : SCode := (.seq q3_0 (.seq q3_1 (.seq (.seq q3_2 (.cond (.tmp 38) (.seq q3_3 .ret) .skip)) (.seq q3_4 (.seq (.seq q3_5 (.block 0 (.loop l3_2))) (.seq (.seq q3_29 (.cond (.tmp 110) (.seq q3_30 .ret) .skip)) (.seq q3_31 (.seq q3_32 (.seq q3_33 (.seq (.seq q3_34 (.cond (.tmp 142) (.seq q3_35 .ret) .skip)) (.seq q3_36 (.seq q3_37 (.seq q3_38 .ret)))))))))))))
/-! 4: planchet planchetlaw07.OrderEven -/
@[reducible] def q4_0 : SCode := .region [⟨some 2, .assign (.const (.bool false)), none⟩]
@[reducible] def q4_1 : SCode := .region [⟨some 8, .move (.tmp 0), none⟩,
    ⟨some 9, .call { callee := .value (.func 18), args := #[.tmp 8], argTypes := #[22] }, none⟩,
    ⟨some 10, .call { callee := .value (.func 23), args := #[.tmp 9], argTypes := #[22] }, none⟩,
    ⟨some 7, .move (.tmp 10), none⟩,
    ⟨some 11, .extract (.tmp 7) 0, none⟩,
    ⟨some 12, .extract (.tmp 7) 1, none⟩,
    ⟨some 3, .alloc 33, none⟩,
    ⟨none, .store 33 (.tmp 3) (.tmp 11), none⟩,
    ⟨some 4, .assign (.tmp 12), none⟩]
@[reducible] def q4_2 : SCode := .region [⟨some 13, .move (.tmp 0), none⟩,
    ⟨some 14, .call { callee := .value (.func 19), args := #[.tmp 13], argTypes := #[22] }, none⟩,
    ⟨some 15, .unOp .not 4 (.tmp 14), none⟩]
@[reducible] def q4_3 : SCode := .region [⟨some 16, .load 33 (.tmp 3), none⟩,
    ⟨some 17, .build 33 #[], none⟩,
    ⟨some 18, .binOp .eql 33 (.tmp 16) (.tmp 17) 33, none⟩,
    ⟨some 19, .move (.tmp 18), none⟩,
    ⟨some 20, .move (.tmp 4), some (19, true)⟩,
    ⟨some 21, .binOp .eql 23 (.tmp 20) (.const (.int .i64 2)) 23, some (19, true)⟩,
    ⟨some 22, .pick (.tmp 19) (.tmp 21) (.const (.bool false)), none⟩,
    ⟨some 23, .move (.tmp 22), none⟩,
    ⟨some 24, .call { callee := .value (.func 20), args := #[], argTypes := #[] }, some (23, true)⟩,
    ⟨some 25, .pick (.tmp 23) (.tmp 24) (.const (.bool false)), none⟩,
    ⟨some 2, .assign (.tmp 25), none⟩]
@[reducible] def q4_4 : SCode := .region [⟨some 27, .move (.tmp 0), none⟩,
    ⟨some 28, .call { callee := .value (.func 24), args := #[.tmp 27], argTypes := #[22] }, none⟩,
    ⟨some 26, .move (.tmp 28), none⟩,
    ⟨some 29, .extract (.tmp 26) 0, none⟩,
    ⟨some 30, .extract (.tmp 26) 1, none⟩,
    ⟨some 5, .alloc 33, none⟩,
    ⟨none, .store 33 (.tmp 5) (.tmp 29), none⟩,
    ⟨some 6, .assign (.tmp 30), none⟩]
@[reducible] def q4_5 : SCode := .region [⟨some 31, .load 33 (.tmp 3), none⟩,
    ⟨some 32, .load 33 (.tmp 5), none⟩,
    ⟨some 33, .binOp .eql 33 (.tmp 31) (.tmp 32) 33, none⟩,
    ⟨some 34, .move (.tmp 33), none⟩,
    ⟨some 35, .move (.tmp 4), some (34, true)⟩,
    ⟨some 36, .move (.tmp 6), some (34, true)⟩,
    ⟨some 37, .binOp .eql 23 (.tmp 35) (.tmp 36) 23, some (34, true)⟩,
    ⟨some 38, .pick (.tmp 34) (.tmp 37) (.const (.bool false)), none⟩,
    ⟨some 39, .move (.tmp 38), none⟩,
    ⟨some 40, .call { callee := .value (.func 20), args := #[], argTypes := #[] }, some (39, true)⟩,
    ⟨some 41, .pick (.tmp 39) (.tmp 40) (.const (.bool false)), none⟩,
    ⟨some 2, .assign (.tmp 41), none⟩]
def s4 : SCode := (.seq q4_0 (.seq q4_1 (.seq (.seq q4_2 (.cond (.tmp 15) (.seq q4_3 .ret) .skip)) (.seq q4_4 (.seq q4_5 .ret)))))
end Go.Proofs.Tryd.Am

namespace Ord
open Go.Am

/-- In how many lines i stands before j. -/
def befN (o : List Int) (i j : Nat) : Nat := if ab o i j = true then cn o else if fr o i j = true then cn (addL o i j) else 0
/-- The heights: how often others stand before. -/
def hsum (o : List Int) (i : Nat) : Nat := (((List.range o.length).filter fun j => decide (j ≠ i)).map fun j => befN o j i).sum
end Ord

namespace Go.Proofs.Tryd.Am
open Go.Am Ord
set_option maxRecDepth 100000
set_option maxHeartbeats 1000000

/-- What is not there yet. -/
def rest (n there : Nat) : List Nat := (List.range n).filter fun i => !there.testBit i
end Go.Proofs.Tryd.Am

namespace Go.Proofs.Tryd.Am
open Go.Am
set_option maxRecDepth 100000
end Go.Proofs.Tryd.Am

namespace Go.Proofs.Tryd.Am
open Go.Am Ord
set_option maxRecDepth 100000
set_option maxHeartbeats 1000000

/-- Elements as ints. -/
def castN (l : List Nat) : List Int := l.map fun (i : Nat) => (i : Int)
/-- The lines of what is left, Wt what stands already. -/
def Wt (xs : List Int) (Ls : List (List Nat)) : List (List Int) := Ls.map fun l => xs ++ castN l
theorem litI1 {h : Zx} {x : Int} (K : Value → Zx → Prop) : Xe prog h 22 1 [(0, Yb x)] K = K (.slice (some ⟨h.length, 0, none⟩) 1 1) (h ++ [.ints [x] 3 false]) := by
  simp only [Xe, Xy, zero_3, Xr, reps, fillL, mkb, Xj, notTuple, cellsOf, List.length_singleton, Nat.mul_one, Nat.zero_mul, Nat.zero_add]
  exact propext ⟨fun h => h.2.2.2, fun h => ⟨trivial, by decide, by decide, h⟩⟩

end Go.Proofs.Tryd.Am

namespace Go.Proofs.Tryd.Am
open Go.Am
set_option maxRecDepth 100000
/-! 15: planchet planchetlaw07.OrderDilworth -/
@[reducible] def q15_0 : SCode := .region [⟨some 2, .assign (.const (.bool false)), none⟩]
@[reducible] def q15_1 : SCode := .region [⟨some 12, .move (.tmp 0), none⟩,
    ⟨some 13, .call { callee := .value (.func 18), args := #[.tmp 12], argTypes := #[22] }, none⟩,
    ⟨some 14, .call { callee := .value (.func 57), args := #[.tmp 13], argTypes := #[22] }, none⟩,
    ⟨some 11, .move (.tmp 14), none⟩,
    ⟨some 15, .extract (.tmp 11) 0, none⟩,
    ⟨some 16, .extract (.tmp 11) 1, none⟩,
    ⟨some 3, .assign (.tmp 15), none⟩,
    ⟨some 4, .assign (.tmp 16), none⟩]
@[reducible] def q15_2 : SCode := .region [⟨some 18, .move (.tmp 0), none⟩,
    ⟨some 19, .call { callee := .value (.func 18), args := #[.tmp 18], argTypes := #[22] }, none⟩,
    ⟨some 20, .call { callee := .value (.func 48), args := #[.tmp 19], argTypes := #[22] }, none⟩,
    ⟨some 17, .move (.tmp 20), none⟩,
    ⟨some 21, .extract (.tmp 17) 0, none⟩,
    ⟨some 22, .extract (.tmp 17) 1, none⟩,
    ⟨some 5, .assign (.tmp 21), none⟩,
    ⟨some 6, .assign (.tmp 22), none⟩]
@[reducible] def q15_3 : SCode := .region [⟨some 24, .move (.tmp 0), none⟩,
    ⟨some 25, .call { callee := .value (.func 18), args := #[.tmp 24], argTypes := #[22] }, none⟩,
    ⟨some 26, .call { callee := .value (.func 58), args := #[.tmp 25], argTypes := #[22] }, none⟩,
    ⟨some 23, .move (.tmp 26), none⟩,
    ⟨some 27, .extract (.tmp 23) 0, none⟩,
    ⟨some 28, .extract (.tmp 23) 1, none⟩,
    ⟨some 7, .assign (.tmp 27), none⟩,
    ⟨some 8, .assign (.tmp 28), none⟩]
@[reducible] def q15_4 : SCode := .region [⟨some 29, .move (.tmp 4), none⟩,
    ⟨some 30, .binOp .neq 23 (.tmp 29) (.const (.int .i64 0)) 23, none⟩,
    ⟨some 31, .move (.tmp 30), none⟩,
    ⟨some 32, .move (.tmp 0), some (31, false)⟩,
    ⟨some 33, .call { callee := .value (.func 19), args := #[.tmp 32], argTypes := #[22] }, some (31, false)⟩,
    ⟨some 34, .unOp .not 4 (.tmp 33), some (31, false)⟩,
    ⟨some 35, .pick (.tmp 31) (.const (.bool true)) (.tmp 34), none⟩]
@[reducible] def q15_5 : SCode := .region [⟨some 36, .move (.tmp 4), none⟩,
    ⟨some 37, .binOp .eql 23 (.tmp 36) (.const (.int .i64 2)) 23, none⟩,
    ⟨some 38, .move (.tmp 37), none⟩,
    ⟨some 39, .move (.tmp 6), some (38, true)⟩,
    ⟨some 40, .move (.tmp 4), some (38, true)⟩,
    ⟨some 41, .binOp .eql 23 (.tmp 39) (.tmp 40) 23, some (38, true)⟩,
    ⟨some 42, .pick (.tmp 38) (.tmp 41) (.const (.bool false)), none⟩,
    ⟨some 43, .move (.tmp 42), none⟩,
    ⟨some 44, .move (.tmp 8), some (43, true)⟩,
    ⟨some 45, .move (.tmp 4), some (43, true)⟩,
    ⟨some 46, .binOp .eql 23 (.tmp 44) (.tmp 45) 23, some (43, true)⟩,
    ⟨some 47, .pick (.tmp 43) (.tmp 46) (.const (.bool false)), none⟩,
    ⟨some 48, .move (.tmp 47), none⟩,
    ⟨some 49, .call { callee := .value (.func 20), args := #[], argTypes := #[] }, some (48, true)⟩,
    ⟨some 50, .pick (.tmp 48) (.tmp 49) (.const (.bool false)), none⟩,
    ⟨some 2, .assign (.tmp 50), none⟩]
@[reducible] def q15_6 : SCode := .region [⟨some 9, .assign (.const (.int .i64 0)), none⟩]
@[reducible] def q15_7 : SCode := .region [⟨some 51, .move (.tmp 0), none⟩,
    ⟨some 52, .call { callee := .builtin .len, args := #[.tmp 51], argTypes := #[22] }, none⟩,
    ⟨some 53, .binOp .shl 3 (.const (.int .i64 1)) (.tmp 52) 3, none⟩,
    ⟨some 54, .move (.const (.int .i64 0)), none⟩]
@[reducible] def q15_8 : SCode := .region [⟨some 55, .binOp .lss 3 (.tmp 54) (.tmp 53) 3, none⟩]
@[reducible] def q15_9 : SCode := .region [⟨some 56, .move (.tmp 54), none⟩,
    ⟨some 10, .assign (.tmp 56), none⟩]
@[reducible] def q15_10 : SCode := .region [⟨some 57, .move (.tmp 0), none⟩,
    ⟨some 58, .move (.tmp 10), none⟩,
    ⟨some 59, .call { callee := .value (.func 59), args := #[.tmp 57, .tmp 58], argTypes := #[22, 3] }, none⟩]
@[reducible] def q15_11 : SCode := .region [⟨some 60, .move (.tmp 9), none⟩,
    ⟨some 61, .binOp .add 3 (.tmp 60) (.const (.int .i64 1)) 3, none⟩,
    ⟨some 9, .assign (.tmp 61), none⟩]
@[reducible] def q15_12 : SCode := .region [⟨some 62, .binOp .add 3 (.tmp 54) (.const (.int .i64 1)) 3, none⟩,
    ⟨some 54, .move (.tmp 62), none⟩]
def l15_0 : SCode := (.seq q15_8 (.seq (.cond (.tmp 55) .skip (.exit 0)) (.seq (.block 1 (.seq q15_9 (.seq q15_10 (.cond (.tmp 59) q15_11 .skip)))) q15_12)))
@[reducible] def q15_13 : SCode := .region [⟨some 63, .move (.tmp 6), none⟩,
    ⟨some 64, .binOp .eql 23 (.tmp 63) (.const (.int .i64 0)) 23, none⟩,
    ⟨some 65, .move (.tmp 64), none⟩,
    ⟨some 66, .move (.tmp 8), some (65, true)⟩,
    ⟨some 67, .binOp .eql 23 (.tmp 66) (.const (.int .i64 0)) 23, some (65, true)⟩,
    ⟨some 68, .pick (.tmp 65) (.tmp 67) (.const (.bool false)), none⟩,
    ⟨some 69, .move (.tmp 68), none⟩,
    ⟨some 70, .move (.tmp 5), some (69, true)⟩,
    ⟨some 71, .binOp .gtr 3 (.tmp 70) (.const (.int .i64 0)) 3, some (69, true)⟩,
    ⟨some 72, .pick (.tmp 69) (.tmp 71) (.const (.bool false)), none⟩,
    ⟨some 73, .move (.tmp 72), none⟩,
    ⟨some 74, .move (.tmp 5), some (73, true)⟩,
    ⟨some 75, .move (.tmp 0), some (73, true)⟩,
    ⟨some 76, .call { callee := .builtin .len, args := #[.tmp 75], argTypes := #[22] }, some (73, true)⟩,
    ⟨some 77, .binOp .shl 3 (.const (.int .i64 1)) (.tmp 76) 3, some (73, true)⟩,
    ⟨some 78, .binOp .lss 3 (.tmp 74) (.tmp 77) 3, some (73, true)⟩,
    ⟨some 79, .pick (.tmp 73) (.tmp 78) (.const (.bool false)), none⟩,
    ⟨some 80, .move (.tmp 79), none⟩,
    ⟨some 81, .move (.tmp 0), some (80, true)⟩,
    ⟨some 82, .move (.tmp 5), some (80, true)⟩,
    ⟨some 83, .call { callee := .value (.func 59), args := #[.tmp 81, .tmp 82], argTypes := #[22, 3] }, some (80, true)⟩,
    ⟨some 84, .pick (.tmp 80) (.tmp 83) (.const (.bool false)), none⟩,
    ⟨some 85, .move (.tmp 84), none⟩,
    ⟨some 86, .move (.tmp 3), some (85, true)⟩,
    ⟨some 87, .call { callee := .builtin .len, args := #[.tmp 86], argTypes := #[22] }, some (85, true)⟩,
    ⟨some 88, .move (.tmp 5), some (85, true)⟩,
    ⟨some 89, .call { callee := .value (.func 49), args := #[.tmp 88], argTypes := #[3] }, some (85, true)⟩,
    ⟨some 90, .binOp .eql 3 (.tmp 87) (.tmp 89) 3, some (85, true)⟩,
    ⟨some 91, .pick (.tmp 85) (.tmp 90) (.const (.bool false)), none⟩,
    ⟨some 92, .move (.tmp 91), none⟩,
    ⟨some 93, .move (.tmp 7), some (92, true)⟩,
    ⟨some 94, .call { callee := .builtin .len, args := #[.tmp 93], argTypes := #[22] }, some (92, true)⟩,
    ⟨some 95, .move (.tmp 9), some (92, true)⟩,
    ⟨some 96, .binOp .eql 3 (.tmp 94) (.tmp 95) 3, some (92, true)⟩,
    ⟨some 97, .pick (.tmp 92) (.tmp 96) (.const (.bool false)), none⟩,
    ⟨some 98, .move (.tmp 97), none⟩,
    ⟨some 99, .call { callee := .value (.func 20), args := #[], argTypes := #[] }, some (98, true)⟩,
    ⟨some 100, .pick (.tmp 98) (.tmp 99) (.const (.bool false)), none⟩,
    ⟨some 2, .assign (.tmp 100), none⟩]
def s15 : SCode := (.seq q15_0 (.seq q15_1 (.seq q15_2 (.seq q15_3 (.seq (.seq q15_4 (.cond (.tmp 35) (.seq q15_5 .ret) .skip)) (.seq q15_6 (.seq (.seq q15_7 (.block 0 (.loop l15_0))) (.seq q15_13 .ret))))))))
theorem s15_strip : Ye (Yd Tryd.f15) = s15 := by kernel_rfl
theorem s15_ok : Yk 101 (Yd Tryd.f15) = true := by kernel_rfl
/-! 48: planchet order.Anti -/
@[reducible] def q48_0 : SCode := .region [⟨some 2, .assign (.const (.int .i64 0)), none⟩,
    ⟨some 3, .assign (.const (.int .i64 0)), none⟩]
@[reducible] def q48_1 : SCode := .region [⟨some 8, .move (.tmp 0), none⟩,
    ⟨some 9, .call { callee := .value (.func 64), args := #[.tmp 8], argTypes := #[22] }, none⟩,
    ⟨some 7, .move (.tmp 9), none⟩,
    ⟨some 10, .extract (.tmp 7) 0, none⟩,
    ⟨some 11, .extract (.tmp 7) 1, none⟩,
    ⟨some 4, .alloc 77, none⟩,
    ⟨none, .store 77 (.tmp 4) (.tmp 10), none⟩,
    ⟨some 5, .assign (.tmp 11), none⟩]
@[reducible] def q48_2 : SCode := .region [⟨some 12, .move (.tmp 5), none⟩,
    ⟨some 13, .unOp .not 4 (.tmp 12), none⟩]
@[reducible] def q48_3 : SCode := .region [⟨some 2, .assign (.const (.int .i64 0)), none⟩,
    ⟨some 3, .assign (.const (.int .i64 2)), none⟩]
@[reducible] def q48_4 : SCode := .region [⟨some 14, .load 77 (.tmp 4), none⟩,
    ⟨some 15, .makeFunc (.func 84) #[] #[.tmp 4], none⟩,
    ⟨some 16, .call { callee := .value (.func 83), args := #[.tmp 14, .tmp 15], argTypes := #[77, 81] }, none⟩,
    ⟨some 6, .assign (.tmp 16), none⟩]
@[reducible] def q48_5 : SCode := .region [⟨some 17, .move (.tmp 6), none⟩,
    ⟨some 18, .call { callee := .value (.func 86), args := #[.tmp 17, .func 87], argTypes := #[22, 85] }, none⟩,
    ⟨some 2, .assign (.tmp 18), none⟩,
    ⟨some 3, .assign (.const (.int .i64 0)), none⟩]
def s48 : SCode := (.seq q48_0 (.seq q48_1 (.seq (.seq q48_2 (.cond (.tmp 13) (.seq q48_3 .ret) .skip)) (.seq q48_4 (.seq q48_5 .ret)))))
theorem s48_strip : Ye (Yd Tryd.f48) = s48 := by kernel_rfl
theorem s48_ok : Yk 19 (Yd Tryd.f48) = true := by kernel_rfl
theorem s48_call [Tabs Tryd.prog] {args : List Value} {h : Zx} {Q : Value → Zx → Prop} (hsz : args.length ≤ 19) (hk : aw Tryd.prog 19 s48 (Zu Tryd.prog [.tmp 2, .tmp 3] Q) (Zp 0 args) h) : ACall Tryd.prog 48 args h Q :=
  Xm Tryd.func48 rfl (enters_of Tryd.func48 (by kernel_rfl) rfl) rfl rfl (by decide) s48_strip s48_ok hsz hk

/-! 49: planchet planchetref07.Size -/
@[reducible] def q49_0 : SCode := .region [⟨some 2, .assign (.const (.int .i64 0)), none⟩]
@[reducible] def q49_1 : SCode := .region [⟨some 3, .assign (.const (.int .i64 0)), none⟩]
@[reducible] def q49_2 : SCode := .region [⟨some 4, .move (.tmp 0), none⟩,
    ⟨some 5, .binOp .gtr 3 (.tmp 4) (.const (.int .i64 0)) 3, none⟩]
@[reducible] def q49_4 : SCode := .region [⟨some 10, .move (.tmp 3), none⟩,
    ⟨some 11, .binOp .add 3 (.tmp 10) (.const (.int .i64 1)) 3, none⟩,
    ⟨some 3, .assign (.tmp 11), none⟩]
@[reducible] def q49_3 : SCode := .region [⟨some 6, .move (.tmp 0), none⟩,
    ⟨some 7, .move (.tmp 0), none⟩,
    ⟨some 8, .binOp .sub 3 (.tmp 7) (.const (.int .i64 1)) 3, none⟩,
    ⟨some 9, .binOp .and 3 (.tmp 6) (.tmp 8) 3, none⟩,
    ⟨some 0, .assign (.tmp 9), none⟩]
def l49_0 : SCode := (.seq (.seq q49_2 (.cond (.tmp 5) .skip (.exit 0))) (.seq (.block 1 q49_4) q49_3))
@[reducible] def q49_5 : SCode := .region [⟨some 12, .move (.tmp 3), none⟩,
    ⟨some 2, .assign (.tmp 12), none⟩]
def s49 : SCode := (.seq q49_0 (.seq q49_1 (.seq (.block 0 (.loop l49_0)) (.seq q49_5 .ret))))
theorem s49_strip : Ye (Yd Tryd.f49) = s49 := by kernel_rfl
theorem s49_ok : Yk 13 (Yd Tryd.f49) = true := by kernel_rfl
theorem s49_call [Tabs Tryd.prog] {args : List Value} {h : Zx} {Q : Value → Zx → Prop} (hsz : args.length ≤ 13) (hk : aw Tryd.prog 13 s49 (Zu Tryd.prog [.tmp 2] Q) (Zp 0 args) h) : ACall Tryd.prog 49 args h Q :=
  Xm Tryd.func49 rfl (enters_of Tryd.func49 (by kernel_rfl) rfl) rfl rfl (by decide) s49_strip s49_ok hsz hk

/-! 57: planchet order.Chains -/
@[reducible] def q57_0 : SCode := .region [⟨some 2, .assign (.const (.slice none 0 0)), none⟩,
    ⟨some 3, .assign (.const (.int .i64 0)), none⟩]
@[reducible] def q57_1 : SCode := .region [⟨some 15, .move (.tmp 0), none⟩,
    ⟨some 16, .call { callee := .value (.func 64), args := #[.tmp 15], argTypes := #[22] }, none⟩,
    ⟨some 14, .move (.tmp 16), none⟩,
    ⟨some 17, .extract (.tmp 14) 0, none⟩,
    ⟨some 18, .extract (.tmp 14) 1, none⟩,
    ⟨some 4, .alloc 77, none⟩,
    ⟨none, .store 77 (.tmp 4) (.tmp 17), none⟩,
    ⟨some 5, .assign (.tmp 18), none⟩]
@[reducible] def q57_2 : SCode := .region [⟨some 19, .move (.tmp 5), none⟩,
    ⟨some 20, .unOp .not 4 (.tmp 19), none⟩]
@[reducible] def q57_3 : SCode := .region [⟨some 2, .assign (.const (.slice none 0 0)), none⟩,
    ⟨some 3, .assign (.const (.int .i64 2)), none⟩]
@[reducible] def q57_4 : SCode := .region [⟨some 21, .load 77 (.tmp 4), none⟩,
    ⟨some 22, .makeFunc (.func 96) #[] #[.tmp 4], none⟩,
    ⟨some 23, .call { callee := .value (.func 83), args := #[.tmp 21, .tmp 22], argTypes := #[77, 81] }, none⟩,
    ⟨some 6, .assign (.tmp 23), none⟩]
@[reducible] def q57_5 : SCode := .region [⟨some 24, .load 77 (.tmp 4), none⟩,
    ⟨some 25, .call { callee := .value (.func 98), args := #[.tmp 24], argTypes := #[77] }, none⟩,
    ⟨some 26, .binOp .add 3 (.tmp 25) (.const (.int .i64 1)) 3, none⟩,
    ⟨some 27, .makeSlice 22 (.tmp 26) (.tmp 26), none⟩,
    ⟨some 7, .assign (.tmp 27), none⟩]
@[reducible] def q57_6 : SCode := .region [⟨some 28, .load 77 (.tmp 4), none⟩,
    ⟨some 29, .call { callee := .value (.func 98), args := #[.tmp 28], argTypes := #[77] }, none⟩,
    ⟨some 30, .binOp .add 3 (.tmp 29) (.const (.int .i64 1)) 3, none⟩,
    ⟨some 31, .makeSlice 22 (.tmp 30) (.tmp 30), none⟩,
    ⟨some 8, .assign (.tmp 31), none⟩]
@[reducible] def q57_7 : SCode := .region [⟨some 9, .assign (.const (.int .i64 1)), none⟩]
@[reducible] def q57_8 : SCode := .region [⟨some 32, .move (.tmp 9), none⟩,
    ⟨some 33, .load 77 (.tmp 4), none⟩,
    ⟨some 34, .call { callee := .value (.func 98), args := #[.tmp 33], argTypes := #[77] }, none⟩,
    ⟨some 35, .binOp .leq 3 (.tmp 32) (.tmp 34) 3, none⟩]
@[reducible] def q57_10 : SCode := .region [⟨some 38, .move (.tmp 7), none⟩,
    ⟨some 39, .move (.tmp 9), none⟩,
    ⟨some 40, .fieldAddr 77 (.tmp 4) 0, none⟩,
    ⟨some 41, .load 3 (.tmp 40), none⟩,
    ⟨some 42, .binOp .add 3 (.tmp 41) (.const (.int .i64 1)) 3, none⟩,
    ⟨some 43, .indexAddr 22 (.tmp 38) (.tmp 39), none⟩,
    ⟨none, .store 3 (.tmp 43) (.tmp 42), none⟩]
@[reducible] def q57_11 : SCode := .region [⟨some 44, .move (.tmp 6), none⟩,
    ⟨some 45, .call { callee := .builtin .len, args := #[.tmp 44], argTypes := #[22] }, none⟩,
    ⟨some 46, .move (.const (.int .i64 0)), none⟩]
@[reducible] def q57_12 : SCode := .region [⟨some 47, .binOp .lss 3 (.tmp 46) (.tmp 45) 3, none⟩]
@[reducible] def q57_13 : SCode := .region [⟨some 48, .indexAddr 22 (.tmp 44) (.tmp 46), none⟩,
    ⟨some 49, .load 3 (.tmp 48), none⟩,
    ⟨some 11, .assign (.tmp 49), none⟩]
def q57_14 : SCode := .draw [⟨some 50, .move (.tmp 11), none⟩,
    ⟨some 51, .move (.tmp 9), none⟩,
    ⟨some 52, .binOp .andNot 3 (.tmp 50) (.tmp 51) 3, none⟩,
    ⟨some 53, .binOp .eql 3 (.tmp 52) (.const (.int .i64 0)) 3, none⟩,
    ⟨some 54, .move (.tmp 53), none⟩,
    ⟨some 55, .move (.tmp 7), some (54, true)⟩,
    ⟨some 56, .move (.tmp 9), some (54, true)⟩,
    ⟨some 57, .move (.tmp 11), some (54, true)⟩,
    ⟨some 58, .binOp .andNot 3 (.tmp 56) (.tmp 57) 3, some (54, true)⟩,
    ⟨some 59, .indexAddr 22 (.tmp 55) (.tmp 58), some (54, true)⟩,
    ⟨some 60, .load 3 (.tmp 59), some (54, true)⟩,
    ⟨some 61, .binOp .add 3 (.const (.int .i64 1)) (.tmp 60) 3, some (54, true)⟩,
    ⟨some 62, .move (.tmp 7), some (54, true)⟩,
    ⟨some 63, .move (.tmp 9), some (54, true)⟩,
    ⟨some 64, .indexAddr 22 (.tmp 62) (.tmp 63), some (54, true)⟩,
    ⟨some 65, .load 3 (.tmp 64), some (54, true)⟩,
    ⟨some 66, .binOp .lss 3 (.tmp 61) (.tmp 65) 3, some (54, true)⟩,
    ⟨some 67, .pick (.tmp 54) (.tmp 66) (.const (.bool false)), none⟩]
   [[], [], [0, 1], [2], [3], [4], [4], [4], [6, 7, 4], [5, 8, 4], [9, 4], [10, 4], [4], [4], [12, 13, 4], [14, 4], [11, 15, 4], [4, 16]]
@[reducible] def q57_15 : SCode := .region [⟨some 68, .move (.tmp 7), none⟩,
    ⟨some 69, .move (.tmp 9), none⟩,
    ⟨some 70, .move (.tmp 8), none⟩,
    ⟨some 71, .move (.tmp 9), none⟩,
    ⟨some 72, .move (.tmp 7), none⟩,
    ⟨some 73, .move (.tmp 9), none⟩,
    ⟨some 74, .move (.tmp 11), none⟩,
    ⟨some 75, .binOp .andNot 3 (.tmp 73) (.tmp 74) 3, none⟩,
    ⟨some 76, .indexAddr 22 (.tmp 72) (.tmp 75), none⟩,
    ⟨some 77, .load 3 (.tmp 76), none⟩,
    ⟨some 78, .binOp .add 3 (.const (.int .i64 1)) (.tmp 77) 3, none⟩,
    ⟨some 79, .move (.tmp 11), none⟩,
    ⟨some 80, .indexAddr 22 (.tmp 68) (.tmp 69), none⟩,
    ⟨none, .store 3 (.tmp 80) (.tmp 78), none⟩,
    ⟨some 81, .indexAddr 22 (.tmp 70) (.tmp 71), none⟩,
    ⟨none, .store 3 (.tmp 81) (.tmp 79), none⟩]
@[reducible] def q57_16 : SCode := .region [⟨some 82, .binOp .add 3 (.tmp 46) (.const (.int .i64 1)) 3, none⟩,
    ⟨some 46, .move (.tmp 82), none⟩]
def l57_0 : SCode := (.seq q57_12 (.seq (.cond (.tmp 47) .skip (.exit 2)) (.seq (.block 3 (.seq q57_13 (.seq q57_14 (.cond (.tmp 67) q57_15 .skip)))) q57_16)))
@[reducible] def q57_9 : SCode := .region [⟨some 36, .move (.tmp 9), none⟩,
    ⟨some 37, .binOp .add 3 (.tmp 36) (.const (.int .i64 1)) 3, none⟩,
    ⟨some 9, .assign (.tmp 37), none⟩]
def l57_1 : SCode := (.seq (.seq q57_8 (.cond (.tmp 35) .skip (.exit 0))) (.seq (.block 1 (.seq q57_10 (.seq q57_11 (.block 2 (.loop l57_0))))) q57_9))
@[reducible] def q57_17 : SCode := .region [⟨some 12, .assign (.const (.slice none 0 0)), none⟩]
@[reducible] def q57_18 : SCode := .region [⟨some 83, .load 77 (.tmp 4), none⟩,
    ⟨some 84, .call { callee := .value (.func 98), args := #[.tmp 83], argTypes := #[77] }, none⟩,
    ⟨some 13, .assign (.tmp 84), none⟩]
@[reducible] def q57_19 : SCode := .region [⟨some 85, .move (.tmp 13), none⟩,
    ⟨some 86, .binOp .neq 3 (.tmp 85) (.const (.int .i64 0)) 3, none⟩]
@[reducible] def q57_21 : SCode := .region [⟨some 93, .move (.tmp 12), none⟩,
    ⟨some 94, .move (.tmp 8), none⟩,
    ⟨some 95, .move (.tmp 13), none⟩,
    ⟨some 96, .indexAddr 22 (.tmp 94) (.tmp 95), none⟩,
    ⟨some 97, .load 3 (.tmp 96), none⟩,
    ⟨some 98, .buildSlice 22 1 #[(0, .tmp 97)], none⟩,
    ⟨some 99, .call { callee := .builtin .append, args := #[.tmp 93, .tmp 98], argTypes := #[22, 22] }, none⟩,
    ⟨some 12, .assign (.tmp 99), none⟩]
@[reducible] def q57_20 : SCode := .region [⟨some 87, .move (.tmp 13), none⟩,
    ⟨some 88, .move (.tmp 8), none⟩,
    ⟨some 89, .move (.tmp 13), none⟩,
    ⟨some 90, .indexAddr 22 (.tmp 88) (.tmp 89), none⟩,
    ⟨some 91, .load 3 (.tmp 90), none⟩,
    ⟨some 92, .binOp .andNot 3 (.tmp 87) (.tmp 91) 3, none⟩,
    ⟨some 13, .assign (.tmp 92), none⟩]
def l57_2 : SCode := (.seq (.seq q57_19 (.cond (.tmp 86) .skip (.exit 4))) (.seq (.block 5 q57_21) q57_20))
@[reducible] def q57_22 : SCode := .region [⟨some 100, .move (.tmp 12), none⟩,
    ⟨some 101, .call { callee := .value (.func 99), args := #[.tmp 100], argTypes := #[22] }, none⟩]
@[reducible] def q57_23 : SCode := .region [⟨some 102, .move (.tmp 12), none⟩,
    ⟨some 2, .assign (.tmp 102), none⟩,
    ⟨some 3, .assign (.const (.int .i64 0)), none⟩]
def s57 : SCode := (.seq q57_0 (.seq q57_1 (.seq (.seq q57_2 (.cond (.tmp 20) (.seq q57_3 .ret) .skip)) (.seq q57_4 (.seq q57_5 (.seq q57_6 (.seq (.seq q57_7 (.block 0 (.loop l57_1))) (.seq q57_17 (.seq (.seq q57_18 (.block 4 (.loop l57_2))) (.seq q57_22 (.seq q57_23 .ret)))))))))))
theorem s57_strip : Ye (Yd Tryd.f57) = s57 := by kernel_rfl
theorem s57_ok : Yk 103 (Yd Tryd.f57) = true := by kernel_rfl
/-! 58: planchet order.Ideals -/
@[reducible] def q58_0 : SCode := .region [⟨some 2, .assign (.const (.slice none 0 0)), none⟩,
    ⟨some 3, .assign (.const (.int .i64 0)), none⟩]
@[reducible] def q58_1 : SCode := .region [⟨some 7, .move (.tmp 0), none⟩,
    ⟨some 8, .call { callee := .value (.func 64), args := #[.tmp 7], argTypes := #[22] }, none⟩,
    ⟨some 6, .move (.tmp 8), none⟩,
    ⟨some 9, .extract (.tmp 6) 0, none⟩,
    ⟨some 10, .extract (.tmp 6) 1, none⟩,
    ⟨some 4, .alloc 77, none⟩,
    ⟨none, .store 77 (.tmp 4) (.tmp 9), none⟩,
    ⟨some 5, .assign (.tmp 10), none⟩]
@[reducible] def q58_2 : SCode := .region [⟨some 11, .move (.tmp 5), none⟩,
    ⟨some 12, .unOp .not 4 (.tmp 11), none⟩]
@[reducible] def q58_3 : SCode := .region [⟨some 2, .assign (.const (.slice none 0 0)), none⟩,
    ⟨some 3, .assign (.const (.int .i64 2)), none⟩]
@[reducible] def q58_4 : SCode := .region [⟨some 13, .load 77 (.tmp 4), none⟩,
    ⟨some 14, .makeFunc (.func 100) #[] #[.tmp 4], none⟩,
    ⟨some 15, .call { callee := .value (.func 83), args := #[.tmp 13, .tmp 14], argTypes := #[77, 81] }, none⟩,
    ⟨some 2, .assign (.tmp 15), none⟩,
    ⟨some 3, .assign (.const (.int .i64 0)), none⟩]
def s58 : SCode := (.seq q58_0 (.seq q58_1 (.seq (.seq q58_2 (.cond (.tmp 12) (.seq q58_3 .ret) .skip)) (.seq q58_4 .ret))))
theorem s58_strip : Ye (Yd Tryd.f58) = s58 := by kernel_rfl
theorem s58_ok : Yk 16 (Yd Tryd.f58) = true := by kernel_rfl
theorem s58_call [Tabs Tryd.prog] {args : List Value} {h : Zx} {Q : Value → Zx → Prop} (hsz : args.length ≤ 16) (hk : aw Tryd.prog 16 s58 (Zu Tryd.prog [.tmp 2, .tmp 3] Q) (Zp 0 args) h) : ACall Tryd.prog 58 args h Q :=
  Xm Tryd.func58 rfl (enters_of Tryd.func58 (by kernel_rfl) rfl) rfl rfl (by decide) s58_strip s58_ok hsz hk

/-! 59: planchet planchetref07.Antichain -/
@[reducible] def q59_0 : SCode := .region [⟨some 4, .assign (.const (.bool false)), none⟩]
@[reducible] def q59_1 : SCode := .region [⟨some 5, .move (.tmp 0), none⟩,
    ⟨some 6, .move (.tmp 1), none⟩,
    ⟨some 7, .call { callee := .value (.func 102), args := #[.tmp 5, .tmp 6, .const (.bool true)], argTypes := #[22, 3, 4] }, none⟩,
    ⟨some 4, .assign (.tmp 7), none⟩]
def s59 : SCode := (.seq q59_0 (.seq q59_1 .ret))
theorem s59_strip : Ye (Yd Tryd.f59) = s59 := by kernel_rfl
theorem s59_ok : Yk 8 (Yd Tryd.f59) = true := by kernel_rfl
/-! 83: (planchet order.order).sets -/
@[reducible] def q83_0 : SCode := .region [⟨some 2, .box 77 (.tmp 0), none⟩,
    ⟨some 4, .assign (.const (.slice none 0 0)), none⟩]
@[reducible] def q83_1 : SCode := .region [⟨some 5, .assign (.const (.slice none 0 0)), none⟩]
@[reducible] def q83_2 : SCode := .region [⟨some 7, .load 77 (.tmp 2), none⟩,
    ⟨some 8, .call { callee := .value (.func 98), args := #[.tmp 7], argTypes := #[77] }, none⟩,
    ⟨some 9, .binOp .add 3 (.tmp 8) (.const (.int .i64 1)) 3, none⟩,
    ⟨some 10, .move (.const (.int .i64 0)), none⟩]
@[reducible] def q83_3 : SCode := .region [⟨some 11, .binOp .lss 3 (.tmp 10) (.tmp 9) 3, none⟩]
@[reducible] def q83_4 : SCode := .region [⟨some 12, .move (.tmp 10), none⟩,
    ⟨some 6, .assign (.tmp 12), none⟩]
@[reducible] def q83_5 : SCode := .region [⟨some 13, .move (.tmp 1), none⟩,
    ⟨some 14, .move (.tmp 6), none⟩,
    ⟨some 15, .call { callee := .value (.tmp 13), args := #[.tmp 14], argTypes := #[3] }, none⟩]
@[reducible] def q83_6 : SCode := .region [⟨some 16, .move (.tmp 5), none⟩,
    ⟨some 17, .move (.tmp 6), none⟩,
    ⟨some 18, .buildSlice 22 1 #[(0, .tmp 17)], none⟩,
    ⟨some 19, .call { callee := .builtin .append, args := #[.tmp 16, .tmp 18], argTypes := #[22, 22] }, none⟩,
    ⟨some 5, .assign (.tmp 19), none⟩]
@[reducible] def q83_7 : SCode := .region [⟨some 20, .binOp .add 3 (.tmp 10) (.const (.int .i64 1)) 3, none⟩,
    ⟨some 10, .move (.tmp 20), none⟩]
def l83_0 : SCode := (.seq q83_3 (.seq (.cond (.tmp 11) .skip (.exit 0)) (.seq (.block 1 (.seq q83_4 (.seq q83_5 (.cond (.tmp 15) q83_6 .skip)))) q83_7)))
@[reducible] def q83_8 : SCode := .region [⟨some 21, .move (.tmp 5), none⟩,
    ⟨some 4, .assign (.tmp 21), none⟩]
def s83 : SCode := (.seq q83_0 (.seq q83_1 (.seq (.seq q83_2 (.block 0 (.loop l83_0))) (.seq q83_8 .ret))))
theorem s83_strip : Ye (Yd Tryd.f83) = s83 := by kernel_rfl
theorem s83_ok : Yk 22 (Yd Tryd.f83) = true := by kernel_rfl
/-! 84: planchet order.Anti$1 -/
@[reducible] def q84_0 : SCode := .region [⟨some 3, .assign (.const (.bool false)), none⟩]
@[reducible] def q84_1 : SCode := .region [⟨some 4, .move (.tmp 0), none⟩,
    ⟨some 5, .load 77 (.tmp 1), none⟩,
    ⟨some 6, .makeFunc (.func 68) #[.tmp 5] #[], none⟩,
    ⟨some 7, .call { callee := .value (.func 85), args := #[.tmp 4, .tmp 6], argTypes := #[3, 82] }, none⟩,
    ⟨some 3, .assign (.tmp 7), none⟩]
def s84 : SCode := (.seq q84_0 (.seq q84_1 .ret))
theorem s84_strip : Ye (Yd Tryd.f84) = s84 := by kernel_rfl
theorem s84_ok : Yk 8 (Yd Tryd.f84) = true := by kernel_rfl
/-! 85: planchet order.pairs -/
@[reducible] def q85_0 : SCode := .region [⟨some 2, .box 3 (.tmp 0), none⟩,
    ⟨some 3, .box 82 (.tmp 1), none⟩,
    ⟨some 4, .alloc 4, none⟩]
@[reducible] def q85_1 : SCode := .region [⟨some 7, .load 3 (.tmp 2), none⟩,
    ⟨some 8, .call { callee := .value (.func 101), args := #[.tmp 7], argTypes := #[3] }, none⟩]
@[reducible] def q85_2 : SCode := .region [⟨some 5, .alloc 3, none⟩,
    ⟨none, .store 3 (.tmp 5) (.tmp 9), none⟩]
def q85_3 : SCode := .draw [⟨some 10, .load 3 (.tmp 2), none⟩,
    ⟨some 11, .load 3 (.tmp 5), none⟩,
    ⟨some 12, .binOp .shl 3 (.const (.int .i64 1)) (.tmp 11) 3, none⟩,
    ⟨some 13, .binOp .sub 3 (.tmp 12) (.const (.int .i64 1)) 3, none⟩,
    ⟨some 14, .binOp .and 3 (.tmp 10) (.tmp 13) 3, none⟩,
    ⟨some 15, .call { callee := .value (.func 101), args := #[.tmp 14], argTypes := #[3] }, none⟩]
   [[], [], [1], [2], [0, 3], [4]]
@[reducible] def q85_4 : SCode := .region [⟨some 6, .assign (.tmp 16), none⟩]
@[reducible] def q85_5 : SCode := .region [⟨some 17, .load 82 (.tmp 3), none⟩,
    ⟨some 18, .load 3 (.tmp 5), none⟩,
    ⟨some 19, .move (.tmp 6), none⟩,
    ⟨some 20, .call { callee := .value (.tmp 17), args := #[.tmp 18, .tmp 19], argTypes := #[3, 3] }, none⟩,
    ⟨some 21, .unOp .not 4 (.tmp 20), none⟩]
@[reducible] def q85_6 : SCode := .region [⟨none, .store 4 (.tmp 4) (.const (.bool false)), none⟩]
def r85_0_a : SCode := q85_4
def r85_0_b : SCode := (.block 3 (.seq q85_5 (.cond (.tmp 21) (.seq q85_6 .ret) .skip)))
def r85_1_a : SCode := q85_2
def r85_1_b : SCode := (.block 1 (.seq q85_3 (.block 2 (.range (.tmp 15) [16] r85_0_a r85_0_b))))
@[reducible] def q85_7 : SCode := .region [⟨none, .store 4 (.tmp 4) (.const (.bool true)), none⟩]
def s85 : SCode := (.seq q85_0 (.seq (.seq q85_1 (.block 0 (.range (.tmp 8) [9] r85_1_a r85_1_b))) (.seq q85_7 .ret)))
theorem s85_strip : Ye (Yd Tryd.f85) = s85 := by kernel_rfl
theorem s85_ok : Yk 22 (Yd Tryd.f85) = true := by kernel_rfl
theorem s85_call [Tabs Tryd.prog] {args : List Value} {h : Zx} {Q : Value → Zx → Prop} (hsz : args.length ≤ 22) (hk : aw Tryd.prog 22 s85 (Zu Tryd.prog [.cell 4 4] Q) (Zp 0 args) h) : ACall Tryd.prog 85 args h Q :=
  Xm Tryd.func85 rfl (enters_of Tryd.func85 (by kernel_rfl) rfl) rfl rfl (by decide) s85_strip s85_ok hsz hk

/-! 86: slices.MinFunc[[]int,int] -/
@[reducible] def q86_0 : SCode := .region [⟨some 4, .assign (.const (.int .i64 0)), none⟩]
@[reducible] def q86_1 : SCode := .region [⟨some 7, .move (.tmp 0), none⟩,
    ⟨some 8, .call { callee := .builtin .len, args := #[.tmp 7], argTypes := #[22] }, none⟩,
    ⟨some 9, .binOp .lss 3 (.tmp 8) (.const (.int .i64 1)) 3, none⟩]
@[reducible] def q86_2 : SCode := .region [⟨some 10, .makeInterface 9 (.const (.string { data := #[115, 108, 105, 99, 101, 115, 46, 77, 105, 110, 70, 117, 110, 99, 58, 32, 101, 109, 112, 116, 121, 32, 108, 105, 115, 116] })), none⟩,
    ⟨none, .panic (.tmp 10), none⟩]
@[reducible] def q86_3 : SCode := .region [⟨some 11, .move (.tmp 0), none⟩,
    ⟨some 12, .indexAddr 22 (.tmp 11) (.const (.int .i64 0)), none⟩,
    ⟨some 13, .load 3 (.tmp 12), none⟩,
    ⟨some 5, .assign (.tmp 13), none⟩]
@[reducible] def q86_4 : SCode := .region [⟨some 6, .assign (.const (.int .i64 1)), none⟩]
@[reducible] def q86_5 : SCode := .region [⟨some 14, .move (.tmp 6), none⟩,
    ⟨some 15, .move (.tmp 0), none⟩,
    ⟨some 16, .call { callee := .builtin .len, args := #[.tmp 15], argTypes := #[22] }, none⟩,
    ⟨some 17, .binOp .lss 3 (.tmp 14) (.tmp 16) 3, none⟩]
@[reducible] def q86_7 : SCode := .region [⟨some 20, .move (.tmp 1), none⟩,
    ⟨some 21, .move (.tmp 0), none⟩,
    ⟨some 22, .move (.tmp 6), none⟩,
    ⟨some 23, .indexAddr 22 (.tmp 21) (.tmp 22), none⟩,
    ⟨some 24, .load 3 (.tmp 23), none⟩,
    ⟨some 25, .move (.tmp 5), none⟩,
    ⟨some 26, .call { callee := .value (.tmp 20), args := #[.tmp 24, .tmp 25], argTypes := #[3, 3] }, none⟩,
    ⟨some 27, .binOp .lss 3 (.tmp 26) (.const (.int .i64 0)) 3, none⟩]
@[reducible] def q86_8 : SCode := .region [⟨some 28, .move (.tmp 0), none⟩,
    ⟨some 29, .move (.tmp 6), none⟩,
    ⟨some 30, .indexAddr 22 (.tmp 28) (.tmp 29), none⟩,
    ⟨some 31, .load 3 (.tmp 30), none⟩,
    ⟨some 5, .assign (.tmp 31), none⟩]
@[reducible] def q86_6 : SCode := .region [⟨some 18, .move (.tmp 6), none⟩,
    ⟨some 19, .binOp .add 3 (.tmp 18) (.const (.int .i64 1)) 3, none⟩,
    ⟨some 6, .assign (.tmp 19), none⟩]
def l86_0 : SCode := (.seq (.seq q86_5 (.cond (.tmp 17) .skip (.exit 0))) (.seq (.block 1 (.seq q86_7 (.cond (.tmp 27) q86_8 .skip))) q86_6))
@[reducible] def q86_9 : SCode := .region [⟨some 32, .move (.tmp 5), none⟩,
    ⟨some 4, .assign (.tmp 32), none⟩]
def s86 : SCode := (.seq q86_0 (.seq (.seq q86_1 (.cond (.tmp 9) q86_2 .skip)) (.seq q86_3 (.seq (.seq q86_4 (.block 0 (.loop l86_0))) (.seq q86_9 .ret)))))
theorem s86_strip : Ye (Yd Tryd.f86) = s86 := by kernel_rfl
theorem s86_ok : Yk 33 (Yd Tryd.f86) = true := by kernel_rfl
/-! 87: planchet order.Anti$2 -/
@[reducible] def q87_0 : SCode := .region [⟨some 4, .assign (.const (.int .i64 0)), none⟩]
@[reducible] def q87_1 : SCode := .region [⟨some 5, .move (.tmp 1), none⟩,
    ⟨some 6, .call { callee := .value (.func 89), args := #[.tmp 5], argTypes := #[3] }, none⟩,
    ⟨some 7, .move (.tmp 0), none⟩,
    ⟨some 8, .call { callee := .value (.func 89), args := #[.tmp 7], argTypes := #[3] }, none⟩,
    ⟨some 9, .binOp .sub 3 (.tmp 6) (.tmp 8) 3, none⟩,
    ⟨some 10, .move (.tmp 0), none⟩,
    ⟨some 11, .move (.tmp 1), none⟩,
    ⟨some 12, .binOp .sub 3 (.tmp 10) (.tmp 11) 3, none⟩,
    ⟨some 13, .buildSlice 22 2 #[(0, .tmp 9), (1, .tmp 12)], none⟩,
    ⟨some 14, .call { callee := .value (.func 88), args := #[.tmp 13], argTypes := #[22] }, none⟩,
    ⟨some 4, .assign (.tmp 14), none⟩]
def s87 : SCode := (.seq q87_0 (.seq q87_1 .ret))
theorem s87_strip : Ye (Yd Tryd.f87) = s87 := by kernel_rfl
theorem s87_ok : Yk 15 (Yd Tryd.f87) = true := by kernel_rfl
/-! 88: cmp.Or[int] -/
@[reducible] def q88_0 : SCode := .region [⟨some 2, .assign (.const (.int .i64 0)), none⟩]
@[reducible] def q88_1 : SCode := .region [⟨some 3, .assign (.const (.int .i64 0)), none⟩]
@[reducible] def q88_2 : SCode := .region [⟨some 6, .move (.tmp 0), none⟩,
    ⟨some 7, .call { callee := .builtin .len, args := #[.tmp 6], argTypes := #[22] }, none⟩,
    ⟨some 8, .move (.const (.int .i64 0)), none⟩]
@[reducible] def q88_3 : SCode := .region [⟨some 9, .binOp .lss 3 (.tmp 8) (.tmp 7) 3, none⟩]
@[reducible] def q88_4 : SCode := .region [⟨some 10, .indexAddr 22 (.tmp 6) (.tmp 8), none⟩,
    ⟨some 11, .load 3 (.tmp 10), none⟩,
    ⟨some 5, .assign (.tmp 11), none⟩]
@[reducible] def q88_5 : SCode := .region [⟨some 12, .move (.tmp 5), none⟩,
    ⟨some 13, .move (.tmp 3), none⟩,
    ⟨some 14, .binOp .neq 3 (.tmp 12) (.tmp 13) 3, none⟩]
@[reducible] def q88_6 : SCode := .region [⟨some 15, .move (.tmp 5), none⟩,
    ⟨some 2, .assign (.tmp 15), none⟩]
@[reducible] def q88_7 : SCode := .region [⟨some 16, .binOp .add 3 (.tmp 8) (.const (.int .i64 1)) 3, none⟩,
    ⟨some 8, .move (.tmp 16), none⟩]
def l88_0 : SCode := (.seq q88_3 (.seq (.cond (.tmp 9) .skip (.exit 0)) (.seq (.block 1 (.seq q88_4 (.seq q88_5 (.cond (.tmp 14) (.seq q88_6 .ret) .skip)))) q88_7)))
@[reducible] def q88_8 : SCode := .region [⟨some 17, .move (.tmp 3), none⟩,
    ⟨some 2, .assign (.tmp 17), none⟩]
def s88 : SCode := (.seq q88_0 (.seq q88_1 (.seq (.seq q88_2 (.block 0 (.loop l88_0))) (.seq q88_8 .ret))))
theorem s88_strip : Ye (Yd Tryd.f88) = s88 := by kernel_rfl
theorem s88_ok : Yk 18 (Yd Tryd.f88) = true := by kernel_rfl
/-! 89: planchet order.count -/
@[reducible] def q89_0 : SCode := .region [⟨some 2, .assign (.const (.int .i64 0)), none⟩]
@[reducible] def q89_1 : SCode := .region [⟨some 3, .move (.tmp 0), none⟩,
    ⟨some 4, .convert 3 29 (.tmp 3), none⟩,
    ⟨some 5, .call { callee := .value (.func 107), args := #[.tmp 4], argTypes := #[29] }, none⟩,
    ⟨some 2, .assign (.tmp 5), none⟩]
def s89 : SCode := (.seq q89_0 (.seq q89_1 .ret))
theorem s89_strip : Ye (Yd Tryd.f89) = s89 := by kernel_rfl
theorem s89_ok : Yk 6 (Yd Tryd.f89) = true := by kernel_rfl
theorem s89_call [Tabs Tryd.prog] {args : List Value} {h : Zx} {Q : Value → Zx → Prop} (hsz : args.length ≤ 6) (hk : aw Tryd.prog 6 s89 (Zu Tryd.prog [.tmp 2] Q) (Zp 0 args) h) : ACall Tryd.prog 89 args h Q :=
  Xm Tryd.func89 rfl (enters_of Tryd.func89 (by kernel_rfl) rfl) rfl rfl (by decide) s89_strip s89_ok hsz hk

/-! 96: planchet order.Chains$1 -/
@[reducible] def q96_0 : SCode := .region [⟨some 3, .assign (.const (.bool false)), none⟩]
@[reducible] def q96_1 : SCode := .region [⟨some 4, .move (.tmp 0), none⟩,
    ⟨some 5, .binOp .gtr 3 (.tmp 4) (.const (.int .i64 0)) 3, none⟩,
    ⟨some 6, .move (.tmp 5), none⟩,
    ⟨some 7, .move (.tmp 0), some (6, true)⟩,
    ⟨some 8, .makeFunc (.func 97) #[] #[.tmp 1], some (6, true)⟩,
    ⟨some 9, .call { callee := .value (.func 85), args := #[.tmp 7, .tmp 8], argTypes := #[3, 82] }, some (6, true)⟩,
    ⟨some 10, .pick (.tmp 6) (.tmp 9) (.const (.bool false)), none⟩,
    ⟨some 3, .assign (.tmp 10), none⟩]
def s96 : SCode := (.seq q96_0 (.seq q96_1 .ret))
theorem s96_strip : Ye (Yd Tryd.f96) = s96 := by kernel_rfl
theorem s96_ok : Yk 11 (Yd Tryd.f96) = true := by kernel_rfl
/-! 97: planchet order.Chains$1$1 -/
@[reducible] def q97_0 : SCode := .region [⟨some 5, .assign (.const (.bool false)), none⟩]
@[reducible] def q97_1 : SCode := .region [⟨some 6, .load 77 (.tmp 2), none⟩,
    ⟨some 7, .move (.tmp 0), none⟩,
    ⟨some 8, .move (.tmp 1), none⟩,
    ⟨some 9, .call { callee := .value (.func 68), args := #[.tmp 6, .tmp 7, .tmp 8], argTypes := #[77, 3, 3] }, none⟩,
    ⟨some 10, .unOp .not 4 (.tmp 9), none⟩,
    ⟨some 5, .assign (.tmp 10), none⟩]
def s97 : SCode := (.seq q97_0 (.seq q97_1 .ret))
theorem s97_strip : Ye (Yd Tryd.f97) = s97 := by kernel_rfl
theorem s97_ok : Yk 11 (Yd Tryd.f97) = true := by kernel_rfl
/-! 100: planchet order.Ideals$1 -/
@[reducible] def q100_0 : SCode := .region [⟨some 2, .box 3 (.tmp 0), none⟩,
    ⟨some 3, .alloc 4, none⟩]
@[reducible] def q100_1 : SCode := .region [⟨some 5, .load 3 (.tmp 2), none⟩,
    ⟨some 6, .call { callee := .value (.func 101), args := #[.tmp 5], argTypes := #[3] }, none⟩]
@[reducible] def q100_2 : SCode := .region [⟨some 4, .assign (.tmp 7), none⟩]
def q100_3 : SCode := .draw [⟨some 8, .load 77 (.tmp 1), none⟩,
    ⟨some 9, .move (.tmp 4), none⟩,
    ⟨some 10, .call { callee := .value (.func 81), args := #[.tmp 8, .tmp 9], argTypes := #[77, 3] }, none⟩,
    ⟨some 11, .load 3 (.tmp 2), none⟩,
    ⟨some 12, .binOp .andNot 3 (.tmp 10) (.tmp 11) 3, none⟩,
    ⟨some 13, .binOp .neq 3 (.tmp 12) (.const (.int .i64 0)) 3, none⟩]
   [[], [], [0, 1], [], [2, 3], [4]]
@[reducible] def q100_4 : SCode := .region [⟨none, .store 4 (.tmp 3) (.const (.bool false)), none⟩]
def r100_0_a : SCode := q100_2
def r100_0_b : SCode := (.block 1 (.seq q100_3 (.cond (.tmp 13) (.seq q100_4 .ret) .skip)))
@[reducible] def q100_5 : SCode := .region [⟨none, .store 4 (.tmp 3) (.const (.bool true)), none⟩]
def s100 : SCode := (.seq q100_0 (.seq (.seq q100_1 (.block 0 (.range (.tmp 6) [7] r100_0_a r100_0_b))) (.seq q100_5 .ret)))
theorem s100_strip : Ye (Yd Tryd.f100) = s100 := by kernel_rfl
theorem s100_ok : Yk 14 (Yd Tryd.f100) = true := by kernel_rfl
theorem s100_call [Tabs Tryd.prog] {args : List Value} {h : Zx} {Q : Value → Zx → Prop} (hsz : args.length ≤ 14) (hk : aw Tryd.prog 14 s100 (Zu Tryd.prog [.cell 3 4] Q) (Zp 0 args) h) : ACall Tryd.prog 100 args h Q :=
  Xm Tryd.func100 rfl (enters_of Tryd.func100 (by kernel_rfl) rfl) rfl rfl (by decide) s100_strip s100_ok hsz hk

/-! 102: planchet planchetref07.uniform -/
@[reducible] def q102_0 : SCode := .region [⟨some 6, .assign (.const (.bool false)), none⟩]
@[reducible] def q102_1 : SCode := .region [⟨some 9, .move (.tmp 0), none⟩,
    ⟨some 10, .call { callee := .builtin .len, args := #[.tmp 9], argTypes := #[22] }, none⟩,
    ⟨some 11, .move (.const (.int .i64 0)), none⟩]
@[reducible] def q102_2 : SCode := .region [⟨some 12, .binOp .lss 3 (.tmp 11) (.tmp 10) 3, none⟩]
@[reducible] def q102_3 : SCode := .region [⟨some 13, .move (.tmp 11), none⟩,
    ⟨some 7, .assign (.tmp 13), none⟩]
@[reducible] def q102_4 : SCode := .region [⟨some 14, .move (.tmp 7), none⟩,
    ⟨some 15, .move (.const (.int .i64 0)), none⟩]
@[reducible] def q102_5 : SCode := .region [⟨some 16, .binOp .lss 3 (.tmp 15) (.tmp 14) 3, none⟩]
@[reducible] def q102_6 : SCode := .region [⟨some 17, .move (.tmp 15), none⟩,
    ⟨some 8, .assign (.tmp 17), none⟩]
@[reducible] def q102_7 : SCode := .region [⟨some 18, .move (.tmp 1), none⟩,
    ⟨some 19, .move (.tmp 7), none⟩,
    ⟨some 20, .binOp .shr 3 (.tmp 18) (.tmp 19) 3, none⟩,
    ⟨some 21, .binOp .and 3 (.tmp 20) (.const (.int .i64 1)) 3, none⟩,
    ⟨some 22, .binOp .eql 3 (.tmp 21) (.const (.int .i64 1)) 3, none⟩,
    ⟨some 23, .move (.tmp 22), none⟩,
    ⟨some 24, .move (.tmp 1), some (23, true)⟩,
    ⟨some 25, .move (.tmp 8), some (23, true)⟩,
    ⟨some 26, .binOp .shr 3 (.tmp 24) (.tmp 25) 3, some (23, true)⟩,
    ⟨some 27, .binOp .and 3 (.tmp 26) (.const (.int .i64 1)) 3, some (23, true)⟩,
    ⟨some 28, .binOp .eql 3 (.tmp 27) (.const (.int .i64 1)) 3, some (23, true)⟩,
    ⟨some 29, .pick (.tmp 23) (.tmp 28) (.const (.bool false)), none⟩,
    ⟨some 30, .move (.tmp 29), none⟩,
    ⟨some 31, .move (.tmp 0), some (30, true)⟩,
    ⟨some 32, .move (.tmp 7), some (30, true)⟩,
    ⟨some 33, .move (.tmp 8), some (30, true)⟩,
    ⟨some 34, .call { callee := .value (.func 22), args := #[.tmp 31, .tmp 32, .tmp 33], argTypes := #[22, 3, 3] }, some (30, true)⟩,
    ⟨some 35, .move (.tmp 2), some (30, true)⟩,
    ⟨some 36, .binOp .neq 4 (.tmp 34) (.tmp 35) 4, some (30, true)⟩,
    ⟨some 37, .pick (.tmp 30) (.tmp 36) (.const (.bool false)), none⟩]
@[reducible] def q102_8 : SCode := .region [⟨some 6, .assign (.const (.bool false)), none⟩]
@[reducible] def q102_9 : SCode := .region [⟨some 38, .binOp .add 3 (.tmp 15) (.const (.int .i64 1)) 3, none⟩,
    ⟨some 15, .move (.tmp 38), none⟩]
def l102_0 : SCode := (.seq q102_5 (.seq (.cond (.tmp 16) .skip (.exit 2)) (.seq (.block 3 (.seq q102_6 (.seq q102_7 (.cond (.tmp 37) (.seq q102_8 .ret) .skip)))) q102_9)))
@[reducible] def q102_10 : SCode := .region [⟨some 39, .binOp .add 3 (.tmp 11) (.const (.int .i64 1)) 3, none⟩,
    ⟨some 11, .move (.tmp 39), none⟩]
def l102_1 : SCode := (.seq q102_2 (.seq (.cond (.tmp 12) .skip (.exit 0)) (.seq (.block 1 (.seq q102_3 (.seq q102_4 (.block 2 (.loop l102_0))))) q102_10)))
@[reducible] def q102_11 : SCode := .region [⟨some 6, .assign (.const (.bool true)), none⟩]
def s102 : SCode := (.seq q102_0 (.seq (.seq q102_1 (.block 0 (.loop l102_1))) (.seq q102_11 .ret)))
theorem s102_strip : Ye (Yd Tryd.f102) = s102 := by kernel_rfl
theorem s102_ok : Yk 40 (Yd Tryd.f102) = true := by kernel_rfl
end Go.Proofs.Tryd.Am

namespace Go.Proofs.Tryd.Am
open Go.Am
set_option maxRecDepth 100000
/-! 99: slices.Sort[[]int,int] -/
@[reducible] def q99_0 : SCode := .region [⟨some 3, .move (.tmp 0), none⟩,
    ⟨some 4, .call { callee := .builtin .len, args := #[.tmp 3], argTypes := #[22] }, none⟩,
    ⟨some 2, .assign (.tmp 4), none⟩]
@[reducible] def q99_1 : SCode := .region [⟨some 5, .move (.tmp 0), none⟩,
    ⟨some 6, .move (.tmp 2), none⟩,
    ⟨some 7, .move (.tmp 2), none⟩,
    ⟨some 8, .convert 3 29 (.tmp 7), none⟩,
    ⟨some 9, .call { callee := .value (.func 108), args := #[.tmp 8], argTypes := #[29] }, none⟩,
    ⟨some 10, .call { callee := .value (.func 113), args := #[.tmp 5, .const (.int .i64 0), .tmp 6, .tmp 9], argTypes := #[22, 3, 3, 3] }, none⟩]
def s99 : SCode := (.seq q99_0 q99_1)
theorem s99_strip : Ye (Yd Tryd.f99) = s99 := by kernel_rfl
theorem s99_ok : Yk 11 (Yd Tryd.f99) = true := by kernel_rfl
/-! 107: math bits.OnesCount -/
@[reducible] def q107_0 : SCode := .region [⟨some 2, .assign (.const (.int .i64 0)), none⟩]
@[reducible] def q107_1 : SCode := .region [⟨some 3, .move (.tmp 0), none⟩,
    ⟨some 4, .convert 29 131 (.tmp 3), none⟩,
    ⟨some 5, .call { callee := .value (.func 116), args := #[.tmp 4], argTypes := #[131] }, none⟩,
    ⟨some 2, .assign (.tmp 5), none⟩]
@[reducible] def q107_2 : SCode := .region [⟨some 6, .move (.tmp 0), none⟩,
    ⟨some 7, .call { callee := .value (.func 117), args := #[.tmp 6], argTypes := #[133] }, none⟩,
    ⟨some 2, .assign (.tmp 7), none⟩]
def s107 : SCode := (.seq q107_0 (.seq (.cond (.const (.bool false)) (.seq q107_1 .ret) .skip) (.seq q107_2 .ret)))
theorem s107_strip : Ye (Yd Tryd.f107) = s107 := by kernel_rfl
theorem s107_ok : Yk 8 (Yd Tryd.f107) = true := by kernel_rfl
theorem s107_call [Tabs Tryd.prog] {args : List Value} {h : Zx} {Q : Value → Zx → Prop} (hsz : args.length ≤ 8) (hk : aw Tryd.prog 8 s107 (Zu Tryd.prog [.tmp 2] Q) (Zp 0 args) h) : ACall Tryd.prog 107 args h Q :=
  Xm Tryd.func107 rfl (enters_of Tryd.func107 (by kernel_rfl) rfl) rfl rfl (by decide) s107_strip s107_ok hsz hk

/-! 108: math bits.Len -/
@[reducible] def q108_0 : SCode := .region [⟨some 2, .assign (.const (.int .i64 0)), none⟩]
@[reducible] def q108_1 : SCode := .region [⟨some 3, .move (.tmp 0), none⟩,
    ⟨some 4, .convert 29 131 (.tmp 3), none⟩,
    ⟨some 5, .call { callee := .value (.func 118), args := #[.tmp 4], argTypes := #[131] }, none⟩,
    ⟨some 2, .assign (.tmp 5), none⟩]
@[reducible] def q108_2 : SCode := .region [⟨some 6, .move (.tmp 0), none⟩,
    ⟨some 7, .call { callee := .value (.func 119), args := #[.tmp 6], argTypes := #[133] }, none⟩,
    ⟨some 2, .assign (.tmp 7), none⟩]
def s108 : SCode := (.seq q108_0 (.seq (.cond (.const (.bool false)) (.seq q108_1 .ret) .skip) (.seq q108_2 .ret)))
theorem s108_strip : Ye (Yd Tryd.f108) = s108 := by kernel_rfl
theorem s108_ok : Yk 8 (Yd Tryd.f108) = true := by kernel_rfl
/-! 113: slices.pdqsortOrdered[int] -/
@[reducible] def q113_0 : SCode := .region [⟨some 8, .assign (.const (.bool true)), none⟩]
@[reducible] def q113_1 : SCode := .region [⟨some 9, .assign (.const (.bool true)), none⟩]
@[reducible] def q113_2 : SCode := .region [⟨some 19, .move (.tmp 2), none⟩,
    ⟨some 20, .move (.tmp 1), none⟩,
    ⟨some 21, .binOp .sub 3 (.tmp 19) (.tmp 20) 3, none⟩,
    ⟨some 10, .assign (.tmp 21), none⟩]
@[reducible] def q113_3 : SCode := .region [⟨some 22, .move (.tmp 10), none⟩,
    ⟨some 23, .binOp .leq 3 (.tmp 22) (.const (.int .i64 12)) 3, none⟩]
@[reducible] def q113_4 : SCode := .region [⟨some 24, .move (.tmp 0), none⟩,
    ⟨some 25, .move (.tmp 1), none⟩,
    ⟨some 26, .move (.tmp 2), none⟩,
    ⟨some 27, .call { callee := .value (.func 123), args := #[.tmp 24, .tmp 25, .tmp 26], argTypes := #[22, 3, 3] }, none⟩]
@[reducible] def q113_5 : SCode := .region [⟨some 28, .move (.tmp 3), none⟩,
    ⟨some 29, .binOp .eql 3 (.tmp 28) (.const (.int .i64 0)) 3, none⟩]
@[reducible] def q113_6 : SCode := .region [⟨some 30, .move (.tmp 0), none⟩,
    ⟨some 31, .move (.tmp 1), none⟩,
    ⟨some 32, .move (.tmp 2), none⟩,
    ⟨some 33, .call { callee := .value (.func 124), args := #[.tmp 30, .tmp 31, .tmp 32], argTypes := #[22, 3, 3] }, none⟩]
@[reducible] def q113_7 : SCode := .region [⟨some 34, .move (.tmp 8), none⟩,
    ⟨some 35, .unOp .not 4 (.tmp 34), none⟩]
@[reducible] def q113_8 : SCode := .region [⟨some 36, .move (.tmp 0), none⟩,
    ⟨some 37, .move (.tmp 1), none⟩,
    ⟨some 38, .move (.tmp 2), none⟩,
    ⟨some 39, .call { callee := .value (.func 125), args := #[.tmp 36, .tmp 37, .tmp 38], argTypes := #[22, 3, 3] }, none⟩]
@[reducible] def q113_9 : SCode := .region [⟨some 40, .move (.tmp 3), none⟩,
    ⟨some 41, .binOp .sub 3 (.tmp 40) (.const (.int .i64 1)) 3, none⟩,
    ⟨some 3, .assign (.tmp 41), none⟩]
@[reducible] def q113_10 : SCode := .region [⟨some 43, .move (.tmp 0), none⟩,
    ⟨some 44, .move (.tmp 1), none⟩,
    ⟨some 45, .move (.tmp 2), none⟩,
    ⟨some 46, .call { callee := .value (.func 126), args := #[.tmp 43, .tmp 44, .tmp 45], argTypes := #[22, 3, 3] }, none⟩,
    ⟨some 42, .move (.tmp 46), none⟩,
    ⟨some 47, .extract (.tmp 42) 0, none⟩,
    ⟨some 48, .extract (.tmp 42) 1, none⟩,
    ⟨some 11, .assign (.tmp 47), none⟩,
    ⟨some 12, .assign (.tmp 48), none⟩]
@[reducible] def q113_11 : SCode := .region [⟨some 49, .move (.tmp 12), none⟩,
    ⟨some 50, .binOp .eql 141 (.tmp 49) (.const (.int .i64 2)) 141, none⟩]
@[reducible] def q113_12 : SCode := .region [⟨some 51, .move (.tmp 0), none⟩,
    ⟨some 52, .move (.tmp 1), none⟩,
    ⟨some 53, .move (.tmp 2), none⟩,
    ⟨some 54, .call { callee := .value (.func 127), args := #[.tmp 51, .tmp 52, .tmp 53], argTypes := #[22, 3, 3] }, none⟩]
@[reducible] def q113_13 : SCode := .region [⟨some 55, .move (.tmp 2), none⟩,
    ⟨some 56, .binOp .sub 3 (.tmp 55) (.const (.int .i64 1)) 3, none⟩,
    ⟨some 57, .move (.tmp 11), none⟩,
    ⟨some 58, .move (.tmp 1), none⟩,
    ⟨some 59, .binOp .sub 3 (.tmp 57) (.tmp 58) 3, none⟩,
    ⟨some 60, .binOp .sub 3 (.tmp 56) (.tmp 59) 3, none⟩,
    ⟨some 11, .assign (.tmp 60), none⟩]
@[reducible] def q113_14 : SCode := .region [⟨some 12, .assign (.const (.int .i64 1)), none⟩]
@[reducible] def q113_15 : SCode := .region [⟨some 61, .move (.tmp 8), none⟩,
    ⟨some 62, .move (.tmp 61), none⟩,
    ⟨some 63, .move (.tmp 9), some (62, true)⟩,
    ⟨some 64, .pick (.tmp 62) (.tmp 63) (.const (.bool false)), none⟩,
    ⟨some 65, .move (.tmp 64), none⟩,
    ⟨some 66, .move (.tmp 12), some (65, true)⟩,
    ⟨some 67, .binOp .eql 141 (.tmp 66) (.const (.int .i64 1)) 141, some (65, true)⟩,
    ⟨some 68, .pick (.tmp 65) (.tmp 67) (.const (.bool false)), none⟩]
@[reducible] def q113_16 : SCode := .region [⟨some 69, .move (.tmp 0), none⟩,
    ⟨some 70, .move (.tmp 1), none⟩,
    ⟨some 71, .move (.tmp 2), none⟩,
    ⟨some 72, .call { callee := .value (.func 128), args := #[.tmp 69, .tmp 70, .tmp 71], argTypes := #[22, 3, 3] }, none⟩]
def q113_17 : SCode := .draw [⟨some 73, .move (.tmp 1), none⟩,
    ⟨some 74, .binOp .gtr 3 (.tmp 73) (.const (.int .i64 0)) 3, none⟩,
    ⟨some 75, .move (.tmp 74), none⟩,
    ⟨some 76, .move (.tmp 0), some (75, true)⟩,
    ⟨some 77, .move (.tmp 1), some (75, true)⟩,
    ⟨some 78, .binOp .sub 3 (.tmp 77) (.const (.int .i64 1)) 3, some (75, true)⟩,
    ⟨some 79, .indexAddr 22 (.tmp 76) (.tmp 78), some (75, true)⟩,
    ⟨some 80, .load 3 (.tmp 79), some (75, true)⟩,
    ⟨some 81, .move (.tmp 0), some (75, true)⟩,
    ⟨some 82, .move (.tmp 11), some (75, true)⟩,
    ⟨some 83, .indexAddr 22 (.tmp 81) (.tmp 82), some (75, true)⟩,
    ⟨some 84, .load 3 (.tmp 83), some (75, true)⟩,
    ⟨some 85, .call { callee := .value (.func 129), args := #[.tmp 80, .tmp 84], argTypes := #[3, 3] }, some (75, true)⟩,
    ⟨some 86, .unOp .not 4 (.tmp 85), some (75, true)⟩,
    ⟨some 87, .pick (.tmp 75) (.tmp 86) (.const (.bool false)), none⟩]
   [[], [0], [1], [2], [2], [4, 2], [3, 5, 2], [6, 2], [2], [2], [8, 9, 2], [10, 2], [7, 11, 2, 2], [12, 2], [2, 13]]
@[reducible] def q113_18 : SCode := .region [⟨some 88, .move (.tmp 0), none⟩,
    ⟨some 89, .move (.tmp 1), none⟩,
    ⟨some 90, .move (.tmp 2), none⟩,
    ⟨some 91, .move (.tmp 11), none⟩,
    ⟨some 92, .call { callee := .value (.func 130), args := #[.tmp 88, .tmp 89, .tmp 90, .tmp 91], argTypes := #[22, 3, 3, 3] }, none⟩,
    ⟨some 13, .assign (.tmp 92), none⟩]
@[reducible] def q113_19 : SCode := .region [⟨some 93, .move (.tmp 13), none⟩,
    ⟨some 1, .assign (.tmp 93), none⟩]
@[reducible] def q113_20 : SCode := .region [⟨some 95, .move (.tmp 0), none⟩,
    ⟨some 96, .move (.tmp 1), none⟩,
    ⟨some 97, .move (.tmp 2), none⟩,
    ⟨some 98, .move (.tmp 11), none⟩,
    ⟨some 99, .call { callee := .value (.func 131), args := #[.tmp 95, .tmp 96, .tmp 97, .tmp 98], argTypes := #[22, 3, 3, 3] }, none⟩,
    ⟨some 94, .move (.tmp 99), none⟩,
    ⟨some 100, .extract (.tmp 94) 0, none⟩,
    ⟨some 101, .extract (.tmp 94) 1, none⟩,
    ⟨some 14, .assign (.tmp 100), none⟩,
    ⟨some 15, .assign (.tmp 101), none⟩]
@[reducible] def q113_21 : SCode := .region [⟨some 102, .move (.tmp 15), none⟩,
    ⟨some 9, .assign (.tmp 102), none⟩]
@[reducible] def q113_22 : SCode := .region [⟨some 103, .move (.tmp 14), none⟩,
    ⟨some 104, .move (.tmp 1), none⟩,
    ⟨some 105, .binOp .sub 3 (.tmp 103) (.tmp 104) 3, none⟩,
    ⟨some 106, .move (.tmp 2), none⟩,
    ⟨some 107, .move (.tmp 14), none⟩,
    ⟨some 108, .binOp .sub 3 (.tmp 106) (.tmp 107) 3, none⟩,
    ⟨some 16, .assign (.tmp 105), none⟩,
    ⟨some 17, .assign (.tmp 108), none⟩]
@[reducible] def q113_23 : SCode := .region [⟨some 109, .move (.tmp 10), none⟩,
    ⟨some 110, .binOp .quo 3 (.tmp 109) (.const (.int .i64 8)) 3, none⟩,
    ⟨some 18, .assign (.tmp 110), none⟩]
@[reducible] def q113_24 : SCode := .region [⟨some 111, .move (.tmp 16), none⟩,
    ⟨some 112, .move (.tmp 17), none⟩,
    ⟨some 113, .binOp .lss 3 (.tmp 111) (.tmp 112) 3, none⟩]
@[reducible] def q113_25 : SCode := .region [⟨some 114, .move (.tmp 16), none⟩,
    ⟨some 115, .move (.tmp 18), none⟩,
    ⟨some 116, .binOp .geq 3 (.tmp 114) (.tmp 115) 3, none⟩,
    ⟨some 8, .assign (.tmp 116), none⟩]
@[reducible] def q113_26 : SCode := .region [⟨some 117, .move (.tmp 0), none⟩,
    ⟨some 118, .move (.tmp 1), none⟩,
    ⟨some 119, .move (.tmp 14), none⟩,
    ⟨some 120, .move (.tmp 3), none⟩,
    ⟨some 121, .call { callee := .value (.func 113), args := #[.tmp 117, .tmp 118, .tmp 119, .tmp 120], argTypes := #[22, 3, 3, 3] }, none⟩]
@[reducible] def q113_27 : SCode := .region [⟨some 122, .move (.tmp 14), none⟩,
    ⟨some 123, .binOp .add 3 (.tmp 122) (.const (.int .i64 1)) 3, none⟩,
    ⟨some 1, .assign (.tmp 123), none⟩]
@[reducible] def q113_28 : SCode := .region [⟨some 124, .move (.tmp 17), none⟩,
    ⟨some 125, .move (.tmp 18), none⟩,
    ⟨some 126, .binOp .geq 3 (.tmp 124) (.tmp 125) 3, none⟩,
    ⟨some 8, .assign (.tmp 126), none⟩]
@[reducible] def q113_29 : SCode := .region [⟨some 127, .move (.tmp 0), none⟩,
    ⟨some 128, .move (.tmp 14), none⟩,
    ⟨some 129, .binOp .add 3 (.tmp 128) (.const (.int .i64 1)) 3, none⟩,
    ⟨some 130, .move (.tmp 2), none⟩,
    ⟨some 131, .move (.tmp 3), none⟩,
    ⟨some 132, .call { callee := .value (.func 113), args := #[.tmp 127, .tmp 129, .tmp 130, .tmp 131], argTypes := #[22, 3, 3, 3] }, none⟩]
@[reducible] def q113_30 : SCode := .region [⟨some 133, .move (.tmp 14), none⟩,
    ⟨some 2, .assign (.tmp 133), none⟩]
def l113_0 : SCode := (.block 1 (.seq q113_2 (.seq (.seq q113_3 (.cond (.tmp 23) (.seq q113_4 .ret) .skip)) (.seq (.seq q113_5 (.cond (.tmp 29) (.seq q113_6 .ret) .skip)) (.seq (.seq q113_7 (.cond (.tmp 35) (.seq q113_8 q113_9) .skip)) (.seq q113_10 (.seq (.seq q113_11 (.cond (.tmp 50) (.seq q113_12 (.seq q113_13 q113_14)) .skip)) (.seq (.seq q113_15 (.cond (.tmp 68) (.seq q113_16 (.cond (.tmp 72) .ret .skip)) .skip)) (.seq (.seq q113_17 (.cond (.tmp 87) (.seq q113_18 (.seq q113_19 (.exit 1))) .skip)) (.seq q113_20 (.seq q113_21 (.seq q113_22 (.seq q113_23 (.seq q113_24 (.cond (.tmp 113) (.seq q113_25 (.seq q113_26 q113_27)) (.seq q113_28 (.seq q113_29 q113_30)))))))))))))))))
def s113 : SCode := (.seq q113_0 (.seq q113_1 (.block 0 (.loop l113_0))))
theorem s113_strip : Ye (Yd Tryd.f113) = s113 := by kernel_rfl
theorem s113_ok : Yk 134 (Yd Tryd.f113) = true := by kernel_rfl
/-! 117: math bits.OnesCount64 -/
@[reducible] def q117_0 : SCode := .region [⟨some 2, .assign (.const (.int .i64 0)), none⟩]
@[reducible] def q117_1 : SCode := .region [⟨some 3, .move (.tmp 0), none⟩,
    ⟨some 4, .binOp .shr 133 (.tmp 3) (.const (.int .u64 1)) 29, none⟩,
    ⟨some 5, .binOp .and 133 (.tmp 4) (.const (.int .u64 6148914691236517205)) 133, none⟩,
    ⟨some 6, .move (.tmp 0), none⟩,
    ⟨some 7, .binOp .and 133 (.tmp 6) (.const (.int .u64 6148914691236517205)) 133, none⟩,
    ⟨some 8, .binOp .add 133 (.tmp 5) (.tmp 7) 133, none⟩,
    ⟨some 0, .assign (.tmp 8), none⟩]
@[reducible] def q117_2 : SCode := .region [⟨some 9, .move (.tmp 0), none⟩,
    ⟨some 10, .binOp .shr 133 (.tmp 9) (.const (.int .u64 2)) 29, none⟩,
    ⟨some 11, .binOp .and 133 (.tmp 10) (.const (.int .u64 3689348814741910323)) 133, none⟩,
    ⟨some 12, .move (.tmp 0), none⟩,
    ⟨some 13, .binOp .and 133 (.tmp 12) (.const (.int .u64 3689348814741910323)) 133, none⟩,
    ⟨some 14, .binOp .add 133 (.tmp 11) (.tmp 13) 133, none⟩,
    ⟨some 0, .assign (.tmp 14), none⟩]
@[reducible] def q117_3 : SCode := .region [⟨some 15, .move (.tmp 0), none⟩,
    ⟨some 16, .binOp .shr 133 (.tmp 15) (.const (.int .u64 4)) 29, none⟩,
    ⟨some 17, .move (.tmp 0), none⟩,
    ⟨some 18, .binOp .add 133 (.tmp 16) (.tmp 17) 133, none⟩,
    ⟨some 19, .binOp .and 133 (.tmp 18) (.const (.int .u64 1085102592571150095)) 133, none⟩,
    ⟨some 0, .assign (.tmp 19), none⟩]
@[reducible] def q117_4 : SCode := .region [⟨some 20, .move (.tmp 0), none⟩,
    ⟨some 21, .move (.tmp 0), none⟩,
    ⟨some 22, .binOp .shr 133 (.tmp 21) (.const (.int .u64 8)) 29, none⟩,
    ⟨some 23, .binOp .add 133 (.tmp 20) (.tmp 22) 133, none⟩,
    ⟨some 0, .assign (.tmp 23), none⟩]
@[reducible] def q117_5 : SCode := .region [⟨some 24, .move (.tmp 0), none⟩,
    ⟨some 25, .move (.tmp 0), none⟩,
    ⟨some 26, .binOp .shr 133 (.tmp 25) (.const (.int .u64 16)) 29, none⟩,
    ⟨some 27, .binOp .add 133 (.tmp 24) (.tmp 26) 133, none⟩,
    ⟨some 0, .assign (.tmp 27), none⟩]
@[reducible] def q117_6 : SCode := .region [⟨some 28, .move (.tmp 0), none⟩,
    ⟨some 29, .move (.tmp 0), none⟩,
    ⟨some 30, .binOp .shr 133 (.tmp 29) (.const (.int .u64 32)) 29, none⟩,
    ⟨some 31, .binOp .add 133 (.tmp 28) (.tmp 30) 133, none⟩,
    ⟨some 0, .assign (.tmp 31), none⟩]
@[reducible] def q117_7 : SCode := .region [⟨some 32, .move (.tmp 0), none⟩,
    ⟨some 33, .convert 133 3 (.tmp 32), none⟩,
    ⟨some 34, .binOp .and 3 (.tmp 33) (.const (.int .i64 127)) 3, none⟩,
    ⟨some 2, .assign (.tmp 34), none⟩]
def s117 : SCode := (.seq q117_0 (.seq q117_1 (.seq q117_2 (.seq q117_3 (.seq q117_4 (.seq q117_5 (.seq q117_6 (.seq q117_7 .ret))))))))
theorem s117_strip : Ye (Yd Tryd.f117) = s117 := by kernel_rfl
theorem s117_ok : Yk 35 (Yd Tryd.f117) = true := by kernel_rfl
theorem s117_call [Tabs Tryd.prog] {args : List Value} {h : Zx} {Q : Value → Zx → Prop} (hsz : args.length ≤ 35) (hk : aw Tryd.prog 35 s117 (Zu Tryd.prog [.tmp 2] Q) (Zp 0 args) h) : ACall Tryd.prog 117 args h Q :=
  Xm Tryd.func117 rfl (enters_of Tryd.func117 (by kernel_rfl) rfl) rfl rfl (by decide) s117_strip s117_ok hsz hk

/-! 119: math bits.Len64 -/
@[reducible] def q119_0 : SCode := .region [⟨some 2, .assign (.const (.int .i64 0)), none⟩]
@[reducible] def q119_1 : SCode := .region [⟨some 3, .move (.tmp 0), none⟩,
    ⟨some 4, .binOp .geq 133 (.tmp 3) (.const (.int .u64 4294967296)) 133, none⟩]
@[reducible] def q119_2 : SCode := .region [⟨some 5, .move (.tmp 0), none⟩,
    ⟨some 6, .binOp .shr 133 (.tmp 5) (.const (.int .u64 32)) 29, none⟩,
    ⟨some 0, .assign (.tmp 6), none⟩]
@[reducible] def q119_3 : SCode := .region [⟨some 2, .assign (.const (.int .i64 32)), none⟩]
@[reducible] def q119_4 : SCode := .region [⟨some 7, .move (.tmp 0), none⟩,
    ⟨some 8, .binOp .geq 133 (.tmp 7) (.const (.int .u64 65536)) 133, none⟩]
@[reducible] def q119_5 : SCode := .region [⟨some 9, .move (.tmp 0), none⟩,
    ⟨some 10, .binOp .shr 133 (.tmp 9) (.const (.int .u64 16)) 29, none⟩,
    ⟨some 0, .assign (.tmp 10), none⟩]
@[reducible] def q119_6 : SCode := .region [⟨some 11, .move (.tmp 2), none⟩,
    ⟨some 12, .binOp .add 3 (.tmp 11) (.const (.int .i64 16)) 3, none⟩,
    ⟨some 2, .assign (.tmp 12), none⟩]
@[reducible] def q119_7 : SCode := .region [⟨some 13, .move (.tmp 0), none⟩,
    ⟨some 14, .binOp .geq 133 (.tmp 13) (.const (.int .u64 256)) 133, none⟩]
@[reducible] def q119_8 : SCode := .region [⟨some 15, .move (.tmp 0), none⟩,
    ⟨some 16, .binOp .shr 133 (.tmp 15) (.const (.int .u64 8)) 29, none⟩,
    ⟨some 0, .assign (.tmp 16), none⟩]
@[reducible] def q119_9 : SCode := .region [⟨some 17, .move (.tmp 2), none⟩,
    ⟨some 18, .binOp .add 3 (.tmp 17) (.const (.int .i64 8)) 3, none⟩,
    ⟨some 2, .assign (.tmp 18), none⟩]
@[reducible] def q119_10 : SCode := .region [⟨some 19, .move (.tmp 2), none⟩,
    ⟨some 20, .move (.tmp 0), none⟩,
    ⟨some 21, .convert 133 5 (.tmp 20), none⟩,
    ⟨some 22, .index 9 (.const (.string { data := #[0, 1, 2, 2, 3, 3, 3, 3, 4, 4, 4, 4, 4, 4, 4, 4, 5, 5, 5, 5, 5, 5, 5, 5, 5, 5, 5, 5, 5, 5, 5, 5, 6, 6, 6, 6, 6, 6, 6, 6, 6, 6, 6, 6, 6, 6, 6, 6, 6, 6, 6, 6, 6, 6, 6, 6, 6, 6, 6, 6, 6, 6, 6, 6, 7, 7, 7, 7, 7, 7, 7, 7, 7, 7, 7, 7, 7, 7, 7, 7, 7, 7, 7, 7, 7, 7, 7, 7, 7, 7, 7, 7, 7, 7, 7, 7, 7, 7, 7, 7, 7, 7, 7, 7, 7, 7, 7, 7, 7, 7, 7, 7, 7, 7, 7, 7, 7, 7, 7, 7, 7, 7, 7, 7, 7, 7, 7, 7, 8, 8, 8, 8, 8, 8, 8, 8, 8, 8, 8, 8, 8, 8, 8, 8, 8, 8, 8, 8, 8, 8, 8, 8, 8, 8, 8, 8, 8, 8, 8, 8, 8, 8, 8, 8, 8, 8, 8, 8, 8, 8, 8, 8, 8, 8, 8, 8, 8, 8, 8, 8, 8, 8, 8, 8, 8, 8, 8, 8, 8, 8, 8, 8, 8, 8, 8, 8, 8, 8, 8, 8, 8, 8, 8, 8, 8, 8, 8, 8, 8, 8, 8, 8, 8, 8, 8, 8, 8, 8, 8, 8, 8, 8, 8, 8, 8, 8, 8, 8, 8, 8, 8, 8, 8, 8, 8, 8, 8, 8, 8, 8, 8, 8, 8, 8, 8, 8, 8, 8, 8, 8, 8, 8, 8, 8, 8, 8] })) (.tmp 21), none⟩,
    ⟨some 23, .convert 5 3 (.tmp 22), none⟩,
    ⟨some 24, .binOp .add 3 (.tmp 19) (.tmp 23) 3, none⟩,
    ⟨some 2, .assign (.tmp 24), none⟩]
def s119 : SCode := (.seq q119_0 (.seq (.seq q119_1 (.cond (.tmp 4) (.seq q119_2 q119_3) .skip)) (.seq (.seq q119_4 (.cond (.tmp 8) (.seq q119_5 q119_6) .skip)) (.seq (.seq q119_7 (.cond (.tmp 14) (.seq q119_8 q119_9) .skip)) (.seq q119_10 .ret)))))
theorem s119_strip : Ye (Yd Tryd.f119) = s119 := by kernel_rfl
theorem s119_ok : Yk 25 (Yd Tryd.f119) = true := by kernel_rfl
/-! 123: slices.insertionSortOrdered[int] -/
@[reducible] def q123_0 : SCode := .region [⟨some 8, .move (.tmp 1), none⟩,
    ⟨some 9, .binOp .add 3 (.tmp 8) (.const (.int .i64 1)) 3, none⟩,
    ⟨some 6, .assign (.tmp 9), none⟩]
@[reducible] def q123_1 : SCode := .region [⟨some 10, .move (.tmp 6), none⟩,
    ⟨some 11, .move (.tmp 2), none⟩,
    ⟨some 12, .binOp .lss 3 (.tmp 10) (.tmp 11) 3, none⟩]
@[reducible] def q123_3 : SCode := .region [⟨some 15, .move (.tmp 6), none⟩,
    ⟨some 7, .assign (.tmp 15), none⟩]
def q123_4 : SCode := .draw [⟨some 16, .move (.tmp 7), none⟩,
    ⟨some 17, .move (.tmp 1), none⟩,
    ⟨some 18, .binOp .gtr 3 (.tmp 16) (.tmp 17) 3, none⟩,
    ⟨some 19, .move (.tmp 18), none⟩,
    ⟨some 20, .move (.tmp 0), some (19, true)⟩,
    ⟨some 21, .move (.tmp 7), some (19, true)⟩,
    ⟨some 22, .indexAddr 22 (.tmp 20) (.tmp 21), some (19, true)⟩,
    ⟨some 23, .load 3 (.tmp 22), some (19, true)⟩,
    ⟨some 24, .move (.tmp 0), some (19, true)⟩,
    ⟨some 25, .move (.tmp 7), some (19, true)⟩,
    ⟨some 26, .binOp .sub 3 (.tmp 25) (.const (.int .i64 1)) 3, some (19, true)⟩,
    ⟨some 27, .indexAddr 22 (.tmp 24) (.tmp 26), some (19, true)⟩,
    ⟨some 28, .load 3 (.tmp 27), some (19, true)⟩,
    ⟨some 29, .call { callee := .value (.func 129), args := #[.tmp 23, .tmp 28], argTypes := #[3, 3] }, some (19, true)⟩,
    ⟨some 30, .pick (.tmp 19) (.tmp 29) (.const (.bool false)), none⟩]
   [[], [], [0, 1], [2], [3], [3], [4, 5, 3], [6, 3], [3], [3], [9, 3], [8, 10, 3], [11, 3], [7, 12, 3, 3], [3, 13]]
def q123_6 : SCode := .draw [⟨some 33, .move (.tmp 0), none⟩,
    ⟨some 34, .move (.tmp 7), none⟩,
    ⟨some 35, .move (.tmp 0), none⟩,
    ⟨some 36, .move (.tmp 7), none⟩,
    ⟨some 37, .binOp .sub 3 (.tmp 36) (.const (.int .i64 1)) 3, none⟩,
    ⟨some 38, .move (.tmp 0), none⟩,
    ⟨some 39, .move (.tmp 7), none⟩,
    ⟨some 40, .binOp .sub 3 (.tmp 39) (.const (.int .i64 1)) 3, none⟩,
    ⟨some 41, .indexAddr 22 (.tmp 38) (.tmp 40), none⟩,
    ⟨some 42, .load 3 (.tmp 41), none⟩,
    ⟨some 43, .move (.tmp 0), none⟩,
    ⟨some 44, .move (.tmp 7), none⟩,
    ⟨some 45, .indexAddr 22 (.tmp 43) (.tmp 44), none⟩,
    ⟨some 46, .load 3 (.tmp 45), none⟩,
    ⟨some 47, .indexAddr 22 (.tmp 33) (.tmp 34), none⟩,
    ⟨none, .store 3 (.tmp 47) (.tmp 42), none⟩,
    ⟨some 48, .indexAddr 22 (.tmp 35) (.tmp 37), none⟩,
    ⟨none, .store 3 (.tmp 48) (.tmp 46), none⟩]
   [[], [], [], [], [3], [], [], [6], [5, 7], [8], [], [], [10, 11], [12], [0, 1, 0, 1, 5, 6, 7, 8, 9, 13], [14, 9, 0, 1, 5, 6, 7, 8, 9, 13], [2, 4, 0, 1, 2, 3, 4, 5, 6, 7, 8, 9, 10, 11, 12, 13, 14, 15], [16, 13, 15, 0, 1, 2, 3, 4, 5, 6, 7, 8, 9, 10, 11, 12, 13, 14, 15]]
@[reducible] def q123_5 : SCode := .region [⟨some 31, .move (.tmp 7), none⟩,
    ⟨some 32, .binOp .sub 3 (.tmp 31) (.const (.int .i64 1)) 3, none⟩,
    ⟨some 7, .assign (.tmp 32), none⟩]
def l123_0 : SCode := (.seq (.seq q123_4 (.cond (.tmp 30) .skip (.exit 2))) (.seq (.block 3 q123_6) q123_5))
@[reducible] def q123_2 : SCode := .region [⟨some 13, .move (.tmp 6), none⟩,
    ⟨some 14, .binOp .add 3 (.tmp 13) (.const (.int .i64 1)) 3, none⟩,
    ⟨some 6, .assign (.tmp 14), none⟩]
def l123_1 : SCode := (.seq (.seq q123_1 (.cond (.tmp 12) .skip (.exit 0))) (.seq (.block 1 (.seq q123_3 (.block 2 (.loop l123_0)))) q123_2))
def s123 : SCode := (.seq q123_0 (.block 0 (.loop l123_1)))
theorem s123_strip : Ye (Yd Tryd.f123) = s123 := by kernel_rfl
theorem s123_ok : Yk 49 (Yd Tryd.f123) = true := by kernel_rfl
/-! 129: cmp.Less[int] -/
@[reducible] def q129_0 : SCode := .region [⟨some 4, .assign (.const (.bool false)), none⟩]
@[reducible] def q129_1 : SCode := .region [⟨some 5, .move (.tmp 0), none⟩,
    ⟨some 6, .call { callee := .value (.func 140), args := #[.tmp 5], argTypes := #[3] }, none⟩,
    ⟨some 7, .move (.tmp 6), none⟩,
    ⟨some 8, .move (.tmp 1), some (7, true)⟩,
    ⟨some 9, .call { callee := .value (.func 140), args := #[.tmp 8], argTypes := #[3] }, some (7, true)⟩,
    ⟨some 10, .unOp .not 4 (.tmp 9), some (7, true)⟩,
    ⟨some 11, .pick (.tmp 7) (.tmp 10) (.const (.bool false)), none⟩,
    ⟨some 12, .move (.tmp 11), none⟩,
    ⟨some 13, .move (.tmp 0), some (12, false)⟩,
    ⟨some 14, .move (.tmp 1), some (12, false)⟩,
    ⟨some 15, .binOp .lss 3 (.tmp 13) (.tmp 14) 3, some (12, false)⟩,
    ⟨some 16, .pick (.tmp 12) (.const (.bool true)) (.tmp 15), none⟩,
    ⟨some 4, .assign (.tmp 16), none⟩]
def s129 : SCode := (.seq q129_0 (.seq q129_1 .ret))
theorem s129_strip : Ye (Yd Tryd.f129) = s129 := by kernel_rfl
theorem s129_ok : Yk 17 (Yd Tryd.f129) = true := by kernel_rfl
/-! 140: cmp.isNaN[int] -/
@[reducible] def q140_0 : SCode := .region [⟨some 2, .assign (.const (.bool false)), none⟩]
@[reducible] def q140_1 : SCode := .region [⟨some 3, .move (.tmp 0), none⟩,
    ⟨some 4, .move (.tmp 0), none⟩,
    ⟨some 5, .binOp .neq 3 (.tmp 3) (.tmp 4) 3, none⟩,
    ⟨some 2, .assign (.tmp 5), none⟩]
def s140 : SCode := (.seq q140_0 (.seq q140_1 .ret))
theorem s140_strip : Ye (Yd Tryd.f140) = s140 := by kernel_rfl
theorem s140_ok : Yk 6 (Yd Tryd.f140) = true := by kernel_rfl
theorem s140_call [Tabs Tryd.prog] {args : List Value} {h : Zx} {Q : Value → Zx → Prop} (hsz : args.length ≤ 6) (hk : aw Tryd.prog 6 s140 (Zu Tryd.prog [.tmp 2] Q) (Zp 0 args) h) : ACall Tryd.prog 140 args h Q :=
  Xm Tryd.func140 rfl (enters_of Tryd.func140 (by kernel_rfl) rfl) rfl rfl (by decide) s140_strip s140_ok hsz hk

end Go.Proofs.Tryd.Am

namespace Go.Proofs.Tryd.Am
open Go.Am Ord
set_option maxRecDepth 100000
set_option maxHeartbeats 1000000

/-! How many elements a set has, as the library counts. -/
def oc1 (x : Int) : Int := addV .u64 (Wg .and .u64 (shrV .u64 x 1) 6148914691236517205) (Wg .and .u64 x 6148914691236517205)
def oc2 (x : Int) : Int := addV .u64 (Wg .and .u64 (shrV .u64 x 2) 3689348814741910323) (Wg .and .u64 x 3689348814741910323)
def oc3 (x : Int) : Int := Wg .and .u64 (addV .u64 (shrV .u64 x 4) x) 1085102592571150095
def oc4 (x : Int) : Int := addV .u64 x (shrV .u64 x 8)
def oc5 (x : Int) : Int := addV .u64 x (shrV .u64 x 16)
def oc6 (x : Int) : Int := addV .u64 x (shrV .u64 x 32)
def ocA (x : Int) : Int := Wg .and .i64 (IntKind.i64.wrap (oc6 (oc5 (oc4 (oc3 (oc2 (oc1 x))))))) 127
theorem oc_tab : (List.range 256).all (fun x => decide (ocA (x : Int) = (((Am.bits x).length : Nat) : Int))) = true := by kernel_rfl
theorem ones_call [Tabs prog] {h : Zx} {x : Nat} (hx : x < 256) : Wv prog 117 [.int .u64 (x : Int)] h (Yb ((Am.bits x).length : Nat)) := by
  have hoc : ocA (x : Int) = (((Am.bits x).length : Nat) : Int) := of_decide_eq_true (List.all_eq_true.1 oc_tab x (List.mem_range.2 hx))
  refine s117_call (by simp) ?_
  simp (maxSteps := 2000000) only [s117, ↓Za, ↓Zj, ↓Zr, ↓Ze, ↓Zl, ↓Zs, ↓Zf, ↓Zm, ↓Zg, ↓Zb, ↓Zc, ↓vdn, vup, Zk, Zo, Zn, Zi, Zh, List.map_cons, List.map_nil, cond_true, cond_false, aop, Zv, Zq, Zp, ev, sput, Zt, Zy, Ya, unK, Zd, Zw, Nat.reduceBEq, Nat.reduceAdd, Int.reduceBEq, Int.reduceBNe, Int.reduceLT, Zu, Zz, tup, tyf, convK, und_133, und_3, Int.reduceLE, true_and]
  exact congrArg (fun z : Int => Yb z) hoc
theorem cntb_call [Tabs prog] {h : Zx} {x : Nat} (hx : x < 256) : Wv prog 89 [Yb x] h (Yb ((Am.bits x).length : Nat)) := by
  have hw : IntKind.u64.wrap ((x : Nat) : Int) = (x : Int) := by simp [IntKind.wrap, IntKind.signed, IntKind.bits]; omega
  refine s89_call (by simp) ?_
  simp (maxSteps := 2000000) only [s89, ↓Za, ↓Zj, ↓Zr, ↓Ze, ↓Zl, ↓Zs, ↓Zf, ↓Zm, ↓Zg, ↓Zb, ↓Zc, ↓vdn, vup, Zk, Zo, Zn, Zi, Zh, List.map_cons, List.map_nil, cond_true, cond_false, aop, Zv, Zq, Zp, ev, sput, Zt, Zy, Ya, unK, Zd, Zw, Nat.reduceBEq, Nat.reduceAdd, Int.reduceBEq, Int.reduceBNe, Int.reduceLT, Zu, Zz, tup, tyf, convK, und_3, und_29, hw, Yr, List.nil_append, List.append_nil, List.toList_toArray, List.cons_append]
  refine s107_call (by simp) ?_
  simp (maxSteps := 2000000) only [s107, ↓Za, ↓Zj, ↓Zr, ↓Ze, ↓Zl, ↓Zs, ↓Zf, ↓Zm, ↓Zg, ↓Zb, ↓Zc, ↓vdn, vup, Zk, Zo, Zn, Zi, Zh, List.map_cons, List.map_nil, cond_true, cond_false, aop, Zv, Zq, Zp, ev, sput, Zt, Zy, Ya, unK, Zd, Zw, Nat.reduceBEq, Nat.reduceAdd, Int.reduceBEq, Int.reduceBNe, Int.reduceLT, Zu, Zz, tup, tyf]
  refine ⟨false, rfl, fun h => (by cases h), fun _ => ?_⟩
  simp (maxSteps := 2000000) only [s107, ↓Za, ↓Zj, ↓Zr, ↓Ze, ↓Zl, ↓Zs, ↓Zf, ↓Zm, ↓Zg, ↓Zb, ↓Zc, ↓vdn, vup, Zk, Zo, Zn, Zi, Zh, List.map_cons, List.map_nil, cond_true, cond_false, aop, Zv, Zq, Zp, ev, sput, Zt, Zy, Ya, unK, Zd, Zw, Nat.reduceBEq, Nat.reduceAdd, Int.reduceBEq, Int.reduceBNe, Int.reduceLT, Zu, Zz, tup, tyf, Yr, List.nil_append, List.append_nil, List.toList_toArray, List.cons_append]
  refine (ones_call hx).mono ?_
  rintro _ h ⟨rfl, rfl⟩
  simp (maxSteps := 2000000) only [s107, ↓Za, ↓Zj, ↓Zr, ↓Ze, ↓Zl, ↓Zs, ↓Zf, ↓Zm, ↓Zg, ↓Zb, ↓Zc, ↓vdn, vup, Zk, Zo, Zn, Zi, Zh, List.map_cons, List.map_nil, cond_true, cond_false, aop, Zv, Zq, Zp, ev, sput, Zt, Zy, Ya, unK, Zd, Zw, Nat.reduceBEq, Nat.reduceAdd, Int.reduceBEq, Int.reduceBNe, Int.reduceLT, Zu, Zz, tup, tyf]

theorem size_call [Tabs prog] {h : Zx} {s : Nat} (hs : s < 9223372036854775808) : Wv prog 49 [Yb s] h (Yb ((Am.bits s).length : Nat)) := by
  refine s49_call (by simp) ?_
  simp (maxSteps := 2000000) only [s49, ↓Za, ↓Zj, ↓Zr, ↓Ze, ↓Zl, ↓Zs, ↓Zf, ↓Zm, ↓Zg, ↓Zb, ↓Zc, ↓vdn, vup, Zk, Zo, Zn, Zi, Zh, List.map_cons, List.map_nil, cond_true, cond_false, aop, Zv, Zq, Zp, ev, sput, Zt, Zy, Ya, unK, Zd, Zw, Nat.reduceBEq, Nat.reduceAdd, Int.reduceBEq, Int.reduceBNe, Int.reduceLT, Zu, Zz, tup, tyf, ↓aw_loop_eq]
  refine Yo fun Q hQ => ?_
  refine aw_loop (γ := Nat × Nat) (fun t => t.1 < 9223372036854775808 ∧ t.2 + (Am.bits t.1).length = (Am.bits s).length)
    (fun t => ([(0, Yb t.1), (3, Yb t.2)], h)) (fun t => t.1) (s, 0) ⟨hs, by simp⟩ (by simp (maxSteps := 2000000) only [↓Za, ↓Zj, ↓Zr, ↓Ze, ↓Zl, ↓Zs, ↓Zf, ↓Zm, ↓Zg, ↓Zb, ↓Zc, ↓vdn, vup, Zk, Zo, Zn, Zi, Zh, List.map_cons, List.map_nil, cond_true, cond_false, aop, Zv, Zq, Zp, ev, sput, Zt, Zy, Ya, unK, Zd, Zw, Nat.reduceBEq, Nat.reduceAdd, Int.reduceBEq, Int.reduceBNe, Int.reduceLT, Zu, Zz, tup, tyf, Int.natCast_zero]) rfl ?_
  rintro ⟨t, m⟩ ⟨ht, hm⟩
  simp only at ht hm
  refine aw_hide fun Q2 hQ2 => ?_
  by_cases h0 : t = 0
  · subst h0
    have hlen : (Am.bits 0).length = 0 := by decide
    have hms : m = (Am.bits s).length := by omega
    simp (maxSteps := 2000000) only [s49, ↓Za, ↓Zj, ↓Zr, ↓Ze, ↓Zl, ↓Zs, ↓Zf, ↓Zm, ↓Zg, ↓Zb, ↓Zc, ↓vdn, vup, Zk, Zo, Zn, Zi, Zh, List.map_cons, List.map_nil, cond_true, cond_false, aop, Zv, Zq, Zp, ev, sput, Zt, Zy, Ya, unK, Zd, Zw, Nat.reduceBEq, Nat.reduceAdd, Int.reduceBEq, Int.reduceBNe, Int.reduceLT, Zu, Zz, tup, tyf, l49_0, Int.natCast_zero, gt_iff_lt, Int.lt_irrefl]
    refine hQ2 _ _ _ (hQ _ _ _ ?_)
    simp (maxSteps := 2000000) only [s49, ↓Za, ↓Zj, ↓Zr, ↓Ze, ↓Zl, ↓Zs, ↓Zf, ↓Zm, ↓Zg, ↓Zb, ↓Zc, ↓vdn, vup, Zk, Zo, Zn, Zi, Zh, List.map_cons, List.map_nil, cond_true, cond_false, aop, Zv, Zq, Zp, ev, sput, Zt, Zy, Ya, unK, Zd, Zw, Nat.reduceBEq, Nat.reduceAdd, Int.reduceBEq, Int.reduceBNe, Int.reduceLT, Zu, Zz, tup, tyf, hms, if_true]
  · have hpos : (0 : Int) < (t : Int) := by omega
    have hstep := bits_step t ht h0
    have hlen : (Am.bits t).length = (Am.bits (t &&& (t - 1))).length + 1 := by rw [hstep]; rfl
    have hle : (Am.bits t).length ≤ 64 := by
      have := List.length_filter_le (fun i => t.testBit i) (List.range 64)
      rw [List.length_range] at this; exact this
    have hle2 : (Am.bits s).length ≤ 64 := by
      have := List.length_filter_le (fun i => s.testBit i) (List.range 64)
      rw [List.length_range] at this; exact this
    have hlt := and_pred_lt t h0
    have hsub : subV .i64 (t : Int) 1 = ((t - 1 : Nat) : Int) := by rw [subV_id (by omega) (by omega)]; omega
    have hand := bitsV_and (a := t) (b := t - 1) ht (by omega)
    simp (maxSteps := 2000000) only [s49, ↓Za, ↓Zj, ↓Zr, ↓Ze, ↓Zl, ↓Zs, ↓Zf, ↓Zm, ↓Zg, ↓Zb, ↓Zc, ↓vdn, vup, Zk, Zo, Zn, Zi, Zh, List.map_cons, List.map_nil, cond_true, cond_false, aop, Zv, Zq, Zp, ev, sput, Zt, Zy, Ya, unK, Zd, Zw, Nat.reduceBEq, Nat.reduceAdd, Int.reduceBEq, Int.reduceBNe, Int.reduceLT, Zu, Zz, tup, tyf, l49_0, hpos, gt_iff_lt, add1 (show m < 9223372036854775807 by omega), hsub, hand]
    exact hQ2 _ _ _ ⟨(t &&& (t - 1), m + 1), ⟨by simp only; omega, by simp only; omega⟩, by simp only; exact hlt, by simp (maxSteps := 2000000) only [↓Za, ↓Zj, ↓Zr, ↓Ze, ↓Zl, ↓Zs, ↓Zf, ↓Zm, ↓Zg, ↓Zb, ↓Zc, ↓vdn, vup, Zk, Zo, Zn, Zi, Zh, List.map_cons, List.map_nil, cond_true, cond_false, aop, Zv, Zq, Zp, ev, sput, Zt, Zy, Ya, unK, Zd, Zw, Nat.reduceBEq, Nat.reduceAdd, Int.reduceBEq, Int.reduceBNe, Int.reduceLT, Zu, Zz, tup, tyf], rfl⟩

end Go.Proofs.Tryd.Am
