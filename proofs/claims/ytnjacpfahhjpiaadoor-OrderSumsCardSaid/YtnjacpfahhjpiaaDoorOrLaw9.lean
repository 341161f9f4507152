/-
  order: OrderSums: right; both chances.
  order: OrderSums: the heights, added.
  order: OrderSums: the end.
  order: the law OrderSums.
-/
import Derived.Test.YtnjacpfahhjpiaaDoorOrLaw5
import Derived.Test.YtnjacpfahhjpiaaDoorSums
import Derived.Test.YtnjacpfahhjpiaaDoorFnE
import Derived.Test.YtnjacpfahhjpiaaDoorAmY
import Derived.Test.YtnjacpfahhjpiaaDoorOrEven2
set_option linter.all false
namespace Go.Proofs.Tryd.Am
open Go.Am Ord
set_option maxRecDepth 100000
set_option maxHeartbeats 1000000

theorem loadC0 {h : Heap} {b : Nat} {u w : Value} {e : TypeId} {ro : Bool} {K : Value → Prop} (hb : h[b]? = some (.cells [u, w] e ro)) : loadK prog h 3 (.pointer (some ⟨b, 0, none⟩)) K = K u := by
  simp only [loadK, shp_3, cellK, hb, List.getElem?_cons_zero]
theorem loadC1 {h : Heap} {b : Nat} {u w : Value} {e : TypeId} {ro : Bool} {K : Value → Prop} (hb : h[b]? = some (.cells [u, w] e ro)) : loadK prog h 3 (.pointer (some ⟨b, 1, none⟩)) K = K w := by
  simp only [loadK, shp_3, cellK, hb, List.getElem?_cons_succ, List.getElem?_cons_zero]

theorem right_call [Tabs prog] {h : Heap} {x y n : Nat} (hy : 1 ≤ y) (hy2 : y ≤ 720) (hn : n ≤ 6) (hx : x ≤ n * y) : APure prog 42 [frV x y, vint n] h (.bool true) := by
  have hny : n * y ≤ 6 * 720 := Nat.mul_le_mul hn hy2
  refine ACall.forget (Low.bool _) ?_
  refine s42_call (by simp) ?_
  have hb : ∀ {K : Value → Heap → Prop}, boxK prog h 37 (frV x y) K = K (newPtr h) (h ++ [.cells [vint x, vint y] 37 false]) := fun {K} => by
    simp [boxK, esz_37, newPtr, cellsOf, frV]
  have c0 := get_new h (Blk.cells [vint (x : Nat), vint (y : Nat)] 37 false)
  have hm : mulV .i64 (n : Int) (y : Int) = ((n * y : Nat) : Int) := by
    rw [mulV_id (by rw [← Int.natCast_mul]; omega) (by rw [← Int.natCast_mul]; omega)]; rfl
  have h1 : (1 : Int) ≤ (y : Int) := by omega
  have h2 : (y : Int) ≤ 720 := by omega
  have h3 : (x : Int) ≤ ((n * y : Nat) : Int) := by omega
  simp (config := {maxSteps := 2000000}) only [s42, ↓aw_region, ↓aw_skip, ↓aw_seq, ↓aw_block, ↓aw_exit, ↓aw_ret, ↓sops_nil, ↓sops_go, ↓dops_nil, ↓dopsX_nil, ↓dopsR_nil, ↓vdn, vup, extr_20, extr_21, extr_30, extr_31, extr_32, List.map_cons, List.map_nil, cond_true, cond_false, aop, aThen, aBlock, argEnv, ev, sput, sputO, binK, binI, unK, builtinK, pickK, Nat.reduceBEq, Nat.reduceAdd, Int.reduceBEq, Int.reduceBNe, Int.reduceLT, aPost, resK, tup, tyf, hb, newPtr, fldA fld_37_1 esz_3, fldA fld_37_0 esz_3, loadC0 c0, loadC1 c0, h1, h2, h3, hm, ge_iff_le]
  exact Ext.app _ _ _

/-- The numbers of fractions: the bounds. -/
theorem frac_small {a c : Nat} (hc : 0 < c) (hc2 : c ≤ 720) (ha : a ≤ c) : num a c ≤ 720 ∧ den a c ≤ 720 ∧ 1 ≤ den a c ∧ num a c ≤ 1 * den a c := by
  have h1 := num_le a c
  have h2 := den_le a c
  exact ⟨by omega, by omega, (red_eq (a := a) hc).2.2.2, red_le hc (by omega)⟩
theorem mulN {a b k : Nat} (h : a * b ≤ k) (hk : k < 9223372036854775808) : mulV .i64 (a : Int) (b : Int) = ((a * b : Nat) : Int) := by
  rw [mulV_id (by rw [← Int.natCast_mul]; omega) (by rw [← Int.natCast_mul]; omega)]; rfl
theorem chanceV_at {o : List Int} (ho : ord o = true) {a b : Nat} (ha : a < o.length) (hb : b < o.length) (hn : a ≠ b) : chanceV o (a : Int) (b : Int) = .tuple #[.agg #[vint (num (befN o a b) (cn o) : Nat), vint (den (befN o a b) (cn o) : Nat)], .int .i64 0] := by
  have e1 : elI o (a : Int) = true := by simp only [elI, Int.natCast_nonneg, decide_true, Bool.true_and, decide_eq_true_eq]; omega
  have e2 : elI o (b : Int) = true := by simp only [elI, Int.natCast_nonneg, decide_true, Bool.true_and, decide_eq_true_eq]; omega
  rw [chanceV, if_pos ⟨ho, e1, e2, by omega⟩]; rfl
theorem heightV_at {o : List Int} (ho : ord o = true) {a : Nat} (ha : a < o.length) : heightV o (a : Int) = .tuple #[.agg #[vint (num (hsum o a) (cn o) : Nat), vint (den (hsum o a) (cn o) : Nat)], .int .i64 0] := by
  have e1 : elI o (a : Int) = true := by simp only [elI, Int.natCast_nonneg, decide_true, Bool.true_and, decide_eq_true_eq]; omega
  rw [heightV, if_pos ⟨ho, e1⟩]; rfl

/-- A list handed on, and the chance of it. -/
theorem listChance [BitTab prog 1] {h : Heap} {v : Value} {o : List Int} (hv : IntSl h v o) (hl : o.length < 9223372036854775808) (hx : ∀ x ∈ o, -9223372036854775808 ≤ x ∧ x < 9223372036854775808) (ho : ord o = true) {a b : Nat} (ha : a < o.length) (hb : b < o.length) (hn : a ≠ b) {K : Value → Heap → Prop}
    (hk : ∀ l h1, Ext (fun _ => False) h h1 → APure prog 25 [l, vint a, vint b] h1 (.tuple #[.agg #[vint (num (befN o a b) (cn o) : Nat), vint (den (befN o a b) (cn o) : Nat)], .int .i64 0]) → K l h1) : ACall prog 18 [v] h K := by
  refine (list_call hv hl).mono ?_
  rintro l h1 ⟨hl1, g, rfl⟩
  refine hk l _ (Ext.app _ _ _) ?_
  rw [ord_take_eq ho] at hl1
  have := chance_call (i := a) (j := b) hl1 hl hx
  rw [chanceV_at ho ha hb hn] at this
  exact this

theorem storeQ {g : Heap} {n : Nat} {p q : Int} (hg : g.length = n) {K : Heap → Prop} : storeK prog (g ++ [Blk.cells [.int .i64 0, .int .i64 0] 37 false]) 37 (.pointer (some ⟨n, 0, none⟩)) (.agg #[vint p, vint q]) K = K ((g ++ [Blk.cells [.int .i64 0, .int .i64 0] 37 false]).set n (.cells [vint p, vint q] 37 false)) := by
  subst hg; exact storeF (get_new _ _) rfl
/-- The box of a fraction, laid behind. -/
theorem frBox (g : Heap) (p q : Int) : ((g ++ [Blk.cells [.int .i64 0, .int .i64 0] 37 false]).set g.length (.cells [vint p, vint q] 37 false))[g.length]? = some (.cells [vint p, vint q] 37 false) ∧ Ext (fun _ => False) g ((g ++ [Blk.cells [.int .i64 0, .int .i64 0] 37 false]).set g.length (.cells [vint p, vint q] 37 false)) :=
  ⟨get_set (by simp) _, by simp, fun i hi _ => by rw [List.getElem?_set_ne (by omega), List.getElem?_append_left hi]⟩

def s9B : SCode := .seq q9_6 (.cond (.tmp 56) (.seq q9_7 (.seq q9_8 (.seq q9_9 (.cond (.tmp 123) (.seq q9_10 .ret) .skip)))) .skip)
theorem sums_pair [BitTab prog 1] {h : Heap} {v : Value} {o : List Int} (hv : IntSl h v o) (hl : o.length < 9223372036854775808) (hx : ∀ x ∈ o, -9223372036854775808 ≤ x ∧ x < 9223372036854775808) (ho : ord o = true) {a b : Nat} (ha : a < o.length) (hb : b < o.length) {Q : Exit → Env → Heap → Prop}
    (hk : ∀ e' h', Ext (fun _ => False) h h' → ELe e' [(0, v), (6, .bool false), (9, vint o.length)] → Q .normal e' h') :
    AWS prog 255 s9B Q [(0, v), (1, vint a), (2, vint b), (6, .bool false), (9, vint o.length)] h := by
  have hlen := ord_len ho
  have hc := cn_720 ho
  have hcp := cn_pos ho
  simp only [s9B]
  refine aws_cut fun N hN => ?_
  simp (config := {maxSteps := 2000000}) only [s9, ↓aw_region, ↓aw_skip, ↓aw_seq, ↓aw_block, ↓aw_exit, ↓aw_ret, ↓sops_nil, ↓sops_go, ↓dops_nil, ↓dopsX_nil, ↓dopsR_nil, ↓vdn, vup, extr_20, extr_21, extr_30, extr_31, extr_32, List.map_cons, List.map_nil, cond_true, cond_false, aop, aThen, aBlock, argEnv, ev, sput, sputO, binK, binI, unK, builtinK, pickK, Nat.reduceBEq, Nat.reduceAdd, Int.reduceBEq, Int.reduceBNe, Int.reduceLT, aPost, resK, tup, tyf]
  refine hN [(0, v), (1, vint a), (2, vint b), (6, .bool false), (9, vint o.length), (56, .bool (((a : Nat) : Int) != ((b : Nat) : Int)))] _ _ ?_ (by simp (config := {maxSteps := 2000000}) only [↓aw_region, ↓aw_skip, ↓aw_seq, ↓aw_block, ↓aw_exit, ↓aw_ret, ↓sops_nil, ↓sops_go, ↓dops_nil, ↓dopsX_nil, ↓dopsR_nil, ↓vdn, vup, extr_20, extr_21, extr_30, extr_31, extr_32, List.map_cons, List.map_nil, cond_true, cond_false, aop, aThen, aBlock, argEnv, ev, sput, sputO, binK, binI, unK, builtinK, pickK, Nat.reduceBEq, Nat.reduceAdd, Int.reduceBEq, Int.reduceBNe, Int.reduceLT, aPost, resK, tup, tyf])
  clear hN N
  refine aws_cond (g := (((a : Nat) : Int) != ((b : Nat) : Int))) (by simp (config := {maxSteps := 2000000}) only [↓aw_region, ↓aw_skip, ↓aw_seq, ↓aw_block, ↓aw_exit, ↓aw_ret, ↓sops_nil, ↓sops_go, ↓dops_nil, ↓dopsX_nil, ↓dopsR_nil, ↓vdn, vup, extr_20, extr_21, extr_30, extr_31, extr_32, List.map_cons, List.map_nil, cond_true, cond_false, aop, aThen, aBlock, argEnv, ev, sput, sputO, binK, binI, unK, builtinK, pickK, Nat.reduceBEq, Nat.reduceAdd, Int.reduceBEq, Int.reduceBNe, Int.reduceLT, aPost, resK, tup, tyf]) (fun hg => ?_) (fun hg => ?_)
  rotate_left
  · refine aw_aws ?_
    simp (config := {maxSteps := 2000000}) only [s9, ↓aw_region, ↓aw_skip, ↓aw_seq, ↓aw_block, ↓aw_exit, ↓aw_ret, ↓sops_nil, ↓sops_go, ↓dops_nil, ↓dopsX_nil, ↓dopsR_nil, ↓vdn, vup, extr_20, extr_21, extr_30, extr_31, extr_32, List.map_cons, List.map_nil, cond_true, cond_false, aop, aThen, aBlock, argEnv, ev, sput, sputO, binK, binI, unK, builtinK, pickK, Nat.reduceBEq, Nat.reduceAdd, Int.reduceBEq, Int.reduceBNe, Int.reduceLT, aPost, resK, tup, tyf]
    exact hk _ _ (Ext.refl _ _) (by simp (config := {maxSteps := 2000000}) only [↓aw_region, ↓aw_skip, ↓aw_seq, ↓aw_block, ↓aw_exit, ↓aw_ret, ↓sops_nil, ↓sops_go, ↓dops_nil, ↓dopsX_nil, ↓dopsR_nil, ↓vdn, vup, extr_20, extr_21, extr_30, extr_31, extr_32, List.map_cons, List.map_nil, cond_true, cond_false, aop, aThen, aBlock, argEnv, ev, sput, sputO, binK, binI, unK, builtinK, pickK, Nat.reduceBEq, Nat.reduceAdd, Int.reduceBEq, Int.reduceBNe, Int.reduceLT, aPost, resK, tup, tyf])
  have hn : a ≠ b := by rintro rfl; simp at hg
  clear hg
  have hbn1 := befN_le ho ha hb hn
  have hbn2 := befN_le ho hb ha (Ne.symm hn)
  obtain ⟨f1, f2, f3, f4⟩ := frac_small hcp hc hbn1
  obtain ⟨g1, g2, g3, g4⟩ := frac_small hcp hc hbn2
  have hs := chance_sum hcp (befN_two ho ha hb hn)
  have hone := (chance_one (p := befN o a b) hcp).trans (befN_all ho ha hb hn)
  obtain ⟨X, hX⟩ : ∃ X, X = num (befN o a b) (cn o) := ⟨_, rfl⟩
  obtain ⟨Y, hY⟩ : ∃ Y, Y = den (befN o a b) (cn o) := ⟨_, rfl⟩
  obtain ⟨X2, hX2⟩ : ∃ X2, X2 = num (befN o b a) (cn o) := ⟨_, rfl⟩
  obtain ⟨Y2, hY2⟩ : ∃ Y2, Y2 = den (befN o b a) (cn o) := ⟨_, rfl⟩
  rw [← hX, ← hY, ← hX2, ← hY2] at hs
  rw [← hX, ← hY] at hone
  rw [← hX] at f1
  rw [← hY] at f2 f3
  rw [← hX, ← hY] at f4
  rw [← hX2] at g1
  rw [← hY2] at g2 g3
  rw [← hX2, ← hY2] at g4
  refine aws_cut fun N hN => ?_
  simp (config := {maxSteps := 2000000}) only [s9, ↓aw_region, ↓aw_skip, ↓aw_seq, ↓aw_block, ↓aw_exit, ↓aw_ret, ↓sops_nil, ↓sops_go, ↓dops_nil, ↓dopsX_nil, ↓dopsR_nil, ↓vdn, vup, extr_20, extr_21, extr_30, extr_31, extr_32, List.map_cons, List.map_nil, cond_true, cond_false, aop, aThen, aBlock, argEnv, ev, sput, sputO, binK, binI, unK, builtinK, pickK, Nat.reduceBEq, Nat.reduceAdd, Int.reduceBEq, Int.reduceBNe, Int.reduceLT, aPost, resK, tup, tyf, callK, List.nil_append, List.append_nil, List.toList_toArray, List.cons_append]
  refine listChance hv hl hx ho ha hb hn fun l1 h1 hE1 hch => ?_
  refine hch.mono ?_
  rintro _ h1 ⟨rfl, rfl⟩
  rw [← hX, ← hY]
  clear hch
  obtain ⟨c1, hE2⟩ := frBox h1 X Y
  simp (config := {maxSteps := 2000000}) only [s9, ↓aw_region, ↓aw_skip, ↓aw_seq, ↓aw_block, ↓aw_exit, ↓aw_ret, ↓sops_nil, ↓sops_go, ↓dops_nil, ↓dopsX_nil, ↓dopsR_nil, ↓vdn, vup, extr_20, extr_21, extr_30, extr_31, extr_32, List.map_cons, List.map_nil, cond_true, cond_false, aop, aThen, aBlock, argEnv, ev, sput, sputO, binK, binI, unK, builtinK, pickK, Nat.reduceBEq, Nat.reduceAdd, Int.reduceBEq, Int.reduceBNe, Int.reduceLT, aPost, resK, tup, tyf, allocK, newPtr, zero_37, storeQ rfl]
  generalize (h1 ++ [Blk.cells [.int .i64 0, .int .i64 0] 37 false]).set h1.length (.cells [vint X, vint Y] 37 false) = h2 at c1 hE2 ⊢
  generalize h1.length = n1 at c1 ⊢
  replace hE1 := hE1.trans hE2
  refine hN [(0, v), (1, vint a), (2, vint b), (6, .bool false), (9, vint o.length), (10, .pointer (some ⟨n1, 0, none⟩)), (11, .int .i64 0)] _ _ ?_ (by simp (config := {maxSteps := 2000000}) only [↓aw_region, ↓aw_skip, ↓aw_seq, ↓aw_block, ↓aw_exit, ↓aw_ret, ↓sops_nil, ↓sops_go, ↓dops_nil, ↓dopsX_nil, ↓dopsR_nil, ↓vdn, vup, extr_20, extr_21, extr_30, extr_31, extr_32, List.map_cons, List.map_nil, cond_true, cond_false, aop, aThen, aBlock, argEnv, ev, sput, sputO, binK, binI, unK, builtinK, pickK, Nat.reduceBEq, Nat.reduceAdd, Int.reduceBEq, Int.reduceBNe, Int.reduceLT, aPost, resK, tup, tyf])
  clear hN N hE2 h1 l1
  refine aws_cut fun N hN => ?_
  simp (config := {maxSteps := 2000000}) only [s9, ↓aw_region, ↓aw_skip, ↓aw_seq, ↓aw_block, ↓aw_exit, ↓aw_ret, ↓sops_nil, ↓sops_go, ↓dops_nil, ↓dopsX_nil, ↓dopsR_nil, ↓vdn, vup, extr_20, extr_21, extr_30, extr_31, extr_32, List.map_cons, List.map_nil, cond_true, cond_false, aop, aThen, aBlock, argEnv, ev, sput, sputO, binK, binI, unK, builtinK, pickK, Nat.reduceBEq, Nat.reduceAdd, Int.reduceBEq, Int.reduceBNe, Int.reduceLT, aPost, resK, tup, tyf, callK, List.nil_append, List.append_nil, List.toList_toArray, List.cons_append]
  refine listChance (IntSl_ext hv hE1) hl hx ho hb ha (Ne.symm hn) fun l1 h3 hE3 hch => ?_
  refine hch.mono ?_
  rintro _ h3 ⟨rfl, rfl⟩
  rw [← hX2, ← hY2]
  clear hch
  obtain ⟨d1, hE4⟩ := frBox h3 X2 Y2
  have c3 := (hE4.2 _ (get_lt ((hE3.2 _ (get_lt c1) id).trans c1)) id).trans ((hE3.2 _ (get_lt c1) id).trans c1)
  simp (config := {maxSteps := 2000000}) only [s9, ↓aw_region, ↓aw_skip, ↓aw_seq, ↓aw_block, ↓aw_exit, ↓aw_ret, ↓sops_nil, ↓sops_go, ↓dops_nil, ↓dopsX_nil, ↓dopsR_nil, ↓vdn, vup, extr_20, extr_21, extr_30, extr_31, extr_32, List.map_cons, List.map_nil, cond_true, cond_false, aop, aThen, aBlock, argEnv, ev, sput, sputO, binK, binI, unK, builtinK, pickK, Nat.reduceBEq, Nat.reduceAdd, Int.reduceBEq, Int.reduceBNe, Int.reduceLT, aPost, resK, tup, tyf, allocK, newPtr, zero_37, storeQ rfl]
  generalize (h3 ++ [Blk.cells [.int .i64 0, .int .i64 0] 37 false]).set h3.length (.cells [vint X2, vint Y2] 37 false) = h4 at d1 hE4 c3 ⊢
  generalize h3.length = n2 at d1 ⊢
  have hE := (hE1.trans hE3).trans hE4
  refine hN [(0, v), (1, vint a), (2, vint b), (6, .bool false), (9, vint o.length), (10, .pointer (some ⟨n1, 0, none⟩)), (11, .int .i64 0), (12, .pointer (some ⟨n2, 0, none⟩)), (13, .int .i64 0)] _ _ ?_ (by simp (config := {maxSteps := 2000000}) only [↓aw_region, ↓aw_skip, ↓aw_seq, ↓aw_block, ↓aw_exit, ↓aw_ret, ↓sops_nil, ↓sops_go, ↓dops_nil, ↓dopsX_nil, ↓dopsR_nil, ↓vdn, vup, extr_20, extr_21, extr_30, extr_31, extr_32, List.map_cons, List.map_nil, cond_true, cond_false, aop, aThen, aBlock, argEnv, ev, sput, sputO, binK, binI, unK, builtinK, pickK, Nat.reduceBEq, Nat.reduceAdd, Int.reduceBEq, Int.reduceBNe, Int.reduceLT, aPost, resK, tup, tyf])
  clear hN N hE4 hE3 hE1 c1 h3 l1
  have hv4 := IntSl_ext hv hE
  have m1 : mulV .i64 (X : Int) (Y2 : Int) = ((X * Y2 : Nat) : Int) := mulN (Nat.mul_le_mul f1 g2) (by decide)
  have m2 : mulV .i64 (X2 : Int) (Y : Int) = ((X2 * Y : Nat) : Int) := mulN (Nat.mul_le_mul g1 f2) (by decide)
  have m3 : mulV .i64 (Y : Int) (Y2 : Int) = ((Y * Y2 : Nat) : Int) := mulN (Nat.mul_le_mul f2 g2) (by decide)
  have hbd : Y * Y2 ≤ 720 * 720 := Nat.mul_le_mul f2 g2
  have m4 : addV .i64 ((X * Y2 : Nat) : Int) ((X2 * Y : Nat) : Int) = ((Y * Y2 : Nat) : Int) := by rw [addV_id (by omega) (by omega)]; omega
  have hne : ∀ z : Int, (z != z) = false := fun z => bne_self_eq_false _
  have hne2 : ∀ z : Bool, (z != z) = false := fun z => bne_self_eq_false _
  have hxy : ((X : Int) == (Y : Int)) = ab o a b := by
    rw [Bool.eq_iff_iff, beq_iff_eq]
    exact ⟨fun h => hone.1 (by omega), fun h => by have := hone.2 h; omega⟩
  have htb : ((if ab o a b = true then (1 : Int) else 0) == 1) = ab o a b := by cases ab o a b <;> rfl
  have hr1 : ∀ g, APure prog 42 [.agg #[vint (X : Nat), vint (Y : Nat)], .int .i64 1] g (.bool true) := fun g => right_call (n := 1) f3 f2 (by omega) f4
  have hr2 : ∀ g, APure prog 42 [.agg #[vint (X2 : Nat), vint (Y2 : Nat)], .int .i64 1] g (.bool true) := fun g => right_call (n := 1) g3 g2 (by omega) g4
  have e00 : ((0 : Int) != 0) = false := rfl
  refine aws_cut fun N hN => ?_
  refine aw_drawX [(8, 1), (13, 1)] (by kernel_rfl) (by kernel_rfl) (by kernel_rfl) (by kernel_rfl) ?_
  simp (config := {maxSteps := 2000000}) only [s9, ↓aw_region, ↓aw_skip, ↓aw_seq, ↓aw_block, ↓aw_exit, ↓aw_ret, ↓sops_nil, ↓sops_go, ↓dops_nil, ↓dopsX_nil, ↓dopsR_nil, ↓vdn, vup, extr_20, extr_21, extr_30, extr_31, extr_32, List.map_cons, List.map_nil, cond_true, cond_false, aop, aThen, aBlock, argEnv, ev, sput, sputO, binK, binI, unK, builtinK, pickK, Nat.reduceBEq, Nat.reduceAdd, Int.reduceBEq, Int.reduceBNe, Int.reduceLT, aPost, resK, tup, tyf, e00, loadF c3, callK, List.nil_append, List.append_nil, List.toList_toArray, List.cons_append]
  refine ⟨_, _, hr1 _, rfl, ?_⟩
  simp (config := {maxSteps := 2000000}) only [s9, ↓aw_region, ↓aw_skip, ↓aw_seq, ↓aw_block, ↓aw_exit, ↓aw_ret, ↓sops_nil, ↓sops_go, ↓dops_nil, ↓dopsX_nil, ↓dopsR_nil, ↓vdn, vup, extr_20, extr_21, extr_30, extr_31, extr_32, List.map_cons, List.map_nil, cond_true, cond_false, aop, aThen, aBlock, argEnv, ev, sput, sputO, binK, binI, unK, builtinK, pickK, Nat.reduceBEq, Nat.reduceAdd, Int.reduceBEq, Int.reduceBNe, Int.reduceLT, aPost, resK, tup, tyf, loadF d1, callK, List.nil_append, List.append_nil, List.toList_toArray, List.cons_append]
  refine ⟨_, _, hr2 _, rfl, ?_⟩
  simp (config := {maxSteps := 2000000}) only [s9, ↓aw_region, ↓aw_skip, ↓aw_seq, ↓aw_block, ↓aw_exit, ↓aw_ret, ↓sops_nil, ↓sops_go, ↓dops_nil, ↓dopsX_nil, ↓dopsR_nil, ↓vdn, vup, extr_20, extr_21, extr_30, extr_31, extr_32, List.map_cons, List.map_nil, cond_true, cond_false, aop, aThen, aBlock, argEnv, ev, sput, sputO, binK, binI, unK, builtinK, pickK, Nat.reduceBEq, Nat.reduceAdd, Int.reduceBEq, Int.reduceBNe, Int.reduceLT, aPost, resK, tup, tyf, fldA fld_37_1 esz_3, fldA fld_37_0 esz_3, loadC0 c3, loadC1 c3, loadC0 d1, loadC1 d1, m1, m2, m3, m4, hne, hxy, hv4.idx el_22 esz_3 ha, hv4.load shp_3 ha, testO ho ha b, htb, hne2]
  refine hN [(0, v), (6, .bool false), (9, vint o.length), (123, .bool false)] _ _ ?_ (by simp (config := {maxSteps := 2000000}) only [↓aw_region, ↓aw_skip, ↓aw_seq, ↓aw_block, ↓aw_exit, ↓aw_ret, ↓sops_nil, ↓sops_go, ↓dops_nil, ↓dopsX_nil, ↓dopsR_nil, ↓vdn, vup, extr_20, extr_21, extr_30, extr_31, extr_32, List.map_cons, List.map_nil, cond_true, cond_false, aop, aThen, aBlock, argEnv, ev, sput, sputO, binK, binI, unK, builtinK, pickK, Nat.reduceBEq, Nat.reduceAdd, Int.reduceBEq, Int.reduceBNe, Int.reduceLT, aPost, resK, tup, tyf])
  refine aws_false (by simp (config := {maxSteps := 2000000}) only [↓aw_region, ↓aw_skip, ↓aw_seq, ↓aw_block, ↓aw_exit, ↓aw_ret, ↓sops_nil, ↓sops_go, ↓dops_nil, ↓dopsX_nil, ↓dopsR_nil, ↓vdn, vup, extr_20, extr_21, extr_30, extr_31, extr_32, List.map_cons, List.map_nil, cond_true, cond_false, aop, aThen, aBlock, argEnv, ev, sput, sputO, binK, binI, unK, builtinK, pickK, Nat.reduceBEq, Nat.reduceAdd, Int.reduceBEq, Int.reduceBNe, Int.reduceLT, aPost, resK, tup, tyf]) (aw_aws ?_)
  simp (config := {maxSteps := 2000000}) only [s9, ↓aw_region, ↓aw_skip, ↓aw_seq, ↓aw_block, ↓aw_exit, ↓aw_ret, ↓sops_nil, ↓sops_go, ↓dops_nil, ↓dopsX_nil, ↓dopsR_nil, ↓vdn, vup, extr_20, extr_21, extr_30, extr_31, extr_32, List.map_cons, List.map_nil, cond_true, cond_false, aop, aThen, aBlock, argEnv, ev, sput, sputO, binK, binI, unK, builtinK, pickK, Nat.reduceBEq, Nat.reduceAdd, Int.reduceBEq, Int.reduceBNe, Int.reduceLT, aPost, resK, tup, tyf]
  exact hk _ _ hE (by simp (config := {maxSteps := 2000000}) only [↓aw_region, ↓aw_skip, ↓aw_seq, ↓aw_block, ↓aw_exit, ↓aw_ret, ↓sops_nil, ↓sops_go, ↓dops_nil, ↓dopsX_nil, ↓dopsR_nil, ↓vdn, vup, extr_20, extr_21, extr_30, extr_31, extr_32, List.map_cons, List.map_nil, cond_true, cond_false, aop, aThen, aBlock, argEnv, ev, sput, sputO, binK, binI, unK, builtinK, pickK, Nat.reduceBEq, Nat.reduceAdd, Int.reduceBEq, Int.reduceBNe, Int.reduceLT, aPost, resK, tup, tyf])
end Go.Proofs.Tryd.Am

namespace Go.Proofs.Tryd.Am
open Go.Am Ord
set_option maxRecDepth 100000
set_option maxHeartbeats 1000000

/-- A list handed on, and the height of one in it. -/
theorem listHeight [BitTab prog 1] {h : Heap} {v : Value} {o : List Int} (hv : IntSl h v o) (hl : o.length < 9223372036854775808) (hx : ∀ x ∈ o, -9223372036854775808 ≤ x ∧ x < 9223372036854775808) (ho : ord o = true) {a : Nat} (ha : a < o.length) {K : Value → Heap → Prop}
    (hk : ∀ l h1, Ext (fun _ => False) h h1 → APure prog 26 [l, vint a] h1 (.tuple #[.agg #[vint (num (hsum o a) (cn o) : Nat), vint (den (hsum o a) (cn o) : Nat)], .int .i64 0]) → K l h1) : ACall prog 18 [v] h K := by
  refine (list_call hv hl).mono ?_
  rintro l h1 ⟨hl1, g, rfl⟩
  refine hk l _ (Ext.app _ _ _) ?_
  rw [ord_take_eq ho] at hl1
  have := height_call (i := a) hl1 hl hx
  rw [heightV_at ho ha] at this
  exact this

def s9C : SCode := .seq q9_12 (.block 0 (.loop l9_1))
theorem sums_loop [BitTab prog 1] {h : Heap} {v : Value} {o : List Int} (hv : IntSl h v o) (hl : o.length < 9223372036854775808) (hx : ∀ x ∈ o, -9223372036854775808 ≤ x ∧ x < 9223372036854775808) (ho : ord o = true) {Q : Exit → Env → Heap → Prop}
    (hk : ∀ e' h', Ext (fun _ => False) h h' → ELe e' [(0, v), (6, .bool false), (9, vint o.length), (14, vint (num (Ord.hTo o o.length) (cn o) : Nat)), (15, vint (den (Ord.hTo o o.length) (cn o) : Nat))] → Q .normal e' h') :
    AWS prog 255 s9C Q [(0, v), (6, .bool false), (9, vint o.length), (14, .int .i64 0), (15, .int .i64 1)] h := by
  have hlen := ord_len ho
  have hc := cn_720 ho
  have hcp := cn_pos ho
  simp only [s9C]
  refine aws_cut fun N hN => ?_
  simp (config := {maxSteps := 2000000}) only [s9, ↓aw_region, ↓aw_skip, ↓aw_seq, ↓aw_block, ↓aw_exit, ↓aw_ret, ↓sops_nil, ↓sops_go, ↓dops_nil, ↓dopsX_nil, ↓dopsR_nil, ↓vdn, vup, extr_20, extr_21, extr_30, extr_31, extr_32, List.map_cons, List.map_nil, cond_true, cond_false, aop, aThen, aBlock, argEnv, ev, sput, sputO, binK, binI, unK, builtinK, pickK, Nat.reduceBEq, Nat.reduceAdd, Int.reduceBEq, Int.reduceBNe, Int.reduceLT, aPost, resK, tup, tyf]
  refine hN [(0, v), (6, .bool false), (9, vint o.length), (14, .int .i64 0), (15, .int .i64 1), (124, vint o.length), (125, .int .i64 0)] _ _ ?_ (by simp (config := {maxSteps := 2000000}) only [↓aw_region, ↓aw_skip, ↓aw_seq, ↓aw_block, ↓aw_exit, ↓aw_ret, ↓sops_nil, ↓sops_go, ↓dops_nil, ↓dopsX_nil, ↓dopsR_nil, ↓vdn, vup, extr_20, extr_21, extr_30, extr_31, extr_32, List.map_cons, List.map_nil, cond_true, cond_false, aop, aThen, aBlock, argEnv, ev, sput, sputO, binK, binI, unK, builtinK, pickK, Nat.reduceBEq, Nat.reduceAdd, Int.reduceBEq, Int.reduceBNe, Int.reduceLT, aPost, resK, tup, tyf])
  clear hN N
  refine aws_block ?_
  have z1 : num (Ord.hTo o 0) (cn o) = 0 := Nat.zero_div _
  have z2 : den (Ord.hTo o 0) (cn o) = 1 := by
    show cn o / Nat.gcd 0 (cn o) = 1
    rw [Nat.gcd_zero_left]; exact Nat.div_self hcp
  refine aw_loopW (γ := Nat × Heap) (fun s => s.1 ≤ o.length ∧ Ext (fun _ => False) h s.2)
    (fun s => ([(0, v), (6, .bool false), (9, vint o.length), (14, vint (num (Ord.hTo o s.1) (cn o) : Nat)), (15, vint (den (Ord.hTo o s.1) (cn o) : Nat)), (124, vint o.length), (125, vint s.1)], s.2)) (fun s => o.length - s.1) (0, h) ⟨Nat.zero_le _, Ext.refl _ _⟩ (by simp (config := {maxSteps := 2000000}) only [↓aw_region, ↓aw_skip, ↓aw_seq, ↓aw_block, ↓aw_exit, ↓aw_ret, ↓sops_nil, ↓sops_go, ↓dops_nil, ↓dopsX_nil, ↓dopsR_nil, ↓vdn, vup, extr_20, extr_21, extr_30, extr_31, extr_32, List.map_cons, List.map_nil, cond_true, cond_false, aop, aThen, aBlock, argEnv, ev, sput, sputO, binK, binI, unK, builtinK, pickK, Nat.reduceBEq, Nat.reduceAdd, Int.reduceBEq, Int.reduceBNe, Int.reduceLT, aPost, resK, tup, tyf, z1, z2, Int.natCast_zero, Int.natCast_one]) rfl ?_
  rintro ⟨k, hp⟩ ⟨hkl, hE⟩
  simp only at hkl hE
  refine aws_hide fun Q2 hQ2 => ?_
  simp only [l9_1]
  refine aws_cut fun N hN => ?_
  simp (config := {maxSteps := 2000000}) only [s9, ↓aw_region, ↓aw_skip, ↓aw_seq, ↓aw_block, ↓aw_exit, ↓aw_ret, ↓sops_nil, ↓sops_go, ↓dops_nil, ↓dopsX_nil, ↓dopsR_nil, ↓vdn, vup, extr_20, extr_21, extr_30, extr_31, extr_32, List.map_cons, List.map_nil, cond_true, cond_false, aop, aThen, aBlock, argEnv, ev, sput, sputO, binK, binI, unK, builtinK, pickK, Nat.reduceBEq, Nat.reduceAdd, Int.reduceBEq, Int.reduceBNe, Int.reduceLT, aPost, resK, tup, tyf]
  refine hN [(0, v), (6, .bool false), (9, vint o.length), (14, vint (num (Ord.hTo o k) (cn o) : Nat)), (15, vint (den (Ord.hTo o k) (cn o) : Nat)), (124, vint o.length), (125, vint k), (126, .bool (decide (((k : Nat) : Int) < ((o.length : Nat) : Int))))] _ _ ?_ (by simp (config := {maxSteps := 2000000}) only [↓aw_region, ↓aw_skip, ↓aw_seq, ↓aw_block, ↓aw_exit, ↓aw_ret, ↓sops_nil, ↓sops_go, ↓dops_nil, ↓dopsX_nil, ↓dopsR_nil, ↓vdn, vup, extr_20, extr_21, extr_30, extr_31, extr_32, List.map_cons, List.map_nil, cond_true, cond_false, aop, aThen, aBlock, argEnv, ev, sput, sputO, binK, binI, unK, builtinK, pickK, Nat.reduceBEq, Nat.reduceAdd, Int.reduceBEq, Int.reduceBNe, Int.reduceLT, aPost, resK, tup, tyf])
  clear hN N
  by_cases hkn : k < o.length
  rotate_left
  · obtain rfl : k = o.length := by omega
    refine aws_cutW fun N hN => ?_
    refine aws_false (by simp (config := {maxSteps := 2000000}) only [↓aw_region, ↓aw_skip, ↓aw_seq, ↓aw_block, ↓aw_exit, ↓aw_ret, ↓sops_nil, ↓sops_go, ↓dops_nil, ↓dopsX_nil, ↓dopsR_nil, ↓vdn, vup, extr_20, extr_21, extr_30, extr_31, extr_32, List.map_cons, List.map_nil, cond_true, cond_false, aop, aThen, aBlock, argEnv, ev, sput, sputO, binK, binI, unK, builtinK, pickK, Nat.reduceBEq, Nat.reduceAdd, Int.reduceBEq, Int.reduceBNe, Int.reduceLT, aPost, resK, tup, tyf, Int.lt_irrefl, decide_false]) (aw_aws ?_)
    simp (config := {maxSteps := 2000000}) only [s9, ↓aw_region, ↓aw_skip, ↓aw_seq, ↓aw_block, ↓aw_exit, ↓aw_ret, ↓sops_nil, ↓sops_go, ↓dops_nil, ↓dopsX_nil, ↓dopsR_nil, ↓vdn, vup, extr_20, extr_21, extr_30, extr_31, extr_32, List.map_cons, List.map_nil, cond_true, cond_false, aop, aThen, aBlock, argEnv, ev, sput, sputO, binK, binI, unK, builtinK, pickK, Nat.reduceBEq, Nat.reduceAdd, Int.reduceBEq, Int.reduceBNe, Int.reduceLT, aPost, resK, tup, tyf]
    refine hQ2 _ _ _ ?_
    simp only [aThen, aBlock, if_true]
    exact hk _ _ hE (by simp (config := {maxSteps := 2000000}) only [↓aw_region, ↓aw_skip, ↓aw_seq, ↓aw_block, ↓aw_exit, ↓aw_ret, ↓sops_nil, ↓sops_go, ↓dops_nil, ↓dopsX_nil, ↓dopsR_nil, ↓vdn, vup, extr_20, extr_21, extr_30, extr_31, extr_32, List.map_cons, List.map_nil, cond_true, cond_false, aop, aThen, aBlock, argEnv, ev, sput, sputO, binK, binI, unK, builtinK, pickK, Nat.reduceBEq, Nat.reduceAdd, Int.reduceBEq, Int.reduceBNe, Int.reduceLT, aPost, resK, tup, tyf])
  have hki : ((k : Nat) : Int) < ((o.length : Nat) : Int) := by omega
  refine aws_cutW fun N hN => ?_
  refine aws_true (by simp (config := {maxSteps := 2000000}) only [↓aw_region, ↓aw_skip, ↓aw_seq, ↓aw_block, ↓aw_exit, ↓aw_ret, ↓sops_nil, ↓sops_go, ↓dops_nil, ↓dopsX_nil, ↓dopsR_nil, ↓vdn, vup, extr_20, extr_21, extr_30, extr_31, extr_32, List.map_cons, List.map_nil, cond_true, cond_false, aop, aThen, aBlock, argEnv, ev, sput, sputO, binK, binI, unK, builtinK, pickK, Nat.reduceBEq, Nat.reduceAdd, Int.reduceBEq, Int.reduceBNe, Int.reduceLT, aPost, resK, tup, tyf, hki]) (aw_aws ?_)
  simp (config := {maxSteps := 2000000}) only [s9, ↓aw_region, ↓aw_skip, ↓aw_seq, ↓aw_block, ↓aw_exit, ↓aw_ret, ↓sops_nil, ↓sops_go, ↓dops_nil, ↓dopsX_nil, ↓dopsR_nil, ↓vdn, vup, extr_20, extr_21, extr_30, extr_31, extr_32, List.map_cons, List.map_nil, cond_true, cond_false, aop, aThen, aBlock, argEnv, ev, sput, sputO, binK, binI, unK, builtinK, pickK, Nat.reduceBEq, Nat.reduceAdd, Int.reduceBEq, Int.reduceBNe, Int.reduceLT, aPost, resK, tup, tyf]
  refine hN [(0, v), (6, .bool false), (9, vint o.length), (14, vint (num (Ord.hTo o k) (cn o) : Nat)), (15, vint (den (Ord.hTo o k) (cn o) : Nat)), (124, vint o.length), (125, vint k)] _ _ ?_ (by simp (config := {maxSteps := 2000000}) only [↓aw_region, ↓aw_skip, ↓aw_seq, ↓aw_block, ↓aw_exit, ↓aw_ret, ↓sops_nil, ↓sops_go, ↓dops_nil, ↓dopsX_nil, ↓dopsR_nil, ↓vdn, vup, extr_20, extr_21, extr_30, extr_31, extr_32, List.map_cons, List.map_nil, cond_true, cond_false, aop, aThen, aBlock, argEnv, ev, sput, sputO, binK, binI, unK, builtinK, pickK, Nat.reduceBEq, Nat.reduceAdd, Int.reduceBEq, Int.reduceBNe, Int.reduceLT, aPost, resK, tup, tyf])
  clear hN N
  -- the round
  have hsl := hsum_len ho hkn
  have hs6 := hsum_le ho hkn
  have ht6 := Ord.hTo_le ho k (by omega)
  have hT6 : Ord.hTo o k ≤ 25920 := Nat.le_trans ht6 (Nat.le_trans (Nat.mul_le_mul (show k ≤ 6 by omega) (show 6 * cn o ≤ 4320 by omega)) (by decide))
  have hadd := red_add (S := Ord.hTo o k) (T := hsum o k) hcp
  have hTs : Ord.hTo o k + hsum o k = Ord.hTo o (k + 1) := rfl
  rw [hTs] at hadd
  have hx1 := num_le (Ord.hTo o k) (cn o)
  have hx2 := den_le (Ord.hTo o k) (cn o)
  have hx3 := (red_eq (a := Ord.hTo o k) hcp).2.2.2
  have hy1 := num_le (hsum o k) (cn o)
  have hy2 := den_le (hsum o k) (cn o)
  have hy3 := (red_eq (a := hsum o k) hcp).2.2.2
  have hy4 := red_le hcp hsl
  obtain ⟨A, hA⟩ : ∃ A, A = num (Ord.hTo o k) (cn o) := ⟨_, rfl⟩
  obtain ⟨B, hB⟩ : ∃ B, B = den (Ord.hTo o k) (cn o) := ⟨_, rfl⟩
  obtain ⟨X, hX⟩ : ∃ X, X = num (hsum o k) (cn o) := ⟨_, rfl⟩
  obtain ⟨Y, hY⟩ : ∃ Y, Y = den (hsum o k) (cn o) := ⟨_, rfl⟩
  rw [← hA, ← hB, ← hX, ← hY] at hadd
  rw [← hA] at hx1
  rw [← hB] at hx2 hx3
  rw [← hX] at hy1
  rw [← hY] at hy2 hy3
  rw [← hX, ← hY] at hy4
  rw [← hA, ← hB]
  refine aws_cutW fun N hN => ?_
  refine aws_block ?_
  refine aws_cut fun N1 hN1 => ?_
  simp (config := {maxSteps := 2000000}) only [s9, ↓aw_region, ↓aw_skip, ↓aw_seq, ↓aw_block, ↓aw_exit, ↓aw_ret, ↓sops_nil, ↓sops_go, ↓dops_nil, ↓dopsX_nil, ↓dopsR_nil, ↓vdn, vup, extr_20, extr_21, extr_30, extr_31, extr_32, List.map_cons, List.map_nil, cond_true, cond_false, aop, aThen, aBlock, argEnv, ev, sput, sputO, binK, binI, unK, builtinK, pickK, Nat.reduceBEq, Nat.reduceAdd, Int.reduceBEq, Int.reduceBNe, Int.reduceLT, aPost, resK, tup, tyf]
  refine hN1 [(0, v), (6, .bool false), (9, vint o.length), (14, vint A), (15, vint B), (124, vint o.length), (125, vint k), (16, vint k)] _ _ ?_ (by simp (config := {maxSteps := 2000000}) only [↓aw_region, ↓aw_skip, ↓aw_seq, ↓aw_block, ↓aw_exit, ↓aw_ret, ↓sops_nil, ↓sops_go, ↓dops_nil, ↓dopsX_nil, ↓dopsR_nil, ↓vdn, vup, extr_20, extr_21, extr_30, extr_31, extr_32, List.map_cons, List.map_nil, cond_true, cond_false, aop, aThen, aBlock, argEnv, ev, sput, sputO, binK, binI, unK, builtinK, pickK, Nat.reduceBEq, Nat.reduceAdd, Int.reduceBEq, Int.reduceBNe, Int.reduceLT, aPost, resK, tup, tyf])
  clear hN1 N1
  refine aws_cut fun N1 hN1 => ?_
  simp (config := {maxSteps := 2000000}) only [s9, ↓aw_region, ↓aw_skip, ↓aw_seq, ↓aw_block, ↓aw_exit, ↓aw_ret, ↓sops_nil, ↓sops_go, ↓dops_nil, ↓dopsX_nil, ↓dopsR_nil, ↓vdn, vup, extr_20, extr_21, extr_30, extr_31, extr_32, List.map_cons, List.map_nil, cond_true, cond_false, aop, aThen, aBlock, argEnv, ev, sput, sputO, binK, binI, unK, builtinK, pickK, Nat.reduceBEq, Nat.reduceAdd, Int.reduceBEq, Int.reduceBNe, Int.reduceLT, aPost, resK, tup, tyf, callK, List.nil_append, List.append_nil, List.toList_toArray, List.cons_append]
  refine listHeight (IntSl_ext hv hE) hl hx ho hkn fun l1 h1 hE1 hch => ?_
  refine hch.mono ?_
  rintro _ h1 ⟨rfl, rfl⟩
  rw [← hX, ← hY]
  clear hch
  obtain ⟨c1, hE2⟩ := frBox h1 X Y
  simp (config := {maxSteps := 2000000}) only [s9, ↓aw_region, ↓aw_skip, ↓aw_seq, ↓aw_block, ↓aw_exit, ↓aw_ret, ↓sops_nil, ↓sops_go, ↓dops_nil, ↓dopsX_nil, ↓dopsR_nil, ↓vdn, vup, extr_20, extr_21, extr_30, extr_31, extr_32, List.map_cons, List.map_nil, cond_true, cond_false, aop, aThen, aBlock, argEnv, ev, sput, sputO, binK, binI, unK, builtinK, pickK, Nat.reduceBEq, Nat.reduceAdd, Int.reduceBEq, Int.reduceBNe, Int.reduceLT, aPost, resK, tup, tyf, allocK, newPtr, zero_37, storeQ rfl]
  generalize (h1 ++ [Blk.cells [.int .i64 0, .int .i64 0] 37 false]).set h1.length (.cells [vint X, vint Y] 37 false) = h2 at c1 hE2 ⊢
  generalize h1.length = n1 at c1 ⊢
  have hEn := (hE.trans hE1).trans hE2
  refine hN1 [(0, v), (6, .bool false), (9, vint o.length), (14, vint A), (15, vint B), (124, vint o.length), (125, vint k), (17, .pointer (some ⟨n1, 0, none⟩)), (18, .int .i64 0)] _ _ ?_ (by simp (config := {maxSteps := 2000000}) only [↓aw_region, ↓aw_skip, ↓aw_seq, ↓aw_block, ↓aw_exit, ↓aw_ret, ↓sops_nil, ↓sops_go, ↓dops_nil, ↓dopsX_nil, ↓dopsR_nil, ↓vdn, vup, extr_20, extr_21, extr_30, extr_31, extr_32, List.map_cons, List.map_nil, cond_true, cond_false, aop, aThen, aBlock, argEnv, ev, sput, sputO, binK, binI, unK, builtinK, pickK, Nat.reduceBEq, Nat.reduceAdd, Int.reduceBEq, Int.reduceBNe, Int.reduceLT, aPost, resK, tup, tyf])
  clear hN1 N1 hE2 hE1 h1 l1
  have e00 : ((0 : Int) != 0) = false := rfl
  refine aws_cutW fun N1 hN1 => ?_
  refine aws_cut fun N2 hN2 => ?_
  simp (config := {maxSteps := 2000000}) only [s9, ↓aw_region, ↓aw_skip, ↓aw_seq, ↓aw_block, ↓aw_exit, ↓aw_ret, ↓sops_nil, ↓sops_go, ↓dops_nil, ↓dopsX_nil, ↓dopsR_nil, ↓vdn, vup, extr_20, extr_21, extr_30, extr_31, extr_32, List.map_cons, List.map_nil, cond_true, cond_false, aop, aThen, aBlock, argEnv, ev, sput, sputO, binK, binI, unK, builtinK, pickK, Nat.reduceBEq, Nat.reduceAdd, Int.reduceBEq, Int.reduceBNe, Int.reduceLT, aPost, resK, tup, tyf, e00, loadF c1, callK, List.nil_append, List.append_nil, List.toList_toArray, List.cons_append]
  refine (show APure prog 42 [.agg #[vint (X : Nat), vint (Y : Nat)], .int .i64 ((o.length : Nat) : Int)] h2 (.bool true) from right_call hy3 (by omega) hlen.2 hy4).mono ?_
  rintro _ h2 ⟨rfl, rfl⟩
  simp (config := {maxSteps := 2000000}) only [s9, ↓aw_region, ↓aw_skip, ↓aw_seq, ↓aw_block, ↓aw_exit, ↓aw_ret, ↓sops_nil, ↓sops_go, ↓dops_nil, ↓dopsX_nil, ↓dopsR_nil, ↓vdn, vup, extr_20, extr_21, extr_30, extr_31, extr_32, List.map_cons, List.map_nil, cond_true, cond_false, aop, aThen, aBlock, argEnv, ev, sput, sputO, binK, binI, unK, builtinK, pickK, Nat.reduceBEq, Nat.reduceAdd, Int.reduceBEq, Int.reduceBNe, Int.reduceLT, aPost, resK, tup, tyf]
  refine hN2 [(0, v), (6, .bool false), (9, vint o.length), (14, vint A), (15, vint B), (124, vint o.length), (125, vint k), (17, .pointer (some ⟨n1, 0, none⟩)), (142, .bool false)] _ _ ?_ (by simp (config := {maxSteps := 2000000}) only [↓aw_region, ↓aw_skip, ↓aw_seq, ↓aw_block, ↓aw_exit, ↓aw_ret, ↓sops_nil, ↓sops_go, ↓dops_nil, ↓dopsX_nil, ↓dopsR_nil, ↓vdn, vup, extr_20, extr_21, extr_30, extr_31, extr_32, List.map_cons, List.map_nil, cond_true, cond_false, aop, aThen, aBlock, argEnv, ev, sput, sputO, binK, binI, unK, builtinK, pickK, Nat.reduceBEq, Nat.reduceAdd, Int.reduceBEq, Int.reduceBNe, Int.reduceLT, aPost, resK, tup, tyf])
  clear hN2 N2
  refine aws_false (by simp (config := {maxSteps := 2000000}) only [↓aw_region, ↓aw_skip, ↓aw_seq, ↓aw_block, ↓aw_exit, ↓aw_ret, ↓sops_nil, ↓sops_go, ↓dops_nil, ↓dopsX_nil, ↓dopsR_nil, ↓vdn, vup, extr_20, extr_21, extr_30, extr_31, extr_32, List.map_cons, List.map_nil, cond_true, cond_false, aop, aThen, aBlock, argEnv, ev, sput, sputO, binK, binI, unK, builtinK, pickK, Nat.reduceBEq, Nat.reduceAdd, Int.reduceBEq, Int.reduceBNe, Int.reduceLT, aPost, resK, tup, tyf]) (aw_aws ?_)
  simp (config := {maxSteps := 2000000}) only [s9, ↓aw_region, ↓aw_skip, ↓aw_seq, ↓aw_block, ↓aw_exit, ↓aw_ret, ↓sops_nil, ↓sops_go, ↓dops_nil, ↓dopsX_nil, ↓dopsR_nil, ↓vdn, vup, extr_20, extr_21, extr_30, extr_31, extr_32, List.map_cons, List.map_nil, cond_true, cond_false, aop, aThen, aBlock, argEnv, ev, sput, sputO, binK, binI, unK, builtinK, pickK, Nat.reduceBEq, Nat.reduceAdd, Int.reduceBEq, Int.reduceBNe, Int.reduceLT, aPost, resK, tup, tyf]
  refine hN1 [(0, v), (6, .bool false), (9, vint o.length), (14, vint A), (15, vint B), (124, vint o.length), (125, vint k), (17, .pointer (some ⟨n1, 0, none⟩))] _ _ ?_ (by simp (config := {maxSteps := 2000000}) only [↓aw_region, ↓aw_skip, ↓aw_seq, ↓aw_block, ↓aw_exit, ↓aw_ret, ↓sops_nil, ↓sops_go, ↓dops_nil, ↓dopsX_nil, ↓dopsR_nil, ↓vdn, vup, extr_20, extr_21, extr_30, extr_31, extr_32, List.map_cons, List.map_nil, cond_true, cond_false, aop, aThen, aBlock, argEnv, ev, sput, sputO, binK, binI, unK, builtinK, pickK, Nat.reduceBEq, Nat.reduceAdd, Int.reduceBEq, Int.reduceBNe, Int.reduceLT, aPost, resK, tup, tyf])
  clear hN1 N1
  have b1 : A * Y ≤ 25920 * 720 := Nat.mul_le_mul (by omega) (by omega)
  have b2 : X * B ≤ 4320 * 720 := Nat.mul_le_mul (by omega) (by omega)
  have b3 : B * Y ≤ 720 * 720 := Nat.mul_le_mul (by omega) (by omega)
  have m1 : mulV .i64 (A : Int) (Y : Int) = ((A * Y : Nat) : Int) := mulN b1 (by decide)
  have m2 : mulV .i64 (X : Int) (B : Int) = ((X * B : Nat) : Int) := mulN b2 (by decide)
  have m3 : mulV .i64 (B : Int) (Y : Int) = ((B * Y : Nat) : Int) := mulN b3 (by decide)
  have m4 : addV .i64 ((A * Y : Nat) : Int) ((X * B : Nat) : Int) = ((A * Y + X * B : Nat) : Int) := by rw [addV_id (by omega) (by omega)]; rfl
  have hBY : 0 < B * Y := Nat.mul_pos hx3 hy3
  obtain ⟨U, hU⟩ : ∃ U, U = A * Y + X * B := ⟨_, rfl⟩
  obtain ⟨V, hV⟩ : ∃ V, V = B * Y := ⟨_, rfl⟩
  rw [← hU, ← hV] at hadd
  rw [← hU] at m4
  rw [← hV] at m3 b3 hBY
  have hUl : U < 9223372036854775808 := by omega
  have hVl : V < 9223372036854775808 := by omega
  refine aws_cut fun N1 hN1 => ?_
  refine aw_drawX [] (by kernel_rfl) (by kernel_rfl) (by kernel_rfl) (by kernel_rfl) ?_
  simp (config := {maxSteps := 2000000}) only [s9, ↓aw_region, ↓aw_skip, ↓aw_seq, ↓aw_block, ↓aw_exit, ↓aw_ret, ↓sops_nil, ↓sops_go, ↓dops_nil, ↓dopsX_nil, ↓dopsR_nil, ↓vdn, vup, extr_20, extr_21, extr_30, extr_31, extr_32, List.map_cons, List.map_nil, cond_true, cond_false, aop, aThen, aBlock, argEnv, ev, sput, sputO, binK, binI, unK, builtinK, pickK, Nat.reduceBEq, Nat.reduceAdd, Int.reduceBEq, Int.reduceBNe, Int.reduceLT, aPost, resK, tup, tyf, fldA fld_37_1 esz_3, fldA fld_37_0 esz_3, loadC0 c1, loadC1 c1, m1, m2, m3, m4]
  refine hN1 [(0, v), (6, .bool false), (9, vint o.length), (14, vint U), (15, vint V), (124, vint o.length), (125, vint k)] _ _ ?_ (by simp (config := {maxSteps := 2000000}) only [↓aw_region, ↓aw_skip, ↓aw_seq, ↓aw_block, ↓aw_exit, ↓aw_ret, ↓sops_nil, ↓sops_go, ↓dops_nil, ↓dopsX_nil, ↓dopsR_nil, ↓vdn, vup, extr_20, extr_21, extr_30, extr_31, extr_32, List.map_cons, List.map_nil, cond_true, cond_false, aop, aThen, aBlock, argEnv, ev, sput, sputO, binK, binI, unK, builtinK, pickK, Nat.reduceBEq, Nat.reduceAdd, Int.reduceBEq, Int.reduceBNe, Int.reduceLT, aPost, resK, tup, tyf])
  clear hN1 N1 m1 m2 m3 m4 hU b1 b2
  refine aws_cut fun N1 hN1 => ?_
  simp (config := {maxSteps := 2000000}) only [s9, ↓aw_region, ↓aw_skip, ↓aw_seq, ↓aw_block, ↓aw_exit, ↓aw_ret, ↓sops_nil, ↓sops_go, ↓dops_nil, ↓dopsX_nil, ↓dopsR_nil, ↓vdn, vup, extr_20, extr_21, extr_30, extr_31, extr_32, List.map_cons, List.map_nil, cond_true, cond_false, aop, aThen, aBlock, argEnv, ev, sput, sputO, binK, binI, unK, builtinK, pickK, Nat.reduceBEq, Nat.reduceAdd, Int.reduceBEq, Int.reduceBNe, Int.reduceLT, aPost, resK, tup, tyf]
  refine hN1 [(0, v), (6, .bool false), (9, vint o.length), (14, vint U), (15, vint V), (124, vint o.length), (125, vint k), (19, vint U), (20, vint V)] _ _ ?_ (by simp (config := {maxSteps := 2000000}) only [↓aw_region, ↓aw_skip, ↓aw_seq, ↓aw_block, ↓aw_exit, ↓aw_ret, ↓sops_nil, ↓sops_go, ↓dops_nil, ↓dopsX_nil, ↓dopsR_nil, ↓vdn, vup, extr_20, extr_21, extr_30, extr_31, extr_32, List.map_cons, List.map_nil, cond_true, cond_false, aop, aThen, aBlock, argEnv, ev, sput, sputO, binK, binI, unK, builtinK, pickK, Nat.reduceBEq, Nat.reduceAdd, Int.reduceBEq, Int.reduceBNe, Int.reduceLT, aPost, resK, tup, tyf])
  clear hN1 N1
  refine aws_cutW fun N1 hN1 => ?_
  refine aws_block ?_
  refine aw_loopW (γ := Nat × Nat) (fun s => Nat.gcd s.1 s.2 = Nat.gcd U V ∧ s.1 < 9223372036854775808 ∧ s.2 < 9223372036854775808)
    (fun s => ([(0, v), (6, .bool false), (9, vint o.length), (14, vint U), (15, vint V), (124, vint o.length), (125, vint k), (19, vint s.1), (20, vint s.2)], h2)) (fun s => s.2) (U, V) ⟨rfl, hUl, hVl⟩ (by simp (config := {maxSteps := 2000000}) only [↓aw_region, ↓aw_skip, ↓aw_seq, ↓aw_block, ↓aw_exit, ↓aw_ret, ↓sops_nil, ↓sops_go, ↓dops_nil, ↓dopsX_nil, ↓dopsR_nil, ↓vdn, vup, extr_20, extr_21, extr_30, extr_31, extr_32, List.map_cons, List.map_nil, cond_true, cond_false, aop, aThen, aBlock, argEnv, ev, sput, sputO, binK, binI, unK, builtinK, pickK, Nat.reduceBEq, Nat.reduceAdd, Int.reduceBEq, Int.reduceBNe, Int.reduceLT, aPost, resK, tup, tyf]) rfl ?_
  rintro ⟨x, y⟩ ⟨hxy, hx, hy⟩
  simp only at hxy hx hy
  refine aw_aws ?_
  refine aw_hide fun Q3 hQ3 => ?_
  by_cases hy0 : y = 0
  · subst hy0
    have e0 : (((0 : Nat) : Int) != 0) = false := rfl
    rw [Nat.gcd_zero_right] at hxy
    subst hxy
    simp (config := {maxSteps := 2000000}) only [s9, ↓aw_region, ↓aw_skip, ↓aw_seq, ↓aw_block, ↓aw_exit, ↓aw_ret, ↓sops_nil, ↓sops_go, ↓dops_nil, ↓dopsX_nil, ↓dopsR_nil, ↓vdn, vup, extr_20, extr_21, extr_30, extr_31, extr_32, List.map_cons, List.map_nil, cond_true, cond_false, aop, aThen, aBlock, argEnv, ev, sput, sputO, binK, binI, unK, builtinK, pickK, Nat.reduceBEq, Nat.reduceAdd, Int.reduceBEq, Int.reduceBNe, Int.reduceLT, aPost, resK, tup, tyf, l9_0, e0]
    refine hQ3 _ _ _ ?_
    simp only [aThen, aBlock, if_true]
    refine hN1 [(0, v), (6, .bool false), (9, vint o.length), (14, vint U), (15, vint V), (124, vint o.length), (125, vint k), (19, vint (Nat.gcd U V : Nat))] _ _ ?_ (by simp (config := {maxSteps := 2000000}) only [↓aw_region, ↓aw_skip, ↓aw_seq, ↓aw_block, ↓aw_exit, ↓aw_ret, ↓sops_nil, ↓sops_go, ↓dops_nil, ↓dopsX_nil, ↓dopsR_nil, ↓vdn, vup, extr_20, extr_21, extr_30, extr_31, extr_32, List.map_cons, List.map_nil, cond_true, cond_false, aop, aThen, aBlock, argEnv, ev, sput, sputO, binK, binI, unK, builtinK, pickK, Nat.reduceBEq, Nat.reduceAdd, Int.reduceBEq, Int.reduceBNe, Int.reduceLT, aPost, resK, tup, tyf])
    have hg : 0 < Nat.gcd U V := Nat.gcd_pos_of_pos_right U hBY
    have hg0 : ¬ ((Nat.gcd U V : Nat) : Int) = 0 := by omega
    refine aw_aws ?_
    refine aw_drawX [] (by kernel_rfl) (by kernel_rfl) (by kernel_rfl) (by kernel_rfl) ?_
    simp (config := {maxSteps := 2000000}) only [s9, ↓aw_region, ↓aw_skip, ↓aw_seq, ↓aw_block, ↓aw_exit, ↓aw_ret, ↓sops_nil, ↓sops_go, ↓dops_nil, ↓dopsX_nil, ↓dopsR_nil, ↓vdn, vup, extr_20, extr_21, extr_30, extr_31, extr_32, List.map_cons, List.map_nil, cond_true, cond_false, aop, aThen, aBlock, argEnv, ev, sput, sputO, binK, binI, unK, builtinK, pickK, Nat.reduceBEq, Nat.reduceAdd, Int.reduceBEq, Int.reduceBNe, Int.reduceLT, aPost, resK, tup, tyf, ne_eq, hg0, not_false_eq_true, quoN hUl, quoN hVl]
    have q1 : U / Nat.gcd U V = num (Ord.hTo o (k + 1)) (cn o) := hadd.1
    have q2 : V / Nat.gcd U V = den (Ord.hTo o (k + 1)) (cn o) := hadd.2
    rw [q1, q2]
    refine hN [(0, v), (6, .bool false), (9, vint o.length), (14, vint (num (Ord.hTo o (k + 1)) (cn o) : Nat)), (15, vint (den (Ord.hTo o (k + 1)) (cn o) : Nat)), (124, vint o.length), (125, vint k)] _ _ ?_ (by simp (config := {maxSteps := 2000000}) only [↓aw_region, ↓aw_skip, ↓aw_seq, ↓aw_block, ↓aw_exit, ↓aw_ret, ↓sops_nil, ↓sops_go, ↓dops_nil, ↓dopsX_nil, ↓dopsR_nil, ↓vdn, vup, extr_20, extr_21, extr_30, extr_31, extr_32, List.map_cons, List.map_nil, cond_true, cond_false, aop, aThen, aBlock, argEnv, ev, sput, sputO, binK, binI, unK, builtinK, pickK, Nat.reduceBEq, Nat.reduceAdd, Int.reduceBEq, Int.reduceBNe, Int.reduceLT, aPost, resK, tup, tyf])
    refine aw_aws ?_
    simp (config := {maxSteps := 2000000}) only [s9, ↓aw_region, ↓aw_skip, ↓aw_seq, ↓aw_block, ↓aw_exit, ↓aw_ret, ↓sops_nil, ↓sops_go, ↓dops_nil, ↓dopsX_nil, ↓dopsR_nil, ↓vdn, vup, extr_20, extr_21, extr_30, extr_31, extr_32, List.map_cons, List.map_nil, cond_true, cond_false, aop, aThen, aBlock, argEnv, ev, sput, sputO, binK, binI, unK, builtinK, pickK, Nat.reduceBEq, Nat.reduceAdd, Int.reduceBEq, Int.reduceBNe, Int.reduceLT, aPost, resK, tup, tyf, add1 (show k < 9223372036854775807 by omega)]
    refine hQ2 _ _ _ ⟨(k + 1, h2), ⟨by simp only; omega, hEn⟩, by simp only; omega, by simp (config := {maxSteps := 2000000}) only [↓aw_region, ↓aw_skip, ↓aw_seq, ↓aw_block, ↓aw_exit, ↓aw_ret, ↓sops_nil, ↓sops_go, ↓dops_nil, ↓dopsX_nil, ↓dopsR_nil, ↓vdn, vup, extr_20, extr_21, extr_30, extr_31, extr_32, List.map_cons, List.map_nil, cond_true, cond_false, aop, aThen, aBlock, argEnv, ev, sput, sputO, binK, binI, unK, builtinK, pickK, Nat.reduceBEq, Nat.reduceAdd, Int.reduceBEq, Int.reduceBNe, Int.reduceLT, aPost, resK, tup, tyf], rfl⟩
  · have e0 : (((y : Nat) : Int) != 0) = true := by
      have : ((y : Nat) : Int) ≠ 0 := by omega
      simpa using this
    have e1 : ¬ ((y : Nat) : Int) = 0 := by omega
    simp (config := {maxSteps := 2000000}) only [s9, ↓aw_region, ↓aw_skip, ↓aw_seq, ↓aw_block, ↓aw_exit, ↓aw_ret, ↓sops_nil, ↓sops_go, ↓dops_nil, ↓dopsX_nil, ↓dopsR_nil, ↓vdn, vup, extr_20, extr_21, extr_30, extr_31, extr_32, List.map_cons, List.map_nil, cond_true, cond_false, aop, aThen, aBlock, argEnv, ev, sput, sputO, binK, binI, unK, builtinK, pickK, Nat.reduceBEq, Nat.reduceAdd, Int.reduceBEq, Int.reduceBNe, Int.reduceLT, aPost, resK, tup, tyf, l9_0, e0]
    refine aw_drawX [] (by kernel_rfl) (by kernel_rfl) (by kernel_rfl) (by kernel_rfl) ?_
    simp (config := {maxSteps := 2000000}) only [s9, ↓aw_region, ↓aw_skip, ↓aw_seq, ↓aw_block, ↓aw_exit, ↓aw_ret, ↓sops_nil, ↓sops_go, ↓dops_nil, ↓dopsX_nil, ↓dopsR_nil, ↓vdn, vup, extr_20, extr_21, extr_30, extr_31, extr_32, List.map_cons, List.map_nil, cond_true, cond_false, aop, aThen, aBlock, argEnv, ev, sput, sputO, binK, binI, unK, builtinK, pickK, Nat.reduceBEq, Nat.reduceAdd, Int.reduceBEq, Int.reduceBNe, Int.reduceLT, aPost, resK, tup, tyf, ne_eq, e1, not_false_eq_true, tmodN]
    have hlt := Nat.mod_lt x (show y > 0 by omega)
    refine hQ3 _ _ _ ⟨(y, x % y), ⟨?_, hy, by simp only; omega⟩, hlt, by simp (config := {maxSteps := 2000000}) only [↓aw_region, ↓aw_skip, ↓aw_seq, ↓aw_block, ↓aw_exit, ↓aw_ret, ↓sops_nil, ↓sops_go, ↓dops_nil, ↓dopsX_nil, ↓dopsR_nil, ↓vdn, vup, extr_20, extr_21, extr_30, extr_31, extr_32, List.map_cons, List.map_nil, cond_true, cond_false, aop, aThen, aBlock, argEnv, ev, sput, sputO, binK, binI, unK, builtinK, pickK, Nat.reduceBEq, Nat.reduceAdd, Int.reduceBEq, Int.reduceBNe, Int.reduceLT, aPost, resK, tup, tyf], rfl⟩
    simp only
    rw [← hxy, Nat.gcd_comm x y, Nat.gcd_rec y x, Nat.gcd_comm]
end Go.Proofs.Tryd.Am

namespace Go.Proofs.Tryd.Am
open Go.Am Ord
set_option maxRecDepth 100000
set_option maxHeartbeats 1000000

theorem sums_end [BitTab prog 1] {h : Heap} {n k x y X Y : Nat} (c : h[n]? = some (.cells [vint (x : Nat), vint (y : Nat)] 33 false)) (d : h[k]? = some (.cells [vint (X : Nat), vint (Y : Nat)] 37 false)) (hxy : x < y)
    (f2 : Y ≤ 720) (f3 : 1 ≤ Y) (f4 : X ≤ 1 * Y) (q1 : Y ≤ 3 * X) (q2 : 3 * X ≤ 2 * Y) :
    AWS prog 255 (.seq q9_33 .ret) (aPost prog [.tmp 6] fun r _ => r = .bool true) [(6, .bool false), (21, .pointer (some ⟨n, 0, none⟩)), (22, .int .i64 0), (25, .pointer (some ⟨k, 0, none⟩))] h := by
  have awk : ∀ {K : Value → Heap → Prop} {g : Heap}, K (.bool true) g → ACall prog 20 [] g K := fun {K g} hk => awake_call.mono fun v h' ⟨h1, h2⟩ => by rw [h1, h2]; exact hk
  have rgt : ∀ {K : Value → Heap → Prop}, K (.bool true) h → ACall prog 42 [.agg #[vint (X : Nat), vint (Y : Nat)], .int .i64 1] h K := fun {K} hk =>
    (show APure prog 42 [.agg #[vint (X : Nat), vint (Y : Nat)], .int .i64 1] h (.bool true) from right_call (n := 1) f3 f2 (by omega) f4).mono fun v h' ⟨h1, h2⟩ => by rw [h1, h2]; exact hk
  have hx0 : ∀ {K : Value → Prop}, idxAddrK prog 33 (.pointer (some ⟨n, 0, none⟩)) (.int .i64 0) K = K (.pointer (some ⟨n, 0, none⟩)) := fun {K} => idxA (k := 0) und_33 esz_3 (by decide)
  have hx1 : ∀ {K : Value → Prop}, idxAddrK prog 33 (.pointer (some ⟨n, 0, none⟩)) (.int .i64 1) K = K (.pointer (some ⟨n, 1, none⟩)) := fun {K} => idxA (k := 1) und_33 esz_3 (by decide)
  have e0 : ((0 : Int) == 0) = true := rfl
  have m1 : mulV .i64 3 (X : Int) = ((3 * X : Nat) : Int) := mulN (a := 3) (b := X) (k := 3000) (by omega) (by decide)
  have m2 : mulV .i64 2 (Y : Int) = ((2 * Y : Nat) : Int) := mulN (a := 2) (b := Y) (k := 3000) (by omega) (by decide)
  have c1 : ((x : Nat) : Int) < ((y : Nat) : Int) := by omega
  have c2 : ((Y : Nat) : Int) ≤ ((3 * X : Nat) : Int) := by omega
  have c3 : ((3 * X : Nat) : Int) ≤ ((2 * Y : Nat) : Int) := by omega
  generalize ((3 * X : Nat) : Int) = A at m1 c2 c3
  generalize ((2 * Y : Nat) : Int) = B at m2 c3
  refine aw_aws ?_
  refine aw_cut fun N hN => ?_
  refine aw_regcut 5 fun N1 hN1 => ?_
  simp (config := {maxSteps := 2000000}) only [↓aw_region, ↓aw_skip, ↓aw_seq, ↓aw_block, ↓aw_exit, ↓aw_ret, ↓sops_nil, ↓sops_go, ↓dops_nil, ↓dopsX_nil, ↓dopsR_nil, ↓vdn, vup, extr_20, extr_21, extr_30, extr_31, extr_32, List.map_cons, List.map_nil, cond_true, cond_false, aop, aThen, aBlock, argEnv, ev, sput, sputO, binK, binI, unK, builtinK, pickK, Nat.reduceBEq, Nat.reduceAdd, Int.reduceBEq, Int.reduceBNe, Int.reduceLT, aPost, resK, tup, tyf, List.take_succ_cons, List.take_zero, e0, loadF d, callK, List.nil_append, List.append_nil, List.toList_toArray, List.cons_append]
  refine rgt ?_
  refine hN1 _ _ ?_
  clear hN1 N1
  simp (config := {maxSteps := 2000000}) only [↓aw_region, ↓aw_skip, ↓aw_seq, ↓aw_block, ↓aw_exit, ↓aw_ret, ↓sops_nil, ↓sops_go, ↓dops_nil, ↓dopsX_nil, ↓dopsR_nil, ↓vdn, vup, extr_20, extr_21, extr_30, extr_31, extr_32, List.map_cons, List.map_nil, cond_true, cond_false, aop, aThen, aBlock, argEnv, ev, sput, sputO, binK, binI, unK, builtinK, pickK, Nat.reduceBEq, Nat.reduceAdd, Int.reduceBEq, Int.reduceBNe, Int.reduceLT, aPost, resK, tup, tyf, List.drop_succ_cons, List.drop_zero, hx0, hx1, loadC0 c, loadC1 c, c1, fldA fld_37_1 esz_3, fldA fld_37_0 esz_3, loadC0 d, loadC1 d, m1, m2, c2, c3, ge_iff_le, callK, List.nil_append, List.append_nil, List.toList_toArray, List.cons_append]
  refine awk ?_
  refine hN _ _ ?_
  simp (config := {maxSteps := 2000000}) only [↓aw_region, ↓aw_skip, ↓aw_seq, ↓aw_block, ↓aw_exit, ↓aw_ret, ↓sops_nil, ↓sops_go, ↓dops_nil, ↓dopsX_nil, ↓dopsR_nil, ↓vdn, vup, extr_20, extr_21, extr_30, extr_31, extr_32, List.map_cons, List.map_nil, cond_true, cond_false, aop, aThen, aBlock, argEnv, ev, sput, sputO, binK, binI, unK, builtinK, pickK, Nat.reduceBEq, Nat.reduceAdd, Int.reduceBEq, Int.reduceBNe, Int.reduceLT, aPost, resK, tup, tyf]
end Go.Proofs.Tryd.Am

namespace Go.Proofs.Tryd.Am
open Go.Am Ord
set_option maxRecDepth 100000
set_option maxHeartbeats 1000000

theorem remU (i : Int) {n : Nat} (h1 : 1 ≤ n) (h2 : n ≤ 6) : ∃ k : Nat, k < n ∧ IntKind.i64.wrap ((IntKind.u64.wrap i).tmod (IntKind.u64.wrap (n : Int))) = (k : Int) := by
  have hn : IntKind.u64.wrap (n : Int) = (n : Int) := by simp [IntKind.wrap, IntKind.signed, IntKind.bits]; omega
  have hi : 0 ≤ IntKind.u64.wrap i := by simp [IntKind.wrap, IntKind.signed, IntKind.bits]; omega
  obtain ⟨x, hx⟩ : ∃ x : Nat, IntKind.u64.wrap i = (x : Int) := ⟨(IntKind.u64.wrap i).toNat, by omega⟩
  rw [hn, hx, tmodN]
  have := Nat.mod_lt x (show n > 0 by omega)
  exact ⟨x % n, this, wrap_id (by omega) (by omega)⟩

/-- A copy, told in full. -/
theorem clone_det9 [Tabs prog] {h : Heap} {v : Value} {xs : List Int} (hv : IntSl h v xs) (hx : xs ≠ []) (hl : xs.length < 1099511627776) : ADet prog 66 [v] h (.slice (some ⟨h.length + 1, 0, some 0⟩) xs.length xs.length) (h ++ [.ints [] 3 false] ++ [.ints xs 3 false]) := by
  refine s66_call (by simp) ?_
  have hv' := hv
  rcases hv with ⟨rfl, rfl⟩ | ⟨b, o, sp, cap, c, e, ro, rfl, hc, hb, _⟩
  · exact absurd rfl hx
  · simp (config := {maxSteps := 2000000}) only [s66, ↓aw_region, ↓aw_skip, ↓aw_seq, ↓aw_block, ↓aw_exit, ↓aw_ret, ↓sops_nil, ↓sops_go, ↓dops_nil, ↓dopsX_nil, ↓dopsR_nil, ↓vdn, vup, extr_20, extr_21, extr_30, extr_31, extr_32, List.map_cons, List.map_nil, cond_true, cond_false, aop, aThen, aBlock, argEnv, ev, sput, sputO, binK, binI, unK, builtinK, pickK, Nat.reduceBEq, Nat.reduceAdd, Int.reduceBEq, Int.reduceBNe, Int.reduceLT, aPost, resK, tup, tyf, Option.isSome_some]
    simp only [buildSliceK, el_22, zero_3, esz_3, reps, fillL, mkb, intsOf]
    refine And.intro rfl (And.intro Nat.zero_lt_one (And.intro (Nat.zero_le _) ?_))
    refine (hv'.grow [.ints [] 3 false]).copyOwn hx app_22_22 hl (by rw [List.getElem?_append_right (Nat.le_refl _)]; simp) ?_
    exact ⟨by simp, rfl⟩

theorem list_det [Tabs prog] {h : Heap} {v : Value} {xs : List Int} (hv : IntSl h v xs) (hne : xs ≠ []) (hl : xs.length ≤ 9) : ADet prog 18 [v] h (.slice (some ⟨h.length + 1, 0, some 0⟩) xs.length xs.length) (h ++ [.ints [] 3 false] ++ [.ints xs 3 false]) := by
  refine s18_call (by simp) ?_
  simp (config := {maxSteps := 2000000}) only [s18, ↓aw_region, ↓aw_skip, ↓aw_seq, ↓aw_block, ↓aw_exit, ↓aw_ret, ↓sops_nil, ↓sops_go, ↓dops_nil, ↓dopsX_nil, ↓dopsR_nil, ↓vdn, vup, extr_20, extr_21, extr_30, extr_31, extr_32, List.map_cons, List.map_nil, cond_true, cond_false, aop, aThen, aBlock, argEnv, ev, sput, sputO, binK, binI, unK, builtinK, pickK, Nat.reduceBEq, Nat.reduceAdd, Int.reduceBEq, Int.reduceBNe, Int.reduceLT, aPost, resK, tup, tyf, hv.len, mmK, Bool.false_eq_true, if_false, gt_iff_lt, min9, Option.map_none, Option.map_some]
  refine hv.pre el_22 esz_3 (Nat.min_le_left _ _) ?_
  intro v' hv'
  rw [Nat.min_eq_left hl, List.take_length] at hv'
  simp (config := {maxSteps := 2000000}) only [↓aw_region, ↓aw_skip, ↓aw_seq, ↓aw_block, ↓aw_exit, ↓aw_ret, ↓sops_nil, ↓sops_go, ↓dops_nil, ↓dopsX_nil, ↓dopsR_nil, ↓vdn, vup, extr_20, extr_21, extr_30, extr_31, extr_32, List.map_cons, List.map_nil, cond_true, cond_false, aop, aThen, aBlock, argEnv, ev, sput, sputO, binK, binI, unK, builtinK, pickK, Nat.reduceBEq, Nat.reduceAdd, Int.reduceBEq, Int.reduceBNe, Int.reduceLT, aPost, resK, tup, tyf, callK, List.nil_append, List.append_nil]
  exact clone_det9 hv' hne (by omega)

theorem s9_callW [Tabs Tryd.prog] {args : List Value} {h : Heap} {Q : Value → Heap → Prop} (hsz : args.length ≤ 255) (hk : AWS Tryd.prog 255 s9 (aPost Tryd.prog [.tmp 6] Q) (argEnv 0 args) h) : ACall Tryd.prog 9 args h Q :=
  acall_w Tryd.func9 rfl (enters_of Tryd.func9 (by kernel_rfl) rfl) rfl rfl (by decide) s9_strip s9_ok hsz hk

theorem law_sums [BitTab prog 1] {h : Heap} {v : Value} {o : List Int} (hv : IntSl h v o) (hl : o.length < 9223372036854775808) (hx : ∀ x ∈ o, -9223372036854775808 ≤ x ∧ x < 9223372036854775808) (i j : Int) :
    ACall prog 9 [v, vint i, vint j] h fun r _ => r = .bool true := by
  have awk : ∀ {K : Value → Heap → Prop} {g : Heap}, K (.bool true) g → ACall prog 20 [] g K := fun {K g} hk => awake_call.mono fun v h' ⟨h1, h2⟩ => by rw [h1, h2]; exact hk
  have hx9 : ∀ x ∈ o.take 9, -9223372036854775808 ≤ x ∧ x < 9223372036854775808 := fun x hm => hx x (List.take_subset _ _ hm)
  have hl9 : (o.take 9).length < 9223372036854775808 := by simp; omega
  have e22 : ((2 : Int) == 2) = true := rfl
  refine s9_callW (by simp) ?_
  simp only [s9]
  refine aws_cut fun N hN => ?_
  simp (config := {maxSteps := 2000000}) only [s9, ↓aw_region, ↓aw_skip, ↓aw_seq, ↓aw_block, ↓aw_exit, ↓aw_ret, ↓sops_nil, ↓sops_go, ↓dops_nil, ↓dopsX_nil, ↓dopsR_nil, ↓vdn, vup, extr_20, extr_21, extr_30, extr_31, extr_32, List.map_cons, List.map_nil, cond_true, cond_false, aop, aThen, aBlock, argEnv, ev, sput, sputO, binK, binI, unK, builtinK, pickK, Nat.reduceBEq, Nat.reduceAdd, Int.reduceBEq, Int.reduceBNe, Int.reduceLT, aPost, resK, tup, tyf]
  refine hN [(0, v), (1, vint i), (2, vint j), (6, .bool false)] _ _ ?_ (by simp (config := {maxSteps := 2000000}) only [↓aw_region, ↓aw_skip, ↓aw_seq, ↓aw_block, ↓aw_exit, ↓aw_ret, ↓sops_nil, ↓sops_go, ↓dops_nil, ↓dopsX_nil, ↓dopsR_nil, ↓vdn, vup, extr_20, extr_21, extr_30, extr_31, extr_32, List.map_cons, List.map_nil, cond_true, cond_false, aop, aThen, aBlock, argEnv, ev, sput, sputO, binK, binI, unK, builtinK, pickK, Nat.reduceBEq, Nat.reduceAdd, Int.reduceBEq, Int.reduceBNe, Int.reduceLT, aPost, resK, tup, tyf])
  clear hN N
  cases ho : ord o with
  | false =>
    refine aws_cut fun N hN => ?_
    simp (config := {maxSteps := 2000000}) only [s9, ↓aw_region, ↓aw_skip, ↓aw_seq, ↓aw_block, ↓aw_exit, ↓aw_ret, ↓sops_nil, ↓sops_go, ↓dops_nil, ↓dopsX_nil, ↓dopsR_nil, ↓vdn, vup, extr_20, extr_21, extr_30, extr_31, extr_32, List.map_cons, List.map_nil, cond_true, cond_false, aop, aThen, aBlock, argEnv, ev, sput, sputO, binK, binI, unK, builtinK, pickK, Nat.reduceBEq, Nat.reduceAdd, Int.reduceBEq, Int.reduceBNe, Int.reduceLT, aPost, resK, tup, tyf, callK, List.nil_append, List.append_nil, List.toList_toArray, List.cons_append]
    refine (rorder_call hv hl hx).mono ?_
    rintro _ h1 ⟨rfl, rfl⟩
    simp (config := {maxSteps := 2000000}) only [s9, ↓aw_region, ↓aw_skip, ↓aw_seq, ↓aw_block, ↓aw_exit, ↓aw_ret, ↓sops_nil, ↓sops_go, ↓dops_nil, ↓dopsX_nil, ↓dopsR_nil, ↓vdn, vup, extr_20, extr_21, extr_30, extr_31, extr_32, List.map_cons, List.map_nil, cond_true, cond_false, aop, aThen, aBlock, argEnv, ev, sput, sputO, binK, binI, unK, builtinK, pickK, Nat.reduceBEq, Nat.reduceAdd, Int.reduceBEq, Int.reduceBNe, Int.reduceLT, aPost, resK, tup, tyf, ho, callK, List.nil_append, List.append_nil, List.toList_toArray, List.cons_append]
    refine (list_call hv hl).mono ?_
    rintro l1 _ ⟨hl1, g1, rfl⟩
    refine (height_call (i := 0) hl1 hl9 hx9).mono ?_
    rintro _ h2 ⟨rfl, rfl⟩
    rw [heightV_take, heightV, ho, if_neg (by simp), frV]
    simp (config := {maxSteps := 2000000}) only [s9, ↓aw_region, ↓aw_skip, ↓aw_seq, ↓aw_block, ↓aw_exit, ↓aw_ret, ↓sops_nil, ↓sops_go, ↓dops_nil, ↓dopsX_nil, ↓dopsR_nil, ↓vdn, vup, extr_20, extr_21, extr_30, extr_31, extr_32, List.map_cons, List.map_nil, cond_true, cond_false, aop, aThen, aBlock, argEnv, ev, sput, sputO, binK, binI, unK, builtinK, pickK, Nat.reduceBEq, Nat.reduceAdd, Int.reduceBEq, Int.reduceBNe, Int.reduceLT, aPost, resK, tup, tyf, allocK, newPtr, zero_37, storeQ rfl, e22, callK, List.nil_append, List.append_nil, List.toList_toArray, List.cons_append]
    refine awk ?_
    simp (config := {maxSteps := 2000000}) only [s9, ↓aw_region, ↓aw_skip, ↓aw_seq, ↓aw_block, ↓aw_exit, ↓aw_ret, ↓sops_nil, ↓sops_go, ↓dops_nil, ↓dopsX_nil, ↓dopsR_nil, ↓vdn, vup, extr_20, extr_21, extr_30, extr_31, extr_32, List.map_cons, List.map_nil, cond_true, cond_false, aop, aThen, aBlock, argEnv, ev, sput, sputO, binK, binI, unK, builtinK, pickK, Nat.reduceBEq, Nat.reduceAdd, Int.reduceBEq, Int.reduceBNe, Int.reduceLT, aPost, resK, tup, tyf]
  | true =>
    have hlen := ord_len ho
    have hc := cn_720 ho
    have hcp := cn_pos ho
    have hne : o ≠ [] := by rintro rfl; simp at hlen
    refine aws_cut fun N hN => ?_
    simp (config := {maxSteps := 2000000}) only [s9, ↓aw_region, ↓aw_skip, ↓aw_seq, ↓aw_block, ↓aw_exit, ↓aw_ret, ↓sops_nil, ↓sops_go, ↓dops_nil, ↓dopsX_nil, ↓dopsR_nil, ↓vdn, vup, extr_20, extr_21, extr_30, extr_31, extr_32, List.map_cons, List.map_nil, cond_true, cond_false, aop, aThen, aBlock, argEnv, ev, sput, sputO, binK, binI, unK, builtinK, pickK, Nat.reduceBEq, Nat.reduceAdd, Int.reduceBEq, Int.reduceBNe, Int.reduceLT, aPost, resK, tup, tyf, callK, List.nil_append, List.append_nil, List.toList_toArray, List.cons_append]
    refine (rorder_call hv hl hx).mono ?_
    rintro _ h ⟨rfl, rfl⟩
    simp (config := {maxSteps := 2000000}) only [s9, ↓aw_region, ↓aw_skip, ↓aw_seq, ↓aw_block, ↓aw_exit, ↓aw_ret, ↓sops_nil, ↓sops_go, ↓dops_nil, ↓dopsX_nil, ↓dopsR_nil, ↓vdn, vup, extr_20, extr_21, extr_30, extr_31, extr_32, List.map_cons, List.map_nil, cond_true, cond_false, aop, aThen, aBlock, argEnv, ev, sput, sputO, binK, binI, unK, builtinK, pickK, Nat.reduceBEq, Nat.reduceAdd, Int.reduceBEq, Int.reduceBNe, Int.reduceLT, aPost, resK, tup, tyf, ho]
    refine hN [(0, v), (1, vint i), (2, vint j), (6, .bool false)] _ _ ?_ (by simp (config := {maxSteps := 2000000}) only [↓aw_region, ↓aw_skip, ↓aw_seq, ↓aw_block, ↓aw_exit, ↓aw_ret, ↓sops_nil, ↓sops_go, ↓dops_nil, ↓dopsX_nil, ↓dopsR_nil, ↓vdn, vup, extr_20, extr_21, extr_30, extr_31, extr_32, List.map_cons, List.map_nil, cond_true, cond_false, aop, aThen, aBlock, argEnv, ev, sput, sputO, binK, binI, unK, builtinK, pickK, Nat.reduceBEq, Nat.reduceAdd, Int.reduceBEq, Int.reduceBNe, Int.reduceLT, aPost, resK, tup, tyf])
    clear hN N
    refine aws_cut fun N hN => ?_
    simp (config := {maxSteps := 2000000}) only [s9, ↓aw_region, ↓aw_skip, ↓aw_seq, ↓aw_block, ↓aw_exit, ↓aw_ret, ↓sops_nil, ↓sops_go, ↓dops_nil, ↓dopsX_nil, ↓dopsR_nil, ↓vdn, vup, extr_20, extr_21, extr_30, extr_31, extr_32, List.map_cons, List.map_nil, cond_true, cond_false, aop, aThen, aBlock, argEnv, ev, sput, sputO, binK, binI, unK, builtinK, pickK, Nat.reduceBEq, Nat.reduceAdd, Int.reduceBEq, Int.reduceBNe, Int.reduceLT, aPost, resK, tup, tyf, hv.len]
    refine hN [(0, v), (1, vint i), (2, vint j), (6, .bool false), (9, vint o.length)] _ _ ?_ (by simp (config := {maxSteps := 2000000}) only [↓aw_region, ↓aw_skip, ↓aw_seq, ↓aw_block, ↓aw_exit, ↓aw_ret, ↓sops_nil, ↓sops_go, ↓dops_nil, ↓dopsX_nil, ↓dopsR_nil, ↓vdn, vup, extr_20, extr_21, extr_30, extr_31, extr_32, List.map_cons, List.map_nil, cond_true, cond_false, aop, aThen, aBlock, argEnv, ev, sput, sputO, binK, binI, unK, builtinK, pickK, Nat.reduceBEq, Nat.reduceAdd, Int.reduceBEq, Int.reduceBNe, Int.reduceLT, aPost, resK, tup, tyf])
    clear hN N
    obtain ⟨a, ha, ea⟩ := remU i hlen.1 hlen.2
    obtain ⟨b, hb, eb⟩ := remU j hlen.1 hlen.2
    have hn0 : ¬ IntKind.u64.wrap ((o.length : Nat) : Int) = 0 := by simp [IntKind.wrap, IntKind.signed, IntKind.bits]; omega
    refine aws_cut fun N hN => ?_
    refine aw_drawX [] (by kernel_rfl) (by kernel_rfl) (by kernel_rfl) (by kernel_rfl) ?_
    simp (config := {maxSteps := 2000000}) only [s9, ↓aw_region, ↓aw_skip, ↓aw_seq, ↓aw_block, ↓aw_exit, ↓aw_ret, ↓sops_nil, ↓sops_go, ↓dops_nil, ↓dopsX_nil, ↓dopsR_nil, ↓vdn, vup, extr_20, extr_21, extr_30, extr_31, extr_32, List.map_cons, List.map_nil, cond_true, cond_false, aop, aThen, aBlock, argEnv, ev, sput, sputO, binK, binI, unK, builtinK, pickK, Nat.reduceBEq, Nat.reduceAdd, Int.reduceBEq, Int.reduceBNe, Int.reduceLT, aPost, resK, tup, tyf, convK, und_29, und_3, ne_eq, hn0, not_false_eq_true, ea, eb]
    refine hN [(0, v), (1, vint a), (2, vint b), (6, .bool false), (9, vint o.length)] _ _ ?_ (by simp (config := {maxSteps := 2000000}) only [↓aw_region, ↓aw_skip, ↓aw_seq, ↓aw_block, ↓aw_exit, ↓aw_ret, ↓sops_nil, ↓sops_go, ↓dops_nil, ↓dopsX_nil, ↓dopsR_nil, ↓vdn, vup, extr_20, extr_21, extr_30, extr_31, extr_32, List.map_cons, List.map_nil, cond_true, cond_false, aop, aThen, aBlock, argEnv, ev, sput, sputO, binK, binI, unK, builtinK, pickK, Nat.reduceBEq, Nat.reduceAdd, Int.reduceBEq, Int.reduceBNe, Int.reduceLT, aPost, resK, tup, tyf])
    clear hN N hn0 ea eb
    refine aws_cutW fun N hN => ?_
    refine sums_pair hv hl hx ho ha hb fun e1 h1 hE1 hl1 => ?_
    refine hN _ _ _ ?_ hl1
    clear hN N hl1 e1
    have hv1 := IntSl_ext hv hE1
    clear hv hE1
    refine aws_cut fun N hN => ?_
    simp (config := {maxSteps := 2000000}) only [s9, ↓aw_region, ↓aw_skip, ↓aw_seq, ↓aw_block, ↓aw_exit, ↓aw_ret, ↓sops_nil, ↓sops_go, ↓dops_nil, ↓dopsX_nil, ↓dopsR_nil, ↓vdn, vup, extr_20, extr_21, extr_30, extr_31, extr_32, List.map_cons, List.map_nil, cond_true, cond_false, aop, aThen, aBlock, argEnv, ev, sput, sputO, binK, binI, unK, builtinK, pickK, Nat.reduceBEq, Nat.reduceAdd, Int.reduceBEq, Int.reduceBNe, Int.reduceLT, aPost, resK, tup, tyf]
    refine hN [(0, v), (6, .bool false), (9, vint o.length), (14, .int .i64 0), (15, .int .i64 1)] _ _ ?_ (by simp (config := {maxSteps := 2000000}) only [↓aw_region, ↓aw_skip, ↓aw_seq, ↓aw_block, ↓aw_exit, ↓aw_ret, ↓sops_nil, ↓sops_go, ↓dops_nil, ↓dopsX_nil, ↓dopsR_nil, ↓vdn, vup, extr_20, extr_21, extr_30, extr_31, extr_32, List.map_cons, List.map_nil, cond_true, cond_false, aop, aThen, aBlock, argEnv, ev, sput, sputO, binK, binI, unK, builtinK, pickK, Nat.reduceBEq, Nat.reduceAdd, Int.reduceBEq, Int.reduceBNe, Int.reduceLT, aPost, resK, tup, tyf])
    clear hN N
    refine aws_cutW fun N hN => ?_
    refine sums_loop hv1 hl hx ho fun e2 h2 hE2 hl2 => ?_
    refine hN _ _ _ ?_ hl2
    clear hN N hl2 e2
    have hv2 := IntSl_ext hv1 hE2
    clear hv1 hE2 h1 h
    -- the sum of the heights
    have hsum := heights ho
    have hS := red_cross (a := Ord.hTo o o.length) hcp
    have hle1 := num_le (Ord.hTo o o.length) (cn o)
    have hle2 := den_le (Ord.hTo o o.length) (cn o)
    have ht6 : Ord.hTo o o.length ≤ 25920 := Nat.le_trans (Ord.hTo_le ho o.length (Nat.le_refl _)) (Nat.le_trans (Nat.mul_le_mul hlen.2 (show 6 * cn o ≤ 4320 by omega)) (by decide))
    have hfin : 2 * num (Ord.hTo o o.length) (cn o) = o.length * (o.length - 1) * den (Ord.hTo o o.length) (cn o) := by
      refine Nat.eq_of_mul_eq_mul_right hcp ?_
      rw [Nat.mul_assoc, hS, ← Nat.mul_assoc, hsum, Nat.mul_right_comm]
    generalize num (Ord.hTo o o.length) (cn o) = A at hfin hle1 ⊢
    generalize den (Ord.hTo o o.length) (cn o) = B at hfin hle2 ⊢
    clear hsum hS
    have hnn : o.length * (o.length - 1) ≤ 30 := Nat.le_trans (Nat.mul_le_mul hlen.2 (show o.length - 1 ≤ 5 by omega)) (by decide)
    have hsub : subV .i64 ((o.length : Nat) : Int) 1 = ((o.length - 1 : Nat) : Int) := by rw [subV_id (by omega) (by omega)]; omega
    have m1 : mulV .i64 2 (A : Int) = ((2 * A : Nat) : Int) := by
      have := mulN (a := 2) (b := A) (k := 60000) (by omega) (by decide)
      exact this
    have m2 : mulV .i64 ((o.length : Nat) : Int) ((o.length - 1 : Nat) : Int) = ((o.length * (o.length - 1) : Nat) : Int) := mulN hnn (by decide)
    have m3 : mulV .i64 ((o.length * (o.length - 1) : Nat) : Int) (B : Int) = ((2 * A : Nat) : Int) := by
      rw [mulN (k := 30 * 720) (Nat.mul_le_mul hnn (by omega)) (by decide), hfin]
    have hnes : ∀ z : Int, (z != z) = false := fun z => bne_self_eq_false _
    refine aws_cut fun N hN => ?_
    simp (config := {maxSteps := 2000000}) only [s9, ↓aw_region, ↓aw_skip, ↓aw_seq, ↓aw_block, ↓aw_exit, ↓aw_ret, ↓sops_nil, ↓sops_go, ↓dops_nil, ↓dopsX_nil, ↓dopsR_nil, ↓vdn, vup, extr_20, extr_21, extr_30, extr_31, extr_32, List.map_cons, List.map_nil, cond_true, cond_false, aop, aThen, aBlock, argEnv, ev, sput, sputO, binK, binI, unK, builtinK, pickK, Nat.reduceBEq, Nat.reduceAdd, Int.reduceBEq, Int.reduceBNe, Int.reduceLT, aPost, resK, tup, tyf, m1, hsub, m2, m3, hnes]
    refine hN [(0, v), (6, .bool false)] _ _ ?_ (by simp (config := {maxSteps := 2000000}) only [↓aw_region, ↓aw_skip, ↓aw_seq, ↓aw_block, ↓aw_exit, ↓aw_ret, ↓sops_nil, ↓sops_go, ↓dops_nil, ↓dopsX_nil, ↓dopsR_nil, ↓vdn, vup, extr_20, extr_21, extr_30, extr_31, extr_32, List.map_cons, List.map_nil, cond_true, cond_false, aop, aThen, aBlock, argEnv, ev, sput, sputO, binK, binI, unK, builtinK, pickK, Nat.reduceBEq, Nat.reduceAdd, Int.reduceBEq, Int.reduceBNe, Int.reduceLT, aPost, resK, tup, tyf])
    clear hN N m1 m2 m3 hsub hnn hfin hle1 hle2 ht6
    clear A B
    -- the most even pair
    refine aws_cut fun N hN => ?_
    simp (config := {maxSteps := 2000000}) only [s9, ↓aw_region, ↓aw_skip, ↓aw_seq, ↓aw_block, ↓aw_exit, ↓aw_ret, ↓sops_nil, ↓sops_go, ↓dops_nil, ↓dopsX_nil, ↓dopsR_nil, ↓vdn, vup, extr_20, extr_21, extr_30, extr_31, extr_32, List.map_cons, List.map_nil, cond_true, cond_false, aop, aThen, aBlock, argEnv, ev, sput, sputO, binK, binI, unK, builtinK, pickK, Nat.reduceBEq, Nat.reduceAdd, Int.reduceBEq, Int.reduceBNe, Int.reduceLT, aPost, resK, tup, tyf, callK, List.nil_append, List.append_nil, List.toList_toArray, List.cons_append]
    refine (list_call hv2 hl).mono ?_
    rintro l3 _ ⟨hl3, g3, rfl⟩
    rw [ord_take_eq ho] at hl3
    refine (even_call hl3 hl hx).mono ?_
    rintro _ h3 ⟨rfl, rfl⟩
    have hv3 : IntSl (h2 ++ g3) v o := hv2.grow g3
    rw [evenV, ho, if_pos rfl]
    clear hl3 hv2
    generalize h2 ++ g3 = h3 at hv3 ⊢
    have hev := even_third ho
    generalize evAll o o.length = st at hev ⊢
    simp (config := {maxSteps := 2000000}) only [s9, ↓aw_region, ↓aw_skip, ↓aw_seq, ↓aw_block, ↓aw_exit, ↓aw_ret, ↓sops_nil, ↓sops_go, ↓dops_nil, ↓dopsX_nil, ↓dopsR_nil, ↓vdn, vup, extr_20, extr_21, extr_30, extr_31, extr_32, List.map_cons, List.map_nil, cond_true, cond_false, aop, aThen, aBlock, argEnv, ev, sput, sputO, binK, binI, unK, builtinK, pickK, Nat.reduceBEq, Nat.reduceAdd, Int.reduceBEq, Int.reduceBNe, Int.reduceLT, aPost, resK, tup, tyf, allocK, newPtr, zero_33, zero_pair]
    have c0 := get_new h3 (Blk.cells (bestC none) 33 false)
    rw [storeP c0 rfl]
    have c1 : ((h3 ++ [Blk.cells (bestC none) 33 false]).set h3.length (.cells (bestC st) 33 false))[h3.length]? = some (.cells (bestC st) 33 false) := get_set (by simp) _
    have hv4 : IntSl ((h3 ++ [Blk.cells (bestC none) 33 false]).set h3.length (.cells (bestC st) 33 false)) v o := IntSl_ext hv3 ⟨by simp, fun q hq _ => by rw [List.getElem?_set_ne (by omega), List.getElem?_append_left hq]⟩
    generalize (h3 ++ [Blk.cells (bestC none) 33 false]).set h3.length (.cells (bestC st) 33 false) = h4 at c1 hv4 ⊢
    generalize h3.length = n at c1 ⊢
    clear c0 hv3 h3
    refine hN [(0, v), (6, .bool false), (21, .pointer (some ⟨n, 0, none⟩)), (22, .int .i64 (if st = none then 4 else 0))] _ _ ?_ (by simp (config := {maxSteps := 2000000}) only [↓aw_region, ↓aw_skip, ↓aw_seq, ↓aw_block, ↓aw_exit, ↓aw_ret, ↓sops_nil, ↓sops_go, ↓dops_nil, ↓dopsX_nil, ↓dopsR_nil, ↓vdn, vup, extr_20, extr_21, extr_30, extr_31, extr_32, List.map_cons, List.map_nil, cond_true, cond_false, aop, aThen, aBlock, argEnv, ev, sput, sputO, binK, binI, unK, builtinK, pickK, Nat.reduceBEq, Nat.reduceAdd, Int.reduceBEq, Int.reduceBNe, Int.reduceLT, aPost, resK, tup, tyf])
    clear hN N
    refine aws_cut fun N hN => ?_
    simp (config := {maxSteps := 2000000}) only [s9, ↓aw_region, ↓aw_skip, ↓aw_seq, ↓aw_block, ↓aw_exit, ↓aw_ret, ↓sops_nil, ↓sops_go, ↓dops_nil, ↓dopsX_nil, ↓dopsR_nil, ↓vdn, vup, extr_20, extr_21, extr_30, extr_31, extr_32, List.map_cons, List.map_nil, cond_true, cond_false, aop, aThen, aBlock, argEnv, ev, sput, sputO, binK, binI, unK, builtinK, pickK, Nat.reduceBEq, Nat.reduceAdd, Int.reduceBEq, Int.reduceBNe, Int.reduceLT, aPost, resK, tup, tyf, callK, List.nil_append, List.append_nil, List.toList_toArray, List.cons_append]
    refine (list_call hv4 hl).mono ?_
    rintro l5 _ ⟨hl5, g5, rfl⟩
    rw [ord_take_eq ho] at hl5
    refine (count_call hl5 hl hx).mono ?_
    rintro _ h5 ⟨rfl, rfl⟩
    rw [countV, ho, if_pos rfl]
    have hv5 := hv4.grow g5
    have c5 := get_old c1 g5
    clear hl5 hv4 c1
    generalize h4 ++ g5 = h5 at hv5 c5 ⊢
    simp (config := {maxSteps := 2000000}) only [s9, ↓aw_region, ↓aw_skip, ↓aw_seq, ↓aw_block, ↓aw_exit, ↓aw_ret, ↓sops_nil, ↓sops_go, ↓dops_nil, ↓dopsX_nil, ↓dopsR_nil, ↓vdn, vup, extr_20, extr_21, extr_30, extr_31, extr_32, List.map_cons, List.map_nil, cond_true, cond_false, aop, aThen, aBlock, argEnv, ev, sput, sputO, binK, binI, unK, builtinK, pickK, Nat.reduceBEq, Nat.reduceAdd, Int.reduceBEq, Int.reduceBNe, Int.reduceLT, aPost, resK, tup, tyf]
    refine hN [(0, v), (6, .bool false), (21, .pointer (some ⟨n, 0, none⟩)), (22, .int .i64 (if st = none then 4 else 0)), (23, vint (cn o : Nat)), (24, .int .i64 0)] _ _ ?_ (by simp (config := {maxSteps := 2000000}) only [↓aw_region, ↓aw_skip, ↓aw_seq, ↓aw_block, ↓aw_exit, ↓aw_ret, ↓sops_nil, ↓sops_go, ↓dops_nil, ↓dopsX_nil, ↓dopsR_nil, ↓vdn, vup, extr_20, extr_21, extr_30, extr_31, extr_32, List.map_cons, List.map_nil, cond_true, cond_false, aop, aThen, aBlock, argEnv, ev, sput, sputO, binK, binI, unK, builtinK, pickK, Nat.reduceBEq, Nat.reduceAdd, Int.reduceBEq, Int.reduceBNe, Int.reduceLT, aPost, resK, tup, tyf])
    clear hN N
    have e00 : ((0 : Int) != 0) = false := rfl
    have e0 : ((0 : Int) == 0) = true := rfl
    have e40 : ((4 : Int) == 0) = false := rfl
    have e41 : ((4 : Int) != 0) = true := rfl
    have e44 : ((4 : Int) != 4) = false := rfl
    have bff : (false != false) = false := rfl
    have btt : (true != true) = false := rfl
    rcases st with _ | ⟨d, x, y⟩
    · simp only at hev
      have hgt : ¬ (1 : Int) < ((cn o : Nat) : Int) := by omega
      refine aws_cut fun N hN => ?_
      simp (config := {maxSteps := 2000000}) only [s9, ↓aw_region, ↓aw_skip, ↓aw_seq, ↓aw_block, ↓aw_exit, ↓aw_ret, ↓sops_nil, ↓sops_go, ↓dops_nil, ↓dopsX_nil, ↓dopsR_nil, ↓vdn, vup, extr_20, extr_21, extr_30, extr_31, extr_32, List.map_cons, List.map_nil, cond_true, cond_false, aop, aThen, aBlock, argEnv, ev, sput, sputO, binK, binI, unK, builtinK, pickK, Nat.reduceBEq, Nat.reduceAdd, Int.reduceBEq, Int.reduceBNe, Int.reduceLT, aPost, resK, tup, tyf, if_true, e00, e40, e41, e44, gt_iff_lt, hgt, bff]
      refine hN [(6, .bool false), (22, .int .i64 4)] _ _ ?_ (by simp (config := {maxSteps := 2000000}) only [↓aw_region, ↓aw_skip, ↓aw_seq, ↓aw_block, ↓aw_exit, ↓aw_ret, ↓sops_nil, ↓sops_go, ↓dops_nil, ↓dopsX_nil, ↓dopsR_nil, ↓vdn, vup, extr_20, extr_21, extr_30, extr_31, extr_32, List.map_cons, List.map_nil, cond_true, cond_false, aop, aThen, aBlock, argEnv, ev, sput, sputO, binK, binI, unK, builtinK, pickK, Nat.reduceBEq, Nat.reduceAdd, Int.reduceBEq, Int.reduceBNe, Int.reduceLT, aPost, resK, tup, tyf])
      clear hN N
      refine aw_aws ?_
      simp (config := {maxSteps := 2000000}) only [s9, ↓aw_region, ↓aw_skip, ↓aw_seq, ↓aw_block, ↓aw_exit, ↓aw_ret, ↓sops_nil, ↓sops_go, ↓dops_nil, ↓dopsX_nil, ↓dopsR_nil, ↓vdn, vup, extr_20, extr_21, extr_30, extr_31, extr_32, List.map_cons, List.map_nil, cond_true, cond_false, aop, aThen, aBlock, argEnv, ev, sput, sputO, binK, binI, unK, builtinK, pickK, Nat.reduceBEq, Nat.reduceAdd, Int.reduceBEq, Int.reduceBNe, Int.reduceLT, aPost, resK, tup, tyf, e41, callK, List.nil_append, List.append_nil, List.toList_toArray, List.cons_append]
      refine awk ?_
      simp (config := {maxSteps := 2000000}) only [s9, ↓aw_region, ↓aw_skip, ↓aw_seq, ↓aw_block, ↓aw_exit, ↓aw_ret, ↓sops_nil, ↓sops_go, ↓dops_nil, ↓dopsX_nil, ↓dopsR_nil, ↓vdn, vup, extr_20, extr_21, extr_30, extr_31, extr_32, List.map_cons, List.map_nil, cond_true, cond_false, aop, aThen, aBlock, argEnv, ev, sput, sputO, binK, binI, unK, builtinK, pickK, Nat.reduceBEq, Nat.reduceAdd, Int.reduceBEq, Int.reduceBNe, Int.reduceLT, aPost, resK, tup, tyf]
    · simp only at hev
      obtain ⟨hxy, hyl, hc1, ht1, ht2⟩ := hev
      have hxl : x < o.length := by omega
      have hgt : (1 : Int) < ((cn o : Nat) : Int) := by omega
      have hst : (some (d, x, y) = (none : Option (Nat × Nat × Nat))) = False := eq_false (by simp)
      refine aws_cut fun N hN => ?_
      simp (config := {maxSteps := 2000000}) only [s9, ↓aw_region, ↓aw_skip, ↓aw_seq, ↓aw_block, ↓aw_exit, ↓aw_ret, ↓sops_nil, ↓sops_go, ↓dops_nil, ↓dopsX_nil, ↓dopsR_nil, ↓vdn, vup, extr_20, extr_21, extr_30, extr_31, extr_32, List.map_cons, List.map_nil, cond_true, cond_false, aop, aThen, aBlock, argEnv, ev, sput, sputO, binK, binI, unK, builtinK, pickK, Nat.reduceBEq, Nat.reduceAdd, Int.reduceBEq, Int.reduceBNe, Int.reduceLT, aPost, resK, tup, tyf, hst, if_false, e00, e0, gt_iff_lt, hgt, btt]
      refine hN [(0, v), (6, .bool false), (21, .pointer (some ⟨n, 0, none⟩)), (22, .int .i64 0)] _ _ ?_ (by simp (config := {maxSteps := 2000000}) only [↓aw_region, ↓aw_skip, ↓aw_seq, ↓aw_block, ↓aw_exit, ↓aw_ret, ↓sops_nil, ↓sops_go, ↓dops_nil, ↓dopsX_nil, ↓dopsR_nil, ↓vdn, vup, extr_20, extr_21, extr_30, extr_31, extr_32, List.map_cons, List.map_nil, cond_true, cond_false, aop, aThen, aBlock, argEnv, ev, sput, sputO, binK, binI, unK, builtinK, pickK, Nat.reduceBEq, Nat.reduceAdd, Int.reduceBEq, Int.reduceBNe, Int.reduceLT, aPost, resK, tup, tyf])
      clear hN N
      refine aws_cut fun N hN => ?_
      simp (config := {maxSteps := 2000000}) only [s9, ↓aw_region, ↓aw_skip, ↓aw_seq, ↓aw_block, ↓aw_exit, ↓aw_ret, ↓sops_nil, ↓sops_go, ↓dops_nil, ↓dopsX_nil, ↓dopsR_nil, ↓vdn, vup, extr_20, extr_21, extr_30, extr_31, extr_32, List.map_cons, List.map_nil, cond_true, cond_false, aop, aThen, aBlock, argEnv, ev, sput, sputO, binK, binI, unK, builtinK, pickK, Nat.reduceBEq, Nat.reduceAdd, Int.reduceBEq, Int.reduceBNe, Int.reduceLT, aPost, resK, tup, tyf, e00]
      refine hN [(0, v), (6, .bool false), (21, .pointer (some ⟨n, 0, none⟩))] _ _ ?_ (by simp (config := {maxSteps := 2000000}) only [↓aw_region, ↓aw_skip, ↓aw_seq, ↓aw_block, ↓aw_exit, ↓aw_ret, ↓sops_nil, ↓sops_go, ↓dops_nil, ↓dopsX_nil, ↓dopsR_nil, ↓vdn, vup, extr_20, extr_21, extr_30, extr_31, extr_32, List.map_cons, List.map_nil, cond_true, cond_false, aop, aThen, aBlock, argEnv, ev, sput, sputO, binK, binI, unK, builtinK, pickK, Nat.reduceBEq, Nat.reduceAdd, Int.reduceBEq, Int.reduceBNe, Int.reduceLT, aPost, resK, tup, tyf])
      clear hN N
      -- its chance
      have hbn := befN_le ho hxl hyl (by omega)
      obtain ⟨f1, f2, f3, f4⟩ := frac_small hcp hc hbn
      have hcr := red_cross (a := befN o x y) hcp
      have q1 : den (befN o x y) (cn o) ≤ 3 * num (befN o x y) (cn o) := by
        refine Nat.le_of_mul_le_mul_right ?_ hcp
        rw [Nat.mul_assoc, hcr, Nat.mul_comm (den _ _), ← Nat.mul_assoc]
        exact Nat.mul_le_mul_right _ ht1
      have q2 : 3 * num (befN o x y) (cn o) ≤ 2 * den (befN o x y) (cn o) := by
        refine Nat.le_of_mul_le_mul_right ?_ hcp
        rw [Nat.mul_assoc, hcr, Nat.mul_assoc 2, Nat.mul_comm (den _ _), ← Nat.mul_assoc, ← Nat.mul_assoc]
        exact Nat.mul_le_mul_right _ ht2
      have hch : ∀ {l : Value} {g : Heap}, IntSl g l o → APure prog 25 [l, vint x, vint y] g (.tuple #[.agg #[vint (num (befN o x y) (cn o) : Nat), vint (den (befN o x y) (cn o) : Nat)], .int .i64 0]) := fun {l g} hl2 => by
        have := chance_call (i := x) (j := y) hl2 hl hx
        rw [chanceV_at ho hxl hyl (by omega)] at this
        exact this
      generalize num (befN o x y) (cn o) = X at f1 f4 q1 q2 hch
      generalize den (befN o x y) (cn o) = Y at f2 f3 f4 q1 q2 hch
      have hx0 : ∀ {K : Value → Prop}, idxAddrK prog 33 (.pointer (some ⟨n, 0, none⟩)) (.int .i64 0) K = K (.pointer (some ⟨n, 0, none⟩)) := fun {K} => idxA (k := 0) und_33 esz_3 (by decide)
      have hx1 : ∀ {K : Value → Prop}, idxAddrK prog 33 (.pointer (some ⟨n, 0, none⟩)) (.int .i64 1) K = K (.pointer (some ⟨n, 1, none⟩)) := fun {K} => idxA (k := 1) und_33 esz_3 (by decide)
      have hnl := get_lt c5
      refine aws_cut fun N hN => ?_
      refine aw_drawE (fun hp => hp[n]? = some (.cells [vint (x : Nat), vint (y : Nat)] 33 false)) [(3, 5), (5, 5), (6, 1)] 10 25 [1, 6] (by kernel_rfl) (by kernel_rfl) (by kernel_rfl) (by kernel_rfl) (by kernel_rfl) (by rfl) c5 ?_
      simp (config := {maxSteps := 2000000}) only [s9, ↓aw_region, ↓aw_skip, ↓aw_seq, ↓aw_block, ↓aw_exit, ↓aw_ret, ↓sops_nil, ↓sops_go, ↓dops_nil, ↓dopsX_nil, ↓dopsR_nil, ↓vdn, vup, extr_20, extr_21, extr_30, extr_31, extr_32, List.map_cons, List.map_nil, cond_true, cond_false, aop, aThen, aBlock, argEnv, ev, sput, sputO, binK, binI, unK, builtinK, pickK, Nat.reduceBEq, Nat.reduceAdd, Int.reduceBEq, Int.reduceBNe, Int.reduceLT, aPost, resK, tup, tyf, hx0, hx1, callK, List.nil_append, List.append_nil, List.toList_toArray, List.cons_append]
      refine ⟨_, _, list_det hv5 hne (by omega), ?_⟩
      obtain ⟨H, hH⟩ : ∃ H, H = h5 ++ [Blk.ints [] 3 false] ++ [Blk.ints o 3 false] := ⟨_, rfl⟩
      rw [← hH]
      have cH : H[n]? = some (.cells [vint (x : Nat), vint (y : Nat)] 33 false) := by rw [hH]; exact get_old (get_old c5 _) _
      have hvH : IntSl H (.slice (some ⟨h5.length + 1, 0, some 0⟩) o.length o.length) o := (OwnSl.int (e := 3) (.inr ⟨h5.length + 1, [], by simp, by rw [hH, List.getElem?_append_right (by simp)]; simp⟩))
      generalize (Value.slice (some ⟨h5.length + 1, 0, some 0⟩) o.length o.length) = l at hvH ⊢
      clear hH
      refine ⟨cH, ?_⟩
      refine ⟨vint x, fun hp hhp => by simp only [loadC0 hhp], vint y, fun hp hhp => by simp only [loadC1 hhp], _, _, hch hvH, rfl, ?_⟩
      obtain ⟨d1, hE1⟩ := frBox H X Y
      have cH2 := (hE1.2 _ (get_lt cH) id).trans cH
      simp (config := {maxSteps := 2000000}) only [s9, ↓aw_region, ↓aw_skip, ↓aw_seq, ↓aw_block, ↓aw_exit, ↓aw_ret, ↓sops_nil, ↓sops_go, ↓dops_nil, ↓dopsX_nil, ↓dopsR_nil, ↓vdn, vup, extr_20, extr_21, extr_30, extr_31, extr_32, List.map_cons, List.map_nil, cond_true, cond_false, aop, aThen, aBlock, argEnv, ev, sput, sputO, binK, binI, unK, builtinK, pickK, Nat.reduceBEq, Nat.reduceAdd, Int.reduceBEq, Int.reduceBNe, Int.reduceLT, aPost, resK, tup, tyf, allocK, newPtr, zero_37]
      refine ⟨get_old cH _, ?_⟩
      rw [storeQ rfl]
      generalize (H ++ [Blk.cells [.int .i64 0, .int .i64 0] 37 false]).set H.length (.cells [vint X, vint Y] 37 false) = h6 at d1 cH2 ⊢
      refine ⟨cH2, ?_⟩
      generalize H.length = k at d1 ⊢
      refine hN [(6, .bool false), (21, .pointer (some ⟨n, 0, none⟩)), (22, .int .i64 0), (25, .pointer (some ⟨k, 0, none⟩))] _ _ ?_ (by simp (config := {maxSteps := 2000000}) only [↓aw_region, ↓aw_skip, ↓aw_seq, ↓aw_block, ↓aw_exit, ↓aw_ret, ↓sops_nil, ↓sops_go, ↓dops_nil, ↓dopsX_nil, ↓dopsR_nil, ↓vdn, vup, extr_20, extr_21, extr_30, extr_31, extr_32, List.map_cons, List.map_nil, cond_true, cond_false, aop, aThen, aBlock, argEnv, ev, sput, sputO, binK, binI, unK, builtinK, pickK, Nat.reduceBEq, Nat.reduceAdd, Int.reduceBEq, Int.reduceBNe, Int.reduceLT, aPost, resK, tup, tyf])
      clear hN N
      exact sums_end cH2 d1 hxy f2 f3 f4 q1 q2
end Go.Proofs.Tryd.Am
