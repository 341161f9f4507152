/-
  ranks, plain: which numbers are the scores of a tournament: the greatest one taken away, and the sums of the least ones (Landau). What is decided of the short lists is decided by the kernel.
  ranks: the scores, rising.
  Printed by gen.py: the code of some functions, without what no step looks at; held against the program's own by the kernel.
  ranks: the cycles; whether a set has one; how many a set has.
  ranks: Clear and Cycles.
  ranks: slices of pairs: copies, whether a pair is in one.
  ranks: Turn.
  ranks: what the orders and the turned results are, plain.
  ranks: results turned, bit by bit; the law RanksFewer's plain part.
  ranks, plain: a round of the making of a tournament keeps what can be made.
  ranks: what the making of a tournament keeps (plain).
  ranks: the library's sort of a short slice by a function: insertion; the stable sort.
  Printed by gen.py: the code of some functions, without what no step looks at; held against the program's own by the kernel.
  ranks: a tournament with some scores: what is asked of the scores; the comparison; the last look.
  ranks: a tournament with some scores: the rounds of the making.
-/
import Derived.Test.YtemmcfeekpblkaaDoorPk7
import Derived.Test.YtemmcfeekpblkaaDoorPk3
import Derived.Test.YtemmcfeekpblkaaDoorProg
import Derived.KernelRfl
import Derived.Shelf.Abstract
set_option linter.all false
namespace Rb
set_option maxRecDepth 100000

/-- x put behind all that are not greater. -/
def insR (x : Nat) : List Nat → List Nat
  | [] => [x]
  | y :: l => if y ≤ x then y :: insR x l else x :: y :: l
def rising (l : List Nat) : List Nat := l.foldl (fun out x => insR x out) []
theorem insR_perm (x : Nat) : ∀ l, (insR x l).Perm (x :: l)
  | [] => .refl _
  | y :: l => by
    rw [insR]; split
    · exact ((insR_perm x l).cons y).trans (.swap x y l)
    · exact .refl _
theorem insR_sorted {x : Nat} : ∀ {l : List Nat}, l.Pairwise (· ≤ ·) → (insR x l).Pairwise (· ≤ ·)
  | [], _ => by simp [insR]
  | y :: l, h => by
    obtain ⟨h1, h2⟩ := List.pairwise_cons.1 h
    rw [insR]; split
    · rename_i hy
      refine List.pairwise_cons.2 ⟨fun z hz => ?_, insR_sorted h2⟩
      rcases List.mem_cons.1 ((insR_perm x l).mem_iff.1 hz) with rfl | hz
      · exact hy
      · exact h1 z hz
    · rename_i hy
      refine List.pairwise_cons.2 ⟨fun z hz => ?_, h⟩
      rcases List.mem_cons.1 hz with rfl | hz
      · omega
      · have := h1 z hz; omega
theorem rising_go : ∀ (l out : List Nat), out.Pairwise (· ≤ ·) → (l.foldl (fun out x => insR x out) out).Pairwise (· ≤ ·) ∧ (l.foldl (fun out x => insR x out) out).Perm (out ++ l)
  | [], out, h => ⟨h, by simp⟩
  | x :: l, out, h => by
    obtain ⟨h1, h2⟩ := rising_go l (insR x out) (insR_sorted h)
    refine ⟨h1, h2.trans ?_⟩
    exact ((insR_perm x out).append_right l).trans (by simpa using (List.perm_middle (a := x) (l₁ := out) (l₂ := l)).symm)
theorem rising_sorted (l : List Nat) : (rising l).Pairwise (· ≤ ·) := (rising_go l [] .nil).1
theorem rising_perm (l : List Nat) : (rising l).Perm l := (rising_go l [] .nil).2.trans (by simp)
theorem sorted_eq {a b : List Nat} (ha : a.Pairwise (· ≤ ·)) (hb : b.Pairwise (· ≤ ·)) (h : a.Perm b) : a = b :=
  h.eq_of_pairwise (fun _ _ _ _ h1 h2 => Nat.le_antisymm h1 h2) ha hb
theorem rising_eq {a l : List Nat} (ha : a.Pairwise (· ≤ ·)) (h : a.Perm l) : rising l = a := sorted_eq (rising_sorted l) ha ((rising_perm l).trans h.symm)
theorem rising_len (l : List Nat) : (rising l).length = l.length := (rising_perm l).length_eq

/-- What is left behind the greatest score: those with the least ones lose to it. -/
def red (l : List Nat) (d : Nat) : Option (List Nat) :=
  if d ≤ l.length ∧ (l.drop d).all (fun x => decide (0 < x)) = true then some (rising (l.take d ++ (l.drop d).map (· - 1))) else none
/-- Some tournament has these scores. -/
def poss : Nat → List Nat → Bool
  | 0, _ => false
  | k + 1, s => match s.reverse with
    | [] => false
    | d :: r => if r = [] then d == 0 else match red r.reverse d with
      | some t => poss k t
      | none => false
theorem poss_snoc (k : Nat) (r : List Nat) (d : Nat) : poss (k + 1) (r ++ [d]) = if r = [] then d == 0 else match red r d with
    | some t => poss k t
    | none => false := by
  rw [poss]
  simp only [List.reverse_append, List.reverse_cons, List.reverse_nil, List.nil_append, List.singleton_append, List.reverse_reverse, List.reverse_eq_nil_iff]
theorem red_spec {r t : List Nat} {d : Nat} (h : red r d = some t) : d ≤ r.length ∧ (∀ x ∈ r.drop d, 0 < x) ∧ t = rising (r.take d ++ (r.drop d).map (· - 1)) := by
  rw [red] at h
  split at h
  · rename_i hc
    cases h
    exact ⟨hc.1, fun x hx => by simpa using List.all_eq_true.1 hc.2 x hx, rfl⟩
  · cases h
theorem red_le {r t : List Nat} {d m : Nat} (h : red r d = some t) (hm : ∀ x ∈ r, x ≤ m) : ∀ x ∈ t, x ≤ m := by
  obtain ⟨h1, h2, rfl⟩ := red_spec h
  intro x hx
  rcases List.mem_append.1 ((rising_perm _).mem_iff.1 hx) with hx | hx
  · exact hm x (List.mem_of_mem_take hx)
  · obtain ⟨y, hy, rfl⟩ := List.mem_map.1 hx
    have := hm y (List.mem_of_mem_drop hy); omega
end Rb

namespace Go.Proofs.Tryd.Am
open Go.Am Rb
set_option maxRecDepth 100000
set_option maxHeartbeats 1000000

/-- A slice of ints that a run makes, behind what was there. -/
def RSI (h hp : Heap) (ov : Value) (xs : List Int) : Prop := OwnSl 3 hp ov xs ∧ Ext (fun _ => False) h hp ∧ ∀ b, blkOf ov = some b → h.length ≤ b
theorem RSI.nil (h : Heap) : RSI h h (.slice none 0 0) [] := ⟨.inl ⟨rfl, rfl⟩, Ext.refl _ _, fun b hb => by cases hb⟩
theorem RSI.push {h hp : Heap} {ov : Value} {xs : List Int} (s : RSI h hp ov xs) {x : Int} (hn : xs.length < 1099511627776) {K : Value → Heap → Prop} (hk : ∀ v' h', RSI h h' v' (xs ++ [x]) → K v' h') :
    appendK prog (hp ++ [.ints [x] 3 false]) 22 22 ov (.slice (some ⟨hp.length, 0, none⟩) 1 1) K := by
  obtain ⟨hown, hE, hblk⟩ := s
  have hx1 : Ext (fun _ => False) hp (hp ++ [.ints [x] 3 false]) := Ext.app _ _ _
  refine (hown.ext hx1 fun _ _ => id).append app_22_22 hn (get_new _ _) fun v' h' ho hE' hb => hk v' h' ⟨ho, ?_, fun b hbb => ?_⟩
  · have h1 := hE.1
    have h2 := hx1.1
    have h3 := hE'.1
    refine ⟨by omega, fun i hi _ => ?_⟩
    rw [hE'.2 i (by omega) fun hbb => by have := hblk i hbb; omega, hx1.2 i (by omega) id]
    exact hE.2 i hi id
  · rcases hb with h1 | ⟨b', h1, h2⟩
    · exact hblk b (h1 ▸ hbb)
    · rw [h1] at hbb; cases hbb; have := hE.1; have := hx1.1; omega

/-- How many a player beats. -/
def scr (x : Int) : Nat := (Am.bits x.toNat).length
def scL (xs : List Int) : List Nat := xs.map scr
theorem scr_le (x : Int) : scr x ≤ 64 := by rw [scr, Am.bits]; exact Nat.le_trans (List.length_filter_le _ _) (by simp)
theorem scL_snoc {xs : List Int} {i : Nat} (hi : i < xs.length) : iL (scL (xs.take (i + 1))) = iL (scL (xs.take i)) ++ [((scr (xs.getD i 0) : Nat) : Int)] := by
  have e : xs.take (i + 1) = xs.take i ++ [xs.getD i 0] := by rw [List.take_add_one, List.getD, List.getElem?_eq_getElem hi]; rfl
  rw [e, scL, List.map_append, iL, List.map_append]; rfl

theorem s48_callW [Tabs Tryd.prog] {args : List Value} {h : Heap} {Q : Value → Heap → Prop} (hsz : args.length ≤ 25) (hk : AWS Tryd.prog 25 s48 (aPost Tryd.prog [.tmp 2, .tmp 3] Q) (argEnv 0 args) h) : ACall Tryd.prog 48 args h Q :=
  acall_w Tryd.func48 rfl (enters_of Tryd.func48 (by kernel_rfl) rfl) rfl rfl (by decide) s48_strip s48_ok hsz hk
theorem scores_call [BitTab prog 1] {h : Heap} {v : Value} {xs : List Int} (hv : IntSl h v xs) (hl : xs.length < 9223372036854775808) (hx : ∀ x ∈ xs, -9223372036854775808 ≤ x ∧ x < 9223372036854775808) :
    ACall prog 48 [v] h fun r h' => Ext (fun _ => False) h h' ∧ if trn xs = true then ∃ w, r = .tuple #[w, .int .i64 0] ∧ OwnSl 3 h' w (iL (rising (scL xs))) else r = .tuple #[.slice none 0 0, .int .i64 2] := by
  refine s48_callW (by simp) ?_
  simp only [s48]
  refine aws_cut fun N1 hN1 => ?_
  simp (maxSteps := 2000000) only [s48, ↓aw_region, ↓aw_skip, ↓aw_seq, ↓aw_block, ↓aw_exit, ↓aw_ret, ↓sops_nil, ↓sops_go, ↓dops_nil, ↓dopsX_nil, ↓dopsR_nil, ↓vdn, vup, extr_20, extr_21, extr_30, extr_31, extr_32, List.map_cons, List.map_nil, cond_true, cond_false, aop, aThen, aBlock, argEnv, ev, sput, sputO, binK, binI, unK, builtinK, pickK, Nat.reduceBEq, Nat.reduceAdd, Int.reduceBEq, Int.reduceBNe, Int.reduceLT, aPost, resK, tup, tyf]
  refine hN1 [(0, v), (2, .slice none 0 0), (3, .int .i64 0)] _ _ ?_ (by simp (maxSteps := 2000000) only [↓aw_region, ↓aw_skip, ↓aw_seq, ↓aw_block, ↓aw_exit, ↓aw_ret, ↓sops_nil, ↓sops_go, ↓dops_nil, ↓dopsX_nil, ↓dopsR_nil, ↓vdn, vup, extr_20, extr_21, extr_30, extr_31, extr_32, List.map_cons, List.map_nil, cond_true, cond_false, aop, aThen, aBlock, argEnv, ev, sput, sputO, binK, binI, unK, builtinK, pickK, Nat.reduceBEq, Nat.reduceAdd, Int.reduceBEq, Int.reduceBNe, Int.reduceLT, aPost, resK, tup, tyf])
  clear hN1
  try clear N1
  refine aws_cut fun N2 hN2 => ?_
  simp (maxSteps := 2000000) only [s48, ↓aw_region, ↓aw_skip, ↓aw_seq, ↓aw_block, ↓aw_exit, ↓aw_ret, ↓sops_nil, ↓sops_go, ↓dops_nil, ↓dopsX_nil, ↓dopsR_nil, ↓vdn, vup, extr_20, extr_21, extr_30, extr_31, extr_32, List.map_cons, List.map_nil, cond_true, cond_false, aop, aThen, aBlock, argEnv, ev, sput, sputO, binK, binI, unK, builtinK, pickK, Nat.reduceBEq, Nat.reduceAdd, Int.reduceBEq, Int.reduceBNe, Int.reduceLT, aPost, resK, tup, tyf, callK, List.nil_append, List.append_nil, List.toList_toArray, List.cons_append]
  refine (valid_call hv hl hx).mono ?_
  rintro _ h ⟨rfl, rfl⟩
  cases ht : trn xs with
  | false =>
    simp (maxSteps := 2000000) only [s48, ↓aw_region, ↓aw_skip, ↓aw_seq, ↓aw_block, ↓aw_exit, ↓aw_ret, ↓sops_nil, ↓sops_go, ↓dops_nil, ↓dopsX_nil, ↓dopsR_nil, ↓vdn, vup, extr_20, extr_21, extr_30, extr_31, extr_32, List.map_cons, List.map_nil, cond_true, cond_false, aop, aThen, aBlock, argEnv, ev, sput, sputO, binK, binI, unK, builtinK, pickK, Nat.reduceBEq, Nat.reduceAdd, Int.reduceBEq, Int.reduceBNe, Int.reduceLT, aPost, resK, tup, tyf, Bool.not_false]
    exact ⟨Ext.refl _ _, by rw [if_neg (by decide)]; trivial⟩
  | true =>
  have hxl := trn_len ht
  simp (maxSteps := 2000000) only [s48, ↓aw_region, ↓aw_skip, ↓aw_seq, ↓aw_block, ↓aw_exit, ↓aw_ret, ↓sops_nil, ↓sops_go, ↓dops_nil, ↓dopsX_nil, ↓dopsR_nil, ↓vdn, vup, extr_20, extr_21, extr_30, extr_31, extr_32, List.map_cons, List.map_nil, cond_true, cond_false, aop, aThen, aBlock, argEnv, ev, sput, sputO, binK, binI, unK, builtinK, pickK, Nat.reduceBEq, Nat.reduceAdd, Int.reduceBEq, Int.reduceBNe, Int.reduceLT, aPost, resK, tup, tyf, Bool.not_true]
  refine hN2 [(0, v), (2, .slice none 0 0), (3, .int .i64 0)] _ _ ?_ (by simp (maxSteps := 2000000) only [↓aw_region, ↓aw_skip, ↓aw_seq, ↓aw_block, ↓aw_exit, ↓aw_ret, ↓sops_nil, ↓sops_go, ↓dops_nil, ↓dopsX_nil, ↓dopsR_nil, ↓vdn, vup, extr_20, extr_21, extr_30, extr_31, extr_32, List.map_cons, List.map_nil, cond_true, cond_false, aop, aThen, aBlock, argEnv, ev, sput, sputO, binK, binI, unK, builtinK, pickK, Nat.reduceBEq, Nat.reduceAdd, Int.reduceBEq, Int.reduceBNe, Int.reduceLT, aPost, resK, tup, tyf])
  clear hN2
  try clear N2
  refine aws_cut fun N3 hN3 => ?_
  simp (maxSteps := 2000000) only [s48, ↓aw_region, ↓aw_skip, ↓aw_seq, ↓aw_block, ↓aw_exit, ↓aw_ret, ↓sops_nil, ↓sops_go, ↓dops_nil, ↓dopsX_nil, ↓dopsR_nil, ↓vdn, vup, extr_20, extr_21, extr_30, extr_31, extr_32, List.map_cons, List.map_nil, cond_true, cond_false, aop, aThen, aBlock, argEnv, ev, sput, sputO, binK, binI, unK, builtinK, pickK, Nat.reduceBEq, Nat.reduceAdd, Int.reduceBEq, Int.reduceBNe, Int.reduceLT, aPost, resK, tup, tyf]
  refine hN3 [(0, v), (2, .slice none 0 0), (3, .int .i64 0), (4, .slice none 0 0)] _ _ ?_ (by simp (maxSteps := 2000000) only [↓aw_region, ↓aw_skip, ↓aw_seq, ↓aw_block, ↓aw_exit, ↓aw_ret, ↓sops_nil, ↓sops_go, ↓dops_nil, ↓dopsX_nil, ↓dopsR_nil, ↓vdn, vup, extr_20, extr_21, extr_30, extr_31, extr_32, List.map_cons, List.map_nil, cond_true, cond_false, aop, aThen, aBlock, argEnv, ev, sput, sputO, binK, binI, unK, builtinK, pickK, Nat.reduceBEq, Nat.reduceAdd, Int.reduceBEq, Int.reduceBNe, Int.reduceLT, aPost, resK, tup, tyf])
  clear hN3
  try clear N3
  refine aws_cut fun Z hZ => ?_
  simp (maxSteps := 2000000) only [s48, ↓aw_region, ↓aw_skip, ↓aw_seq, ↓aw_block, ↓aw_exit, ↓aw_ret, ↓sops_nil, ↓sops_go, ↓dops_nil, ↓dopsX_nil, ↓dopsR_nil, ↓vdn, vup, extr_20, extr_21, extr_30, extr_31, extr_32, List.map_cons, List.map_nil, cond_true, cond_false, aop, aThen, aBlock, argEnv, ev, sput, sputO, binK, binI, unK, builtinK, pickK, Nat.reduceBEq, Nat.reduceAdd, Int.reduceBEq, Int.reduceBNe, Int.reduceLT, aPost, resK, tup, tyf, hv.len, ↓aw_loop_eq]
  refine aws_hide fun Q hQ => ?_
  refine aw_loop (γ := Nat × Value × Heap) (fun s => s.1 ≤ xs.length ∧ RSI h s.2.2 s.2.1 (iL (scL (xs.take s.1))))
    (fun s => ([(0, v), (2, .slice none 0 0), (3, .int .i64 0), (4, s.2.1), (10, v), (11, vint xs.length), (12, vint s.1)], s.2.2)) (fun s => xs.length - s.1) (0, .slice none 0 0, h) ⟨Nat.zero_le _, RSI.nil h⟩ (by simp (maxSteps := 2000000) only [↓aw_region, ↓aw_skip, ↓aw_seq, ↓aw_block, ↓aw_exit, ↓aw_ret, ↓sops_nil, ↓sops_go, ↓dops_nil, ↓dopsX_nil, ↓dopsR_nil, ↓vdn, vup, extr_20, extr_21, extr_30, extr_31, extr_32, List.map_cons, List.map_nil, cond_true, cond_false, aop, aThen, aBlock, argEnv, ev, sput, sputO, binK, binI, unK, builtinK, pickK, Nat.reduceBEq, Nat.reduceAdd, Int.reduceBEq, Int.reduceBNe, Int.reduceLT, aPost, resK, tup, tyf, Int.natCast_zero]) rfl ?_
  rintro ⟨j, w0, hp⟩ ⟨hj, hs⟩
  simp only at hj hs
  refine aw_hide fun Q2 hQ2 => ?_
  have hv1 := IntSl_ext hv hs.2.1
  by_cases hjn : (j : Int) < xs.length
  · have hj' : j < xs.length := by omega
    obtain ⟨e, hlt⟩ := trn_nat ht hj'
    have h256 := pow8N hxl.2
    have hc := count_call (h := hp) (show (xs.getD j 0).toNat < 256 by omega)
    rw [← e] at hc
    simp (maxSteps := 2000000) only [s48, ↓aw_region, ↓aw_skip, ↓aw_seq, ↓aw_block, ↓aw_exit, ↓aw_ret, ↓sops_nil, ↓sops_go, ↓dops_nil, ↓dopsX_nil, ↓dopsR_nil, ↓vdn, vup, extr_20, extr_21, extr_30, extr_31, extr_32, List.map_cons, List.map_nil, cond_true, cond_false, aop, aThen, aBlock, argEnv, ev, sput, sputO, binK, binI, unK, builtinK, pickK, Nat.reduceBEq, Nat.reduceAdd, Int.reduceBEq, Int.reduceBNe, Int.reduceLT, aPost, resK, tup, tyf, l48_0, hjn, hv1.idx el_22 esz_3 hj', hv1.load shp_3 hj', callK, List.nil_append, List.append_nil, List.toList_toArray, List.cons_append]
    refine hc.mono ?_
    rintro _ hp ⟨rfl, rfl⟩
    simp (maxSteps := 2000000) only [s48, ↓aw_region, ↓aw_skip, ↓aw_seq, ↓aw_block, ↓aw_exit, ↓aw_ret, ↓sops_nil, ↓sops_go, ↓dops_nil, ↓dopsX_nil, ↓dopsR_nil, ↓vdn, vup, extr_20, extr_21, extr_30, extr_31, extr_32, List.map_cons, List.map_nil, cond_true, cond_false, aop, aThen, aBlock, argEnv, ev, sput, sputO, binK, binI, unK, builtinK, pickK, Nat.reduceBEq, Nat.reduceAdd, Int.reduceBEq, Int.reduceBNe, Int.reduceLT, aPost, resK, tup, tyf, litI1]
    refine hs.push (by rw [iL_len, scL, List.length_map, List.length_take]; omega) fun v' h' s' => ?_
    simp (maxSteps := 2000000) only [s48, ↓aw_region, ↓aw_skip, ↓aw_seq, ↓aw_block, ↓aw_exit, ↓aw_ret, ↓sops_nil, ↓sops_go, ↓dops_nil, ↓dopsX_nil, ↓dopsR_nil, ↓vdn, vup, extr_20, extr_21, extr_30, extr_31, extr_32, List.map_cons, List.map_nil, cond_true, cond_false, aop, aThen, aBlock, argEnv, ev, sput, sputO, binK, binI, unK, builtinK, pickK, Nat.reduceBEq, Nat.reduceAdd, Int.reduceBEq, Int.reduceBNe, Int.reduceLT, aPost, resK, tup, tyf, add1 (show j < 9223372036854775807 by omega)]
    refine hQ2 _ _ _ ⟨(j + 1, v', h'), ⟨by simp only; omega, by rw [scL_snoc hj']; exact s'⟩, by simp only; omega, by simp (maxSteps := 2000000) only [↓aw_region, ↓aw_skip, ↓aw_seq, ↓aw_block, ↓aw_exit, ↓aw_ret, ↓sops_nil, ↓sops_go, ↓dops_nil, ↓dopsX_nil, ↓dopsR_nil, ↓vdn, vup, extr_20, extr_21, extr_30, extr_31, extr_32, List.map_cons, List.map_nil, cond_true, cond_false, aop, aThen, aBlock, argEnv, ev, sput, sputO, binK, binI, unK, builtinK, pickK, Nat.reduceBEq, Nat.reduceAdd, Int.reduceBEq, Int.reduceBNe, Int.reduceLT, aPost, resK, tup, tyf], rfl⟩
  · obtain rfl : j = xs.length := by omega
    simp (maxSteps := 2000000) only [s48, ↓aw_region, ↓aw_skip, ↓aw_seq, ↓aw_block, ↓aw_exit, ↓aw_ret, ↓sops_nil, ↓sops_go, ↓dops_nil, ↓dopsX_nil, ↓dopsR_nil, ↓vdn, vup, extr_20, extr_21, extr_30, extr_31, extr_32, List.map_cons, List.map_nil, cond_true, cond_false, aop, aThen, aBlock, argEnv, ev, sput, sputO, binK, binI, unK, builtinK, pickK, Nat.reduceBEq, Nat.reduceAdd, Int.reduceBEq, Int.reduceBNe, Int.reduceLT, aPost, resK, tup, tyf, l48_0, Int.lt_irrefl]
    refine hQ2 _ _ _ (hQ _ _ _ ?_)
    simp (maxSteps := 2000000) only [s48, ↓aw_region, ↓aw_skip, ↓aw_seq, ↓aw_block, ↓aw_exit, ↓aw_ret, ↓sops_nil, ↓sops_go, ↓dops_nil, ↓dopsX_nil, ↓dopsR_nil, ↓vdn, vup, extr_20, extr_21, extr_30, extr_31, extr_32, List.map_cons, List.map_nil, cond_true, cond_false, aop, aThen, aBlock, argEnv, ev, sput, sputO, binK, binI, unK, builtinK, pickK, Nat.reduceBEq, Nat.reduceAdd, Int.reduceBEq, Int.reduceBNe, Int.reduceLT, aPost, resK, tup, tyf, if_true]
    refine hZ [(0, v), (2, .slice none 0 0), (3, .int .i64 0), (4, w0)] _ _ ?_ (by simp (maxSteps := 2000000) only [↓aw_region, ↓aw_skip, ↓aw_seq, ↓aw_block, ↓aw_exit, ↓aw_ret, ↓sops_nil, ↓sops_go, ↓dops_nil, ↓dopsX_nil, ↓dopsR_nil, ↓vdn, vup, extr_20, extr_21, extr_30, extr_31, extr_32, List.map_cons, List.map_nil, cond_true, cond_false, aop, aThen, aBlock, argEnv, ev, sput, sputO, binK, binI, unK, builtinK, pickK, Nat.reduceBEq, Nat.reduceAdd, Int.reduceBEq, Int.reduceBNe, Int.reduceLT, aPost, resK, tup, tyf])
    clear hZ
    try clear Z
    rw [List.take_length] at hs
    obtain ⟨hown, hE, hblk⟩ := hs
    rcases hown with ⟨_, hnil⟩ | ⟨b, ys, hov, hb⟩
    · have : xs = [] := by simpa [iL, scL] using hnil
      rw [this] at hxl; simp at hxl
    · have hbl := hblk b (by rw [hov]; rfl)
      have hsl : (scL xs).length = xs.length := by simp [scL]
      refine aws_cut fun N4 hN4 => ?_
      simp (maxSteps := 2000000) only [s48, ↓aw_region, ↓aw_skip, ↓aw_seq, ↓aw_block, ↓aw_exit, ↓aw_ret, ↓sops_nil, ↓sops_go, ↓dops_nil, ↓dopsX_nil, ↓dopsR_nil, ↓vdn, vup, extr_20, extr_21, extr_30, extr_31, extr_32, List.map_cons, List.map_nil, cond_true, cond_false, aop, aThen, aBlock, argEnv, ev, sput, sputO, binK, binI, unK, builtinK, pickK, Nat.reduceBEq, Nat.reduceAdd, Int.reduceBEq, Int.reduceBNe, Int.reduceLT, aPost, resK, tup, tyf, callK, List.nil_append, List.append_nil, List.toList_toArray, List.cons_append]
      refine ((show ACall prog 81 [w0] hp _ from by rw [hov, iL_len]; exact sortO_call hb (by omega) (fun x hx => by obtain ⟨y, _, rfl⟩ := List.mem_map.1 hx; have := scr_le y; omega))).mono ?_
      rintro r h' ⟨L, hp1, hp2, rfl⟩
      refine hN4 [(0, v), (2, .slice none 0 0), (3, .int .i64 0), (4, w0)] _ _ ?_ (by simp (maxSteps := 2000000) only [↓aw_region, ↓aw_skip, ↓aw_seq, ↓aw_block, ↓aw_exit, ↓aw_ret, ↓sops_nil, ↓sops_go, ↓dops_nil, ↓dopsX_nil, ↓dopsR_nil, ↓vdn, vup, extr_20, extr_21, extr_30, extr_31, extr_32, List.map_cons, List.map_nil, cond_true, cond_false, aop, aThen, aBlock, argEnv, ev, sput, sputO, binK, binI, unK, builtinK, pickK, Nat.reduceBEq, Nat.reduceAdd, Int.reduceBEq, Int.reduceBNe, Int.reduceLT, aPost, resK, tup, tyf])
      clear hN4
      try clear N4
      obtain rfl : L = rising (scL xs) := (rising_eq hp2 hp1).symm
      refine aw_aws ?_
      simp (maxSteps := 2000000) only [s48, ↓aw_region, ↓aw_skip, ↓aw_seq, ↓aw_block, ↓aw_exit, ↓aw_ret, ↓sops_nil, ↓sops_go, ↓dops_nil, ↓dopsX_nil, ↓dopsR_nil, ↓vdn, vup, extr_20, extr_21, extr_30, extr_31, extr_32, List.map_cons, List.map_nil, cond_true, cond_false, aop, aThen, aBlock, argEnv, ev, sput, sputO, binK, binI, unK, builtinK, pickK, Nat.reduceBEq, Nat.reduceAdd, Int.reduceBEq, Int.reduceBNe, Int.reduceLT, aPost, resK, tup, tyf]
      refine ⟨⟨by have := hE.1; simp; omega, fun i hi _ => by rw [List.getElem?_set_ne (by omega)]; exact hE.2 i hi id⟩, ?_⟩
      rw [if_pos ht]
      refine ⟨_, rfl, .inr ⟨b, ys, ?_, get_set (get_lt hb) _⟩⟩
      rw [hov, iL_len, iL_len, rising_len]
end Go.Proofs.Tryd.Am

namespace Go.Proofs.Tryd.Am
open Go.Am
set_option maxRecDepth 100000
end Go.Proofs.Tryd.Am

namespace Go.Proofs.Tryd.Am
open Go.Am
set_option maxRecDepth 100000
set_option maxHeartbeats 1000000

/-- The cycles under way: t's box and the list's box; what lay before lies as it lay. -/
structure CS (h : Heap) (n : Nat) (v : Value) (hp : Heap) (ov : Value) (ts : List T3) : Prop where
  t : hp[n]? = some (.cells [v] 55 false)
  o : hp[n + 1]? = some (.cells [ov] 36 false)
  own : OwnT 40 hp ov ts
  blk : ∀ b, blkOf ov = some b → n + 2 ≤ b
  ext : Ext (fun _ => False) h hp
  len : h.length = n
/-- What a part of the run may touch. -/
def cS (n : Nat) (ov : Value) (i : Nat) : Prop := i = n + 1 ∨ blkOf ov = some i
def Mv (n : Nat) (ov : Value) (h : Heap) (ov' : Value) (h' : Heap) : Prop := Ext (cS n ov) h h' ∧ (blkOf ov' = blkOf ov ∨ ∃ b, blkOf ov' = some b ∧ h.length ≤ b)
section
variable {h hp hq : Heap} {n : Nat} {v ov ov' ov2 : Value} {ts : List T3}
theorem _root_.Go.Am.OwnT.notCells {e e2 : TypeId} {c : List Value} {ro : Bool} {j : Nat} (ho : OwnT e hp v ts) (hj : hp[j]? = some (.cells c e2 ro)) : blkOf v ≠ some j := fun hb => by
  obtain ⟨ys, hy⟩ := ho.ints hb
  rw [hj] at hy; cases hy
theorem CS.new (s : CS h n v hp ov ts) (hE : Ext (fun _ => False) hp hq) : CS h n v hq ov ts :=
  ⟨(hE.2 _ (get_lt s.t) id).trans s.t, (hE.2 _ (get_lt s.o) id).trans s.o, s.own.ext hE, s.blk, s.ext.trans hE, s.len⟩
theorem Mv.new (hE : Ext (fun _ => False) hp hq) : Mv n ov hp ov hq := ⟨hE.mono fun _ h => h.elim, .inl rfl⟩
theorem Mv.trans (a : Mv n ov h ov' hp) (b : Mv n ov' hp ov2 hq) (hn : n + 1 < h.length) : Mv n ov h ov2 hq := by
  have hl := a.1.1
  refine ⟨⟨Nat.le_trans hl b.1.1, fun i hi hs => ?_⟩, ?_⟩
  · rw [b.1.2 i (by omega) ?_, a.1.2 i hi hs]
    rintro (h1 | h1)
    · exact hs (.inl h1)
    · rcases a.2 with h2 | ⟨b', h2, h3⟩
      · exact hs (.inr (h2 ▸ h1))
      · rw [h2] at h1; cases h1; omega
  · rcases b.2 with h1 | ⟨b', h1, h2⟩
    · rw [h1]; exact a.2
    · exact .inr ⟨b', h1, by omega⟩
theorem Mv.box (m : Mv n ov hp ov' hq) (s : CS h n v hp ov ts) {j : Nat} {c : List Value} {e : TypeId} {ro : Bool} (hj : hp[j]? = some (.cells c e ro)) (hn : n + 2 ≤ j) : hq[j]? = some (.cells c e ro) := by
  rw [m.1.2 j (get_lt hj) ?_]
  · exact hj
  · rintro (h1 | h1)
    · omega
    · exact s.own.notCells hj h1
/-- One cycle more. -/
theorem CS.push (s : CS h n v hp ov ts) {t : T3} (hE : Ext (fun i => blkOf ov = some i) hp hq) (ho : OwnT 40 hq ov' (ts ++ [t])) (hb : blkOf ov' = blkOf ov ∨ ∃ b, blkOf ov' = some b ∧ hp.length ≤ b) :
    CS h n v (hq.set (n + 1) (.cells [ov'] 36 false)) ov' (ts ++ [t]) ∧ Mv n ov hp ov' (hq.set (n + 1) (.cells [ov'] 36 false)) := by
  have hl := hE.1
  have ho1 := get_lt s.o
  have hnb : ∀ b, blkOf ov' = some b → n + 2 ≤ b := fun b hbb => by
    rcases hb with h1 | ⟨b', h1, h2⟩
    · exact s.blk b (h1 ▸ hbb)
    · rw [h1] at hbb; cases hbb; omega
  refine ⟨⟨?_, get_set (by omega) _, ?_, hnb, ⟨?_, fun i hi _ => ?_⟩, s.len⟩, ⟨(hE.mono fun _ h => .inr h).trans (Ext.set _ (.inl rfl)), hb⟩⟩
  · rw [List.getElem?_set_ne (by omega), hE.2 _ (get_lt s.t) (s.own.notCells s.t)]; exact s.t
  · exact ho.same fun b hbb => List.getElem?_set_ne (by have := hnb b hbb; omega)
  · have := s.ext.1; simp; omega
  · have := s.ext.1
    have hsl := s.len
    rw [List.getElem?_set_ne (by omega), hE.2 i (by omega) fun hbb => by have := s.blk i hbb; omega]
    exact s.ext.2 i hi id
end
end Go.Proofs.Tryd.Am

namespace Go.Proofs.Tryd.Am
open Go.Am
set_option maxRecDepth 100000
set_option maxHeartbeats 1000000

end Go.Proofs.Tryd.Am

namespace Go.Proofs.Tryd.Am
open Go.Am
set_option maxRecDepth 100000
set_option maxHeartbeats 1000000

end Go.Proofs.Tryd.Am

namespace Go.Proofs.Tryd.Am
open Go.Am
set_option maxRecDepth 100000
set_option maxHeartbeats 1000000

/-- A result turned in a player's set. -/
def xI (a : Int) (m : Nat) : Int := ((a.toNat ^^^ 2 ^ m : Nat) : Int)
def half (t : List Int) (i j : Nat) : List Int := t.set i (xI (t.getD i 0) j)
section
variable {h : Heap} {t e : TypeId} {b o n c k : Nat} {xs : List Int} {ro : Bool}
theorem idxW {K : Value → Prop} (hk : k < n) : idxAddrK prog 22 (.slice (some ⟨b, 0, some 0⟩) n c) (vint (k : Nat)) K = K (.pointer (some ⟨b, k, none⟩)) := by
  simp only [idxAddrK, el_22, esz_3, Int.natCast_nonneg, Int.toNat_natCast, Nat.mul_one, Nat.zero_add, true_and, Int.ofNat_lt.2 hk]
theorem loadX {K : Value → Prop} (hb : h[b]? = some (.ints xs e ro)) (ho : o < xs.length) : loadK prog h 3 (.pointer (some ⟨b, o, none⟩)) K = K (vint (xs.getD o 0)) := by
  simp only [loadK, shp_3, cellK, hb, ho, true_and]
theorem storeX {K : Heap → Prop} {x : Int} (hb : h[b]? = some (.ints xs e false)) (ho : o < xs.length) : storeK prog h 3 (.pointer (some ⟨b, o, none⟩)) (vint x) K = K (h.set b (.ints (xs.set o x) e false)) := by
  simp only [storeK, shp_3, hb, ho, true_and]
end
/-- A copy of a list, in a block of its own. -/
def Fresh (h : Heap) (xs : List Int) (r : Value) (h' : Heap) : Prop := ∃ b, r = .slice (some ⟨b, 0, some 0⟩) xs.length xs.length ∧ h'[b]? = some (.ints xs 3 false) ∧ h.length ≤ b ∧ Ext (fun _ => False) h h'
theorem lit0I {h : Heap} (K : Value → Heap → Prop) : buildSliceK prog h 22 0 [] K = K (.slice (some ⟨h.length, 0, none⟩) 0 0) (h ++ [.ints [] 3 false]) := by
  simp only [buildSliceK, el_22, zero_3, esz_3, reps, fillL, mkb, intsOf, List.length_cons, List.length_nil, Nat.mul_one, Nat.zero_mul]
  exact propext ⟨fun h => h.2.2.2, fun h => ⟨trivial, by decide, by decide, h⟩⟩
theorem appFresh {h : Heap} {v : Value} {xs : List Int} (hv : IntSl h v xs) (hx : xs ≠ []) (hl : xs.length < 1099511627776) {K : Value → Heap → Prop} (hk : ∀ r h', Fresh h xs r h' → K r h') :
    appendK prog (h ++ [.ints [] 3 false]) 22 22 (.slice (some ⟨h.length, 0, none⟩) 0 0) v K := by
  refine (hv.grow [.ints [] 3 false]).copyOwn hx app_22_22 hl (by rw [List.getElem?_append_right (Nat.le_refl _)]; simp) ?_
  refine hk _ _ ⟨h.length + 1, ?_, ?_, by omega, by rw [List.append_assoc]; exact Ext.app _ _ _⟩
  · simp
  · rw [List.getElem?_append_right (by simp)]; simp
theorem clone_fresh [Tabs prog] {h : Heap} {v : Value} {xs : List Int} (hv : IntSl h v xs) (hx : xs ≠ []) (hl : xs.length < 1099511627776) : ACall prog 46 [v] h fun r h' => Fresh h xs r h' := by
  refine s46_call (by simp) ?_
  have hv' := hv
  rcases hv with ⟨rfl, rfl⟩ | ⟨b, o, sp, cap, c, e, ro, rfl, hc, hb, _⟩
  · exact absurd rfl hx
  · simp (maxSteps := 2000000) only [s46, ↓aw_region, ↓aw_skip, ↓aw_seq, ↓aw_block, ↓aw_exit, ↓aw_ret, ↓sops_nil, ↓sops_go, ↓dops_nil, ↓dopsX_nil, ↓dopsR_nil, ↓vdn, vup, extr_20, extr_21, extr_30, extr_31, extr_32, List.map_cons, List.map_nil, cond_true, cond_false, aop, aThen, aBlock, argEnv, ev, sput, sputO, binK, binI, unK, builtinK, pickK, Nat.reduceBEq, Nat.reduceAdd, Int.reduceBEq, Int.reduceBNe, Int.reduceLT, aPost, resK, tup, tyf, Option.isSome_some, List.toList_toArray, lit0I]
    refine appFresh hv' hx hl fun r h' hf => ?_
    exact hf

end Go.Proofs.Tryd.Am

namespace Go.Proofs.Tryd.Am
open Go.Am Rb
set_option maxRecDepth 100000
set_option maxHeartbeats 1000000

abbrev nl (os : List Int) : List Nat := os.map Int.toNat
end Go.Proofs.Tryd.Am

namespace Go.Proofs.Tryd.Am
open Go.Am Rb
set_option maxRecDepth 100000
set_option maxHeartbeats 1000000

def hit (i j x y : Nat) : Bool := decide (x = i ∧ y = j) ^^ decide (x = j ∧ y = i)
theorem trn_iff {xs : List Int} : trn xs = true ↔ (1 ≤ xs.length ∧ xs.length ≤ 8) ∧ ∀ i, i < xs.length → 0 ≤ xs.getD i 0 ∧ xs.getD i 0 < 2 ^ xs.length ∧ bb xs i i = false ∧ ∀ j, j < i → bb xs i j ≠ bb xs j i := by
  simp only [trn, okAt, Bool.and_eq_true, decide_eq_true_eq, List.all_eq_true, List.mem_range, Bool.not_eq_true', bne_iff_ne, bb, and_assoc]
end Go.Proofs.Tryd.Am

namespace Rb
/-- Whether the players that are left, with what they must still win, can be served. -/
def possE : Nat → List Nat → Bool
  | 0, _ => true
  | k + 1, s => poss (k + 1) s
def gd (L : List Nat) (f : Nat → Int) : Bool := L.all (fun x => decide (0 ≤ f x)) && possE L.length (rising (L.map fun x => (f x).toNat))
theorem gd_perm {L L' : List Nat} (h : L.Perm L') (f : Nat → Int) : gd L f = gd L' f := by
  have h1 : L.all (fun x => decide (0 ≤ f x)) = L'.all (fun x => decide (0 ≤ f x)) := by
    rw [Bool.eq_iff_iff, List.all_eq_true, List.all_eq_true]
    exact ⟨fun g x hx => g x (h.mem_iff.2 hx), fun g x hx => g x (h.mem_iff.1 hx)⟩
  rw [gd, gd, h1, h.length_eq, rising_eq (rising_sorted _) ((rising_perm _).trans (h.map _).symm)]
theorem gd_start {s : List Nat} (hs : s.Pairwise (· ≤ ·)) (hne : s ≠ []) {L : List Nat} {f : Nat → Int} (hL : L.map f = s.map Int.ofNat) : gd L f = poss s.length s := by
  have hlen : L.length = s.length := by simpa using congrArg List.length hL
  have h1 : L.all (fun x => decide (0 ≤ f x)) = true := by
    rw [List.all_eq_true]
    intro x hx
    have : f x ∈ s.map Int.ofNat := by rw [← hL]; exact List.mem_map_of_mem hx
    obtain ⟨y, _, hy⟩ := List.mem_map.1 this
    rw [← hy]; exact decide_eq_true (Int.natCast_nonneg y)
  have h2 : L.map (fun x => (f x).toNat) = s := by
    have := congrArg (List.map Int.toNat) hL
    rw [List.map_map, List.map_map] at this
    exact this.trans ((List.map_congr_left fun x _ => rfl).trans (List.map_id s))
  rw [gd, h1, h2, rising_eq hs (.refl _), Bool.true_and, hlen]
  cases s with
  | nil => exact absurd rfl hne
  | cons x s => rfl
theorem gd_neg {L : List Nat} {f : Nat → Int} {x : Nat} (hx : x ∈ L) (h : f x < 0) : gd L f = false := by
  rw [gd]
  have : L.all (fun x => decide (0 ≤ f x)) = false := by
    rw [List.all_eq_false]
    exact ⟨x, hx, by simp; omega⟩
  rw [this, Bool.false_and]
theorem sorted_map {L : List Nat} {f : Nat → Int} (hs : L.Pairwise fun a b => f a ≤ f b) : (L.map fun x => (f x).toNat).Pairwise (· ≤ ·) :=
  List.pairwise_map.2 (hs.imp fun h => by omega)
theorem gd_many {r : List Nat} {top : Nat} {f : Nat → Int} (hs : (r ++ [top]).Pairwise fun a b => f a ≤ f b) (h : (r.length : Int) < f top) : gd (r ++ [top]) f = false := by
  rw [gd, Bool.and_eq_false_iff]
  right
  rw [rising_eq (sorted_map hs) (.refl _), List.length_append, List.length_singleton, possE, List.map_append, List.map_singleton, poss_snoc]
  split
  · rename_i hr
    have : r = [] := List.map_eq_nil_iff.1 hr
    subst this
    simp at h ⊢; omega
  · have : red (r.map fun x => (f x).toNat) (f top).toNat = none := by
      rw [red, if_neg]
      rintro ⟨h1, _⟩
      rw [List.length_map] at h1; omega
    rw [this]
theorem gd_step {r : List Nat} {top d : Nat} {f f' : Nat → Int} (hs : (r ++ [top]).Pairwise fun a b => f a ≤ f b) (hd : f top = d) (hdl : d ≤ r.length) (hf : ∀ j (hj : j < r.length), f' r[j] = f r[j] - if d ≤ j then 1 else 0) : gd (r ++ [top]) f = gd r f' := by
  by_cases hneg : ∃ x ∈ r ++ [top], f x < 0
  · obtain ⟨x, hx, hlt⟩ := hneg
    rw [gd_neg hx hlt]
    rcases List.mem_append.1 hx with hx | hx
    · obtain ⟨j, hj, rfl⟩ := List.getElem_of_mem hx
      have := hf j hj
      exact (gd_neg (x := r[j]) hx (by split at this <;> omega)).symm
    · rw [List.mem_singleton.1 hx] at hlt; omega
  · have hpos : ∀ x ∈ r ++ [top], 0 ≤ f x := fun x hx => by
      by_cases h : 0 ≤ f x
      · exact h
      · exact absurd ⟨x, hx, by omega⟩ hneg
    have hall : (r ++ [top]).all (fun x => decide (0 ≤ f x)) = true := List.all_eq_true.2 fun x hx => decide_eq_true (hpos x hx)
    rw [gd, hall, Bool.true_and, rising_eq (sorted_map hs) (.refl _), List.length_append, List.length_singleton, possE, List.map_append, List.map_singleton, poss_snoc, hd, Int.toNat_natCast]
    by_cases hr : r = []
    · subst hr
      simp at hdl; subst hdl
      rfl
    · rw [if_neg (by simpa using hr)]
      have hk : ∃ k, r.length = k + 1 := by cases r with | nil => exact absurd rfl hr | cons x l => exact ⟨_, rfl⟩
      obtain ⟨k, hk⟩ := hk
      have heq : (r.map fun x => (f x).toNat).take d ++ ((r.map fun x => (f x).toNat).drop d).map (· - 1) = r.map fun x => (f' x).toNat := by
        apply List.ext_getElem
        · simp; omega
        · intro j h1 h2
          have hj : j < r.length := by simpa using h2
          have := hf j hj
          have h0 := hpos r[j] (by simp)
          rw [List.getElem_append]
          split
          · rename_i h; simp at h ⊢
            rw [if_neg (by omega)] at this
            omega
          · rename_i h; simp at h ⊢
            rw [if_pos (by omega)] at this
            have e : d + (j - min d r.length) = j := by omega
            simp only [e]; omega
      by_cases hz : ∀ j (hj : j < r.length), d ≤ j → 0 < f r[j]
      · have hred : red (r.map fun x => (f x).toNat) d = some (rising (r.map fun x => (f' x).toNat)) := by
          rw [red, if_pos, heq]
          refine ⟨by simpa using hdl, List.all_eq_true.2 fun x hx => ?_⟩
          obtain ⟨i, hi, rfl⟩ := List.getElem_of_mem hx
          simp at hi ⊢
          exact hz _ (by omega) (by omega)
        have hall2 : r.all (fun x => decide (0 ≤ f' x)) = true := List.all_eq_true.2 fun x hx => by
          obtain ⟨j, hj, rfl⟩ := List.getElem_of_mem hx
          have := hf j hj
          have h0 := hpos r[j] (by simp)
          refine decide_eq_true ?_
          split at this
          · have := hz j hj ‹_›; omega
          · omega
        rw [hred, gd, hall2, hk, Bool.true_and]; rfl
      · have hred : red (r.map fun x => (f x).toNat) d = none := by
          rw [red, if_neg]
          rintro ⟨_, h2⟩
          refine hz fun j hj hdj => ?_
          have hm : r[j] ∈ r.drop d := by
            have e : d + (j - d) = j := by omega
            exact List.mem_iff_getElem.2 ⟨j - d, by simp; omega, by simp [e]⟩
          have := List.all_eq_true.1 h2 (f r[j]).toNat (by rw [← List.map_drop]; exact List.mem_map_of_mem hm)
          simp at this; omega
        rw [hred]
        have hex : ∃ j, ∃ hj : j < r.length, d ≤ j ∧ ¬ 0 < f r[j] :=
          Classical.byContradiction fun hc => hz fun j hj hd => Classical.byContradiction fun h => hc ⟨j, hj, hd, h⟩
        obtain ⟨j, hjl, hdj, hj⟩ := hex
        have := hf j hjl
        rw [if_pos hdj] at this
        have key : ∀ a b : Int, b = a - 1 → ¬ 0 < a → b < 0 := fun a b h1 h2 => by omega
        exact (gd_neg (List.getElem_mem hjl) (key _ _ this hj)).symm
end Rb

namespace Go.Proofs.Tryd.Am
open Go.Am Rb
set_option maxRecDepth 100000

/-- Player i beats player j. -/
def orT (t : List Int) (i j : Nat) : List Int := t.set i (((t.getD i 0).toNat ||| 2 ^ j : Nat) : Int)
theorem orT_len (t : List Int) (i j : Nat) : (orT t i j).length = t.length := by simp [orT]
theorem orT_get {t : List Int} {i j : Nat} (hi : i < t.length) (x : Nat) : (orT t i j).getD x 0 = if x = i then (((t.getD i 0).toNat ||| 2 ^ j : Nat) : Int) else t.getD x 0 := by
  by_cases hx : x = i
  · subst hx; rw [if_pos rfl, orT, List.getD, List.getElem?_set_self hi]; rfl
  · rw [if_neg hx, orT, List.getD, List.getElem?_set_ne (Ne.symm hx)]; rfl
theorem orT_bb {t : List Int} {i j : Nat} (hi : i < t.length) (x y : Nat) : bb (orT t i j) x y = (bb t x y || decide (x = i ∧ y = j)) := by
  rw [bb, bb, bitI, bitI, orT_get hi]
  by_cases hx : x = i
  · subst hx
    rw [if_pos rfl, Int.toNat_natCast, Nat.testBit_or, Nat.testBit_two_pow]
    congr 1
    exact decide_eq_decide.2 ⟨fun h => ⟨rfl, h.symm⟩, fun h => h.2.symm⟩
  · rw [if_neg hx, decide_eq_false (fun h => hx h.1), Bool.or_false]
theorem orT_scr {n : Nat} {t : List Int} {i j : Nat} (hn : n ≤ 8) (hi : i < t.length) (hlt : t.getD i 0 < 2 ^ n) (h0 : 0 ≤ t.getD i 0) (hj : j < n) (hb : bb t i j = false) (x : Nat) : scr ((orT t i j).getD x 0) = scr (t.getD x 0) + if x = i then 1 else 0 := by
  rw [orT_get hi]
  by_cases hx : x = i
  · subst hx
    have hl : (t.getD x 0).toNat < 2 ^ n := by
      have : ((2 : Int) ^ n) = ((2 ^ n : Nat) : Int) := by simp
      rw [this] at hlt; omega
    rw [bb, bitI] at hb
    rw [if_pos rfl, if_pos rfl, scr, scr, Int.toNat_natCast, bits_put (by omega) hl hj, hb, if_neg (by decide)]
  · rw [if_neg hx, if_neg hx]; rfl

/-- The tournament so far: U, who has not met yet; w, how many wins are still to come; s, the scores. -/
structure MI (n : Nat) (s : Nat → Int) (ts : List Int) (U : Nat → Nat → Prop) (w : Nat → Int) : Prop where
  len : ts.length = n
  rng : ∀ i, i < n → 0 ≤ ts.getD i 0 ∧ ts.getD i 0 < 2 ^ n
  self : ∀ i, i < n → bb ts i i = false
  yet : ∀ i j, i < n → j < n → i ≠ j → U i j → bb ts i j = false
  met : ∀ i j, i < n → j < n → i ≠ j → ¬ U i j → bb ts i j = !bb ts j i
  won : ∀ i, i < n → (scr (ts.getD i 0) : Int) + w i = s i
theorem MI.congr {n : Nat} {s : Nat → Int} {ts : List Int} {U U' : Nat → Nat → Prop} {w w' : Nat → Int} (m : MI n s ts U w) (hU : ∀ i j, i < n → j < n → i ≠ j → (U' i j ↔ U i j)) (hw : ∀ i, i < n → w' i = w i) : MI n s ts U' w' :=
  ⟨m.len, m.rng, m.self, fun i j hi hj hne h => m.yet i j hi hj hne ((hU i j hi hj hne).1 h), fun i j hi hj hne h => m.met i j hi hj hne fun g => h ((hU i j hi hj hne).2 g), fun i hi => by rw [hw i hi]; exact m.won i hi⟩
theorem MI.win {n : Nat} {s : Nat → Int} {ts : List Int} {U U' : Nat → Nat → Prop} {w w' : Nat → Int} {i j : Nat} (m : MI n s ts U w) (hn : n ≤ 8) (hi : i < n) (hj : j < n) (hij : i ≠ j) (h1 : U i j) (h2 : U j i)
    (hU : ∀ a b, a < n → b < n → a ≠ b → (U' a b ↔ U a b ∧ ¬ (a = i ∧ b = j) ∧ ¬ (a = j ∧ b = i))) (hw : ∀ a, a < n → w' a = w a - if a = i then 1 else 0) : MI n s (orT ts i j) U' w' := by
  have hil : i < ts.length := by rw [m.len]; exact hi
  have hb := m.yet i j hi hj hij h1
  have hb2 := m.yet j i hj hi (Ne.symm hij) h2
  have h0 := m.rng i hi
  have hpow : ((2 : Int) ^ n) = ((2 ^ n : Nat) : Int) := by simp
  refine ⟨by rw [orT_len, m.len], fun a ha => ?_, fun a ha => ?_, fun a b ha hb' hne h => ?_, fun a b ha hb' hne h => ?_, fun a ha => ?_⟩
  · rw [orT_get hil]
    split
    · have : (ts.getD i 0).toNat ||| 2 ^ j < 2 ^ n := Nat.or_lt_two_pow (by rw [hpow] at h0; omega) (Nat.pow_lt_pow_right (by decide) hj)
      exact ⟨Int.natCast_nonneg _, by rw [hpow]; exact Int.ofNat_lt.2 this⟩
    · exact m.rng a ha
  · rw [orT_bb hil, m.self a ha, decide_eq_false (fun h => hij (h.1.symm.trans h.2)), Bool.or_false]
  · obtain ⟨g1, g2, g3⟩ := (hU a b ha hb' hne).1 h
    rw [orT_bb hil, m.yet a b ha hb' hne g1, decide_eq_false g2, Bool.or_false]
  · rw [orT_bb hil, orT_bb hil]
    by_cases e1 : a = i ∧ b = j
    · obtain ⟨rfl, rfl⟩ := e1
      rw [decide_eq_true ⟨rfl, rfl⟩, hb2, decide_eq_false (fun h => hij h.2)]
      simp
    · by_cases e2 : a = j ∧ b = i
      · obtain ⟨rfl, rfl⟩ := e2
        rw [decide_eq_false e1, hb2, decide_eq_true ⟨rfl, rfl⟩]
        simp
      · have hn' : ¬ U a b := fun g => h ((hU a b ha hb' hne).2 ⟨g, e1, e2⟩)
        rw [decide_eq_false e1, decide_eq_false (fun h => e2 ⟨h.2, h.1⟩), Bool.or_false, Bool.or_false]
        exact m.met a b ha hb' hne hn'
  · rw [orT_scr hn hil h0.2 h0.1 hj hb, hw a ha]
    have := m.won a ha
    split <;> omega
theorem MI.done {n : Nat} {s : Nat → Int} {ts : List Int} {U : Nat → Nat → Prop} {w : Nat → Int} (m : MI n s ts U w) (h1 : 1 ≤ n) (hn : n ≤ 8) (hU : ∀ i j, i < n → j < n → i ≠ j → ¬ U i j) (hw : ∀ i, i < n → w i = 0) : trn ts = true ∧ ∀ i, i < n → (scr (ts.getD i 0) : Int) = s i := by
  refine ⟨?_, fun i hi => by have := m.won i hi; have := hw i hi; omega⟩
  rw [trn_iff]
  have hl := m.len
  refine ⟨by omega, fun i hi => ?_⟩
  rw [hl] at hi ⊢
  refine ⟨(m.rng i hi).1, (m.rng i hi).2, m.self i hi, fun j hj => ?_⟩
  rw [m.met i j hi (by omega) (by omega) (hU i j hi (by omega) (by omega))]
  cases bb ts j i <;> decide
theorem MI.start {n : Nat} {s : Nat → Int} : MI n s (List.replicate n 0) (fun _ _ => True) s := by
  have hz : ∀ i, (List.replicate n (0 : Int)).getD i 0 = 0 := fun i => by
    rw [List.getD, List.getElem?_replicate]; split <;> rfl
  have hb : ∀ i j, bb (List.replicate n (0 : Int)) i j = false := fun i j => by rw [bb, hz]; exact Nat.zero_testBit j
  refine ⟨by simp, fun i hi => by
    have e : ((2 : Int) ^ n) = ((2 ^ n : Nat) : Int) := by simp
    rw [hz, e]; exact ⟨Int.le_refl _, Int.ofNat_lt.2 (Nat.two_pow_pos n)⟩, fun i _ => hb i i, fun i j _ _ _ _ => hb i j, fun i j _ _ _ h => absurd trivial h, fun i _ => ?_⟩
  rw [hz]
  have : scr 0 = 0 := by decide
  rw [this]; simp
end Go.Proofs.Tryd.Am

namespace Go.Proofs.Tryd.Am
open Go.Am Rb
set_option maxRecDepth 100000
set_option maxHeartbeats 1000000

theorem s120_callW [Tabs Tryd.prog] {args : List Value} {h : Heap} {Q : Value → Heap → Prop} (hsz : args.length ≤ 53) (hk : AWS Tryd.prog 53 s120 (aPost Tryd.prog [] Q) (argEnv 0 args) h) : ACall Tryd.prog 120 args h Q :=
  acall_w Tryd.func120 rfl (enters_of Tryd.func120 (by kernel_rfl) rfl) rfl rfl (by decide) s120_strip s120_ok hsz hk
theorem isortF_call [Tabs prog] {h : Heap} {b : Nat} {L0 : List Nat} {ys : List Int} {g : FuncId} {cap : Array Value} {key : Nat → Int} (hk : ∀ x ∈ L0, -1000 ≤ key x ∧ key x ≤ 1000) (hc : ∀ L x y, x ∈ L0 → y ∈ L0 → APure prog g ([vint x, vint y] ++ cap.toList) (h.set b (.ints (iL L ++ ys) 3 false)) (vint (key x - key y))) (hb : h[b]? = some (.ints (iL L0 ++ ys) 3 false)) (hl : L0.length ≤ 12) (hx : ∀ x ∈ L0, x < 4611686018427387904) :
    ACall prog 120 [ov b L0.length ys.length, .int .i64 0, vint L0.length, .func (.func g) #[] cap] h fun _ h' => ∃ L : List Nat, L.Perm L0 ∧ L.Pairwise (fun a b => key a ≤ key b) ∧ h' = h.set b (.ints (iL L ++ ys) 3 false) := by
  have hlt := get_lt hb
  have h0 : h = h.set b (.ints (iL L0 ++ ys) 3 false) := by
    apply List.ext_getElem?
    intro i
    by_cases hi : b = i
    · subst hi; rw [get_set hlt, hb]
    · rw [List.getElem?_set_ne hi]
  obtain ⟨n, hn⟩ : ∃ n, L0.length = n := ⟨_, rfl⟩
  rw [hn] at hl ⊢
  have hrange : ∀ {L : List Nat}, L.Perm L0 → ∀ i, L.getD i 0 < 4611686018427387904 := fun {L} hp i => by
    by_cases hi : i < L.length
    · rw [List.getD, List.getElem?_eq_getElem hi]; exact hx _ (hp.mem_iff.1 (List.getElem_mem hi))
    · rw [List.getD, List.getElem?_eq_none (by omega)]; decide
  refine s120_callW (by simp) ?_
  simp only [s120]
  have e01 : addV .i64 0 1 = 1 := rfl
  refine aws_cut fun N1 hN1 => ?_
  simp (maxSteps := 2000000) only [s120, ↓aw_region, ↓aw_skip, ↓aw_seq, ↓aw_block, ↓aw_exit, ↓aw_ret, ↓sops_nil, ↓sops_go, ↓dops_nil, ↓dopsX_nil, ↓dopsR_nil, ↓vdn, vup, extr_20, extr_21, extr_30, extr_31, extr_32, List.map_cons, List.map_nil, cond_true, cond_false, aop, aThen, aBlock, argEnv, ev, sput, sputO, binK, binI, unK, builtinK, pickK, Nat.reduceBEq, Nat.reduceAdd, Int.reduceBEq, Int.reduceBNe, Int.reduceLT, aPost, resK, tup, tyf, e01]
  refine hN1 [(0, ov b n ys.length), (1, .int .i64 0), (2, vint n), (3, .func (.func g) #[] cap), (8, .int .i64 1)] _ _ ?_ (by simp (maxSteps := 2000000) only [↓aw_region, ↓aw_skip, ↓aw_seq, ↓aw_block, ↓aw_exit, ↓aw_ret, ↓sops_nil, ↓sops_go, ↓dops_nil, ↓dopsX_nil, ↓dopsR_nil, ↓vdn, vup, extr_20, extr_21, extr_30, extr_31, extr_32, List.map_cons, List.map_nil, cond_true, cond_false, aop, aThen, aBlock, argEnv, ev, sput, sputO, binK, binI, unK, builtinK, pickK, Nat.reduceBEq, Nat.reduceAdd, Int.reduceBEq, Int.reduceBNe, Int.reduceLT, aPost, resK, tup, tyf])
  clear hN1
  try clear N1
  refine aws_block ?_
  refine aws_hide fun Q hQ => ?_
  refine aw_loopW (γ := Nat × List Nat) (fun s => 1 ≤ s.1 ∧ (s.1 ≤ n ∨ s.1 = 1) ∧ s.2.Perm L0 ∧ SrtTo key s.2 s.1)
    (fun s => ([(0, ov b n ys.length), (1, .int .i64 0), (2, vint n), (3, .func (.func g) #[] cap), (8, vint s.1)], h.set b (.ints (iL s.2 ++ ys) 3 false))) (fun s => n - s.1) (1, L0) ⟨Nat.le_refl _, .inr rfl, .refl _, fun p q _ _ => by omega⟩ (by simp (maxSteps := 2000000) only [↓aw_region, ↓aw_skip, ↓aw_seq, ↓aw_block, ↓aw_exit, ↓aw_ret, ↓sops_nil, ↓sops_go, ↓dops_nil, ↓dopsX_nil, ↓dopsR_nil, ↓vdn, vup, extr_20, extr_21, extr_30, extr_31, extr_32, List.map_cons, List.map_nil, cond_true, cond_false, aop, aThen, aBlock, argEnv, ev, sput, sputO, binK, binI, unK, builtinK, pickK, Nat.reduceBEq, Nat.reduceAdd, Int.reduceBEq, Int.reduceBNe, Int.reduceLT, aPost, resK, tup, tyf, Int.natCast_one]) h0 ?_
  rintro ⟨i, L⟩ ⟨hi1, hi, hp, hs⟩
  simp only at hi1 hi hp hs
  have hLn : L.length = n := hp.length_eq.trans hn
  refine aws_hide fun Q2 hQ2 => ?_
  simp only [l120_1]
  by_cases hin : (i : Int) < n
  · have hi' : i < n := by omega
    refine aws_cut fun N2 hN2 => ?_
    simp (maxSteps := 2000000) only [s120, ↓aw_region, ↓aw_skip, ↓aw_seq, ↓aw_block, ↓aw_exit, ↓aw_ret, ↓sops_nil, ↓sops_go, ↓dops_nil, ↓dopsX_nil, ↓dopsR_nil, ↓vdn, vup, extr_20, extr_21, extr_30, extr_31, extr_32, List.map_cons, List.map_nil, cond_true, cond_false, aop, aThen, aBlock, argEnv, ev, sput, sputO, binK, binI, unK, builtinK, pickK, Nat.reduceBEq, Nat.reduceAdd, Int.reduceBEq, Int.reduceBNe, Int.reduceLT, aPost, resK, tup, tyf, hin]
    refine hN2 [(0, ov b n ys.length), (1, .int .i64 0), (2, vint n), (3, .func (.func g) #[] cap), (8, vint i)] _ _ ?_ (by simp (maxSteps := 2000000) only [↓aw_region, ↓aw_skip, ↓aw_seq, ↓aw_block, ↓aw_exit, ↓aw_ret, ↓sops_nil, ↓sops_go, ↓dops_nil, ↓dopsX_nil, ↓dopsR_nil, ↓vdn, vup, extr_20, extr_21, extr_30, extr_31, extr_32, List.map_cons, List.map_nil, cond_true, cond_false, aop, aThen, aBlock, argEnv, ev, sput, sputO, binK, binI, unK, builtinK, pickK, Nat.reduceBEq, Nat.reduceAdd, Int.reduceBEq, Int.reduceBNe, Int.reduceLT, aPost, resK, tup, tyf])
    clear hN2
    try clear N2
    refine aws_cutW fun M hM => ?_
    refine aws_block ?_
    refine aws_cut fun N3 hN3 => ?_
    simp (maxSteps := 2000000) only [s120, ↓aw_region, ↓aw_skip, ↓aw_seq, ↓aw_block, ↓aw_exit, ↓aw_ret, ↓sops_nil, ↓sops_go, ↓dops_nil, ↓dopsX_nil, ↓dopsR_nil, ↓vdn, vup, extr_20, extr_21, extr_30, extr_31, extr_32, List.map_cons, List.map_nil, cond_true, cond_false, aop, aThen, aBlock, argEnv, ev, sput, sputO, binK, binI, unK, builtinK, pickK, Nat.reduceBEq, Nat.reduceAdd, Int.reduceBEq, Int.reduceBNe, Int.reduceLT, aPost, resK, tup, tyf]
    refine hN3 [(0, ov b n ys.length), (1, .int .i64 0), (2, vint n), (3, .func (.func g) #[] cap), (8, vint i), (9, vint i)] _ _ ?_ (by simp (maxSteps := 2000000) only [↓aw_region, ↓aw_skip, ↓aw_seq, ↓aw_block, ↓aw_exit, ↓aw_ret, ↓sops_nil, ↓sops_go, ↓dops_nil, ↓dopsX_nil, ↓dopsR_nil, ↓vdn, vup, extr_20, extr_21, extr_30, extr_31, extr_32, List.map_cons, List.map_nil, cond_true, cond_false, aop, aThen, aBlock, argEnv, ev, sput, sputO, binK, binI, unK, builtinK, pickK, Nat.reduceBEq, Nat.reduceAdd, Int.reduceBEq, Int.reduceBNe, Int.reduceLT, aPost, resK, tup, tyf])
    clear hN3
    try clear N3
    refine aws_block ?_
    refine aws_hide fun Q3 hQ3 => ?_
    refine aw_loopW (γ := Nat × List Nat) (fun s => s.1 ≤ i ∧ s.2.Perm L0 ∧ SrtBut key s.2 i s.1)
      (fun s => ([(0, ov b n ys.length), (1, .int .i64 0), (2, vint n), (3, .func (.func g) #[] cap), (8, vint i), (9, vint s.1)], h.set b (.ints (iL s.2 ++ ys) 3 false))) (fun s => s.1) (i, L) ⟨Nat.le_refl _, hp, fun p q h1 h2 h3 => hs p q h1 (by omega)⟩ (by simp (maxSteps := 2000000) only [↓aw_region, ↓aw_skip, ↓aw_seq, ↓aw_block, ↓aw_exit, ↓aw_ret, ↓sops_nil, ↓sops_go, ↓dops_nil, ↓dopsX_nil, ↓dopsR_nil, ↓vdn, vup, extr_20, extr_21, extr_30, extr_31, extr_32, List.map_cons, List.map_nil, cond_true, cond_false, aop, aThen, aBlock, argEnv, ev, sput, sputO, binK, binI, unK, builtinK, pickK, Nat.reduceBEq, Nat.reduceAdd, Int.reduceBEq, Int.reduceBNe, Int.reduceLT, aPost, resK, tup, tyf]) rfl ?_
    clear hp hs hLn
    rintro ⟨j, L⟩ ⟨hj, hp, hs⟩
    simp only at hj hp hs
    have hLn : L.length = n := hp.length_eq.trans hn
    have own := ov_own (h := h) (b := b) (n := n) (L := L) (ys := ys) hlt hLn
    refine aws_hide fun Q4 hQ4 => ?_
    simp only [l120_0]
    have fin : (j = 0 ∨ key (L.getD (j - 1) 0) ≤ key (L.getD j 0)) → ∀ e, ELe e [(0, ov b n ys.length), (1, .int .i64 0), (2, vint n), (3, .func (.func g) #[] cap), (8, vint i)] → M e (h.set b (.ints (iL L ++ ys) 3 false)) := by
      intro hd e he
      refine hM [(0, ov b n ys.length), (1, .int .i64 0), (2, vint n), (3, .func (.func g) #[] cap), (8, vint i)] _ _ ?_ he
      refine aw_aws ?_
      simp (maxSteps := 2000000) only [s120, ↓aw_region, ↓aw_skip, ↓aw_seq, ↓aw_block, ↓aw_exit, ↓aw_ret, ↓sops_nil, ↓sops_go, ↓dops_nil, ↓dopsX_nil, ↓dopsR_nil, ↓vdn, vup, extr_20, extr_21, extr_30, extr_31, extr_32, List.map_cons, List.map_nil, cond_true, cond_false, aop, aThen, aBlock, argEnv, ev, sput, sputO, binK, binI, unK, builtinK, pickK, Nat.reduceBEq, Nat.reduceAdd, Int.reduceBEq, Int.reduceBNe, Int.reduceLT, aPost, resK, tup, tyf, add1 (show i < 9223372036854775807 by omega)]
      exact hQ2 _ _ _ ⟨(i + 1, L), ⟨by simp only; omega, .inl (by simp only; omega), hp, hs.done hd⟩, by simp only; omega, by simp (maxSteps := 2000000) only [↓aw_region, ↓aw_skip, ↓aw_seq, ↓aw_block, ↓aw_exit, ↓aw_ret, ↓sops_nil, ↓sops_go, ↓dops_nil, ↓dopsX_nil, ↓dopsR_nil, ↓vdn, vup, extr_20, extr_21, extr_30, extr_31, extr_32, List.map_cons, List.map_nil, cond_true, cond_false, aop, aThen, aBlock, argEnv, ev, sput, sputO, binK, binI, unK, builtinK, pickK, Nat.reduceBEq, Nat.reduceAdd, Int.reduceBEq, Int.reduceBNe, Int.reduceLT, aPost, resK, tup, tyf], rfl⟩
    by_cases hj0 : j = 0
    · subst hj0
      refine aws_cut fun N4 hN4 => ?_
      simp (maxSteps := 2000000) only [s120, ↓aw_region, ↓aw_skip, ↓aw_seq, ↓aw_block, ↓aw_exit, ↓aw_ret, ↓sops_nil, ↓sops_go, ↓dops_nil, ↓dopsX_nil, ↓dopsR_nil, ↓vdn, vup, extr_20, extr_21, extr_30, extr_31, extr_32, List.map_cons, List.map_nil, cond_true, cond_false, aop, aThen, aBlock, argEnv, ev, sput, sputO, binK, binI, unK, builtinK, pickK, Nat.reduceBEq, Nat.reduceAdd, Int.reduceBEq, Int.reduceBNe, Int.reduceLT, aPost, resK, tup, tyf]
      refine aw_drawX [(14, 1)] (by kernel_rfl) (by kernel_rfl) (by kernel_rfl) (by kernel_rfl) ?_
      simp (maxSteps := 2000000) only [s120, ↓aw_region, ↓aw_skip, ↓aw_seq, ↓aw_block, ↓aw_exit, ↓aw_ret, ↓sops_nil, ↓sops_go, ↓dops_nil, ↓dopsX_nil, ↓dopsR_nil, ↓vdn, vup, extr_20, extr_21, extr_30, extr_31, extr_32, List.map_cons, List.map_nil, cond_true, cond_false, aop, aThen, aBlock, argEnv, ev, sput, sputO, binK, binI, unK, builtinK, pickK, Nat.reduceBEq, Nat.reduceAdd, Int.reduceBEq, Int.reduceBNe, Int.reduceLT, aPost, resK, tup, tyf, gt_iff_lt, Int.natCast_zero, Int.lt_irrefl]
      refine hQ4 _ _ _ (hQ3 _ _ _ ?_)
      simp (maxSteps := 2000000) only [s120, ↓aw_region, ↓aw_skip, ↓aw_seq, ↓aw_block, ↓aw_exit, ↓aw_ret, ↓sops_nil, ↓sops_go, ↓dops_nil, ↓dopsX_nil, ↓dopsR_nil, ↓vdn, vup, extr_20, extr_21, extr_30, extr_31, extr_32, List.map_cons, List.map_nil, cond_true, cond_false, aop, aThen, aBlock, argEnv, ev, sput, sputO, binK, binI, unK, builtinK, pickK, Nat.reduceBEq, Nat.reduceAdd, Int.reduceBEq, Int.reduceBNe, Int.reduceLT, aPost, resK, tup, tyf, if_true]
      exact fin (.inl rfl) _ (by simp (maxSteps := 2000000) only [↓aw_region, ↓aw_skip, ↓aw_seq, ↓aw_block, ↓aw_exit, ↓aw_ret, ↓sops_nil, ↓sops_go, ↓dops_nil, ↓dopsX_nil, ↓dopsR_nil, ↓vdn, vup, extr_20, extr_21, extr_30, extr_31, extr_32, List.map_cons, List.map_nil, cond_true, cond_false, aop, aThen, aBlock, argEnv, ev, sput, sputO, binK, binI, unK, builtinK, pickK, Nat.reduceBEq, Nat.reduceAdd, Int.reduceBEq, Int.reduceBNe, Int.reduceLT, aPost, resK, tup, tyf])
    · have hjp : (0 : Int) < (j : Int) := by omega
      have hjn : j < (iL L).length := by rw [iL_len]; omega
      have hj1n : j - 1 < (iL L).length := by omega
      have hin1 : ∀ i, i < n → L.getD i 0 ∈ L0 := fun i hi => hp.mem_iff.1 (by rw [List.getD, List.getElem?_eq_getElem (by omega), Option.getD_some]; exact List.getElem_mem _)
      have c1 := hc L _ _ (hin1 j (by omega)) (hin1 (j - 1) (by omega))
      have hk1 := hk _ (hin1 j (by omega))
      have hk2 := hk _ (hin1 (j - 1) (by omega))
      have hsub := subN1 (show 1 ≤ j by omega) (show j < 9223372036854775808 by omega)
      by_cases hlt2 : key (L.getD j 0) < key (L.getD (j - 1) 0)
      · have hneg : key (L.getD j 0) - key (L.getD (j - 1) 0) < 0 := by omega
        refine aws_cut fun N5 hN5 => ?_
        simp (maxSteps := 2000000) only [s120, ↓aw_region, ↓aw_skip, ↓aw_seq, ↓aw_block, ↓aw_exit, ↓aw_ret, ↓sops_nil, ↓sops_go, ↓dops_nil, ↓dopsX_nil, ↓dopsR_nil, ↓vdn, vup, extr_20, extr_21, extr_30, extr_31, extr_32, List.map_cons, List.map_nil, cond_true, cond_false, aop, aThen, aBlock, argEnv, ev, sput, sputO, binK, binI, unK, builtinK, pickK, Nat.reduceBEq, Nat.reduceAdd, Int.reduceBEq, Int.reduceBNe, Int.reduceLT, aPost, resK, tup, tyf]
        refine aw_drawX [(14, 1)] (by kernel_rfl) (by kernel_rfl) (by kernel_rfl) (by kernel_rfl) ?_
        simp (maxSteps := 2000000) only [s120, ↓aw_region, ↓aw_skip, ↓aw_seq, ↓aw_block, ↓aw_exit, ↓aw_ret, ↓sops_nil, ↓sops_go, ↓dops_nil, ↓dopsX_nil, ↓dopsR_nil, ↓vdn, vup, extr_20, extr_21, extr_30, extr_31, extr_32, List.map_cons, List.map_nil, cond_true, cond_false, aop, aThen, aBlock, argEnv, ev, sput, sputO, binK, binI, unK, builtinK, pickK, Nat.reduceBEq, Nat.reduceAdd, Int.reduceBEq, Int.reduceBNe, Int.reduceLT, aPost, resK, tup, tyf, gt_iff_lt, hjp, hsub, own.int.idx el_22 esz_3 hjn, own.int.load shp_3 hjn, own.int.idx el_22 esz_3 hj1n, own.int.load shp_3 hj1n, iL_get, callK, List.nil_append, List.append_nil, List.toList_toArray, List.cons_append]
        refine ⟨_, _, c1, rfl, ?_⟩
        simp (maxSteps := 2000000) only [s120, ↓aw_region, ↓aw_skip, ↓aw_seq, ↓aw_block, ↓aw_exit, ↓aw_ret, ↓sops_nil, ↓sops_go, ↓dops_nil, ↓dopsX_nil, ↓dopsR_nil, ↓vdn, vup, extr_20, extr_21, extr_30, extr_31, extr_32, List.map_cons, List.map_nil, cond_true, cond_false, aop, aThen, aBlock, argEnv, ev, sput, sputO, binK, binI, unK, builtinK, pickK, Nat.reduceBEq, Nat.reduceAdd, Int.reduceBEq, Int.reduceBNe, Int.reduceLT, aPost, resK, tup, tyf, hneg, decide_true, decide_false]
        refine hN5 [(0, ov b n ys.length), (1, .int .i64 0), (2, vint n), (3, .func (.func g) #[] cap), (8, vint i), (9, vint j)] _ _ ?_ (by simp (maxSteps := 2000000) only [↓aw_region, ↓aw_skip, ↓aw_seq, ↓aw_block, ↓aw_exit, ↓aw_ret, ↓sops_nil, ↓sops_go, ↓dops_nil, ↓dopsX_nil, ↓dopsR_nil, ↓vdn, vup, extr_20, extr_21, extr_30, extr_31, extr_32, List.map_cons, List.map_nil, cond_true, cond_false, aop, aThen, aBlock, argEnv, ev, sput, sputO, binK, binI, unK, builtinK, pickK, Nat.reduceBEq, Nat.reduceAdd, Int.reduceBEq, Int.reduceBNe, Int.reduceLT, aPost, resK, tup, tyf])
        clear hN5
        try clear N5
        refine aw_aws ?_
        simp (maxSteps := 2000000) only [s120, ↓aw_region, ↓aw_skip, ↓aw_seq, ↓aw_block, ↓aw_exit, ↓aw_ret, ↓sops_nil, ↓sops_go, ↓dops_nil, ↓dopsX_nil, ↓dopsR_nil, ↓vdn, vup, extr_20, extr_21, extr_30, extr_31, extr_32, List.map_cons, List.map_nil, cond_true, cond_false, aop, aThen, aBlock, argEnv, ev, sput, sputO, binK, binI, unK, builtinK, pickK, Nat.reduceBEq, Nat.reduceAdd, Int.reduceBEq, Int.reduceBNe, Int.reduceLT, aPost, resK, tup, tyf]
        refine aw_drawX [] (by kernel_rfl) (by kernel_rfl) (by kernel_rfl) (by kernel_rfl) ?_
        have hjL : j < L.length := by omega
        simp (maxSteps := 2000000) only [s120, ↓aw_region, ↓aw_skip, ↓aw_seq, ↓aw_block, ↓aw_exit, ↓aw_ret, ↓sops_nil, ↓sops_go, ↓dops_nil, ↓dopsX_nil, ↓dopsR_nil, ↓vdn, vup, extr_20, extr_21, extr_30, extr_31, extr_32, List.map_cons, List.map_nil, cond_true, cond_false, aop, aThen, aBlock, argEnv, ev, sput, sputO, binK, binI, unK, builtinK, pickK, Nat.reduceBEq, Nat.reduceAdd, Int.reduceBEq, Int.reduceBNe, Int.reduceLT, aPost, resK, tup, tyf, hsub, own.int.idx el_22 esz_3 hjn, own.int.idx el_22 esz_3 hj1n, elemP_ov, ov_load hlt hLn (show j < n by omega), ov_load hlt hLn (show j - 1 < n by omega), ov_store hlt hjL, ov_store hlt (show j - 1 < (L.set j (L.getD (j - 1) 0)).length by rw [List.length_set]; omega)]
        refine hQ4 _ _ _ ⟨(j - 1, swL L j), ⟨by simp only; omega, (swL_perm (by omega) hjL).trans hp, hs.step (by omega) hjL hj hlt2⟩, by simp only; omega, by simp (maxSteps := 2000000) only [↓aw_region, ↓aw_skip, ↓aw_seq, ↓aw_block, ↓aw_exit, ↓aw_ret, ↓sops_nil, ↓sops_go, ↓dops_nil, ↓dopsX_nil, ↓dopsR_nil, ↓vdn, vup, extr_20, extr_21, extr_30, extr_31, extr_32, List.map_cons, List.map_nil, cond_true, cond_false, aop, aThen, aBlock, argEnv, ev, sput, sputO, binK, binI, unK, builtinK, pickK, Nat.reduceBEq, Nat.reduceAdd, Int.reduceBEq, Int.reduceBNe, Int.reduceLT, aPost, resK, tup, tyf], rfl⟩
      · have hneg : ¬ key (L.getD j 0) - key (L.getD (j - 1) 0) < 0 := by omega
        refine aws_cut fun N6 hN6 => ?_
        simp (maxSteps := 2000000) only [s120, ↓aw_region, ↓aw_skip, ↓aw_seq, ↓aw_block, ↓aw_exit, ↓aw_ret, ↓sops_nil, ↓sops_go, ↓dops_nil, ↓dopsX_nil, ↓dopsR_nil, ↓vdn, vup, extr_20, extr_21, extr_30, extr_31, extr_32, List.map_cons, List.map_nil, cond_true, cond_false, aop, aThen, aBlock, argEnv, ev, sput, sputO, binK, binI, unK, builtinK, pickK, Nat.reduceBEq, Nat.reduceAdd, Int.reduceBEq, Int.reduceBNe, Int.reduceLT, aPost, resK, tup, tyf]
        refine aw_drawX [(14, 1)] (by kernel_rfl) (by kernel_rfl) (by kernel_rfl) (by kernel_rfl) ?_
        simp (maxSteps := 2000000) only [s120, ↓aw_region, ↓aw_skip, ↓aw_seq, ↓aw_block, ↓aw_exit, ↓aw_ret, ↓sops_nil, ↓sops_go, ↓dops_nil, ↓dopsX_nil, ↓dopsR_nil, ↓vdn, vup, extr_20, extr_21, extr_30, extr_31, extr_32, List.map_cons, List.map_nil, cond_true, cond_false, aop, aThen, aBlock, argEnv, ev, sput, sputO, binK, binI, unK, builtinK, pickK, Nat.reduceBEq, Nat.reduceAdd, Int.reduceBEq, Int.reduceBNe, Int.reduceLT, aPost, resK, tup, tyf, gt_iff_lt, hjp, hsub, own.int.idx el_22 esz_3 hjn, own.int.load shp_3 hjn, own.int.idx el_22 esz_3 hj1n, own.int.load shp_3 hj1n, iL_get, callK, List.nil_append, List.append_nil, List.toList_toArray, List.cons_append]
        refine ⟨_, _, c1, rfl, ?_⟩
        simp (maxSteps := 2000000) only [s120, ↓aw_region, ↓aw_skip, ↓aw_seq, ↓aw_block, ↓aw_exit, ↓aw_ret, ↓sops_nil, ↓sops_go, ↓dops_nil, ↓dopsX_nil, ↓dopsR_nil, ↓vdn, vup, extr_20, extr_21, extr_30, extr_31, extr_32, List.map_cons, List.map_nil, cond_true, cond_false, aop, aThen, aBlock, argEnv, ev, sput, sputO, binK, binI, unK, builtinK, pickK, Nat.reduceBEq, Nat.reduceAdd, Int.reduceBEq, Int.reduceBNe, Int.reduceLT, aPost, resK, tup, tyf, hneg, decide_true, decide_false]
        refine hQ4 _ _ _ (hQ3 _ _ _ ?_)
        simp (maxSteps := 2000000) only [s120, ↓aw_region, ↓aw_skip, ↓aw_seq, ↓aw_block, ↓aw_exit, ↓aw_ret, ↓sops_nil, ↓sops_go, ↓dops_nil, ↓dopsX_nil, ↓dopsR_nil, ↓vdn, vup, extr_20, extr_21, extr_30, extr_31, extr_32, List.map_cons, List.map_nil, cond_true, cond_false, aop, aThen, aBlock, argEnv, ev, sput, sputO, binK, binI, unK, builtinK, pickK, Nat.reduceBEq, Nat.reduceAdd, Int.reduceBEq, Int.reduceBNe, Int.reduceLT, aPost, resK, tup, tyf, if_true]
        exact fin (.inr (by omega)) _ (by simp (maxSteps := 2000000) only [↓aw_region, ↓aw_skip, ↓aw_seq, ↓aw_block, ↓aw_exit, ↓aw_ret, ↓sops_nil, ↓sops_go, ↓dops_nil, ↓dopsX_nil, ↓dopsR_nil, ↓vdn, vup, extr_20, extr_21, extr_30, extr_31, extr_32, List.map_cons, List.map_nil, cond_true, cond_false, aop, aThen, aBlock, argEnv, ev, sput, sputO, binK, binI, unK, builtinK, pickK, Nat.reduceBEq, Nat.reduceAdd, Int.reduceBEq, Int.reduceBNe, Int.reduceLT, aPost, resK, tup, tyf])
  · refine aws_cut fun M hM => ?_
    simp (maxSteps := 2000000) only [s120, ↓aw_region, ↓aw_skip, ↓aw_seq, ↓aw_block, ↓aw_exit, ↓aw_ret, ↓sops_nil, ↓sops_go, ↓dops_nil, ↓dopsX_nil, ↓dopsR_nil, ↓vdn, vup, extr_20, extr_21, extr_30, extr_31, extr_32, List.map_cons, List.map_nil, cond_true, cond_false, aop, aThen, aBlock, argEnv, ev, sput, sputO, binK, binI, unK, builtinK, pickK, Nat.reduceBEq, Nat.reduceAdd, Int.reduceBEq, Int.reduceBNe, Int.reduceLT, aPost, resK, tup, tyf, hin]
    refine hQ2 _ _ _ (hQ _ _ _ ?_)
    simp (maxSteps := 2000000) only [s120, ↓aw_region, ↓aw_skip, ↓aw_seq, ↓aw_block, ↓aw_exit, ↓aw_ret, ↓sops_nil, ↓sops_go, ↓dops_nil, ↓dopsX_nil, ↓dopsR_nil, ↓vdn, vup, extr_20, extr_21, extr_30, extr_31, extr_32, List.map_cons, List.map_nil, cond_true, cond_false, aop, aThen, aBlock, argEnv, ev, sput, sputO, binK, binI, unK, builtinK, pickK, Nat.reduceBEq, Nat.reduceAdd, Int.reduceBEq, Int.reduceBNe, Int.reduceLT, aPost, resK, tup, tyf, if_true]
    refine ⟨L, hp, ?_, rfl⟩
    refine SrtTo.pw ?_
    rw [hLn]
    intro p q hpq hq
    exact hs p q hpq (by omega)

theorem s104_callW [Tabs Tryd.prog] {args : List Value} {h : Heap} {Q : Value → Heap → Prop} (hsz : args.length ≤ 63) (hk : AWS Tryd.prog 63 s104 (aPost Tryd.prog [] Q) (argEnv 0 args) h) : ACall Tryd.prog 104 args h Q :=
  acall_w Tryd.func104 rfl (enters_of Tryd.func104 (by kernel_rfl) rfl) rfl rfl (by decide) s104_strip s104_ok hsz hk
theorem stableF_call [Tabs prog] {h : Heap} {b : Nat} {L0 : List Nat} {ys : List Int} {g : FuncId} {cap : Array Value} {key : Nat → Int} (hk : ∀ x ∈ L0, -1000 ≤ key x ∧ key x ≤ 1000) (hc : ∀ L x y, x ∈ L0 → y ∈ L0 → APure prog g ([vint x, vint y] ++ cap.toList) (h.set b (.ints (iL L ++ ys) 3 false)) (vint (key x - key y))) (hb : h[b]? = some (.ints (iL L0 ++ ys) 3 false)) (hl : L0.length ≤ 12) (hx : ∀ x ∈ L0, x < 4611686018427387904) :
    ACall prog 104 [ov b L0.length ys.length, vint L0.length, .func (.func g) #[] cap] h fun _ h' => ∃ L : List Nat, L.Perm L0 ∧ L.Pairwise (fun a b => key a ≤ key b) ∧ h' = h.set b (.ints (iL L ++ ys) 3 false) := by
  have n20 : ¬ (20 : Int) ≤ (L0.length : Int) := by omega
  have n20' : ¬ (20 : Int) < (L0.length : Int) := by omega
  refine s104_callW (by simp) ?_
  simp only [s104]
  refine aws_cut fun N7 hN7 => ?_
  simp (maxSteps := 2000000) only [s104, ↓aw_region, ↓aw_skip, ↓aw_seq, ↓aw_block, ↓aw_exit, ↓aw_ret, ↓sops_nil, ↓sops_go, ↓dops_nil, ↓dopsX_nil, ↓dopsR_nil, ↓vdn, vup, extr_20, extr_21, extr_30, extr_31, extr_32, List.map_cons, List.map_nil, cond_true, cond_false, aop, aThen, aBlock, argEnv, ev, sput, sputO, binK, binI, unK, builtinK, pickK, Nat.reduceBEq, Nat.reduceAdd, Int.reduceBEq, Int.reduceBNe, Int.reduceLT, aPost, resK, tup, tyf]
  refine hN7 [(0, ov b L0.length ys.length), (1, vint L0.length), (2, .func (.func g) #[] cap), (6, .int .i64 20)] _ _ ?_ (by simp (maxSteps := 2000000) only [↓aw_region, ↓aw_skip, ↓aw_seq, ↓aw_block, ↓aw_exit, ↓aw_ret, ↓sops_nil, ↓sops_go, ↓dops_nil, ↓dopsX_nil, ↓dopsR_nil, ↓vdn, vup, extr_20, extr_21, extr_30, extr_31, extr_32, List.map_cons, List.map_nil, cond_true, cond_false, aop, aThen, aBlock, argEnv, ev, sput, sputO, binK, binI, unK, builtinK, pickK, Nat.reduceBEq, Nat.reduceAdd, Int.reduceBEq, Int.reduceBNe, Int.reduceLT, aPost, resK, tup, tyf])
  clear hN7
  try clear N7
  refine aws_cut fun N8 hN8 => ?_
  simp (maxSteps := 2000000) only [s104, ↓aw_region, ↓aw_skip, ↓aw_seq, ↓aw_block, ↓aw_exit, ↓aw_ret, ↓sops_nil, ↓sops_go, ↓dops_nil, ↓dopsX_nil, ↓dopsR_nil, ↓vdn, vup, extr_20, extr_21, extr_30, extr_31, extr_32, List.map_cons, List.map_nil, cond_true, cond_false, aop, aThen, aBlock, argEnv, ev, sput, sputO, binK, binI, unK, builtinK, pickK, Nat.reduceBEq, Nat.reduceAdd, Int.reduceBEq, Int.reduceBNe, Int.reduceLT, aPost, resK, tup, tyf]
  refine hN8 [(0, ov b L0.length ys.length), (1, vint L0.length), (2, .func (.func g) #[] cap), (6, .int .i64 20), (7, .int .i64 0), (8, .int .i64 20)] _ _ ?_ (by simp (maxSteps := 2000000) only [↓aw_region, ↓aw_skip, ↓aw_seq, ↓aw_block, ↓aw_exit, ↓aw_ret, ↓sops_nil, ↓sops_go, ↓dops_nil, ↓dopsX_nil, ↓dopsR_nil, ↓vdn, vup, extr_20, extr_21, extr_30, extr_31, extr_32, List.map_cons, List.map_nil, cond_true, cond_false, aop, aThen, aBlock, argEnv, ev, sput, sputO, binK, binI, unK, builtinK, pickK, Nat.reduceBEq, Nat.reduceAdd, Int.reduceBEq, Int.reduceBNe, Int.reduceLT, aPost, resK, tup, tyf])
  clear hN8
  try clear N8
  refine aws_cutW fun M hM => ?_
  refine aws_block ?_
  refine aws_hide fun Q hQ => ?_
  refine aw_loopW (γ := Unit) (fun _ => True) (fun _ => ([(0, ov b L0.length ys.length), (1, vint L0.length), (2, .func (.func g) #[] cap), (6, .int .i64 20), (7, .int .i64 0), (8, .int .i64 20)], h)) (fun _ => 0) () trivial (by simp (maxSteps := 2000000) only [↓aw_region, ↓aw_skip, ↓aw_seq, ↓aw_block, ↓aw_exit, ↓aw_ret, ↓sops_nil, ↓sops_go, ↓dops_nil, ↓dopsX_nil, ↓dopsR_nil, ↓vdn, vup, extr_20, extr_21, extr_30, extr_31, extr_32, List.map_cons, List.map_nil, cond_true, cond_false, aop, aThen, aBlock, argEnv, ev, sput, sputO, binK, binI, unK, builtinK, pickK, Nat.reduceBEq, Nat.reduceAdd, Int.reduceBEq, Int.reduceBNe, Int.reduceLT, aPost, resK, tup, tyf]) rfl ?_
  rintro _ _
  refine aws_hide fun Q2 hQ2 => ?_
  simp only [l104_0]
  refine aws_cut fun N9 hN9 => ?_
  simp (maxSteps := 2000000) only [s104, ↓aw_region, ↓aw_skip, ↓aw_seq, ↓aw_block, ↓aw_exit, ↓aw_ret, ↓sops_nil, ↓sops_go, ↓dops_nil, ↓dopsX_nil, ↓dopsR_nil, ↓vdn, vup, extr_20, extr_21, extr_30, extr_31, extr_32, List.map_cons, List.map_nil, cond_true, cond_false, aop, aThen, aBlock, argEnv, ev, sput, sputO, binK, binI, unK, builtinK, pickK, Nat.reduceBEq, Nat.reduceAdd, Int.reduceBEq, Int.reduceBNe, Int.reduceLT, aPost, resK, tup, tyf, n20]
  refine hQ2 _ _ _ (hQ _ _ _ ?_)
  simp (maxSteps := 2000000) only [s104, ↓aw_region, ↓aw_skip, ↓aw_seq, ↓aw_block, ↓aw_exit, ↓aw_ret, ↓sops_nil, ↓sops_go, ↓dops_nil, ↓dopsX_nil, ↓dopsR_nil, ↓vdn, vup, extr_20, extr_21, extr_30, extr_31, extr_32, List.map_cons, List.map_nil, cond_true, cond_false, aop, aThen, aBlock, argEnv, ev, sput, sputO, binK, binI, unK, builtinK, pickK, Nat.reduceBEq, Nat.reduceAdd, Int.reduceBEq, Int.reduceBNe, Int.reduceLT, aPost, resK, tup, tyf, if_true]
  refine hM [(0, ov b L0.length ys.length), (1, vint L0.length), (2, .func (.func g) #[] cap), (6, .int .i64 20), (7, .int .i64 0), (8, .int .i64 20)] _ _ ?_ (by simp (maxSteps := 2000000) only [↓aw_region, ↓aw_skip, ↓aw_seq, ↓aw_block, ↓aw_exit, ↓aw_ret, ↓sops_nil, ↓sops_go, ↓dops_nil, ↓dopsX_nil, ↓dopsR_nil, ↓vdn, vup, extr_20, extr_21, extr_30, extr_31, extr_32, List.map_cons, List.map_nil, cond_true, cond_false, aop, aThen, aBlock, argEnv, ev, sput, sputO, binK, binI, unK, builtinK, pickK, Nat.reduceBEq, Nat.reduceAdd, Int.reduceBEq, Int.reduceBNe, Int.reduceLT, aPost, resK, tup, tyf])
  clear hM
  try clear M
  refine aws_cut fun N10 hN10 => ?_
  simp (maxSteps := 2000000) only [s104, ↓aw_region, ↓aw_skip, ↓aw_seq, ↓aw_block, ↓aw_exit, ↓aw_ret, ↓sops_nil, ↓sops_go, ↓dops_nil, ↓dopsX_nil, ↓dopsR_nil, ↓vdn, vup, extr_20, extr_21, extr_30, extr_31, extr_32, List.map_cons, List.map_nil, cond_true, cond_false, aop, aThen, aBlock, argEnv, ev, sput, sputO, binK, binI, unK, builtinK, pickK, Nat.reduceBEq, Nat.reduceAdd, Int.reduceBEq, Int.reduceBNe, Int.reduceLT, aPost, resK, tup, tyf, callK, List.nil_append, List.append_nil, List.toList_toArray, List.cons_append]
  refine (isortF_call hk hc hb hl hx).mono ?_
  rintro r h' hr
  refine hN10 [(0, ov b L0.length ys.length), (1, vint L0.length), (2, .func (.func g) #[] cap), (6, .int .i64 20), (7, .int .i64 0), (8, .int .i64 20)] _ _ ?_ (by simp (maxSteps := 2000000) only [↓aw_region, ↓aw_skip, ↓aw_seq, ↓aw_block, ↓aw_exit, ↓aw_ret, ↓sops_nil, ↓sops_go, ↓dops_nil, ↓dopsX_nil, ↓dopsR_nil, ↓vdn, vup, extr_20, extr_21, extr_30, extr_31, extr_32, List.map_cons, List.map_nil, cond_true, cond_false, aop, aThen, aBlock, argEnv, ev, sput, sputO, binK, binI, unK, builtinK, pickK, Nat.reduceBEq, Nat.reduceAdd, Int.reduceBEq, Int.reduceBNe, Int.reduceLT, aPost, resK, tup, tyf])
  clear hN10
  try clear N10
  refine aws_block ?_
  refine aws_hide fun Q hQ => ?_
  refine aw_loopW (γ := Unit) (fun _ => True) (fun _ => ([(0, ov b L0.length ys.length), (1, vint L0.length), (2, .func (.func g) #[] cap), (6, .int .i64 20), (7, .int .i64 0), (8, .int .i64 20)], h')) (fun _ => 0) () trivial (by simp (maxSteps := 2000000) only [↓aw_region, ↓aw_skip, ↓aw_seq, ↓aw_block, ↓aw_exit, ↓aw_ret, ↓sops_nil, ↓sops_go, ↓dops_nil, ↓dopsX_nil, ↓dopsR_nil, ↓vdn, vup, extr_20, extr_21, extr_30, extr_31, extr_32, List.map_cons, List.map_nil, cond_true, cond_false, aop, aThen, aBlock, argEnv, ev, sput, sputO, binK, binI, unK, builtinK, pickK, Nat.reduceBEq, Nat.reduceAdd, Int.reduceBEq, Int.reduceBNe, Int.reduceLT, aPost, resK, tup, tyf]) rfl ?_
  rintro _ _
  refine aws_hide fun Q2 hQ2 => ?_
  simp only [l104_2]
  refine aws_cut fun N11 hN11 => ?_
  simp (maxSteps := 2000000) only [s104, ↓aw_region, ↓aw_skip, ↓aw_seq, ↓aw_block, ↓aw_exit, ↓aw_ret, ↓sops_nil, ↓sops_go, ↓dops_nil, ↓dopsX_nil, ↓dopsR_nil, ↓vdn, vup, extr_20, extr_21, extr_30, extr_31, extr_32, List.map_cons, List.map_nil, cond_true, cond_false, aop, aThen, aBlock, argEnv, ev, sput, sputO, binK, binI, unK, builtinK, pickK, Nat.reduceBEq, Nat.reduceAdd, Int.reduceBEq, Int.reduceBNe, Int.reduceLT, aPost, resK, tup, tyf, n20']
  refine hQ2 _ _ _ (hQ _ _ _ ?_)
  simp (maxSteps := 2000000) only [s104, ↓aw_region, ↓aw_skip, ↓aw_seq, ↓aw_block, ↓aw_exit, ↓aw_ret, ↓sops_nil, ↓sops_go, ↓dops_nil, ↓dopsX_nil, ↓dopsR_nil, ↓vdn, vup, extr_20, extr_21, extr_30, extr_31, extr_32, List.map_cons, List.map_nil, cond_true, cond_false, aop, aThen, aBlock, argEnv, ev, sput, sputO, binK, binI, unK, builtinK, pickK, Nat.reduceBEq, Nat.reduceAdd, Int.reduceBEq, Int.reduceBNe, Int.reduceLT, aPost, resK, tup, tyf, if_true]
  exact hr
theorem s87_callW [Tabs Tryd.prog] {args : List Value} {h : Heap} {Q : Value → Heap → Prop} (hsz : args.length ≤ 9) (hk : AWS Tryd.prog 9 s87 (aPost Tryd.prog [] Q) (argEnv 0 args) h) : ACall Tryd.prog 87 args h Q :=
  acall_w Tryd.func87 rfl (enters_of Tryd.func87 (by kernel_rfl) rfl) rfl rfl (by decide) s87_strip s87_ok hsz hk
theorem sortF_call [Tabs prog] {h : Heap} {b : Nat} {L0 : List Nat} {ys : List Int} {g : FuncId} {cap : Array Value} {key : Nat → Int} (hk : ∀ x ∈ L0, -1000 ≤ key x ∧ key x ≤ 1000) (hc : ∀ L x y, x ∈ L0 → y ∈ L0 → APure prog g ([vint x, vint y] ++ cap.toList) (h.set b (.ints (iL L ++ ys) 3 false)) (vint (key x - key y))) (hb : h[b]? = some (.ints (iL L0 ++ ys) 3 false)) (hl : L0.length ≤ 12) (hx : ∀ x ∈ L0, x < 4611686018427387904) :
    ACall prog 87 [ov b L0.length ys.length, .func (.func g) #[] cap] h fun _ h' => ∃ L : List Nat, L.Perm L0 ∧ L.Pairwise (fun a b => key a ≤ key b) ∧ h' = h.set b (.ints (iL L ++ ys) 3 false) := by
  refine s87_callW (by simp) ?_
  refine aw_aws ?_
  simp (maxSteps := 2000000) only [s87, ↓aw_region, ↓aw_skip, ↓aw_seq, ↓aw_block, ↓aw_exit, ↓aw_ret, ↓sops_nil, ↓sops_go, ↓dops_nil, ↓dopsX_nil, ↓dopsR_nil, ↓vdn, vup, extr_20, extr_21, extr_30, extr_31, extr_32, List.map_cons, List.map_nil, cond_true, cond_false, aop, aThen, aBlock, argEnv, ev, sput, sputO, binK, binI, unK, builtinK, pickK, Nat.reduceBEq, Nat.reduceAdd, Int.reduceBEq, Int.reduceBNe, Int.reduceLT, aPost, resK, tup, tyf, callK, List.nil_append, List.append_nil, List.toList_toArray, List.cons_append, lenK]
  refine (stableF_call hk hc hb hl hx).mono ?_
  rintro r h' hr
  exact hr
end Go.Proofs.Tryd.Am

namespace Go.Proofs.Tryd.Am
open Go.Am
set_option maxRecDepth 100000
/-! 16: planchet planchetlaw02.RanksScores -/
@[reducible] def q16_0 : SCode := .region [⟨some 4, .assign (.const (.bool false)), none⟩]
@[reducible] def q16_1 : SCode := .region [⟨some 12, .move (.tmp 0), none⟩,
    ⟨some 13, .call { callee := .value (.func 19), args := #[.tmp 12], argTypes := #[22] }, none⟩,
    ⟨some 14, .call { callee := .value (.func 48), args := #[.tmp 13], argTypes := #[22] }, none⟩,
    ⟨some 11, .move (.tmp 14), none⟩,
    ⟨some 15, .extract (.tmp 11) 0, none⟩,
    ⟨some 16, .extract (.tmp 11) 1, none⟩,
    ⟨some 5, .assign (.tmp 15), none⟩,
    ⟨some 6, .assign (.tmp 16), none⟩]
@[reducible] def q16_2 : SCode := .region [⟨some 18, .move (.tmp 1), none⟩,
    ⟨some 19, .call { callee := .value (.func 19), args := #[.tmp 18], argTypes := #[22] }, none⟩,
    ⟨some 20, .call { callee := .value (.func 52), args := #[.tmp 19], argTypes := #[22] }, none⟩,
    ⟨some 17, .move (.tmp 20), none⟩,
    ⟨some 21, .extract (.tmp 17) 0, none⟩,
    ⟨some 22, .extract (.tmp 17) 1, none⟩,
    ⟨some 7, .assign (.tmp 21), none⟩,
    ⟨some 8, .assign (.tmp 22), none⟩]
@[reducible] def q16_3 : SCode := .region [⟨some 23, .move (.tmp 0), none⟩,
    ⟨some 24, .call { callee := .value (.func 20), args := #[.tmp 23], argTypes := #[22] }, none⟩,
    ⟨some 25, .move (.tmp 24), none⟩,
    ⟨some 26, .move (.tmp 5), some (25, true)⟩,
    ⟨some 27, .move (.tmp 0), some (25, true)⟩,
    ⟨some 28, .call { callee := .value (.func 53), args := #[.tmp 27], argTypes := #[22] }, some (25, true)⟩,
    ⟨some 29, .call { callee := .value (.func 25), args := #[.tmp 26, .tmp 28], argTypes := #[22, 22] }, some (25, true)⟩,
    ⟨some 30, .unOp .not 4 (.tmp 29), some (25, true)⟩,
    ⟨some 31, .move (.tmp 30), some (25, true)⟩,
    ⟨some 32, .move (.tmp 6), some (31, false)⟩,
    ⟨some 33, .binOp .neq 23 (.tmp 32) (.const (.int .i64 0)) 23, some (31, false)⟩,
    ⟨some 34, .pick (.tmp 31) (.const (.bool true)) (.tmp 33), some (25, true)⟩,
    ⟨some 35, .pick (.tmp 25) (.tmp 34) (.const (.bool false)), none⟩,
    ⟨some 36, .move (.tmp 35), none⟩,
    ⟨some 37, .move (.tmp 0), some (36, false)⟩,
    ⟨some 38, .call { callee := .value (.func 20), args := #[.tmp 37], argTypes := #[22] }, some (36, false)⟩,
    ⟨some 39, .unOp .not 4 (.tmp 38), some (36, false)⟩,
    ⟨some 40, .move (.tmp 39), some (36, false)⟩,
    ⟨some 41, .move (.tmp 5), some (40, true)⟩,
    ⟨some 42, .call { callee := .builtin .len, args := #[.tmp 41], argTypes := #[22] }, some (40, true)⟩,
    ⟨some 43, .binOp .neq 3 (.tmp 42) (.const (.int .i64 0)) 3, some (40, true)⟩,
    ⟨some 44, .move (.tmp 43), some (40, true)⟩,
    ⟨some 45, .move (.tmp 6), some (44, false)⟩,
    ⟨some 46, .binOp .neq 23 (.tmp 45) (.const (.int .i64 2)) 23, some (44, false)⟩,
    ⟨some 47, .pick (.tmp 44) (.const (.bool true)) (.tmp 46), some (40, true)⟩,
    ⟨some 48, .pick (.tmp 40) (.tmp 47) (.const (.bool false)), some (36, false)⟩,
    ⟨some 49, .pick (.tmp 36) (.const (.bool true)) (.tmp 48), none⟩,
    ⟨some 50, .move (.tmp 49), none⟩,
    ⟨some 51, .call { callee := .value (.func 21), args := #[], argTypes := #[] }, some (50, false)⟩,
    ⟨some 52, .unOp .not 4 (.tmp 51), some (50, false)⟩,
    ⟨some 53, .pick (.tmp 50) (.const (.bool true)) (.tmp 52), none⟩]
@[reducible] def q16_4 : SCode := .region [⟨some 4, .assign (.const (.bool false)), none⟩]
@[reducible] def q16_5 : SCode := .region [⟨some 54, .move (.tmp 1), none⟩,
    ⟨some 55, .call { callee := .value (.func 54), args := #[.tmp 54], argTypes := #[22] }, none⟩,
    ⟨some 56, .unOp .not 4 (.tmp 55), none⟩]
@[reducible] def q16_6 : SCode := .region [⟨some 57, .move (.tmp 7), none⟩,
    ⟨some 58, .call { callee := .builtin .len, args := #[.tmp 57], argTypes := #[22] }, none⟩,
    ⟨some 59, .binOp .eql 3 (.tmp 58) (.const (.int .i64 0)) 3, none⟩,
    ⟨some 60, .move (.tmp 59), none⟩,
    ⟨some 61, .move (.tmp 8), some (60, true)⟩,
    ⟨some 62, .binOp .eql 23 (.tmp 61) (.const (.int .i64 2)) 23, some (60, true)⟩,
    ⟨some 63, .pick (.tmp 60) (.tmp 62) (.const (.bool false)), none⟩,
    ⟨some 4, .assign (.tmp 63), none⟩]
@[reducible] def q16_7 : SCode := .region [⟨some 64, .move (.tmp 1), none⟩,
    ⟨some 65, .call { callee := .value (.func 55), args := #[.tmp 64], argTypes := #[22] }, none⟩,
    ⟨some 66, .unOp .not 4 (.tmp 65), none⟩]
@[reducible] def q16_8 : SCode := .region [⟨some 67, .move (.tmp 7), none⟩,
    ⟨some 68, .call { callee := .builtin .len, args := #[.tmp 67], argTypes := #[22] }, none⟩,
    ⟨some 69, .binOp .eql 3 (.tmp 68) (.const (.int .i64 0)) 3, none⟩,
    ⟨some 70, .move (.tmp 69), none⟩,
    ⟨some 71, .move (.tmp 8), some (70, true)⟩,
    ⟨some 72, .binOp .eql 23 (.tmp 71) (.const (.int .i64 4)) 23, some (70, true)⟩,
    ⟨some 73, .pick (.tmp 70) (.tmp 72) (.const (.bool false)), none⟩,
    ⟨some 4, .assign (.tmp 73), none⟩]
@[reducible] def q16_9 : SCode := .region [⟨some 74, .move (.tmp 8), none⟩,
    ⟨some 75, .binOp .neq 23 (.tmp 74) (.const (.int .i64 0)) 23, none⟩,
    ⟨some 76, .move (.tmp 75), none⟩,
    ⟨some 77, .move (.tmp 7), some (76, false)⟩,
    ⟨some 78, .call { callee := .builtin .len, args := #[.tmp 77], argTypes := #[22] }, some (76, false)⟩,
    ⟨some 79, .move (.tmp 1), some (76, false)⟩,
    ⟨some 80, .call { callee := .builtin .len, args := #[.tmp 79], argTypes := #[22] }, some (76, false)⟩,
    ⟨some 81, .binOp .neq 3 (.tmp 78) (.tmp 80) 3, some (76, false)⟩,
    ⟨some 82, .pick (.tmp 76) (.const (.bool true)) (.tmp 81), none⟩,
    ⟨some 83, .move (.tmp 82), none⟩,
    ⟨some 84, .move (.tmp 7), some (83, false)⟩,
    ⟨some 85, .call { callee := .value (.func 20), args := #[.tmp 84], argTypes := #[22] }, some (83, false)⟩,
    ⟨some 86, .unOp .not 4 (.tmp 85), some (83, false)⟩,
    ⟨some 87, .pick (.tmp 83) (.const (.bool true)) (.tmp 86), none⟩]
@[reducible] def q16_10 : SCode := .region [⟨some 4, .assign (.const (.bool false)), none⟩]
@[reducible] def q16_11 : SCode := .region [⟨some 88, .move (.tmp 7), none⟩,
    ⟨some 89, .call { callee := .builtin .len, args := #[.tmp 88], argTypes := #[22] }, none⟩,
    ⟨some 90, .move (.const (.int .i64 0)), none⟩]
@[reducible] def q16_12 : SCode := .region [⟨some 91, .binOp .lss 3 (.tmp 90) (.tmp 89) 3, none⟩]
@[reducible] def q16_13 : SCode := .region [⟨some 92, .move (.tmp 90), none⟩,
    ⟨some 93, .indexAddr 22 (.tmp 88) (.tmp 90), none⟩,
    ⟨some 94, .load 3 (.tmp 93), none⟩,
    ⟨some 9, .assign (.tmp 92), none⟩,
    ⟨some 10, .assign (.tmp 94), none⟩]
def q16_14 : SCode := .draw [⟨some 95, .move (.tmp 10), none⟩,
    ⟨some 96, .call { callee := .value (.func 29), args := #[.tmp 95], argTypes := #[3] }, none⟩,
    ⟨some 97, .move (.tmp 1), none⟩,
    ⟨some 98, .move (.tmp 9), none⟩,
    ⟨some 99, .indexAddr 22 (.tmp 97) (.tmp 98), none⟩,
    ⟨some 100, .load 3 (.tmp 99), none⟩,
    ⟨some 101, .binOp .neq 3 (.tmp 96) (.tmp 100) 3, none⟩]
   [[], [0], [], [], [2, 3], [4], [1, 5]]
@[reducible] def q16_15 : SCode := .region [⟨some 4, .assign (.const (.bool false)), none⟩]
@[reducible] def q16_16 : SCode := .region [⟨some 102, .binOp .add 3 (.tmp 90) (.const (.int .i64 1)) 3, none⟩,
    ⟨some 90, .move (.tmp 102), none⟩]
def l16_0 : SCode := (.seq q16_12 (.seq (.cond (.tmp 91) .skip (.exit 0)) (.seq (.block 1 (.seq q16_13 (.seq q16_14 (.cond (.tmp 101) (.seq q16_15 .ret) .skip)))) q16_16)))
@[reducible] def q16_17 : SCode := .region [⟨some 4, .assign (.const (.bool true)), none⟩]
def s16 : SCode := (.seq q16_0 (.seq q16_1 (.seq q16_2 (.seq (.seq q16_3 (.cond (.tmp 53) (.seq q16_4 .ret) .skip)) (.seq (.seq q16_5 (.cond (.tmp 56) (.seq q16_6 .ret) .skip)) (.seq (.seq q16_7 (.cond (.tmp 66) (.seq q16_8 .ret) .skip)) (.seq (.seq q16_9 (.cond (.tmp 87) (.seq q16_10 .ret) .skip)) (.seq (.seq q16_11 (.block 0 (.loop l16_0))) (.seq q16_17 .ret)))))))))
theorem s16_strip : stripC (bodyOf Tryd.f16) = s16 := by kernel_rfl
theorem s16_ok : codeOK 103 (bodyOf Tryd.f16) = true := by kernel_rfl
/-! 53: planchet planchetref02.Scores -/
@[reducible] def q53_0 : SCode := .region [⟨some 2, .assign (.const (.slice none 0 0)), none⟩]
@[reducible] def q53_1 : SCode := .region [⟨some 3, .assign (.const (.slice none 0 0)), none⟩]
@[reducible] def q53_2 : SCode := .region [⟨some 6, .move (.tmp 0), none⟩,
    ⟨some 7, .call { callee := .builtin .len, args := #[.tmp 6], argTypes := #[22] }, none⟩,
    ⟨some 8, .move (.const (.int .i64 0)), none⟩]
@[reducible] def q53_3 : SCode := .region [⟨some 9, .binOp .lss 3 (.tmp 8) (.tmp 7) 3, none⟩]
@[reducible] def q53_4 : SCode := .region [⟨some 10, .indexAddr 22 (.tmp 6) (.tmp 8), none⟩,
    ⟨some 11, .load 3 (.tmp 10), none⟩,
    ⟨some 5, .assign (.tmp 11), none⟩]
@[reducible] def q53_5 : SCode := .region [⟨some 12, .move (.tmp 3), none⟩,
    ⟨some 13, .move (.tmp 5), none⟩,
    ⟨some 14, .call { callee := .value (.func 79), args := #[.tmp 13], argTypes := #[3] }, none⟩,
    ⟨some 15, .buildSlice 22 1 #[(0, .tmp 14)], none⟩,
    ⟨some 16, .call { callee := .builtin .append, args := #[.tmp 12, .tmp 15], argTypes := #[22, 22] }, none⟩,
    ⟨some 3, .assign (.tmp 16), none⟩]
@[reducible] def q53_6 : SCode := .region [⟨some 17, .binOp .add 3 (.tmp 8) (.const (.int .i64 1)) 3, none⟩,
    ⟨some 8, .move (.tmp 17), none⟩]
def l53_0 : SCode := (.seq q53_3 (.seq (.cond (.tmp 9) .skip (.exit 0)) (.seq (.block 1 (.seq q53_4 q53_5)) q53_6)))
@[reducible] def q53_7 : SCode := .region [⟨some 18, .move (.tmp 3), none⟩,
    ⟨some 19, .call { callee := .value (.func 91), args := #[.tmp 18], argTypes := #[22] }, none⟩,
    ⟨some 2, .assign (.tmp 19), none⟩]
def s53 : SCode := (.seq q53_0 (.seq q53_1 (.seq (.seq q53_2 (.block 0 (.loop l53_0))) (.seq q53_7 .ret))))
theorem s53_strip : stripC (bodyOf Tryd.f53) = s53 := by kernel_rfl
theorem s53_ok : codeOK 20 (bodyOf Tryd.f53) = true := by kernel_rfl
/-! 54: planchet planchetref02.IsScores -/
@[reducible] def q54_0 : SCode := .region [⟨some 2, .assign (.const (.bool false)), none⟩]
@[reducible] def q54_1 : SCode := .region [⟨some 5, .move (.tmp 0), none⟩,
    ⟨some 6, .call { callee := .builtin .len, args := #[.tmp 5], argTypes := #[22] }, none⟩,
    ⟨some 7, .move (.const (.int .i64 0)), none⟩]
@[reducible] def q54_2 : SCode := .region [⟨some 8, .binOp .lss 3 (.tmp 7) (.tmp 6) 3, none⟩]
@[reducible] def q54_3 : SCode := .region [⟨some 9, .move (.tmp 7), none⟩,
    ⟨some 10, .indexAddr 22 (.tmp 5) (.tmp 7), none⟩,
    ⟨some 11, .load 3 (.tmp 10), none⟩,
    ⟨some 3, .assign (.tmp 9), none⟩,
    ⟨some 4, .assign (.tmp 11), none⟩]
@[reducible] def q54_4 : SCode := .region [⟨some 12, .move (.tmp 4), none⟩,
    ⟨some 13, .binOp .lss 3 (.tmp 12) (.const (.int .i64 0)) 3, none⟩,
    ⟨some 14, .move (.tmp 13), none⟩,
    ⟨some 15, .move (.tmp 4), some (14, false)⟩,
    ⟨some 16, .binOp .gtr 3 (.tmp 15) (.const (.int .i64 7)) 3, some (14, false)⟩,
    ⟨some 17, .pick (.tmp 14) (.const (.bool true)) (.tmp 16), none⟩,
    ⟨some 18, .move (.tmp 17), none⟩,
    ⟨some 19, .move (.tmp 3), some (18, false)⟩,
    ⟨some 20, .binOp .gtr 3 (.tmp 19) (.const (.int .i64 0)) 3, some (18, false)⟩,
    ⟨some 21, .move (.tmp 20), some (18, false)⟩,
    ⟨some 22, .move (.tmp 0), some (21, true)⟩,
    ⟨some 23, .move (.tmp 3), some (21, true)⟩,
    ⟨some 24, .binOp .sub 3 (.tmp 23) (.const (.int .i64 1)) 3, some (21, true)⟩,
    ⟨some 25, .indexAddr 22 (.tmp 22) (.tmp 24), some (21, true)⟩,
    ⟨some 26, .load 3 (.tmp 25), some (21, true)⟩,
    ⟨some 27, .move (.tmp 4), some (21, true)⟩,
    ⟨some 28, .binOp .gtr 3 (.tmp 26) (.tmp 27) 3, some (21, true)⟩,
    ⟨some 29, .pick (.tmp 21) (.tmp 28) (.const (.bool false)), some (18, false)⟩,
    ⟨some 30, .pick (.tmp 18) (.const (.bool true)) (.tmp 29), none⟩]
@[reducible] def q54_5 : SCode := .region [⟨some 2, .assign (.const (.bool false)), none⟩]
@[reducible] def q54_6 : SCode := .region [⟨some 31, .binOp .add 3 (.tmp 7) (.const (.int .i64 1)) 3, none⟩,
    ⟨some 7, .move (.tmp 31), none⟩]
def l54_0 : SCode := (.seq q54_2 (.seq (.cond (.tmp 8) .skip (.exit 0)) (.seq (.block 1 (.seq q54_3 (.seq q54_4 (.cond (.tmp 30) (.seq q54_5 .ret) .skip)))) q54_6)))
@[reducible] def q54_7 : SCode := .region [⟨some 32, .move (.tmp 0), none⟩,
    ⟨some 33, .call { callee := .builtin .len, args := #[.tmp 32], argTypes := #[22] }, none⟩,
    ⟨some 34, .binOp .geq 3 (.tmp 33) (.const (.int .i64 1)) 3, none⟩,
    ⟨some 35, .move (.tmp 34), none⟩,
    ⟨some 36, .move (.tmp 0), some (35, true)⟩,
    ⟨some 37, .call { callee := .builtin .len, args := #[.tmp 36], argTypes := #[22] }, some (35, true)⟩,
    ⟨some 38, .binOp .leq 3 (.tmp 37) (.const (.int .i64 8)) 3, some (35, true)⟩,
    ⟨some 39, .pick (.tmp 35) (.tmp 38) (.const (.bool false)), none⟩,
    ⟨some 2, .assign (.tmp 39), none⟩]
def s54 : SCode := (.seq q54_0 (.seq (.seq q54_1 (.block 0 (.loop l54_0))) (.seq q54_7 .ret)))
theorem s54_strip : stripC (bodyOf Tryd.f54) = s54 := by kernel_rfl
theorem s54_ok : codeOK 40 (bodyOf Tryd.f54) = true := by kernel_rfl
/-! 55: planchet planchetref02.Possible -/
@[reducible] def q55_0 : SCode := .region [⟨some 2, .assign (.const (.bool false)), none⟩]
@[reducible] def q55_1 : SCode := .region [⟨some 7, .move (.tmp 0), none⟩,
    ⟨some 8, .call { callee := .builtin .len, args := #[.tmp 7], argTypes := #[22] }, none⟩,
    ⟨some 9, .binOp .sub 3 (.tmp 8) (.const (.int .i64 1)) 3, none⟩,
    ⟨some 3, .assign (.tmp 9), none⟩]
@[reducible] def q55_2 : SCode := .region [⟨some 10, .move (.tmp 3), none⟩,
    ⟨some 11, .binOp .eql 3 (.tmp 10) (.const (.int .i64 0)) 3, none⟩]
@[reducible] def q55_3 : SCode := .region [⟨some 12, .move (.tmp 0), none⟩,
    ⟨some 13, .indexAddr 22 (.tmp 12) (.const (.int .i64 0)), none⟩,
    ⟨some 14, .load 3 (.tmp 13), none⟩,
    ⟨some 15, .binOp .eql 3 (.tmp 14) (.const (.int .i64 0)) 3, none⟩,
    ⟨some 2, .assign (.tmp 15), none⟩]
@[reducible] def q55_4 : SCode := .region [⟨some 16, .move (.tmp 0), none⟩,
    ⟨some 17, .move (.tmp 3), none⟩,
    ⟨some 18, .indexAddr 22 (.tmp 16) (.tmp 17), none⟩,
    ⟨some 19, .load 3 (.tmp 18), none⟩,
    ⟨some 20, .move (.tmp 3), none⟩,
    ⟨some 21, .binOp .gtr 3 (.tmp 19) (.tmp 20) 3, none⟩]
@[reducible] def q55_5 : SCode := .region [⟨some 2, .assign (.const (.bool false)), none⟩]
@[reducible] def q55_6 : SCode := .region [⟨some 4, .assign (.const (.slice none 0 0)), none⟩]
@[reducible] def q55_7 : SCode := .region [⟨some 22, .move (.tmp 0), none⟩,
    ⟨some 23, .move (.tmp 3), none⟩,
    ⟨some 24, .slice 22 (.tmp 22) none (some (.tmp 23)) none, none⟩,
    ⟨some 25, .call { callee := .builtin .len, args := #[.tmp 24], argTypes := #[22] }, none⟩,
    ⟨some 26, .move (.const (.int .i64 0)), none⟩]
@[reducible] def q55_8 : SCode := .region [⟨some 27, .binOp .lss 3 (.tmp 26) (.tmp 25) 3, none⟩]
@[reducible] def q55_9 : SCode := .region [⟨some 28, .move (.tmp 26), none⟩,
    ⟨some 29, .indexAddr 22 (.tmp 24) (.tmp 26), none⟩,
    ⟨some 30, .load 3 (.tmp 29), none⟩,
    ⟨some 5, .assign (.tmp 28), none⟩,
    ⟨some 6, .assign (.tmp 30), none⟩]
@[reducible] def q55_10 : SCode := .region [⟨some 31, .move (.tmp 5), none⟩,
    ⟨some 32, .move (.tmp 0), none⟩,
    ⟨some 33, .move (.tmp 3), none⟩,
    ⟨some 34, .indexAddr 22 (.tmp 32) (.tmp 33), none⟩,
    ⟨some 35, .load 3 (.tmp 34), none⟩,
    ⟨some 36, .binOp .geq 3 (.tmp 31) (.tmp 35) 3, none⟩]
@[reducible] def q55_11 : SCode := .region [⟨some 37, .move (.tmp 6), none⟩,
    ⟨some 38, .binOp .sub 3 (.tmp 37) (.const (.int .i64 1)) 3, none⟩,
    ⟨some 6, .assign (.tmp 38), none⟩]
@[reducible] def q55_12 : SCode := .region [⟨some 39, .move (.tmp 6), none⟩,
    ⟨some 40, .binOp .lss 3 (.tmp 39) (.const (.int .i64 0)) 3, none⟩]
@[reducible] def q55_13 : SCode := .region [⟨some 2, .assign (.const (.bool false)), none⟩]
@[reducible] def q55_14 : SCode := .region [⟨some 41, .move (.tmp 4), none⟩,
    ⟨some 42, .move (.tmp 6), none⟩,
    ⟨some 43, .buildSlice 22 1 #[(0, .tmp 42)], none⟩,
    ⟨some 44, .call { callee := .builtin .append, args := #[.tmp 41, .tmp 43], argTypes := #[22, 22] }, none⟩,
    ⟨some 4, .assign (.tmp 44), none⟩]
@[reducible] def q55_15 : SCode := .region [⟨some 45, .binOp .add 3 (.tmp 26) (.const (.int .i64 1)) 3, none⟩,
    ⟨some 26, .move (.tmp 45), none⟩]
def l55_0 : SCode := (.seq q55_8 (.seq (.cond (.tmp 27) .skip (.exit 0)) (.seq (.block 1 (.seq q55_9 (.seq (.seq q55_10 (.cond (.tmp 36) q55_11 .skip)) (.seq (.seq q55_12 (.cond (.tmp 40) (.seq q55_13 .ret) .skip)) q55_14)))) q55_15)))
@[reducible] def q55_16 : SCode := .region [⟨some 46, .move (.tmp 4), none⟩,
    ⟨some 47, .call { callee := .value (.func 91), args := #[.tmp 46], argTypes := #[22] }, none⟩,
    ⟨some 48, .call { callee := .value (.func 55), args := #[.tmp 47], argTypes := #[22] }, none⟩,
    ⟨some 2, .assign (.tmp 48), none⟩]
def s55 : SCode := (.seq q55_0 (.seq q55_1 (.seq (.seq q55_2 (.cond (.tmp 11) (.seq q55_3 .ret) .skip)) (.seq (.seq q55_4 (.cond (.tmp 21) (.seq q55_5 .ret) .skip)) (.seq q55_6 (.seq (.seq q55_7 (.block 0 (.loop l55_0))) (.seq q55_16 .ret)))))))
theorem s55_strip : stripC (bodyOf Tryd.f55) = s55 := by kernel_rfl
theorem s55_ok : codeOK 49 (bodyOf Tryd.f55) = true := by kernel_rfl
/-! 91: planchet planchetref02.Rising -/
@[reducible] def q91_0 : SCode := .region [⟨some 2, .assign (.const (.slice none 0 0)), none⟩]
@[reducible] def q91_1 : SCode := .region [⟨some 3, .assign (.const (.slice none 0 0)), none⟩]
@[reducible] def q91_2 : SCode := .region [⟨some 7, .move (.tmp 0), none⟩,
    ⟨some 8, .call { callee := .builtin .len, args := #[.tmp 7], argTypes := #[22] }, none⟩,
    ⟨some 9, .move (.const (.int .i64 0)), none⟩]
@[reducible] def q91_3 : SCode := .region [⟨some 10, .binOp .lss 3 (.tmp 9) (.tmp 8) 3, none⟩]
@[reducible] def q91_4 : SCode := .region [⟨some 11, .indexAddr 22 (.tmp 7) (.tmp 9), none⟩,
    ⟨some 12, .load 3 (.tmp 11), none⟩,
    ⟨some 5, .assign (.tmp 12), none⟩]
@[reducible] def q91_5 : SCode := .region [⟨some 6, .assign (.const (.int .i64 0)), none⟩]
@[reducible] def q91_6 : SCode := .region [⟨some 13, .move (.tmp 6), none⟩,
    ⟨some 14, .move (.tmp 3), none⟩,
    ⟨some 15, .call { callee := .builtin .len, args := #[.tmp 14], argTypes := #[22] }, none⟩,
    ⟨some 16, .binOp .lss 3 (.tmp 13) (.tmp 15) 3, none⟩,
    ⟨some 17, .move (.tmp 16), none⟩,
    ⟨some 18, .move (.tmp 3), some (17, true)⟩,
    ⟨some 19, .move (.tmp 6), some (17, true)⟩,
    ⟨some 20, .indexAddr 22 (.tmp 18) (.tmp 19), some (17, true)⟩,
    ⟨some 21, .load 3 (.tmp 20), some (17, true)⟩,
    ⟨some 22, .move (.tmp 5), some (17, true)⟩,
    ⟨some 23, .binOp .leq 3 (.tmp 21) (.tmp 22) 3, some (17, true)⟩,
    ⟨some 24, .pick (.tmp 17) (.tmp 23) (.const (.bool false)), none⟩]
@[reducible] def q91_7 : SCode := .region [⟨some 25, .move (.tmp 6), none⟩,
    ⟨some 26, .binOp .add 3 (.tmp 25) (.const (.int .i64 1)) 3, none⟩,
    ⟨some 6, .assign (.tmp 26), none⟩]
def l91_0 : SCode := (.seq (.seq q91_6 (.cond (.tmp 24) .skip (.exit 2))) (.block 3 q91_7))
def q91_8 : SCode := .draw [⟨some 27, .buildSlice 22 0 #[], none⟩,
    ⟨some 28, .move (.tmp 3), none⟩,
    ⟨some 29, .move (.tmp 6), none⟩,
    ⟨some 30, .slice 22 (.tmp 28) none (some (.tmp 29)) none, none⟩,
    ⟨some 31, .call { callee := .builtin .append, args := #[.tmp 27, .tmp 30], argTypes := #[22, 22] }, none⟩,
    ⟨some 32, .move (.tmp 5), none⟩,
    ⟨some 33, .buildSlice 22 1 #[(0, .tmp 32)], none⟩,
    ⟨some 34, .call { callee := .builtin .append, args := #[.tmp 31, .tmp 33], argTypes := #[22, 22] }, none⟩,
    ⟨some 35, .move (.tmp 3), none⟩,
    ⟨some 36, .move (.tmp 6), none⟩,
    ⟨some 37, .slice 22 (.tmp 35) (some (.tmp 36)) none none, none⟩,
    ⟨some 38, .call { callee := .builtin .append, args := #[.tmp 34, .tmp 37], argTypes := #[22, 22] }, none⟩,
    ⟨some 3, .assign (.tmp 38), none⟩]
   [[], [], [], [1, 2], [0, 3], [], [5], [4, 6, 4], [], [], [8, 9], [7, 10, 7], [11, 11, 0, 1, 2, 3, 4, 5, 6, 7, 8, 9, 10, 11]]
@[reducible] def q91_9 : SCode := .region [⟨some 39, .binOp .add 3 (.tmp 9) (.const (.int .i64 1)) 3, none⟩,
    ⟨some 9, .move (.tmp 39), none⟩]
def l91_1 : SCode := (.seq q91_3 (.seq (.cond (.tmp 10) .skip (.exit 0)) (.seq (.block 1 (.seq q91_4 (.seq q91_5 (.seq (.block 2 (.loop l91_0)) q91_8)))) q91_9)))
@[reducible] def q91_10 : SCode := .region [⟨some 40, .move (.tmp 3), none⟩,
    ⟨some 2, .assign (.tmp 40), none⟩]
def s91 : SCode := (.seq q91_0 (.seq q91_1 (.seq (.seq q91_2 (.block 0 (.loop l91_1))) (.seq q91_10 .ret))))
theorem s91_strip : stripC (bodyOf Tryd.f91) = s91 := by kernel_rfl
theorem s91_ok : codeOK 41 (bodyOf Tryd.f91) = true := by kernel_rfl
end Go.Proofs.Tryd.Am

namespace Go.Proofs.Tryd.Am
open Go.Am Rb
set_option maxRecDepth 100000
set_option maxHeartbeats 1000000

/-- Each number is at least the one before it. -/
def srt (xs : List Int) : Bool := (List.range xs.length).all fun j => j == 0 || decide (xs.getD (j - 1) 0 ≤ xs.getD j 0)
def isS (xs : List Int) : Bool := decide (1 ≤ xs.length) && decide (xs.length ≤ 8) && srt xs && xs.all fun x => decide (0 ≤ x) && decide (x ≤ 7)
theorem srt_iff {xs : List Int} : srt xs = true ↔ ∀ j, j + 1 < xs.length → xs.getD j 0 ≤ xs.getD (j + 1) 0 := by
  rw [srt, List.all_eq_true]
  constructor
  · intro h j hj
    simpa using h (j + 1) (List.mem_range.2 hj)
  · intro h j hj
    cases j with
    | zero => rfl
    | succ j => simpa using h j (List.mem_range.1 hj)
theorem srt_le {xs : List Int} (h : srt xs = true) : ∀ k i, i + k < xs.length → xs.getD i 0 ≤ xs.getD (i + k) 0
  | 0, i, _ => Int.le_refl _
  | k + 1, i, hk => Int.le_trans (srt_le h k i (by omega)) (srt_iff.1 h (i + k) (by omega))
theorem srt_pw {xs : List Int} (h : srt xs = true) : xs.Pairwise (· ≤ ·) := by
  rw [List.pairwise_iff_getElem]
  intro i j hi hj hij
  have := srt_le h (j - i) i (by omega)
  have e : i + (j - i) = j := by omega
  rw [e, List.getD, List.getD, List.getElem?_eq_getElem hi, List.getElem?_eq_getElem hj] at this
  exact this
theorem s86_callW [Tabs Tryd.prog] {args : List Value} {h : Heap} {Q : Value → Heap → Prop} (hsz : args.length ≤ 21) (hk : AWS Tryd.prog 21 s86 (aPost Tryd.prog [.tmp 2] Q) (argEnv 0 args) h) : ACall Tryd.prog 86 args h Q :=
  acall_w Tryd.func86 rfl (enters_of Tryd.func86 (by kernel_rfl) rfl) rfl rfl (by decide) s86_strip s86_ok hsz hk
theorem issorted_call [Tabs prog] {h : Heap} {v : Value} {xs : List Int} (hv : IntSl h v xs) (hl : xs.length < 9223372036854775808) : APure prog 86 [v] h (.bool (srt xs)) := by
  have hsub : subV .i64 (xs.length : Int) 1 = (xs.length : Int) - 1 := subV_id (by omega) (by omega)
  refine s86_callW (by simp) ?_
  simp only [s86]
  refine aws_cut fun N1 hN1 => ?_
  simp (maxSteps := 2000000) only [s86, ↓aw_region, ↓aw_skip, ↓aw_seq, ↓aw_block, ↓aw_exit, ↓aw_ret, ↓sops_nil, ↓sops_go, ↓dops_nil, ↓dopsX_nil, ↓dopsR_nil, ↓vdn, vup, extr_20, extr_21, extr_30, extr_31, extr_32, List.map_cons, List.map_nil, cond_true, cond_false, aop, aThen, aBlock, argEnv, ev, sput, sputO, binK, binI, unK, builtinK, pickK, Nat.reduceBEq, Nat.reduceAdd, Int.reduceBEq, Int.reduceBNe, Int.reduceLT, aPost, resK, tup, tyf]
  refine hN1 [(0, v), (2, .bool false)] _ _ ?_ (by simp (maxSteps := 2000000) only [↓aw_region, ↓aw_skip, ↓aw_seq, ↓aw_block, ↓aw_exit, ↓aw_ret, ↓sops_nil, ↓sops_go, ↓dops_nil, ↓dopsX_nil, ↓dopsR_nil, ↓vdn, vup, extr_20, extr_21, extr_30, extr_31, extr_32, List.map_cons, List.map_nil, cond_true, cond_false, aop, aThen, aBlock, argEnv, ev, sput, sputO, binK, binI, unK, builtinK, pickK, Nat.reduceBEq, Nat.reduceAdd, Int.reduceBEq, Int.reduceBNe, Int.reduceLT, aPost, resK, tup, tyf])
  clear hN1
  try clear N1
  refine aws_cut fun Z hZ => ?_
  simp (maxSteps := 2000000) only [s86, ↓aw_region, ↓aw_skip, ↓aw_seq, ↓aw_block, ↓aw_exit, ↓aw_ret, ↓sops_nil, ↓sops_go, ↓dops_nil, ↓dopsX_nil, ↓dopsR_nil, ↓vdn, vup, extr_20, extr_21, extr_30, extr_31, extr_32, List.map_cons, List.map_nil, cond_true, cond_false, aop, aThen, aBlock, argEnv, ev, sput, sputO, binK, binI, unK, builtinK, pickK, Nat.reduceBEq, Nat.reduceAdd, Int.reduceBEq, Int.reduceBNe, Int.reduceLT, aPost, resK, tup, tyf, hv.len, hsub, ↓aw_loop_eq]
  refine aws_hide fun Q hQ => ?_
  refine aw_loopW (γ := Nat) (fun k => k ≤ xs.length ∧ ∀ j, k ≤ j → 1 ≤ j → j < xs.length → xs.getD (j - 1) 0 ≤ xs.getD j 0)
    (fun k => ([(0, v), (2, .bool false), (3, vint ((k : Int) - 1))], h)) (fun k => k) xs.length ⟨Nat.le_refl _, fun j h1 _ h2 => by omega⟩ (by simp (maxSteps := 2000000) only [↓aw_region, ↓aw_skip, ↓aw_seq, ↓aw_block, ↓aw_exit, ↓aw_ret, ↓sops_nil, ↓sops_go, ↓dops_nil, ↓dopsX_nil, ↓dopsR_nil, ↓vdn, vup, extr_20, extr_21, extr_30, extr_31, extr_32, List.map_cons, List.map_nil, cond_true, cond_false, aop, aThen, aBlock, argEnv, ev, sput, sputO, binK, binI, unK, builtinK, pickK, Nat.reduceBEq, Nat.reduceAdd, Int.reduceBEq, Int.reduceBNe, Int.reduceLT, aPost, resK, tup, tyf]) rfl ?_
  rintro k ⟨hk, hs⟩
  refine aws_hide fun Q2 hQ2 => ?_
  simp only [l86_0]
  by_cases hk1 : (0 : Int) < (k : Int) - 1
  · have e1 : (k : Int) - 1 = ((k - 1 : Nat) : Int) := by omega
    have e2 : subV .i64 ((k - 1 : Nat) : Int) 1 = ((k - 2 : Nat) : Int) := by rw [subV_id (by omega) (by omega)]; omega
    have hi1 : k - 1 < xs.length := by omega
    have hi2 : k - 2 < xs.length := by omega
    refine aws_cut fun N2 hN2 => ?_
    simp (maxSteps := 2000000) only [s86, ↓aw_region, ↓aw_skip, ↓aw_seq, ↓aw_block, ↓aw_exit, ↓aw_ret, ↓sops_nil, ↓sops_go, ↓dops_nil, ↓dopsX_nil, ↓dopsR_nil, ↓vdn, vup, extr_20, extr_21, extr_30, extr_31, extr_32, List.map_cons, List.map_nil, cond_true, cond_false, aop, aThen, aBlock, argEnv, ev, sput, sputO, binK, binI, unK, builtinK, pickK, Nat.reduceBEq, Nat.reduceAdd, Int.reduceBEq, Int.reduceBNe, Int.reduceLT, aPost, resK, tup, tyf, gt_iff_lt, hk1]
    refine hN2 [(0, v), (2, .bool false), (3, vint ((k : Int) - 1))] _ _ ?_ (by simp (maxSteps := 2000000) only [↓aw_region, ↓aw_skip, ↓aw_seq, ↓aw_block, ↓aw_exit, ↓aw_ret, ↓sops_nil, ↓sops_go, ↓dops_nil, ↓dopsX_nil, ↓dopsR_nil, ↓vdn, vup, extr_20, extr_21, extr_30, extr_31, extr_32, List.map_cons, List.map_nil, cond_true, cond_false, aop, aThen, aBlock, argEnv, ev, sput, sputO, binK, binI, unK, builtinK, pickK, Nat.reduceBEq, Nat.reduceAdd, Int.reduceBEq, Int.reduceBNe, Int.reduceLT, aPost, resK, tup, tyf])
    clear hN2
    try clear N2
    refine aws_cutW fun N3 hN3 => ?_
    refine aws_block ?_
    refine aws_cut fun N4 hN4 => ?_
    rw [e1]
    refine aw_drawX [(9, 1)] (by kernel_rfl) (by kernel_rfl) (by kernel_rfl) (by kernel_rfl) ?_
    simp (maxSteps := 2000000) only [s86, ↓aw_region, ↓aw_skip, ↓aw_seq, ↓aw_block, ↓aw_exit, ↓aw_ret, ↓sops_nil, ↓sops_go, ↓dops_nil, ↓dopsX_nil, ↓dopsR_nil, ↓vdn, vup, extr_20, extr_21, extr_30, extr_31, extr_32, List.map_cons, List.map_nil, cond_true, cond_false, aop, aThen, aBlock, argEnv, ev, sput, sputO, binK, binI, unK, builtinK, pickK, Nat.reduceBEq, Nat.reduceAdd, Int.reduceBEq, Int.reduceBNe, Int.reduceLT, aPost, resK, tup, tyf, hv.idx el_22 esz_3 hi1, hv.load shp_3 hi1, e2, hv.idx el_22 esz_3 hi2, hv.load shp_3 hi2, callK, List.nil_append, List.append_nil, List.toList_toArray, List.cons_append]
    refine ⟨_, _, less_call, rfl, ?_⟩
    cases hlt : decide (xs.getD (k - 1) 0 < xs.getD (k - 2) 0) with
    | true =>
      have hno : srt xs = false := by
        cases h : srt xs with
        | false => rfl
        | true =>
          have := srt_iff.1 h (k - 2) (by omega)
          have e : k - 2 + 1 = k - 1 := by omega
          rw [e] at this
          have := of_decide_eq_true hlt; omega
      refine hN4 [(0, v), (2, .bool false), (3, vint ((k - 1 : Nat) : Int)), (20, .bool true)] _ _ ?_ (by simp (maxSteps := 2000000) only [↓aw_region, ↓aw_skip, ↓aw_seq, ↓aw_block, ↓aw_exit, ↓aw_ret, ↓sops_nil, ↓sops_go, ↓dops_nil, ↓dopsX_nil, ↓dopsR_nil, ↓vdn, vup, extr_20, extr_21, extr_30, extr_31, extr_32, List.map_cons, List.map_nil, cond_true, cond_false, aop, aThen, aBlock, argEnv, ev, sput, sputO, binK, binI, unK, builtinK, pickK, Nat.reduceBEq, Nat.reduceAdd, Int.reduceBEq, Int.reduceBNe, Int.reduceLT, aPost, resK, tup, tyf])
      clear hN4
      try clear N4
      refine aw_aws ?_
      simp (maxSteps := 2000000) only [s86, ↓aw_region, ↓aw_skip, ↓aw_seq, ↓aw_block, ↓aw_exit, ↓aw_ret, ↓sops_nil, ↓sops_go, ↓dops_nil, ↓dopsX_nil, ↓dopsR_nil, ↓vdn, vup, extr_20, extr_21, extr_30, extr_31, extr_32, List.map_cons, List.map_nil, cond_true, cond_false, aop, aThen, aBlock, argEnv, ev, sput, sputO, binK, binI, unK, builtinK, pickK, Nat.reduceBEq, Nat.reduceAdd, Int.reduceBEq, Int.reduceBNe, Int.reduceLT, aPost, resK, tup, tyf]
      refine hQ2 _ _ _ (hQ _ _ _ ?_)
      simp (maxSteps := 2000000) only [s86, ↓aw_region, ↓aw_skip, ↓aw_seq, ↓aw_block, ↓aw_exit, ↓aw_ret, ↓sops_nil, ↓sops_go, ↓dops_nil, ↓dopsX_nil, ↓dopsR_nil, ↓vdn, vup, extr_20, extr_21, extr_30, extr_31, extr_32, List.map_cons, List.map_nil, cond_true, cond_false, aop, aThen, aBlock, argEnv, ev, sput, sputO, binK, binI, unK, builtinK, pickK, Nat.reduceBEq, Nat.reduceAdd, Int.reduceBEq, Int.reduceBNe, Int.reduceLT, aPost, resK, tup, tyf, hno]
    | false =>
      refine hN4 [(0, v), (2, .bool false), (3, vint ((k - 1 : Nat) : Int)), (20, .bool false)] _ _ ?_ (by simp (maxSteps := 2000000) only [↓aw_region, ↓aw_skip, ↓aw_seq, ↓aw_block, ↓aw_exit, ↓aw_ret, ↓sops_nil, ↓sops_go, ↓dops_nil, ↓dopsX_nil, ↓dopsR_nil, ↓vdn, vup, extr_20, extr_21, extr_30, extr_31, extr_32, List.map_cons, List.map_nil, cond_true, cond_false, aop, aThen, aBlock, argEnv, ev, sput, sputO, binK, binI, unK, builtinK, pickK, Nat.reduceBEq, Nat.reduceAdd, Int.reduceBEq, Int.reduceBNe, Int.reduceLT, aPost, resK, tup, tyf])
      clear hN4
      try clear N4
      refine aw_aws ?_
      simp (maxSteps := 2000000) only [s86, ↓aw_region, ↓aw_skip, ↓aw_seq, ↓aw_block, ↓aw_exit, ↓aw_ret, ↓sops_nil, ↓sops_go, ↓dops_nil, ↓dopsX_nil, ↓dopsR_nil, ↓vdn, vup, extr_20, extr_21, extr_30, extr_31, extr_32, List.map_cons, List.map_nil, cond_true, cond_false, aop, aThen, aBlock, argEnv, ev, sput, sputO, binK, binI, unK, builtinK, pickK, Nat.reduceBEq, Nat.reduceAdd, Int.reduceBEq, Int.reduceBNe, Int.reduceLT, aPost, resK, tup, tyf]
      refine hN3 [(0, v), (2, .bool false), (3, vint ((k - 1 : Nat) : Int))] _ _ ?_ (by simp (maxSteps := 2000000) only [↓aw_region, ↓aw_skip, ↓aw_seq, ↓aw_block, ↓aw_exit, ↓aw_ret, ↓sops_nil, ↓sops_go, ↓dops_nil, ↓dopsX_nil, ↓dopsR_nil, ↓vdn, vup, extr_20, extr_21, extr_30, extr_31, extr_32, List.map_cons, List.map_nil, cond_true, cond_false, aop, aThen, aBlock, argEnv, ev, sput, sputO, binK, binI, unK, builtinK, pickK, Nat.reduceBEq, Nat.reduceAdd, Int.reduceBEq, Int.reduceBNe, Int.reduceLT, aPost, resK, tup, tyf])
      clear hN3
      try clear N3
      refine aw_aws ?_
      have e3 : subV .i64 ((k - 1 : Nat) : Int) 1 = ((k - 1 : Nat) : Int) - 1 := subV_id (by omega) (by omega)
      simp (maxSteps := 2000000) only [s86, ↓aw_region, ↓aw_skip, ↓aw_seq, ↓aw_block, ↓aw_exit, ↓aw_ret, ↓sops_nil, ↓sops_go, ↓dops_nil, ↓dopsX_nil, ↓dopsR_nil, ↓vdn, vup, extr_20, extr_21, extr_30, extr_31, extr_32, List.map_cons, List.map_nil, cond_true, cond_false, aop, aThen, aBlock, argEnv, ev, sput, sputO, binK, binI, unK, builtinK, pickK, Nat.reduceBEq, Nat.reduceAdd, Int.reduceBEq, Int.reduceBNe, Int.reduceLT, aPost, resK, tup, tyf, e3]
      refine hQ2 _ _ _ ⟨k - 1, ⟨by omega, fun j h1 h2 h3 => ?_⟩, by omega, by simp (maxSteps := 2000000) only [↓aw_region, ↓aw_skip, ↓aw_seq, ↓aw_block, ↓aw_exit, ↓aw_ret, ↓sops_nil, ↓sops_go, ↓dops_nil, ↓dopsX_nil, ↓dopsR_nil, ↓vdn, vup, extr_20, extr_21, extr_30, extr_31, extr_32, List.map_cons, List.map_nil, cond_true, cond_false, aop, aThen, aBlock, argEnv, ev, sput, sputO, binK, binI, unK, builtinK, pickK, Nat.reduceBEq, Nat.reduceAdd, Int.reduceBEq, Int.reduceBNe, Int.reduceLT, aPost, resK, tup, tyf], rfl⟩
      by_cases hj : k ≤ j
      · exact hs j hj h2 h3
      · obtain rfl : j = k - 1 := by omega
        have := of_decide_eq_false hlt
        have e : k - 1 - 1 = k - 2 := by omega
        rw [e]; omega
  · have hsr : srt xs = true := srt_iff.2 fun j hj => by
      have := hs (j + 1) (by omega) (by omega) hj
      simpa using this
    refine aws_cut fun N5 hN5 => ?_
    simp (maxSteps := 2000000) only [s86, ↓aw_region, ↓aw_skip, ↓aw_seq, ↓aw_block, ↓aw_exit, ↓aw_ret, ↓sops_nil, ↓sops_go, ↓dops_nil, ↓dopsX_nil, ↓dopsR_nil, ↓vdn, vup, extr_20, extr_21, extr_30, extr_31, extr_32, List.map_cons, List.map_nil, cond_true, cond_false, aop, aThen, aBlock, argEnv, ev, sput, sputO, binK, binI, unK, builtinK, pickK, Nat.reduceBEq, Nat.reduceAdd, Int.reduceBEq, Int.reduceBNe, Int.reduceLT, aPost, resK, tup, tyf, gt_iff_lt, hk1]
    refine hQ2 _ _ _ (hQ _ _ _ ?_)
    simp (maxSteps := 2000000) only [s86, ↓aw_region, ↓aw_skip, ↓aw_seq, ↓aw_block, ↓aw_exit, ↓aw_ret, ↓sops_nil, ↓sops_go, ↓dops_nil, ↓dopsX_nil, ↓dopsR_nil, ↓vdn, vup, extr_20, extr_21, extr_30, extr_31, extr_32, List.map_cons, List.map_nil, cond_true, cond_false, aop, aThen, aBlock, argEnv, ev, sput, sputO, binK, binI, unK, builtinK, pickK, Nat.reduceBEq, Nat.reduceAdd, Int.reduceBEq, Int.reduceBNe, Int.reduceLT, aPost, resK, tup, tyf, if_true]
    refine hZ [(0, v), (2, .bool false), (3, vint ((k : Int) - 1))] _ _ ?_ (by simp (maxSteps := 2000000) only [↓aw_region, ↓aw_skip, ↓aw_seq, ↓aw_block, ↓aw_exit, ↓aw_ret, ↓sops_nil, ↓sops_go, ↓dops_nil, ↓dopsX_nil, ↓dopsR_nil, ↓vdn, vup, extr_20, extr_21, extr_30, extr_31, extr_32, List.map_cons, List.map_nil, cond_true, cond_false, aop, aThen, aBlock, argEnv, ev, sput, sputO, binK, binI, unK, builtinK, pickK, Nat.reduceBEq, Nat.reduceAdd, Int.reduceBEq, Int.reduceBNe, Int.reduceLT, aPost, resK, tup, tyf])
    clear hZ
    try clear Z
    refine aw_aws ?_
    simp (maxSteps := 2000000) only [s86, ↓aw_region, ↓aw_skip, ↓aw_seq, ↓aw_block, ↓aw_exit, ↓aw_ret, ↓sops_nil, ↓sops_go, ↓dops_nil, ↓dopsX_nil, ↓dopsR_nil, ↓vdn, vup, extr_20, extr_21, extr_30, extr_31, extr_32, List.map_cons, List.map_nil, cond_true, cond_false, aop, aThen, aBlock, argEnv, ev, sput, sputO, binK, binI, unK, builtinK, pickK, Nat.reduceBEq, Nat.reduceAdd, Int.reduceBEq, Int.reduceBNe, Int.reduceLT, aPost, resK, tup, tyf, hsr]
theorem s54_callW [Tabs Tryd.prog] {args : List Value} {h : Heap} {Q : Value → Heap → Prop} (hsz : args.length ≤ 40) (hk : AWS Tryd.prog 40 s54 (aPost Tryd.prog [.tmp 2] Q) (argEnv 0 args) h) : ACall Tryd.prog 54 args h Q :=
  acall_w Tryd.func54 rfl (enters_of Tryd.func54 (by kernel_rfl) rfl) rfl rfl (by decide) s54_strip s54_ok hsz hk
theorem isscores_call [Tabs prog] {h : Heap} {v : Value} {xs : List Int} (hv : IntSl h v xs) (hl : xs.length < 9223372036854775808) (hx : ∀ x ∈ xs, -9223372036854775808 ≤ x ∧ x < 9223372036854775808) : APure prog 54 [v] h (.bool (isS xs)) := by
  refine s54_callW (by simp) ?_
  simp only [s54]
  refine aws_cut fun N6 hN6 => ?_
  simp (maxSteps := 2000000) only [s54, ↓aw_region, ↓aw_skip, ↓aw_seq, ↓aw_block, ↓aw_exit, ↓aw_ret, ↓sops_nil, ↓sops_go, ↓dops_nil, ↓dopsX_nil, ↓dopsR_nil, ↓vdn, vup, extr_20, extr_21, extr_30, extr_31, extr_32, List.map_cons, List.map_nil, cond_true, cond_false, aop, aThen, aBlock, argEnv, ev, sput, sputO, binK, binI, unK, builtinK, pickK, Nat.reduceBEq, Nat.reduceAdd, Int.reduceBEq, Int.reduceBNe, Int.reduceLT, aPost, resK, tup, tyf]
  refine hN6 [(0, v), (2, .bool false)] _ _ ?_ (by simp (maxSteps := 2000000) only [↓aw_region, ↓aw_skip, ↓aw_seq, ↓aw_block, ↓aw_exit, ↓aw_ret, ↓sops_nil, ↓sops_go, ↓dops_nil, ↓dopsX_nil, ↓dopsR_nil, ↓vdn, vup, extr_20, extr_21, extr_30, extr_31, extr_32, List.map_cons, List.map_nil, cond_true, cond_false, aop, aThen, aBlock, argEnv, ev, sput, sputO, binK, binI, unK, builtinK, pickK, Nat.reduceBEq, Nat.reduceAdd, Int.reduceBEq, Int.reduceBNe, Int.reduceLT, aPost, resK, tup, tyf])
  clear hN6
  try clear N6
  refine aws_cut fun Z hZ => ?_
  simp (maxSteps := 2000000) only [s54, ↓aw_region, ↓aw_skip, ↓aw_seq, ↓aw_block, ↓aw_exit, ↓aw_ret, ↓sops_nil, ↓sops_go, ↓dops_nil, ↓dopsX_nil, ↓dopsR_nil, ↓vdn, vup, extr_20, extr_21, extr_30, extr_31, extr_32, List.map_cons, List.map_nil, cond_true, cond_false, aop, aThen, aBlock, argEnv, ev, sput, sputO, binK, binI, unK, builtinK, pickK, Nat.reduceBEq, Nat.reduceAdd, Int.reduceBEq, Int.reduceBNe, Int.reduceLT, aPost, resK, tup, tyf, hv.len, ↓aw_loop_eq]
  refine aws_hide fun Q hQ => ?_
  refine aw_loop (γ := Nat) (fun k => k ≤ xs.length ∧ ∀ j, j < k → (0 ≤ xs.getD j 0 ∧ xs.getD j 0 ≤ 7) ∧ (0 < j → xs.getD (j - 1) 0 ≤ xs.getD j 0))
    (fun k => ([(0, v), (2, .bool false), (5, v), (6, vint xs.length), (7, vint k)], h)) (fun k => xs.length - k) 0 ⟨Nat.zero_le _, fun j hj => by omega⟩ (by simp (maxSteps := 2000000) only [↓aw_region, ↓aw_skip, ↓aw_seq, ↓aw_block, ↓aw_exit, ↓aw_ret, ↓sops_nil, ↓sops_go, ↓dops_nil, ↓dopsX_nil, ↓dopsR_nil, ↓vdn, vup, extr_20, extr_21, extr_30, extr_31, extr_32, List.map_cons, List.map_nil, cond_true, cond_false, aop, aThen, aBlock, argEnv, ev, sput, sputO, binK, binI, unK, builtinK, pickK, Nat.reduceBEq, Nat.reduceAdd, Int.reduceBEq, Int.reduceBNe, Int.reduceLT, aPost, resK, tup, tyf, Int.natCast_zero]) rfl ?_
  rintro k ⟨hk, hs⟩
  refine aw_hide fun Q2 hQ2 => ?_
  by_cases hkn : (k : Int) < xs.length
  · have hk' : k < xs.length := by omega
    have bad : ∀ {K : Prop}, (¬ ((0 ≤ xs.getD k 0 ∧ xs.getD k 0 ≤ 7) ∧ (0 < k → xs.getD (k - 1) 0 ≤ xs.getD k 0))) → isS xs = false := fun {K} hb => by
      cases h : isS xs with
      | false => rfl
      | true =>
        simp only [isS, Bool.and_eq_true, List.all_eq_true, decide_eq_true_eq] at h
        refine absurd ⟨h.2 _ ?_, fun h0 => ?_⟩ hb
        · rw [List.getD, List.getElem?_eq_getElem hk', Option.getD_some]; exact List.getElem_mem _
        · have := srt_iff.1 h.1.2 (k - 1) (by omega)
          have e : k - 1 + 1 = k := by omega
          rw [e] at this; exact this
    have good : ((0 ≤ xs.getD k 0 ∧ xs.getD k 0 ≤ 7) ∧ (0 < k → xs.getD (k - 1) 0 ≤ xs.getD k 0)) → ∀ j, j < k + 1 → (0 ≤ xs.getD j 0 ∧ xs.getD j 0 ≤ 7) ∧ (0 < j → xs.getD (j - 1) 0 ≤ xs.getD j 0) := fun hg j hj => by
      by_cases h : j < k
      · exact hs j h
      · obtain rfl : j = k := by omega
        exact hg
    have leave : ∀ e, ELe e [(0, v), (2, .bool false)] → (¬ ((0 ≤ xs.getD k 0 ∧ xs.getD k 0 ≤ 7) ∧ (0 < k → xs.getD (k - 1) 0 ≤ xs.getD k 0))) → True := fun _ _ _ => trivial
    by_cases h0 : xs.getD k 0 < 0
    · simp (maxSteps := 2000000) only [s54, ↓aw_region, ↓aw_skip, ↓aw_seq, ↓aw_block, ↓aw_exit, ↓aw_ret, ↓sops_nil, ↓sops_go, ↓dops_nil, ↓dopsX_nil, ↓dopsR_nil, ↓vdn, vup, extr_20, extr_21, extr_30, extr_31, extr_32, List.map_cons, List.map_nil, cond_true, cond_false, aop, aThen, aBlock, argEnv, ev, sput, sputO, binK, binI, unK, builtinK, pickK, Nat.reduceBEq, Nat.reduceAdd, Int.reduceBEq, Int.reduceBNe, Int.reduceLT, aPost, resK, tup, tyf, l54_0, hkn, hv.idx el_22 esz_3 hk', hv.load shp_3 hk', h0, Bool.not_true]
      refine hQ2 _ _ _ (hQ _ _ _ ?_)
      simp (maxSteps := 2000000) only [s54, ↓aw_region, ↓aw_skip, ↓aw_seq, ↓aw_block, ↓aw_exit, ↓aw_ret, ↓sops_nil, ↓sops_go, ↓dops_nil, ↓dopsX_nil, ↓dopsR_nil, ↓vdn, vup, extr_20, extr_21, extr_30, extr_31, extr_32, List.map_cons, List.map_nil, cond_true, cond_false, aop, aThen, aBlock, argEnv, ev, sput, sputO, binK, binI, unK, builtinK, pickK, Nat.reduceBEq, Nat.reduceAdd, Int.reduceBEq, Int.reduceBNe, Int.reduceLT, aPost, resK, tup, tyf, bad (K := True) fun h => absurd h.1.1 (by omega)]
    · by_cases h7 : (7 : Int) < xs.getD k 0
      · simp (maxSteps := 2000000) only [s54, ↓aw_region, ↓aw_skip, ↓aw_seq, ↓aw_block, ↓aw_exit, ↓aw_ret, ↓sops_nil, ↓sops_go, ↓dops_nil, ↓dopsX_nil, ↓dopsR_nil, ↓vdn, vup, extr_20, extr_21, extr_30, extr_31, extr_32, List.map_cons, List.map_nil, cond_true, cond_false, aop, aThen, aBlock, argEnv, ev, sput, sputO, binK, binI, unK, builtinK, pickK, Nat.reduceBEq, Nat.reduceAdd, Int.reduceBEq, Int.reduceBNe, Int.reduceLT, aPost, resK, tup, tyf, l54_0, hkn, hv.idx el_22 esz_3 hk', hv.load shp_3 hk', h0, gt_iff_lt, h7]
        refine hQ2 _ _ _ (hQ _ _ _ ?_)
        simp (maxSteps := 2000000) only [s54, ↓aw_region, ↓aw_skip, ↓aw_seq, ↓aw_block, ↓aw_exit, ↓aw_ret, ↓sops_nil, ↓sops_go, ↓dops_nil, ↓dopsX_nil, ↓dopsR_nil, ↓vdn, vup, extr_20, extr_21, extr_30, extr_31, extr_32, List.map_cons, List.map_nil, cond_true, cond_false, aop, aThen, aBlock, argEnv, ev, sput, sputO, binK, binI, unK, builtinK, pickK, Nat.reduceBEq, Nat.reduceAdd, Int.reduceBEq, Int.reduceBNe, Int.reduceLT, aPost, resK, tup, tyf, bad (K := True) fun h => absurd h.1.2 (by omega)]
      · by_cases hkp : (0 : Int) < (k : Int)
        · have e2 : subV .i64 (k : Int) 1 = ((k - 1 : Nat) : Int) := by rw [subV_id (by omega) (by omega)]; omega
          have hi2 : k - 1 < xs.length := by omega
          by_cases hlt : xs.getD k 0 < xs.getD (k - 1) 0
          · simp (maxSteps := 2000000) only [s54, ↓aw_region, ↓aw_skip, ↓aw_seq, ↓aw_block, ↓aw_exit, ↓aw_ret, ↓sops_nil, ↓sops_go, ↓dops_nil, ↓dopsX_nil, ↓dopsR_nil, ↓vdn, vup, extr_20, extr_21, extr_30, extr_31, extr_32, List.map_cons, List.map_nil, cond_true, cond_false, aop, aThen, aBlock, argEnv, ev, sput, sputO, binK, binI, unK, builtinK, pickK, Nat.reduceBEq, Nat.reduceAdd, Int.reduceBEq, Int.reduceBNe, Int.reduceLT, aPost, resK, tup, tyf, l54_0, hkn, hv.idx el_22 esz_3 hk', hv.load shp_3 hk', h0, gt_iff_lt, h7, hkp, e2, hv.idx el_22 esz_3 hi2, hv.load shp_3 hi2, hlt]
            refine hQ2 _ _ _ (hQ _ _ _ ?_)
            simp (maxSteps := 2000000) only [s54, ↓aw_region, ↓aw_skip, ↓aw_seq, ↓aw_block, ↓aw_exit, ↓aw_ret, ↓sops_nil, ↓sops_go, ↓dops_nil, ↓dopsX_nil, ↓dopsR_nil, ↓vdn, vup, extr_20, extr_21, extr_30, extr_31, extr_32, List.map_cons, List.map_nil, cond_true, cond_false, aop, aThen, aBlock, argEnv, ev, sput, sputO, binK, binI, unK, builtinK, pickK, Nat.reduceBEq, Nat.reduceAdd, Int.reduceBEq, Int.reduceBNe, Int.reduceLT, aPost, resK, tup, tyf, bad (K := True) fun h => absurd (h.2 (by omega)) (by omega)]
          · simp (maxSteps := 2000000) only [s54, ↓aw_region, ↓aw_skip, ↓aw_seq, ↓aw_block, ↓aw_exit, ↓aw_ret, ↓sops_nil, ↓sops_go, ↓dops_nil, ↓dopsX_nil, ↓dopsR_nil, ↓vdn, vup, extr_20, extr_21, extr_30, extr_31, extr_32, List.map_cons, List.map_nil, cond_true, cond_false, aop, aThen, aBlock, argEnv, ev, sput, sputO, binK, binI, unK, builtinK, pickK, Nat.reduceBEq, Nat.reduceAdd, Int.reduceBEq, Int.reduceBNe, Int.reduceLT, aPost, resK, tup, tyf, l54_0, hkn, hv.idx el_22 esz_3 hk', hv.load shp_3 hk', h0, gt_iff_lt, h7, hkp, e2, hv.idx el_22 esz_3 hi2, hv.load shp_3 hi2, hlt, add1 (show k < 9223372036854775807 by omega)]
            exact hQ2 _ _ _ ⟨k + 1, ⟨hk', good ⟨⟨by omega, by omega⟩, fun _ => by omega⟩⟩, by omega, by simp (maxSteps := 2000000) only [↓aw_region, ↓aw_skip, ↓aw_seq, ↓aw_block, ↓aw_exit, ↓aw_ret, ↓sops_nil, ↓sops_go, ↓dops_nil, ↓dopsX_nil, ↓dopsR_nil, ↓vdn, vup, extr_20, extr_21, extr_30, extr_31, extr_32, List.map_cons, List.map_nil, cond_true, cond_false, aop, aThen, aBlock, argEnv, ev, sput, sputO, binK, binI, unK, builtinK, pickK, Nat.reduceBEq, Nat.reduceAdd, Int.reduceBEq, Int.reduceBNe, Int.reduceLT, aPost, resK, tup, tyf], rfl⟩
        · simp (maxSteps := 2000000) only [s54, ↓aw_region, ↓aw_skip, ↓aw_seq, ↓aw_block, ↓aw_exit, ↓aw_ret, ↓sops_nil, ↓sops_go, ↓dops_nil, ↓dopsX_nil, ↓dopsR_nil, ↓vdn, vup, extr_20, extr_21, extr_30, extr_31, extr_32, List.map_cons, List.map_nil, cond_true, cond_false, aop, aThen, aBlock, argEnv, ev, sput, sputO, binK, binI, unK, builtinK, pickK, Nat.reduceBEq, Nat.reduceAdd, Int.reduceBEq, Int.reduceBNe, Int.reduceLT, aPost, resK, tup, tyf, l54_0, hkn, hv.idx el_22 esz_3 hk', hv.load shp_3 hk', h0, gt_iff_lt, h7, hkp, add1 (show k < 9223372036854775807 by omega)]
          exact hQ2 _ _ _ ⟨k + 1, ⟨hk', good ⟨⟨by omega, by omega⟩, fun _ => by omega⟩⟩, by omega, by simp (maxSteps := 2000000) only [↓aw_region, ↓aw_skip, ↓aw_seq, ↓aw_block, ↓aw_exit, ↓aw_ret, ↓sops_nil, ↓sops_go, ↓dops_nil, ↓dopsX_nil, ↓dopsR_nil, ↓vdn, vup, extr_20, extr_21, extr_30, extr_31, extr_32, List.map_cons, List.map_nil, cond_true, cond_false, aop, aThen, aBlock, argEnv, ev, sput, sputO, binK, binI, unK, builtinK, pickK, Nat.reduceBEq, Nat.reduceAdd, Int.reduceBEq, Int.reduceBNe, Int.reduceLT, aPost, resK, tup, tyf], rfl⟩
  · obtain rfl : k = xs.length := by omega
    have hall : srt xs = true ∧ ∀ x ∈ xs, 0 ≤ x ∧ x ≤ 7 := ⟨srt_iff.2 fun j hj => by have := (hs (j + 1) hj).2 (by omega); simpa using this, fun x hx => by
      obtain ⟨i, hi, rfl⟩ := List.getElem_of_mem hx
      have := (hs i hi).1
      rw [List.getD, List.getElem?_eq_getElem hi] at this
      exact this⟩
    have hS : isS xs = (decide (1 ≤ xs.length) && decide (xs.length ≤ 8)) := by
      rw [isS, hall.1, Bool.and_true]
      have : (xs.all fun x => decide (0 ≤ x) && decide (x ≤ 7)) = true := List.all_eq_true.2 fun x hx => by
        have := hall.2 x hx; simp; omega
      rw [this, Bool.and_true]
    simp (maxSteps := 2000000) only [s54, ↓aw_region, ↓aw_skip, ↓aw_seq, ↓aw_block, ↓aw_exit, ↓aw_ret, ↓sops_nil, ↓sops_go, ↓dops_nil, ↓dopsX_nil, ↓dopsR_nil, ↓vdn, vup, extr_20, extr_21, extr_30, extr_31, extr_32, List.map_cons, List.map_nil, cond_true, cond_false, aop, aThen, aBlock, argEnv, ev, sput, sputO, binK, binI, unK, builtinK, pickK, Nat.reduceBEq, Nat.reduceAdd, Int.reduceBEq, Int.reduceBNe, Int.reduceLT, aPost, resK, tup, tyf, l54_0, Int.lt_irrefl]
    refine hQ2 _ _ _ (hQ _ _ _ ?_)
    simp (maxSteps := 2000000) only [s54, ↓aw_region, ↓aw_skip, ↓aw_seq, ↓aw_block, ↓aw_exit, ↓aw_ret, ↓sops_nil, ↓sops_go, ↓dops_nil, ↓dopsX_nil, ↓dopsR_nil, ↓vdn, vup, extr_20, extr_21, extr_30, extr_31, extr_32, List.map_cons, List.map_nil, cond_true, cond_false, aop, aThen, aBlock, argEnv, ev, sput, sputO, binK, binI, unK, builtinK, pickK, Nat.reduceBEq, Nat.reduceAdd, Int.reduceBEq, Int.reduceBNe, Int.reduceLT, aPost, resK, tup, tyf, if_true]
    refine hZ [(0, v), (2, .bool false)] _ _ ?_ (by simp (maxSteps := 2000000) only [↓aw_region, ↓aw_skip, ↓aw_seq, ↓aw_block, ↓aw_exit, ↓aw_ret, ↓sops_nil, ↓sops_go, ↓dops_nil, ↓dopsX_nil, ↓dopsR_nil, ↓vdn, vup, extr_20, extr_21, extr_30, extr_31, extr_32, List.map_cons, List.map_nil, cond_true, cond_false, aop, aThen, aBlock, argEnv, ev, sput, sputO, binK, binI, unK, builtinK, pickK, Nat.reduceBEq, Nat.reduceAdd, Int.reduceBEq, Int.reduceBNe, Int.reduceLT, aPost, resK, tup, tyf])
    clear hZ
    try clear Z
    refine aw_aws ?_
    by_cases h1 : (1 : Int) ≤ (xs.length : Int)
    · by_cases h8 : (xs.length : Int) ≤ 8
      · simp (maxSteps := 2000000) only [s54, ↓aw_region, ↓aw_skip, ↓aw_seq, ↓aw_block, ↓aw_exit, ↓aw_ret, ↓sops_nil, ↓sops_go, ↓dops_nil, ↓dopsX_nil, ↓dopsR_nil, ↓vdn, vup, extr_20, extr_21, extr_30, extr_31, extr_32, List.map_cons, List.map_nil, cond_true, cond_false, aop, aThen, aBlock, argEnv, ev, sput, sputO, binK, binI, unK, builtinK, pickK, Nat.reduceBEq, Nat.reduceAdd, Int.reduceBEq, Int.reduceBNe, Int.reduceLT, aPost, resK, tup, tyf, hv.len, ge_iff_le, h1, h8, hS, decide_eq_true (show 1 ≤ xs.length by omega), decide_eq_true (show xs.length ≤ 8 by omega), Bool.and_true]
      · simp (maxSteps := 2000000) only [s54, ↓aw_region, ↓aw_skip, ↓aw_seq, ↓aw_block, ↓aw_exit, ↓aw_ret, ↓sops_nil, ↓sops_go, ↓dops_nil, ↓dopsX_nil, ↓dopsR_nil, ↓vdn, vup, extr_20, extr_21, extr_30, extr_31, extr_32, List.map_cons, List.map_nil, cond_true, cond_false, aop, aThen, aBlock, argEnv, ev, sput, sputO, binK, binI, unK, builtinK, pickK, Nat.reduceBEq, Nat.reduceAdd, Int.reduceBEq, Int.reduceBNe, Int.reduceLT, aPost, resK, tup, tyf, hv.len, ge_iff_le, h1, h8, hS, decide_eq_true (show 1 ≤ xs.length by omega), decide_eq_false (show ¬ xs.length ≤ 8 by omega), Bool.and_false]
    · simp (maxSteps := 2000000) only [s54, ↓aw_region, ↓aw_skip, ↓aw_seq, ↓aw_block, ↓aw_exit, ↓aw_ret, ↓sops_nil, ↓sops_go, ↓dops_nil, ↓dopsX_nil, ↓dopsR_nil, ↓vdn, vup, extr_20, extr_21, extr_30, extr_31, extr_32, List.map_cons, List.map_nil, cond_true, cond_false, aop, aThen, aBlock, argEnv, ev, sput, sputO, binK, binI, unK, builtinK, pickK, Nat.reduceBEq, Nat.reduceAdd, Int.reduceBEq, Int.reduceBNe, Int.reduceLT, aPost, resK, tup, tyf, hv.len, ge_iff_le, h1, hS, decide_eq_false (show ¬ 1 ≤ xs.length by omega), Bool.false_and]
theorem s88_callW [Tabs Tryd.prog] {args : List Value} {h : Heap} {Q : Value → Heap → Prop} (hsz : args.length ≤ 15) (hk : AWS Tryd.prog 15 s88 (aPost Tryd.prog [.tmp 5] Q) (argEnv 0 args) h) : ACall Tryd.prog 88 args h Q :=
  acall_w Tryd.func88 rfl (enters_of Tryd.func88 (by kernel_rfl) rfl) rfl rfl (by decide) s88_strip s88_ok hsz hk
theorem make1_call [Tabs prog] {h : Heap} {bx bn n x y : Nat} {nd : List Int} (hbx : h[bx]? = some (.cells [.slice (some ⟨bn, 0, some 0⟩) n n] 22 false)) (hn : h[bn]? = some (.ints nd 3 false)) (hl : nd.length = n) (hx : x < n) (hy : y < n)
    (h1 : -100 ≤ nd.getD x 0 ∧ nd.getD x 0 ≤ 100) (h2 : -100 ≤ nd.getD y 0 ∧ nd.getD y 0 ≤ 100) : APure prog 88 [vint x, vint y, .pointer (some ⟨bx, 0, none⟩)] h (vint (nd.getD x 0 - nd.getD y 0)) := by
  have ld : ∀ {K : Value → Prop}, loadK prog h 22 (.pointer (some ⟨bx, 0, none⟩)) K = K (.slice (some ⟨bn, 0, some 0⟩) n n) := fun {K} => loadC (o := 0) hbx shp_22 rfl
  have hsub : subV .i64 (nd.getD x 0) (nd.getD y 0) = nd.getD x 0 - nd.getD y 0 := subV_id (by omega) (by omega)
  have hx' : x < nd.length := by omega
  have hy' : y < nd.length := by omega
  refine s88_callW (by simp) ?_
  simp only [s88]
  refine aws_cut fun N7 hN7 => ?_
  simp (maxSteps := 2000000) only [s88, ↓aw_region, ↓aw_skip, ↓aw_seq, ↓aw_block, ↓aw_exit, ↓aw_ret, ↓sops_nil, ↓sops_go, ↓dops_nil, ↓dopsX_nil, ↓dopsR_nil, ↓vdn, vup, extr_20, extr_21, extr_30, extr_31, extr_32, List.map_cons, List.map_nil, cond_true, cond_false, aop, aThen, aBlock, argEnv, ev, sput, sputO, binK, binI, unK, builtinK, pickK, Nat.reduceBEq, Nat.reduceAdd, Int.reduceBEq, Int.reduceBNe, Int.reduceLT, aPost, resK, tup, tyf]
  refine hN7 [(0, vint x), (1, vint y), (2, .pointer (some ⟨bx, 0, none⟩)), (5, .int .i64 0)] _ _ ?_ (by simp (maxSteps := 2000000) only [↓aw_region, ↓aw_skip, ↓aw_seq, ↓aw_block, ↓aw_exit, ↓aw_ret, ↓sops_nil, ↓sops_go, ↓dops_nil, ↓dopsX_nil, ↓dopsR_nil, ↓vdn, vup, extr_20, extr_21, extr_30, extr_31, extr_32, List.map_cons, List.map_nil, cond_true, cond_false, aop, aThen, aBlock, argEnv, ev, sput, sputO, binK, binI, unK, builtinK, pickK, Nat.reduceBEq, Nat.reduceAdd, Int.reduceBEq, Int.reduceBNe, Int.reduceLT, aPost, resK, tup, tyf])
  clear hN7
  try clear N7
  refine aws_cut fun N8 hN8 => ?_
  refine aw_drawX [] (by kernel_rfl) (by kernel_rfl) (by kernel_rfl) (by kernel_rfl) ?_
  simp (maxSteps := 2000000) only [s88, ↓aw_region, ↓aw_skip, ↓aw_seq, ↓aw_block, ↓aw_exit, ↓aw_ret, ↓sops_nil, ↓sops_go, ↓dops_nil, ↓dopsX_nil, ↓dopsR_nil, ↓vdn, vup, extr_20, extr_21, extr_30, extr_31, extr_32, List.map_cons, List.map_nil, cond_true, cond_false, aop, aThen, aBlock, argEnv, ev, sput, sputO, binK, binI, unK, builtinK, pickK, Nat.reduceBEq, Nat.reduceAdd, Int.reduceBEq, Int.reduceBNe, Int.reduceLT, aPost, resK, tup, tyf, ld, idxW hx, idxW hy, loadX hn hx', loadX hn hy', hsub]
  refine hN8 [(0, vint x), (1, vint y), (2, .pointer (some ⟨bx, 0, none⟩)), (5, vint (nd.getD x 0 - nd.getD y 0))] _ _ ?_ (by simp (maxSteps := 2000000) only [↓aw_region, ↓aw_skip, ↓aw_seq, ↓aw_block, ↓aw_exit, ↓aw_ret, ↓sops_nil, ↓sops_go, ↓dops_nil, ↓dopsX_nil, ↓dopsR_nil, ↓vdn, vup, extr_20, extr_21, extr_30, extr_31, extr_32, List.map_cons, List.map_nil, cond_true, cond_false, aop, aThen, aBlock, argEnv, ev, sput, sputO, binK, binI, unK, builtinK, pickK, Nat.reduceBEq, Nat.reduceAdd, Int.reduceBEq, Int.reduceBNe, Int.reduceLT, aPost, resK, tup, tyf])
  clear hN8
  try clear N8
  refine aw_aws ?_
  simp (maxSteps := 2000000) only [s88, ↓aw_region, ↓aw_skip, ↓aw_seq, ↓aw_block, ↓aw_exit, ↓aw_ret, ↓sops_nil, ↓sops_go, ↓dops_nil, ↓dopsX_nil, ↓dopsR_nil, ↓vdn, vup, extr_20, extr_21, extr_30, extr_31, extr_32, List.map_cons, List.map_nil, cond_true, cond_false, aop, aThen, aBlock, argEnv, ev, sput, sputO, binK, binI, unK, builtinK, pickK, Nat.reduceBEq, Nat.reduceAdd, Int.reduceBEq, Int.reduceBNe, Int.reduceLT, aPost, resK, tup, tyf]
theorem s90_callW [Tabs Tryd.prog] {args : List Value} {h : Heap} {Q : Value → Heap → Prop} (hsz : args.length ≤ 9) (hk : AWS Tryd.prog 9 s90 (aPost Tryd.prog [.tmp 4] Q) (argEnv 0 args) h) : ACall Tryd.prog 90 args h Q :=
  acall_w Tryd.func90 rfl (enters_of Tryd.func90 (by kernel_rfl) rfl) rfl rfl (by decide) s90_strip s90_ok hsz hk
theorem make2_call [Tabs prog] {h : Heap} {x y : Int} (h0 : 0 ≤ x) (h1 : x < 256) : APure prog 90 [vint x, vint y] h (.bool (decide ((scr x : Int) = y))) := by
  have hc := count_call (h := h) (show x.toNat < 256 by omega)
  rw [show ((x.toNat : Nat) : Int) = x by omega] at hc
  refine s90_callW (by simp) ?_
  simp only [s90]
  refine aws_cut fun N9 hN9 => ?_
  simp (maxSteps := 2000000) only [s90, ↓aw_region, ↓aw_skip, ↓aw_seq, ↓aw_block, ↓aw_exit, ↓aw_ret, ↓sops_nil, ↓sops_go, ↓dops_nil, ↓dopsX_nil, ↓dopsR_nil, ↓vdn, vup, extr_20, extr_21, extr_30, extr_31, extr_32, List.map_cons, List.map_nil, cond_true, cond_false, aop, aThen, aBlock, argEnv, ev, sput, sputO, binK, binI, unK, builtinK, pickK, Nat.reduceBEq, Nat.reduceAdd, Int.reduceBEq, Int.reduceBNe, Int.reduceLT, aPost, resK, tup, tyf]
  refine hN9 [(0, vint x), (1, vint y), (4, .bool false)] _ _ ?_ (by simp (maxSteps := 2000000) only [↓aw_region, ↓aw_skip, ↓aw_seq, ↓aw_block, ↓aw_exit, ↓aw_ret, ↓sops_nil, ↓sops_go, ↓dops_nil, ↓dopsX_nil, ↓dopsR_nil, ↓vdn, vup, extr_20, extr_21, extr_30, extr_31, extr_32, List.map_cons, List.map_nil, cond_true, cond_false, aop, aThen, aBlock, argEnv, ev, sput, sputO, binK, binI, unK, builtinK, pickK, Nat.reduceBEq, Nat.reduceAdd, Int.reduceBEq, Int.reduceBNe, Int.reduceLT, aPost, resK, tup, tyf])
  clear hN9
  try clear N9
  refine aws_cut fun N10 hN10 => ?_
  simp (maxSteps := 2000000) only [s90, ↓aw_region, ↓aw_skip, ↓aw_seq, ↓aw_block, ↓aw_exit, ↓aw_ret, ↓sops_nil, ↓sops_go, ↓dops_nil, ↓dopsX_nil, ↓dopsR_nil, ↓vdn, vup, extr_20, extr_21, extr_30, extr_31, extr_32, List.map_cons, List.map_nil, cond_true, cond_false, aop, aThen, aBlock, argEnv, ev, sput, sputO, binK, binI, unK, builtinK, pickK, Nat.reduceBEq, Nat.reduceAdd, Int.reduceBEq, Int.reduceBNe, Int.reduceLT, aPost, resK, tup, tyf, callK, List.nil_append, List.append_nil, List.toList_toArray, List.cons_append]
  refine (hc).mono ?_
  rintro _ h ⟨rfl, rfl⟩
  have e : ((((Am.bits x.toNat).length : Nat) : Int) == y) = decide ((scr x : Int) = y) := by rw [scr]; rfl
  simp (maxSteps := 2000000) only [s90, ↓aw_region, ↓aw_skip, ↓aw_seq, ↓aw_block, ↓aw_exit, ↓aw_ret, ↓sops_nil, ↓sops_go, ↓dops_nil, ↓dopsX_nil, ↓dopsR_nil, ↓vdn, vup, extr_20, extr_21, extr_30, extr_31, extr_32, List.map_cons, List.map_nil, cond_true, cond_false, aop, aThen, aBlock, argEnv, ev, sput, sputO, binK, binI, unK, builtinK, pickK, Nat.reduceBEq, Nat.reduceAdd, Int.reduceBEq, Int.reduceBNe, Int.reduceLT, aPost, resK, tup, tyf, e]
  refine hN10 [(0, vint x), (1, vint y), (4, .bool (decide ((scr x : Int) = y)))] _ _ ?_ (by simp (maxSteps := 2000000) only [↓aw_region, ↓aw_skip, ↓aw_seq, ↓aw_block, ↓aw_exit, ↓aw_ret, ↓sops_nil, ↓sops_go, ↓dops_nil, ↓dopsX_nil, ↓dopsR_nil, ↓vdn, vup, extr_20, extr_21, extr_30, extr_31, extr_32, List.map_cons, List.map_nil, cond_true, cond_false, aop, aThen, aBlock, argEnv, ev, sput, sputO, binK, binI, unK, builtinK, pickK, Nat.reduceBEq, Nat.reduceAdd, Int.reduceBEq, Int.reduceBNe, Int.reduceLT, aPost, resK, tup, tyf])
  clear hN10
  try clear N10
  refine aw_aws ?_
  simp (maxSteps := 2000000) only [s90, ↓aw_region, ↓aw_skip, ↓aw_seq, ↓aw_block, ↓aw_exit, ↓aw_ret, ↓sops_nil, ↓sops_go, ↓dops_nil, ↓dopsX_nil, ↓dopsR_nil, ↓vdn, vup, extr_20, extr_21, extr_30, extr_31, extr_32, List.map_cons, List.map_nil, cond_true, cond_false, aop, aThen, aBlock, argEnv, ev, sput, sputO, binK, binI, unK, builtinK, pickK, Nat.reduceBEq, Nat.reduceAdd, Int.reduceBEq, Int.reduceBNe, Int.reduceLT, aPost, resK, tup, tyf]
end Go.Proofs.Tryd.Am

namespace Go.Proofs.Tryd.Am
open Go.Am Rb
set_option maxRecDepth 100000
set_option maxHeartbeats 1000000

theorem s89_callW [Tabs Tryd.prog] {args : List Value} {h : Heap} {Q : Value → Heap → Prop} (hsz : args.length ≤ 32) (hk : AWS Tryd.prog 32 s89 (aPost Tryd.prog [.tmp 6] Q) (argEnv 0 args) h) : ACall Tryd.prog 89 args h Q :=
  acall_w Tryd.func89 rfl (enters_of Tryd.func89 (by kernel_rfl) rfl) rfl rfl (by decide) s89_strip s89_ok hsz hk
theorem equalf_call [Tabs prog] {h : Heap} {v w : Value} {ts xs : List Int} (hv : IntSl h v ts) (hw : IntSl h w xs) (hl : ts.length = xs.length) (hl2 : xs.length ≤ 8) (hr : ∀ i, i < xs.length → 0 ≤ ts.getD i 0 ∧ ts.getD i 0 < 256) (hs : ∀ i, i < xs.length → (scr (ts.getD i 0) : Int) = xs.getD i 0) :
    APure prog 89 [v, w, .func (.func 90) #[] #[]] h (.bool true) := by
  have hne : ((ts.length : Int) != (xs.length : Int)) = false := by rw [hl]; exact bne_self_eq_false _
  refine s89_callW (by simp) ?_
  simp only [s89]
  refine aws_cut fun N1 hN1 => ?_
  simp (maxSteps := 2000000) only [s89, ↓aw_region, ↓aw_skip, ↓aw_seq, ↓aw_block, ↓aw_exit, ↓aw_ret, ↓sops_nil, ↓sops_go, ↓dops_nil, ↓dopsX_nil, ↓dopsR_nil, ↓vdn, vup, extr_20, extr_21, extr_30, extr_31, extr_32, List.map_cons, List.map_nil, cond_true, cond_false, aop, aThen, aBlock, argEnv, ev, sput, sputO, binK, binI, unK, builtinK, pickK, Nat.reduceBEq, Nat.reduceAdd, Int.reduceBEq, Int.reduceBNe, Int.reduceLT, aPost, resK, tup, tyf]
  refine hN1 [(0, v), (1, w), (2, .func (.func 90) #[] #[]), (6, .bool false)] _ _ ?_ (by simp (maxSteps := 2000000) only [↓aw_region, ↓aw_skip, ↓aw_seq, ↓aw_block, ↓aw_exit, ↓aw_ret, ↓sops_nil, ↓sops_go, ↓dops_nil, ↓dopsX_nil, ↓dopsR_nil, ↓vdn, vup, extr_20, extr_21, extr_30, extr_31, extr_32, List.map_cons, List.map_nil, cond_true, cond_false, aop, aThen, aBlock, argEnv, ev, sput, sputO, binK, binI, unK, builtinK, pickK, Nat.reduceBEq, Nat.reduceAdd, Int.reduceBEq, Int.reduceBNe, Int.reduceLT, aPost, resK, tup, tyf])
  clear hN1
  try clear N1
  refine aws_cut fun N2 hN2 => ?_
  simp (maxSteps := 2000000) only [s89, ↓aw_region, ↓aw_skip, ↓aw_seq, ↓aw_block, ↓aw_exit, ↓aw_ret, ↓sops_nil, ↓sops_go, ↓dops_nil, ↓dopsX_nil, ↓dopsR_nil, ↓vdn, vup, extr_20, extr_21, extr_30, extr_31, extr_32, List.map_cons, List.map_nil, cond_true, cond_false, aop, aThen, aBlock, argEnv, ev, sput, sputO, binK, binI, unK, builtinK, pickK, Nat.reduceBEq, Nat.reduceAdd, Int.reduceBEq, Int.reduceBNe, Int.reduceLT, aPost, resK, tup, tyf, hv.len, hw.len, hne]
  refine hN2 [(0, v), (1, w), (2, .func (.func 90) #[] #[]), (6, .bool false)] _ _ ?_ (by simp (maxSteps := 2000000) only [↓aw_region, ↓aw_skip, ↓aw_seq, ↓aw_block, ↓aw_exit, ↓aw_ret, ↓sops_nil, ↓sops_go, ↓dops_nil, ↓dopsX_nil, ↓dopsR_nil, ↓vdn, vup, extr_20, extr_21, extr_30, extr_31, extr_32, List.map_cons, List.map_nil, cond_true, cond_false, aop, aThen, aBlock, argEnv, ev, sput, sputO, binK, binI, unK, builtinK, pickK, Nat.reduceBEq, Nat.reduceAdd, Int.reduceBEq, Int.reduceBNe, Int.reduceLT, aPost, resK, tup, tyf])
  clear hN2
  try clear N2
  refine aws_cut fun Z hZ => ?_
  simp (maxSteps := 2000000) only [s89, ↓aw_region, ↓aw_skip, ↓aw_seq, ↓aw_block, ↓aw_exit, ↓aw_ret, ↓sops_nil, ↓sops_go, ↓dops_nil, ↓dopsX_nil, ↓dopsR_nil, ↓vdn, vup, extr_20, extr_21, extr_30, extr_31, extr_32, List.map_cons, List.map_nil, cond_true, cond_false, aop, aThen, aBlock, argEnv, ev, sput, sputO, binK, binI, unK, builtinK, pickK, Nat.reduceBEq, Nat.reduceAdd, Int.reduceBEq, Int.reduceBNe, Int.reduceLT, aPost, resK, tup, tyf, hv.len, ↓aw_loop_eq]
  refine aws_hide fun Q hQ => ?_
  refine aw_loop (γ := Nat) (fun k => k ≤ ts.length)
    (fun k => ([(0, v), (1, w), (2, .func (.func 90) #[] #[]), (6, .bool false), (15, v), (16, vint ts.length), (17, vint k)], h)) (fun k => ts.length - k) 0 (Nat.zero_le _) (by simp (maxSteps := 2000000) only [↓aw_region, ↓aw_skip, ↓aw_seq, ↓aw_block, ↓aw_exit, ↓aw_ret, ↓sops_nil, ↓sops_go, ↓dops_nil, ↓dopsX_nil, ↓dopsR_nil, ↓vdn, vup, extr_20, extr_21, extr_30, extr_31, extr_32, List.map_cons, List.map_nil, cond_true, cond_false, aop, aThen, aBlock, argEnv, ev, sput, sputO, binK, binI, unK, builtinK, pickK, Nat.reduceBEq, Nat.reduceAdd, Int.reduceBEq, Int.reduceBNe, Int.reduceLT, aPost, resK, tup, tyf, Int.natCast_zero]) rfl ?_
  intro k hk
  refine aw_hide fun Q2 hQ2 => ?_
  by_cases hkn : (k : Int) < ts.length
  · have hk1 : k < ts.length := by omega
    have hk2 : k < xs.length := by omega
    have c := make2_call (h := h) (y := xs.getD k 0) (hr k hk2).1 (hr k hk2).2
    rw [decide_eq_true (hs k hk2)] at c
    simp (maxSteps := 2000000) only [s89, ↓aw_region, ↓aw_skip, ↓aw_seq, ↓aw_block, ↓aw_exit, ↓aw_ret, ↓sops_nil, ↓sops_go, ↓dops_nil, ↓dopsX_nil, ↓dopsR_nil, ↓vdn, vup, extr_20, extr_21, extr_30, extr_31, extr_32, List.map_cons, List.map_nil, cond_true, cond_false, aop, aThen, aBlock, argEnv, ev, sput, sputO, binK, binI, unK, builtinK, pickK, Nat.reduceBEq, Nat.reduceAdd, Int.reduceBEq, Int.reduceBNe, Int.reduceLT, aPost, resK, tup, tyf, l89_0, hkn, hv.idx el_55 esz_3 hk1, hv.load shp_3 hk1, hw.idx el_22 esz_3 hk2, hw.load shp_3 hk2, callK, List.nil_append, List.append_nil, List.toList_toArray, List.cons_append]
    refine c.mono ?_
    rintro _ h ⟨rfl, rfl⟩
    simp (maxSteps := 2000000) only [s89, ↓aw_region, ↓aw_skip, ↓aw_seq, ↓aw_block, ↓aw_exit, ↓aw_ret, ↓sops_nil, ↓sops_go, ↓dops_nil, ↓dopsX_nil, ↓dopsR_nil, ↓vdn, vup, extr_20, extr_21, extr_30, extr_31, extr_32, List.map_cons, List.map_nil, cond_true, cond_false, aop, aThen, aBlock, argEnv, ev, sput, sputO, binK, binI, unK, builtinK, pickK, Nat.reduceBEq, Nat.reduceAdd, Int.reduceBEq, Int.reduceBNe, Int.reduceLT, aPost, resK, tup, tyf, Bool.not_true, add1 (show k < 9223372036854775807 by omega)]
    exact hQ2 _ _ _ ⟨k + 1, by omega, by omega, by simp (maxSteps := 2000000) only [↓aw_region, ↓aw_skip, ↓aw_seq, ↓aw_block, ↓aw_exit, ↓aw_ret, ↓sops_nil, ↓sops_go, ↓dops_nil, ↓dopsX_nil, ↓dopsR_nil, ↓vdn, vup, extr_20, extr_21, extr_30, extr_31, extr_32, List.map_cons, List.map_nil, cond_true, cond_false, aop, aThen, aBlock, argEnv, ev, sput, sputO, binK, binI, unK, builtinK, pickK, Nat.reduceBEq, Nat.reduceAdd, Int.reduceBEq, Int.reduceBNe, Int.reduceLT, aPost, resK, tup, tyf], rfl⟩
  · obtain rfl : k = ts.length := by omega
    simp (maxSteps := 2000000) only [s89, ↓aw_region, ↓aw_skip, ↓aw_seq, ↓aw_block, ↓aw_exit, ↓aw_ret, ↓sops_nil, ↓sops_go, ↓dops_nil, ↓dopsX_nil, ↓dopsR_nil, ↓vdn, vup, extr_20, extr_21, extr_30, extr_31, extr_32, List.map_cons, List.map_nil, cond_true, cond_false, aop, aThen, aBlock, argEnv, ev, sput, sputO, binK, binI, unK, builtinK, pickK, Nat.reduceBEq, Nat.reduceAdd, Int.reduceBEq, Int.reduceBNe, Int.reduceLT, aPost, resK, tup, tyf, l89_0, Int.lt_irrefl]
    refine hQ2 _ _ _ (hQ _ _ _ ?_)
    simp (maxSteps := 2000000) only [s89, ↓aw_region, ↓aw_skip, ↓aw_seq, ↓aw_block, ↓aw_exit, ↓aw_ret, ↓sops_nil, ↓sops_go, ↓dops_nil, ↓dopsX_nil, ↓dopsR_nil, ↓vdn, vup, extr_20, extr_21, extr_30, extr_31, extr_32, List.map_cons, List.map_nil, cond_true, cond_false, aop, aThen, aBlock, argEnv, ev, sput, sputO, binK, binI, unK, builtinK, pickK, Nat.reduceBEq, Nat.reduceAdd, Int.reduceBEq, Int.reduceBNe, Int.reduceLT, aPost, resK, tup, tyf, if_true]
    refine hZ [(0, v), (1, w), (2, .func (.func 90) #[] #[]), (6, .bool false)] _ _ ?_ (by simp (maxSteps := 2000000) only [↓aw_region, ↓aw_skip, ↓aw_seq, ↓aw_block, ↓aw_exit, ↓aw_ret, ↓sops_nil, ↓sops_go, ↓dops_nil, ↓dopsX_nil, ↓dopsR_nil, ↓vdn, vup, extr_20, extr_21, extr_30, extr_31, extr_32, List.map_cons, List.map_nil, cond_true, cond_false, aop, aThen, aBlock, argEnv, ev, sput, sputO, binK, binI, unK, builtinK, pickK, Nat.reduceBEq, Nat.reduceAdd, Int.reduceBEq, Int.reduceBNe, Int.reduceLT, aPost, resK, tup, tyf])
    clear hZ
    try clear Z
    refine aw_aws ?_
    simp (maxSteps := 2000000) only [s89, ↓aw_region, ↓aw_skip, ↓aw_seq, ↓aw_block, ↓aw_exit, ↓aw_ret, ↓sops_nil, ↓sops_go, ↓dops_nil, ↓dopsX_nil, ↓dopsR_nil, ↓vdn, vup, extr_20, extr_21, extr_30, extr_31, extr_32, List.map_cons, List.map_nil, cond_true, cond_false, aop, aThen, aBlock, argEnv, ev, sput, sputO, binK, binI, unK, builtinK, pickK, Nat.reduceBEq, Nat.reduceAdd, Int.reduceBEq, Int.reduceBNe, Int.reduceLT, aPost, resK, tup, tyf]

/-- What the making stands on: the wins to come, in a box; the tournament. -/
structure MS (h hp : Heap) (bx bn bt n : Nat) (nd ts : List Int) : Prop where
  box : hp[bx]? = some (.cells [.slice (some ⟨bn, 0, some 0⟩) n n] 22 false)
  nn : hp[bn]? = some (.ints nd 3 false)
  tt : hp[bt]? = some (.ints ts 3 false)
  E : Ext (fun _ => False) h hp
  ge : h.length ≤ bx ∧ h.length ≤ bn ∧ h.length ≤ bt
  ne : bx ≠ bn ∧ bx ≠ bt ∧ bn ≠ bt
section
variable {h hp : Heap} {bx bn bt n : Nat} {nd ts : List Int}
theorem MS.setT (m : MS h hp bx bn bt n nd ts) (t2 : List Int) : MS h (hp.set bt (.ints t2 3 false)) bx bn bt n nd t2 :=
  ⟨by rw [List.getElem?_set_ne (Ne.symm m.ne.2.1)]; exact m.box, by rw [List.getElem?_set_ne (Ne.symm m.ne.2.2)]; exact m.nn, get_set (get_lt m.tt) _, m.E.set_ge m.ge.2.2 _, m.ge, m.ne⟩
theorem MS.setN (m : MS h hp bx bn bt n nd ts) (d2 : List Int) : MS h (hp.set bn (.ints d2 3 false)) bx bn bt n d2 ts :=
  ⟨by rw [List.getElem?_set_ne (Ne.symm m.ne.1)]; exact m.box, get_set (get_lt m.nn) _, by rw [List.getElem?_set_ne m.ne.2.2]; exact m.tt, m.E.set_ge m.ge.2.1 _, m.ge, m.ne⟩
theorem MS.setL (m : MS h hp bx bn bt n nd ts) {b : Nat} (hb : h.length ≤ b) (h1 : b ≠ bx) (h2 : b ≠ bn) (h3 : b ≠ bt) (B : Blk) : MS h (hp.set b B) bx bn bt n nd ts :=
  ⟨by rw [List.getElem?_set_ne h1]; exact m.box, by rw [List.getElem?_set_ne h2]; exact m.nn, by rw [List.getElem?_set_ne h3]; exact m.tt, m.E.set_ge hb _, m.ge, m.ne⟩
theorem MS.ld (m : MS h hp bx bn bt n nd ts) {K : Value → Prop} : loadK prog hp 22 (.pointer (some ⟨bx, 0, none⟩)) K = K (.slice (some ⟨bn, 0, some 0⟩) n n) := loadC (o := 0) m.box shp_22 rfl
end
theorem idxT {b n : Nat} {K : Value → Prop} {k : Nat} (hk : k < n) : idxAddrK prog 55 (tv b n) (vint (k : Nat)) K = K (.pointer (some ⟨b, k, none⟩)) := by
  simp only [idxAddrK, el_55, esz_3, Int.natCast_nonneg, Int.toNat_natCast, Nat.mul_one, Nat.zero_add, true_and, Int.ofNat_lt.2 hk]
theorem or_orT {n : Nat} {t : List Int} {i j : Nat} (hn : n ≤ 8) (h0 : 0 ≤ t.getD i 0 ∧ t.getD i 0 < 2 ^ n) (hj : j < n) : bitsV .or .i64 (t.getD i 0) (shlV .i64 1 ((j : Nat) : Int)) = (((t.getD i 0).toNat ||| 2 ^ j : Nat) : Int) := by
  have e : ((2 : Int) ^ n) = ((2 ^ n : Nat) : Int) := by simp
  have h8 := pow8N hn
  have h2 : 2 ^ j < 2 ^ 8 := Nat.pow_lt_pow_right (by decide) (by omega)
  rw [e] at h0
  rw [shlI1 (by omega)]
  have := bitsV_or (a := (t.getD i 0).toNat) (b := 2 ^ j) (by omega) (by omega)
  rw [← this, Int.toNat_of_nonneg h0.1]

open Classical in
/-- The wins to come, k players into a round: the first d keep theirs. -/
def ndK (r : List Nat) (d : Nat) (nd : List Int) (k : Nat) (nk : List Int) : Prop := nk.length = nd.length ∧ ∀ i, nk.getD i 0 = nd.getD i 0 - if ∃ j, d ≤ j ∧ j < k ∧ r[j]? = some i then 1 else 0
theorem ndK_step {r : List Nat} {d : Nat} {nd nk : List Int} {k i : Nat} (hr : r.Nodup) (h : ndK r d nd k nk) (hk : r[k]? = some i) (hi : i < nd.length) (hd : d ≤ k) : ndK r d nd (k + 1) (nk.set i (nk.getD i 0 - 1)) := by
  refine ⟨by rw [List.length_set, h.1], fun x => ?_⟩
  have hkl : k < r.length := (List.getElem?_eq_some_iff.1 hk).1
  by_cases hx : x = i
  · subst hx
    rw [List.getD, List.getElem?_set_self (by rw [h.1]; exact hi), Option.getD_some, h.2 x, if_neg, if_pos ⟨k, hd, by omega, hk⟩]
    · omega
    · rintro ⟨j, _, hj, hjx⟩
      have hjl : j < r.length := by omega
      rw [List.getElem?_eq_getElem hkl] at hk
      rw [List.getElem?_eq_getElem hjl] at hjx
      have := (List.nodup_iff_pairwise_ne.1 hr)
      exact absurd ((Option.some.inj hjx).trans (Option.some.inj hk).symm) ((List.pairwise_iff_getElem.1 this) j k hjl hkl hj)
  · rw [List.getD, List.getElem?_set_ne (Ne.symm hx)]
    refine (h.2 x).trans ?_
    congr 1
    by_cases he : ∃ j, d ≤ j ∧ j < k ∧ r[j]? = some x
    · obtain ⟨j, h1, h2, h3⟩ := he
      rw [if_pos ⟨j, h1, h2, h3⟩, if_pos ⟨j, h1, by omega, h3⟩]
    · rw [if_neg he, if_neg]
      rintro ⟨j, h1, h2, h3⟩
      by_cases hj : j < k
      · exact he ⟨j, h1, hj, h3⟩
      · obtain rfl : j = k := by omega
        rw [hk] at h3; exact hx (Option.some.inj h3).symm
theorem ndK_keep {r : List Nat} {d : Nat} {nd nk : List Int} {k : Nat} (h : ndK r d nd k nk) (hd : k < d) : ndK r d nd (k + 1) nk := by
  refine ⟨h.1, fun x => (h.2 x).trans ?_⟩
  rw [if_neg (by rintro ⟨j, h1, h2, _⟩; omega), if_neg (by rintro ⟨j, h1, h2, _⟩; omega)]
/-- Who has not met, and what is to come, k players into a round. -/
def UK (r : List Nat) (top k : Nat) (i j : Nat) : Prop := (i ∈ r ∧ j ∈ r) ∨ (i = top ∧ j ∈ r.drop k) ∨ (j = top ∧ i ∈ r.drop k)
def wK (r : List Nat) (top d k : Nat) (nk : List Int) (i : Nat) : Int := if i ∈ r then nk.getD i 0 else if i = top then (d : Int) - (min k d : Nat) else 0
theorem drop_mem {r : List Nat} {k i x : Nat} (hr : r.Nodup) (hk : r[k]? = some i) : x ∈ r.drop (k + 1) ↔ x ∈ r.drop k ∧ x ≠ i := by
  obtain ⟨hkl, rfl⟩ := List.getElem?_eq_some_iff.1 hk
  rw [List.drop_eq_getElem_cons hkl]
  have hn := hr.sublist (List.drop_sublist k r)
  rw [List.drop_eq_getElem_cons hkl] at hn
  rw [List.nodup_cons] at hn
  constructor
  · exact fun h => ⟨List.mem_cons_of_mem _ h, fun e => hn.1 (e ▸ h)⟩
  · rintro ⟨h, hne⟩
    rcases List.mem_cons.1 h with h | h
    · exact absurd h hne
    · exact h
theorem UK_step {r : List Nat} {top k i : Nat} (hr : r.Nodup) (ht : top ∉ r) (hk : r[k]? = some i) (a b : Nat) : UK r top (k + 1) a b ↔ UK r top k a b ∧ ¬ (a = top ∧ b = i) ∧ ¬ (a = i ∧ b = top) := by
  have hir : i ∈ r := List.mem_of_getElem? hk
  have hti : top ≠ i := fun e => ht (e ▸ hir)
  have ht2 : ∀ m, top ∉ r.drop m := fun m h => ht (List.mem_of_mem_drop h)
  rw [UK, UK, drop_mem hr hk, drop_mem hr hk]
  constructor
  · rintro (⟨h1, h2⟩ | ⟨rfl, h2, h3⟩ | ⟨rfl, h2, h3⟩)
    · exact ⟨.inl ⟨h1, h2⟩, fun e => ht (e.1 ▸ h1), fun e => ht (e.2 ▸ h2)⟩
    · exact ⟨.inr (.inl ⟨rfl, h2⟩), fun e => h3 e.2, fun e => hti e.1⟩
    · exact ⟨.inr (.inr ⟨rfl, h2⟩), fun e => hti e.2, fun e => h3 e.1⟩
  · rintro ⟨h1 | ⟨rfl, h2⟩ | ⟨rfl, h2⟩, g1, g2⟩
    · exact .inl h1
    · exact .inr (.inl ⟨rfl, h2, fun e => g1 ⟨rfl, e⟩⟩)
    · exact .inr (.inr ⟨rfl, h2, fun e => g2 ⟨e, rfl⟩⟩)
end Go.Proofs.Tryd.Am
