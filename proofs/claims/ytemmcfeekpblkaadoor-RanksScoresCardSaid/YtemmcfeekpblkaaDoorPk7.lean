/-
  ranks: the first way found: walk, and the functions that stand on it.
  ranks: the laws' own search: R.way, R.Way, R.Round.
  ranks: both searches come to the same way; the law RanksWays.
  ranks: the ways of a tournament counted: an odd number; so the search finds one, and what it finds is a way.
  Best orders, plain: the least number of pairs that the players who are left bring, and the first order that brings no more.
  ranks: how many pairs an order goes against, plain.
  Printed by gen.py: the code of some functions, without what no step looks at; held against the program's own by the kernel.
  Printed by gen.py: the code of some functions, without what no step looks at; held against the program's own by the kernel.
  Printed by gen.py: the code of some functions, without what no step looks at; held against the program's own by the kernel.
  ranks: how many elements a set has, by the library.
  ranks: the size of a set, and Kings.
  ranks: how many pairs an order goes against, by the program and by the reference.
  ranks: the first best order, as the reference finds it.
  ranks: the first best order, as the program finds it: a table of what the players who are left bring.
  Printed by gen.py: the code of some functions, without what no step looks at; held against the program's own by the kernel.
  Orders and the pairs that they go against, plain: the least cost; one result turned; a tournament without a cycle.
  The best order, plain: each one beats the next; it is the first of the best; the pairs that it goes against.
  ranks: slices.Compare of two slices of ints.
  Printed by gen.py: the code of some functions, without what no step looks at; held against the program's own by the kernel.
  Printed by gen.py: the code of some functions, without what no step looks at; held against the program's own by the kernel.
  ranks: the library's sort of a short slice (insertion), with a key.
  ranks: the library's sort of a short slice: what stands ahead of the insertion; the stable sort by a function.
  Kings of a tournament: plain counting. Whoever beats the most reaches all in two; who is beaten is beaten by a king.
  ranks: the set that Kings returns is that of the kings; how many they are.
  Plain theory: players without a cycle.
  ranks: the tournament without its last player; the cycles as ints.
-/
import Derived.Test.YtemmcfeekpblkaaDoorPk6
import Derived.Test.YtemmcfeekpblkaaDoorPk3
import Derived.Test.YtemmcfeekpblkaaDoorProg
import Derived.KernelRfl
import Derived.Shelf.Abstract
import Derived.Test.YtemmcfeekpblkaaDoorPk4
set_option linter.all false
namespace Go.Proofs.Tryd.Am
open Go.Am
set_option maxRecDepth 100000

/-- The first way of a length through players of a tournament. -/
def find (xs : List Int) (size : Nat) (is : List Int → Bool) : Option (List Int) := grow xs size is (2 ^ xs.length) [] (2 ^ xs.length - 1)

/-- What the closure asked at a whole way answers, on every later heap. -/
def AskOk [Tabs prog] (h : Heap) (isv : Value) (is : List Int → Bool) (size n : Nat) : Prop :=
  ∃ g cap, isv = .func (.func g) #[] cap ∧ ∀ h', Ext (fun _ => False) h h' → ∀ v l, IntSl h' v l → l.length = size → (∀ x ∈ l, ∃ i : Nat, x = i ∧ i < n) → APure prog g ([v] ++ cap.toList) h' (.bool (is l))

theorem search_call [BitTab prog 1] {h : Heap} {tv isv : Value} {xs : List Int} {is : List Int → Bool} {size : Nat} (ht : IntSl h tv xs) (hx : trn xs = true) (hsz : size ≤ xs.length) (his : AskOk h isv is size xs.length) :
    ACall prog 57 [tv, vint size, isv] h fun r h' => Ext (fun _ => False) h h' ∧ (match find xs size is with | none => r = .slice none 0 0 | some l => OwnSl 3 h' r l) := by
  have hxl : xs.length ≤ 8 := by simp only [trn, Bool.and_eq_true, decide_eq_true_eq] at hx; omega
  have hpow : 2 ^ xs.length ≤ 2 ^ 8 := Nat.pow_le_pow_right (by decide) hxl
  have hpos := Nat.two_pow_pos xs.length
  obtain ⟨g, cap, rfl, hgo⟩ := his
  refine s57_call (by simp) ?_
  obtain ⟨tp, tl, tc, rfl⟩ : ∃ p l c, tv = .slice p l c := by
    rcases ht with ⟨rfl, _⟩ | ⟨b, o, sp, cap, c, e, ro, rfl, _⟩
    · exact ⟨_, _, _, rfl⟩
    · exact ⟨_, _, _, rfl⟩
  have hall := fun (h' : Heap) (ht' : IntSl h' (.slice tp tl tc) xs) => all_call ht' hxl
  generalize htv : Value.slice tp tl tc = tv at *
  simp (maxSteps := 2000000) only [s57, ↓aw_region, ↓aw_skip, ↓aw_seq, ↓aw_block, ↓aw_exit, ↓aw_ret, ↓sops_nil, ↓sops_go, ↓dops_nil, ↓dopsX_nil, ↓dopsR_nil, ↓vdn, vup, extr_20, extr_21, extr_30, extr_31, extr_32, List.map_cons, List.map_nil, cond_true, cond_false, aop, aThen, aBlock, argEnv, ev, sput, sputO, binK, binI, unK, builtinK, pickK, Nat.reduceBEq, Nat.reduceAdd, Int.reduceBEq, Int.reduceBNe, Int.reduceLT, aPost, resK, tup, tyf, boxK, allocK, cellsOf, Option.isSome_some, newPtr, List.length_append, List.length_singleton]
  subst htv
  simp only [true_and, List.map_toArray, List.map_cons, List.map_nil, ev, sget, Nat.reduceBEq, cond_true, cond_false, Nat.add_assoc, Nat.reduceAdd]
  rw [storeF (v := .nilFunc) (e := 79) (by simp) shp_79]
  generalize htv : Value.slice tp tl tc = tv at *
  obtain ⟨H, hH⟩ : ∃ H, H = h ++ [Blk.cells [tv] 55 false] ++ [Blk.cells [vint size] 3 false] ++ [Blk.cells [Value.func (Fn.func g) #[] cap] 27 false] ++ [Blk.cells [Value.slice none 0 0] 22 false] ++ [Blk.cells [Value.nilFunc] 79 false] := ⟨_, rfl⟩
  rw [← hH]
  have hlen : H.length = h.length + 5 := by rw [hH]; simp
  obtain ⟨G, hG⟩ : ∃ G, G = H.set (h.length + 4) (Blk.cells [Value.func (Fn.func 92) #[] #[Value.pointer (some ⟨h.length + 3, 0, none⟩), Value.pointer (some ⟨h.length + 1, 0, none⟩), Value.pointer (some ⟨h.length + 2, 0, none⟩), Value.pointer (some ⟨h.length, 0, none⟩), Value.pointer (some ⟨h.length + 4, 0, none⟩)]] 79 false) := ⟨_, rfl⟩
  rw [← hG]
  have hlG : G.length = h.length + 5 := by rw [hG]; simp [hlen]
  have hold : ∀ i, i < h.length → G[i]? = h[i]? := fun i hi => by rw [hG, List.getElem?_set_ne (by omega), hH]; simp only [List.append_assoc]; exact List.getElem?_append_left hi
  have hExt : Ext (fun _ => False) h G := ⟨by omega, fun i hi _ => hold i hi⟩
  have b0 : G[h.length]? = some (.cells [tv] 55 false) := by rw [hG, List.getElem?_set_ne (by omega), hH]; simp
  have b1 : G[h.length + 1]? = some (.cells [vint size] 3 false) := by rw [hG, List.getElem?_set_ne (by omega), hH]; simp
  have b2 : G[h.length + 2]? = some (.cells [.func (.func g) #[] cap] 27 false) := by rw [hG, List.getElem?_set_ne (by omega), hH]; simp
  have b3 : G[h.length + 3]? = some (.cells [.slice none 0 0] 22 false) := by rw [hG, List.getElem?_set_ne (by omega), hH]; simp
  have b4 : G[h.length + 4]? = some (.cells [Value.func (Fn.func 92) #[] #[Value.pointer (some ⟨h.length + 3, 0, none⟩), Value.pointer (some ⟨h.length + 1, 0, none⟩), Value.pointer (some ⟨h.length + 2, 0, none⟩), Value.pointer (some ⟨h.length, 0, none⟩), Value.pointer (some ⟨h.length + 4, 0, none⟩)]] 79 false) := by rw [hG]; exact get_set (by omega) _
  have htG : IntSl G tv xs := ht.same fun b hb => hold b (ht.lt hb)
  let I : Nat → Prop := fun i => i < h.length + 5 ∧ i ≠ h.length + 3
  have gs0 : GS I G (h.length + 3) G (.slice none 0 0) [] := ⟨Nat.le_refl _, fun _ _ => rfl, b3, .inl ⟨rfl, rfl⟩, fun h => h.2 rfl, fun b hb => (by cases hb), fun i hi => by have := hi.1; omega⟩
  have grow := grow_call (I := I) (h0 := G) (bl := h.length + 3) (bs := h.length + 1) (bi := h.length + 2) (bt := h.length) (bg := h.length + 4) (size := size) (isv := .func (.func g) #[] cap) (tv := tv) (xs := xs) (is := is)
    ⟨b1, b2, b0, b4⟩ ⟨⟨by omega, by omega⟩, ⟨by omega, by omega⟩, ⟨by omega, by omega⟩, ⟨by omega, by omega⟩, fun b hb => ⟨by have := ht.lt hb; omega, by have := ht.lt hb; omega⟩⟩ htG hx hsz
    ⟨g, cap, rfl, fun h' hl hi v l hv hll hr => hgo h' ⟨by omega, fun i hi2 _ => (hi i ⟨by omega, by omega⟩).trans (hold i hi2)⟩ v l hv hll hr⟩
    (2 ^ xs.length) [] (2 ^ xs.length - 1) G (.slice none 0 0) gs0 (by omega) (fun _ h => by cases h) (Nat.zero_le _) (by omega)
  refine aw_drawX [(2, 1), (3, 4)] (by kernel_rfl) (by kernel_rfl) (by kernel_rfl) (by kernel_rfl) ?_
  simp (maxSteps := 2000000) only [s57, ↓aw_region, ↓aw_skip, ↓aw_seq, ↓aw_block, ↓aw_exit, ↓aw_ret, ↓sops_nil, ↓sops_go, ↓dops_nil, ↓dopsX_nil, ↓dopsR_nil, ↓vdn, vup, extr_20, extr_21, extr_30, extr_31, extr_32, List.map_cons, List.map_nil, cond_true, cond_false, aop, aThen, aBlock, argEnv, ev, sput, sputO, binK, binI, unK, builtinK, pickK, Nat.reduceBEq, Nat.reduceAdd, Int.reduceBEq, Int.reduceBNe, Int.reduceLT, aPost, resK, tup, tyf, load1 b4 shp_79, load1 b0 shp_55, callK, List.nil_append, List.append_nil, List.toList_toArray, List.cons_append]
  refine ⟨_, _, hall G htG, rfl, ?_⟩
  refine grow.mono ?_
  rintro v h' ⟨lv, hres, hx', hb'⟩
  have hfin : Ext (fun _ => False) h h' := ⟨Nat.le_trans hExt.1 hx'.1, fun i hi _ => (hx'.2 i (by omega) (by rintro (h | h); omega; cases h)).trans (hold i hi)⟩
  have hfind : find xs size is = _root_.Go.Proofs.Tryd.Am.grow xs size is (2 ^ xs.length) [] (2 ^ xs.length - 1) := rfl
  rw [← hfind] at hres
  cases hf : find xs size is with
  | none =>
    rw [hf] at hres
    obtain ⟨rfl, gs⟩ := hres
    simp (maxSteps := 2000000) only [s57, ↓aw_region, ↓aw_skip, ↓aw_seq, ↓aw_block, ↓aw_exit, ↓aw_ret, ↓sops_nil, ↓sops_go, ↓dops_nil, ↓dopsX_nil, ↓dopsR_nil, ↓vdn, vup, extr_20, extr_21, extr_30, extr_31, extr_32, List.map_cons, List.map_nil, cond_true, cond_false, aop, aThen, aBlock, argEnv, ev, sput, sputO, binK, binI, unK, builtinK, pickK, Nat.reduceBEq, Nat.reduceAdd, Int.reduceBEq, Int.reduceBNe, Int.reduceLT, aPost, resK, tup, tyf]
    exact hfin
  | some l =>
    rw [hf] at hres
    obtain ⟨rfl, gs⟩ := hres
    simp (maxSteps := 2000000) only [s57, ↓aw_region, ↓aw_skip, ↓aw_seq, ↓aw_block, ↓aw_exit, ↓aw_ret, ↓sops_nil, ↓sops_go, ↓dops_nil, ↓dopsX_nil, ↓dopsR_nil, ↓vdn, vup, extr_20, extr_21, extr_30, extr_31, extr_32, List.map_cons, List.map_nil, cond_true, cond_false, aop, aThen, aBlock, argEnv, ev, sput, sputO, binK, binI, unK, builtinK, pickK, Nat.reduceBEq, Nat.reduceAdd, Int.reduceBEq, Int.reduceBNe, Int.reduceLT, aPost, resK, tup, tyf, load1 gs.l shp_22]
    exact ⟨hfin, gs.own⟩

theorem way_call [BitTab prog 1] {h : Heap} {v : Value} {xs : List Int} (hv : IntSl h v xs) (hl : xs.length < 9223372036854775808) (hx : ∀ x ∈ xs, -9223372036854775808 ≤ x ∧ x < 9223372036854775808) :
    ACall prog 18 [v] h fun r h' => Ext (fun _ => False) h h' ∧ ∃ a e, r = .tuple #[a, .int .i64 e] ∧
      (if trn xs then e = 0 ∧ (match find xs xs.length (fun _ => true) with | none => a = .slice none 0 0 | some l => OwnSl 3 h' a l) else e = 2 ∧ a = .slice none 0 0) := by
  refine s18_call (by simp) ?_
  simp (maxSteps := 2000000) only [s18, ↓aw_region, ↓aw_skip, ↓aw_seq, ↓aw_block, ↓aw_exit, ↓aw_ret, ↓sops_nil, ↓sops_go, ↓dops_nil, ↓dopsX_nil, ↓dopsR_nil, ↓vdn, vup, extr_20, extr_21, extr_30, extr_31, extr_32, List.map_cons, List.map_nil, cond_true, cond_false, aop, aThen, aBlock, argEnv, ev, sput, sputO, binK, binI, unK, builtinK, pickK, Nat.reduceBEq, Nat.reduceAdd, Int.reduceBEq, Int.reduceBNe, Int.reduceLT, aPost, resK, tup, tyf, callK, List.nil_append, List.append_nil, List.toList_toArray, List.cons_append]
  refine (valid_call hv hl hx).mono ?_
  rintro _ _ ⟨rfl, rfl⟩
  cases ht : trn xs with
  | false =>
    simp (maxSteps := 2000000) only [s18, ↓aw_region, ↓aw_skip, ↓aw_seq, ↓aw_block, ↓aw_exit, ↓aw_ret, ↓sops_nil, ↓sops_go, ↓dops_nil, ↓dopsX_nil, ↓dopsR_nil, ↓vdn, vup, extr_20, extr_21, extr_30, extr_31, extr_32, List.map_cons, List.map_nil, cond_true, cond_false, aop, aThen, aBlock, argEnv, ev, sput, sputO, binK, binI, unK, builtinK, pickK, Nat.reduceBEq, Nat.reduceAdd, Int.reduceBEq, Int.reduceBNe, Int.reduceLT, aPost, resK, tup, tyf]
    exact ⟨Ext.refl _ _, _, _, rfl, rfl, rfl⟩
  | true =>
    simp (maxSteps := 2000000) only [s18, ↓aw_region, ↓aw_skip, ↓aw_seq, ↓aw_block, ↓aw_exit, ↓aw_ret, ↓sops_nil, ↓sops_go, ↓dops_nil, ↓dopsX_nil, ↓dopsR_nil, ↓vdn, vup, extr_20, extr_21, extr_30, extr_31, extr_32, List.map_cons, List.map_nil, cond_true, cond_false, aop, aThen, aBlock, argEnv, ev, sput, sputO, binK, binI, unK, builtinK, pickK, Nat.reduceBEq, Nat.reduceAdd, Int.reduceBEq, Int.reduceBNe, Int.reduceLT, aPost, resK, tup, tyf, hv.len, callK, List.nil_append, List.append_nil, List.toList_toArray, List.cons_append]
    refine (search_call hv ht (Nat.le_refl _) ⟨58, #[], rfl, fun h' _ v l _ _ _ => yes_call⟩).mono ?_
    rintro r h' ⟨hext, hr⟩
    exact ⟨hext, _, _, rfl, rfl, hr⟩

theorem lit2 {h : Heap} {x y : Int} (K : Value → Heap → Prop) : buildSliceK prog h 22 2 [(0, vint x), (1, vint y)] K = K (.slice (some ⟨h.length, 0, none⟩) 2 2) (h ++ [.ints [x, y] 3 false]) := by
  simp only [buildSliceK, el_22, zero_3, esz_3, reps, fillL, mkb, intsOf, notTuple, cellsOf, List.length_singleton, Nat.mul_one, Nat.zero_mul, Nat.zero_add]
  exact propext ⟨fun h => h.2.2.2, fun h => ⟨trivial, Nat.zero_lt_one, by decide, h⟩⟩
theorem litSl {h : Heap} {xs : List Int} : IntSl (h ++ [.ints xs 3 false]) (.slice (some ⟨h.length, 0, none⟩) xs.length xs.length) xs :=
  .inr ⟨h.length, 0, none, xs.length, xs.map vint, 3, false, rfl, Nat.le_refl _, by simp [view, Blk.view], fun i hi => by simp [List.getD, hi]⟩
theorem IntSl_ext {h h' : Heap} {v : Value} {xs : List Int} (hv : IntSl h v xs) (he : Ext (fun _ => False) h h') : IntSl h' v xs := hv.same fun b hb => he.2 b (hv.lt hb) id

theorem awake_call [BitTab prog 1] {h : Heap} : ACall prog 21 [] h fun r h' => r = .bool true ∧ Ext (fun _ => False) h h' := by
  have ht : trn [0, 1] = true := by decide
  have hf : find [0, 1] 2 (fun _ => true) = some [1, 0] := by decide +kernel
  refine s21_call (by simp) ?_
  simp (maxSteps := 2000000) only [s21, ↓aw_region, ↓aw_skip, ↓aw_seq, ↓aw_block, ↓aw_exit, ↓aw_ret, ↓sops_nil, ↓sops_go, ↓dops_nil, ↓dopsX_nil, ↓dopsR_nil, ↓vdn, vup, extr_20, extr_21, extr_30, extr_31, extr_32, List.map_cons, List.map_nil, cond_true, cond_false, aop, aThen, aBlock, argEnv, ev, sput, sputO, binK, binI, unK, builtinK, pickK, Nat.reduceBEq, Nat.reduceAdd, Int.reduceBEq, Int.reduceBNe, Int.reduceLT, aPost, resK, tup, tyf, lit2, callK, List.nil_append, List.append_nil, List.toList_toArray, List.cons_append]
  refine (way_call (xs := [0, 1]) litSl (by decide) (by decide)).mono ?_
  rintro r h1 ⟨hext, a, e, rfl, hr⟩
  rw [if_pos ht] at hr
  obtain ⟨rfl, hr⟩ := hr
  simp only [List.length_cons, List.length_nil, Nat.zero_add, Nat.reduceAdd, hf] at hr
  have hx : Ext (fun _ => False) h h1 := (Ext.app _ _ _).trans hext
  simp (maxSteps := 2000000) only [s21, ↓aw_region, ↓aw_skip, ↓aw_seq, ↓aw_block, ↓aw_exit, ↓aw_ret, ↓sops_nil, ↓sops_go, ↓dops_nil, ↓dopsX_nil, ↓dopsR_nil, ↓vdn, vup, extr_20, extr_21, extr_30, extr_31, extr_32, List.map_cons, List.map_nil, cond_true, cond_false, aop, aThen, aBlock, argEnv, ev, sput, sputO, binK, binI, unK, builtinK, pickK, Nat.reduceBEq, Nat.reduceAdd, Int.reduceBEq, Int.reduceBNe, Int.reduceLT, aPost, resK, tup, tyf, lit2, callK, List.nil_append, List.append_nil, List.toList_toArray, List.cons_append]
  refine (equal_call (xs := [1, 0]) (ys := [1, 0]) (hr.int.grow _) litSl (by decide) (by decide)).mono ?_
  rintro _ _ ⟨rfl, rfl⟩
  simp (maxSteps := 2000000) only [s21, ↓aw_region, ↓aw_skip, ↓aw_seq, ↓aw_block, ↓aw_exit, ↓aw_ret, ↓sops_nil, ↓sops_go, ↓dops_nil, ↓dopsX_nil, ↓dopsR_nil, ↓vdn, vup, extr_20, extr_21, extr_30, extr_31, extr_32, List.map_cons, List.map_nil, cond_true, cond_false, aop, aThen, aBlock, argEnv, ev, sput, sputO, binK, binI, unK, builtinK, pickK, Nat.reduceBEq, Nat.reduceAdd, Int.reduceBEq, Int.reduceBNe, Int.reduceLT, aPost, resK, tup, tyf]
  exact hx.trans (Ext.app _ _ _)
end Go.Proofs.Tryd.Am

namespace Go.Proofs.Tryd.Am
open Go.Am
set_option maxRecDepth 100000
set_option maxHeartbeats 1000000

end Go.Proofs.Tryd.Am

namespace Go.Proofs.Tryd.Am
open Go.Am
set_option maxRecDepth 100000
set_option maxHeartbeats 1000000

theorem trn_take {xs : List Int} : trn (xs.take 11) = trn xs := by
  by_cases h : xs.length ≤ 11
  · rw [List.take_of_length_le h]
  · have h1 : trn xs = false := by simp only [trn, Bool.and_eq_false_iff, decide_eq_false_iff_not]; exact .inl (.inr (by omega))
    have h2 : trn (xs.take 11) = false := by simp only [trn, Bool.and_eq_false_iff, decide_eq_false_iff_not]; refine .inl (.inr ?_); simp; omega
    rw [h1, h2]

end Go.Proofs.Tryd.Am

namespace Go.Proofs.Tryd.Am
open Go.Am Redei

/-- y beats x. -/
def bt (xs : List Int) (x y : Nat) : Bool := bitI (xs.getD y 0) x

end Go.Proofs.Tryd.Am

namespace Rb
/-- The least of some numbers and b. -/
def mnF (v : Nat → Nat) : List Nat → Nat → Nat
  | [], b => b
  | i :: l, b => mnF v l (if v i < b then v i else b)
section
variable {v : Nat → Nat}
/-- What a run keeps that takes each better one. -/
def keep {α : Type} (v : Nat → Nat) (p : Nat → α) (st : Nat × α) (i : Nat) : Nat × α := if v i < st.1 then (v i, p i) else st
end

/-- Who is not in a set. -/
def fr (n s : Nat) : List Nat := (List.range n).filter fun i => !s.testBit i
theorem mem_fr {n s i : Nat} : i ∈ fr n s ↔ i < n ∧ s.testBit i = false := by simp [fr]
theorem testBit_put {s i x : Nat} : (s ||| 2 ^ i).testBit x = (s.testBit x || decide (i = x)) := by rw [Nat.testBit_or, Nat.testBit_two_pow]
theorem fr_put {n s i : Nat} (hi : i ∈ fr n s) : (fr n (s ||| 2 ^ i)).length + 1 = (fr n s).length := by
  have h : ∀ (l : List Nat), l.Nodup → (l.filter fun x => !(s ||| 2 ^ i).testBit x).length + (if i ∈ l ∧ s.testBit i = false then 1 else 0) = (l.filter fun x => !s.testBit x).length := by
    intro l
    induction l with
    | nil => intro _; simp
    | cons x l ih =>
      intro hn
      have hn' := List.nodup_cons.1 hn
      have := ih hn'.2
      by_cases hx : i = x
      · subst hx
        have h1 : ¬ (i ∈ l ∧ s.testBit i = false) := fun h => hn'.1 h.1
        rw [if_neg h1] at this
        cases hb : s.testBit i with
        | true => simp [List.filter_cons, testBit_put, hb] at this ⊢; exact this
        | false => simp [List.filter_cons, testBit_put, hb] at this ⊢; omega
      · have e : (s ||| 2 ^ i).testBit x = s.testBit x := by rw [testBit_put]; simp [hx]
        have h2 : (i ∈ x :: l ∧ s.testBit i = false) ↔ (i ∈ l ∧ s.testBit i = false) := by simp [hx]
        by_cases hp : i ∈ l ∧ s.testBit i = false
        · rw [if_pos hp] at this
          rw [if_pos (h2.2 hp), List.filter_cons, List.filter_cons, e]
          split <;> (try simp only [List.length_cons]) <;> omega
        · rw [if_neg hp] at this
          rw [if_neg (fun h => hp (h2.1 h)), List.filter_cons, List.filter_cons, e]
          split <;> (try simp only [List.length_cons]) <;> omega
  have := h (List.range n) List.nodup_range
  have hm := mem_fr.1 hi
  rw [if_pos ⟨List.mem_range.2 hm.1, hm.2⟩] at this
  exact this
theorem put_lt {n s i : Nat} (hs : s < 2 ^ n) (hi : i < n) : s ||| 2 ^ i < 2 ^ n := Nat.or_lt_two_pow hs (Nat.pow_lt_pow_right (by decide) hi)

section
variable (c : Nat → Nat → Nat) (n : Nat)
/-- The least number of pairs that k players bring who are not in s. -/
def rst : Nat → Nat → Nat
  | 0, _ => 0
  | k + 1, s => mnF (fun i => c i s + rst k (s ||| 2 ^ i)) (fr n s) (n * n)
def fv (k s i : Nat) : Nat := c i s + rst c n k (s ||| 2 ^ i)
/-- The first order of them that brings no more. -/
def gr : Nat → Nat → List Nat
  | 0, _ => []
  | k + 1, s => match (fr n s).find? (fun i => fv c n k s i == rst c n (k + 1) s) with
    | some i => i :: gr k (s ||| 2 ^ i)
    | none => []
variable {c n}
end
end Rb

namespace Go.Proofs.Tryd.Am
open Go.Am Redei Rb
set_option maxRecDepth 100000
set_option maxHeartbeats 1000000

theorem bitsLen (s : Nat) : (Am.bits s).length = (List.range 64).countP s.testBit := by rw [Am.bits, List.countP_eq_length_filter]
/-- How many a set has below n, and how many it lacks. -/
theorem bits_fr {n s : Nat} (hs : s < 2 ^ n) (hn : n ≤ 64) : (Am.bits s).length + (fr n s).length = n := by
  have h1 : ∀ d, (List.range (n + d)).countP s.testBit = (List.range n).countP s.testBit := by
    intro d
    induction d with
    | zero => rfl
    | succ d ih =>
      rw [← Nat.add_assoc, List.range_succ, List.countP_append, ih]
      have : s.testBit (n + d) = false := Nat.testBit_lt_two_pow (Nat.lt_of_lt_of_le hs (Nat.pow_le_pow_right (by decide) (Nat.le_add_right n d)))
      simp [this]
  have h2 := h1 (64 - n)
  rw [show n + (64 - n) = 64 by omega] at h2
  rw [bitsLen, h2, fr, ← List.countP_eq_length_filter]
  have := List.length_eq_countP_add_countP (p := s.testBit) (l := List.range n)
  rw [List.length_range] at this
  have e : (List.range n).countP (fun a => !s.testBit a) = (List.range n).countP fun a => decide (¬ s.testBit a = true) := List.countP_congr fun x _ => by simp
  rw [e]
  exact this.symm
theorem bits_put {n s y : Nat} (hn : n ≤ 64) (hs : s < 2 ^ n) (hy : y < n) : (Am.bits (s ||| 2 ^ y)).length = (Am.bits s).length + if s.testBit y = true then 0 else 1 := by
  cases hb : s.testBit y with
  | true =>
    have : s ||| 2 ^ y = s := by
      apply Nat.eq_of_testBit_eq
      intro i
      rw [Nat.testBit_or, Nat.testBit_two_pow]
      by_cases h : y = i
      · subst h; simp [hb]
      · simp [h]
    rw [this]; rfl
  | false =>
    have h1 := bits_fr hs hn
    have h2 := bits_fr (put_lt hs hy) hn
    have h3 := fr_put (mem_fr.2 ⟨hy, hb⟩)
    simp
    omega
end Go.Proofs.Tryd.Am

namespace Go.Proofs.Tryd.Am
open Go.Am
set_option maxRecDepth 100000
end Go.Proofs.Tryd.Am

namespace Go.Proofs.Tryd.Am
open Go.Am
set_option maxRecDepth 100000
/-! 29: planchet planchetlaw02.size -/
@[reducible] def q29_0 : SCode := .region [⟨some 2, .assign (.const (.int .i64 0)), none⟩]
@[reducible] def q29_1 : SCode := .region [⟨some 3, .assign (.const (.int .i64 0)), none⟩]
@[reducible] def q29_2 : SCode := .region [⟨some 4, .move (.tmp 0), none⟩,
    ⟨some 5, .binOp .gtr 3 (.tmp 4) (.const (.int .i64 0)) 3, none⟩]
@[reducible] def q29_4 : SCode := .region [⟨some 10, .move (.tmp 3), none⟩,
    ⟨some 11, .binOp .add 3 (.tmp 10) (.const (.int .i64 1)) 3, none⟩,
    ⟨some 3, .assign (.tmp 11), none⟩]
@[reducible] def q29_3 : SCode := .region [⟨some 6, .move (.tmp 0), none⟩,
    ⟨some 7, .move (.tmp 0), none⟩,
    ⟨some 8, .binOp .sub 3 (.tmp 7) (.const (.int .i64 1)) 3, none⟩,
    ⟨some 9, .binOp .and 3 (.tmp 6) (.tmp 8) 3, none⟩,
    ⟨some 0, .assign (.tmp 9), none⟩]
def l29_0 : SCode := (.seq (.seq q29_2 (.cond (.tmp 5) .skip (.exit 0))) (.seq (.block 1 q29_4) q29_3))
@[reducible] def q29_5 : SCode := .region [⟨some 12, .move (.tmp 3), none⟩,
    ⟨some 2, .assign (.tmp 12), none⟩]
def s29 : SCode := (.seq q29_0 (.seq q29_1 (.seq (.block 0 (.loop l29_0)) (.seq q29_5 .ret))))
theorem s29_strip : stripC (bodyOf Tryd.f29) = s29 := by kernel_rfl
theorem s29_ok : codeOK 13 (bodyOf Tryd.f29) = true := by kernel_rfl
theorem s29_call [Tabs Tryd.prog] {args : List Value} {h : Heap} {Q : Value → Heap → Prop} (hsz : args.length ≤ 13) (hk : aw Tryd.prog 13 s29 (aPost Tryd.prog [.tmp 2] Q) (argEnv 0 args) h) : ACall Tryd.prog 29 args h Q :=
  acall_s Tryd.func29 rfl (enters_of Tryd.func29 (by kernel_rfl) rfl) rfl rfl (by decide) s29_strip s29_ok hsz hk

/-! 73: planchet ranks.count -/
@[reducible] def q73_0 : SCode := .region [⟨some 2, .assign (.const (.int .i64 0)), none⟩]
@[reducible] def q73_1 : SCode := .region [⟨some 3, .move (.tmp 0), none⟩,
    ⟨some 4, .convert 3 53 (.tmp 3), none⟩,
    ⟨some 5, .call { callee := .value (.func 97), args := #[.tmp 4], argTypes := #[53] }, none⟩,
    ⟨some 2, .assign (.tmp 5), none⟩]
def s73 : SCode := (.seq q73_0 (.seq q73_1 .ret))
theorem s73_strip : stripC (bodyOf Tryd.f73) = s73 := by kernel_rfl
theorem s73_ok : codeOK 6 (bodyOf Tryd.f73) = true := by kernel_rfl
theorem s73_call [Tabs Tryd.prog] {args : List Value} {h : Heap} {Q : Value → Heap → Prop} (hsz : args.length ≤ 6) (hk : aw Tryd.prog 6 s73 (aPost Tryd.prog [.tmp 2] Q) (argEnv 0 args) h) : ACall Tryd.prog 73 args h Q :=
  acall_s Tryd.func73 rfl (enters_of Tryd.func73 (by kernel_rfl) rfl) rfl rfl (by decide) s73_strip s73_ok hsz hk

/-! 97: math bits.OnesCount -/
@[reducible] def q97_0 : SCode := .region [⟨some 2, .assign (.const (.int .i64 0)), none⟩]
@[reducible] def q97_1 : SCode := .region [⟨some 3, .move (.tmp 0), none⟩,
    ⟨some 4, .convert 53 87 (.tmp 3), none⟩,
    ⟨some 5, .call { callee := .value (.func 108), args := #[.tmp 4], argTypes := #[87] }, none⟩,
    ⟨some 2, .assign (.tmp 5), none⟩]
@[reducible] def q97_2 : SCode := .region [⟨some 6, .move (.tmp 0), none⟩,
    ⟨some 7, .call { callee := .value (.func 109), args := #[.tmp 6], argTypes := #[89] }, none⟩,
    ⟨some 2, .assign (.tmp 7), none⟩]
def s97 : SCode := (.seq q97_0 (.seq (.cond (.const (.bool false)) (.seq q97_1 .ret) .skip) (.seq q97_2 .ret)))
theorem s97_strip : stripC (bodyOf Tryd.f97) = s97 := by kernel_rfl
theorem s97_ok : codeOK 8 (bodyOf Tryd.f97) = true := by kernel_rfl
theorem s97_call [Tabs Tryd.prog] {args : List Value} {h : Heap} {Q : Value → Heap → Prop} (hsz : args.length ≤ 8) (hk : aw Tryd.prog 8 s97 (aPost Tryd.prog [.tmp 2] Q) (argEnv 0 args) h) : ACall Tryd.prog 97 args h Q :=
  acall_s Tryd.func97 rfl (enters_of Tryd.func97 (by kernel_rfl) rfl) rfl rfl (by decide) s97_strip s97_ok hsz hk

/-! 109: math bits.OnesCount64 -/
@[reducible] def q109_0 : SCode := .region [⟨some 2, .assign (.const (.int .i64 0)), none⟩]
@[reducible] def q109_1 : SCode := .region [⟨some 3, .move (.tmp 0), none⟩,
    ⟨some 4, .binOp .shr 89 (.tmp 3) (.const (.int .u64 1)) 53, none⟩,
    ⟨some 5, .binOp .and 89 (.tmp 4) (.const (.int .u64 6148914691236517205)) 89, none⟩,
    ⟨some 6, .move (.tmp 0), none⟩,
    ⟨some 7, .binOp .and 89 (.tmp 6) (.const (.int .u64 6148914691236517205)) 89, none⟩,
    ⟨some 8, .binOp .add 89 (.tmp 5) (.tmp 7) 89, none⟩,
    ⟨some 0, .assign (.tmp 8), none⟩]
@[reducible] def q109_2 : SCode := .region [⟨some 9, .move (.tmp 0), none⟩,
    ⟨some 10, .binOp .shr 89 (.tmp 9) (.const (.int .u64 2)) 53, none⟩,
    ⟨some 11, .binOp .and 89 (.tmp 10) (.const (.int .u64 3689348814741910323)) 89, none⟩,
    ⟨some 12, .move (.tmp 0), none⟩,
    ⟨some 13, .binOp .and 89 (.tmp 12) (.const (.int .u64 3689348814741910323)) 89, none⟩,
    ⟨some 14, .binOp .add 89 (.tmp 11) (.tmp 13) 89, none⟩,
    ⟨some 0, .assign (.tmp 14), none⟩]
@[reducible] def q109_3 : SCode := .region [⟨some 15, .move (.tmp 0), none⟩,
    ⟨some 16, .binOp .shr 89 (.tmp 15) (.const (.int .u64 4)) 53, none⟩,
    ⟨some 17, .move (.tmp 0), none⟩,
    ⟨some 18, .binOp .add 89 (.tmp 16) (.tmp 17) 89, none⟩,
    ⟨some 19, .binOp .and 89 (.tmp 18) (.const (.int .u64 1085102592571150095)) 89, none⟩,
    ⟨some 0, .assign (.tmp 19), none⟩]
@[reducible] def q109_4 : SCode := .region [⟨some 20, .move (.tmp 0), none⟩,
    ⟨some 21, .move (.tmp 0), none⟩,
    ⟨some 22, .binOp .shr 89 (.tmp 21) (.const (.int .u64 8)) 53, none⟩,
    ⟨some 23, .binOp .add 89 (.tmp 20) (.tmp 22) 89, none⟩,
    ⟨some 0, .assign (.tmp 23), none⟩]
@[reducible] def q109_5 : SCode := .region [⟨some 24, .move (.tmp 0), none⟩,
    ⟨some 25, .move (.tmp 0), none⟩,
    ⟨some 26, .binOp .shr 89 (.tmp 25) (.const (.int .u64 16)) 53, none⟩,
    ⟨some 27, .binOp .add 89 (.tmp 24) (.tmp 26) 89, none⟩,
    ⟨some 0, .assign (.tmp 27), none⟩]
@[reducible] def q109_6 : SCode := .region [⟨some 28, .move (.tmp 0), none⟩,
    ⟨some 29, .move (.tmp 0), none⟩,
    ⟨some 30, .binOp .shr 89 (.tmp 29) (.const (.int .u64 32)) 53, none⟩,
    ⟨some 31, .binOp .add 89 (.tmp 28) (.tmp 30) 89, none⟩,
    ⟨some 0, .assign (.tmp 31), none⟩]
@[reducible] def q109_7 : SCode := .region [⟨some 32, .move (.tmp 0), none⟩,
    ⟨some 33, .convert 89 3 (.tmp 32), none⟩,
    ⟨some 34, .binOp .and 3 (.tmp 33) (.const (.int .i64 127)) 3, none⟩,
    ⟨some 2, .assign (.tmp 34), none⟩]
def s109 : SCode := (.seq q109_0 (.seq q109_1 (.seq q109_2 (.seq q109_3 (.seq q109_4 (.seq q109_5 (.seq q109_6 (.seq q109_7 .ret))))))))
theorem s109_strip : stripC (bodyOf Tryd.f109) = s109 := by kernel_rfl
theorem s109_ok : codeOK 35 (bodyOf Tryd.f109) = true := by kernel_rfl
theorem s109_call [Tabs Tryd.prog] {args : List Value} {h : Heap} {Q : Value → Heap → Prop} (hsz : args.length ≤ 35) (hk : aw Tryd.prog 35 s109 (aPost Tryd.prog [.tmp 2] Q) (argEnv 0 args) h) : ACall Tryd.prog 109 args h Q :=
  acall_s Tryd.func109 rfl (enters_of Tryd.func109 (by kernel_rfl) rfl) rfl rfl (by decide) s109_strip s109_ok hsz hk

end Go.Proofs.Tryd.Am

namespace Go.Proofs.Tryd.Am
open Go.Am
set_option maxRecDepth 100000
/-! 79: planchet planchetref02.size -/
@[reducible] def q79_0 : SCode := .region [⟨some 2, .assign (.const (.int .i64 0)), none⟩]
@[reducible] def q79_1 : SCode := .region [⟨some 3, .assign (.const (.int .i64 0)), none⟩]
@[reducible] def q79_2 : SCode := .region [⟨some 4, .move (.tmp 0), none⟩,
    ⟨some 5, .binOp .gtr 3 (.tmp 4) (.const (.int .i64 0)) 3, none⟩]
@[reducible] def q79_4 : SCode := .region [⟨some 10, .move (.tmp 3), none⟩,
    ⟨some 11, .binOp .add 3 (.tmp 10) (.const (.int .i64 1)) 3, none⟩,
    ⟨some 3, .assign (.tmp 11), none⟩]
@[reducible] def q79_3 : SCode := .region [⟨some 6, .move (.tmp 0), none⟩,
    ⟨some 7, .move (.tmp 0), none⟩,
    ⟨some 8, .binOp .sub 3 (.tmp 7) (.const (.int .i64 1)) 3, none⟩,
    ⟨some 9, .binOp .and 3 (.tmp 6) (.tmp 8) 3, none⟩,
    ⟨some 0, .assign (.tmp 9), none⟩]
def l79_0 : SCode := (.seq (.seq q79_2 (.cond (.tmp 5) .skip (.exit 0))) (.seq (.block 1 q79_4) q79_3))
@[reducible] def q79_5 : SCode := .region [⟨some 12, .move (.tmp 3), none⟩,
    ⟨some 2, .assign (.tmp 12), none⟩]
def s79 : SCode := (.seq q79_0 (.seq q79_1 (.seq (.block 0 (.loop l79_0)) (.seq q79_5 .ret))))
theorem s79_strip : stripC (bodyOf Tryd.f79) = s79 := by kernel_rfl
theorem s79_ok : codeOK 13 (bodyOf Tryd.f79) = true := by kernel_rfl
theorem s79_call [Tabs Tryd.prog] {args : List Value} {h : Heap} {Q : Value → Heap → Prop} (hsz : args.length ≤ 13) (hk : aw Tryd.prog 13 s79 (aPost Tryd.prog [.tmp 2] Q) (argEnv 0 args) h) : ACall Tryd.prog 79 args h Q :=
  acall_s Tryd.func79 rfl (enters_of Tryd.func79 (by kernel_rfl) rfl) rfl rfl (by decide) s79_strip s79_ok hsz hk

end Go.Proofs.Tryd.Am

namespace Go.Proofs.Tryd.Am
open Go.Am
set_option maxRecDepth 100000
set_option maxHeartbeats 1000000

/-! How many elements a set has, as the library counts. -/
def oc1 (x : Int) : Int := addV .u64 (bitsV .and .u64 (shrV .u64 x 1) 6148914691236517205) (bitsV .and .u64 x 6148914691236517205)
def oc2 (x : Int) : Int := addV .u64 (bitsV .and .u64 (shrV .u64 x 2) 3689348814741910323) (bitsV .and .u64 x 3689348814741910323)
def oc3 (x : Int) : Int := bitsV .and .u64 (addV .u64 (shrV .u64 x 4) x) 1085102592571150095
def oc4 (x : Int) : Int := addV .u64 x (shrV .u64 x 8)
def oc5 (x : Int) : Int := addV .u64 x (shrV .u64 x 16)
def oc6 (x : Int) : Int := addV .u64 x (shrV .u64 x 32)
def ocA (x : Int) : Int := bitsV .and .i64 (IntKind.i64.wrap (oc6 (oc5 (oc4 (oc3 (oc2 (oc1 x))))))) 127
theorem oc_tab : (List.range 256).all (fun x => decide (ocA (x : Int) = (((Am.bits x).length : Nat) : Int))) = true := by kernel_rfl
theorem ones_call [Tabs prog] {h : Heap} {x : Nat} (hx : x < 256) : APure prog 109 [.int .u64 (x : Int)] h (vint ((Am.bits x).length : Nat)) := by
  have hoc : ocA (x : Int) = (((Am.bits x).length : Nat) : Int) := of_decide_eq_true (List.all_eq_true.1 oc_tab x (List.mem_range.2 hx))
  refine s109_call (by simp) ?_
  simp (maxSteps := 2000000) only [s109, ↓aw_region, ↓aw_skip, ↓aw_seq, ↓aw_block, ↓aw_exit, ↓aw_ret, ↓sops_nil, ↓sops_go, ↓dops_nil, ↓dopsX_nil, ↓dopsR_nil, ↓vdn, vup, extr_20, extr_21, extr_30, extr_31, extr_32, List.map_cons, List.map_nil, cond_true, cond_false, aop, aThen, aBlock, argEnv, ev, sput, sputO, binK, binI, unK, builtinK, pickK, Nat.reduceBEq, Nat.reduceAdd, Int.reduceBEq, Int.reduceBNe, Int.reduceLT, aPost, resK, tup, tyf, convK, und_89, und_3, Int.reduceLE, true_and]
  exact congrArg (fun z : Int => vint z) hoc
theorem count_call [Tabs prog] {h : Heap} {x : Nat} (hx : x < 256) : APure prog 73 [vint x] h (vint ((Am.bits x).length : Nat)) := by
  have hw : IntKind.u64.wrap ((x : Nat) : Int) = (x : Int) := by simp [IntKind.wrap, IntKind.signed, IntKind.bits]; omega
  refine s73_call (by simp) ?_
  simp (maxSteps := 2000000) only [s73, ↓aw_region, ↓aw_skip, ↓aw_seq, ↓aw_block, ↓aw_exit, ↓aw_ret, ↓sops_nil, ↓sops_go, ↓dops_nil, ↓dopsX_nil, ↓dopsR_nil, ↓vdn, vup, extr_20, extr_21, extr_30, extr_31, extr_32, List.map_cons, List.map_nil, cond_true, cond_false, aop, aThen, aBlock, argEnv, ev, sput, sputO, binK, binI, unK, builtinK, pickK, Nat.reduceBEq, Nat.reduceAdd, Int.reduceBEq, Int.reduceBNe, Int.reduceLT, aPost, resK, tup, tyf, convK, und_3, und_53, hw, callK, List.nil_append, List.append_nil, List.toList_toArray, List.cons_append]
  refine s97_call (by simp) ?_
  simp (maxSteps := 2000000) only [s97, ↓aw_region, ↓aw_skip, ↓aw_seq, ↓aw_block, ↓aw_exit, ↓aw_ret, ↓sops_nil, ↓sops_go, ↓dops_nil, ↓dopsX_nil, ↓dopsR_nil, ↓vdn, vup, extr_20, extr_21, extr_30, extr_31, extr_32, List.map_cons, List.map_nil, cond_true, cond_false, aop, aThen, aBlock, argEnv, ev, sput, sputO, binK, binI, unK, builtinK, pickK, Nat.reduceBEq, Nat.reduceAdd, Int.reduceBEq, Int.reduceBNe, Int.reduceLT, aPost, resK, tup, tyf]
  refine ⟨false, rfl, fun h => (by cases h), fun _ => ?_⟩
  simp (maxSteps := 2000000) only [s97, ↓aw_region, ↓aw_skip, ↓aw_seq, ↓aw_block, ↓aw_exit, ↓aw_ret, ↓sops_nil, ↓sops_go, ↓dops_nil, ↓dopsX_nil, ↓dopsR_nil, ↓vdn, vup, extr_20, extr_21, extr_30, extr_31, extr_32, List.map_cons, List.map_nil, cond_true, cond_false, aop, aThen, aBlock, argEnv, ev, sput, sputO, binK, binI, unK, builtinK, pickK, Nat.reduceBEq, Nat.reduceAdd, Int.reduceBEq, Int.reduceBNe, Int.reduceLT, aPost, resK, tup, tyf, callK, List.nil_append, List.append_nil, List.toList_toArray, List.cons_append]
  refine (ones_call hx).mono ?_
  rintro _ h ⟨rfl, rfl⟩
  simp (maxSteps := 2000000) only [s97, ↓aw_region, ↓aw_skip, ↓aw_seq, ↓aw_block, ↓aw_exit, ↓aw_ret, ↓sops_nil, ↓sops_go, ↓dops_nil, ↓dopsX_nil, ↓dopsR_nil, ↓vdn, vup, extr_20, extr_21, extr_30, extr_31, extr_32, List.map_cons, List.map_nil, cond_true, cond_false, aop, aThen, aBlock, argEnv, ev, sput, sputO, binK, binI, unK, builtinK, pickK, Nat.reduceBEq, Nat.reduceAdd, Int.reduceBEq, Int.reduceBNe, Int.reduceLT, aPost, resK, tup, tyf]

theorem size79_call [Tabs prog] {h : Heap} {s : Nat} (hs : s < 9223372036854775808) : APure prog 79 [vint s] h (vint ((Am.bits s).length : Nat)) := by
  refine s79_call (by simp) ?_
  simp (maxSteps := 2000000) only [s79, ↓aw_region, ↓aw_skip, ↓aw_seq, ↓aw_block, ↓aw_exit, ↓aw_ret, ↓sops_nil, ↓sops_go, ↓dops_nil, ↓dopsX_nil, ↓dopsR_nil, ↓vdn, vup, extr_20, extr_21, extr_30, extr_31, extr_32, List.map_cons, List.map_nil, cond_true, cond_false, aop, aThen, aBlock, argEnv, ev, sput, sputO, binK, binI, unK, builtinK, pickK, Nat.reduceBEq, Nat.reduceAdd, Int.reduceBEq, Int.reduceBNe, Int.reduceLT, aPost, resK, tup, tyf, ↓aw_loop_eq]
  refine aws_hide fun Q hQ => ?_
  refine aw_loop (γ := Nat × Nat) (fun t => t.1 < 9223372036854775808 ∧ t.2 + (Am.bits t.1).length = (Am.bits s).length)
    (fun t => ([(0, vint t.1), (3, vint t.2)], h)) (fun t => t.1) (s, 0) ⟨hs, by simp⟩ (by simp (maxSteps := 2000000) only [↓aw_region, ↓aw_skip, ↓aw_seq, ↓aw_block, ↓aw_exit, ↓aw_ret, ↓sops_nil, ↓sops_go, ↓dops_nil, ↓dopsX_nil, ↓dopsR_nil, ↓vdn, vup, extr_20, extr_21, extr_30, extr_31, extr_32, List.map_cons, List.map_nil, cond_true, cond_false, aop, aThen, aBlock, argEnv, ev, sput, sputO, binK, binI, unK, builtinK, pickK, Nat.reduceBEq, Nat.reduceAdd, Int.reduceBEq, Int.reduceBNe, Int.reduceLT, aPost, resK, tup, tyf, Int.natCast_zero]) rfl ?_
  rintro ⟨t, m⟩ ⟨ht, hm⟩
  simp only at ht hm
  refine aw_hide fun Q2 hQ2 => ?_
  by_cases h0 : t = 0
  · subst h0
    have hlen : (Am.bits 0).length = 0 := by decide
    have hms : m = (Am.bits s).length := by omega
    simp (maxSteps := 2000000) only [s79, ↓aw_region, ↓aw_skip, ↓aw_seq, ↓aw_block, ↓aw_exit, ↓aw_ret, ↓sops_nil, ↓sops_go, ↓dops_nil, ↓dopsX_nil, ↓dopsR_nil, ↓vdn, vup, extr_20, extr_21, extr_30, extr_31, extr_32, List.map_cons, List.map_nil, cond_true, cond_false, aop, aThen, aBlock, argEnv, ev, sput, sputO, binK, binI, unK, builtinK, pickK, Nat.reduceBEq, Nat.reduceAdd, Int.reduceBEq, Int.reduceBNe, Int.reduceLT, aPost, resK, tup, tyf, l79_0, Int.natCast_zero, gt_iff_lt, Int.lt_irrefl]
    refine hQ2 _ _ _ (hQ _ _ _ ?_)
    simp (maxSteps := 2000000) only [s79, ↓aw_region, ↓aw_skip, ↓aw_seq, ↓aw_block, ↓aw_exit, ↓aw_ret, ↓sops_nil, ↓sops_go, ↓dops_nil, ↓dopsX_nil, ↓dopsR_nil, ↓vdn, vup, extr_20, extr_21, extr_30, extr_31, extr_32, List.map_cons, List.map_nil, cond_true, cond_false, aop, aThen, aBlock, argEnv, ev, sput, sputO, binK, binI, unK, builtinK, pickK, Nat.reduceBEq, Nat.reduceAdd, Int.reduceBEq, Int.reduceBNe, Int.reduceLT, aPost, resK, tup, tyf, hms, if_true]
  · have hpos : (0 : Int) < (t : Int) := by omega
    have hstep := bits_step t ht h0
    have hlen : (Am.bits t).length = (Am.bits (t &&& (t - 1))).length + 1 := by rw [hstep]; rfl
    have hle : (Am.bits t).length ≤ 64 := by
      have := List.length_filter_le (fun i => t.testBit i) (List.range 64)
      rw [List.length_range] at this; exact this
    have hle2 : (Am.bits s).length ≤ 64 := by
      have := List.length_filter_le (fun i => s.testBit i) (List.range 64)
      rw [List.length_range] at this; exact this
    have hlt := and_pred_lt t h0
    have hsub : subV .i64 (t : Int) 1 = ((t - 1 : Nat) : Int) := by rw [subV_id (by omega) (by omega)]; omega
    have hand := bitsV_and (a := t) (b := t - 1) ht (by omega)
    simp (maxSteps := 2000000) only [s79, ↓aw_region, ↓aw_skip, ↓aw_seq, ↓aw_block, ↓aw_exit, ↓aw_ret, ↓sops_nil, ↓sops_go, ↓dops_nil, ↓dopsX_nil, ↓dopsR_nil, ↓vdn, vup, extr_20, extr_21, extr_30, extr_31, extr_32, List.map_cons, List.map_nil, cond_true, cond_false, aop, aThen, aBlock, argEnv, ev, sput, sputO, binK, binI, unK, builtinK, pickK, Nat.reduceBEq, Nat.reduceAdd, Int.reduceBEq, Int.reduceBNe, Int.reduceLT, aPost, resK, tup, tyf, l79_0, hpos, gt_iff_lt, add1 (show m < 9223372036854775807 by omega), hsub, hand]
    exact hQ2 _ _ _ ⟨(t &&& (t - 1), m + 1), ⟨by simp only; omega, by simp only; omega⟩, by simp only; exact hlt, by simp (maxSteps := 2000000) only [↓aw_region, ↓aw_skip, ↓aw_seq, ↓aw_block, ↓aw_exit, ↓aw_ret, ↓sops_nil, ↓sops_go, ↓dops_nil, ↓dopsX_nil, ↓dopsR_nil, ↓vdn, vup, extr_20, extr_21, extr_30, extr_31, extr_32, List.map_cons, List.map_nil, cond_true, cond_false, aop, aThen, aBlock, argEnv, ev, sput, sputO, binK, binI, unK, builtinK, pickK, Nat.reduceBEq, Nat.reduceAdd, Int.reduceBEq, Int.reduceBNe, Int.reduceLT, aPost, resK, tup, tyf], rfl⟩

end Go.Proofs.Tryd.Am

namespace Go.Proofs.Tryd.Am
open Go.Am
set_option maxRecDepth 100000
set_option maxHeartbeats 1000000

theorem size_call [Tabs prog] {h : Heap} {s : Nat} (hs : s < 9223372036854775808) : APure prog 29 [vint s] h (vint ((Am.bits s).length : Nat)) := by
  refine s29_call (by simp) ?_
  simp (maxSteps := 2000000) only [s29, ↓aw_region, ↓aw_skip, ↓aw_seq, ↓aw_block, ↓aw_exit, ↓aw_ret, ↓sops_nil, ↓sops_go, ↓dops_nil, ↓dopsX_nil, ↓dopsR_nil, ↓vdn, vup, extr_20, extr_21, extr_30, extr_31, extr_32, List.map_cons, List.map_nil, cond_true, cond_false, aop, aThen, aBlock, argEnv, ev, sput, sputO, binK, binI, unK, builtinK, pickK, Nat.reduceBEq, Nat.reduceAdd, Int.reduceBEq, Int.reduceBNe, Int.reduceLT, aPost, resK, tup, tyf, ↓aw_loop_eq]
  refine aws_hide fun Q hQ => ?_
  refine aw_loop (γ := Nat × Nat) (fun t => t.1 < 9223372036854775808 ∧ t.2 + (Am.bits t.1).length = (Am.bits s).length)
    (fun t => ([(0, vint t.1), (3, vint t.2)], h)) (fun t => t.1) (s, 0) ⟨hs, by simp⟩ (by simp (maxSteps := 2000000) only [↓aw_region, ↓aw_skip, ↓aw_seq, ↓aw_block, ↓aw_exit, ↓aw_ret, ↓sops_nil, ↓sops_go, ↓dops_nil, ↓dopsX_nil, ↓dopsR_nil, ↓vdn, vup, extr_20, extr_21, extr_30, extr_31, extr_32, List.map_cons, List.map_nil, cond_true, cond_false, aop, aThen, aBlock, argEnv, ev, sput, sputO, binK, binI, unK, builtinK, pickK, Nat.reduceBEq, Nat.reduceAdd, Int.reduceBEq, Int.reduceBNe, Int.reduceLT, aPost, resK, tup, tyf, Int.natCast_zero]) rfl ?_
  rintro ⟨t, m⟩ ⟨ht, hm⟩
  simp only at ht hm
  refine aw_hide fun Q2 hQ2 => ?_
  by_cases h0 : t = 0
  · subst h0
    have hlen : (Am.bits 0).length = 0 := by decide
    have hms : m = (Am.bits s).length := by omega
    simp (maxSteps := 2000000) only [s29, ↓aw_region, ↓aw_skip, ↓aw_seq, ↓aw_block, ↓aw_exit, ↓aw_ret, ↓sops_nil, ↓sops_go, ↓dops_nil, ↓dopsX_nil, ↓dopsR_nil, ↓vdn, vup, extr_20, extr_21, extr_30, extr_31, extr_32, List.map_cons, List.map_nil, cond_true, cond_false, aop, aThen, aBlock, argEnv, ev, sput, sputO, binK, binI, unK, builtinK, pickK, Nat.reduceBEq, Nat.reduceAdd, Int.reduceBEq, Int.reduceBNe, Int.reduceLT, aPost, resK, tup, tyf, l29_0, Int.natCast_zero, gt_iff_lt, Int.lt_irrefl]
    refine hQ2 _ _ _ (hQ _ _ _ ?_)
    simp (maxSteps := 2000000) only [s29, ↓aw_region, ↓aw_skip, ↓aw_seq, ↓aw_block, ↓aw_exit, ↓aw_ret, ↓sops_nil, ↓sops_go, ↓dops_nil, ↓dopsX_nil, ↓dopsR_nil, ↓vdn, vup, extr_20, extr_21, extr_30, extr_31, extr_32, List.map_cons, List.map_nil, cond_true, cond_false, aop, aThen, aBlock, argEnv, ev, sput, sputO, binK, binI, unK, builtinK, pickK, Nat.reduceBEq, Nat.reduceAdd, Int.reduceBEq, Int.reduceBNe, Int.reduceLT, aPost, resK, tup, tyf, hms, if_true]
  · have hpos : (0 : Int) < (t : Int) := by omega
    have hstep := bits_step t ht h0
    have hlen : (Am.bits t).length = (Am.bits (t &&& (t - 1))).length + 1 := by rw [hstep]; rfl
    have hle : (Am.bits t).length ≤ 64 := by
      have := List.length_filter_le (fun i => t.testBit i) (List.range 64)
      rw [List.length_range] at this; exact this
    have hle2 : (Am.bits s).length ≤ 64 := by
      have := List.length_filter_le (fun i => s.testBit i) (List.range 64)
      rw [List.length_range] at this; exact this
    have hlt := and_pred_lt t h0
    have hsub : subV .i64 (t : Int) 1 = ((t - 1 : Nat) : Int) := by rw [subV_id (by omega) (by omega)]; omega
    have hand := bitsV_and (a := t) (b := t - 1) ht (by omega)
    simp (maxSteps := 2000000) only [s29, ↓aw_region, ↓aw_skip, ↓aw_seq, ↓aw_block, ↓aw_exit, ↓aw_ret, ↓sops_nil, ↓sops_go, ↓dops_nil, ↓dopsX_nil, ↓dopsR_nil, ↓vdn, vup, extr_20, extr_21, extr_30, extr_31, extr_32, List.map_cons, List.map_nil, cond_true, cond_false, aop, aThen, aBlock, argEnv, ev, sput, sputO, binK, binI, unK, builtinK, pickK, Nat.reduceBEq, Nat.reduceAdd, Int.reduceBEq, Int.reduceBNe, Int.reduceLT, aPost, resK, tup, tyf, l29_0, hpos, gt_iff_lt, add1 (show m < 9223372036854775807 by omega), hsub, hand]
    exact hQ2 _ _ _ ⟨(t &&& (t - 1), m + 1), ⟨by simp only; omega, by simp only; omega⟩, by simp only; exact hlt, by simp (maxSteps := 2000000) only [↓aw_region, ↓aw_skip, ↓aw_seq, ↓aw_block, ↓aw_exit, ↓aw_ret, ↓sops_nil, ↓sops_go, ↓dops_nil, ↓dopsX_nil, ↓dopsR_nil, ↓vdn, vup, extr_20, extr_21, extr_30, extr_31, extr_32, List.map_cons, List.map_nil, cond_true, cond_false, aop, aThen, aBlock, argEnv, ev, sput, sputO, binK, binI, unK, builtinK, pickK, Nat.reduceBEq, Nat.reduceAdd, Int.reduceBEq, Int.reduceBNe, Int.reduceLT, aPost, resK, tup, tyf], rfl⟩

theorem trn_nat {xs : List Int} (h : trn xs = true) {i : Nat} (hi : i < xs.length) : xs.getD i 0 = ((xs.getD i 0).toNat : Int) ∧ (xs.getD i 0).toNat < 2 ^ xs.length := by
  simp only [trn, Bool.and_eq_true, decide_eq_true_eq, List.all_eq_true, List.mem_range] at h
  have h2 := h.2 i hi
  rw [okAt, Bool.and_eq_true, Bool.and_eq_true, Bool.and_eq_true, decide_eq_true_eq, decide_eq_true_eq] at h2
  have h3 := h2.1.1.1
  have h4 := h2.1.1.2
  have e : ((2 ^ xs.length : Nat) : Int) = 2 ^ xs.length := by simp
  refine ⟨(Int.toNat_of_nonneg h3).symm, ?_⟩
  rw [← Int.toNat_of_nonneg h3, ← e] at h4
  exact Int.ofNat_lt.1 h4

end Go.Proofs.Tryd.Am

namespace Go.Proofs.Tryd.Am
open Go.Am Redei Rb
set_option maxRecDepth 100000
set_option maxHeartbeats 1000000

theorem pow8N {n : Nat} (h : n ≤ 8) : 2 ^ n ≤ 256 := Nat.pow_le_pow_right (n := 2) (by decide) h
theorem shlI1 {n : Nat} (h : n ≤ 62) : shlV .i64 1 (n : Int) = ((2 ^ n : Nat) : Int) := by
  have h2 : 2 ^ n ≤ 2 ^ 62 := Nat.pow_le_pow_right (by decide) h
  have := shlV_nat (a := 1) (y := n) (by omega) (by omega)
  simpa using this
end Go.Proofs.Tryd.Am

namespace Go.Proofs.Tryd.Am
open Go.Am Redei Rb
set_option maxRecDepth 100000
set_option maxHeartbeats 1000000

abbrev pt (b : Nat) : Value := .pointer (some ⟨b, 0, none⟩)
abbrev iL (L : List Nat) : List Int := L.map Int.ofNat
theorem iL_len (L : List Nat) : (iL L).length = L.length := by simp
/-- The two boxes of the search. -/
structure BO (h : Heap) (bb bo : Nat) (st : Nat × List Nat) : Prop where
  b : h[bb]? = some (.cells [vint st.1] 3 false)
  o : ∃ ov, h[bo]? = some (.cells [ov] 22 false) ∧ OwnSl 3 h ov (iL st.2)
  ne : bb ≠ bo
abbrev EB (bb bo : Nat) : Heap → Heap → Prop := Ext fun i => i = bb ∨ i = bo
theorem own_ne {h : Heap} {v : Value} {xs : List Int} (ho : OwnSl 3 h v xs) {b : Nat} {c : List Value} {e : TypeId} (hb : h[b]? = some (.cells c e false)) : blkOf v ≠ some b := fun hv => by
  obtain ⟨ys, h1⟩ := ho.ints hv
  rw [hb] at h1; cases h1
theorem BO.own {h h' : Heap} {bb bo : Nat} {st : Nat × List Nat} (B : BO h bb bo st) {v : Value} {xs : List Int} (ho : OwnSl 3 h v xs) (hE : EB bb bo h h') : OwnSl 3 h' v xs := by
  obtain ⟨ov, h1, _⟩ := B.o
  refine ho.ext hE fun b hb hx => ?_
  rcases hx with rfl | rfl
  · exact own_ne ho B.b hb
  · exact own_ne ho h1 hb
theorem BO.ext {h h' : Heap} {bb bo : Nat} {st : Nat × List Nat} (B : BO h bb bo st) (hE : Ext (fun _ => False) h h') : BO h' bb bo st := by
  obtain ⟨ov, h1, h2⟩ := B.o
  exact ⟨(hE.2 _ (get_lt B.b) id).trans B.b, ⟨ov, (hE.2 _ (get_lt h1) id).trans h1, h2.ext hE fun _ _ => id⟩, B.ne⟩
theorem litI1 {h : Heap} {x : Int} (K : Value → Heap → Prop) : buildSliceK prog h 22 1 [(0, vint x)] K = K (.slice (some ⟨h.length, 0, none⟩) 1 1) (h ++ [.ints [x] 3 false]) := by
  simp only [buildSliceK, el_22, zero_3, esz_3, reps, fillL, mkb, intsOf, notTuple, cellsOf, List.length_singleton, Nat.mul_one, Nat.zero_mul, Nat.zero_add]
  exact propext ⟨fun h => h.2.2.2, fun h => ⟨trivial, by decide, by decide, h⟩⟩
end Go.Proofs.Tryd.Am

namespace Go.Proofs.Tryd.Am
open Go.Am Redei Rb
set_option maxRecDepth 100000
set_option maxHeartbeats 1000000

theorem iL_get (L : List Nat) (i : Nat) : (iL L).getD i 0 = ((L.getD i 0 : Nat) : Int) := by
  rw [List.getD, List.getElem?_map, List.getD]; cases L[i]? <;> rfl
theorem iL_set (L : List Nat) (i x : Nat) : (iL L).set i ((x : Nat) : Int) = iL (L.set i x) := by simp only [iL, List.map_set]; rfl
theorem getD_setN {L : List Nat} {s x i : Nat} (hs : s < L.length) : (L.set s x).getD i 0 = if i = s then x else L.getD i 0 := by
  rw [List.getD, List.getElem?_set]
  by_cases h : s = i
  · subst h; simp [hs]
  · rw [if_neg h, if_neg (Ne.symm h)]; rfl
abbrev tv (b M : Nat) : Value := .slice (some ⟨b, 0, none⟩) M M
section tab
variable {hp : Heap} {b M : Nat} {L : List Nat}
end tab

/-- What the run leans on: the tournament, the table, and the function that says what a player brings. -/
structure OB (h hp : Heap) (gv : Value) (M : Nat) (T : List Nat) : Prop where
  b1 : hp[h.length]? = some (.cells [gv] 22 false)
  bT : hp[h.length + 1]? = some (.ints (iL T) 3 false)
  b5 : hp[h.length + 2]? = some (.cells [tv (h.length + 1) M] 22 false)
  b6 : hp[h.length + 3]? = some (.cells [.func (.func 75) #[] #[pt h.length, pt (h.length + 2)]] 69 false)
  E : Ext (fun _ => False) h hp
  len : T.length = M
section
variable {h hp hp2 : Heap} {gv : Value} {M : Nat} {T : List Nat}
theorem OB.up (o : OB h hp gv M T) (hE : Ext (fun i => h.length + 4 ≤ i) hp hp2) : OB h hp2 gv M T := by
  have k : ∀ {i B}, i < h.length + 4 → hp[i]? = some B → hp2[i]? = some B := fun hi hb => (hE.2 _ (get_lt hb) (by omega)).trans hb
  exact ⟨k (by omega) o.b1, k (by omega) o.bT, k (by omega) o.b5, k (by omega) o.b6, ⟨Nat.le_trans o.E.1 hE.1, fun i hi _ => (hE.2 i (Nat.lt_of_lt_of_le hi o.E.1) (by omega)).trans (o.E.2 i hi id)⟩, o.len⟩
theorem OB.tab (o : OB h hp gv M T) {T2 : List Nat} (hT : T2.length = M) : OB h (hp.set (h.length + 1) (.ints (iL T2) 3 false)) gv M T2 := by
  have hl := get_lt o.bT
  refine ⟨?_, get_set hl _, ?_, ?_, o.E.set_ge (by omega) _, hT⟩
  · rw [List.getElem?_set_ne (by omega)]; exact o.b1
  · rw [List.getElem?_set_ne (by omega)]; exact o.b5
  · rw [List.getElem?_set_ne (by omega)]; exact o.b6
end
end Go.Proofs.Tryd.Am

namespace Go.Proofs.Tryd.Am
open Go.Am
set_option maxRecDepth 100000
/-! 99: cmp.isNaN[int] -/
@[reducible] def q99_0 : SCode := .region [⟨some 2, .assign (.const (.bool false)), none⟩]
@[reducible] def q99_1 : SCode := .region [⟨some 3, .move (.tmp 0), none⟩,
    ⟨some 4, .move (.tmp 0), none⟩,
    ⟨some 5, .binOp .neq 3 (.tmp 3) (.tmp 4) 3, none⟩,
    ⟨some 2, .assign (.tmp 5), none⟩]
def s99 : SCode := (.seq q99_0 (.seq q99_1 .ret))
theorem s99_strip : stripC (bodyOf Tryd.f99) = s99 := by kernel_rfl
theorem s99_ok : codeOK 6 (bodyOf Tryd.f99) = true := by kernel_rfl
theorem s99_call [Tabs Tryd.prog] {args : List Value} {h : Heap} {Q : Value → Heap → Prop} (hsz : args.length ≤ 6) (hk : aw Tryd.prog 6 s99 (aPost Tryd.prog [.tmp 2] Q) (argEnv 0 args) h) : ACall Tryd.prog 99 args h Q :=
  acall_s Tryd.func99 rfl (enters_of Tryd.func99 (by kernel_rfl) rfl) rfl rfl (by decide) s99_strip s99_ok hsz hk

end Go.Proofs.Tryd.Am

namespace Rb
/-- How many pairs an order goes against: for each one, the earlier ones that it beats. -/
def back (b : Nat → Nat → Bool) (pre : List Nat) : List Nat → Nat
  | [] => 0
  | x :: l => pre.countP (b x) + back b (pre ++ [x]) l
section
variable {c : Nat → Nat → Nat} {n : Nat}
end
section
variable {b b' : Nat → Nat → Bool}
end
end Rb

namespace Rb
section
variable {b : Nat → Nat → Bool}
end
section
variable {c : Nat → Nat → Nat} {n : Nat}
end
theorem nodup_le {α : Type} [DecidableEq α] : ∀ {l m : List α}, l.Nodup → (∀ x ∈ l, x ∈ m) → l.length ≤ m.length
  | [], _, _, _ => Nat.zero_le _
  | x :: l, m, hd, h => by
    have hd' := List.nodup_cons.1 hd
    have hx := h x (by simp)
    have := nodup_le (l := l) (m := m.erase x) hd'.2 fun y hy => (List.mem_erase_of_ne (show y ≠ x from fun e => hd'.1 (e ▸ hy))).2 (h y (by simp [hy]))
    rw [List.length_erase_of_mem hx] at this
    have : 0 < m.length := List.length_pos_of_mem hx
    rw [List.length_cons]; omega
end Rb
namespace Rb
section
variable {b : Nat → Nat → Bool}
/-- Each cycle has a pair that the order goes against. -/
def bk (l : List Nat) (t : Nat × Nat × Nat) : Nat × Nat :=
  if l.idxOf t.2.1 < l.idxOf t.1 then (t.1, t.2.1) else if l.idxOf t.2.2 < l.idxOf t.2.1 then (t.2.1, t.2.2) else (t.2.2, t.1)
end
end Rb

namespace Go.Proofs.Tryd.Am
open Go.Am
set_option maxRecDepth 100000
set_option maxHeartbeats 1000000

theorem isnan_call [Tabs prog] {h : Heap} {x : Int} : APure prog 99 [vint x] h (.bool false) := by
  refine s99_call (by simp) ?_
  have hb : (x != x) = false := bne_self_eq_false _
  simp (maxSteps := 2000000) only [s99, ↓aw_region, ↓aw_skip, ↓aw_seq, ↓aw_block, ↓aw_exit, ↓aw_ret, ↓sops_nil, ↓sops_go, ↓dops_nil, ↓dopsX_nil, ↓dopsR_nil, ↓vdn, vup, extr_20, extr_21, extr_30, extr_31, extr_32, List.map_cons, List.map_nil, cond_true, cond_false, aop, aThen, aBlock, argEnv, ev, sput, sputO, binK, binI, unK, builtinK, pickK, Nat.reduceBEq, Nat.reduceAdd, Int.reduceBEq, Int.reduceBNe, Int.reduceLT, aPost, resK, tup, tyf, hb]
end Go.Proofs.Tryd.Am

namespace Go.Proofs.Tryd.Am
open Go.Am
set_option maxRecDepth 100000
/-! 48: planchet ranks.Scores -/
@[reducible] def q48_0 : SCode := .region [⟨some 2, .assign (.const (.slice none 0 0)), none⟩,
    ⟨some 3, .assign (.const (.int .i64 0)), none⟩]
@[reducible] def q48_1 : SCode := .region [⟨some 7, .move (.tmp 0), none⟩,
    ⟨some 8, .call { callee := .value (.func 56), args := #[.tmp 7], argTypes := #[55] }, none⟩,
    ⟨some 9, .unOp .not 4 (.tmp 8), none⟩]
@[reducible] def q48_2 : SCode := .region [⟨some 2, .assign (.const (.slice none 0 0)), none⟩,
    ⟨some 3, .assign (.const (.int .i64 2)), none⟩]
@[reducible] def q48_3 : SCode := .region [⟨some 4, .assign (.const (.slice none 0 0)), none⟩]
@[reducible] def q48_4 : SCode := .region [⟨some 10, .move (.tmp 0), none⟩,
    ⟨some 11, .call { callee := .builtin .len, args := #[.tmp 10], argTypes := #[22] }, none⟩,
    ⟨some 12, .move (.const (.int .i64 0)), none⟩]
@[reducible] def q48_5 : SCode := .region [⟨some 13, .binOp .lss 3 (.tmp 12) (.tmp 11) 3, none⟩]
@[reducible] def q48_6 : SCode := .region [⟨some 14, .indexAddr 22 (.tmp 10) (.tmp 12), none⟩,
    ⟨some 15, .load 3 (.tmp 14), none⟩,
    ⟨some 6, .assign (.tmp 15), none⟩]
@[reducible] def q48_7 : SCode := .region [⟨some 16, .move (.tmp 4), none⟩,
    ⟨some 17, .move (.tmp 6), none⟩,
    ⟨some 18, .call { callee := .value (.func 73), args := #[.tmp 17], argTypes := #[3] }, none⟩,
    ⟨some 19, .buildSlice 22 1 #[(0, .tmp 18)], none⟩,
    ⟨some 20, .call { callee := .builtin .append, args := #[.tmp 16, .tmp 19], argTypes := #[22, 22] }, none⟩,
    ⟨some 4, .assign (.tmp 20), none⟩]
@[reducible] def q48_8 : SCode := .region [⟨some 21, .binOp .add 3 (.tmp 12) (.const (.int .i64 1)) 3, none⟩,
    ⟨some 12, .move (.tmp 21), none⟩]
def l48_0 : SCode := (.seq q48_5 (.seq (.cond (.tmp 13) .skip (.exit 0)) (.seq (.block 1 (.seq q48_6 q48_7)) q48_8)))
@[reducible] def q48_9 : SCode := .region [⟨some 22, .move (.tmp 4), none⟩,
    ⟨some 23, .call { callee := .value (.func 81), args := #[.tmp 22], argTypes := #[22] }, none⟩]
@[reducible] def q48_10 : SCode := .region [⟨some 24, .move (.tmp 4), none⟩,
    ⟨some 2, .assign (.tmp 24), none⟩,
    ⟨some 3, .assign (.const (.int .i64 0)), none⟩]
def s48 : SCode := (.seq q48_0 (.seq (.seq q48_1 (.cond (.tmp 9) (.seq q48_2 .ret) .skip)) (.seq q48_3 (.seq (.seq q48_4 (.block 0 (.loop l48_0))) (.seq q48_9 (.seq q48_10 .ret))))))
theorem s48_strip : stripC (bodyOf Tryd.f48) = s48 := by kernel_rfl
theorem s48_ok : codeOK 25 (bodyOf Tryd.f48) = true := by kernel_rfl
/-! 81: slices.Sort[[]int,int] -/
@[reducible] def q81_0 : SCode := .region [⟨some 3, .move (.tmp 0), none⟩,
    ⟨some 4, .call { callee := .builtin .len, args := #[.tmp 3], argTypes := #[22] }, none⟩,
    ⟨some 2, .assign (.tmp 4), none⟩]
@[reducible] def q81_1 : SCode := .region [⟨some 5, .move (.tmp 0), none⟩,
    ⟨some 6, .move (.tmp 2), none⟩,
    ⟨some 7, .move (.tmp 2), none⟩,
    ⟨some 8, .convert 3 53 (.tmp 7), none⟩,
    ⟨some 9, .call { callee := .value (.func 101), args := #[.tmp 8], argTypes := #[53] }, none⟩,
    ⟨some 10, .call { callee := .value (.func 100), args := #[.tmp 5, .const (.int .i64 0), .tmp 6, .tmp 9], argTypes := #[22, 3, 3, 3] }, none⟩]
def s81 : SCode := (.seq q81_0 q81_1)
theorem s81_strip : stripC (bodyOf Tryd.f81) = s81 := by kernel_rfl
theorem s81_ok : codeOK 11 (bodyOf Tryd.f81) = true := by kernel_rfl
/-! 100: slices.pdqsortOrdered[int] -/
@[reducible] def q100_0 : SCode := .region [⟨some 8, .assign (.const (.bool true)), none⟩]
@[reducible] def q100_1 : SCode := .region [⟨some 9, .assign (.const (.bool true)), none⟩]
@[reducible] def q100_2 : SCode := .region [⟨some 19, .move (.tmp 2), none⟩,
    ⟨some 20, .move (.tmp 1), none⟩,
    ⟨some 21, .binOp .sub 3 (.tmp 19) (.tmp 20) 3, none⟩,
    ⟨some 10, .assign (.tmp 21), none⟩]
@[reducible] def q100_3 : SCode := .region [⟨some 22, .move (.tmp 10), none⟩,
    ⟨some 23, .binOp .leq 3 (.tmp 22) (.const (.int .i64 12)) 3, none⟩]
@[reducible] def q100_4 : SCode := .region [⟨some 24, .move (.tmp 0), none⟩,
    ⟨some 25, .move (.tmp 1), none⟩,
    ⟨some 26, .move (.tmp 2), none⟩,
    ⟨some 27, .call { callee := .value (.func 110), args := #[.tmp 24, .tmp 25, .tmp 26], argTypes := #[22, 3, 3] }, none⟩]
@[reducible] def q100_5 : SCode := .region [⟨some 28, .move (.tmp 3), none⟩,
    ⟨some 29, .binOp .eql 3 (.tmp 28) (.const (.int .i64 0)) 3, none⟩]
@[reducible] def q100_6 : SCode := .region [⟨some 30, .move (.tmp 0), none⟩,
    ⟨some 31, .move (.tmp 1), none⟩,
    ⟨some 32, .move (.tmp 2), none⟩,
    ⟨some 33, .call { callee := .value (.func 111), args := #[.tmp 30, .tmp 31, .tmp 32], argTypes := #[22, 3, 3] }, none⟩]
@[reducible] def q100_7 : SCode := .region [⟨some 34, .move (.tmp 8), none⟩,
    ⟨some 35, .unOp .not 4 (.tmp 34), none⟩]
@[reducible] def q100_8 : SCode := .region [⟨some 36, .move (.tmp 0), none⟩,
    ⟨some 37, .move (.tmp 1), none⟩,
    ⟨some 38, .move (.tmp 2), none⟩,
    ⟨some 39, .call { callee := .value (.func 112), args := #[.tmp 36, .tmp 37, .tmp 38], argTypes := #[22, 3, 3] }, none⟩]
@[reducible] def q100_9 : SCode := .region [⟨some 40, .move (.tmp 3), none⟩,
    ⟨some 41, .binOp .sub 3 (.tmp 40) (.const (.int .i64 1)) 3, none⟩,
    ⟨some 3, .assign (.tmp 41), none⟩]
@[reducible] def q100_10 : SCode := .region [⟨some 43, .move (.tmp 0), none⟩,
    ⟨some 44, .move (.tmp 1), none⟩,
    ⟨some 45, .move (.tmp 2), none⟩,
    ⟨some 46, .call { callee := .value (.func 113), args := #[.tmp 43, .tmp 44, .tmp 45], argTypes := #[22, 3, 3] }, none⟩,
    ⟨some 42, .move (.tmp 46), none⟩,
    ⟨some 47, .extract (.tmp 42) 0, none⟩,
    ⟨some 48, .extract (.tmp 42) 1, none⟩,
    ⟨some 11, .assign (.tmp 47), none⟩,
    ⟨some 12, .assign (.tmp 48), none⟩]
@[reducible] def q100_11 : SCode := .region [⟨some 49, .move (.tmp 12), none⟩,
    ⟨some 50, .binOp .eql 91 (.tmp 49) (.const (.int .i64 2)) 91, none⟩]
@[reducible] def q100_12 : SCode := .region [⟨some 51, .move (.tmp 0), none⟩,
    ⟨some 52, .move (.tmp 1), none⟩,
    ⟨some 53, .move (.tmp 2), none⟩,
    ⟨some 54, .call { callee := .value (.func 114), args := #[.tmp 51, .tmp 52, .tmp 53], argTypes := #[22, 3, 3] }, none⟩]
@[reducible] def q100_13 : SCode := .region [⟨some 55, .move (.tmp 2), none⟩,
    ⟨some 56, .binOp .sub 3 (.tmp 55) (.const (.int .i64 1)) 3, none⟩,
    ⟨some 57, .move (.tmp 11), none⟩,
    ⟨some 58, .move (.tmp 1), none⟩,
    ⟨some 59, .binOp .sub 3 (.tmp 57) (.tmp 58) 3, none⟩,
    ⟨some 60, .binOp .sub 3 (.tmp 56) (.tmp 59) 3, none⟩,
    ⟨some 11, .assign (.tmp 60), none⟩]
@[reducible] def q100_14 : SCode := .region [⟨some 12, .assign (.const (.int .i64 1)), none⟩]
@[reducible] def q100_15 : SCode := .region [⟨some 61, .move (.tmp 8), none⟩,
    ⟨some 62, .move (.tmp 61), none⟩,
    ⟨some 63, .move (.tmp 9), some (62, true)⟩,
    ⟨some 64, .pick (.tmp 62) (.tmp 63) (.const (.bool false)), none⟩,
    ⟨some 65, .move (.tmp 64), none⟩,
    ⟨some 66, .move (.tmp 12), some (65, true)⟩,
    ⟨some 67, .binOp .eql 91 (.tmp 66) (.const (.int .i64 1)) 91, some (65, true)⟩,
    ⟨some 68, .pick (.tmp 65) (.tmp 67) (.const (.bool false)), none⟩]
@[reducible] def q100_16 : SCode := .region [⟨some 69, .move (.tmp 0), none⟩,
    ⟨some 70, .move (.tmp 1), none⟩,
    ⟨some 71, .move (.tmp 2), none⟩,
    ⟨some 72, .call { callee := .value (.func 115), args := #[.tmp 69, .tmp 70, .tmp 71], argTypes := #[22, 3, 3] }, none⟩]
def q100_17 : SCode := .draw [⟨some 73, .move (.tmp 1), none⟩,
    ⟨some 74, .binOp .gtr 3 (.tmp 73) (.const (.int .i64 0)) 3, none⟩,
    ⟨some 75, .move (.tmp 74), none⟩,
    ⟨some 76, .move (.tmp 0), some (75, true)⟩,
    ⟨some 77, .move (.tmp 1), some (75, true)⟩,
    ⟨some 78, .binOp .sub 3 (.tmp 77) (.const (.int .i64 1)) 3, some (75, true)⟩,
    ⟨some 79, .indexAddr 22 (.tmp 76) (.tmp 78), some (75, true)⟩,
    ⟨some 80, .load 3 (.tmp 79), some (75, true)⟩,
    ⟨some 81, .move (.tmp 0), some (75, true)⟩,
    ⟨some 82, .move (.tmp 11), some (75, true)⟩,
    ⟨some 83, .indexAddr 22 (.tmp 81) (.tmp 82), some (75, true)⟩,
    ⟨some 84, .load 3 (.tmp 83), some (75, true)⟩,
    ⟨some 85, .call { callee := .value (.func 103), args := #[.tmp 80, .tmp 84], argTypes := #[3, 3] }, some (75, true)⟩,
    ⟨some 86, .unOp .not 4 (.tmp 85), some (75, true)⟩,
    ⟨some 87, .pick (.tmp 75) (.tmp 86) (.const (.bool false)), none⟩]
   [[], [0], [1], [2], [2], [4, 2], [3, 5, 2], [6, 2], [2], [2], [8, 9, 2], [10, 2], [7, 11, 2, 2], [12, 2], [2, 13]]
@[reducible] def q100_18 : SCode := .region [⟨some 88, .move (.tmp 0), none⟩,
    ⟨some 89, .move (.tmp 1), none⟩,
    ⟨some 90, .move (.tmp 2), none⟩,
    ⟨some 91, .move (.tmp 11), none⟩,
    ⟨some 92, .call { callee := .value (.func 116), args := #[.tmp 88, .tmp 89, .tmp 90, .tmp 91], argTypes := #[22, 3, 3, 3] }, none⟩,
    ⟨some 13, .assign (.tmp 92), none⟩]
@[reducible] def q100_19 : SCode := .region [⟨some 93, .move (.tmp 13), none⟩,
    ⟨some 1, .assign (.tmp 93), none⟩]
@[reducible] def q100_20 : SCode := .region [⟨some 95, .move (.tmp 0), none⟩,
    ⟨some 96, .move (.tmp 1), none⟩,
    ⟨some 97, .move (.tmp 2), none⟩,
    ⟨some 98, .move (.tmp 11), none⟩,
    ⟨some 99, .call { callee := .value (.func 117), args := #[.tmp 95, .tmp 96, .tmp 97, .tmp 98], argTypes := #[22, 3, 3, 3] }, none⟩,
    ⟨some 94, .move (.tmp 99), none⟩,
    ⟨some 100, .extract (.tmp 94) 0, none⟩,
    ⟨some 101, .extract (.tmp 94) 1, none⟩,
    ⟨some 14, .assign (.tmp 100), none⟩,
    ⟨some 15, .assign (.tmp 101), none⟩]
@[reducible] def q100_21 : SCode := .region [⟨some 102, .move (.tmp 15), none⟩,
    ⟨some 9, .assign (.tmp 102), none⟩]
@[reducible] def q100_22 : SCode := .region [⟨some 103, .move (.tmp 14), none⟩,
    ⟨some 104, .move (.tmp 1), none⟩,
    ⟨some 105, .binOp .sub 3 (.tmp 103) (.tmp 104) 3, none⟩,
    ⟨some 106, .move (.tmp 2), none⟩,
    ⟨some 107, .move (.tmp 14), none⟩,
    ⟨some 108, .binOp .sub 3 (.tmp 106) (.tmp 107) 3, none⟩,
    ⟨some 16, .assign (.tmp 105), none⟩,
    ⟨some 17, .assign (.tmp 108), none⟩]
@[reducible] def q100_23 : SCode := .region [⟨some 109, .move (.tmp 10), none⟩,
    ⟨some 110, .binOp .quo 3 (.tmp 109) (.const (.int .i64 8)) 3, none⟩,
    ⟨some 18, .assign (.tmp 110), none⟩]
@[reducible] def q100_24 : SCode := .region [⟨some 111, .move (.tmp 16), none⟩,
    ⟨some 112, .move (.tmp 17), none⟩,
    ⟨some 113, .binOp .lss 3 (.tmp 111) (.tmp 112) 3, none⟩]
@[reducible] def q100_25 : SCode := .region [⟨some 114, .move (.tmp 16), none⟩,
    ⟨some 115, .move (.tmp 18), none⟩,
    ⟨some 116, .binOp .geq 3 (.tmp 114) (.tmp 115) 3, none⟩,
    ⟨some 8, .assign (.tmp 116), none⟩]
@[reducible] def q100_26 : SCode := .region [⟨some 117, .move (.tmp 0), none⟩,
    ⟨some 118, .move (.tmp 1), none⟩,
    ⟨some 119, .move (.tmp 14), none⟩,
    ⟨some 120, .move (.tmp 3), none⟩,
    ⟨some 121, .call { callee := .value (.func 100), args := #[.tmp 117, .tmp 118, .tmp 119, .tmp 120], argTypes := #[22, 3, 3, 3] }, none⟩]
@[reducible] def q100_27 : SCode := .region [⟨some 122, .move (.tmp 14), none⟩,
    ⟨some 123, .binOp .add 3 (.tmp 122) (.const (.int .i64 1)) 3, none⟩,
    ⟨some 1, .assign (.tmp 123), none⟩]
@[reducible] def q100_28 : SCode := .region [⟨some 124, .move (.tmp 17), none⟩,
    ⟨some 125, .move (.tmp 18), none⟩,
    ⟨some 126, .binOp .geq 3 (.tmp 124) (.tmp 125) 3, none⟩,
    ⟨some 8, .assign (.tmp 126), none⟩]
@[reducible] def q100_29 : SCode := .region [⟨some 127, .move (.tmp 0), none⟩,
    ⟨some 128, .move (.tmp 14), none⟩,
    ⟨some 129, .binOp .add 3 (.tmp 128) (.const (.int .i64 1)) 3, none⟩,
    ⟨some 130, .move (.tmp 2), none⟩,
    ⟨some 131, .move (.tmp 3), none⟩,
    ⟨some 132, .call { callee := .value (.func 100), args := #[.tmp 127, .tmp 129, .tmp 130, .tmp 131], argTypes := #[22, 3, 3, 3] }, none⟩]
@[reducible] def q100_30 : SCode := .region [⟨some 133, .move (.tmp 14), none⟩,
    ⟨some 2, .assign (.tmp 133), none⟩]
def l100_0 : SCode := (.block 1 (.seq q100_2 (.seq (.seq q100_3 (.cond (.tmp 23) (.seq q100_4 .ret) .skip)) (.seq (.seq q100_5 (.cond (.tmp 29) (.seq q100_6 .ret) .skip)) (.seq (.seq q100_7 (.cond (.tmp 35) (.seq q100_8 q100_9) .skip)) (.seq q100_10 (.seq (.seq q100_11 (.cond (.tmp 50) (.seq q100_12 (.seq q100_13 q100_14)) .skip)) (.seq (.seq q100_15 (.cond (.tmp 68) (.seq q100_16 (.cond (.tmp 72) .ret .skip)) .skip)) (.seq (.seq q100_17 (.cond (.tmp 87) (.seq q100_18 (.seq q100_19 (.exit 1))) .skip)) (.seq q100_20 (.seq q100_21 (.seq q100_22 (.seq q100_23 (.seq q100_24 (.cond (.tmp 113) (.seq q100_25 (.seq q100_26 q100_27)) (.seq q100_28 (.seq q100_29 q100_30)))))))))))))))))
def s100 : SCode := (.seq q100_0 (.seq q100_1 (.block 0 (.loop l100_0))))
theorem s100_strip : stripC (bodyOf Tryd.f100) = s100 := by kernel_rfl
theorem s100_ok : codeOK 134 (bodyOf Tryd.f100) = true := by kernel_rfl
/-! 101: math bits.Len -/
@[reducible] def q101_0 : SCode := .region [⟨some 2, .assign (.const (.int .i64 0)), none⟩]
@[reducible] def q101_1 : SCode := .region [⟨some 3, .move (.tmp 0), none⟩,
    ⟨some 4, .convert 53 87 (.tmp 3), none⟩,
    ⟨some 5, .call { callee := .value (.func 118), args := #[.tmp 4], argTypes := #[87] }, none⟩,
    ⟨some 2, .assign (.tmp 5), none⟩]
@[reducible] def q101_2 : SCode := .region [⟨some 6, .move (.tmp 0), none⟩,
    ⟨some 7, .call { callee := .value (.func 119), args := #[.tmp 6], argTypes := #[89] }, none⟩,
    ⟨some 2, .assign (.tmp 7), none⟩]
def s101 : SCode := (.seq q101_0 (.seq (.cond (.const (.bool false)) (.seq q101_1 .ret) .skip) (.seq q101_2 .ret)))
theorem s101_strip : stripC (bodyOf Tryd.f101) = s101 := by kernel_rfl
theorem s101_ok : codeOK 8 (bodyOf Tryd.f101) = true := by kernel_rfl
/-! 103: cmp.Less[int] -/
@[reducible] def q103_0 : SCode := .region [⟨some 4, .assign (.const (.bool false)), none⟩]
@[reducible] def q103_1 : SCode := .region [⟨some 5, .move (.tmp 0), none⟩,
    ⟨some 6, .call { callee := .value (.func 99), args := #[.tmp 5], argTypes := #[3] }, none⟩,
    ⟨some 7, .move (.tmp 6), none⟩,
    ⟨some 8, .move (.tmp 1), some (7, true)⟩,
    ⟨some 9, .call { callee := .value (.func 99), args := #[.tmp 8], argTypes := #[3] }, some (7, true)⟩,
    ⟨some 10, .unOp .not 4 (.tmp 9), some (7, true)⟩,
    ⟨some 11, .pick (.tmp 7) (.tmp 10) (.const (.bool false)), none⟩,
    ⟨some 12, .move (.tmp 11), none⟩,
    ⟨some 13, .move (.tmp 0), some (12, false)⟩,
    ⟨some 14, .move (.tmp 1), some (12, false)⟩,
    ⟨some 15, .binOp .lss 3 (.tmp 13) (.tmp 14) 3, some (12, false)⟩,
    ⟨some 16, .pick (.tmp 12) (.const (.bool true)) (.tmp 15), none⟩,
    ⟨some 4, .assign (.tmp 16), none⟩]
def s103 : SCode := (.seq q103_0 (.seq q103_1 .ret))
theorem s103_strip : stripC (bodyOf Tryd.f103) = s103 := by kernel_rfl
theorem s103_ok : codeOK 17 (bodyOf Tryd.f103) = true := by kernel_rfl
/-! 110: slices.insertionSortOrdered[int] -/
@[reducible] def q110_0 : SCode := .region [⟨some 8, .move (.tmp 1), none⟩,
    ⟨some 9, .binOp .add 3 (.tmp 8) (.const (.int .i64 1)) 3, none⟩,
    ⟨some 6, .assign (.tmp 9), none⟩]
@[reducible] def q110_1 : SCode := .region [⟨some 10, .move (.tmp 6), none⟩,
    ⟨some 11, .move (.tmp 2), none⟩,
    ⟨some 12, .binOp .lss 3 (.tmp 10) (.tmp 11) 3, none⟩]
@[reducible] def q110_3 : SCode := .region [⟨some 15, .move (.tmp 6), none⟩,
    ⟨some 7, .assign (.tmp 15), none⟩]
def q110_4 : SCode := .draw [⟨some 16, .move (.tmp 7), none⟩,
    ⟨some 17, .move (.tmp 1), none⟩,
    ⟨some 18, .binOp .gtr 3 (.tmp 16) (.tmp 17) 3, none⟩,
    ⟨some 19, .move (.tmp 18), none⟩,
    ⟨some 20, .move (.tmp 0), some (19, true)⟩,
    ⟨some 21, .move (.tmp 7), some (19, true)⟩,
    ⟨some 22, .indexAddr 22 (.tmp 20) (.tmp 21), some (19, true)⟩,
    ⟨some 23, .load 3 (.tmp 22), some (19, true)⟩,
    ⟨some 24, .move (.tmp 0), some (19, true)⟩,
    ⟨some 25, .move (.tmp 7), some (19, true)⟩,
    ⟨some 26, .binOp .sub 3 (.tmp 25) (.const (.int .i64 1)) 3, some (19, true)⟩,
    ⟨some 27, .indexAddr 22 (.tmp 24) (.tmp 26), some (19, true)⟩,
    ⟨some 28, .load 3 (.tmp 27), some (19, true)⟩,
    ⟨some 29, .call { callee := .value (.func 103), args := #[.tmp 23, .tmp 28], argTypes := #[3, 3] }, some (19, true)⟩,
    ⟨some 30, .pick (.tmp 19) (.tmp 29) (.const (.bool false)), none⟩]
   [[], [], [0, 1], [2], [3], [3], [4, 5, 3], [6, 3], [3], [3], [9, 3], [8, 10, 3], [11, 3], [7, 12, 3, 3], [3, 13]]
def q110_6 : SCode := .draw [⟨some 33, .move (.tmp 0), none⟩,
    ⟨some 34, .move (.tmp 7), none⟩,
    ⟨some 35, .move (.tmp 0), none⟩,
    ⟨some 36, .move (.tmp 7), none⟩,
    ⟨some 37, .binOp .sub 3 (.tmp 36) (.const (.int .i64 1)) 3, none⟩,
    ⟨some 38, .move (.tmp 0), none⟩,
    ⟨some 39, .move (.tmp 7), none⟩,
    ⟨some 40, .binOp .sub 3 (.tmp 39) (.const (.int .i64 1)) 3, none⟩,
    ⟨some 41, .indexAddr 22 (.tmp 38) (.tmp 40), none⟩,
    ⟨some 42, .load 3 (.tmp 41), none⟩,
    ⟨some 43, .move (.tmp 0), none⟩,
    ⟨some 44, .move (.tmp 7), none⟩,
    ⟨some 45, .indexAddr 22 (.tmp 43) (.tmp 44), none⟩,
    ⟨some 46, .load 3 (.tmp 45), none⟩,
    ⟨some 47, .indexAddr 22 (.tmp 33) (.tmp 34), none⟩,
    ⟨none, .store 3 (.tmp 47) (.tmp 42), none⟩,
    ⟨some 48, .indexAddr 22 (.tmp 35) (.tmp 37), none⟩,
    ⟨none, .store 3 (.tmp 48) (.tmp 46), none⟩]
   [[], [], [], [], [3], [], [], [6], [5, 7], [8], [], [], [10, 11], [12], [0, 1, 0, 1, 5, 6, 7, 8, 9, 13], [14, 9, 0, 1, 5, 6, 7, 8, 9, 13], [2, 4, 0, 1, 2, 3, 4, 5, 6, 7, 8, 9, 10, 11, 12, 13, 14, 15], [16, 13, 15, 0, 1, 2, 3, 4, 5, 6, 7, 8, 9, 10, 11, 12, 13, 14, 15]]
@[reducible] def q110_5 : SCode := .region [⟨some 31, .move (.tmp 7), none⟩,
    ⟨some 32, .binOp .sub 3 (.tmp 31) (.const (.int .i64 1)) 3, none⟩,
    ⟨some 7, .assign (.tmp 32), none⟩]
def l110_0 : SCode := (.seq (.seq q110_4 (.cond (.tmp 30) .skip (.exit 2))) (.seq (.block 3 q110_6) q110_5))
@[reducible] def q110_2 : SCode := .region [⟨some 13, .move (.tmp 6), none⟩,
    ⟨some 14, .binOp .add 3 (.tmp 13) (.const (.int .i64 1)) 3, none⟩,
    ⟨some 6, .assign (.tmp 14), none⟩]
def l110_1 : SCode := (.seq (.seq q110_1 (.cond (.tmp 12) .skip (.exit 0))) (.seq (.block 1 (.seq q110_3 (.block 2 (.loop l110_0)))) q110_2))
def s110 : SCode := (.seq q110_0 (.block 0 (.loop l110_1)))
theorem s110_strip : stripC (bodyOf Tryd.f110) = s110 := by kernel_rfl
theorem s110_ok : codeOK 49 (bodyOf Tryd.f110) = true := by kernel_rfl
/-! 119: math bits.Len64 -/
@[reducible] def q119_0 : SCode := .region [⟨some 2, .assign (.const (.int .i64 0)), none⟩]
@[reducible] def q119_1 : SCode := .region [⟨some 3, .move (.tmp 0), none⟩,
    ⟨some 4, .binOp .geq 89 (.tmp 3) (.const (.int .u64 4294967296)) 89, none⟩]
@[reducible] def q119_2 : SCode := .region [⟨some 5, .move (.tmp 0), none⟩,
    ⟨some 6, .binOp .shr 89 (.tmp 5) (.const (.int .u64 32)) 53, none⟩,
    ⟨some 0, .assign (.tmp 6), none⟩]
@[reducible] def q119_3 : SCode := .region [⟨some 2, .assign (.const (.int .i64 32)), none⟩]
@[reducible] def q119_4 : SCode := .region [⟨some 7, .move (.tmp 0), none⟩,
    ⟨some 8, .binOp .geq 89 (.tmp 7) (.const (.int .u64 65536)) 89, none⟩]
@[reducible] def q119_5 : SCode := .region [⟨some 9, .move (.tmp 0), none⟩,
    ⟨some 10, .binOp .shr 89 (.tmp 9) (.const (.int .u64 16)) 53, none⟩,
    ⟨some 0, .assign (.tmp 10), none⟩]
@[reducible] def q119_6 : SCode := .region [⟨some 11, .move (.tmp 2), none⟩,
    ⟨some 12, .binOp .add 3 (.tmp 11) (.const (.int .i64 16)) 3, none⟩,
    ⟨some 2, .assign (.tmp 12), none⟩]
@[reducible] def q119_7 : SCode := .region [⟨some 13, .move (.tmp 0), none⟩,
    ⟨some 14, .binOp .geq 89 (.tmp 13) (.const (.int .u64 256)) 89, none⟩]
@[reducible] def q119_8 : SCode := .region [⟨some 15, .move (.tmp 0), none⟩,
    ⟨some 16, .binOp .shr 89 (.tmp 15) (.const (.int .u64 8)) 53, none⟩,
    ⟨some 0, .assign (.tmp 16), none⟩]
@[reducible] def q119_9 : SCode := .region [⟨some 17, .move (.tmp 2), none⟩,
    ⟨some 18, .binOp .add 3 (.tmp 17) (.const (.int .i64 8)) 3, none⟩,
    ⟨some 2, .assign (.tmp 18), none⟩]
@[reducible] def q119_10 : SCode := .region [⟨some 19, .move (.tmp 2), none⟩,
    ⟨some 20, .move (.tmp 0), none⟩,
    ⟨some 21, .convert 89 5 (.tmp 20), none⟩,
    ⟨some 22, .index 9 (.const (.string { data := #[0, 1, 2, 2, 3, 3, 3, 3, 4, 4, 4, 4, 4, 4, 4, 4, 5, 5, 5, 5, 5, 5, 5, 5, 5, 5, 5, 5, 5, 5, 5, 5, 6, 6, 6, 6, 6, 6, 6, 6, 6, 6, 6, 6, 6, 6, 6, 6, 6, 6, 6, 6, 6, 6, 6, 6, 6, 6, 6, 6, 6, 6, 6, 6, 7, 7, 7, 7, 7, 7, 7, 7, 7, 7, 7, 7, 7, 7, 7, 7, 7, 7, 7, 7, 7, 7, 7, 7, 7, 7, 7, 7, 7, 7, 7, 7, 7, 7, 7, 7, 7, 7, 7, 7, 7, 7, 7, 7, 7, 7, 7, 7, 7, 7, 7, 7, 7, 7, 7, 7, 7, 7, 7, 7, 7, 7, 7, 7, 8, 8, 8, 8, 8, 8, 8, 8, 8, 8, 8, 8, 8, 8, 8, 8, 8, 8, 8, 8, 8, 8, 8, 8, 8, 8, 8, 8, 8, 8, 8, 8, 8, 8, 8, 8, 8, 8, 8, 8, 8, 8, 8, 8, 8, 8, 8, 8, 8, 8, 8, 8, 8, 8, 8, 8, 8, 8, 8, 8, 8, 8, 8, 8, 8, 8, 8, 8, 8, 8, 8, 8, 8, 8, 8, 8, 8, 8, 8, 8, 8, 8, 8, 8, 8, 8, 8, 8, 8, 8, 8, 8, 8, 8, 8, 8, 8, 8, 8, 8, 8, 8, 8, 8, 8, 8, 8, 8, 8, 8, 8, 8, 8, 8, 8, 8, 8, 8, 8, 8, 8, 8, 8, 8, 8, 8, 8, 8] })) (.tmp 21), none⟩,
    ⟨some 23, .convert 5 3 (.tmp 22), none⟩,
    ⟨some 24, .binOp .add 3 (.tmp 19) (.tmp 23) 3, none⟩,
    ⟨some 2, .assign (.tmp 24), none⟩]
def s119 : SCode := (.seq q119_0 (.seq (.seq q119_1 (.cond (.tmp 4) (.seq q119_2 q119_3) .skip)) (.seq (.seq q119_4 (.cond (.tmp 8) (.seq q119_5 q119_6) .skip)) (.seq (.seq q119_7 (.cond (.tmp 14) (.seq q119_8 q119_9) .skip)) (.seq q119_10 .ret)))))
theorem s119_strip : stripC (bodyOf Tryd.f119) = s119 := by kernel_rfl
theorem s119_ok : codeOK 25 (bodyOf Tryd.f119) = true := by kernel_rfl
end Go.Proofs.Tryd.Am

namespace Go.Proofs.Tryd.Am
open Go.Am
set_option maxRecDepth 100000
/-! 52: planchet ranks.Make -/
@[reducible] def q52_0 : SCode := .region [⟨some 2, .assign (.const (.slice none 0 0)), none⟩,
    ⟨some 3, .assign (.const (.int .i64 0)), none⟩]
@[reducible] def q52_1 : SCode := .region [⟨some 11, .move (.tmp 0), none⟩,
    ⟨some 12, .call { callee := .builtin .len, args := #[.tmp 11], argTypes := #[22] }, none⟩,
    ⟨some 13, .binOp .lss 3 (.tmp 12) (.const (.int .i64 1)) 3, none⟩,
    ⟨some 14, .move (.tmp 13), none⟩,
    ⟨some 15, .move (.tmp 0), some (14, false)⟩,
    ⟨some 16, .call { callee := .builtin .len, args := #[.tmp 15], argTypes := #[22] }, some (14, false)⟩,
    ⟨some 17, .binOp .gtr 3 (.tmp 16) (.const (.int .i64 8)) 3, some (14, false)⟩,
    ⟨some 18, .pick (.tmp 14) (.const (.bool true)) (.tmp 17), none⟩,
    ⟨some 19, .move (.tmp 18), none⟩,
    ⟨some 20, .move (.tmp 0), some (19, false)⟩,
    ⟨some 21, .call { callee := .value (.func 86), args := #[.tmp 20], argTypes := #[22] }, some (19, false)⟩,
    ⟨some 22, .unOp .not 4 (.tmp 21), some (19, false)⟩,
    ⟨some 23, .pick (.tmp 19) (.const (.bool true)) (.tmp 22), none⟩,
    ⟨some 24, .move (.tmp 23), none⟩,
    ⟨some 25, .move (.tmp 0), some (24, false)⟩,
    ⟨some 26, .indexAddr 22 (.tmp 25) (.const (.int .i64 0)), some (24, false)⟩,
    ⟨some 27, .load 3 (.tmp 26), some (24, false)⟩,
    ⟨some 28, .binOp .lss 3 (.tmp 27) (.const (.int .i64 0)) 3, some (24, false)⟩,
    ⟨some 29, .pick (.tmp 24) (.const (.bool true)) (.tmp 28), none⟩,
    ⟨some 30, .move (.tmp 29), none⟩,
    ⟨some 31, .move (.tmp 0), some (30, false)⟩,
    ⟨some 32, .move (.tmp 0), some (30, false)⟩,
    ⟨some 33, .call { callee := .builtin .len, args := #[.tmp 32], argTypes := #[22] }, some (30, false)⟩,
    ⟨some 34, .binOp .sub 3 (.tmp 33) (.const (.int .i64 1)) 3, some (30, false)⟩,
    ⟨some 35, .indexAddr 22 (.tmp 31) (.tmp 34), some (30, false)⟩,
    ⟨some 36, .load 3 (.tmp 35), some (30, false)⟩,
    ⟨some 37, .binOp .gtr 3 (.tmp 36) (.const (.int .i64 7)) 3, some (30, false)⟩,
    ⟨some 38, .pick (.tmp 30) (.const (.bool true)) (.tmp 37), none⟩]
@[reducible] def q52_2 : SCode := .region [⟨some 2, .assign (.const (.slice none 0 0)), none⟩,
    ⟨some 3, .assign (.const (.int .i64 2)), none⟩]
@[reducible] def q52_3 : SCode := .region [⟨some 39, .move (.tmp 0), none⟩,
    ⟨some 40, .call { callee := .value (.func 46), args := #[.tmp 39], argTypes := #[22] }, none⟩,
    ⟨some 4, .alloc 22, none⟩,
    ⟨none, .store 22 (.tmp 4) (.tmp 40), none⟩]
@[reducible] def q52_4 : SCode := .region [⟨some 41, .move (.tmp 0), none⟩,
    ⟨some 42, .call { callee := .builtin .len, args := #[.tmp 41], argTypes := #[22] }, none⟩,
    ⟨some 43, .makeSlice 55 (.tmp 42) (.tmp 42), none⟩,
    ⟨some 5, .assign (.tmp 43), none⟩]
@[reducible] def q52_5 : SCode := .region [⟨some 6, .assign (.const (.slice none 0 0)), none⟩]
@[reducible] def q52_6 : SCode := .region [⟨some 44, .move (.tmp 0), none⟩,
    ⟨some 45, .call { callee := .builtin .len, args := #[.tmp 44], argTypes := #[22] }, none⟩,
    ⟨some 46, .move (.const (.int .i64 0)), none⟩]
@[reducible] def q52_7 : SCode := .region [⟨some 47, .binOp .lss 3 (.tmp 46) (.tmp 45) 3, none⟩]
@[reducible] def q52_8 : SCode := .region [⟨some 48, .move (.tmp 46), none⟩,
    ⟨some 7, .assign (.tmp 48), none⟩]
@[reducible] def q52_9 : SCode := .region [⟨some 49, .move (.tmp 6), none⟩,
    ⟨some 50, .move (.tmp 7), none⟩,
    ⟨some 51, .buildSlice 22 1 #[(0, .tmp 50)], none⟩,
    ⟨some 52, .call { callee := .builtin .append, args := #[.tmp 49, .tmp 51], argTypes := #[22, 22] }, none⟩,
    ⟨some 6, .assign (.tmp 52), none⟩]
@[reducible] def q52_10 : SCode := .region [⟨some 53, .binOp .add 3 (.tmp 46) (.const (.int .i64 1)) 3, none⟩,
    ⟨some 46, .move (.tmp 53), none⟩]
def l52_0 : SCode := (.seq q52_7 (.seq (.cond (.tmp 47) .skip (.exit 0)) (.seq (.block 1 (.seq q52_8 q52_9)) q52_10)))
@[reducible] def q52_11 : SCode := .region [⟨some 54, .move (.tmp 6), none⟩,
    ⟨some 55, .call { callee := .builtin .len, args := #[.tmp 54], argTypes := #[22] }, none⟩,
    ⟨some 56, .binOp .gtr 3 (.tmp 55) (.const (.int .i64 0)) 3, none⟩]
@[reducible] def q52_12 : SCode := .region [⟨some 57, .move (.tmp 6), none⟩,
    ⟨some 58, .makeFunc (.func 88) #[] #[.tmp 4], none⟩,
    ⟨some 59, .call { callee := .value (.func 87), args := #[.tmp 57, .tmp 58], argTypes := #[22, 69] }, none⟩]
@[reducible] def q52_13 : SCode := .region [⟨some 60, .move (.tmp 6), none⟩,
    ⟨some 61, .move (.tmp 6), none⟩,
    ⟨some 62, .call { callee := .builtin .len, args := #[.tmp 61], argTypes := #[22] }, none⟩,
    ⟨some 63, .binOp .sub 3 (.tmp 62) (.const (.int .i64 1)) 3, none⟩,
    ⟨some 64, .indexAddr 22 (.tmp 60) (.tmp 63), none⟩,
    ⟨some 65, .load 3 (.tmp 64), none⟩,
    ⟨some 8, .assign (.tmp 65), none⟩]
@[reducible] def q52_14 : SCode := .region [⟨some 66, .move (.tmp 6), none⟩,
    ⟨some 67, .move (.tmp 6), none⟩,
    ⟨some 68, .call { callee := .builtin .len, args := #[.tmp 67], argTypes := #[22] }, none⟩,
    ⟨some 69, .binOp .sub 3 (.tmp 68) (.const (.int .i64 1)) 3, none⟩,
    ⟨some 70, .slice 22 (.tmp 66) none (some (.tmp 69)) none, none⟩,
    ⟨some 6, .assign (.tmp 70), none⟩]
@[reducible] def q52_15 : SCode := .region [⟨some 71, .load 22 (.tmp 4), none⟩,
    ⟨some 72, .move (.tmp 8), none⟩,
    ⟨some 73, .indexAddr 22 (.tmp 71) (.tmp 72), none⟩,
    ⟨some 74, .load 3 (.tmp 73), none⟩,
    ⟨some 75, .binOp .lss 3 (.tmp 74) (.const (.int .i64 0)) 3, none⟩,
    ⟨some 76, .move (.tmp 75), none⟩,
    ⟨some 77, .load 22 (.tmp 4), some (76, false)⟩,
    ⟨some 78, .move (.tmp 8), some (76, false)⟩,
    ⟨some 79, .indexAddr 22 (.tmp 77) (.tmp 78), some (76, false)⟩,
    ⟨some 80, .load 3 (.tmp 79), some (76, false)⟩,
    ⟨some 81, .move (.tmp 6), some (76, false)⟩,
    ⟨some 82, .call { callee := .builtin .len, args := #[.tmp 81], argTypes := #[22] }, some (76, false)⟩,
    ⟨some 83, .binOp .gtr 3 (.tmp 80) (.tmp 82) 3, some (76, false)⟩,
    ⟨some 84, .pick (.tmp 76) (.const (.bool true)) (.tmp 83), none⟩]
@[reducible] def q52_16 : SCode := .region [⟨some 2, .assign (.const (.slice none 0 0)), none⟩,
    ⟨some 3, .assign (.const (.int .i64 4)), none⟩]
@[reducible] def q52_17 : SCode := .region [⟨some 85, .move (.tmp 6), none⟩,
    ⟨some 86, .call { callee := .builtin .len, args := #[.tmp 85], argTypes := #[22] }, none⟩,
    ⟨some 87, .move (.const (.int .i64 0)), none⟩]
@[reducible] def q52_18 : SCode := .region [⟨some 88, .binOp .lss 3 (.tmp 87) (.tmp 86) 3, none⟩]
@[reducible] def q52_19 : SCode := .region [⟨some 89, .move (.tmp 87), none⟩,
    ⟨some 90, .indexAddr 22 (.tmp 85) (.tmp 87), none⟩,
    ⟨some 91, .load 3 (.tmp 90), none⟩,
    ⟨some 9, .assign (.tmp 89), none⟩,
    ⟨some 10, .assign (.tmp 91), none⟩]
@[reducible] def q52_20 : SCode := .region [⟨some 92, .move (.tmp 9), none⟩,
    ⟨some 93, .load 22 (.tmp 4), none⟩,
    ⟨some 94, .move (.tmp 8), none⟩,
    ⟨some 95, .indexAddr 22 (.tmp 93) (.tmp 94), none⟩,
    ⟨some 96, .load 3 (.tmp 95), none⟩,
    ⟨some 97, .binOp .lss 3 (.tmp 92) (.tmp 96) 3, none⟩]
def q52_21 : SCode := .draw [⟨some 98, .move (.tmp 5), none⟩,
    ⟨some 99, .move (.tmp 8), none⟩,
    ⟨some 100, .indexAddr 55 (.tmp 98) (.tmp 99), none⟩,
    ⟨some 101, .load 3 (.tmp 100), none⟩,
    ⟨some 102, .move (.tmp 10), none⟩,
    ⟨some 103, .binOp .shl 3 (.const (.int .i64 1)) (.tmp 102) 3, none⟩,
    ⟨some 104, .binOp .or 3 (.tmp 101) (.tmp 103) 3, none⟩,
    ⟨some 105, .indexAddr 55 (.tmp 98) (.tmp 99), none⟩,
    ⟨none, .store 3 (.tmp 105) (.tmp 104), none⟩]
   [[], [], [0, 1], [2], [], [4], [3, 5], [0, 1, 0, 1, 2, 3, 4, 5, 6], [7, 6, 0, 1, 2, 3, 4, 5, 6]]
def q52_22 : SCode := .draw [⟨some 106, .move (.tmp 5), none⟩,
    ⟨some 107, .move (.tmp 10), none⟩,
    ⟨some 108, .indexAddr 55 (.tmp 106) (.tmp 107), none⟩,
    ⟨some 109, .load 3 (.tmp 108), none⟩,
    ⟨some 110, .move (.tmp 8), none⟩,
    ⟨some 111, .binOp .shl 3 (.const (.int .i64 1)) (.tmp 110) 3, none⟩,
    ⟨some 112, .binOp .or 3 (.tmp 109) (.tmp 111) 3, none⟩,
    ⟨some 113, .indexAddr 55 (.tmp 106) (.tmp 107), none⟩,
    ⟨none, .store 3 (.tmp 113) (.tmp 112), none⟩]
   [[], [], [0, 1], [2], [], [4], [3, 5], [0, 1, 0, 1, 2, 3, 4, 5, 6], [7, 6, 0, 1, 2, 3, 4, 5, 6]]
@[reducible] def q52_23 : SCode := .region [⟨some 114, .load 22 (.tmp 4), none⟩,
    ⟨some 115, .move (.tmp 10), none⟩,
    ⟨some 116, .indexAddr 22 (.tmp 114) (.tmp 115), none⟩,
    ⟨some 117, .load 3 (.tmp 116), none⟩,
    ⟨some 118, .binOp .sub 3 (.tmp 117) (.const (.int .i64 1)) 3, none⟩,
    ⟨some 119, .indexAddr 22 (.tmp 114) (.tmp 115), none⟩,
    ⟨none, .store 3 (.tmp 119) (.tmp 118), none⟩]
@[reducible] def q52_24 : SCode := .region [⟨some 120, .binOp .add 3 (.tmp 87) (.const (.int .i64 1)) 3, none⟩,
    ⟨some 87, .move (.tmp 120), none⟩]
def l52_1 : SCode := (.seq q52_18 (.seq (.cond (.tmp 88) .skip (.exit 4)) (.seq (.block 5 (.seq q52_19 (.seq q52_20 (.cond (.tmp 97) q52_21 (.seq q52_22 q52_23))))) q52_24)))
def l52_2 : SCode := (.seq (.seq q52_11 (.cond (.tmp 56) .skip (.exit 2))) (.block 3 (.seq q52_12 (.seq q52_13 (.seq q52_14 (.seq (.seq q52_15 (.cond (.tmp 84) (.seq q52_16 .ret) .skip)) (.seq q52_17 (.block 4 (.loop l52_1)))))))))
@[reducible] def q52_25 : SCode := .region [⟨some 121, .move (.tmp 5), none⟩,
    ⟨some 122, .move (.tmp 0), none⟩,
    ⟨some 123, .call { callee := .value (.func 89), args := #[.tmp 121, .tmp 122, .func 90], argTypes := #[55, 22, 57] }, none⟩,
    ⟨some 124, .unOp .not 4 (.tmp 123), none⟩]
@[reducible] def q52_26 : SCode := .region [⟨some 2, .assign (.const (.slice none 0 0)), none⟩,
    ⟨some 3, .assign (.const (.int .i64 4)), none⟩]
@[reducible] def q52_27 : SCode := .region [⟨some 125, .move (.tmp 5), none⟩,
    ⟨some 2, .assign (.tmp 125), none⟩,
    ⟨some 3, .assign (.const (.int .i64 0)), none⟩]
def s52 : SCode := (.seq q52_0 (.seq (.seq q52_1 (.cond (.tmp 38) (.seq q52_2 .ret) .skip)) (.seq q52_3 (.seq q52_4 (.seq q52_5 (.seq (.seq q52_6 (.block 0 (.loop l52_0))) (.seq (.block 2 (.loop l52_2)) (.seq (.seq q52_25 (.cond (.tmp 124) (.seq q52_26 .ret) .skip)) (.seq q52_27 .ret)))))))))
theorem s52_strip : stripC (bodyOf Tryd.f52) = s52 := by kernel_rfl
theorem s52_ok : codeOK 126 (bodyOf Tryd.f52) = true := by kernel_rfl
/-! 86: slices.IsSorted[[]int,int] -/
@[reducible] def q86_0 : SCode := .region [⟨some 2, .assign (.const (.bool false)), none⟩]
@[reducible] def q86_1 : SCode := .region [⟨some 4, .move (.tmp 0), none⟩,
    ⟨some 5, .call { callee := .builtin .len, args := #[.tmp 4], argTypes := #[22] }, none⟩,
    ⟨some 6, .binOp .sub 3 (.tmp 5) (.const (.int .i64 1)) 3, none⟩,
    ⟨some 3, .assign (.tmp 6), none⟩]
@[reducible] def q86_2 : SCode := .region [⟨some 7, .move (.tmp 3), none⟩,
    ⟨some 8, .binOp .gtr 3 (.tmp 7) (.const (.int .i64 0)) 3, none⟩]
def q86_4 : SCode := .draw [⟨some 11, .move (.tmp 0), none⟩,
    ⟨some 12, .move (.tmp 3), none⟩,
    ⟨some 13, .indexAddr 22 (.tmp 11) (.tmp 12), none⟩,
    ⟨some 14, .load 3 (.tmp 13), none⟩,
    ⟨some 15, .move (.tmp 0), none⟩,
    ⟨some 16, .move (.tmp 3), none⟩,
    ⟨some 17, .binOp .sub 3 (.tmp 16) (.const (.int .i64 1)) 3, none⟩,
    ⟨some 18, .indexAddr 22 (.tmp 15) (.tmp 17), none⟩,
    ⟨some 19, .load 3 (.tmp 18), none⟩,
    ⟨some 20, .call { callee := .value (.func 103), args := #[.tmp 14, .tmp 19], argTypes := #[3, 3] }, none⟩]
   [[], [], [0, 1], [2], [], [], [5], [4, 6], [7], [3, 8]]
@[reducible] def q86_5 : SCode := .region [⟨some 2, .assign (.const (.bool false)), none⟩]
@[reducible] def q86_3 : SCode := .region [⟨some 9, .move (.tmp 3), none⟩,
    ⟨some 10, .binOp .sub 3 (.tmp 9) (.const (.int .i64 1)) 3, none⟩,
    ⟨some 3, .assign (.tmp 10), none⟩]
def l86_0 : SCode := (.seq (.seq q86_2 (.cond (.tmp 8) .skip (.exit 0))) (.seq (.block 1 (.seq q86_4 (.cond (.tmp 20) (.seq q86_5 .ret) .skip))) q86_3))
@[reducible] def q86_6 : SCode := .region [⟨some 2, .assign (.const (.bool true)), none⟩]
def s86 : SCode := (.seq q86_0 (.seq (.seq q86_1 (.block 0 (.loop l86_0))) (.seq q86_6 .ret)))
theorem s86_strip : stripC (bodyOf Tryd.f86) = s86 := by kernel_rfl
theorem s86_ok : codeOK 21 (bodyOf Tryd.f86) = true := by kernel_rfl
/-! 87: slices.SortStableFunc[[]int,int] -/
@[reducible] def q87_0 : SCode := .region [⟨some 4, .move (.tmp 0), none⟩,
    ⟨some 5, .move (.tmp 0), none⟩,
    ⟨some 6, .call { callee := .builtin .len, args := #[.tmp 5], argTypes := #[22] }, none⟩,
    ⟨some 7, .move (.tmp 1), none⟩,
    ⟨some 8, .call { callee := .value (.func 104), args := #[.tmp 4, .tmp 6, .tmp 7], argTypes := #[22, 3, 69] }, none⟩]
def s87 : SCode := q87_0
theorem s87_strip : stripC (bodyOf Tryd.f87) = s87 := by kernel_rfl
theorem s87_ok : codeOK 9 (bodyOf Tryd.f87) = true := by kernel_rfl
/-! 88: planchet ranks.Make$1 -/
@[reducible] def q88_0 : SCode := .region [⟨some 5, .assign (.const (.int .i64 0)), none⟩]
def q88_1 : SCode := .draw [⟨some 6, .load 22 (.tmp 2), none⟩,
    ⟨some 7, .move (.tmp 0), none⟩,
    ⟨some 8, .indexAddr 22 (.tmp 6) (.tmp 7), none⟩,
    ⟨some 9, .load 3 (.tmp 8), none⟩,
    ⟨some 10, .load 22 (.tmp 2), none⟩,
    ⟨some 11, .move (.tmp 1), none⟩,
    ⟨some 12, .indexAddr 22 (.tmp 10) (.tmp 11), none⟩,
    ⟨some 13, .load 3 (.tmp 12), none⟩,
    ⟨some 14, .binOp .sub 3 (.tmp 9) (.tmp 13) 3, none⟩,
    ⟨some 5, .assign (.tmp 14), none⟩]
   [[], [], [0, 1], [2], [], [], [4, 5], [6], [3, 7], [8, 0, 1, 2, 3, 4, 5, 6, 7, 8]]
def s88 : SCode := (.seq q88_0 (.seq q88_1 .ret))
theorem s88_strip : stripC (bodyOf Tryd.f88) = s88 := by kernel_rfl
theorem s88_ok : codeOK 15 (bodyOf Tryd.f88) = true := by kernel_rfl
/-! 89: slices.EqualFunc[planchet ranks.tournament,[]int,int,int] -/
@[reducible] def q89_0 : SCode := .region [⟨some 6, .assign (.const (.bool false)), none⟩]
@[reducible] def q89_1 : SCode := .region [⟨some 10, .move (.tmp 0), none⟩,
    ⟨some 11, .call { callee := .builtin .len, args := #[.tmp 10], argTypes := #[55] }, none⟩,
    ⟨some 12, .move (.tmp 1), none⟩,
    ⟨some 13, .call { callee := .builtin .len, args := #[.tmp 12], argTypes := #[22] }, none⟩,
    ⟨some 14, .binOp .neq 3 (.tmp 11) (.tmp 13) 3, none⟩]
@[reducible] def q89_2 : SCode := .region [⟨some 6, .assign (.const (.bool false)), none⟩]
@[reducible] def q89_3 : SCode := .region [⟨some 15, .move (.tmp 0), none⟩,
    ⟨some 16, .call { callee := .builtin .len, args := #[.tmp 15], argTypes := #[55] }, none⟩,
    ⟨some 17, .move (.const (.int .i64 0)), none⟩]
@[reducible] def q89_4 : SCode := .region [⟨some 18, .binOp .lss 3 (.tmp 17) (.tmp 16) 3, none⟩]
@[reducible] def q89_5 : SCode := .region [⟨some 19, .move (.tmp 17), none⟩,
    ⟨some 20, .indexAddr 55 (.tmp 15) (.tmp 17), none⟩,
    ⟨some 21, .load 3 (.tmp 20), none⟩,
    ⟨some 7, .assign (.tmp 19), none⟩,
    ⟨some 8, .assign (.tmp 21), none⟩]
@[reducible] def q89_6 : SCode := .region [⟨some 22, .move (.tmp 1), none⟩,
    ⟨some 23, .move (.tmp 7), none⟩,
    ⟨some 24, .indexAddr 22 (.tmp 22) (.tmp 23), none⟩,
    ⟨some 25, .load 3 (.tmp 24), none⟩,
    ⟨some 9, .assign (.tmp 25), none⟩]
@[reducible] def q89_7 : SCode := .region [⟨some 26, .move (.tmp 2), none⟩,
    ⟨some 27, .move (.tmp 8), none⟩,
    ⟨some 28, .move (.tmp 9), none⟩,
    ⟨some 29, .call { callee := .value (.tmp 26), args := #[.tmp 27, .tmp 28], argTypes := #[3, 3] }, none⟩,
    ⟨some 30, .unOp .not 4 (.tmp 29), none⟩]
@[reducible] def q89_8 : SCode := .region [⟨some 6, .assign (.const (.bool false)), none⟩]
@[reducible] def q89_9 : SCode := .region [⟨some 31, .binOp .add 3 (.tmp 17) (.const (.int .i64 1)) 3, none⟩,
    ⟨some 17, .move (.tmp 31), none⟩]
def l89_0 : SCode := (.seq q89_4 (.seq (.cond (.tmp 18) .skip (.exit 0)) (.seq (.block 1 (.seq q89_5 (.seq q89_6 (.seq q89_7 (.cond (.tmp 30) (.seq q89_8 .ret) .skip))))) q89_9)))
@[reducible] def q89_10 : SCode := .region [⟨some 6, .assign (.const (.bool true)), none⟩]
def s89 : SCode := (.seq q89_0 (.seq (.seq q89_1 (.cond (.tmp 14) (.seq q89_2 .ret) .skip)) (.seq (.seq q89_3 (.block 0 (.loop l89_0))) (.seq q89_10 .ret))))
theorem s89_strip : stripC (bodyOf Tryd.f89) = s89 := by kernel_rfl
theorem s89_ok : codeOK 32 (bodyOf Tryd.f89) = true := by kernel_rfl
/-! 90: planchet ranks.Make$2 -/
@[reducible] def q90_0 : SCode := .region [⟨some 4, .assign (.const (.bool false)), none⟩]
@[reducible] def q90_1 : SCode := .region [⟨some 5, .move (.tmp 0), none⟩,
    ⟨some 6, .call { callee := .value (.func 73), args := #[.tmp 5], argTypes := #[3] }, none⟩,
    ⟨some 7, .move (.tmp 1), none⟩,
    ⟨some 8, .binOp .eql 3 (.tmp 6) (.tmp 7) 3, none⟩,
    ⟨some 4, .assign (.tmp 8), none⟩]
def s90 : SCode := (.seq q90_0 (.seq q90_1 .ret))
theorem s90_strip : stripC (bodyOf Tryd.f90) = s90 := by kernel_rfl
theorem s90_ok : codeOK 9 (bodyOf Tryd.f90) = true := by kernel_rfl
/-! 104: slices.stableCmpFunc[int] -/
@[reducible] def q104_0 : SCode := .region [⟨some 6, .assign (.const (.int .i64 20)), none⟩]
@[reducible] def q104_1 : SCode := .region [⟨some 10, .move (.tmp 6), none⟩,
    ⟨some 7, .assign (.const (.int .i64 0)), none⟩,
    ⟨some 8, .assign (.tmp 10), none⟩]
@[reducible] def q104_2 : SCode := .region [⟨some 11, .move (.tmp 8), none⟩,
    ⟨some 12, .move (.tmp 1), none⟩,
    ⟨some 13, .binOp .leq 3 (.tmp 11) (.tmp 12) 3, none⟩]
@[reducible] def q104_3 : SCode := .region [⟨some 14, .move (.tmp 0), none⟩,
    ⟨some 15, .move (.tmp 7), none⟩,
    ⟨some 16, .move (.tmp 8), none⟩,
    ⟨some 17, .move (.tmp 2), none⟩,
    ⟨some 18, .call { callee := .value (.func 120), args := #[.tmp 14, .tmp 15, .tmp 16, .tmp 17], argTypes := #[22, 3, 3, 69] }, none⟩]
@[reducible] def q104_4 : SCode := .region [⟨some 19, .move (.tmp 8), none⟩,
    ⟨some 7, .assign (.tmp 19), none⟩]
@[reducible] def q104_5 : SCode := .region [⟨some 20, .move (.tmp 8), none⟩,
    ⟨some 21, .move (.tmp 6), none⟩,
    ⟨some 22, .binOp .add 3 (.tmp 20) (.tmp 21) 3, none⟩,
    ⟨some 8, .assign (.tmp 22), none⟩]
def l104_0 : SCode := (.seq (.seq q104_2 (.cond (.tmp 13) .skip (.exit 0))) (.block 1 (.seq q104_3 (.seq q104_4 q104_5))))
@[reducible] def q104_6 : SCode := .region [⟨some 23, .move (.tmp 0), none⟩,
    ⟨some 24, .move (.tmp 7), none⟩,
    ⟨some 25, .move (.tmp 1), none⟩,
    ⟨some 26, .move (.tmp 2), none⟩,
    ⟨some 27, .call { callee := .value (.func 120), args := #[.tmp 23, .tmp 24, .tmp 25, .tmp 26], argTypes := #[22, 3, 3, 69] }, none⟩]
@[reducible] def q104_7 : SCode := .region [⟨some 28, .move (.tmp 6), none⟩,
    ⟨some 29, .move (.tmp 1), none⟩,
    ⟨some 30, .binOp .lss 3 (.tmp 28) (.tmp 29) 3, none⟩]
@[reducible] def q104_8 : SCode := .region [⟨some 31, .move (.tmp 6), none⟩,
    ⟨some 32, .binOp .mul 3 (.const (.int .i64 2)) (.tmp 31) 3, none⟩,
    ⟨some 7, .assign (.const (.int .i64 0)), none⟩,
    ⟨some 8, .assign (.tmp 32), none⟩]
@[reducible] def q104_9 : SCode := .region [⟨some 33, .move (.tmp 8), none⟩,
    ⟨some 34, .move (.tmp 1), none⟩,
    ⟨some 35, .binOp .leq 3 (.tmp 33) (.tmp 34) 3, none⟩]
@[reducible] def q104_10 : SCode := .region [⟨some 36, .move (.tmp 0), none⟩,
    ⟨some 37, .move (.tmp 7), none⟩,
    ⟨some 38, .move (.tmp 7), none⟩,
    ⟨some 39, .move (.tmp 6), none⟩,
    ⟨some 40, .binOp .add 3 (.tmp 38) (.tmp 39) 3, none⟩,
    ⟨some 41, .move (.tmp 8), none⟩,
    ⟨some 42, .move (.tmp 2), none⟩,
    ⟨some 43, .call { callee := .value (.func 128), args := #[.tmp 36, .tmp 37, .tmp 40, .tmp 41, .tmp 42], argTypes := #[22, 3, 3, 3, 69] }, none⟩]
@[reducible] def q104_11 : SCode := .region [⟨some 44, .move (.tmp 8), none⟩,
    ⟨some 7, .assign (.tmp 44), none⟩]
@[reducible] def q104_12 : SCode := .region [⟨some 45, .move (.tmp 8), none⟩,
    ⟨some 46, .move (.tmp 6), none⟩,
    ⟨some 47, .binOp .mul 3 (.const (.int .i64 2)) (.tmp 46) 3, none⟩,
    ⟨some 48, .binOp .add 3 (.tmp 45) (.tmp 47) 3, none⟩,
    ⟨some 8, .assign (.tmp 48), none⟩]
def l104_1 : SCode := (.seq (.seq q104_9 (.cond (.tmp 35) .skip (.exit 4))) (.block 5 (.seq q104_10 (.seq q104_11 q104_12))))
@[reducible] def q104_13 : SCode := .region [⟨some 49, .move (.tmp 7), none⟩,
    ⟨some 50, .move (.tmp 6), none⟩,
    ⟨some 51, .binOp .add 3 (.tmp 49) (.tmp 50) 3, none⟩,
    ⟨some 9, .assign (.tmp 51), none⟩]
@[reducible] def q104_14 : SCode := .region [⟨some 52, .move (.tmp 9), none⟩,
    ⟨some 53, .move (.tmp 1), none⟩,
    ⟨some 54, .binOp .lss 3 (.tmp 52) (.tmp 53) 3, none⟩]
@[reducible] def q104_15 : SCode := .region [⟨some 55, .move (.tmp 0), none⟩,
    ⟨some 56, .move (.tmp 7), none⟩,
    ⟨some 57, .move (.tmp 9), none⟩,
    ⟨some 58, .move (.tmp 1), none⟩,
    ⟨some 59, .move (.tmp 2), none⟩,
    ⟨some 60, .call { callee := .value (.func 128), args := #[.tmp 55, .tmp 56, .tmp 57, .tmp 58, .tmp 59], argTypes := #[22, 3, 3, 3, 69] }, none⟩]
@[reducible] def q104_16 : SCode := .region [⟨some 61, .move (.tmp 6), none⟩,
    ⟨some 62, .binOp .mul 3 (.tmp 61) (.const (.int .i64 2)) 3, none⟩,
    ⟨some 6, .assign (.tmp 62), none⟩]
def l104_2 : SCode := (.seq (.seq q104_7 (.cond (.tmp 30) .skip (.exit 2))) (.block 3 (.seq q104_8 (.seq (.block 4 (.loop l104_1)) (.seq (.seq q104_13 (.seq q104_14 (.cond (.tmp 54) q104_15 .skip))) q104_16)))))
def s104 : SCode := (.seq q104_0 (.seq q104_1 (.seq (.block 0 (.loop l104_0)) (.seq q104_6 (.block 2 (.loop l104_2))))))
theorem s104_strip : stripC (bodyOf Tryd.f104) = s104 := by kernel_rfl
theorem s104_ok : codeOK 63 (bodyOf Tryd.f104) = true := by kernel_rfl
/-! 120: slices.insertionSortCmpFunc[int] -/
@[reducible] def q120_0 : SCode := .region [⟨some 10, .move (.tmp 1), none⟩,
    ⟨some 11, .binOp .add 3 (.tmp 10) (.const (.int .i64 1)) 3, none⟩,
    ⟨some 8, .assign (.tmp 11), none⟩]
@[reducible] def q120_1 : SCode := .region [⟨some 12, .move (.tmp 8), none⟩,
    ⟨some 13, .move (.tmp 2), none⟩,
    ⟨some 14, .binOp .lss 3 (.tmp 12) (.tmp 13) 3, none⟩]
@[reducible] def q120_3 : SCode := .region [⟨some 17, .move (.tmp 8), none⟩,
    ⟨some 9, .assign (.tmp 17), none⟩]
def q120_4 : SCode := .draw [⟨some 18, .move (.tmp 9), none⟩,
    ⟨some 19, .move (.tmp 1), none⟩,
    ⟨some 20, .binOp .gtr 3 (.tmp 18) (.tmp 19) 3, none⟩,
    ⟨some 21, .move (.tmp 20), none⟩,
    ⟨some 22, .move (.tmp 3), some (21, true)⟩,
    ⟨some 23, .move (.tmp 0), some (21, true)⟩,
    ⟨some 24, .move (.tmp 9), some (21, true)⟩,
    ⟨some 25, .indexAddr 22 (.tmp 23) (.tmp 24), some (21, true)⟩,
    ⟨some 26, .load 3 (.tmp 25), some (21, true)⟩,
    ⟨some 27, .move (.tmp 0), some (21, true)⟩,
    ⟨some 28, .move (.tmp 9), some (21, true)⟩,
    ⟨some 29, .binOp .sub 3 (.tmp 28) (.const (.int .i64 1)) 3, some (21, true)⟩,
    ⟨some 30, .indexAddr 22 (.tmp 27) (.tmp 29), some (21, true)⟩,
    ⟨some 31, .load 3 (.tmp 30), some (21, true)⟩,
    ⟨some 32, .call { callee := .value (.tmp 22), args := #[.tmp 26, .tmp 31], argTypes := #[3, 3] }, some (21, true)⟩,
    ⟨some 33, .binOp .lss 3 (.tmp 32) (.const (.int .i64 0)) 3, some (21, true)⟩,
    ⟨some 34, .pick (.tmp 21) (.tmp 33) (.const (.bool false)), none⟩]
   [[], [], [0, 1], [2], [3], [3], [3], [5, 6, 3], [7, 3], [3], [3], [10, 3], [9, 11, 3], [12, 3], [4, 8, 13, 3, 3], [14, 3], [3, 15]]
def q120_6 : SCode := .draw [⟨some 37, .move (.tmp 0), none⟩,
    ⟨some 38, .move (.tmp 9), none⟩,
    ⟨some 39, .move (.tmp 0), none⟩,
    ⟨some 40, .move (.tmp 9), none⟩,
    ⟨some 41, .binOp .sub 3 (.tmp 40) (.const (.int .i64 1)) 3, none⟩,
    ⟨some 42, .move (.tmp 0), none⟩,
    ⟨some 43, .move (.tmp 9), none⟩,
    ⟨some 44, .binOp .sub 3 (.tmp 43) (.const (.int .i64 1)) 3, none⟩,
    ⟨some 45, .indexAddr 22 (.tmp 42) (.tmp 44), none⟩,
    ⟨some 46, .load 3 (.tmp 45), none⟩,
    ⟨some 47, .move (.tmp 0), none⟩,
    ⟨some 48, .move (.tmp 9), none⟩,
    ⟨some 49, .indexAddr 22 (.tmp 47) (.tmp 48), none⟩,
    ⟨some 50, .load 3 (.tmp 49), none⟩,
    ⟨some 51, .indexAddr 22 (.tmp 37) (.tmp 38), none⟩,
    ⟨none, .store 3 (.tmp 51) (.tmp 46), none⟩,
    ⟨some 52, .indexAddr 22 (.tmp 39) (.tmp 41), none⟩,
    ⟨none, .store 3 (.tmp 52) (.tmp 50), none⟩]
   [[], [], [], [], [3], [], [], [6], [5, 7], [8], [], [], [10, 11], [12], [0, 1, 0, 1, 5, 6, 7, 8, 9, 13], [14, 9, 0, 1, 5, 6, 7, 8, 9, 13], [2, 4, 0, 1, 2, 3, 4, 5, 6, 7, 8, 9, 10, 11, 12, 13, 14, 15], [16, 13, 15, 0, 1, 2, 3, 4, 5, 6, 7, 8, 9, 10, 11, 12, 13, 14, 15]]
@[reducible] def q120_5 : SCode := .region [⟨some 35, .move (.tmp 9), none⟩,
    ⟨some 36, .binOp .sub 3 (.tmp 35) (.const (.int .i64 1)) 3, none⟩,
    ⟨some 9, .assign (.tmp 36), none⟩]
def l120_0 : SCode := (.seq (.seq q120_4 (.cond (.tmp 34) .skip (.exit 2))) (.seq (.block 3 q120_6) q120_5))
@[reducible] def q120_2 : SCode := .region [⟨some 15, .move (.tmp 8), none⟩,
    ⟨some 16, .binOp .add 3 (.tmp 15) (.const (.int .i64 1)) 3, none⟩,
    ⟨some 8, .assign (.tmp 16), none⟩]
def l120_1 : SCode := (.seq (.seq q120_1 (.cond (.tmp 14) .skip (.exit 0))) (.seq (.block 1 (.seq q120_3 (.block 2 (.loop l120_0)))) q120_2))
def s120 : SCode := (.seq q120_0 (.block 0 (.loop l120_1)))
theorem s120_strip : stripC (bodyOf Tryd.f120) = s120 := by kernel_rfl
theorem s120_ok : codeOK 53 (bodyOf Tryd.f120) = true := by kernel_rfl
end Go.Proofs.Tryd.Am

namespace Go.Proofs.Tryd.Am
open Go.Am Rb
set_option maxRecDepth 100000
set_option maxHeartbeats 1000000

def swL (L : List Nat) (j : Nat) : List Nat := (L.set j (L.getD (j - 1) 0)).set (j - 1) (L.getD j 0)
theorem swL_get {L : List Nat} {j : Nat} (h1 : 1 ≤ j) (h2 : j < L.length) (t : Nat) : (swL L j).getD t 0 = if t = j - 1 then L.getD j 0 else if t = j then L.getD (j - 1) 0 else L.getD t 0 := by
  rw [swL, getD_setN (by rw [List.length_set]; omega), getD_setN h2]
theorem swL_perm {L : List Nat} {j : Nat} (h1 : 1 ≤ j) (h2 : j < L.length) : (swL L j).Perm L := by
  have := Array.swap_perm (xs := L.toArray) (i := j) (j := j - 1) (by simpa using h2) (by simp; omega)
  rw [Array.perm_iff_toList_perm, Array.toList_swap] at this
  simpa [swL, List.getD, List.getElem?_eq_getElem h2, List.getElem?_eq_getElem (show j - 1 < L.length by omega)] using this

section
variable {key : Nat → Int}
/-- The first i are sorted. -/
def SrtTo (key : Nat → Int) (L : List Nat) (i : Nat) : Prop := ∀ p q, p < q → q < i → key (L.getD p 0) ≤ key (L.getD q 0)
/-- The first i + 1 are sorted but for the one at j. -/
def SrtBut (key : Nat → Int) (L : List Nat) (i j : Nat) : Prop := ∀ p q, p < q → q ≤ i → q ≠ j → key (L.getD p 0) ≤ key (L.getD q 0)
theorem SrtBut.step {L : List Nat} {i j : Nat} (h : SrtBut key L i j) (h1 : 1 ≤ j) (h2 : j < L.length) (hj : j ≤ i) (hlt : key (L.getD j 0) < key (L.getD (j - 1) 0)) : SrtBut key (swL L j) i (j - 1) := by
  intro p q hpq hq hne
  rw [swL_get h1 h2, swL_get h1 h2, if_neg hne]
  by_cases hqj : q = j
  · rw [if_pos hqj]
    by_cases hp : p = j - 1
    · rw [if_pos hp]; omega
    · rw [if_neg hp, if_neg (by omega)]
      exact h p (j - 1) (by omega) (by omega) (by omega)
  · rw [if_neg hqj]
    by_cases hp : p = j - 1
    · rw [if_pos hp]; exact h j q (by omega) hq hqj
    · rw [if_neg hp]
      by_cases hpj : p = j
      · rw [if_pos hpj]; exact h (j - 1) q (by omega) hq hqj
      · rw [if_neg hpj]; exact h p q hpq hq hqj
theorem SrtBut.done {L : List Nat} {i j : Nat} (h : SrtBut key L i j) (hj : j = 0 ∨ key (L.getD (j - 1) 0) ≤ key (L.getD j 0)) : SrtTo key L (i + 1) := by
  intro p q hpq hq
  by_cases hqj : q = j
  · subst hqj
    rcases hj with hj | hj
    · omega
    · by_cases hp : p = q - 1
      · subst hp; exact hj
      · exact Int.le_trans (h p (q - 1) (by omega) (by omega) (by omega)) hj
  · exact h p q hpq (by omega) hqj
theorem SrtTo.pw {L : List Nat} (h : SrtTo key L L.length) : L.Pairwise fun a b => key a ≤ key b := by
  rw [List.pairwise_iff_getElem]
  intro i j hi hj hij
  have := h i j hij hj
  rw [List.getD, List.getD, List.getElem?_eq_getElem hi, List.getElem?_eq_getElem hj] at this
  exact this
end
theorem subN1 {n : Nat} (h1 : 1 ≤ n) (h : n < 9223372036854775808) : subV .i64 (n : Int) 1 = ((n - 1 : Nat) : Int) := by rw [subV_id (by omega) (by omega)]; omega
/-- A slice in a block of its own. -/
abbrev ov (b n m : Nat) : Value := .slice (some ⟨b, 0, some 0⟩) n (n + m)
theorem ov_own {h : Heap} {b n : Nat} {L : List Nat} {ys : List Int} (hb : b < h.length) (hn : L.length = n) : OwnSl 3 (h.set b (.ints (iL L ++ ys) 3 false)) (ov b n ys.length) (iL L) :=
  .inr ⟨b, ys, by rw [iL_len, hn], get_set hb _⟩
theorem elemP_ov (b n m i : Nat) : elemP (ov b n m) 1 i = .pointer (some ⟨b, i, none⟩) := by simp [elemP]
theorem ov_load {h : Heap} {b n : Nat} {L : List Nat} {ys : List Int} {i : Nat} (hb : b < h.length) (hn : L.length = n) (hi : i < n) {K : Value → Prop} :
    loadK prog (h.set b (.ints (iL L ++ ys) 3 false)) 3 (.pointer (some ⟨b, i, none⟩)) K = K (vint (L.getD i 0 : Nat)) := by
  have := (ov_own (h := h) (b := b) (n := n) (L := L) (ys := ys) hb hn).int.load shp_3 (i := i) (by rw [iL_len]; omega) K
  rw [elemP_ov, iL_get] at this
  exact this
theorem ov_store {h : Heap} {b : Nat} {L : List Nat} {ys : List Int} {i x : Nat} (hb : b < h.length) (hi : i < L.length) {K : Heap → Prop} :
    storeK prog (h.set b (.ints (iL L ++ ys) 3 false)) 3 (.pointer (some ⟨b, i, none⟩)) (vint (x : Nat)) K = K (h.set b (.ints (iL (L.set i x) ++ ys) 3 false)) := by
  rw [storeBI (get_set hb _) shp_3 (by rw [List.length_append, iL_len]; omega), List.set_set, List.set_append_left _ _ (by rw [iL_len]; exact hi), iL_set]

abbrev kO : Nat → Int := Int.ofNat
theorem s103_callW [Tabs Tryd.prog] {args : List Value} {h : Heap} {Q : Value → Heap → Prop} (hsz : args.length ≤ 17) (hk : AWS Tryd.prog 17 s103 (aPost Tryd.prog [.tmp 4] Q) (argEnv 0 args) h) : ACall Tryd.prog 103 args h Q :=
  acall_w Tryd.func103 rfl (enters_of Tryd.func103 (by kernel_rfl) rfl) rfl rfl (by decide) s103_strip s103_ok hsz hk
theorem less_call [Tabs prog] {h : Heap} {x y : Int} : APure prog 103 [vint x, vint y] h (.bool (decide (x < y))) := by
  refine s103_callW (by simp) ?_
  refine aw_aws ?_
  simp (maxSteps := 2000000) only [s103, ↓aw_region, ↓aw_skip, ↓aw_seq, ↓aw_block, ↓aw_exit, ↓aw_ret, ↓sops_nil, ↓sops_go, ↓dops_nil, ↓dopsX_nil, ↓dopsR_nil, ↓vdn, vup, extr_20, extr_21, extr_30, extr_31, extr_32, List.map_cons, List.map_nil, cond_true, cond_false, aop, aThen, aBlock, argEnv, ev, sput, sputO, binK, binI, unK, builtinK, pickK, Nat.reduceBEq, Nat.reduceAdd, Int.reduceBEq, Int.reduceBNe, Int.reduceLT, aPost, resK, tup, tyf, callK, List.nil_append, List.append_nil, List.toList_toArray, List.cons_append]
  refine (isnan_call).mono ?_
  rintro _ h ⟨rfl, rfl⟩
  simp (maxSteps := 2000000) only [s103, ↓aw_region, ↓aw_skip, ↓aw_seq, ↓aw_block, ↓aw_exit, ↓aw_ret, ↓sops_nil, ↓sops_go, ↓dops_nil, ↓dopsX_nil, ↓dopsR_nil, ↓vdn, vup, extr_20, extr_21, extr_30, extr_31, extr_32, List.map_cons, List.map_nil, cond_true, cond_false, aop, aThen, aBlock, argEnv, ev, sput, sputO, binK, binI, unK, builtinK, pickK, Nat.reduceBEq, Nat.reduceAdd, Int.reduceBEq, Int.reduceBNe, Int.reduceLT, aPost, resK, tup, tyf]
theorem s110_callW [Tabs Tryd.prog] {args : List Value} {h : Heap} {Q : Value → Heap → Prop} (hsz : args.length ≤ 49) (hk : AWS Tryd.prog 49 s110 (aPost Tryd.prog [] Q) (argEnv 0 args) h) : ACall Tryd.prog 110 args h Q :=
  acall_w Tryd.func110 rfl (enters_of Tryd.func110 (by kernel_rfl) rfl) rfl rfl (by decide) s110_strip s110_ok hsz hk
theorem isortO_call [Tabs prog] {h : Heap} {b : Nat} {L0 : List Nat} {ys : List Int} (hb : h[b]? = some (.ints (iL L0 ++ ys) 3 false)) (hl : L0.length ≤ 12) (hx : ∀ x ∈ L0, x < 4611686018427387904) :
    ACall prog 110 [ov b L0.length ys.length, .int .i64 0, vint L0.length] h fun _ h' => ∃ L : List Nat, L.Perm L0 ∧ L.Pairwise (fun a b => a ≤ b) ∧ h' = h.set b (.ints (iL L ++ ys) 3 false) := by
  have hlt := get_lt hb
  have h0 : h = h.set b (.ints (iL L0 ++ ys) 3 false) := by
    apply List.ext_getElem?
    intro i
    by_cases hi : b = i
    · subst hi; rw [get_set hlt, hb]
    · rw [List.getElem?_set_ne hi]
  obtain ⟨n, hn⟩ : ∃ n, L0.length = n := ⟨_, rfl⟩
  rw [hn] at hl ⊢
  have hrange : ∀ {L : List Nat}, L.Perm L0 → ∀ i, L.getD i 0 < 4611686018427387904 := fun {L} hp i => by
    by_cases hi : i < L.length
    · rw [List.getD, List.getElem?_eq_getElem hi]; exact hx _ (hp.mem_iff.1 (List.getElem_mem hi))
    · rw [List.getD, List.getElem?_eq_none (by omega)]; decide
  refine s110_callW (by simp) ?_
  simp only [s110]
  have e01 : addV .i64 0 1 = 1 := rfl
  refine aws_cut fun N1 hN1 => ?_
  simp (maxSteps := 2000000) only [s110, ↓aw_region, ↓aw_skip, ↓aw_seq, ↓aw_block, ↓aw_exit, ↓aw_ret, ↓sops_nil, ↓sops_go, ↓dops_nil, ↓dopsX_nil, ↓dopsR_nil, ↓vdn, vup, extr_20, extr_21, extr_30, extr_31, extr_32, List.map_cons, List.map_nil, cond_true, cond_false, aop, aThen, aBlock, argEnv, ev, sput, sputO, binK, binI, unK, builtinK, pickK, Nat.reduceBEq, Nat.reduceAdd, Int.reduceBEq, Int.reduceBNe, Int.reduceLT, aPost, resK, tup, tyf, e01]
  refine hN1 [(0, ov b n ys.length), (1, .int .i64 0), (2, vint n), (6, .int .i64 1)] _ _ ?_ (by simp (maxSteps := 2000000) only [↓aw_region, ↓aw_skip, ↓aw_seq, ↓aw_block, ↓aw_exit, ↓aw_ret, ↓sops_nil, ↓sops_go, ↓dops_nil, ↓dopsX_nil, ↓dopsR_nil, ↓vdn, vup, extr_20, extr_21, extr_30, extr_31, extr_32, List.map_cons, List.map_nil, cond_true, cond_false, aop, aThen, aBlock, argEnv, ev, sput, sputO, binK, binI, unK, builtinK, pickK, Nat.reduceBEq, Nat.reduceAdd, Int.reduceBEq, Int.reduceBNe, Int.reduceLT, aPost, resK, tup, tyf])
  clear hN1
  try clear N1
  refine aws_block ?_
  refine aws_hide fun Q hQ => ?_
  refine aw_loopW (γ := Nat × List Nat) (fun s => 1 ≤ s.1 ∧ (s.1 ≤ n ∨ s.1 = 1) ∧ s.2.Perm L0 ∧ SrtTo kO s.2 s.1)
    (fun s => ([(0, ov b n ys.length), (1, .int .i64 0), (2, vint n), (6, vint s.1)], h.set b (.ints (iL s.2 ++ ys) 3 false))) (fun s => n - s.1) (1, L0) ⟨Nat.le_refl _, .inr rfl, .refl _, fun p q _ _ => by omega⟩ (by simp (maxSteps := 2000000) only [↓aw_region, ↓aw_skip, ↓aw_seq, ↓aw_block, ↓aw_exit, ↓aw_ret, ↓sops_nil, ↓sops_go, ↓dops_nil, ↓dopsX_nil, ↓dopsR_nil, ↓vdn, vup, extr_20, extr_21, extr_30, extr_31, extr_32, List.map_cons, List.map_nil, cond_true, cond_false, aop, aThen, aBlock, argEnv, ev, sput, sputO, binK, binI, unK, builtinK, pickK, Nat.reduceBEq, Nat.reduceAdd, Int.reduceBEq, Int.reduceBNe, Int.reduceLT, aPost, resK, tup, tyf, Int.natCast_one]) h0 ?_
  rintro ⟨i, L⟩ ⟨hi1, hi, hp, hs⟩
  simp only at hi1 hi hp hs
  have hLn : L.length = n := hp.length_eq.trans hn
  refine aws_hide fun Q2 hQ2 => ?_
  simp only [l110_1]
  by_cases hin : (i : Int) < n
  · have hi' : i < n := by omega
    refine aws_cut fun N2 hN2 => ?_
    simp (maxSteps := 2000000) only [s110, ↓aw_region, ↓aw_skip, ↓aw_seq, ↓aw_block, ↓aw_exit, ↓aw_ret, ↓sops_nil, ↓sops_go, ↓dops_nil, ↓dopsX_nil, ↓dopsR_nil, ↓vdn, vup, extr_20, extr_21, extr_30, extr_31, extr_32, List.map_cons, List.map_nil, cond_true, cond_false, aop, aThen, aBlock, argEnv, ev, sput, sputO, binK, binI, unK, builtinK, pickK, Nat.reduceBEq, Nat.reduceAdd, Int.reduceBEq, Int.reduceBNe, Int.reduceLT, aPost, resK, tup, tyf, hin]
    refine hN2 [(0, ov b n ys.length), (1, .int .i64 0), (2, vint n), (6, vint i)] _ _ ?_ (by simp (maxSteps := 2000000) only [↓aw_region, ↓aw_skip, ↓aw_seq, ↓aw_block, ↓aw_exit, ↓aw_ret, ↓sops_nil, ↓sops_go, ↓dops_nil, ↓dopsX_nil, ↓dopsR_nil, ↓vdn, vup, extr_20, extr_21, extr_30, extr_31, extr_32, List.map_cons, List.map_nil, cond_true, cond_false, aop, aThen, aBlock, argEnv, ev, sput, sputO, binK, binI, unK, builtinK, pickK, Nat.reduceBEq, Nat.reduceAdd, Int.reduceBEq, Int.reduceBNe, Int.reduceLT, aPost, resK, tup, tyf])
    clear hN2
    try clear N2
    refine aws_cutW fun M hM => ?_
    refine aws_block ?_
    refine aws_cut fun N3 hN3 => ?_
    simp (maxSteps := 2000000) only [s110, ↓aw_region, ↓aw_skip, ↓aw_seq, ↓aw_block, ↓aw_exit, ↓aw_ret, ↓sops_nil, ↓sops_go, ↓dops_nil, ↓dopsX_nil, ↓dopsR_nil, ↓vdn, vup, extr_20, extr_21, extr_30, extr_31, extr_32, List.map_cons, List.map_nil, cond_true, cond_false, aop, aThen, aBlock, argEnv, ev, sput, sputO, binK, binI, unK, builtinK, pickK, Nat.reduceBEq, Nat.reduceAdd, Int.reduceBEq, Int.reduceBNe, Int.reduceLT, aPost, resK, tup, tyf]
    refine hN3 [(0, ov b n ys.length), (1, .int .i64 0), (2, vint n), (6, vint i), (7, vint i)] _ _ ?_ (by simp (maxSteps := 2000000) only [↓aw_region, ↓aw_skip, ↓aw_seq, ↓aw_block, ↓aw_exit, ↓aw_ret, ↓sops_nil, ↓sops_go, ↓dops_nil, ↓dopsX_nil, ↓dopsR_nil, ↓vdn, vup, extr_20, extr_21, extr_30, extr_31, extr_32, List.map_cons, List.map_nil, cond_true, cond_false, aop, aThen, aBlock, argEnv, ev, sput, sputO, binK, binI, unK, builtinK, pickK, Nat.reduceBEq, Nat.reduceAdd, Int.reduceBEq, Int.reduceBNe, Int.reduceLT, aPost, resK, tup, tyf])
    clear hN3
    try clear N3
    refine aws_block ?_
    refine aws_hide fun Q3 hQ3 => ?_
    refine aw_loopW (γ := Nat × List Nat) (fun s => s.1 ≤ i ∧ s.2.Perm L0 ∧ SrtBut kO s.2 i s.1)
      (fun s => ([(0, ov b n ys.length), (1, .int .i64 0), (2, vint n), (6, vint i), (7, vint s.1)], h.set b (.ints (iL s.2 ++ ys) 3 false))) (fun s => s.1) (i, L) ⟨Nat.le_refl _, hp, fun p q h1 h2 h3 => hs p q h1 (by omega)⟩ (by simp (maxSteps := 2000000) only [↓aw_region, ↓aw_skip, ↓aw_seq, ↓aw_block, ↓aw_exit, ↓aw_ret, ↓sops_nil, ↓sops_go, ↓dops_nil, ↓dopsX_nil, ↓dopsR_nil, ↓vdn, vup, extr_20, extr_21, extr_30, extr_31, extr_32, List.map_cons, List.map_nil, cond_true, cond_false, aop, aThen, aBlock, argEnv, ev, sput, sputO, binK, binI, unK, builtinK, pickK, Nat.reduceBEq, Nat.reduceAdd, Int.reduceBEq, Int.reduceBNe, Int.reduceLT, aPost, resK, tup, tyf]) rfl ?_
    clear hp hs hLn
    rintro ⟨j, L⟩ ⟨hj, hp, hs⟩
    simp only at hj hp hs
    have hLn : L.length = n := hp.length_eq.trans hn
    have own := ov_own (h := h) (b := b) (n := n) (L := L) (ys := ys) hlt hLn
    refine aws_hide fun Q4 hQ4 => ?_
    simp only [l110_0]
    have fin : (j = 0 ∨ kO (L.getD (j - 1) 0) ≤ kO (L.getD j 0)) → ∀ e, ELe e [(0, ov b n ys.length), (1, .int .i64 0), (2, vint n), (6, vint i)] → M e (h.set b (.ints (iL L ++ ys) 3 false)) := by
      intro hd e he
      refine hM [(0, ov b n ys.length), (1, .int .i64 0), (2, vint n), (6, vint i)] _ _ ?_ he
      refine aw_aws ?_
      simp (maxSteps := 2000000) only [s110, ↓aw_region, ↓aw_skip, ↓aw_seq, ↓aw_block, ↓aw_exit, ↓aw_ret, ↓sops_nil, ↓sops_go, ↓dops_nil, ↓dopsX_nil, ↓dopsR_nil, ↓vdn, vup, extr_20, extr_21, extr_30, extr_31, extr_32, List.map_cons, List.map_nil, cond_true, cond_false, aop, aThen, aBlock, argEnv, ev, sput, sputO, binK, binI, unK, builtinK, pickK, Nat.reduceBEq, Nat.reduceAdd, Int.reduceBEq, Int.reduceBNe, Int.reduceLT, aPost, resK, tup, tyf, add1 (show i < 9223372036854775807 by omega)]
      exact hQ2 _ _ _ ⟨(i + 1, L), ⟨by simp only; omega, .inl (by simp only; omega), hp, hs.done hd⟩, by simp only; omega, by simp (maxSteps := 2000000) only [↓aw_region, ↓aw_skip, ↓aw_seq, ↓aw_block, ↓aw_exit, ↓aw_ret, ↓sops_nil, ↓sops_go, ↓dops_nil, ↓dopsX_nil, ↓dopsR_nil, ↓vdn, vup, extr_20, extr_21, extr_30, extr_31, extr_32, List.map_cons, List.map_nil, cond_true, cond_false, aop, aThen, aBlock, argEnv, ev, sput, sputO, binK, binI, unK, builtinK, pickK, Nat.reduceBEq, Nat.reduceAdd, Int.reduceBEq, Int.reduceBNe, Int.reduceLT, aPost, resK, tup, tyf], rfl⟩
    by_cases hj0 : j = 0
    · subst hj0
      refine aws_cut fun N4 hN4 => ?_
      simp (maxSteps := 2000000) only [s110, ↓aw_region, ↓aw_skip, ↓aw_seq, ↓aw_block, ↓aw_exit, ↓aw_ret, ↓sops_nil, ↓sops_go, ↓dops_nil, ↓dopsX_nil, ↓dopsR_nil, ↓vdn, vup, extr_20, extr_21, extr_30, extr_31, extr_32, List.map_cons, List.map_nil, cond_true, cond_false, aop, aThen, aBlock, argEnv, ev, sput, sputO, binK, binI, unK, builtinK, pickK, Nat.reduceBEq, Nat.reduceAdd, Int.reduceBEq, Int.reduceBNe, Int.reduceLT, aPost, resK, tup, tyf]
      refine aw_drawX [(13, 1)] (by kernel_rfl) (by kernel_rfl) (by kernel_rfl) (by kernel_rfl) ?_
      simp (maxSteps := 2000000) only [s110, ↓aw_region, ↓aw_skip, ↓aw_seq, ↓aw_block, ↓aw_exit, ↓aw_ret, ↓sops_nil, ↓sops_go, ↓dops_nil, ↓dopsX_nil, ↓dopsR_nil, ↓vdn, vup, extr_20, extr_21, extr_30, extr_31, extr_32, List.map_cons, List.map_nil, cond_true, cond_false, aop, aThen, aBlock, argEnv, ev, sput, sputO, binK, binI, unK, builtinK, pickK, Nat.reduceBEq, Nat.reduceAdd, Int.reduceBEq, Int.reduceBNe, Int.reduceLT, aPost, resK, tup, tyf, gt_iff_lt, Int.natCast_zero, Int.lt_irrefl]
      refine hQ4 _ _ _ (hQ3 _ _ _ ?_)
      simp (maxSteps := 2000000) only [s110, ↓aw_region, ↓aw_skip, ↓aw_seq, ↓aw_block, ↓aw_exit, ↓aw_ret, ↓sops_nil, ↓sops_go, ↓dops_nil, ↓dopsX_nil, ↓dopsR_nil, ↓vdn, vup, extr_20, extr_21, extr_30, extr_31, extr_32, List.map_cons, List.map_nil, cond_true, cond_false, aop, aThen, aBlock, argEnv, ev, sput, sputO, binK, binI, unK, builtinK, pickK, Nat.reduceBEq, Nat.reduceAdd, Int.reduceBEq, Int.reduceBNe, Int.reduceLT, aPost, resK, tup, tyf, if_true]
      exact fin (.inl rfl) _ (by simp (maxSteps := 2000000) only [↓aw_region, ↓aw_skip, ↓aw_seq, ↓aw_block, ↓aw_exit, ↓aw_ret, ↓sops_nil, ↓sops_go, ↓dops_nil, ↓dopsX_nil, ↓dopsR_nil, ↓vdn, vup, extr_20, extr_21, extr_30, extr_31, extr_32, List.map_cons, List.map_nil, cond_true, cond_false, aop, aThen, aBlock, argEnv, ev, sput, sputO, binK, binI, unK, builtinK, pickK, Nat.reduceBEq, Nat.reduceAdd, Int.reduceBEq, Int.reduceBNe, Int.reduceLT, aPost, resK, tup, tyf])
    · have hjp : (0 : Int) < (j : Int) := by omega
      have hjn : j < (iL L).length := by rw [iL_len]; omega
      have hj1n : j - 1 < (iL L).length := by omega
      have c1 := less_call (h := h.set b (.ints (iL L ++ ys) 3 false)) (x := ((L.getD j 0 : Nat) : Int)) (y := ((L.getD (j - 1) 0 : Nat) : Int))
      have hsub := subN1 (show 1 ≤ j by omega) (show j < 9223372036854775808 by omega)
      by_cases hlt2 : L.getD j 0 < L.getD (j - 1) 0
      · have hneg : decide (((L.getD j 0 : Nat) : Int) < ((L.getD (j - 1) 0 : Nat) : Int)) = true := decide_eq_true (by omega)
        rw [hneg] at c1
        refine aws_cut fun N5 hN5 => ?_
        simp (maxSteps := 2000000) only [s110, ↓aw_region, ↓aw_skip, ↓aw_seq, ↓aw_block, ↓aw_exit, ↓aw_ret, ↓sops_nil, ↓sops_go, ↓dops_nil, ↓dopsX_nil, ↓dopsR_nil, ↓vdn, vup, extr_20, extr_21, extr_30, extr_31, extr_32, List.map_cons, List.map_nil, cond_true, cond_false, aop, aThen, aBlock, argEnv, ev, sput, sputO, binK, binI, unK, builtinK, pickK, Nat.reduceBEq, Nat.reduceAdd, Int.reduceBEq, Int.reduceBNe, Int.reduceLT, aPost, resK, tup, tyf]
        refine aw_drawX [(13, 1)] (by kernel_rfl) (by kernel_rfl) (by kernel_rfl) (by kernel_rfl) ?_
        simp (maxSteps := 2000000) only [s110, ↓aw_region, ↓aw_skip, ↓aw_seq, ↓aw_block, ↓aw_exit, ↓aw_ret, ↓sops_nil, ↓sops_go, ↓dops_nil, ↓dopsX_nil, ↓dopsR_nil, ↓vdn, vup, extr_20, extr_21, extr_30, extr_31, extr_32, List.map_cons, List.map_nil, cond_true, cond_false, aop, aThen, aBlock, argEnv, ev, sput, sputO, binK, binI, unK, builtinK, pickK, Nat.reduceBEq, Nat.reduceAdd, Int.reduceBEq, Int.reduceBNe, Int.reduceLT, aPost, resK, tup, tyf, gt_iff_lt, hjp, hsub, own.int.idx el_22 esz_3 hjn, own.int.load shp_3 hjn, own.int.idx el_22 esz_3 hj1n, own.int.load shp_3 hj1n, iL_get, callK, List.nil_append, List.append_nil, List.toList_toArray, List.cons_append]
        refine ⟨_, _, c1, rfl, ?_⟩
        simp (maxSteps := 2000000) only [s110, ↓aw_region, ↓aw_skip, ↓aw_seq, ↓aw_block, ↓aw_exit, ↓aw_ret, ↓sops_nil, ↓sops_go, ↓dops_nil, ↓dopsX_nil, ↓dopsR_nil, ↓vdn, vup, extr_20, extr_21, extr_30, extr_31, extr_32, List.map_cons, List.map_nil, cond_true, cond_false, aop, aThen, aBlock, argEnv, ev, sput, sputO, binK, binI, unK, builtinK, pickK, Nat.reduceBEq, Nat.reduceAdd, Int.reduceBEq, Int.reduceBNe, Int.reduceLT, aPost, resK, tup, tyf]
        refine hN5 [(0, ov b n ys.length), (1, .int .i64 0), (2, vint n), (6, vint i), (7, vint j)] _ _ ?_ (by simp (maxSteps := 2000000) only [↓aw_region, ↓aw_skip, ↓aw_seq, ↓aw_block, ↓aw_exit, ↓aw_ret, ↓sops_nil, ↓sops_go, ↓dops_nil, ↓dopsX_nil, ↓dopsR_nil, ↓vdn, vup, extr_20, extr_21, extr_30, extr_31, extr_32, List.map_cons, List.map_nil, cond_true, cond_false, aop, aThen, aBlock, argEnv, ev, sput, sputO, binK, binI, unK, builtinK, pickK, Nat.reduceBEq, Nat.reduceAdd, Int.reduceBEq, Int.reduceBNe, Int.reduceLT, aPost, resK, tup, tyf])
        clear hN5
        try clear N5
        refine aw_aws ?_
        simp (maxSteps := 2000000) only [s110, ↓aw_region, ↓aw_skip, ↓aw_seq, ↓aw_block, ↓aw_exit, ↓aw_ret, ↓sops_nil, ↓sops_go, ↓dops_nil, ↓dopsX_nil, ↓dopsR_nil, ↓vdn, vup, extr_20, extr_21, extr_30, extr_31, extr_32, List.map_cons, List.map_nil, cond_true, cond_false, aop, aThen, aBlock, argEnv, ev, sput, sputO, binK, binI, unK, builtinK, pickK, Nat.reduceBEq, Nat.reduceAdd, Int.reduceBEq, Int.reduceBNe, Int.reduceLT, aPost, resK, tup, tyf]
        refine aw_drawX [] (by kernel_rfl) (by kernel_rfl) (by kernel_rfl) (by kernel_rfl) ?_
        have hjL : j < L.length := by omega
        simp (maxSteps := 2000000) only [s110, ↓aw_region, ↓aw_skip, ↓aw_seq, ↓aw_block, ↓aw_exit, ↓aw_ret, ↓sops_nil, ↓sops_go, ↓dops_nil, ↓dopsX_nil, ↓dopsR_nil, ↓vdn, vup, extr_20, extr_21, extr_30, extr_31, extr_32, List.map_cons, List.map_nil, cond_true, cond_false, aop, aThen, aBlock, argEnv, ev, sput, sputO, binK, binI, unK, builtinK, pickK, Nat.reduceBEq, Nat.reduceAdd, Int.reduceBEq, Int.reduceBNe, Int.reduceLT, aPost, resK, tup, tyf, hsub, own.int.idx el_22 esz_3 hjn, own.int.idx el_22 esz_3 hj1n, elemP_ov, ov_load hlt hLn (show j < n by omega), ov_load hlt hLn (show j - 1 < n by omega), ov_store hlt hjL, ov_store hlt (show j - 1 < (L.set j (L.getD (j - 1) 0)).length by rw [List.length_set]; omega)]
        refine hQ4 _ _ _ ⟨(j - 1, swL L j), ⟨by simp only; omega, (swL_perm (by omega) hjL).trans hp, hs.step (by omega) hjL hj (Int.ofNat_lt.2 hlt2)⟩, by simp only; omega, by simp (maxSteps := 2000000) only [↓aw_region, ↓aw_skip, ↓aw_seq, ↓aw_block, ↓aw_exit, ↓aw_ret, ↓sops_nil, ↓sops_go, ↓dops_nil, ↓dopsX_nil, ↓dopsR_nil, ↓vdn, vup, extr_20, extr_21, extr_30, extr_31, extr_32, List.map_cons, List.map_nil, cond_true, cond_false, aop, aThen, aBlock, argEnv, ev, sput, sputO, binK, binI, unK, builtinK, pickK, Nat.reduceBEq, Nat.reduceAdd, Int.reduceBEq, Int.reduceBNe, Int.reduceLT, aPost, resK, tup, tyf], rfl⟩
      · have hneg : decide (((L.getD j 0 : Nat) : Int) < ((L.getD (j - 1) 0 : Nat) : Int)) = false := decide_eq_false (by omega)
        rw [hneg] at c1
        refine aws_cut fun N6 hN6 => ?_
        simp (maxSteps := 2000000) only [s110, ↓aw_region, ↓aw_skip, ↓aw_seq, ↓aw_block, ↓aw_exit, ↓aw_ret, ↓sops_nil, ↓sops_go, ↓dops_nil, ↓dopsX_nil, ↓dopsR_nil, ↓vdn, vup, extr_20, extr_21, extr_30, extr_31, extr_32, List.map_cons, List.map_nil, cond_true, cond_false, aop, aThen, aBlock, argEnv, ev, sput, sputO, binK, binI, unK, builtinK, pickK, Nat.reduceBEq, Nat.reduceAdd, Int.reduceBEq, Int.reduceBNe, Int.reduceLT, aPost, resK, tup, tyf]
        refine aw_drawX [(13, 1)] (by kernel_rfl) (by kernel_rfl) (by kernel_rfl) (by kernel_rfl) ?_
        simp (maxSteps := 2000000) only [s110, ↓aw_region, ↓aw_skip, ↓aw_seq, ↓aw_block, ↓aw_exit, ↓aw_ret, ↓sops_nil, ↓sops_go, ↓dops_nil, ↓dopsX_nil, ↓dopsR_nil, ↓vdn, vup, extr_20, extr_21, extr_30, extr_31, extr_32, List.map_cons, List.map_nil, cond_true, cond_false, aop, aThen, aBlock, argEnv, ev, sput, sputO, binK, binI, unK, builtinK, pickK, Nat.reduceBEq, Nat.reduceAdd, Int.reduceBEq, Int.reduceBNe, Int.reduceLT, aPost, resK, tup, tyf, gt_iff_lt, hjp, hsub, own.int.idx el_22 esz_3 hjn, own.int.load shp_3 hjn, own.int.idx el_22 esz_3 hj1n, own.int.load shp_3 hj1n, iL_get, callK, List.nil_append, List.append_nil, List.toList_toArray, List.cons_append]
        refine ⟨_, _, c1, rfl, ?_⟩
        simp (maxSteps := 2000000) only [s110, ↓aw_region, ↓aw_skip, ↓aw_seq, ↓aw_block, ↓aw_exit, ↓aw_ret, ↓sops_nil, ↓sops_go, ↓dops_nil, ↓dopsX_nil, ↓dopsR_nil, ↓vdn, vup, extr_20, extr_21, extr_30, extr_31, extr_32, List.map_cons, List.map_nil, cond_true, cond_false, aop, aThen, aBlock, argEnv, ev, sput, sputO, binK, binI, unK, builtinK, pickK, Nat.reduceBEq, Nat.reduceAdd, Int.reduceBEq, Int.reduceBNe, Int.reduceLT, aPost, resK, tup, tyf]
        refine hQ4 _ _ _ (hQ3 _ _ _ ?_)
        simp (maxSteps := 2000000) only [s110, ↓aw_region, ↓aw_skip, ↓aw_seq, ↓aw_block, ↓aw_exit, ↓aw_ret, ↓sops_nil, ↓sops_go, ↓dops_nil, ↓dopsX_nil, ↓dopsR_nil, ↓vdn, vup, extr_20, extr_21, extr_30, extr_31, extr_32, List.map_cons, List.map_nil, cond_true, cond_false, aop, aThen, aBlock, argEnv, ev, sput, sputO, binK, binI, unK, builtinK, pickK, Nat.reduceBEq, Nat.reduceAdd, Int.reduceBEq, Int.reduceBNe, Int.reduceLT, aPost, resK, tup, tyf, if_true]
        exact fin (.inr (Int.ofNat_le.2 (by omega))) _ (by simp (maxSteps := 2000000) only [↓aw_region, ↓aw_skip, ↓aw_seq, ↓aw_block, ↓aw_exit, ↓aw_ret, ↓sops_nil, ↓sops_go, ↓dops_nil, ↓dopsX_nil, ↓dopsR_nil, ↓vdn, vup, extr_20, extr_21, extr_30, extr_31, extr_32, List.map_cons, List.map_nil, cond_true, cond_false, aop, aThen, aBlock, argEnv, ev, sput, sputO, binK, binI, unK, builtinK, pickK, Nat.reduceBEq, Nat.reduceAdd, Int.reduceBEq, Int.reduceBNe, Int.reduceLT, aPost, resK, tup, tyf])
  · refine aws_cut fun M hM => ?_
    simp (maxSteps := 2000000) only [s110, ↓aw_region, ↓aw_skip, ↓aw_seq, ↓aw_block, ↓aw_exit, ↓aw_ret, ↓sops_nil, ↓sops_go, ↓dops_nil, ↓dopsX_nil, ↓dopsR_nil, ↓vdn, vup, extr_20, extr_21, extr_30, extr_31, extr_32, List.map_cons, List.map_nil, cond_true, cond_false, aop, aThen, aBlock, argEnv, ev, sput, sputO, binK, binI, unK, builtinK, pickK, Nat.reduceBEq, Nat.reduceAdd, Int.reduceBEq, Int.reduceBNe, Int.reduceLT, aPost, resK, tup, tyf, hin]
    refine hQ2 _ _ _ (hQ _ _ _ ?_)
    simp (maxSteps := 2000000) only [s110, ↓aw_region, ↓aw_skip, ↓aw_seq, ↓aw_block, ↓aw_exit, ↓aw_ret, ↓sops_nil, ↓sops_go, ↓dops_nil, ↓dopsX_nil, ↓dopsR_nil, ↓vdn, vup, extr_20, extr_21, extr_30, extr_31, extr_32, List.map_cons, List.map_nil, cond_true, cond_false, aop, aThen, aBlock, argEnv, ev, sput, sputO, binK, binI, unK, builtinK, pickK, Nat.reduceBEq, Nat.reduceAdd, Int.reduceBEq, Int.reduceBNe, Int.reduceLT, aPost, resK, tup, tyf, if_true]
    refine ⟨L, hp, ?_, rfl⟩
    refine (SrtTo.pw (key := kO) ?_).imp fun h => Int.ofNat_le.1 h
    rw [hLn]
    intro p q hpq hq
    exact hs p q hpq (by omega)
end Go.Proofs.Tryd.Am

namespace Go.Proofs.Tryd.Am
open Go.Am Rb
set_option maxRecDepth 100000
set_option maxHeartbeats 1000000

theorem wrap8 {x : Nat} (h : x < 256) : IntKind.u8.wrap (x : Int) = (x : Int) := by
  simp [IntKind.wrap, IntKind.signed, IntKind.bits]; omega
theorem s119_callW [Tabs Tryd.prog] {args : List Value} {h : Heap} {Q : Value → Heap → Prop} (hsz : args.length ≤ 25) (hk : AWS Tryd.prog 25 s119 (aPost Tryd.prog [.tmp 2] Q) (argEnv 0 args) h) : ACall Tryd.prog 119 args h Q :=
  acall_w Tryd.func119 rfl (enters_of Tryd.func119 (by kernel_rfl) rfl) rfl rfl (by decide) s119_strip s119_ok hsz hk
theorem len64_call [Tabs prog] {h : Heap} {x : Nat} (hx : x < 256) : ACall prog 119 [vu x] h fun r h' => (∃ z, r = .int .i64 z) ∧ h' = h := by
  obtain ⟨s, hs, hq⟩ : ∃ s : ByteArray, s.size = 256 ∧ q119_10 = .region [⟨some 19, .move (.tmp 2), none⟩, ⟨some 20, .move (.tmp 0), none⟩, ⟨some 21, .convert 89 5 (.tmp 20), none⟩, ⟨some 22, .index 9 (.const (.string s)) (.tmp 21), none⟩,
      ⟨some 23, .convert 5 3 (.tmp 22), none⟩, ⟨some 24, .binOp .add 3 (.tmp 19) (.tmp 23) 3, none⟩, ⟨some 2, .assign (.tmp 24), none⟩] := by
    refine ⟨_, ?_, rfl⟩
    kernel_rfl
  have hidx : s[x]? = some (s[x]'(by omega)) := getElem?_pos s x (by omega)
  have hnn : ∀ i : Nat, (0 : Int) ≤ (i : Int) := Int.natCast_nonneg
  have n1 : ¬ (4294967296 : Int) ≤ (x : Int) := by omega
  have n2 : ¬ (65536 : Int) ≤ (x : Int) := by omega
  have n3 : ¬ (256 : Int) ≤ (x : Int) := by omega
  refine s119_callW (by simp) ?_
  simp only [s119]
  refine aws_cut fun N1 hN1 => ?_
  simp (maxSteps := 2000000) only [s119, ↓aw_region, ↓aw_skip, ↓aw_seq, ↓aw_block, ↓aw_exit, ↓aw_ret, ↓sops_nil, ↓sops_go, ↓dops_nil, ↓dopsX_nil, ↓dopsR_nil, ↓vdn, vup, extr_20, extr_21, extr_30, extr_31, extr_32, List.map_cons, List.map_nil, cond_true, cond_false, aop, aThen, aBlock, argEnv, ev, sput, sputO, binK, binI, unK, builtinK, pickK, Nat.reduceBEq, Nat.reduceAdd, Int.reduceBEq, Int.reduceBNe, Int.reduceLT, aPost, resK, tup, tyf]
  refine hN1 [(0, vu x), (2, .int .i64 0)] _ _ ?_ (by simp (maxSteps := 2000000) only [↓aw_region, ↓aw_skip, ↓aw_seq, ↓aw_block, ↓aw_exit, ↓aw_ret, ↓sops_nil, ↓sops_go, ↓dops_nil, ↓dopsX_nil, ↓dopsR_nil, ↓vdn, vup, extr_20, extr_21, extr_30, extr_31, extr_32, List.map_cons, List.map_nil, cond_true, cond_false, aop, aThen, aBlock, argEnv, ev, sput, sputO, binK, binI, unK, builtinK, pickK, Nat.reduceBEq, Nat.reduceAdd, Int.reduceBEq, Int.reduceBNe, Int.reduceLT, aPost, resK, tup, tyf])
  clear hN1
  try clear N1
  refine aws_cut fun N2 hN2 => ?_
  simp (maxSteps := 2000000) only [s119, ↓aw_region, ↓aw_skip, ↓aw_seq, ↓aw_block, ↓aw_exit, ↓aw_ret, ↓sops_nil, ↓sops_go, ↓dops_nil, ↓dopsX_nil, ↓dopsR_nil, ↓vdn, vup, extr_20, extr_21, extr_30, extr_31, extr_32, List.map_cons, List.map_nil, cond_true, cond_false, aop, aThen, aBlock, argEnv, ev, sput, sputO, binK, binI, unK, builtinK, pickK, Nat.reduceBEq, Nat.reduceAdd, Int.reduceBEq, Int.reduceBNe, Int.reduceLT, aPost, resK, tup, tyf, ge_iff_le, n1]
  refine hN2 [(0, vu x), (2, .int .i64 0)] _ _ ?_ (by simp (maxSteps := 2000000) only [↓aw_region, ↓aw_skip, ↓aw_seq, ↓aw_block, ↓aw_exit, ↓aw_ret, ↓sops_nil, ↓sops_go, ↓dops_nil, ↓dopsX_nil, ↓dopsR_nil, ↓vdn, vup, extr_20, extr_21, extr_30, extr_31, extr_32, List.map_cons, List.map_nil, cond_true, cond_false, aop, aThen, aBlock, argEnv, ev, sput, sputO, binK, binI, unK, builtinK, pickK, Nat.reduceBEq, Nat.reduceAdd, Int.reduceBEq, Int.reduceBNe, Int.reduceLT, aPost, resK, tup, tyf])
  clear hN2
  try clear N2
  refine aws_cut fun N3 hN3 => ?_
  simp (maxSteps := 2000000) only [s119, ↓aw_region, ↓aw_skip, ↓aw_seq, ↓aw_block, ↓aw_exit, ↓aw_ret, ↓sops_nil, ↓sops_go, ↓dops_nil, ↓dopsX_nil, ↓dopsR_nil, ↓vdn, vup, extr_20, extr_21, extr_30, extr_31, extr_32, List.map_cons, List.map_nil, cond_true, cond_false, aop, aThen, aBlock, argEnv, ev, sput, sputO, binK, binI, unK, builtinK, pickK, Nat.reduceBEq, Nat.reduceAdd, Int.reduceBEq, Int.reduceBNe, Int.reduceLT, aPost, resK, tup, tyf, ge_iff_le, n2]
  refine hN3 [(0, vu x), (2, .int .i64 0)] _ _ ?_ (by simp (maxSteps := 2000000) only [↓aw_region, ↓aw_skip, ↓aw_seq, ↓aw_block, ↓aw_exit, ↓aw_ret, ↓sops_nil, ↓sops_go, ↓dops_nil, ↓dopsX_nil, ↓dopsR_nil, ↓vdn, vup, extr_20, extr_21, extr_30, extr_31, extr_32, List.map_cons, List.map_nil, cond_true, cond_false, aop, aThen, aBlock, argEnv, ev, sput, sputO, binK, binI, unK, builtinK, pickK, Nat.reduceBEq, Nat.reduceAdd, Int.reduceBEq, Int.reduceBNe, Int.reduceLT, aPost, resK, tup, tyf])
  clear hN3
  try clear N3
  refine aws_cut fun N4 hN4 => ?_
  simp (maxSteps := 2000000) only [s119, ↓aw_region, ↓aw_skip, ↓aw_seq, ↓aw_block, ↓aw_exit, ↓aw_ret, ↓sops_nil, ↓sops_go, ↓dops_nil, ↓dopsX_nil, ↓dopsR_nil, ↓vdn, vup, extr_20, extr_21, extr_30, extr_31, extr_32, List.map_cons, List.map_nil, cond_true, cond_false, aop, aThen, aBlock, argEnv, ev, sput, sputO, binK, binI, unK, builtinK, pickK, Nat.reduceBEq, Nat.reduceAdd, Int.reduceBEq, Int.reduceBNe, Int.reduceLT, aPost, resK, tup, tyf, ge_iff_le, n3]
  refine hN4 [(0, vu x), (2, .int .i64 0)] _ _ ?_ (by simp (maxSteps := 2000000) only [↓aw_region, ↓aw_skip, ↓aw_seq, ↓aw_block, ↓aw_exit, ↓aw_ret, ↓sops_nil, ↓sops_go, ↓dops_nil, ↓dopsX_nil, ↓dopsR_nil, ↓vdn, vup, extr_20, extr_21, extr_30, extr_31, extr_32, List.map_cons, List.map_nil, cond_true, cond_false, aop, aThen, aBlock, argEnv, ev, sput, sputO, binK, binI, unK, builtinK, pickK, Nat.reduceBEq, Nat.reduceAdd, Int.reduceBEq, Int.reduceBNe, Int.reduceLT, aPost, resK, tup, tyf])
  clear hN4
  try clear N4
  rw [hq]
  refine aw_aws ?_
  simp (maxSteps := 2000000) only [s119, ↓aw_region, ↓aw_skip, ↓aw_seq, ↓aw_block, ↓aw_exit, ↓aw_ret, ↓sops_nil, ↓sops_go, ↓dops_nil, ↓dopsX_nil, ↓dopsR_nil, ↓vdn, vup, extr_20, extr_21, extr_30, extr_31, extr_32, List.map_cons, List.map_nil, cond_true, cond_false, aop, aThen, aBlock, argEnv, ev, sput, sputO, binK, binI, unK, builtinK, pickK, Nat.reduceBEq, Nat.reduceAdd, Int.reduceBEq, Int.reduceBNe, Int.reduceLT, aPost, resK, tup, tyf, convK, und_89, und_5, und_3, wrap8 hx, indexK, und_9, hnn, Int.toNat_natCast, hidx]
  first | exact ⟨⟨_, rfl⟩, rfl⟩ | exact ⟨_, rfl⟩
theorem s101_callW [Tabs Tryd.prog] {args : List Value} {h : Heap} {Q : Value → Heap → Prop} (hsz : args.length ≤ 8) (hk : AWS Tryd.prog 8 s101 (aPost Tryd.prog [.tmp 2] Q) (argEnv 0 args) h) : ACall Tryd.prog 101 args h Q :=
  acall_w Tryd.func101 rfl (enters_of Tryd.func101 (by kernel_rfl) rfl) rfl rfl (by decide) s101_strip s101_ok hsz hk
theorem len_call [Tabs prog] {h : Heap} {x : Nat} (hx : x < 256) : ACall prog 101 [vu x] h fun r h' => (∃ z, r = .int .i64 z) ∧ h' = h := by
  refine s101_callW (by simp) ?_
  simp only [s101]
  refine aws_cut fun N5 hN5 => ?_
  simp (maxSteps := 2000000) only [s101, ↓aw_region, ↓aw_skip, ↓aw_seq, ↓aw_block, ↓aw_exit, ↓aw_ret, ↓sops_nil, ↓sops_go, ↓dops_nil, ↓dopsX_nil, ↓dopsR_nil, ↓vdn, vup, extr_20, extr_21, extr_30, extr_31, extr_32, List.map_cons, List.map_nil, cond_true, cond_false, aop, aThen, aBlock, argEnv, ev, sput, sputO, binK, binI, unK, builtinK, pickK, Nat.reduceBEq, Nat.reduceAdd, Int.reduceBEq, Int.reduceBNe, Int.reduceLT, aPost, resK, tup, tyf]
  refine hN5 [(0, vu x), (2, .int .i64 0)] _ _ ?_ (by simp (maxSteps := 2000000) only [↓aw_region, ↓aw_skip, ↓aw_seq, ↓aw_block, ↓aw_exit, ↓aw_ret, ↓sops_nil, ↓sops_go, ↓dops_nil, ↓dopsX_nil, ↓dopsR_nil, ↓vdn, vup, extr_20, extr_21, extr_30, extr_31, extr_32, List.map_cons, List.map_nil, cond_true, cond_false, aop, aThen, aBlock, argEnv, ev, sput, sputO, binK, binI, unK, builtinK, pickK, Nat.reduceBEq, Nat.reduceAdd, Int.reduceBEq, Int.reduceBNe, Int.reduceLT, aPost, resK, tup, tyf])
  clear hN5
  try clear N5
  refine aws_cutW fun N6 hN6 => ?_
  refine aws_false rfl ?_
  refine aw_aws ?_
  simp (maxSteps := 2000000) only [s101, ↓aw_region, ↓aw_skip, ↓aw_seq, ↓aw_block, ↓aw_exit, ↓aw_ret, ↓sops_nil, ↓sops_go, ↓dops_nil, ↓dopsX_nil, ↓dopsR_nil, ↓vdn, vup, extr_20, extr_21, extr_30, extr_31, extr_32, List.map_cons, List.map_nil, cond_true, cond_false, aop, aThen, aBlock, argEnv, ev, sput, sputO, binK, binI, unK, builtinK, pickK, Nat.reduceBEq, Nat.reduceAdd, Int.reduceBEq, Int.reduceBNe, Int.reduceLT, aPost, resK, tup, tyf]
  refine hN6 [(0, vu x), (2, .int .i64 0)] _ _ ?_ (by simp (maxSteps := 2000000) only [↓aw_region, ↓aw_skip, ↓aw_seq, ↓aw_block, ↓aw_exit, ↓aw_ret, ↓sops_nil, ↓sops_go, ↓dops_nil, ↓dopsX_nil, ↓dopsR_nil, ↓vdn, vup, extr_20, extr_21, extr_30, extr_31, extr_32, List.map_cons, List.map_nil, cond_true, cond_false, aop, aThen, aBlock, argEnv, ev, sput, sputO, binK, binI, unK, builtinK, pickK, Nat.reduceBEq, Nat.reduceAdd, Int.reduceBEq, Int.reduceBNe, Int.reduceLT, aPost, resK, tup, tyf])
  clear hN6
  try clear N6
  refine aw_aws ?_
  simp (maxSteps := 2000000) only [s101, ↓aw_region, ↓aw_skip, ↓aw_seq, ↓aw_block, ↓aw_exit, ↓aw_ret, ↓sops_nil, ↓sops_go, ↓dops_nil, ↓dopsX_nil, ↓dopsR_nil, ↓vdn, vup, extr_20, extr_21, extr_30, extr_31, extr_32, List.map_cons, List.map_nil, cond_true, cond_false, aop, aThen, aBlock, argEnv, ev, sput, sputO, binK, binI, unK, builtinK, pickK, Nat.reduceBEq, Nat.reduceAdd, Int.reduceBEq, Int.reduceBNe, Int.reduceLT, aPost, resK, tup, tyf, callK, List.nil_append, List.append_nil, List.toList_toArray, List.cons_append]
  refine (len64_call hx).mono ?_
  rintro _ h ⟨⟨z, rfl⟩, rfl⟩
  first | exact ⟨⟨z, rfl⟩, rfl⟩ | exact ⟨z, rfl⟩

theorem s100_callW [Tabs Tryd.prog] {args : List Value} {h : Heap} {Q : Value → Heap → Prop} (hsz : args.length ≤ 134) (hk : AWS Tryd.prog 134 s100 (aPost Tryd.prog [] Q) (argEnv 0 args) h) : ACall Tryd.prog 100 args h Q :=
  acall_w Tryd.func100 rfl (enters_of Tryd.func100 (by kernel_rfl) rfl) rfl rfl (by decide) s100_strip s100_ok hsz hk
theorem pdqO_call [Tabs prog] {h : Heap} {b : Nat} {L0 : List Nat} {ys : List Int} {z : Int} (hb : h[b]? = some (.ints (iL L0 ++ ys) 3 false)) (hl : L0.length ≤ 12) (hx : ∀ x ∈ L0, x < 4611686018427387904) :
    ACall prog 100 [ov b L0.length ys.length, .int .i64 0, vint L0.length, .int .i64 z] h fun _ h' => ∃ L : List Nat, L.Perm L0 ∧ L.Pairwise (fun a b => a ≤ b) ∧ h' = h.set b (.ints (iL L ++ ys) 3 false) := by
  have hsub : subV .i64 (L0.length : Int) 0 = (L0.length : Int) := by rw [subV_id (by omega) (by omega)]; omega
  have hle : (L0.length : Int) ≤ 12 := by omega
  refine s100_callW (by simp) ?_
  simp only [s100]
  refine aws_cut fun N7 hN7 => ?_
  simp (maxSteps := 2000000) only [s100, ↓aw_region, ↓aw_skip, ↓aw_seq, ↓aw_block, ↓aw_exit, ↓aw_ret, ↓sops_nil, ↓sops_go, ↓dops_nil, ↓dopsX_nil, ↓dopsR_nil, ↓vdn, vup, extr_20, extr_21, extr_30, extr_31, extr_32, List.map_cons, List.map_nil, cond_true, cond_false, aop, aThen, aBlock, argEnv, ev, sput, sputO, binK, binI, unK, builtinK, pickK, Nat.reduceBEq, Nat.reduceAdd, Int.reduceBEq, Int.reduceBNe, Int.reduceLT, aPost, resK, tup, tyf]
  refine hN7 [(0, ov b L0.length ys.length), (1, .int .i64 0), (2, vint L0.length), (3, .int .i64 z), (8, .bool true)] _ _ ?_ (by simp (maxSteps := 2000000) only [↓aw_region, ↓aw_skip, ↓aw_seq, ↓aw_block, ↓aw_exit, ↓aw_ret, ↓sops_nil, ↓sops_go, ↓dops_nil, ↓dopsX_nil, ↓dopsR_nil, ↓vdn, vup, extr_20, extr_21, extr_30, extr_31, extr_32, List.map_cons, List.map_nil, cond_true, cond_false, aop, aThen, aBlock, argEnv, ev, sput, sputO, binK, binI, unK, builtinK, pickK, Nat.reduceBEq, Nat.reduceAdd, Int.reduceBEq, Int.reduceBNe, Int.reduceLT, aPost, resK, tup, tyf])
  clear hN7
  try clear N7
  refine aws_cut fun N8 hN8 => ?_
  simp (maxSteps := 2000000) only [s100, ↓aw_region, ↓aw_skip, ↓aw_seq, ↓aw_block, ↓aw_exit, ↓aw_ret, ↓sops_nil, ↓sops_go, ↓dops_nil, ↓dopsX_nil, ↓dopsR_nil, ↓vdn, vup, extr_20, extr_21, extr_30, extr_31, extr_32, List.map_cons, List.map_nil, cond_true, cond_false, aop, aThen, aBlock, argEnv, ev, sput, sputO, binK, binI, unK, builtinK, pickK, Nat.reduceBEq, Nat.reduceAdd, Int.reduceBEq, Int.reduceBNe, Int.reduceLT, aPost, resK, tup, tyf]
  refine hN8 [(0, ov b L0.length ys.length), (1, .int .i64 0), (2, vint L0.length), (3, .int .i64 z), (8, .bool true), (9, .bool true)] _ _ ?_ (by simp (maxSteps := 2000000) only [↓aw_region, ↓aw_skip, ↓aw_seq, ↓aw_block, ↓aw_exit, ↓aw_ret, ↓sops_nil, ↓sops_go, ↓dops_nil, ↓dopsX_nil, ↓dopsR_nil, ↓vdn, vup, extr_20, extr_21, extr_30, extr_31, extr_32, List.map_cons, List.map_nil, cond_true, cond_false, aop, aThen, aBlock, argEnv, ev, sput, sputO, binK, binI, unK, builtinK, pickK, Nat.reduceBEq, Nat.reduceAdd, Int.reduceBEq, Int.reduceBNe, Int.reduceLT, aPost, resK, tup, tyf])
  clear hN8
  try clear N8
  refine aws_block ?_
  refine aws_hide fun Q hQ => ?_
  refine aw_loopW (γ := Unit) (fun _ => True) (fun _ => ([(0, ov b L0.length ys.length), (1, .int .i64 0), (2, vint L0.length), (3, .int .i64 z), (8, .bool true), (9, .bool true)], h)) (fun _ => 0) () trivial (by simp (maxSteps := 2000000) only [↓aw_region, ↓aw_skip, ↓aw_seq, ↓aw_block, ↓aw_exit, ↓aw_ret, ↓sops_nil, ↓sops_go, ↓dops_nil, ↓dopsX_nil, ↓dopsR_nil, ↓vdn, vup, extr_20, extr_21, extr_30, extr_31, extr_32, List.map_cons, List.map_nil, cond_true, cond_false, aop, aThen, aBlock, argEnv, ev, sput, sputO, binK, binI, unK, builtinK, pickK, Nat.reduceBEq, Nat.reduceAdd, Int.reduceBEq, Int.reduceBNe, Int.reduceLT, aPost, resK, tup, tyf]) rfl ?_
  rintro _ _
  refine aws_hide fun Q2 hQ2 => ?_
  simp only [l100_0]
  refine aws_block ?_
  refine aws_cut fun N9 hN9 => ?_
  simp (maxSteps := 2000000) only [s100, ↓aw_region, ↓aw_skip, ↓aw_seq, ↓aw_block, ↓aw_exit, ↓aw_ret, ↓sops_nil, ↓sops_go, ↓dops_nil, ↓dopsX_nil, ↓dopsR_nil, ↓vdn, vup, extr_20, extr_21, extr_30, extr_31, extr_32, List.map_cons, List.map_nil, cond_true, cond_false, aop, aThen, aBlock, argEnv, ev, sput, sputO, binK, binI, unK, builtinK, pickK, Nat.reduceBEq, Nat.reduceAdd, Int.reduceBEq, Int.reduceBNe, Int.reduceLT, aPost, resK, tup, tyf, hsub]
  refine hN9 [(0, ov b L0.length ys.length), (1, .int .i64 0), (2, vint L0.length), (3, .int .i64 z), (8, .bool true), (9, .bool true), (10, vint L0.length)] _ _ ?_ (by simp (maxSteps := 2000000) only [↓aw_region, ↓aw_skip, ↓aw_seq, ↓aw_block, ↓aw_exit, ↓aw_ret, ↓sops_nil, ↓sops_go, ↓dops_nil, ↓dopsX_nil, ↓dopsR_nil, ↓vdn, vup, extr_20, extr_21, extr_30, extr_31, extr_32, List.map_cons, List.map_nil, cond_true, cond_false, aop, aThen, aBlock, argEnv, ev, sput, sputO, binK, binI, unK, builtinK, pickK, Nat.reduceBEq, Nat.reduceAdd, Int.reduceBEq, Int.reduceBNe, Int.reduceLT, aPost, resK, tup, tyf])
  clear hN9
  try clear N9
  refine aws_cut fun N10 hN10 => ?_
  simp (maxSteps := 2000000) only [s100, ↓aw_region, ↓aw_skip, ↓aw_seq, ↓aw_block, ↓aw_exit, ↓aw_ret, ↓sops_nil, ↓sops_go, ↓dops_nil, ↓dopsX_nil, ↓dopsR_nil, ↓vdn, vup, extr_20, extr_21, extr_30, extr_31, extr_32, List.map_cons, List.map_nil, cond_true, cond_false, aop, aThen, aBlock, argEnv, ev, sput, sputO, binK, binI, unK, builtinK, pickK, Nat.reduceBEq, Nat.reduceAdd, Int.reduceBEq, Int.reduceBNe, Int.reduceLT, aPost, resK, tup, tyf, callK, List.nil_append, List.append_nil, List.toList_toArray, List.cons_append, hle]
  refine (isortO_call hb hl hx).mono ?_
  rintro r h' hr
  refine hQ2 _ _ _ (hQ _ _ _ ?_)
  try simp (maxSteps := 2000000) only [s100, ↓aw_region, ↓aw_skip, ↓aw_seq, ↓aw_block, ↓aw_exit, ↓aw_ret, ↓sops_nil, ↓sops_go, ↓dops_nil, ↓dopsX_nil, ↓dopsR_nil, ↓vdn, vup, extr_20, extr_21, extr_30, extr_31, extr_32, List.map_cons, List.map_nil, cond_true, cond_false, aop, aThen, aBlock, argEnv, ev, sput, sputO, binK, binI, unK, builtinK, pickK, Nat.reduceBEq, Nat.reduceAdd, Int.reduceBEq, Int.reduceBNe, Int.reduceLT, aPost, resK, tup, tyf]
  exact hr
theorem s81_callW [Tabs Tryd.prog] {args : List Value} {h : Heap} {Q : Value → Heap → Prop} (hsz : args.length ≤ 11) (hk : AWS Tryd.prog 11 s81 (aPost Tryd.prog [] Q) (argEnv 0 args) h) : ACall Tryd.prog 81 args h Q :=
  acall_w Tryd.func81 rfl (enters_of Tryd.func81 (by kernel_rfl) rfl) rfl rfl (by decide) s81_strip s81_ok hsz hk
theorem sortO_call [Tabs prog] {h : Heap} {b : Nat} {L0 : List Nat} {ys : List Int} (hb : h[b]? = some (.ints (iL L0 ++ ys) 3 false)) (hl : L0.length ≤ 12) (hx : ∀ x ∈ L0, x < 4611686018427387904) :
    ACall prog 81 [ov b L0.length ys.length] h fun _ h' => ∃ L : List Nat, L.Perm L0 ∧ L.Pairwise (fun a b => a ≤ b) ∧ h' = h.set b (.ints (iL L ++ ys) 3 false) := by
  have hw : IntKind.u64.wrap (L0.length : Int) = (L0.length : Int) := wrapU_id (by omega) (by omega)
  refine s81_callW (by simp) ?_
  simp only [s81]
  refine aws_cut fun N11 hN11 => ?_
  simp (maxSteps := 2000000) only [s81, ↓aw_region, ↓aw_skip, ↓aw_seq, ↓aw_block, ↓aw_exit, ↓aw_ret, ↓sops_nil, ↓sops_go, ↓dops_nil, ↓dopsX_nil, ↓dopsR_nil, ↓vdn, vup, extr_20, extr_21, extr_30, extr_31, extr_32, List.map_cons, List.map_nil, cond_true, cond_false, aop, aThen, aBlock, argEnv, ev, sput, sputO, binK, binI, unK, builtinK, pickK, Nat.reduceBEq, Nat.reduceAdd, Int.reduceBEq, Int.reduceBNe, Int.reduceLT, aPost, resK, tup, tyf, lenK]
  refine hN11 [(0, ov b L0.length ys.length), (2, vint L0.length)] _ _ ?_ (by simp (maxSteps := 2000000) only [↓aw_region, ↓aw_skip, ↓aw_seq, ↓aw_block, ↓aw_exit, ↓aw_ret, ↓sops_nil, ↓sops_go, ↓dops_nil, ↓dopsX_nil, ↓dopsR_nil, ↓vdn, vup, extr_20, extr_21, extr_30, extr_31, extr_32, List.map_cons, List.map_nil, cond_true, cond_false, aop, aThen, aBlock, argEnv, ev, sput, sputO, binK, binI, unK, builtinK, pickK, Nat.reduceBEq, Nat.reduceAdd, Int.reduceBEq, Int.reduceBNe, Int.reduceLT, aPost, resK, tup, tyf])
  clear hN11
  try clear N11
  refine aw_aws ?_
  simp (maxSteps := 2000000) only [s81, ↓aw_region, ↓aw_skip, ↓aw_seq, ↓aw_block, ↓aw_exit, ↓aw_ret, ↓sops_nil, ↓sops_go, ↓dops_nil, ↓dopsX_nil, ↓dopsR_nil, ↓vdn, vup, extr_20, extr_21, extr_30, extr_31, extr_32, List.map_cons, List.map_nil, cond_true, cond_false, aop, aThen, aBlock, argEnv, ev, sput, sputO, binK, binI, unK, builtinK, pickK, Nat.reduceBEq, Nat.reduceAdd, Int.reduceBEq, Int.reduceBNe, Int.reduceLT, aPost, resK, tup, tyf, callK, List.nil_append, List.append_nil, List.toList_toArray, List.cons_append, convK, und_3, und_53, hw]
  refine (len_call (show L0.length < 256 by omega)).mono ?_
  rintro _ h ⟨⟨z, rfl⟩, rfl⟩
  refine (pdqO_call hb hl hx).mono ?_
  rintro r h' hr
  exact hr
end Go.Proofs.Tryd.Am

namespace Go.Proofs.Tryd.Kings

section
variable {α : Type} {p q : α → Bool}
end

/-- Of two, just one beats the other; nobody beats himself. -/
def Trn (n : Nat) (b : Nat → Nat → Bool) : Prop := (∀ i j, i < n → j < n → i ≠ j → b i j = !b j i) ∧ ∀ i, i < n → b i i = false

variable {n : Nat} {b : Nat → Nat → Bool}

end Go.Proofs.Tryd.Kings

namespace Go.Proofs.Tryd.Am
open Go.Am Kings

/-- i beats j. -/
def bb (xs : List Int) (i j : Nat) : Bool := bitI (xs.getD i 0) j

end Go.Proofs.Tryd.Am

namespace Clr
open Go.Am

/-- All cycles, each from its least player on. -/
def cycles (n : Nat) (b : Nat → Nat → Bool) : List (Nat × Nat × Nat) :=
  (List.range n).flatMap fun a => ((List.range n).filter (b a)).flatMap fun x => ((List.range n).filter (b x)).flatMap fun c => if a < x ∧ a < c ∧ b c a = true then [(a, x, c)] else []
/-- Whether a set has all of a cycle. -/
def has (s : Nat) (c : Nat × Nat × Nat) : Bool := s.testBit c.1 && s.testBit c.2.1 && s.testBit c.2.2
/-- A tournament. -/
def Trn (n : Nat) (b : Nat → Nat → Bool) : Prop := (∀ i j, i < n → j < n → i ≠ j → b i j = !b j i) ∧ ∀ i, i < n → b i i = false
def Acy (b : Nat → Nat → Bool) (l : List Nat) : Prop := ∀ p ∈ l, ∀ q ∈ l, ∀ r ∈ l, b p q = true → b q r = true → b r p = true → False

variable {n : Nat} {b : Nat → Nat → Bool}
/-- The set of a list. -/
def setL (l : List Nat) : Nat := l.foldl (fun s x => s ||| 2 ^ x) 0
/-- One before, or behind, all of some without a cycle. -/
theorem acy_top (ht : Trn n b) {x : Nat} {l : List Nat} (hx : x < n) (hl : ∀ y ∈ l, y < n) (ha : Acy b l) (h : (∀ y ∈ l, b x y = true) ∨ ∀ y ∈ l, b x y = false) (hn : x ∉ l) : Acy b (x :: l) := by
  have hxx := ht.2 x hx
  have hsw : ∀ y ∈ l, b y x = !b x y := fun y hy => ht.1 y x (hl y hy) hx fun e => hn (e ▸ hy)
  intro p hp q hq r hr h1 h2 h3
  have key : ∀ u v w : Nat, u = x → v ∈ x :: l → w ∈ x :: l → b u v = true → b v w = true → b w u = true → False := by
    rintro u v w rfl hv hw g1 g2 g3
    have hv' : v ∈ l := (List.mem_cons.1 hv).resolve_left fun e => by rw [e, hxx] at g1; cases g1
    have hw' : w ∈ l := (List.mem_cons.1 hw).resolve_left fun e => by rw [e, hxx] at g3; cases g3
    rcases h with h | h
    · rw [hsw w hw', h w hw'] at g3; cases g3
    · rw [h v hv'] at g1; cases g1
  by_cases hpx : p = x
  · exact key p q r hpx hq hr h1 h2 h3
  · by_cases hqx : q = x
    · exact key q r p hqx hr hp h2 h3 h1
    · by_cases hrx : r = x
      · exact key r p q hrx hp hq h3 h1 h2
      · exact ha p ((List.mem_cons.1 hp).resolve_left hpx) q ((List.mem_cons.1 hq).resolve_left hqx) r ((List.mem_cons.1 hr).resolve_left hrx) h1 h2 h3
/-- Of a list half stands on one side. -/
theorem side (f : Nat → Bool) : ∀ l : List Nat, (l.filter f).length + (l.filter fun x => !f x).length = l.length
  | [] => rfl
  | x :: l => by
    have := side f l
    rw [List.filter_cons, List.filter_cons]
    cases f x <;> simp <;> omega
/-- Of 2 k - 1 others at least k on one side of x: then those without a cycle among k go with x. -/
theorem grow (ht : Trn n b) {k m : Nat} (hk : ∀ l : List Nat, (∀ x ∈ l, x < n) → l.Nodup → k ≤ l.length → ∃ l', (∀ x ∈ l', x ∈ l) ∧ l'.Nodup ∧ Acy b l' ∧ l'.length = m) {l : List Nat} (hl : ∀ x ∈ l, x < n) (hd : l.Nodup) (hlen : 2 * k ≤ l.length) (hk0 : 0 < k) :
    ∃ l', (∀ x ∈ l', x ∈ l) ∧ l'.Nodup ∧ Acy b l' ∧ l'.length = m + 1 := by
  cases l with
  | nil => simp at hlen; omega
  | cons x l =>
    have hx := List.nodup_cons.1 hd
    have hs := side (b x) l
    simp only [List.length_cons] at hlen
    have hx' := hl x (by simp)
    have hl' : ∀ y ∈ l, y < n := fun y hy => hl y (by simp [hy])
    have fin : ∀ F : List Nat, (∀ y ∈ F, y ∈ l) → F.Nodup → ((∀ y ∈ F, b x y = true) ∨ ∀ y ∈ F, b x y = false) → k ≤ F.length → ∃ l', (∀ y ∈ l', y ∈ x :: l) ∧ l'.Nodup ∧ Acy b l' ∧ l'.length = m + 1 := by
      intro F h1 h2 h3 h4
      obtain ⟨l', g1, g2, g3, g4⟩ := hk F (fun y hy => hl' y (h1 y hy)) h2 h4
      have hxl : x ∉ l' := fun h => hx.1 (h1 x (g1 x h))
      refine ⟨x :: l', fun y hy => ?_, List.nodup_cons.2 ⟨hxl, g2⟩, acy_top ht hx' (fun y hy => hl' y (h1 y (g1 y hy))) g3 (h3.imp (fun h y hy => h y (g1 y hy)) fun h y hy => h y (g1 y hy)) hxl, by simp [g4]⟩
      rcases List.mem_cons.1 hy with rfl | h
      · simp
      · simp [h1 y (g1 y h)]
    by_cases hA : k ≤ (l.filter (b x)).length
    · exact fin _ (fun y hy => (List.mem_filter.1 hy).1) (hx.2.filter _) (.inl fun y hy => (List.mem_filter.1 hy).2) hA
    · exact fin (l.filter fun y => !b x y) (fun y hy => (List.mem_filter.1 hy).1) (hx.2.filter _) (.inr fun y hy => by simpa using (List.mem_filter.1 hy).2) (by omega)
end Clr

namespace Go.Proofs.Tryd.Am
open Go.Am
set_option maxRecDepth 100000
set_option maxHeartbeats 1000000

theorem trn_len {xs : List Int} (h : trn xs = true) : 1 ≤ xs.length ∧ xs.length ≤ 8 := by
  simp only [trn, Bool.and_eq_true, decide_eq_true_eq] at h; exact h.1
end Go.Proofs.Tryd.Am
