/-
  ranks: the search for a way: walk and its function literal.
  ranks: copies of slices: slices.Clone, the laws' own list.
  ranks: the first way found: walk, and the functions that stand on it.
  ranks: the size of a set, and Kings.
  ranks: the laws' own search: R.way, R.Way, R.Round.
  ranks: both searches come to the same way; the law RanksWays.
  Kings of a tournament: plain counting. Whoever beats the most reaches all in two; who is beaten is beaten by a king.
  ranks: the set that Kings returns is that of the kings; how many they are.
  ranks: the tournament without its last player; the cycles as ints.
  The number of ways through a tournament is odd (Rédei): plain counting.
  ranks: the ways of a tournament counted: an odd number; so the search finds one, and what it finds is a way.
  Best orders, plain: the least number of pairs that the players who are left bring, and the first order that brings no more.
  ranks: how many pairs an order goes against, plain.
  Printed by gen.py: the code of some functions, without what no step looks at; held against the program's own by the kernel.
  Printed by gen.py: the code of some functions, without what no step looks at; held against the program's own by the kernel.
  ranks: how many elements a set has, by the library.
  ranks: how many pairs an order goes against, by the program and by the reference.
  Orders and the pairs that they go against, plain: the least cost; one result turned; a tournament without a cycle.
  Printed by gen.py: the code of some functions, without what no step looks at; held against the program's own by the kernel.
  ranks: the cycles; whether a set has one; how many a set has.
  ranks: Clear and Cycles.
  ranks: slices of pairs: copies, whether a pair is in one.
  ranks: Turn.
  ranks: the first best order, as the reference finds it.
  ranks: what the orders and the turned results are, plain.
  ranks: results turned, bit by bit; the law RanksFewer's plain part.
  Printed by gen.py: the code of some functions, without what no step looks at; held against the program's own by the kernel.
  ranks: who is reached from a player: both ways of counting.
  ranks: the parts, as the program's map and its sort make them (plain).
  ranks: the first best order, as the program finds it: a table of what the players who are left bring.
  Printed by gen.py: the code of some functions, without what no step looks at; held against the program's own by the kernel.
  The best order, plain: each one beats the next; it is the first of the best; the pairs that it goes against.
  ranks: slices.Compare of two slices of ints.
  Printed by gen.py: the code of some functions, without what no step looks at; held against the program's own by the kernel.
  Printed by gen.py: the code of some functions, without what no step looks at; held against the program's own by the kernel.
  ranks: the library's sort of a short slice (insertion), with a key.
  ranks: the library's sort of a short slice: what stands ahead of the insertion; the stable sort by a function.
  ranks, plain: which numbers are the scores of a tournament: the greatest one taken away, and the sums of the least ones (Landau). What is decided of the short lists is decided by the kernel.
  ranks: the scores, rising.
  ranks: the kings and the parts, as the reference finds them.
  ranks: the parts, as the reference finds them.
  Packings, plain: the search with a bound finds a greatest one.
  ranks: a packing has no more cycles than an order goes against pairs; the best order's neighbours; the first of the best.
  ranks, plain: the parts stand together in the best order.
-/
import Derived.Test.YtemmcfeekpblkaaDoorPk4
import Derived.Test.YtemmcfeekpblkaaDoorPk5
import Derived.Test.YtemmcfeekpblkaaDoorPk3
import Derived.Test.YtemmcfeekpblkaaDoorProg
import Derived.KernelRfl
import Derived.Shelf.Abstract
set_option linter.all false
namespace Go.Proofs.Tryd.Am
open Go.Am
set_option maxRecDepth 100000

/-- The first way that goes on from cur through players of a set. -/
def grow (xs : List Int) (size : Nat) (is : List Int → Bool) : Nat → List Int → Nat → Option (List Int)
  | 0, _, _ => none
  | n + 1, cur, left => if cur.length = size then (if is cur then some cur else none) else
    firstOf (fun (i : Nat) => if cur ≠ [] ∧ bitI (xs.getD (cur.getD (cur.length - 1) 0).toNat 0) i = false then none else grow xs size is n (cur ++ [(i : Int)]) (less left (2 ^ i))) (Am.bits left)

/-- The boxes of the search. -/
structure Boxes (h : Heap) (bl bs bi bt bg : Nat) (size : Nat) (isv tv : Value) : Prop where
  size : h[bs]? = some (.cells [vint size] 3 false)
  is : h[bi]? = some (.cells [isv] 27 false)
  t : h[bt]? = some (.cells [tv] 55 false)
  grow : h[bg]? = some (.cells [.func (.func 92) #[] #[.pointer (some ⟨bl, 0, none⟩), .pointer (some ⟨bs, 0, none⟩), .pointer (some ⟨bi, 0, none⟩), .pointer (some ⟨bt, 0, none⟩), .pointer (some ⟨bg, 0, none⟩)]] 79 false)

/-- The search under way: the blocks I lie as in h0; l's box holds lv, a slice of our own that reads cur. -/
structure GS (I : Nat → Prop) (h0 : Heap) (bl : Nat) (h : Heap) (lv : Value) (cur : List Int) : Prop where
  len : h0.length ≤ h.length
  keep : ∀ i, I i → h[i]? = h0[i]?
  l : h[bl]? = some (.cells [lv] 22 false)
  own : OwnSl 3 h lv cur
  nl : ¬ I bl
  apart : ∀ b, blkOf lv = some b → ¬ I b ∧ b ≠ bl
  low : ∀ i, I i → i < h0.length

/-- More blocks: the search stands as it stood. -/
theorem GS.app {I : Nat → Prop} {h0 h : Heap} {bl : Nat} {lv : Value} {cur : List Int} (s : GS I h0 bl h lv cur) (g : Heap) : GS I h0 bl (h ++ g) lv cur where
  len := by have := s.len; simp; omega
  keep i hi := by rw [List.getElem?_append_left (Nat.lt_of_lt_of_le (s.low i hi) s.len)]; exact s.keep i hi
  l := get_old s.l g
  own := s.own.ext (S := fun _ => False) (Ext.app _ _ _) (fun _ _ h => h)
  nl := s.nl
  apart := s.apart
  low := s.low

/-- What the closure asked at a whole way answers. -/
def IsOk [Tabs prog] (I : Nat → Prop) (h0 : Heap) (isv : Value) (is : List Int → Bool) (size n : Nat) : Prop :=
  ∃ g cap, isv = .func (.func g) #[] cap ∧ ∀ h, h0.length ≤ h.length → (∀ i, I i → h[i]? = h0[i]?) → ∀ v l, IntSl h v l → l.length = size → (∀ x ∈ l, ∃ i : Nat, x = i ∧ i < n) → APure prog g ([v] ++ cap.toList) h (.bool (is l))

/-- A heap that turned elsewhere: the search stands as it stood. -/
theorem GS.ext {I : Nat → Prop} {h0 h h' : Heap} {bl : Nat} {lv : Value} {cur : List Int} {S : Nat → Prop} (s : GS I h0 bl h lv cur) (hx : Ext S h h') (h1 : ∀ i, I i → ¬ S i) (h2 : ¬ S bl) (h3 : ∀ b, blkOf lv = some b → ¬ S b) : GS I h0 bl h' lv cur where
  len := Nat.le_trans s.len hx.1
  keep i hi := (hx.2 i (Nat.lt_of_lt_of_le (s.low i hi) s.len) (h1 i hi)).trans (s.keep i hi)
  l := (hx.2 bl (get_lt s.l) h2).trans s.l
  own := s.own.ext hx h3
  nl := s.nl
  apart := s.apart
  low := s.low

/-- A new list in l's box. -/
theorem GS.store {I : Nat → Prop} {h0 h h1 : Heap} {bl : Nat} {lv lv' : Value} {cur cur' : List Int} (s : GS I h0 bl h lv cur) (hx : Ext (fun i => blkOf lv = some i) h h1) (ho : OwnSl 3 h1 lv' cur') (hb : blkOf lv' = blkOf lv ∨ ∃ b, blkOf lv' = some b ∧ h.length ≤ b) :
    GS I h0 bl (h1.set bl (.cells [lv'] 22 false)) lv' cur' where
  len := by have := s.len; have := hx.1; simp; omega
  keep i hi := by
    have hl := Nat.lt_of_lt_of_le (s.low i hi) s.len
    rw [List.getElem?_set_ne (fun h => s.nl (by rw [h]; exact hi)), hx.2 i hl (fun h => (s.apart i h).1 hi)]
    exact s.keep i hi
  l := get_set (Nat.lt_of_lt_of_le (get_lt s.l) hx.1) _
  own := ho.ext (S := fun i => i = bl) (Ext.set _ rfl) fun b hbb => by
    rintro rfl
    rcases hb with h | ⟨b', h, hl⟩
    · exact (s.apart _ (h ▸ hbb)).2 rfl
    · rw [h] at hbb; cases hbb; have := get_lt s.l; omega
  nl := s.nl
  apart b hbb := by
    rcases hb with h | ⟨b', h, hl⟩
    · exact s.apart b (h ▸ hbb)
    · rw [h] at hbb; cases hbb
      exact ⟨fun hi => by have := s.low _ hi; have := s.len; omega, fun he => by have := get_lt s.l; omega⟩
  low := s.low

/-- A run of the function literal under way: its boxes (left, the answer) stand at the end of the heap h that it found. -/
structure RS (I : Nat → Prop) (h0 : Heap) (bl : Nat) (h : Heap) (lv0 : Value) (left : Nat) (res : Bool) (h' : Heap) (lv : Value) (cur : List Int) : Prop where
  gs : GS I h0 bl h' lv cur
  low : h0.length ≤ h.length
  lt : bl < h.length
  bx : h'[h.length]? = some (.cells [vint left] 3 false)
  rs : h'[h.length + 1]? = some (.cells [.bool res] 4 false)
  ext : Ext (fun i => i = bl ∨ blkOf lv0 = some i) h h'
  blk : blkOf lv = blkOf lv0 ∨ ∃ b, blkOf lv = some b ∧ h.length ≤ b

section
variable {I : Nat → Prop} {h0 h h' h1 : Heap} {bl left : Nat} {lv0 lv lv' : Value} {cur cur' : List Int} {res : Bool}
theorem RS.of (s : GS I h0 bl h lv cur) : RS I h0 bl h lv left res (h ++ [.cells [vint left] 3 false] ++ [.cells [.bool res] 4 false]) lv cur where
  gs := by rw [List.append_assoc]; exact s.app _
  low := s.len
  lt := get_lt s.l
  bx := by simp
  rs := by simp
  ext := by rw [List.append_assoc]; exact Ext.app _ _ _
  blk := .inl rfl
/-- A step that keeps the boxes, and touches but the list. -/
theorem RS.go (s : RS I h0 bl h lv0 left res h' lv cur) (g : GS I h0 bl h1 lv' cur') (hx : Ext (fun i => i = bl ∨ blkOf lv = some i) h' h1) (hb : blkOf lv' = blkOf lv ∨ ∃ b, blkOf lv' = some b ∧ h'.length ≤ b) : RS I h0 bl h lv0 left res h1 lv' cur' where
  gs := g
  low := s.low
  lt := s.lt
  bx := by
    rw [hx.2 _ (get_lt s.bx) (by rintro (h | h); exact absurd s.lt (by omega); exact s.gs.own.notCells s.bx h)]; exact s.bx
  rs := by
    rw [hx.2 _ (get_lt s.rs) (by rintro (h | h); exact absurd s.lt (by omega); exact s.gs.own.notCells s.rs h)]; exact s.rs
  ext := ⟨Nat.le_trans s.ext.1 hx.1, fun i hi hs => by
    rw [hx.2 i (Nat.lt_of_lt_of_le hi s.ext.1), s.ext.2 i hi hs]
    rintro (rfl | h)
    · exact hs (.inl rfl)
    · rcases s.blk with h2 | ⟨b, h2, h3⟩
      · exact hs (.inr (h2 ▸ h))
      · rw [h2] at h; cases h; omega⟩
  blk := by
    have := s.ext.1
    rcases hb with h | ⟨b, h, h2⟩
    · rw [h]; exact s.blk
    · exact .inr ⟨b, h, by omega⟩
theorem RS.app (s : RS I h0 bl h lv0 left res h' lv cur) (g : Heap) : RS I h0 bl h lv0 left res (h' ++ g) lv cur := s.go (s.gs.app g) (Ext.app _ _ _) (.inl rfl)
/-- A block of no concern turns. -/
theorem RS.else (s : RS I h0 bl h lv0 left res h' lv cur) {j : Nat} {B : Blk} (hj : h.length + 2 ≤ j) (hl : blkOf lv ≠ some j) : RS I h0 bl h lv0 left res (h'.set j B) lv cur := by
  have hlen := s.low
  have hext := s.ext.1
  have hx : Ext (fun i => i = j) h' (h'.set j B) := Ext.set _ rfl
  have hbl := s.lt
  refine ⟨s.gs.ext hx (fun i hi he => by have := s.gs.low i hi; omega) (by omega) (fun b hb he => hl (he ▸ hb)), s.low, s.lt, by rw [List.getElem?_set_ne (by omega)]; exact s.bx, by rw [List.getElem?_set_ne (by omega)]; exact s.rs, ?_, s.blk⟩
  exact ⟨by simp; exact hext, fun i hi hs => by rw [List.getElem?_set_ne (by omega)]; exact s.ext.2 i hi hs⟩
theorem RS.store (s : RS I h0 bl h lv0 left res h' lv cur) (hx : Ext (fun i => blkOf lv = some i) h' h1) (ho : OwnSl 3 h1 lv' cur') (hb : blkOf lv' = blkOf lv ∨ ∃ b, blkOf lv' = some b ∧ h'.length ≤ b) :
    RS I h0 bl h lv0 left res (h1.set bl (.cells [lv'] 22 false)) lv' cur' :=
  s.go (s.gs.store hx ho hb) ((hx.mono fun _ h => .inr h).trans (Ext.set _ (.inl rfl))) hb
/-- The answer is set. -/
theorem RS.ans (s : RS I h0 bl h lv0 left res h' lv cur) (r : Bool) : RS I h0 bl h lv0 left r (h'.set (h.length + 1) (.cells [.bool r] 4 false)) lv cur := by
  have hx : Ext (fun i => i = h.length + 1) h' (h'.set (h.length + 1) (.cells [.bool r] 4 false)) := Ext.set _ rfl
  have hbl := s.lt
  have hlow := s.low
  refine ⟨s.gs.ext hx (fun i hi he => by have := s.gs.low i hi; omega) (by omega) (fun b hb he => s.gs.own.notCells s.rs (he ▸ hb)), s.low, s.lt, by rw [List.getElem?_set_ne (by omega)]; exact s.bx, get_set (get_lt s.rs) _, ?_, s.blk⟩
  exact ⟨by simp; exact s.ext.1, fun i hi hs => by rw [List.getElem?_set_ne (by omega)]; exact s.ext.2 i hi hs⟩
theorem RS.box (s : RS I h0 bl h lv0 left res h' lv cur) {i : Nat} {B : Blk} (hi : I i) (hb : h0[i]? = some B) : h'[i]? = some B := (s.gs.keep i hi).trans hb
end

theorem trn_at {xs : List Int} (h : trn xs = true) {i : Nat} (hi : i < xs.length) : 0 ≤ xs.getD i 0 ∧ xs.getD i 0 < 9223372036854775808 := by
  simp only [trn, Bool.and_eq_true, decide_eq_true_eq, List.all_eq_true, List.mem_range] at h
  have h2 := h.2 i hi
  rw [okAt, Bool.and_eq_true, Bool.and_eq_true, Bool.and_eq_true, decide_eq_true_eq, decide_eq_true_eq] at h2
  have := pow8 h.1.2
  exact ⟨h2.1.1.1, by have := h2.1.1.2; omega⟩

theorem lit1 {h : Heap} {x : Int} (K : Value → Heap → Prop) : buildSliceK prog h 22 1 [(0, vint x)] K = K (.slice (some ⟨h.length, 0, none⟩) 1 1) (h ++ [.ints [x] 3 false]) := by
  simp only [buildSliceK, el_22, zero_3, esz_3, reps, fillL, mkb, intsOf, notTuple, cellsOf, List.length_singleton, Nat.mul_one, Nat.zero_mul, Nat.zero_add]
  exact propext ⟨fun h => h.2.2.2, fun h => ⟨trivial, Nat.zero_lt_one, by decide, h⟩⟩

theorem grow_call [BitTab prog 1] {I : Nat → Prop} {h0 : Heap} {bl bs bi bt bg size : Nat} {isv tv : Value} {xs : List Int} {is : List Int → Bool} (hb : Boxes h0 bl bs bi bt bg size isv tv) (hI : I bs ∧ I bi ∧ I bt ∧ I bg ∧ ∀ b, blkOf tv = some b → I b)
    (ht : IntSl h0 tv xs) (hx : trn xs = true) (hsz : size ≤ xs.length) (his : IsOk I h0 isv is size xs.length) :
    ∀ (n : Nat) (cur : List Int) (left : Nat) (h : Heap) (lv : Value), GS I h0 bl h lv cur → left < 2 ^ xs.length → (∀ x ∈ cur, ∃ i : Nat, x = i ∧ i < xs.length) → cur.length ≤ size → left < n →
      ACall prog 92 [vint left, .pointer (some ⟨bl, 0, none⟩), .pointer (some ⟨bs, 0, none⟩), .pointer (some ⟨bi, 0, none⟩), .pointer (some ⟨bt, 0, none⟩), .pointer (some ⟨bg, 0, none⟩)] h fun r h' =>
        ∃ lv', (match grow xs size is n cur left with | none => r = .bool false ∧ GS I h0 bl h' lv' cur | some l => r = .bool true ∧ GS I h0 bl h' lv' l) ∧ Ext (fun i => i = bl ∨ blkOf lv = some i) h h' ∧ (blkOf lv' = blkOf lv ∨ ∃ b, blkOf lv' = some b ∧ h.length ≤ b) := by
  intro n
  induction n with
  | zero => intro cur left h lv gs hlt hcur hcl hn; omega
  | succ n ih =>
    intro cur left h lv gs hlt hcur hcl hn
    refine s92_call (by simp) ?_
    simp (maxSteps := 2000000) only [↓aw_region, ↓aw_skip, ↓aw_seq, ↓aw_block, ↓aw_exit, ↓aw_ret, ↓sops_nil, ↓sops_go, ↓dops_nil, ↓dopsX_nil, ↓dopsR_nil, ↓vdn, vup, extr_20, extr_21, extr_30, extr_31, extr_32, List.map_cons, List.map_nil, cond_true, cond_false, aop, aThen, aBlock, argEnv, ev, sput, sputO, binK, binI, unK, builtinK, pickK, Nat.reduceBEq, Nat.reduceAdd, Int.reduceBEq, Int.reduceBNe, Int.reduceLT, aPost, resK, tup, tyf, s92, ↓aw_region, boxK, allocK, cellsOf, Option.isSome_some, newPtr, List.length_append, List.length_singleton]
    have rs0 := RS.of (left := left) (res := false) gs
    generalize h ++ [.cells [vint left] 3 false] ++ [.cells [.bool false] 4 false] = h2 at rs0 ⊢
    have ld : ∀ (h2 : Heap) lv2 cur2 res2, RS I h0 bl h lv left res2 h2 lv2 cur2 → (∀ K, loadK prog h2 22 (.pointer (some ⟨bl, 0, none⟩)) K = K lv2) ∧ (∀ K, loadK prog h2 3 (.pointer (some ⟨bs, 0, none⟩)) K = K (vint size)) ∧ (∀ K, loadK prog h2 27 (.pointer (some ⟨bi, 0, none⟩)) K = K isv) ∧
        (∀ K, loadK prog h2 55 (.pointer (some ⟨bt, 0, none⟩)) K = K tv) ∧ (∀ K, loadK prog h2 79 (.pointer (some ⟨bg, 0, none⟩)) K = K (.func (.func 92) #[] #[.pointer (some ⟨bl, 0, none⟩), .pointer (some ⟨bs, 0, none⟩), .pointer (some ⟨bi, 0, none⟩), .pointer (some ⟨bt, 0, none⟩), .pointer (some ⟨bg, 0, none⟩)])) ∧
        (∀ K, loadK prog h2 3 (.pointer (some ⟨h.length, 0, none⟩)) K = K (vint left)) ∧ (∀ K, loadK prog h2 4 (.pointer (some ⟨h.length + 1, 0, none⟩)) K = K (.bool res2)) ∧ IntSl h2 tv xs := fun h2 lv2 cur2 res2 s =>
      ⟨fun K => load1 s.gs.l shp_22 K, fun K => load1 (s.box hI.1 hb.size) shp_3 K, fun K => load1 (s.box hI.2.1 hb.is) shp_27 K, fun K => load1 (s.box hI.2.2.1 hb.t) shp_55 K, fun K => load1 (s.box hI.2.2.2.1 hb.grow) shp_79 K, fun K => load1 s.bx shp_3 K, fun K => load1 s.rs shp_4 K, ht.same fun b hbb => s.gs.keep b (hI.2.2.2.2 b hbb)⟩
    obtain ⟨l1, l2, l3, l4, l5, l6, l7, ht2⟩ := ld h2 lv cur false rs0
    have hlen : cur.length ≤ 8 := by
      have : xs.length ≤ 8 := by simp only [trn, Bool.and_eq_true, decide_eq_true_eq] at hx; omega
      omega
    by_cases hc : cur.length = size
    · have hce : ((cur.length : Int) == size) = true := by simp [hc]
      obtain ⟨g, cap, rfl, hgo⟩ := his
      simp (maxSteps := 2000000) only [s92, ↓aw_region, ↓aw_skip, ↓aw_seq, ↓aw_block, ↓aw_exit, ↓aw_ret, ↓sops_nil, ↓sops_go, ↓dops_nil, ↓dopsX_nil, ↓dopsR_nil, ↓vdn, vup, extr_20, extr_21, extr_30, extr_31, extr_32, List.map_cons, List.map_nil, cond_true, cond_false, aop, aThen, aBlock, argEnv, ev, sput, sputO, binK, binI, unK, builtinK, pickK, Nat.reduceBEq, Nat.reduceAdd, Int.reduceBEq, Int.reduceBNe, Int.reduceLT, aPost, resK, tup, tyf, l1, l2, l3, rs0.gs.own.int.len, hce, callK, List.nil_append, List.toList_toArray]
      refine (hgo h2 rs0.gs.len rs0.gs.keep lv cur rs0.gs.own.int hc hcur).mono ?_
      rintro v h3 ⟨rfl, rfl⟩
      have rs1 := rs0.ans (is cur)
      obtain ⟨_, _, _, _, _, _, k7, _⟩ := ld _ lv cur (is cur) rs1
      simp (maxSteps := 2000000) only [s92, ↓aw_region, ↓aw_skip, ↓aw_seq, ↓aw_block, ↓aw_exit, ↓aw_ret, ↓sops_nil, ↓sops_go, ↓dops_nil, ↓dopsX_nil, ↓dopsR_nil, ↓vdn, vup, extr_20, extr_21, extr_30, extr_31, extr_32, List.map_cons, List.map_nil, cond_true, cond_false, aop, aThen, aBlock, argEnv, ev, sput, sputO, binK, binI, unK, builtinK, pickK, Nat.reduceBEq, Nat.reduceAdd, Int.reduceBEq, Int.reduceBNe, Int.reduceLT, aPost, resK, tup, tyf, storeB rs0.rs shp_4, k7]
      refine ⟨lv, ?_, rs1.ext, .inl rfl⟩
      simp only [grow, hc, if_true]
      cases his : is cur with
      | true => exact ⟨rfl, his ▸ rs1.gs⟩
      | false => exact ⟨rfl, his ▸ rs1.gs⟩
    · have hce : ((cur.length : Int) == size) = false := by simp; omega
      have hxl : xs.length ≤ 8 := by simp only [trn, Bool.and_eq_true, decide_eq_true_eq] at hx; omega
      have hpow : 2 ^ xs.length ≤ 2 ^ 8 := Nat.pow_le_pow_right (by decide) hxl
      have hleft : left < 2 ^ 63 := by omega
      simp (maxSteps := 2000000) only [s92, ↓aw_region, ↓aw_skip, ↓aw_seq, ↓aw_block, ↓aw_exit, ↓aw_ret, ↓sops_nil, ↓sops_go, ↓dops_nil, ↓dopsX_nil, ↓dopsR_nil, ↓vdn, vup, extr_20, extr_21, extr_30, extr_31, extr_32, List.map_cons, List.map_nil, cond_true, cond_false, aop, aThen, aBlock, argEnv, ev, sput, sputO, binK, binI, unK, builtinK, pickK, Nat.reduceBEq, Nat.reduceAdd, Int.reduceBEq, Int.reduceBNe, Int.reduceLT, aPost, resK, tup, tyf, l1, l2, l6, rs0.gs.own.int.len, hce, callK, List.nil_append, List.append_nil]
      refine players_call.mono ?_
      rintro v h3 ⟨rfl, rfl⟩
      simp (maxSteps := 2000000) only [s92, ↓aw_region, ↓aw_skip, ↓aw_seq, ↓aw_block, ↓aw_exit, ↓aw_ret, ↓sops_nil, ↓sops_go, ↓dops_nil, ↓dopsX_nil, ↓dopsR_nil, ↓vdn, vup, extr_20, extr_21, extr_30, extr_31, extr_32, List.map_cons, List.map_nil, cond_true, cond_false, aop, aThen, aBlock, argEnv, ev, sput, sputO, binK, binI, unK, builtinK, pickK, Nat.reduceBEq, Nat.reduceAdd, Int.reduceBEq, Int.reduceBNe, Int.reduceLT, aPost, resK, tup, tyf, newPtr]
      refine aw_hide fun Q hQ => ?_
      have hlow2 : h.length + 2 ≤ h2.length := by have := get_lt rs0.rs; omega
      have rs1 : RS I h0 bl h lv left false ((h2 ++ [Blk.cells [vint left] 3 false]).set h2.length Blk.dead) lv cur :=
        (rs0.app _).else hlow2 fun hb => by have := rs0.gs.own.lt hb; omega
      let F : Nat → Option (List Int) := fun i => if cur ≠ [] ∧ bitI (xs.getD (cur.getD (cur.length - 1) 0).toNat 0) i = false then none else grow xs size is n (cur ++ [(i : Int)]) (less left (2 ^ i))
      have hgrow : grow xs size is (n + 1) cur left = firstOf F (Am.bits left) := by simp only [grow, hc, if_false]; rfl
      refine aw_range bitIter (bx := h2.length) (s := left) (et := 3) rfl (get_new _ _) hleft (fun pre hk => (∀ y ∈ pre, F y = none) ∧ ∃ lv', RS I h0 bl h lv left false hk lv' cur) ⟨fun _ h => (by cases h), lv, rs1⟩ ?_ ?_
      · rintro pre x hk hpre ⟨hnone, lv2, rs⟩
        obtain ⟨hx64, hxb⟩ := mem_bits.1 (mem_pre hpre)
        have hxn : x < xs.length := by
          rcases Nat.lt_or_ge x xs.length with h | h
          · exact h
          · rw [Nat.testBit_lt_two_pow (Nat.lt_of_lt_of_le hlt (Nat.pow_le_pow_right (by decide) h))] at hxb; cases hxb
        have next : F x = none → ∀ y ∈ pre ++ [x], F y = none := fun hF y hy => by
          rcases List.mem_append.1 hy with h | h
          · exact hnone y h
          · rw [List.mem_singleton.1 h]; exact hF
        obtain ⟨k1, k2, k3, k4, k5, k6, k7, kt⟩ := ld hk lv2 cur false rs
        simp (maxSteps := 2000000) only [s92, ↓aw_region, ↓aw_skip, ↓aw_seq, ↓aw_block, ↓aw_exit, ↓aw_ret, ↓sops_nil, ↓sops_go, ↓dops_nil, ↓dopsX_nil, ↓dopsR_nil, ↓vdn, vup, extr_20, extr_21, extr_30, extr_31, extr_32, List.map_cons, List.map_nil, cond_true, cond_false, aop, aThen, aBlock, argEnv, ev, sput, sputO, binK, binI, unK, builtinK, pickK, Nat.reduceBEq, Nat.reduceAdd, Int.reduceBEq, Int.reduceBNe, Int.reduceLT, aPost, resK, tup, tyf, r92_0_a, r92_0_b]
        refine aw_drawX [(12, 4)] (by kernel_rfl) (by kernel_rfl) (by kernel_rfl) (by kernel_rfl) ?_
        have hsub : cur ≠ [] → subV .i64 cur.length 1 = ((cur.length - 1 : Nat) : Int) := fun h => by
          have := List.length_pos_iff.2 h
          rw [subV_id (by omega) (by omega)]; omega
        have goOn : (cur ≠ [] ∧ bitI (xs.getD (cur.getD (cur.length - 1) 0).toNat 0) x = false) = False → F x = grow xs size is n (cur ++ [(x : Int)]) (less left (2 ^ x)) := fun h => by simp only [F]; rw [if_neg (by rw [h]; exact id)]
        have hcur' : ∀ y ∈ cur ++ [(x : Int)], ∃ i : Nat, y = i ∧ i < xs.length := fun y hy => by
          rcases List.mem_append.1 hy with h | h
          · exact hcur y h
          · exact ⟨x, List.mem_singleton.1 h, hxn⟩
        have hshl : shlV .i64 1 x = 2 ^ x := shl1 (by omega)
        have hand : bitsV .andNot .i64 (left : Int) (2 ^ x) = ((less left (2 ^ x) : Nat) : Int) := by
          have := bitsV_andNot (a := left) (b := 2 ^ x) (by omega) (Nat.lt_of_lt_of_le (Nat.pow_lt_pow_right (by decide) (show x < 62 by omega)) (by decide))
          simpa using this
        have hend : ∀ {P1 : Prop}, (cur = [] → P1) → (∀ i : Nat, cur ≠ [] → cur.getD (cur.length - 1) 0 = i → i < xs.length → bitI (xs.getD i 0) x = true → P1) → (∀ i : Nat, cur ≠ [] → cur.getD (cur.length - 1) 0 = i → i < xs.length → bitI (xs.getD i 0) x = false → P1) → P1 := by
          intro P1 a b c
          by_cases he : cur = []
          · exact a he
          · have hpos := List.length_pos_iff.2 he
            obtain ⟨i, hi, hin⟩ := hcur (cur.getD (cur.length - 1) 0) (by rw [List.getD, List.getElem?_eq_getElem (by omega)]; exact List.getElem_mem _)
            cases hbt : bitI (xs.getD i 0) x with
            | true => exact b i he hi hin hbt
            | false => exact c i he hi hin hbt
        refine hend (fun he => ?_) (fun i he hi hin hbt => ?_) (fun i he hi hin hbt => ?_)
        rotate_left 2
        · have hpos := List.length_pos_iff.2 he
          obtain ⟨hb1, hb2⟩ := trn_at hx hin
          simp (maxSteps := 2000000) only [s92, ↓aw_region, ↓aw_skip, ↓aw_seq, ↓aw_block, ↓aw_exit, ↓aw_ret, ↓sops_nil, ↓sops_go, ↓dops_nil, ↓dopsX_nil, ↓dopsR_nil, ↓vdn, vup, extr_20, extr_21, extr_30, extr_31, extr_32, List.map_cons, List.map_nil, cond_true, cond_false, aop, aThen, aBlock, argEnv, ev, sput, sputO, binK, binI, unK, builtinK, pickK, Nat.reduceBEq, Nat.reduceAdd, Int.reduceBEq, Int.reduceBNe, Int.reduceLT, aPost, resK, tup, tyf, k1, k4, rs.gs.own.int.len, Int.natCast_pos.2 hpos, hsub he, rs.gs.own.int.idx el_22 esz_3 (show cur.length - 1 < cur.length by omega), rs.gs.own.int.load shp_3 (show cur.length - 1 < cur.length by omega), hi, callK, List.nil_append, List.append_nil, gt_iff_lt]
          refine (beats_call kt hin hb1 hb2).mono ?_
          rintro v h3 ⟨rfl, rfl⟩
          simp (maxSteps := 2000000) only [s92, ↓aw_region, ↓aw_skip, ↓aw_seq, ↓aw_block, ↓aw_exit, ↓aw_ret, ↓sops_nil, ↓sops_go, ↓dops_nil, ↓dopsX_nil, ↓dopsR_nil, ↓vdn, vup, extr_20, extr_21, extr_30, extr_31, extr_32, List.map_cons, List.map_nil, cond_true, cond_false, aop, aThen, aBlock, argEnv, ev, sput, sputO, binK, binI, unK, builtinK, pickK, Nat.reduceBEq, Nat.reduceAdd, Int.reduceBEq, Int.reduceBNe, Int.reduceLT, aPost, resK, tup, tyf, hbt]
          exact ⟨next (by simp only [F]; rw [if_pos ⟨he, by rw [hi]; exact hbt⟩]), lv2, rs⟩
        · have hF := goOn (by simp [he])
          have hl0 : ((cur.length : Nat) : Int) = 0 := by rw [he]; rfl
          simp (maxSteps := 2000000) only [s92, ↓aw_region, ↓aw_skip, ↓aw_seq, ↓aw_block, ↓aw_exit, ↓aw_ret, ↓sops_nil, ↓sops_go, ↓dops_nil, ↓dopsX_nil, ↓dopsR_nil, ↓vdn, vup, extr_20, extr_21, extr_30, extr_31, extr_32, List.map_cons, List.map_nil, cond_true, cond_false, aop, aThen, aBlock, argEnv, ev, sput, sputO, binK, binI, unK, builtinK, pickK, Nat.reduceBEq, Nat.reduceAdd, Int.reduceBEq, Int.reduceBNe, Int.reduceLT, aPost, resK, tup, tyf, k1, rs.gs.own.int.len, hl0, Int.lt_irrefl, gt_iff_lt, lit1]
          have hx1 : Ext (fun _ => False) hk (hk ++ [.ints [(x : Int)] 3 false]) := Ext.app _ _ _
          refine (rs.gs.own.ext hx1 fun _ _ h => h).append app_22_22 (by omega) (get_new _ _) ?_
          intro lv3 h4 ho4 hx4 hb4
          have hx5 : Ext (fun i => blkOf lv2 = some i) hk h4 := (hx1.mono fun _ h => h.elim).trans hx4
          have hb5 : blkOf lv3 = blkOf lv2 ∨ ∃ b, blkOf lv3 = some b ∧ hk.length ≤ b := by
            rcases hb4 with h | ⟨b, h, hl⟩
            · exact .inl h
            · exact .inr ⟨b, h, by simp at hl; omega⟩
          have hbl4 : h4[bl]? = some (.cells [lv2] 22 false) := (hx5.2 bl (get_lt rs.gs.l) (fun h => (rs.gs.apart _ h).2 rfl)).trans rs.gs.l
          have rs3 := rs.store hx5 ho4 hb5
          obtain ⟨k1, k2, k3, k4, k5, k6, k7, kt⟩ := ld _ _ _ _ rs3
          simp (maxSteps := 2000000) only [s92, ↓aw_region, ↓aw_skip, ↓aw_seq, ↓aw_block, ↓aw_exit, ↓aw_ret, ↓sops_nil, ↓sops_go, ↓dops_nil, ↓dopsX_nil, ↓dopsR_nil, ↓vdn, vup, extr_20, extr_21, extr_30, extr_31, extr_32, List.map_cons, List.map_nil, cond_true, cond_false, aop, aThen, aBlock, argEnv, ev, sput, sputO, binK, binI, unK, builtinK, pickK, Nat.reduceBEq, Nat.reduceAdd, Int.reduceBEq, Int.reduceBNe, Int.reduceLT, aPost, resK, tup, tyf, store1 hbl4 shp_22 ho4.one]
          refine aw_drawX [(5, 4)] (by kernel_rfl) (by kernel_rfl) (by kernel_rfl) (by kernel_rfl) ?_
          simp (maxSteps := 2000000) only [s92, ↓aw_region, ↓aw_skip, ↓aw_seq, ↓aw_block, ↓aw_exit, ↓aw_ret, ↓sops_nil, ↓sops_go, ↓dops_nil, ↓dopsX_nil, ↓dopsR_nil, ↓vdn, vup, extr_20, extr_21, extr_30, extr_31, extr_32, List.map_cons, List.map_nil, cond_true, cond_false, aop, aThen, aBlock, argEnv, ev, sput, sputO, binK, binI, unK, builtinK, pickK, Nat.reduceBEq, Nat.reduceAdd, Int.reduceBEq, Int.reduceBNe, Int.reduceLT, aPost, resK, tup, tyf, k5, k6, Int.natCast_nonneg, hshl, hand, callK, List.nil_append, List.append_nil, List.toList_toArray, List.cons_append]
          refine (ih (cur ++ [(x : Int)]) (less left (2 ^ x)) _ lv3 rs3.gs (less_lt hlt) hcur' (by simp; omega) (Nat.lt_of_lt_of_le (less_bit_lt hxb) (by omega))).mono ?_
          rintro v h6 ⟨lv4, hres, hx6, hb6⟩
          rw [← hF] at hres
          cases hg : F x with
          | none =>
            rw [hg] at hres
            obtain ⟨rfl, gs6⟩ := hres
            have rs6 := rs3.go gs6 hx6 hb6
            obtain ⟨k1, k2, k3, k4, k5, k6, k7, kt⟩ := ld _ _ _ _ rs6
            have hsub6 : subV .i64 ((cur ++ [(x : Int)]).length : Nat) 1 = (cur.length : Int) := by
              rw [List.length_append, List.length_singleton, subV_id (by omega) (by omega)]; omega
            simp (maxSteps := 2000000) only [s92, ↓aw_region, ↓aw_skip, ↓aw_seq, ↓aw_block, ↓aw_exit, ↓aw_ret, ↓sops_nil, ↓sops_go, ↓dops_nil, ↓dopsX_nil, ↓dopsR_nil, ↓vdn, vup, extr_20, extr_21, extr_30, extr_31, extr_32, List.map_cons, List.map_nil, cond_true, cond_false, aop, aThen, aBlock, argEnv, ev, sput, sputO, binK, binI, unK, builtinK, pickK, Nat.reduceBEq, Nat.reduceAdd, Int.reduceBEq, Int.reduceBNe, Int.reduceLT, aPost, resK, tup, tyf, k1, rs6.gs.own.int.len, hsub6]
            refine rs6.gs.own.cut el_22 esz_3 ?_
            intro lv5 ho5 hb7
            simp (maxSteps := 2000000) only [s92, ↓aw_region, ↓aw_skip, ↓aw_seq, ↓aw_block, ↓aw_exit, ↓aw_ret, ↓sops_nil, ↓sops_go, ↓dops_nil, ↓dopsX_nil, ↓dopsR_nil, ↓vdn, vup, extr_20, extr_21, extr_30, extr_31, extr_32, List.map_cons, List.map_nil, cond_true, cond_false, aop, aThen, aBlock, argEnv, ev, sput, sputO, binK, binI, unK, builtinK, pickK, Nat.reduceBEq, Nat.reduceAdd, Int.reduceBEq, Int.reduceBNe, Int.reduceLT, aPost, resK, tup, tyf, store1 rs6.gs.l shp_22 ho5.one]
            exact ⟨next hg, lv5, rs6.store (Ext.refl _ _) ho5 (.inl hb7)⟩
          | some l =>
            rw [hg] at hres
            obtain ⟨rfl, gs6⟩ := hres
            have rs6 := rs3.go gs6 hx6 hb6
            have rs7 := rs6.ans true
            obtain ⟨_, _, _, _, _, _, k7, _⟩ := ld _ _ _ _ rs7
            simp (maxSteps := 2000000) only [s92, ↓aw_region, ↓aw_skip, ↓aw_seq, ↓aw_block, ↓aw_exit, ↓aw_ret, ↓sops_nil, ↓sops_go, ↓dops_nil, ↓dopsX_nil, ↓dopsR_nil, ↓vdn, vup, extr_20, extr_21, extr_30, extr_31, extr_32, List.map_cons, List.map_nil, cond_true, cond_false, aop, aThen, aBlock, argEnv, ev, sput, sputO, binK, binI, unK, builtinK, pickK, Nat.reduceBEq, Nat.reduceAdd, Int.reduceBEq, Int.reduceBNe, Int.reduceLT, aPost, resK, tup, tyf, storeB rs6.rs shp_4]
            refine hQ _ _ _ ?_
            simp (maxSteps := 2000000) only [s92, ↓aw_region, ↓aw_skip, ↓aw_seq, ↓aw_block, ↓aw_exit, ↓aw_ret, ↓sops_nil, ↓sops_go, ↓dops_nil, ↓dopsX_nil, ↓dopsR_nil, ↓vdn, vup, extr_20, extr_21, extr_30, extr_31, extr_32, List.map_cons, List.map_nil, cond_true, cond_false, aop, aThen, aBlock, argEnv, ev, sput, sputO, binK, binI, unK, builtinK, pickK, Nat.reduceBEq, Nat.reduceAdd, Int.reduceBEq, Int.reduceBNe, Int.reduceLT, aPost, resK, tup, tyf, k7]
            refine ⟨lv4, ?_, rs7.ext, rs7.blk⟩
            rw [hgrow, firstOf_some pre hnone hg hpre]
            exact rs7.gs
        · have hpos := List.length_pos_iff.2 he
          obtain ⟨hb1, hb2⟩ := trn_at hx hin
          have hF := goOn (eq_false fun h => by rw [hi] at h; rw [Int.toNat_natCast, hbt] at h; cases h.2)
          simp (maxSteps := 2000000) only [s92, ↓aw_region, ↓aw_skip, ↓aw_seq, ↓aw_block, ↓aw_exit, ↓aw_ret, ↓sops_nil, ↓sops_go, ↓dops_nil, ↓dopsX_nil, ↓dopsR_nil, ↓vdn, vup, extr_20, extr_21, extr_30, extr_31, extr_32, List.map_cons, List.map_nil, cond_true, cond_false, aop, aThen, aBlock, argEnv, ev, sput, sputO, binK, binI, unK, builtinK, pickK, Nat.reduceBEq, Nat.reduceAdd, Int.reduceBEq, Int.reduceBNe, Int.reduceLT, aPost, resK, tup, tyf, k1, k4, rs.gs.own.int.len, Int.natCast_pos.2 hpos, hsub he, rs.gs.own.int.idx el_22 esz_3 (show cur.length - 1 < cur.length by omega), rs.gs.own.int.load shp_3 (show cur.length - 1 < cur.length by omega), hi, callK, List.nil_append, List.append_nil, gt_iff_lt]
          refine (beats_call kt hin hb1 hb2).mono ?_
          rintro v h3 ⟨rfl, rfl⟩
          simp (maxSteps := 2000000) only [s92, ↓aw_region, ↓aw_skip, ↓aw_seq, ↓aw_block, ↓aw_exit, ↓aw_ret, ↓sops_nil, ↓sops_go, ↓dops_nil, ↓dopsX_nil, ↓dopsR_nil, ↓vdn, vup, extr_20, extr_21, extr_30, extr_31, extr_32, List.map_cons, List.map_nil, cond_true, cond_false, aop, aThen, aBlock, argEnv, ev, sput, sputO, binK, binI, unK, builtinK, pickK, Nat.reduceBEq, Nat.reduceAdd, Int.reduceBEq, Int.reduceBNe, Int.reduceLT, aPost, resK, tup, tyf, hbt, k1, lit1]
          have hx1 : Ext (fun _ => False) h3 (h3 ++ [.ints [(x : Int)] 3 false]) := Ext.app _ _ _
          refine (rs.gs.own.ext hx1 fun _ _ h => h).append app_22_22 (by omega) (get_new _ _) ?_
          intro lv3 h4 ho4 hx4 hb4
          have hx5 : Ext (fun i => blkOf lv2 = some i) h3 h4 := (hx1.mono fun _ h => h.elim).trans hx4
          have hb5 : blkOf lv3 = blkOf lv2 ∨ ∃ b, blkOf lv3 = some b ∧ h3.length ≤ b := by
            rcases hb4 with h | ⟨b, h, hl⟩
            · exact .inl h
            · exact .inr ⟨b, h, by simp at hl; omega⟩
          have hbl4 : h4[bl]? = some (.cells [lv2] 22 false) := (hx5.2 bl (get_lt rs.gs.l) (fun h => (rs.gs.apart _ h).2 rfl)).trans rs.gs.l
          have rs3 := rs.store hx5 ho4 hb5
          obtain ⟨k1, k2, k3, k4, k5, k6, k7, kt⟩ := ld _ _ _ _ rs3
          simp (maxSteps := 2000000) only [s92, ↓aw_region, ↓aw_skip, ↓aw_seq, ↓aw_block, ↓aw_exit, ↓aw_ret, ↓sops_nil, ↓sops_go, ↓dops_nil, ↓dopsX_nil, ↓dopsR_nil, ↓vdn, vup, extr_20, extr_21, extr_30, extr_31, extr_32, List.map_cons, List.map_nil, cond_true, cond_false, aop, aThen, aBlock, argEnv, ev, sput, sputO, binK, binI, unK, builtinK, pickK, Nat.reduceBEq, Nat.reduceAdd, Int.reduceBEq, Int.reduceBNe, Int.reduceLT, aPost, resK, tup, tyf, store1 hbl4 shp_22 ho4.one]
          refine aw_drawX [(5, 4)] (by kernel_rfl) (by kernel_rfl) (by kernel_rfl) (by kernel_rfl) ?_
          simp (maxSteps := 2000000) only [s92, ↓aw_region, ↓aw_skip, ↓aw_seq, ↓aw_block, ↓aw_exit, ↓aw_ret, ↓sops_nil, ↓sops_go, ↓dops_nil, ↓dopsX_nil, ↓dopsR_nil, ↓vdn, vup, extr_20, extr_21, extr_30, extr_31, extr_32, List.map_cons, List.map_nil, cond_true, cond_false, aop, aThen, aBlock, argEnv, ev, sput, sputO, binK, binI, unK, builtinK, pickK, Nat.reduceBEq, Nat.reduceAdd, Int.reduceBEq, Int.reduceBNe, Int.reduceLT, aPost, resK, tup, tyf, k5, k6, Int.natCast_nonneg, hshl, hand, callK, List.nil_append, List.append_nil, List.toList_toArray, List.cons_append]
          refine (ih (cur ++ [(x : Int)]) (less left (2 ^ x)) _ lv3 rs3.gs (less_lt hlt) hcur' (by simp; omega) (Nat.lt_of_lt_of_le (less_bit_lt hxb) (by omega))).mono ?_
          rintro v h6 ⟨lv4, hres, hx6, hb6⟩
          rw [← hF] at hres
          cases hg : F x with
          | none =>
            rw [hg] at hres
            obtain ⟨rfl, gs6⟩ := hres
            have rs6 := rs3.go gs6 hx6 hb6
            obtain ⟨k1, k2, k3, k4, k5, k6, k7, kt⟩ := ld _ _ _ _ rs6
            have hsub6 : subV .i64 ((cur ++ [(x : Int)]).length : Nat) 1 = (cur.length : Int) := by
              rw [List.length_append, List.length_singleton, subV_id (by omega) (by omega)]; omega
            simp (maxSteps := 2000000) only [s92, ↓aw_region, ↓aw_skip, ↓aw_seq, ↓aw_block, ↓aw_exit, ↓aw_ret, ↓sops_nil, ↓sops_go, ↓dops_nil, ↓dopsX_nil, ↓dopsR_nil, ↓vdn, vup, extr_20, extr_21, extr_30, extr_31, extr_32, List.map_cons, List.map_nil, cond_true, cond_false, aop, aThen, aBlock, argEnv, ev, sput, sputO, binK, binI, unK, builtinK, pickK, Nat.reduceBEq, Nat.reduceAdd, Int.reduceBEq, Int.reduceBNe, Int.reduceLT, aPost, resK, tup, tyf, k1, rs6.gs.own.int.len, hsub6]
            refine rs6.gs.own.cut el_22 esz_3 ?_
            intro lv5 ho5 hb7
            simp (maxSteps := 2000000) only [s92, ↓aw_region, ↓aw_skip, ↓aw_seq, ↓aw_block, ↓aw_exit, ↓aw_ret, ↓sops_nil, ↓sops_go, ↓dops_nil, ↓dopsX_nil, ↓dopsR_nil, ↓vdn, vup, extr_20, extr_21, extr_30, extr_31, extr_32, List.map_cons, List.map_nil, cond_true, cond_false, aop, aThen, aBlock, argEnv, ev, sput, sputO, binK, binI, unK, builtinK, pickK, Nat.reduceBEq, Nat.reduceAdd, Int.reduceBEq, Int.reduceBNe, Int.reduceLT, aPost, resK, tup, tyf, store1 rs6.gs.l shp_22 ho5.one]
            exact ⟨next hg, lv5, rs6.store (Ext.refl _ _) ho5 (.inl hb7)⟩
          | some l =>
            rw [hg] at hres
            obtain ⟨rfl, gs6⟩ := hres
            have rs6 := rs3.go gs6 hx6 hb6
            have rs7 := rs6.ans true
            obtain ⟨_, _, _, _, _, _, k7, _⟩ := ld _ _ _ _ rs7
            simp (maxSteps := 2000000) only [s92, ↓aw_region, ↓aw_skip, ↓aw_seq, ↓aw_block, ↓aw_exit, ↓aw_ret, ↓sops_nil, ↓sops_go, ↓dops_nil, ↓dopsX_nil, ↓dopsR_nil, ↓vdn, vup, extr_20, extr_21, extr_30, extr_31, extr_32, List.map_cons, List.map_nil, cond_true, cond_false, aop, aThen, aBlock, argEnv, ev, sput, sputO, binK, binI, unK, builtinK, pickK, Nat.reduceBEq, Nat.reduceAdd, Int.reduceBEq, Int.reduceBNe, Int.reduceLT, aPost, resK, tup, tyf, storeB rs6.rs shp_4]
            refine hQ _ _ _ ?_
            simp (maxSteps := 2000000) only [s92, ↓aw_region, ↓aw_skip, ↓aw_seq, ↓aw_block, ↓aw_exit, ↓aw_ret, ↓sops_nil, ↓sops_go, ↓dops_nil, ↓dopsX_nil, ↓dopsR_nil, ↓vdn, vup, extr_20, extr_21, extr_30, extr_31, extr_32, List.map_cons, List.map_nil, cond_true, cond_false, aop, aThen, aBlock, argEnv, ev, sput, sputO, binK, binI, unK, builtinK, pickK, Nat.reduceBEq, Nat.reduceAdd, Int.reduceBEq, Int.reduceBNe, Int.reduceLT, aPost, resK, tup, tyf, k7]
            refine ⟨lv4, ?_, rs7.ext, rs7.blk⟩
            rw [hgrow, firstOf_some pre hnone hg hpre]
            exact rs7.gs
      · rintro hk ⟨hnone, lv2, rs⟩
        have rs2 := rs.ans false
        obtain ⟨_, _, _, _, _, _, k7, _⟩ := ld _ _ _ _ rs2
        refine hQ _ _ _ ?_
        simp (maxSteps := 2000000) only [s92, ↓aw_region, ↓aw_skip, ↓aw_seq, ↓aw_block, ↓aw_exit, ↓aw_ret, ↓sops_nil, ↓sops_go, ↓dops_nil, ↓dopsX_nil, ↓dopsR_nil, ↓vdn, vup, extr_20, extr_21, extr_30, extr_31, extr_32, List.map_cons, List.map_nil, cond_true, cond_false, aop, aThen, aBlock, argEnv, ev, sput, sputO, binK, binI, unK, builtinK, pickK, Nat.reduceBEq, Nat.reduceAdd, Int.reduceBEq, Int.reduceBNe, Int.reduceLT, aPost, resK, tup, tyf, storeB rs.rs shp_4, k7]
        refine ⟨lv2, ?_, rs2.ext, rs2.blk⟩
        rw [hgrow, firstOf_none hnone]
        exact rs2.gs
end Go.Proofs.Tryd.Am

namespace Go.Proofs.Tryd.Am
open Go.Am

set_option maxRecDepth 100000 in
theorem clone_call [Tabs prog] {h : Heap} {v : Value} {xs : List Int} (hv : IntSl h v xs) (hl : xs.length < 1099511627776) : ACall prog 46 [v] h fun r h' => IntSl h' r xs ∧ ∃ g, h' = h ++ g := by
  refine s46_call (by simp) ?_
  have hv' := hv
  rcases hv with ⟨rfl, rfl⟩ | ⟨b, o, sp, cap, c, e, ro, rfl, hc, hb, hx⟩
  · simp (maxSteps := 2000000) only [s46, ↓aw_region, ↓aw_skip, ↓aw_seq, ↓aw_block, ↓aw_exit, ↓aw_ret, ↓sops_nil, ↓sops_go, ↓dops_nil, ↓dopsX_nil, ↓dopsR_nil, ↓vdn, vup, extr_20, extr_21, extr_30, extr_31, extr_32, List.map_cons, List.map_nil, cond_true, cond_false, aop, aThen, aBlock, argEnv, ev, sput, sputO, binK, binI, unK, builtinK, pickK, Nat.reduceBEq, Nat.reduceAdd, Int.reduceBEq, Int.reduceBNe, Int.reduceLT, aPost, resK, tup, tyf, Option.isSome_some]
    exact ⟨.inl ⟨rfl, rfl⟩, [], by rw [List.append_nil]⟩
  · simp (maxSteps := 2000000) only [s46, ↓aw_region, ↓aw_skip, ↓aw_seq, ↓aw_block, ↓aw_exit, ↓aw_ret, ↓sops_nil, ↓sops_go, ↓dops_nil, ↓dopsX_nil, ↓dopsR_nil, ↓vdn, vup, extr_20, extr_21, extr_30, extr_31, extr_32, List.map_cons, List.map_nil, cond_true, cond_false, aop, aThen, aBlock, argEnv, ev, sput, sputO, binK, binI, unK, builtinK, pickK, Nat.reduceBEq, Nat.reduceAdd, Int.reduceBEq, Int.reduceBNe, Int.reduceLT, aPost, resK, tup, tyf, Option.isSome_some]
    simp only [buildSliceK, el_22, zero_3, esz_3, reps, fillL, mkb, intsOf]
    refine And.intro rfl (And.intro Nat.zero_lt_one (And.intro (Nat.zero_le _) ?_))
    refine (hv'.grow [.ints [] 3 false]).copy app_22_22 hl (by rw [List.getElem?_append_right (Nat.le_refl _)]; simp) ?_
    intro r g hr _
    exact ⟨hr, _, List.append_assoc _ _ _⟩

theorem min11 (n : Nat) : (if (11 : Int) < n then 11 else (n : Int)) = ((min n 11 : Nat) : Int) := by split <;> omega

theorem list_call [Tabs prog] {h : Heap} {v : Value} {xs : List Int} (hv : IntSl h v xs) (hl : xs.length < 9223372036854775808) : ACall prog 19 [v] h fun r h' => IntSl h' r (xs.take 11) ∧ ∃ g, h' = h ++ g := by
  refine s19_call (by simp) ?_
  simp (maxSteps := 2000000) only [s19, ↓aw_region, ↓aw_skip, ↓aw_seq, ↓aw_block, ↓aw_exit, ↓aw_ret, ↓sops_nil, ↓sops_go, ↓dops_nil, ↓dopsX_nil, ↓dopsR_nil, ↓vdn, vup, extr_20, extr_21, extr_30, extr_31, extr_32, List.map_cons, List.map_nil, cond_true, cond_false, aop, aThen, aBlock, argEnv, ev, sput, sputO, binK, binI, unK, builtinK, pickK, Nat.reduceBEq, Nat.reduceAdd, Int.reduceBEq, Int.reduceBNe, Int.reduceLT, aPost, resK, tup, tyf, hv.len, mmK, Bool.false_eq_true, if_false, gt_iff_lt, min11, Option.map_none, Option.map_some]
  refine hv.pre el_22 esz_3 (Nat.min_le_left _ _) ?_
  intro v' hv'
  have e : xs.take (min xs.length 11) = xs.take 11 := by
    by_cases h : xs.length ≤ 11
    · rw [Nat.min_eq_left h, List.take_length, List.take_of_length_le h]
    · rw [Nat.min_eq_right (by omega)]
  rw [e] at hv'
  simp (maxSteps := 2000000) only [↓aw_region, ↓aw_skip, ↓aw_seq, ↓aw_block, ↓aw_exit, ↓aw_ret, ↓sops_nil, ↓sops_go, ↓dops_nil, ↓dopsX_nil, ↓dopsR_nil, ↓vdn, vup, extr_20, extr_21, extr_30, extr_31, extr_32, List.map_cons, List.map_nil, cond_true, cond_false, aop, aThen, aBlock, argEnv, ev, sput, sputO, binK, binI, unK, builtinK, pickK, Nat.reduceBEq, Nat.reduceAdd, Int.reduceBEq, Int.reduceBNe, Int.reduceLT, aPost, resK, tup, tyf, callK, List.nil_append, List.append_nil]
  exact clone_call hv' (by simp; omega)
end Go.Proofs.Tryd.Am

namespace Go.Proofs.Tryd.Am
open Go.Am
set_option maxRecDepth 100000

/-- The first way of a length through players of a tournament. -/
def find (xs : List Int) (size : Nat) (is : List Int → Bool) : Option (List Int) := grow xs size is (2 ^ xs.length) [] (2 ^ xs.length - 1)

theorem firstOf_mem {α β : Type} {f : α → Option β} {y : β} : ∀ {l : List α}, firstOf f l = some y → ∃ x ∈ l, f x = some y
  | [], h => by cases h
  | x :: l, h => by
    simp only [firstOf] at h
    cases hx : f x with
    | some z => rw [hx] at h; exact ⟨x, by simp, by rw [hx]; exact h⟩
    | none =>
      rw [hx] at h
      obtain ⟨z, h1, h2⟩ := firstOf_mem h
      exact ⟨z, by simp [h1], h2⟩
theorem grow_len {xs : List Int} {size : Nat} {is : List Int → Bool} : ∀ (n : Nat) (cur : List Int) (left : Nat) (l : List Int), grow xs size is n cur left = some l → l.length = size ∧ is l = true
  | 0, _, _, _, h => by cases h
  | n + 1, cur, left, l, h => by
    simp only [grow] at h
    split at h
    · split at h
      · rename_i h1 h2; cases h; exact ⟨h1, h2⟩
      · cases h
    · obtain ⟨i, _, hi⟩ := firstOf_mem h
      split at hi
      · cases hi
      · exact grow_len n _ _ l hi
theorem find_len {xs : List Int} {size : Nat} {is : List Int → Bool} {l : List Int} (h : find xs size is = some l) : l.length = size := (grow_len _ _ _ _ h).1

/-- What the closure asked at a whole way answers, on every later heap. -/
def AskOk [Tabs prog] (h : Heap) (isv : Value) (is : List Int → Bool) (size n : Nat) : Prop :=
  ∃ g cap, isv = .func (.func g) #[] cap ∧ ∀ h', Ext (fun _ => False) h h' → ∀ v l, IntSl h' v l → l.length = size → (∀ x ∈ l, ∃ i : Nat, x = i ∧ i < n) → APure prog g ([v] ++ cap.toList) h' (.bool (is l))

theorem search_call [BitTab prog 1] {h : Heap} {tv isv : Value} {xs : List Int} {is : List Int → Bool} {size : Nat} (ht : IntSl h tv xs) (hx : trn xs = true) (hsz : size ≤ xs.length) (his : AskOk h isv is size xs.length) :
    ACall prog 57 [tv, vint size, isv] h fun r h' => Ext (fun _ => False) h h' ∧ (match find xs size is with | none => r = .slice none 0 0 | some l => OwnSl 3 h' r l) := by
  have hxl : xs.length ≤ 8 := by simp only [trn, Bool.and_eq_true, decide_eq_true_eq] at hx; omega
  have hpow : 2 ^ xs.length ≤ 2 ^ 8 := Nat.pow_le_pow_right (by decide) hxl
  have hpos := Nat.two_pow_pos xs.length
  obtain ⟨g, cap, rfl, hgo⟩ := his
  refine s57_call (by simp) ?_
  obtain ⟨tp, tl, tc, rfl⟩ : ∃ p l c, tv = .slice p l c := by
    rcases ht with ⟨rfl, _⟩ | ⟨b, o, sp, cap, c, e, ro, rfl, _⟩
    · exact ⟨_, _, _, rfl⟩
    · exact ⟨_, _, _, rfl⟩
  have hall := fun (h' : Heap) (ht' : IntSl h' (.slice tp tl tc) xs) => all_call ht' hxl
  generalize htv : Value.slice tp tl tc = tv at *
  simp (maxSteps := 2000000) only [s57, ↓aw_region, ↓aw_skip, ↓aw_seq, ↓aw_block, ↓aw_exit, ↓aw_ret, ↓sops_nil, ↓sops_go, ↓dops_nil, ↓dopsX_nil, ↓dopsR_nil, ↓vdn, vup, extr_20, extr_21, extr_30, extr_31, extr_32, List.map_cons, List.map_nil, cond_true, cond_false, aop, aThen, aBlock, argEnv, ev, sput, sputO, binK, binI, unK, builtinK, pickK, Nat.reduceBEq, Nat.reduceAdd, Int.reduceBEq, Int.reduceBNe, Int.reduceLT, aPost, resK, tup, tyf, boxK, allocK, cellsOf, Option.isSome_some, newPtr, List.length_append, List.length_singleton]
  subst htv
  simp only [true_and, List.map_toArray, List.map_cons, List.map_nil, ev, sget, Nat.reduceBEq, cond_true, cond_false, Nat.add_assoc, Nat.reduceAdd]
  rw [storeF (v := .nilFunc) (e := 79) (by simp) shp_79]
  generalize htv : Value.slice tp tl tc = tv at *
  obtain ⟨H, hH⟩ : ∃ H, H = h ++ [Blk.cells [tv] 55 false] ++ [Blk.cells [vint size] 3 false] ++ [Blk.cells [Value.func (Fn.func g) #[] cap] 27 false] ++ [Blk.cells [Value.slice none 0 0] 22 false] ++ [Blk.cells [Value.nilFunc] 79 false] := ⟨_, rfl⟩
  rw [← hH]
  have hlen : H.length = h.length + 5 := by rw [hH]; simp
  obtain ⟨G, hG⟩ : ∃ G, G = H.set (h.length + 4) (Blk.cells [Value.func (Fn.func 92) #[] #[Value.pointer (some ⟨h.length + 3, 0, none⟩), Value.pointer (some ⟨h.length + 1, 0, none⟩), Value.pointer (some ⟨h.length + 2, 0, none⟩), Value.pointer (some ⟨h.length, 0, none⟩), Value.pointer (some ⟨h.length + 4, 0, none⟩)]] 79 false) := ⟨_, rfl⟩
  rw [← hG]
  have hlG : G.length = h.length + 5 := by rw [hG]; simp [hlen]
  have hold : ∀ i, i < h.length → G[i]? = h[i]? := fun i hi => by rw [hG, List.getElem?_set_ne (by omega), hH]; simp only [List.append_assoc]; exact List.getElem?_append_left hi
  have hExt : Ext (fun _ => False) h G := ⟨by omega, fun i hi _ => hold i hi⟩
  have b0 : G[h.length]? = some (.cells [tv] 55 false) := by rw [hG, List.getElem?_set_ne (by omega), hH]; simp
  have b1 : G[h.length + 1]? = some (.cells [vint size] 3 false) := by rw [hG, List.getElem?_set_ne (by omega), hH]; simp
  have b2 : G[h.length + 2]? = some (.cells [.func (.func g) #[] cap] 27 false) := by rw [hG, List.getElem?_set_ne (by omega), hH]; simp
  have b3 : G[h.length + 3]? = some (.cells [.slice none 0 0] 22 false) := by rw [hG, List.getElem?_set_ne (by omega), hH]; simp
  have b4 : G[h.length + 4]? = some (.cells [Value.func (Fn.func 92) #[] #[Value.pointer (some ⟨h.length + 3, 0, none⟩), Value.pointer (some ⟨h.length + 1, 0, none⟩), Value.pointer (some ⟨h.length + 2, 0, none⟩), Value.pointer (some ⟨h.length, 0, none⟩), Value.pointer (some ⟨h.length + 4, 0, none⟩)]] 79 false) := by rw [hG]; exact get_set (by omega) _
  have htG : IntSl G tv xs := ht.same fun b hb => hold b (ht.lt hb)
  let I : Nat → Prop := fun i => i < h.length + 5 ∧ i ≠ h.length + 3
  have gs0 : GS I G (h.length + 3) G (.slice none 0 0) [] := ⟨Nat.le_refl _, fun _ _ => rfl, b3, .inl ⟨rfl, rfl⟩, fun h => h.2 rfl, fun b hb => (by cases hb), fun i hi => by have := hi.1; omega⟩
  have grow := grow_call (I := I) (h0 := G) (bl := h.length + 3) (bs := h.length + 1) (bi := h.length + 2) (bt := h.length) (bg := h.length + 4) (size := size) (isv := .func (.func g) #[] cap) (tv := tv) (xs := xs) (is := is)
    ⟨b1, b2, b0, b4⟩ ⟨⟨by omega, by omega⟩, ⟨by omega, by omega⟩, ⟨by omega, by omega⟩, ⟨by omega, by omega⟩, fun b hb => ⟨by have := ht.lt hb; omega, by have := ht.lt hb; omega⟩⟩ htG hx hsz
    ⟨g, cap, rfl, fun h' hl hi v l hv hll hr => hgo h' ⟨by omega, fun i hi2 _ => (hi i ⟨by omega, by omega⟩).trans (hold i hi2)⟩ v l hv hll hr⟩
    (2 ^ xs.length) [] (2 ^ xs.length - 1) G (.slice none 0 0) gs0 (by omega) (fun _ h => by cases h) (Nat.zero_le _) (by omega)
  refine aw_drawX [(2, 1), (3, 4)] (by kernel_rfl) (by kernel_rfl) (by kernel_rfl) (by kernel_rfl) ?_
  simp (maxSteps := 2000000) only [s57, ↓aw_region, ↓aw_skip, ↓aw_seq, ↓aw_block, ↓aw_exit, ↓aw_ret, ↓sops_nil, ↓sops_go, ↓dops_nil, ↓dopsX_nil, ↓dopsR_nil, ↓vdn, vup, extr_20, extr_21, extr_30, extr_31, extr_32, List.map_cons, List.map_nil, cond_true, cond_false, aop, aThen, aBlock, argEnv, ev, sput, sputO, binK, binI, unK, builtinK, pickK, Nat.reduceBEq, Nat.reduceAdd, Int.reduceBEq, Int.reduceBNe, Int.reduceLT, aPost, resK, tup, tyf, load1 b4 shp_79, load1 b0 shp_55, callK, List.nil_append, List.append_nil, List.toList_toArray, List.cons_append]
  refine ⟨_, _, hall G htG, rfl, ?_⟩
  refine grow.mono ?_
  rintro v h' ⟨lv, hres, hx', hb'⟩
  have hfin : Ext (fun _ => False) h h' := ⟨Nat.le_trans hExt.1 hx'.1, fun i hi _ => (hx'.2 i (by omega) (by rintro (h | h); omega; cases h)).trans (hold i hi)⟩
  have hfind : find xs size is = _root_.Go.Proofs.Tryd.Am.grow xs size is (2 ^ xs.length) [] (2 ^ xs.length - 1) := rfl
  rw [← hfind] at hres
  cases hf : find xs size is with
  | none =>
    rw [hf] at hres
    obtain ⟨rfl, gs⟩ := hres
    simp (maxSteps := 2000000) only [s57, ↓aw_region, ↓aw_skip, ↓aw_seq, ↓aw_block, ↓aw_exit, ↓aw_ret, ↓sops_nil, ↓sops_go, ↓dops_nil, ↓dopsX_nil, ↓dopsR_nil, ↓vdn, vup, extr_20, extr_21, extr_30, extr_31, extr_32, List.map_cons, List.map_nil, cond_true, cond_false, aop, aThen, aBlock, argEnv, ev, sput, sputO, binK, binI, unK, builtinK, pickK, Nat.reduceBEq, Nat.reduceAdd, Int.reduceBEq, Int.reduceBNe, Int.reduceLT, aPost, resK, tup, tyf]
    exact hfin
  | some l =>
    rw [hf] at hres
    obtain ⟨rfl, gs⟩ := hres
    simp (maxSteps := 2000000) only [s57, ↓aw_region, ↓aw_skip, ↓aw_seq, ↓aw_block, ↓aw_exit, ↓aw_ret, ↓sops_nil, ↓sops_go, ↓dops_nil, ↓dopsX_nil, ↓dopsR_nil, ↓vdn, vup, extr_20, extr_21, extr_30, extr_31, extr_32, List.map_cons, List.map_nil, cond_true, cond_false, aop, aThen, aBlock, argEnv, ev, sput, sputO, binK, binI, unK, builtinK, pickK, Nat.reduceBEq, Nat.reduceAdd, Int.reduceBEq, Int.reduceBNe, Int.reduceLT, aPost, resK, tup, tyf, load1 gs.l shp_22]
    exact ⟨hfin, gs.own⟩

theorem nilSl {e : TypeId} {h : Heap} {v : Value} {l : List Int} (ho : OwnSl e h v l) (hl : l ≠ []) : ∃ b n c, v = .slice (some ⟨b, 0, some 0⟩) n c := by
  rcases ho with ⟨_, rfl⟩ | ⟨b, ys, rfl, _⟩
  · exact absurd rfl hl
  · exact ⟨_, _, _, rfl⟩

theorem way_call [BitTab prog 1] {h : Heap} {v : Value} {xs : List Int} (hv : IntSl h v xs) (hl : xs.length < 9223372036854775808) (hx : ∀ x ∈ xs, -9223372036854775808 ≤ x ∧ x < 9223372036854775808) :
    ACall prog 18 [v] h fun r h' => Ext (fun _ => False) h h' ∧ ∃ a e, r = .tuple #[a, .int .i64 e] ∧
      (if trn xs then e = 0 ∧ (match find xs xs.length (fun _ => true) with | none => a = .slice none 0 0 | some l => OwnSl 3 h' a l) else e = 2 ∧ a = .slice none 0 0) := by
  refine s18_call (by simp) ?_
  simp (maxSteps := 2000000) only [s18, ↓aw_region, ↓aw_skip, ↓aw_seq, ↓aw_block, ↓aw_exit, ↓aw_ret, ↓sops_nil, ↓sops_go, ↓dops_nil, ↓dopsX_nil, ↓dopsR_nil, ↓vdn, vup, extr_20, extr_21, extr_30, extr_31, extr_32, List.map_cons, List.map_nil, cond_true, cond_false, aop, aThen, aBlock, argEnv, ev, sput, sputO, binK, binI, unK, builtinK, pickK, Nat.reduceBEq, Nat.reduceAdd, Int.reduceBEq, Int.reduceBNe, Int.reduceLT, aPost, resK, tup, tyf, callK, List.nil_append, List.append_nil, List.toList_toArray, List.cons_append]
  refine (valid_call hv hl hx).mono ?_
  rintro _ _ ⟨rfl, rfl⟩
  cases ht : trn xs with
  | false =>
    simp (maxSteps := 2000000) only [s18, ↓aw_region, ↓aw_skip, ↓aw_seq, ↓aw_block, ↓aw_exit, ↓aw_ret, ↓sops_nil, ↓sops_go, ↓dops_nil, ↓dopsX_nil, ↓dopsR_nil, ↓vdn, vup, extr_20, extr_21, extr_30, extr_31, extr_32, List.map_cons, List.map_nil, cond_true, cond_false, aop, aThen, aBlock, argEnv, ev, sput, sputO, binK, binI, unK, builtinK, pickK, Nat.reduceBEq, Nat.reduceAdd, Int.reduceBEq, Int.reduceBNe, Int.reduceLT, aPost, resK, tup, tyf]
    exact ⟨Ext.refl _ _, _, _, rfl, rfl, rfl⟩
  | true =>
    simp (maxSteps := 2000000) only [s18, ↓aw_region, ↓aw_skip, ↓aw_seq, ↓aw_block, ↓aw_exit, ↓aw_ret, ↓sops_nil, ↓sops_go, ↓dops_nil, ↓dopsX_nil, ↓dopsR_nil, ↓vdn, vup, extr_20, extr_21, extr_30, extr_31, extr_32, List.map_cons, List.map_nil, cond_true, cond_false, aop, aThen, aBlock, argEnv, ev, sput, sputO, binK, binI, unK, builtinK, pickK, Nat.reduceBEq, Nat.reduceAdd, Int.reduceBEq, Int.reduceBNe, Int.reduceLT, aPost, resK, tup, tyf, hv.len, callK, List.nil_append, List.append_nil, List.toList_toArray, List.cons_append]
    refine (search_call hv ht (Nat.le_refl _) ⟨58, #[], rfl, fun h' _ v l _ _ _ => yes_call⟩).mono ?_
    rintro r h' ⟨hext, hr⟩
    exact ⟨hext, _, _, rfl, rfl, hr⟩

/-- Of a way of k players, the last one beats the first one. -/
def closes (xs : List Int) (k : Nat) (l : List Int) : Bool := bitI (xs.getD (l.getD (k - 1) 0).toNat 0) (l.getD 0 0).toNat

theorem closes_call [Tabs prog] {h : Heap} {v tv : Value} {xs l : List Int} {k bt bk : Nat} (hx : trn xs = true) (ht : IntSl h tv xs) (hbt : h[bt]? = some (.cells [tv] 55 false)) (hbk : h[bk]? = some (.cells [vint k] 3 false))
    (hv : IntSl h v l) (hl : l.length = k) (hk : 0 < k) (hk8 : k ≤ 8) (hr : ∀ x ∈ l, ∃ i : Nat, x = i ∧ i < xs.length) : APure prog 59 [v, .pointer (some ⟨bt, 0, none⟩), .pointer (some ⟨bk, 0, none⟩)] h (.bool (closes xs k l)) := by
  have hat : ∀ j, j < k → ∃ i : Nat, l.getD j 0 = i ∧ i < xs.length := fun j hj => hr _ (by rw [List.getD, List.getElem?_eq_getElem (by omega)]; exact List.getElem_mem _)
  obtain ⟨a, ha, ha2⟩ := hat (k - 1) (by omega)
  obtain ⟨b, hb, hb2⟩ := hat 0 hk
  have hsub : subV .i64 (k : Int) 1 = ((k - 1 : Nat) : Int) := by rw [subV_id (by omega) (by omega)]; omega
  obtain ⟨hb1, hb3⟩ := trn_at hx ha2
  have hbe := beats_call ht (j := b) ha2 hb1 hb3
  have hcl : closes xs k l = bitI (xs.getD a 0) b := by simp only [closes, ha, hb, Int.toNat_natCast]
  have hi0 : ∀ (t : TypeId) (K : Value → Prop), elemOf' prog t = some 3 → idxAddrK prog t v (vint 0) K = K (elemP v 1 0) := fun t K he => by
    have := hv.idx he esz_3 (k := .i64) (i := 0) (by omega) K
    simpa using this
  refine s59_call (by simp) ?_
  simp (maxSteps := 2000000) only [s59, ↓aw_region, ↓aw_skip, ↓aw_seq, ↓aw_block, ↓aw_exit, ↓aw_ret, ↓sops_nil, ↓sops_go, ↓dops_nil, ↓dopsX_nil, ↓dopsR_nil, ↓vdn, vup, extr_20, extr_21, extr_30, extr_31, extr_32, List.map_cons, List.map_nil, cond_true, cond_false, aop, aThen, aBlock, argEnv, ev, sput, sputO, binK, binI, unK, builtinK, pickK, Nat.reduceBEq, Nat.reduceAdd, Int.reduceBEq, Int.reduceBNe, Int.reduceLT, aPost, resK, tup, tyf]
  refine aw_drawX [(9, 4)] (by kernel_rfl) (by kernel_rfl) (by kernel_rfl) (by kernel_rfl) ?_
  simp (maxSteps := 2000000) only [s59, ↓aw_region, ↓aw_skip, ↓aw_seq, ↓aw_block, ↓aw_exit, ↓aw_ret, ↓sops_nil, ↓sops_go, ↓dops_nil, ↓dopsX_nil, ↓dopsR_nil, ↓vdn, vup, extr_20, extr_21, extr_30, extr_31, extr_32, List.map_cons, List.map_nil, cond_true, cond_false, aop, aThen, aBlock, argEnv, ev, sput, sputO, binK, binI, unK, builtinK, pickK, Nat.reduceBEq, Nat.reduceAdd, Int.reduceBEq, Int.reduceBNe, Int.reduceLT, aPost, resK, tup, tyf, load1 hbt shp_55, load1 hbk shp_3, hsub, hv.idx el_22 esz_3 (show k - 1 < l.length by omega), hi0 22 _ el_22, hv.load shp_3 (show k - 1 < l.length by omega), hv.load shp_3 (show 0 < l.length by omega), ha, hb, callK, List.nil_append, List.append_nil, List.toList_toArray, List.cons_append]
  refine hbe.mono ?_
  rintro _ _ ⟨rfl, rfl⟩
  simp (maxSteps := 2000000) only [s59, ↓aw_region, ↓aw_skip, ↓aw_seq, ↓aw_block, ↓aw_exit, ↓aw_ret, ↓sops_nil, ↓sops_go, ↓dops_nil, ↓dopsX_nil, ↓dopsR_nil, ↓vdn, vup, extr_20, extr_21, extr_30, extr_31, extr_32, List.map_cons, List.map_nil, cond_true, cond_false, aop, aThen, aBlock, argEnv, ev, sput, sputO, binK, binI, unK, builtinK, pickK, Nat.reduceBEq, Nat.reduceAdd, Int.reduceBEq, Int.reduceBNe, Int.reduceLT, aPost, resK, tup, tyf, hcl]

theorem round_call [BitTab prog 1] {h : Heap} {v : Value} {xs : List Int} {k : Int} (hv : IntSl h v xs) (hl : xs.length < 9223372036854775808) (hx : ∀ x ∈ xs, -9223372036854775808 ≤ x ∧ x < 9223372036854775808) :
    ACall prog 24 [v, vint k] h fun r h' => Ext (fun _ => False) h h' ∧ ∃ a e, r = .tuple #[a, .int .i64 e] ∧
      (if trn xs = true ∧ 3 ≤ k ∧ k ≤ xs.length then (match find xs k.toNat (closes xs k.toNat) with | none => e = 4 ∧ a = .slice none 0 0 | some l => e = 0 ∧ OwnSl 3 h' a l) else e = 2 ∧ a = .slice none 0 0) := by
  refine s24_call (by simp) ?_
  obtain ⟨tp, tl, tc, rfl⟩ : ∃ p l c, v = .slice p l c := by
    rcases hv with ⟨rfl, _⟩ | ⟨b, o, sp, cap, c, e, ro, rfl, _⟩
    · exact ⟨_, _, _, rfl⟩
    · exact ⟨_, _, _, rfl⟩
  simp (maxSteps := 2000000) only [s24, ↓aw_region, ↓aw_skip, ↓aw_seq, ↓aw_block, ↓aw_exit, ↓aw_ret, ↓sops_nil, ↓sops_go, ↓dops_nil, ↓dopsX_nil, ↓dopsR_nil, ↓vdn, vup, extr_20, extr_21, extr_30, extr_31, extr_32, List.map_cons, List.map_nil, cond_true, cond_false, aop, aThen, aBlock, argEnv, ev, sput, sputO, binK, binI, unK, builtinK, pickK, Nat.reduceBEq, Nat.reduceAdd, Int.reduceBEq, Int.reduceBNe, Int.reduceLT, aPost, resK, tup, tyf, boxK, allocK, cellsOf, Option.isSome_some, newPtr, List.length_append, List.length_singleton]
  rw [store1 (v := .slice none 0 0) (e := 55) (by simp) shp_55 rfl]
  generalize htv : Value.slice tp tl tc = tv at *
  obtain ⟨G, hG⟩ : ∃ G, G = (h ++ [Blk.cells [vint k] 3 false] ++ [Blk.cells [Value.slice none 0 0] 55 false]).set (h.length + 1) (Blk.cells [tv] 55 false) := ⟨_, rfl⟩
  rw [← hG]
  have hlG : G.length = h.length + 2 := by rw [hG]; simp
  have hold : ∀ i, i < h.length → G[i]? = h[i]? := fun i hi => by rw [hG, List.getElem?_set_ne (by omega)]; simp only [List.append_assoc]; exact List.getElem?_append_left hi
  have hExt : Ext (fun _ => False) h G := ⟨by omega, fun i hi _ => hold i hi⟩
  have b0 : G[h.length]? = some (.cells [vint k] 3 false) := by rw [hG, List.getElem?_set_ne (by omega)]; simp
  have b1 : G[h.length + 1]? = some (.cells [tv] 55 false) := by rw [hG]; exact get_set (by simp) _
  have htG : IntSl G tv xs := hv.same fun b hb => hold b (hv.lt hb)
  simp (maxSteps := 2000000) only [s24, ↓aw_region, ↓aw_skip, ↓aw_seq, ↓aw_block, ↓aw_exit, ↓aw_ret, ↓sops_nil, ↓sops_go, ↓dops_nil, ↓dopsX_nil, ↓dopsR_nil, ↓vdn, vup, extr_20, extr_21, extr_30, extr_31, extr_32, List.map_cons, List.map_nil, cond_true, cond_false, aop, aThen, aBlock, argEnv, ev, sput, sputO, binK, binI, unK, builtinK, pickK, Nat.reduceBEq, Nat.reduceAdd, Int.reduceBEq, Int.reduceBNe, Int.reduceLT, aPost, resK, tup, tyf, load1 b1 shp_55, callK, List.nil_append, List.append_nil, List.toList_toArray, List.cons_append]
  refine (valid_call htG hl hx).mono ?_
  rintro _ G2 ⟨rfl, hG2⟩
  subst hG2
  cases ht : trn xs with
  | false =>
    simp (maxSteps := 2000000) only [s24, ↓aw_region, ↓aw_skip, ↓aw_seq, ↓aw_block, ↓aw_exit, ↓aw_ret, ↓sops_nil, ↓sops_go, ↓dops_nil, ↓dopsX_nil, ↓dopsR_nil, ↓vdn, vup, extr_20, extr_21, extr_30, extr_31, extr_32, List.map_cons, List.map_nil, cond_true, cond_false, aop, aThen, aBlock, argEnv, ev, sput, sputO, binK, binI, unK, builtinK, pickK, Nat.reduceBEq, Nat.reduceAdd, Int.reduceBEq, Int.reduceBNe, Int.reduceLT, aPost, resK, tup, tyf]
    exact ⟨hExt, _, _, rfl, by rw [if_neg (by simp)]; exact ⟨rfl, rfl⟩⟩
  | true =>
    have hxl : xs.length ≤ 8 := by simp only [trn, Bool.and_eq_true, decide_eq_true_eq] at ht; omega
    by_cases h3 : k < 3
    · simp (maxSteps := 2000000) only [s24, ↓aw_region, ↓aw_skip, ↓aw_seq, ↓aw_block, ↓aw_exit, ↓aw_ret, ↓sops_nil, ↓sops_go, ↓dops_nil, ↓dopsX_nil, ↓dopsR_nil, ↓vdn, vup, extr_20, extr_21, extr_30, extr_31, extr_32, List.map_cons, List.map_nil, cond_true, cond_false, aop, aThen, aBlock, argEnv, ev, sput, sputO, binK, binI, unK, builtinK, pickK, Nat.reduceBEq, Nat.reduceAdd, Int.reduceBEq, Int.reduceBNe, Int.reduceLT, aPost, resK, tup, tyf, load1 b0 shp_3, h3]
      exact ⟨hExt, _, _, rfl, by rw [if_neg (by omega)]; exact ⟨rfl, rfl⟩⟩
    by_cases hk : (xs.length : Int) < k
    · simp (maxSteps := 2000000) only [s24, ↓aw_region, ↓aw_skip, ↓aw_seq, ↓aw_block, ↓aw_exit, ↓aw_ret, ↓sops_nil, ↓sops_go, ↓dops_nil, ↓dopsX_nil, ↓dopsR_nil, ↓vdn, vup, extr_20, extr_21, extr_30, extr_31, extr_32, List.map_cons, List.map_nil, cond_true, cond_false, aop, aThen, aBlock, argEnv, ev, sput, sputO, binK, binI, unK, builtinK, pickK, Nat.reduceBEq, Nat.reduceAdd, Int.reduceBEq, Int.reduceBNe, Int.reduceLT, aPost, resK, tup, tyf, load1 b0 shp_3, h3, htG.len, hk, gt_iff_lt]
      exact ⟨hExt, _, _, rfl, by rw [if_neg (by omega)]; exact ⟨rfl, rfl⟩⟩
    obtain ⟨n, rfl⟩ := Int.eq_ofNat_of_zero_le (show 0 ≤ k by omega)
    simp (maxSteps := 2000000) only [s24, ↓aw_region, ↓aw_skip, ↓aw_seq, ↓aw_block, ↓aw_exit, ↓aw_ret, ↓sops_nil, ↓sops_go, ↓dops_nil, ↓dopsX_nil, ↓dopsR_nil, ↓vdn, vup, extr_20, extr_21, extr_30, extr_31, extr_32, List.map_cons, List.map_nil, cond_true, cond_false, aop, aThen, aBlock, argEnv, ev, sput, sputO, binK, binI, unK, builtinK, pickK, Nat.reduceBEq, Nat.reduceAdd, Int.reduceBEq, Int.reduceBNe, Int.reduceLT, aPost, resK, tup, tyf, load1 b0 shp_3, load1 b1 shp_55, h3, htG.len, hk, gt_iff_lt, callK, List.nil_append, List.append_nil, List.map_toArray]
    refine (search_call (is := closes xs n) (size := n) htG ht (by omega) ⟨59, _, rfl, fun h' he v l hv' hl' hr => ?_⟩).mono ?_
    · simp only [List.toList_toArray, List.cons_append, List.nil_append]
      exact closes_call ht (htG.same fun b hb => he.2 b (htG.lt hb) id) ((he.2 _ (get_lt b1) id).trans b1) ((he.2 _ (get_lt b0) id).trans b0) hv' hl' (by omega) (by omega) hr
    rintro r h' ⟨hext, hr⟩
    have hfin := hExt.trans hext
    have hcond : (3 ≤ (n : Int) ∧ (n : Int) ≤ xs.length) := ⟨by omega, by omega⟩
    cases hf : find xs n (closes xs n) with
    | none =>
      rw [hf] at hr
      simp only at hr
      subst hr
      simp (maxSteps := 2000000) only [s24, ↓aw_region, ↓aw_skip, ↓aw_seq, ↓aw_block, ↓aw_exit, ↓aw_ret, ↓sops_nil, ↓sops_go, ↓dops_nil, ↓dopsX_nil, ↓dopsR_nil, ↓vdn, vup, extr_20, extr_21, extr_30, extr_31, extr_32, List.map_cons, List.map_nil, cond_true, cond_false, aop, aThen, aBlock, argEnv, ev, sput, sputO, binK, binI, unK, builtinK, pickK, Nat.reduceBEq, Nat.reduceAdd, Int.reduceBEq, Int.reduceBNe, Int.reduceLT, aPost, resK, tup, tyf, Option.isSome_some]
      exact ⟨hfin, _, _, rfl, by rw [if_pos hcond, Int.toNat_natCast, hf]; exact ⟨rfl, rfl⟩⟩
    | some l =>
      rw [hf] at hr
      simp only at hr
      have hln := find_len hf
      obtain ⟨b, m, c, rfl⟩ := nilSl hr (by rintro rfl; simp at hln; omega)
      simp (maxSteps := 2000000) only [s24, ↓aw_region, ↓aw_skip, ↓aw_seq, ↓aw_block, ↓aw_exit, ↓aw_ret, ↓sops_nil, ↓sops_go, ↓dops_nil, ↓dopsX_nil, ↓dopsR_nil, ↓vdn, vup, extr_20, extr_21, extr_30, extr_31, extr_32, List.map_cons, List.map_nil, cond_true, cond_false, aop, aThen, aBlock, argEnv, ev, sput, sputO, binK, binI, unK, builtinK, pickK, Nat.reduceBEq, Nat.reduceAdd, Int.reduceBEq, Int.reduceBNe, Int.reduceLT, aPost, resK, tup, tyf, Option.isSome_some]
      exact ⟨hfin, _, _, rfl, by rw [if_pos hcond, Int.toNat_natCast, hf]; exact ⟨rfl, hr⟩⟩

theorem lit2 {h : Heap} {x y : Int} (K : Value → Heap → Prop) : buildSliceK prog h 22 2 [(0, vint x), (1, vint y)] K = K (.slice (some ⟨h.length, 0, none⟩) 2 2) (h ++ [.ints [x, y] 3 false]) := by
  simp only [buildSliceK, el_22, zero_3, esz_3, reps, fillL, mkb, intsOf, notTuple, cellsOf, List.length_singleton, Nat.mul_one, Nat.zero_mul, Nat.zero_add]
  exact propext ⟨fun h => h.2.2.2, fun h => ⟨trivial, Nat.zero_lt_one, by decide, h⟩⟩
theorem litSl {h : Heap} {xs : List Int} : IntSl (h ++ [.ints xs 3 false]) (.slice (some ⟨h.length, 0, none⟩) xs.length xs.length) xs :=
  .inr ⟨h.length, 0, none, xs.length, xs.map vint, 3, false, rfl, Nat.le_refl _, by simp [view, Blk.view], fun i hi => by simp [List.getD, hi]⟩
theorem IntSl_ext {h h' : Heap} {v : Value} {xs : List Int} (hv : IntSl h v xs) (he : Ext (fun _ => False) h h') : IntSl h' v xs := hv.same fun b hb => he.2 b (hv.lt hb) id

theorem awake_call [BitTab prog 1] {h : Heap} : ACall prog 21 [] h fun r h' => r = .bool true ∧ Ext (fun _ => False) h h' := by
  have ht : trn [0, 1] = true := by decide
  have hf : find [0, 1] 2 (fun _ => true) = some [1, 0] := by decide +kernel
  refine s21_call (by simp) ?_
  simp (maxSteps := 2000000) only [s21, ↓aw_region, ↓aw_skip, ↓aw_seq, ↓aw_block, ↓aw_exit, ↓aw_ret, ↓sops_nil, ↓sops_go, ↓dops_nil, ↓dopsX_nil, ↓dopsR_nil, ↓vdn, vup, extr_20, extr_21, extr_30, extr_31, extr_32, List.map_cons, List.map_nil, cond_true, cond_false, aop, aThen, aBlock, argEnv, ev, sput, sputO, binK, binI, unK, builtinK, pickK, Nat.reduceBEq, Nat.reduceAdd, Int.reduceBEq, Int.reduceBNe, Int.reduceLT, aPost, resK, tup, tyf, lit2, callK, List.nil_append, List.append_nil, List.toList_toArray, List.cons_append]
  refine (way_call (xs := [0, 1]) litSl (by decide) (by decide)).mono ?_
  rintro r h1 ⟨hext, a, e, rfl, hr⟩
  rw [if_pos ht] at hr
  obtain ⟨rfl, hr⟩ := hr
  simp only [List.length_cons, List.length_nil, Nat.zero_add, Nat.reduceAdd, hf] at hr
  have hx : Ext (fun _ => False) h h1 := (Ext.app _ _ _).trans hext
  simp (maxSteps := 2000000) only [s21, ↓aw_region, ↓aw_skip, ↓aw_seq, ↓aw_block, ↓aw_exit, ↓aw_ret, ↓sops_nil, ↓sops_go, ↓dops_nil, ↓dopsX_nil, ↓dopsR_nil, ↓vdn, vup, extr_20, extr_21, extr_30, extr_31, extr_32, List.map_cons, List.map_nil, cond_true, cond_false, aop, aThen, aBlock, argEnv, ev, sput, sputO, binK, binI, unK, builtinK, pickK, Nat.reduceBEq, Nat.reduceAdd, Int.reduceBEq, Int.reduceBNe, Int.reduceLT, aPost, resK, tup, tyf, lit2, callK, List.nil_append, List.append_nil, List.toList_toArray, List.cons_append]
  refine (equal_call (xs := [1, 0]) (ys := [1, 0]) (hr.int.grow _) litSl (by decide) (by decide)).mono ?_
  rintro _ _ ⟨rfl, rfl⟩
  simp (maxSteps := 2000000) only [s21, ↓aw_region, ↓aw_skip, ↓aw_seq, ↓aw_block, ↓aw_exit, ↓aw_ret, ↓sops_nil, ↓sops_go, ↓dops_nil, ↓dopsX_nil, ↓dopsR_nil, ↓vdn, vup, extr_20, extr_21, extr_30, extr_31, extr_32, List.map_cons, List.map_nil, cond_true, cond_false, aop, aThen, aBlock, argEnv, ev, sput, sputO, binK, binI, unK, builtinK, pickK, Nat.reduceBEq, Nat.reduceAdd, Int.reduceBEq, Int.reduceBNe, Int.reduceLT, aPost, resK, tup, tyf]
  exact hx.trans (Ext.app _ _ _)
end Go.Proofs.Tryd.Am

namespace Go.Proofs.Tryd.Am
open Go.Am
set_option maxRecDepth 100000
set_option maxHeartbeats 1000000

theorem trn_nat {xs : List Int} (h : trn xs = true) {i : Nat} (hi : i < xs.length) : xs.getD i 0 = ((xs.getD i 0).toNat : Int) ∧ (xs.getD i 0).toNat < 2 ^ xs.length := by
  simp only [trn, Bool.and_eq_true, decide_eq_true_eq, List.all_eq_true, List.mem_range] at h
  have h2 := h.2 i hi
  rw [okAt, Bool.and_eq_true, Bool.and_eq_true, Bool.and_eq_true, decide_eq_true_eq, decide_eq_true_eq] at h2
  have h3 := h2.1.1.1
  have h4 := h2.1.1.2
  have e : ((2 ^ xs.length : Nat) : Int) = 2 ^ xs.length := by simp
  refine ⟨(Int.toNat_of_nonneg h3).symm, ?_⟩
  rw [← Int.toNat_of_nonneg h3, ← e] at h4
  exact Int.ofNat_lt.1 h4

end Go.Proofs.Tryd.Am

namespace Go.Proofs.Tryd.Am
open Go.Am
set_option maxRecDepth 100000
set_option maxHeartbeats 1000000

/-- The first way that goes on from begun through players not met. -/
def wayR (xs : List Int) (k : Nat) (round : Bool) : Nat → List Int → Nat → Option (List Int)
  | 0, _, _ => none
  | m + 1, begun, met => if begun.length = k then (if round = true ∧ closes xs k begun = false then none else some begun) else
    firstOf (fun i => if met.testBit i = true ∨ (begun ≠ [] ∧ bitI (xs.getD (begun.getD (begun.length - 1) 0).toNat 0) i = false) then none else wayR xs k round m (begun ++ [(i : Int)]) (met ||| 2 ^ i)) (List.range xs.length)

end Go.Proofs.Tryd.Am

namespace Go.Proofs.Tryd.Am
open Go.Am
set_option maxRecDepth 100000
set_option maxHeartbeats 1000000

theorem firstOf_filter {α β : Type} {f : α → Option β} {p : α → Bool} : ∀ l : List α, firstOf f (l.filter p) = firstOf (fun x => if p x = true then f x else none) l
  | [] => rfl
  | x :: l => by
    rw [List.filter_cons]
    by_cases h : p x = true
    · rw [if_pos h, firstOf, firstOf, if_pos h, firstOf_filter l]
    · rw [if_neg h, firstOf, if_neg h, firstOf_filter l]
theorem firstOf_congr {α β : Type} {f g : α → Option β} : ∀ {l : List α}, (∀ x ∈ l, f x = g x) → firstOf f l = firstOf g l
  | [], _ => rfl
  | x :: l, h => by rw [firstOf, firstOf, h x (by simp), firstOf_congr fun y hy => h y (by simp [hy])]
theorem bits_range {s n : Nat} (hs : s < 2 ^ n) (hn : n ≤ 64) : Am.bits s = (List.range n).filter fun i => s.testBit i := by
  obtain ⟨d, hd⟩ : ∃ d, 64 = n + d := ⟨64 - n, by omega⟩
  unfold Am.bits
  rw [hd, List.range_add, List.filter_append]
  have : List.filter (fun i => s.testBit i) (List.map (fun x => n + x) (List.range d)) = [] := by
    rw [List.filter_eq_nil_iff]
    intro i hi
    obtain ⟨j, _, rfl⟩ := List.mem_map.1 hi
    rw [Nat.testBit_lt_two_pow (Nat.lt_of_lt_of_le hs (Nat.pow_le_pow_right (by decide) (by omega)))]; simp
  rw [this, List.append_nil]

theorem grow_way {xs : List Int} {size : Nat} {round : Bool} (hx : xs.length ≤ 64) : ∀ (m n : Nat) (cur : List Int) (met : Nat), cur.length ≤ size → size - cur.length < m → less (2 ^ xs.length - 1) met < n →
    grow xs size (fun l => !round || closes xs size l) n cur (less (2 ^ xs.length - 1) met) = wayR xs size round m cur met := by
  have hpos := Nat.two_pow_pos xs.length
  intro m
  induction m with
  | zero => intro n cur met _ h; omega
  | succ m ih =>
    intro n cur met hle hm hn
    cases n with
    | zero => omega
    | succ n =>
      simp only [grow, wayR]
      by_cases hlen : cur.length = size
      · rw [if_pos hlen, if_pos hlen]
        by_cases hcl : closes xs size cur = true <;> cases round <;> simp [hcl]
      · rw [if_neg hlen, if_neg hlen]
        rw [bits_range (less_lt (show 2 ^ xs.length - 1 < 2 ^ xs.length by omega)) hx, firstOf_filter]
        refine firstOf_congr fun i hi => ?_
        have hin := List.mem_range.1 hi
        have ht : (less (2 ^ xs.length - 1) met).testBit i = !met.testBit i := by
          rw [less_testBit, Nat.testBit_two_pow_sub_one, decide_eq_true hin, Bool.true_and]
        cases hmb : met.testBit i with
        | true => rw [hmb] at ht; rw [if_neg (by rw [ht]; decide), if_pos (.inl rfl)]
        | false =>
          rw [hmb, Bool.not_false] at ht
          rw [if_pos ht]
          by_cases hc : cur ≠ [] ∧ bitI (xs.getD (cur.getD (cur.length - 1) 0).toNat 0) i = false
          · rw [if_pos hc, if_pos (.inr hc)]
          · rw [if_neg hc, if_neg (by rintro (h | h); cases h; exact hc h)]
            have e : less (less (2 ^ xs.length - 1) met) (2 ^ i) = less (2 ^ xs.length - 1) (met ||| 2 ^ i) := by
              apply Nat.eq_of_testBit_eq
              intro j
              rw [less_testBit, less_testBit, less_testBit, Nat.testBit_or]
              cases (2 ^ xs.length - 1).testBit j <;> cases met.testBit j <;> cases (2 ^ i).testBit j <;> rfl
            rw [e]
            refine ih n _ _ (by simp; omega) (by simp; omega) ?_
            rw [← e]
            have := less_bit_lt ht
            omega

theorem find_way {xs : List Int} {size : Nat} {round : Bool} (hx : xs.length ≤ 64) : find xs size (fun l => !round || closes xs size l) = wayR xs size round (size + 1) [] 0 := by
  have hpos := Nat.two_pow_pos xs.length
  have e : less (2 ^ xs.length - 1) 0 = 2 ^ xs.length - 1 := by
    apply Nat.eq_of_testBit_eq; intro j; rw [less_testBit]; simp
  have := grow_way (size := size) (round := round) hx (size + 1) (2 ^ xs.length) [] 0 (Nat.zero_le _) (by simp) (by rw [e]; omega)
  rw [e] at this
  exact this

theorem trn_take {xs : List Int} : trn (xs.take 11) = trn xs := by
  by_cases h : xs.length ≤ 11
  · rw [List.take_of_length_le h]
  · have h1 : trn xs = false := by simp only [trn, Bool.and_eq_false_iff, decide_eq_false_iff_not]; exact .inl (.inr (by omega))
    have h2 : trn (xs.take 11) = false := by simp only [trn, Bool.and_eq_false_iff, decide_eq_false_iff_not]; refine .inl (.inr ?_); simp; omega
    rw [h1, h2]

end Go.Proofs.Tryd.Am

namespace Go.Proofs.Tryd.Kings

section
variable {α : Type} {p q : α → Bool}
theorem most (f : α → Nat) : ∀ {l : List α}, l ≠ [] → ∃ u ∈ l, ∀ w ∈ l, f w ≤ f u
  | [], h => absurd rfl h
  | [x], _ => ⟨x, by simp, fun w hw => by rw [List.mem_singleton.1 hw]; exact Nat.le_refl _⟩
  | x :: y :: l, _ => by
    obtain ⟨u, hu, hm⟩ := most f (l := y :: l) (by simp)
    by_cases h : f x ≤ f u
    · exact ⟨u, List.mem_cons_of_mem _ hu, fun w hw => by rcases List.mem_cons.1 hw with rfl | hw; exact h; exact hm w hw⟩
    · exact ⟨x, by simp, fun w hw => by rcases List.mem_cons.1 hw with rfl | hw; exact Nat.le_refl _; have := hm w hw; omega⟩
end

/-- Of two, just one beats the other; nobody beats himself. -/
def Trn (n : Nat) (b : Nat → Nat → Bool) : Prop := (∀ i j, i < n → j < n → i ≠ j → b i j = !b j i) ∧ ∀ i, i < n → b i i = false

variable {n : Nat} {b : Nat → Nat → Bool}

end Go.Proofs.Tryd.Kings

namespace Go.Proofs.Tryd.Am
open Go.Am Kings

/-- i beats j. -/
def bb (xs : List Int) (i j : Nat) : Bool := bitI (xs.getD i 0) j

theorem trn_trn {xs : List Int} (h : trn xs = true) : Trn xs.length (bb xs) := by
  have hok : ∀ i, i < xs.length → ∀ j, j < i → bitI (xs.getD i 0) j = !bitI (xs.getD j 0) i := by
    intro i hi j hj
    simp only [trn, Bool.and_eq_true, decide_eq_true_eq, List.all_eq_true, List.mem_range] at h
    have h2 := h.2 i hi
    simp only [okAt, Bool.and_eq_true, List.all_eq_true, List.mem_range] at h2
    have h3 := h2.2 j hj
    revert h3
    cases bitI (xs.getD i 0) j <;> cases bitI (xs.getD j 0) i <;> decide
  refine ⟨fun i j hi hj hij => ?_, fun i hi => ?_⟩
  · show bitI (xs.getD i 0) j = !bitI (xs.getD j 0) i
    rcases Nat.lt_or_gt_of_ne hij with hlt | hlt
    · rw [hok j hj i hlt, Bool.not_not]
    · exact hok i hi j hlt
  · simp only [trn, Bool.and_eq_true, decide_eq_true_eq, List.all_eq_true, List.mem_range] at h
    have h2 := h.2 i hi
    simp only [okAt, Bool.and_eq_true, Bool.not_eq_true'] at h2
    exact h2.1.2

end Go.Proofs.Tryd.Am

namespace Go.Proofs.Tryd.Am
open Go.Am
set_option maxRecDepth 100000
set_option maxHeartbeats 1000000

theorem trn_len {xs : List Int} (h : trn xs = true) : 1 ≤ xs.length ∧ xs.length ≤ 8 := by
  simp only [trn, Bool.and_eq_true, decide_eq_true_eq] at h; exact h.1
theorem trn_clr {xs : List Int} (h : trn xs = true) : Clr.Trn xs.length (bb xs) := ⟨(trn_trn h).1, (trn_trn h).2⟩
end Go.Proofs.Tryd.Am

namespace Go.Proofs.Tryd.Redei

/-- The sum of f over a list. -/
def sm {α : Type} (f : α → Nat) : List α → Nat
  | [] => 0
  | x :: l => f x + sm f l

section
variable {α β : Type}
end

/-- One picked out of a list, and the rest. -/
def picks : List Nat → List (Nat × List Nat)
  | [] => []
  | x :: S => (x, S) :: (picks S).map fun p => (p.1, x :: p.2)
/-- The ways through all of a list that end with y behind it. -/
def en (r : Nat → Nat → Bool) : Nat → List Nat → Nat → Nat
  | 0, A, _ => if A = [] then 1 else 0
  | n + 1, A, y => (if A = [] then 1 else 0) + sm (fun p => if r p.1 y then en r n p.2 p.1 else 0) (picks A)
def E (r : Nat → Nat → Bool) (A : List Nat) (y : Nat) : Nat := en r A.length A y
/-- All ways through a list. -/
def H (r : Nat → Nat → Bool) (S : List Nat) : Nat := sm (fun p => E r p.2 p.1) (picks S)

/-- The arcs between a and b are told anew. -/
def put (r : Nat → Nat → Bool) (a b : Nat) (u v : Bool) (x y : Nat) : Bool := if x = a ∧ y = b then u else if x = b ∧ y = a then v else r x y

end Go.Proofs.Tryd.Redei

namespace Go.Proofs.Tryd.Am
open Go.Am Redei

/-- y beats x. -/
def bt (xs : List Int) (x y : Nat) : Bool := bitI (xs.getD y 0) x

/-- Each beats the next. -/
def chain (xs : List Int) (l : List Int) : Prop := ∀ k, k + 1 < l.length → bitI (xs.getD (l.getD k 0).toNat 0) (l.getD (k + 1) 0).toNat = true

end Go.Proofs.Tryd.Am

namespace Rb
/-- The least of some numbers and b. -/
def mnF (v : Nat → Nat) : List Nat → Nat → Nat
  | [], b => b
  | i :: l, b => mnF v l (if v i < b then v i else b)
section
variable {v : Nat → Nat}
/-- What a run keeps that takes each better one. -/
def keep {α : Type} (v : Nat → Nat) (p : Nat → α) (st : Nat × α) (i : Nat) : Nat × α := if v i < st.1 then (v i, p i) else st
end

/-- Who is not in a set. -/
def fr (n s : Nat) : List Nat := (List.range n).filter fun i => !s.testBit i
section
variable (c : Nat → Nat → Nat) (n : Nat)
/-- The least number of pairs that k players bring who are not in s. -/
def rst : Nat → Nat → Nat
  | 0, _ => 0
  | k + 1, s => mnF (fun i => c i s + rst k (s ||| 2 ^ i)) (fr n s) (n * n)
def fv (k s i : Nat) : Nat := c i s + rst c n k (s ||| 2 ^ i)
/-- The first order of them that brings no more. -/
def gr : Nat → Nat → List Nat
  | 0, _ => []
  | k + 1, s => match (fr n s).find? (fun i => fv c n k s i == rst c n (k + 1) s) with
    | some i => i :: gr k (s ||| 2 ^ i)
    | none => []
variable {c n}
end
end Rb

namespace Go.Proofs.Tryd.Am
open Go.Am Redei Rb
set_option maxRecDepth 100000
set_option maxHeartbeats 1000000

/-- What a player brings that stands behind a set. -/
def cst (xs : List Int) (i s : Nat) : Nat := (Am.bits ((xs.getD i 0).toNat &&& s)).length
end Go.Proofs.Tryd.Am

namespace Go.Proofs.Tryd.Am
open Go.Am
set_option maxRecDepth 100000
end Go.Proofs.Tryd.Am

namespace Go.Proofs.Tryd.Am
open Go.Am
set_option maxRecDepth 100000
end Go.Proofs.Tryd.Am

namespace Go.Proofs.Tryd.Am
open Go.Am
set_option maxRecDepth 100000
set_option maxHeartbeats 1000000

/-! How many elements a set has, as the library counts. -/
def oc1 (x : Int) : Int := addV .u64 (bitsV .and .u64 (shrV .u64 x 1) 6148914691236517205) (bitsV .and .u64 x 6148914691236517205)
def oc2 (x : Int) : Int := addV .u64 (bitsV .and .u64 (shrV .u64 x 2) 3689348814741910323) (bitsV .and .u64 x 3689348814741910323)
def oc3 (x : Int) : Int := bitsV .and .u64 (addV .u64 (shrV .u64 x 4) x) 1085102592571150095
def oc4 (x : Int) : Int := addV .u64 x (shrV .u64 x 8)
def oc5 (x : Int) : Int := addV .u64 x (shrV .u64 x 16)
def oc6 (x : Int) : Int := addV .u64 x (shrV .u64 x 32)
def ocA (x : Int) : Int := bitsV .and .i64 (IntKind.i64.wrap (oc6 (oc5 (oc4 (oc3 (oc2 (oc1 x))))))) 127
theorem oc_tab : (List.range 256).all (fun x => decide (ocA (x : Int) = (((Am.bits x).length : Nat) : Int))) = true := by kernel_rfl
theorem ones_call [Tabs prog] {h : Heap} {x : Nat} (hx : x < 256) : APure prog 109 [.int .u64 (x : Int)] h (vint ((Am.bits x).length : Nat)) := by
  have hoc : ocA (x : Int) = (((Am.bits x).length : Nat) : Int) := of_decide_eq_true (List.all_eq_true.1 oc_tab x (List.mem_range.2 hx))
  refine s109_call (by simp) ?_
  simp (maxSteps := 2000000) only [s109, ↓aw_region, ↓aw_skip, ↓aw_seq, ↓aw_block, ↓aw_exit, ↓aw_ret, ↓sops_nil, ↓sops_go, ↓dops_nil, ↓dopsX_nil, ↓dopsR_nil, ↓vdn, vup, extr_20, extr_21, extr_30, extr_31, extr_32, List.map_cons, List.map_nil, cond_true, cond_false, aop, aThen, aBlock, argEnv, ev, sput, sputO, binK, binI, unK, builtinK, pickK, Nat.reduceBEq, Nat.reduceAdd, Int.reduceBEq, Int.reduceBNe, Int.reduceLT, aPost, resK, tup, tyf, convK, und_89, und_3, Int.reduceLE, true_and]
  exact congrArg (fun z : Int => vint z) hoc
theorem count_call [Tabs prog] {h : Heap} {x : Nat} (hx : x < 256) : APure prog 73 [vint x] h (vint ((Am.bits x).length : Nat)) := by
  have hw : IntKind.u64.wrap ((x : Nat) : Int) = (x : Int) := by simp [IntKind.wrap, IntKind.signed, IntKind.bits]; omega
  refine s73_call (by simp) ?_
  simp (maxSteps := 2000000) only [s73, ↓aw_region, ↓aw_skip, ↓aw_seq, ↓aw_block, ↓aw_exit, ↓aw_ret, ↓sops_nil, ↓sops_go, ↓dops_nil, ↓dopsX_nil, ↓dopsR_nil, ↓vdn, vup, extr_20, extr_21, extr_30, extr_31, extr_32, List.map_cons, List.map_nil, cond_true, cond_false, aop, aThen, aBlock, argEnv, ev, sput, sputO, binK, binI, unK, builtinK, pickK, Nat.reduceBEq, Nat.reduceAdd, Int.reduceBEq, Int.reduceBNe, Int.reduceLT, aPost, resK, tup, tyf, convK, und_3, und_53, hw, callK, List.nil_append, List.append_nil, List.toList_toArray, List.cons_append]
  refine s97_call (by simp) ?_
  simp (maxSteps := 2000000) only [s97, ↓aw_region, ↓aw_skip, ↓aw_seq, ↓aw_block, ↓aw_exit, ↓aw_ret, ↓sops_nil, ↓sops_go, ↓dops_nil, ↓dopsX_nil, ↓dopsR_nil, ↓vdn, vup, extr_20, extr_21, extr_30, extr_31, extr_32, List.map_cons, List.map_nil, cond_true, cond_false, aop, aThen, aBlock, argEnv, ev, sput, sputO, binK, binI, unK, builtinK, pickK, Nat.reduceBEq, Nat.reduceAdd, Int.reduceBEq, Int.reduceBNe, Int.reduceLT, aPost, resK, tup, tyf]
  refine ⟨false, rfl, fun h => (by cases h), fun _ => ?_⟩
  simp (maxSteps := 2000000) only [s97, ↓aw_region, ↓aw_skip, ↓aw_seq, ↓aw_block, ↓aw_exit, ↓aw_ret, ↓sops_nil, ↓sops_go, ↓dops_nil, ↓dopsX_nil, ↓dopsR_nil, ↓vdn, vup, extr_20, extr_21, extr_30, extr_31, extr_32, List.map_cons, List.map_nil, cond_true, cond_false, aop, aThen, aBlock, argEnv, ev, sput, sputO, binK, binI, unK, builtinK, pickK, Nat.reduceBEq, Nat.reduceAdd, Int.reduceBEq, Int.reduceBNe, Int.reduceLT, aPost, resK, tup, tyf, callK, List.nil_append, List.append_nil, List.toList_toArray, List.cons_append]
  refine (ones_call hx).mono ?_
  rintro _ h ⟨rfl, rfl⟩
  simp (maxSteps := 2000000) only [s97, ↓aw_region, ↓aw_skip, ↓aw_seq, ↓aw_block, ↓aw_exit, ↓aw_ret, ↓sops_nil, ↓sops_go, ↓dops_nil, ↓dopsX_nil, ↓dopsR_nil, ↓vdn, vup, extr_20, extr_21, extr_30, extr_31, extr_32, List.map_cons, List.map_nil, cond_true, cond_false, aop, aThen, aBlock, argEnv, ev, sput, sputO, binK, binI, unK, builtinK, pickK, Nat.reduceBEq, Nat.reduceAdd, Int.reduceBEq, Int.reduceBNe, Int.reduceLT, aPost, resK, tup, tyf]

end Go.Proofs.Tryd.Am

namespace Go.Proofs.Tryd.Am
open Go.Am Redei Rb
set_option maxRecDepth 100000
set_option maxHeartbeats 1000000

theorem pow8N {n : Nat} (h : n ≤ 8) : 2 ^ n ≤ 256 := Nat.pow_le_pow_right (n := 2) (by decide) h
theorem shlI1 {n : Nat} (h : n ≤ 62) : shlV .i64 1 (n : Int) = ((2 ^ n : Nat) : Int) := by
  have h2 : 2 ^ n ≤ 2 ^ 62 := Nat.pow_le_pow_right (by decide) h
  have := shlV_nat (a := 1) (y := n) (by omega) (by omega)
  simpa using this
end Go.Proofs.Tryd.Am

namespace Rb
/-- How many pairs an order goes against: for each one, the earlier ones that it beats. -/
def back (b : Nat → Nat → Bool) (pre : List Nat) : List Nat → Nat
  | [] => 0
  | x :: l => pre.countP (b x) + back b (pre ++ [x]) l
section
variable {c : Nat → Nat → Nat} {n : Nat}
end
section
variable {b b' : Nat → Nat → Bool}
end
end Rb

namespace Go.Proofs.Tryd.Am
open Go.Am
set_option maxRecDepth 100000
end Go.Proofs.Tryd.Am

namespace Go.Proofs.Tryd.Am
open Go.Am
set_option maxRecDepth 100000
set_option maxHeartbeats 1000000

/-- The cycles under way: t's box and the list's box; what lay before lies as it lay. -/
structure CS (h : Heap) (n : Nat) (v : Value) (hp : Heap) (ov : Value) (ts : List T3) : Prop where
  t : hp[n]? = some (.cells [v] 55 false)
  o : hp[n + 1]? = some (.cells [ov] 36 false)
  own : OwnT 40 hp ov ts
  blk : ∀ b, blkOf ov = some b → n + 2 ≤ b
  ext : Ext (fun _ => False) h hp
  len : h.length = n
/-- What a part of the run may touch. -/
def cS (n : Nat) (ov : Value) (i : Nat) : Prop := i = n + 1 ∨ blkOf ov = some i
def Mv (n : Nat) (ov : Value) (h : Heap) (ov' : Value) (h' : Heap) : Prop := Ext (cS n ov) h h' ∧ (blkOf ov' = blkOf ov ∨ ∃ b, blkOf ov' = some b ∧ h.length ≤ b)
section
variable {h hp hq : Heap} {n : Nat} {v ov ov' ov2 : Value} {ts : List T3}
theorem _root_.Go.Am.OwnT.notCells {e e2 : TypeId} {c : List Value} {ro : Bool} {j : Nat} (ho : OwnT e hp v ts) (hj : hp[j]? = some (.cells c e2 ro)) : blkOf v ≠ some j := fun hb => by
  obtain ⟨ys, hy⟩ := ho.ints hb
  rw [hj] at hy; cases hy
theorem CS.new (s : CS h n v hp ov ts) (hE : Ext (fun _ => False) hp hq) : CS h n v hq ov ts :=
  ⟨(hE.2 _ (get_lt s.t) id).trans s.t, (hE.2 _ (get_lt s.o) id).trans s.o, s.own.ext hE, s.blk, s.ext.trans hE, s.len⟩
theorem Mv.new (hE : Ext (fun _ => False) hp hq) : Mv n ov hp ov hq := ⟨hE.mono fun _ h => h.elim, .inl rfl⟩
theorem Mv.trans (a : Mv n ov h ov' hp) (b : Mv n ov' hp ov2 hq) (hn : n + 1 < h.length) : Mv n ov h ov2 hq := by
  have hl := a.1.1
  refine ⟨⟨Nat.le_trans hl b.1.1, fun i hi hs => ?_⟩, ?_⟩
  · rw [b.1.2 i (by omega) ?_, a.1.2 i hi hs]
    rintro (h1 | h1)
    · exact hs (.inl h1)
    · rcases a.2 with h2 | ⟨b', h2, h3⟩
      · exact hs (.inr (h2 ▸ h1))
      · rw [h2] at h1; cases h1; omega
  · rcases b.2 with h1 | ⟨b', h1, h2⟩
    · rw [h1]; exact a.2
    · exact .inr ⟨b', h1, by omega⟩
theorem Mv.box (m : Mv n ov hp ov' hq) (s : CS h n v hp ov ts) {j : Nat} {c : List Value} {e : TypeId} {ro : Bool} (hj : hp[j]? = some (.cells c e ro)) (hn : n + 2 ≤ j) : hq[j]? = some (.cells c e ro) := by
  rw [m.1.2 j (get_lt hj) ?_]
  · exact hj
  · rintro (h1 | h1)
    · omega
    · exact s.own.notCells hj h1
/-- One cycle more. -/
theorem CS.push (s : CS h n v hp ov ts) {t : T3} (hE : Ext (fun i => blkOf ov = some i) hp hq) (ho : OwnT 40 hq ov' (ts ++ [t])) (hb : blkOf ov' = blkOf ov ∨ ∃ b, blkOf ov' = some b ∧ hp.length ≤ b) :
    CS h n v (hq.set (n + 1) (.cells [ov'] 36 false)) ov' (ts ++ [t]) ∧ Mv n ov hp ov' (hq.set (n + 1) (.cells [ov'] 36 false)) := by
  have hl := hE.1
  have ho1 := get_lt s.o
  have hnb : ∀ b, blkOf ov' = some b → n + 2 ≤ b := fun b hbb => by
    rcases hb with h1 | ⟨b', h1, h2⟩
    · exact s.blk b (h1 ▸ hbb)
    · rw [h1] at hbb; cases hbb; omega
  refine ⟨⟨?_, get_set (by omega) _, ?_, hnb, ⟨?_, fun i hi _ => ?_⟩, s.len⟩, ⟨(hE.mono fun _ h => .inr h).trans (Ext.set _ (.inl rfl)), hb⟩⟩
  · rw [List.getElem?_set_ne (by omega), hE.2 _ (get_lt s.t) (s.own.notCells s.t)]; exact s.t
  · exact ho.same fun b hbb => List.getElem?_set_ne (by have := hnb b hbb; omega)
  · have := s.ext.1; simp; omega
  · have := s.ext.1
    have hsl := s.len
    rw [List.getElem?_set_ne (by omega), hE.2 i (by omega) fun hbb => by have := s.blk i hbb; omega]
    exact s.ext.2 i hi id
end
end Go.Proofs.Tryd.Am

namespace Go.Proofs.Tryd.Am
open Go.Am
set_option maxRecDepth 100000
set_option maxHeartbeats 1000000

end Go.Proofs.Tryd.Am

namespace Go.Proofs.Tryd.Am
open Go.Am
set_option maxRecDepth 100000
set_option maxHeartbeats 1000000

end Go.Proofs.Tryd.Am

namespace Go.Proofs.Tryd.Am
open Go.Am
set_option maxRecDepth 100000
set_option maxHeartbeats 1000000

/-- A result turned in a player's set. -/
def xI (a : Int) (m : Nat) : Int := ((a.toNat ^^^ 2 ^ m : Nat) : Int)
def half (t : List Int) (i j : Nat) : List Int := t.set i (xI (t.getD i 0) j)
section
variable {h : Heap} {t e : TypeId} {b o n c k : Nat} {xs : List Int} {ro : Bool}
end
end Go.Proofs.Tryd.Am

namespace Go.Proofs.Tryd.Am
open Go.Am Redei Rb
set_option maxRecDepth 100000
set_option maxHeartbeats 1000000

abbrev pt (b : Nat) : Value := .pointer (some ⟨b, 0, none⟩)
abbrev iL (L : List Nat) : List Int := L.map Int.ofNat
theorem iL_len (L : List Nat) : (iL L).length = L.length := by simp
/-- The two boxes of the search. -/
structure BO (h : Heap) (bb bo : Nat) (st : Nat × List Nat) : Prop where
  b : h[bb]? = some (.cells [vint st.1] 3 false)
  o : ∃ ov, h[bo]? = some (.cells [ov] 22 false) ∧ OwnSl 3 h ov (iL st.2)
  ne : bb ≠ bo
abbrev EB (bb bo : Nat) : Heap → Heap → Prop := Ext fun i => i = bb ∨ i = bo
theorem own_ne {h : Heap} {v : Value} {xs : List Int} (ho : OwnSl 3 h v xs) {b : Nat} {c : List Value} {e : TypeId} (hb : h[b]? = some (.cells c e false)) : blkOf v ≠ some b := fun hv => by
  obtain ⟨ys, h1⟩ := ho.ints hv
  rw [hb] at h1; cases h1
theorem BO.own {h h' : Heap} {bb bo : Nat} {st : Nat × List Nat} (B : BO h bb bo st) {v : Value} {xs : List Int} (ho : OwnSl 3 h v xs) (hE : EB bb bo h h') : OwnSl 3 h' v xs := by
  obtain ⟨ov, h1, _⟩ := B.o
  refine ho.ext hE fun b hb hx => ?_
  rcases hx with rfl | rfl
  · exact own_ne ho B.b hb
  · exact own_ne ho h1 hb
theorem BO.ext {h h' : Heap} {bb bo : Nat} {st : Nat × List Nat} (B : BO h bb bo st) (hE : Ext (fun _ => False) h h') : BO h' bb bo st := by
  obtain ⟨ov, h1, h2⟩ := B.o
  exact ⟨(hE.2 _ (get_lt B.b) id).trans B.b, ⟨ov, (hE.2 _ (get_lt h1) id).trans h1, h2.ext hE fun _ _ => id⟩, B.ne⟩
theorem litI1 {h : Heap} {x : Int} (K : Value → Heap → Prop) : buildSliceK prog h 22 1 [(0, vint x)] K = K (.slice (some ⟨h.length, 0, none⟩) 1 1) (h ++ [.ints [x] 3 false]) := by
  simp only [buildSliceK, el_22, zero_3, esz_3, reps, fillL, mkb, intsOf, notTuple, cellsOf, List.length_singleton, Nat.mul_one, Nat.zero_mul, Nat.zero_add]
  exact propext ⟨fun h => h.2.2.2, fun h => ⟨trivial, by decide, by decide, h⟩⟩
end Go.Proofs.Tryd.Am

namespace Go.Proofs.Tryd.Am
open Go.Am Rb
set_option maxRecDepth 100000
set_option maxHeartbeats 1000000

abbrev nl (os : List Int) : List Nat := os.map Int.toNat
end Go.Proofs.Tryd.Am

namespace Go.Proofs.Tryd.Am
open Go.Am Rb
set_option maxRecDepth 100000
set_option maxHeartbeats 1000000

def hit (i j x y : Nat) : Bool := decide (x = i ∧ y = j) ^^ decide (x = j ∧ y = i)
theorem trn_iff {xs : List Int} : trn xs = true ↔ (1 ≤ xs.length ∧ xs.length ≤ 8) ∧ ∀ i, i < xs.length → 0 ≤ xs.getD i 0 ∧ xs.getD i 0 < 2 ^ xs.length ∧ bb xs i i = false ∧ ∀ j, j < i → bb xs i j ≠ bb xs j i := by
  simp only [trn, okAt, Bool.and_eq_true, decide_eq_true_eq, List.all_eq_true, List.mem_range, Bool.not_eq_true', bne_iff_ne, bb, and_assoc]
end Go.Proofs.Tryd.Am

namespace Go.Proofs.Tryd.Am
open Go.Am
set_option maxRecDepth 100000
/-! 49: planchet ranks.Parts -/
@[reducible] def q49_0 : SCode := .region [⟨some 2, .assign (.const (.slice none 0 0)), none⟩,
    ⟨some 3, .assign (.const (.int .i64 0)), none⟩]
@[reducible] def q49_1 : SCode := .region [⟨some 12, .move (.tmp 0), none⟩,
    ⟨some 4, .assign (.tmp 12), none⟩]
@[reducible] def q49_2 : SCode := .region [⟨some 13, .move (.tmp 4), none⟩,
    ⟨some 14, .call { callee := .value (.func 56), args := #[.tmp 13], argTypes := #[55] }, none⟩,
    ⟨some 15, .unOp .not 4 (.tmp 14), none⟩]
@[reducible] def q49_3 : SCode := .region [⟨some 2, .assign (.const (.slice none 0 0)), none⟩,
    ⟨some 3, .assign (.const (.int .i64 2)), none⟩]
@[reducible] def q49_4 : SCode := .region [⟨some 16, .makeMap 75 none, none⟩,
    ⟨some 5, .assign (.tmp 16), none⟩]
@[reducible] def q49_5 : SCode := .region [⟨some 17, .move (.tmp 0), none⟩,
    ⟨some 18, .call { callee := .builtin .len, args := #[.tmp 17], argTypes := #[22] }, none⟩,
    ⟨some 19, .move (.const (.int .i64 0)), none⟩]
@[reducible] def q49_6 : SCode := .region [⟨some 20, .binOp .lss 3 (.tmp 19) (.tmp 18) 3, none⟩]
@[reducible] def q49_7 : SCode := .region [⟨some 21, .move (.tmp 19), none⟩,
    ⟨some 6, .assign (.tmp 21), none⟩]
def q49_8 : SCode := .draw [⟨some 22, .move (.tmp 5), none⟩,
    ⟨some 23, .move (.tmp 4), none⟩,
    ⟨some 24, .move (.tmp 6), none⟩,
    ⟨some 25, .call { callee := .value (.func 82), args := #[.tmp 23, .tmp 24], argTypes := #[55, 3] }, none⟩,
    ⟨some 26, .lookup 75 (.tmp 22) (.tmp 25) false, none⟩,
    ⟨some 27, .move (.tmp 6), none⟩,
    ⟨some 28, .binOp .shl 3 (.const (.int .i64 1)) (.tmp 27) 3, none⟩,
    ⟨some 29, .binOp .or 3 (.tmp 26) (.tmp 28) 3, none⟩,
    ⟨none, .mapUpdate 75 (.tmp 22) (.tmp 25) (.tmp 29), none⟩]
   [[], [], [], [1, 2], [0, 3], [], [5], [4, 6], [0, 3, 7, 3, 0, 1, 2, 3, 4, 5, 6, 7]]
@[reducible] def q49_9 : SCode := .region [⟨some 30, .binOp .add 3 (.tmp 19) (.const (.int .i64 1)) 3, none⟩,
    ⟨some 19, .move (.tmp 30), none⟩]
def l49_0 : SCode := (.seq q49_6 (.seq (.cond (.tmp 20) .skip (.exit 0)) (.seq (.block 1 (.seq q49_7 q49_8)) q49_9)))
@[reducible] def q49_10 : SCode := .region [⟨some 7, .assign (.const (.slice none 0 0)), none⟩]
@[reducible] def q49_11 : SCode := .region [⟨some 31, .move (.tmp 5), none⟩,
    ⟨some 32, .range 75 (.tmp 31), none⟩]
@[reducible] def q49_12 : SCode := .region [⟨some 33, .next (.tmp 32) false, none⟩,
    ⟨some 34, .extract (.tmp 33) 0, none⟩]
@[reducible] def q49_13 : SCode := .region [⟨some 35, .entry (.tmp 32), none⟩,
    ⟨some 36, .extract (.tmp 35) 0, none⟩,
    ⟨some 8, .assign (.tmp 36), none⟩]
@[reducible] def q49_14 : SCode := .region [⟨some 37, .move (.tmp 7), none⟩,
    ⟨some 38, .move (.tmp 8), none⟩,
    ⟨some 39, .buildSlice 22 1 #[(0, .tmp 38)], none⟩,
    ⟨some 40, .call { callee := .builtin .append, args := #[.tmp 37, .tmp 39], argTypes := #[22, 22] }, none⟩,
    ⟨some 7, .assign (.tmp 40), none⟩]
def l49_1 : SCode := (.seq q49_12 (.seq (.cond (.tmp 34) .skip (.exit 2)) (.block 3 (.seq q49_13 q49_14))))
@[reducible] def q49_15 : SCode := .region [⟨some 41, .move (.tmp 7), none⟩,
    ⟨some 42, .call { callee := .value (.func 83), args := #[.tmp 41, .func 84], argTypes := #[22, 69] }, none⟩]
@[reducible] def q49_16 : SCode := .region [⟨some 9, .assign (.const (.slice none 0 0)), none⟩]
@[reducible] def q49_17 : SCode := .region [⟨some 43, .move (.tmp 7), none⟩,
    ⟨some 44, .call { callee := .builtin .len, args := #[.tmp 43], argTypes := #[22] }, none⟩,
    ⟨some 45, .move (.const (.int .i64 0)), none⟩]
@[reducible] def q49_18 : SCode := .region [⟨some 46, .binOp .lss 3 (.tmp 45) (.tmp 44) 3, none⟩]
@[reducible] def q49_19 : SCode := .region [⟨some 47, .indexAddr 22 (.tmp 43) (.tmp 45), none⟩,
    ⟨some 48, .load 3 (.tmp 47), none⟩,
    ⟨some 11, .assign (.tmp 48), none⟩]
@[reducible] def q49_20 : SCode := .region [⟨some 49, .move (.tmp 9), none⟩,
    ⟨some 50, .move (.tmp 5), none⟩,
    ⟨some 51, .move (.tmp 11), none⟩,
    ⟨some 52, .lookup 75 (.tmp 50) (.tmp 51) false, none⟩,
    ⟨some 53, .buildSlice 22 1 #[(0, .tmp 52)], none⟩,
    ⟨some 54, .call { callee := .builtin .append, args := #[.tmp 49, .tmp 53], argTypes := #[22, 22] }, none⟩,
    ⟨some 9, .assign (.tmp 54), none⟩]
@[reducible] def q49_21 : SCode := .region [⟨some 55, .binOp .add 3 (.tmp 45) (.const (.int .i64 1)) 3, none⟩,
    ⟨some 45, .move (.tmp 55), none⟩]
def l49_2 : SCode := (.seq q49_18 (.seq (.cond (.tmp 46) .skip (.exit 4)) (.seq (.block 5 (.seq q49_19 q49_20)) q49_21)))
@[reducible] def q49_22 : SCode := .region [⟨some 56, .move (.tmp 9), none⟩,
    ⟨some 2, .assign (.tmp 56), none⟩,
    ⟨some 3, .assign (.const (.int .i64 0)), none⟩]
def s49 : SCode := (.seq q49_0 (.seq q49_1 (.seq (.seq q49_2 (.cond (.tmp 15) (.seq q49_3 .ret) .skip)) (.seq q49_4 (.seq (.seq q49_5 (.block 0 (.loop l49_0))) (.seq q49_10 (.seq (.seq q49_11 (.block 2 (.loop l49_1))) (.seq q49_15 (.seq q49_16 (.seq (.seq q49_17 (.block 4 (.loop l49_2))) (.seq q49_22 .ret)))))))))))
theorem s49_strip : stripC (bodyOf Tryd.f49) = s49 := by kernel_rfl
theorem s49_ok : codeOK 57 (bodyOf Tryd.f49) = true := by kernel_rfl
/-! 82: (planchet ranks.tournament).reach -/
@[reducible] def q82_0 : SCode := .region [⟨some 2, .box 55 (.tmp 0), none⟩,
    ⟨some 4, .assign (.const (.int .i64 0)), none⟩]
@[reducible] def q82_1 : SCode := .region [⟨some 7, .move (.tmp 1), none⟩,
    ⟨some 8, .binOp .shl 3 (.const (.int .i64 1)) (.tmp 7) 3, none⟩,
    ⟨some 5, .alloc 3, none⟩,
    ⟨none, .store 3 (.tmp 5) (.tmp 8), none⟩]
@[reducible] def q82_2 : SCode := .region [⟨some 9, .load 55 (.tmp 2), none⟩,
    ⟨some 10, .call { callee := .builtin .len, args := #[.tmp 9], argTypes := #[55] }, none⟩,
    ⟨some 11, .move (.const (.int .i64 0)), none⟩]
@[reducible] def q82_3 : SCode := .region [⟨some 12, .binOp .lss 3 (.tmp 11) (.tmp 10) 3, none⟩]
@[reducible] def q82_4 : SCode := .region [⟨some 13, .load 3 (.tmp 5), none⟩,
    ⟨some 14, .call { callee := .value (.func 62), args := #[.tmp 13], argTypes := #[3] }, none⟩]
@[reducible] def q82_5 : SCode := .region [⟨some 6, .assign (.tmp 15), none⟩]
def q82_6 : SCode := .draw [⟨some 16, .load 3 (.tmp 5), none⟩,
    ⟨some 17, .load 55 (.tmp 2), none⟩,
    ⟨some 18, .move (.tmp 6), none⟩,
    ⟨some 19, .indexAddr 55 (.tmp 17) (.tmp 18), none⟩,
    ⟨some 20, .load 3 (.tmp 19), none⟩,
    ⟨some 21, .binOp .or 3 (.tmp 16) (.tmp 20) 3, none⟩,
    ⟨none, .store 3 (.tmp 5) (.tmp 21), none⟩]
   [[], [], [], [1, 2], [3], [0, 4], [5, 0, 1, 2, 3, 4, 5]]
def r82_0_a : SCode := q82_5
def r82_0_b : SCode := (.block 3 q82_6)
@[reducible] def q82_7 : SCode := .region [⟨some 22, .binOp .add 3 (.tmp 11) (.const (.int .i64 1)) 3, none⟩,
    ⟨some 11, .move (.tmp 22), none⟩]
def l82_1 : SCode := (.seq q82_3 (.seq (.cond (.tmp 12) .skip (.exit 0)) (.seq (.block 1 (.seq q82_4 (.block 2 (.range (.tmp 14) [15] r82_0_a r82_0_b)))) q82_7)))
@[reducible] def q82_8 : SCode := .region [⟨some 23, .load 3 (.tmp 5), none⟩,
    ⟨some 4, .assign (.tmp 23), none⟩]
def s82 : SCode := (.seq q82_0 (.seq q82_1 (.seq (.seq q82_2 (.block 0 (.loop l82_1))) (.seq q82_8 .ret))))
theorem s82_strip : stripC (bodyOf Tryd.f82) = s82 := by kernel_rfl
theorem s82_ok : codeOK 24 (bodyOf Tryd.f82) = true := by kernel_rfl
/-! 83: slices.SortFunc[[]int,int] -/
@[reducible] def q83_0 : SCode := .region [⟨some 5, .move (.tmp 0), none⟩,
    ⟨some 6, .call { callee := .builtin .len, args := #[.tmp 5], argTypes := #[22] }, none⟩,
    ⟨some 4, .assign (.tmp 6), none⟩]
@[reducible] def q83_1 : SCode := .region [⟨some 7, .move (.tmp 0), none⟩,
    ⟨some 8, .move (.tmp 4), none⟩,
    ⟨some 9, .move (.tmp 4), none⟩,
    ⟨some 10, .convert 3 53 (.tmp 9), none⟩,
    ⟨some 11, .call { callee := .value (.func 101), args := #[.tmp 10], argTypes := #[53] }, none⟩,
    ⟨some 12, .move (.tmp 1), none⟩,
    ⟨some 13, .call { callee := .value (.func 102), args := #[.tmp 7, .const (.int .i64 0), .tmp 8, .tmp 11, .tmp 12], argTypes := #[22, 3, 3, 3, 69] }, none⟩]
def s83 : SCode := (.seq q83_0 q83_1)
theorem s83_strip : stripC (bodyOf Tryd.f83) = s83 := by kernel_rfl
theorem s83_ok : codeOK 14 (bodyOf Tryd.f83) = true := by kernel_rfl
/-! 84: planchet ranks.Parts$1 -/
@[reducible] def q84_0 : SCode := .region [⟨some 4, .assign (.const (.int .i64 0)), none⟩]
@[reducible] def q84_1 : SCode := .region [⟨some 5, .move (.tmp 1), none⟩,
    ⟨some 6, .call { callee := .value (.func 73), args := #[.tmp 5], argTypes := #[3] }, none⟩,
    ⟨some 7, .move (.tmp 0), none⟩,
    ⟨some 8, .call { callee := .value (.func 73), args := #[.tmp 7], argTypes := #[3] }, none⟩,
    ⟨some 9, .binOp .sub 3 (.tmp 6) (.tmp 8) 3, none⟩,
    ⟨some 4, .assign (.tmp 9), none⟩]
def s84 : SCode := (.seq q84_0 (.seq q84_1 .ret))
theorem s84_strip : stripC (bodyOf Tryd.f84) = s84 := by kernel_rfl
theorem s84_ok : codeOK 10 (bodyOf Tryd.f84) = true := by kernel_rfl
/-! 102: slices.pdqsortCmpFunc[int] -/
@[reducible] def q102_0 : SCode := .region [⟨some 10, .assign (.const (.bool true)), none⟩]
@[reducible] def q102_1 : SCode := .region [⟨some 11, .assign (.const (.bool true)), none⟩]
@[reducible] def q102_2 : SCode := .region [⟨some 21, .move (.tmp 2), none⟩,
    ⟨some 22, .move (.tmp 1), none⟩,
    ⟨some 23, .binOp .sub 3 (.tmp 21) (.tmp 22) 3, none⟩,
    ⟨some 12, .assign (.tmp 23), none⟩]
@[reducible] def q102_3 : SCode := .region [⟨some 24, .move (.tmp 12), none⟩,
    ⟨some 25, .binOp .leq 3 (.tmp 24) (.const (.int .i64 12)) 3, none⟩]
@[reducible] def q102_4 : SCode := .region [⟨some 26, .move (.tmp 0), none⟩,
    ⟨some 27, .move (.tmp 1), none⟩,
    ⟨some 28, .move (.tmp 2), none⟩,
    ⟨some 29, .move (.tmp 4), none⟩,
    ⟨some 30, .call { callee := .value (.func 120), args := #[.tmp 26, .tmp 27, .tmp 28, .tmp 29], argTypes := #[22, 3, 3, 69] }, none⟩]
@[reducible] def q102_5 : SCode := .region [⟨some 31, .move (.tmp 3), none⟩,
    ⟨some 32, .binOp .eql 3 (.tmp 31) (.const (.int .i64 0)) 3, none⟩]
@[reducible] def q102_6 : SCode := .region [⟨some 33, .move (.tmp 0), none⟩,
    ⟨some 34, .move (.tmp 1), none⟩,
    ⟨some 35, .move (.tmp 2), none⟩,
    ⟨some 36, .move (.tmp 4), none⟩,
    ⟨some 37, .call { callee := .value (.func 121), args := #[.tmp 33, .tmp 34, .tmp 35, .tmp 36], argTypes := #[22, 3, 3, 69] }, none⟩]
@[reducible] def q102_7 : SCode := .region [⟨some 38, .move (.tmp 10), none⟩,
    ⟨some 39, .unOp .not 4 (.tmp 38), none⟩]
@[reducible] def q102_8 : SCode := .region [⟨some 40, .move (.tmp 0), none⟩,
    ⟨some 41, .move (.tmp 1), none⟩,
    ⟨some 42, .move (.tmp 2), none⟩,
    ⟨some 43, .move (.tmp 4), none⟩,
    ⟨some 44, .call { callee := .value (.func 122), args := #[.tmp 40, .tmp 41, .tmp 42, .tmp 43], argTypes := #[22, 3, 3, 69] }, none⟩]
@[reducible] def q102_9 : SCode := .region [⟨some 45, .move (.tmp 3), none⟩,
    ⟨some 46, .binOp .sub 3 (.tmp 45) (.const (.int .i64 1)) 3, none⟩,
    ⟨some 3, .assign (.tmp 46), none⟩]
@[reducible] def q102_10 : SCode := .region [⟨some 48, .move (.tmp 0), none⟩,
    ⟨some 49, .move (.tmp 1), none⟩,
    ⟨some 50, .move (.tmp 2), none⟩,
    ⟨some 51, .move (.tmp 4), none⟩,
    ⟨some 52, .call { callee := .value (.func 123), args := #[.tmp 48, .tmp 49, .tmp 50, .tmp 51], argTypes := #[22, 3, 3, 69] }, none⟩,
    ⟨some 47, .move (.tmp 52), none⟩,
    ⟨some 53, .extract (.tmp 47) 0, none⟩,
    ⟨some 54, .extract (.tmp 47) 1, none⟩,
    ⟨some 13, .assign (.tmp 53), none⟩,
    ⟨some 14, .assign (.tmp 54), none⟩]
@[reducible] def q102_11 : SCode := .region [⟨some 55, .move (.tmp 14), none⟩,
    ⟨some 56, .binOp .eql 91 (.tmp 55) (.const (.int .i64 2)) 91, none⟩]
@[reducible] def q102_12 : SCode := .region [⟨some 57, .move (.tmp 0), none⟩,
    ⟨some 58, .move (.tmp 1), none⟩,
    ⟨some 59, .move (.tmp 2), none⟩,
    ⟨some 60, .move (.tmp 4), none⟩,
    ⟨some 61, .call { callee := .value (.func 124), args := #[.tmp 57, .tmp 58, .tmp 59, .tmp 60], argTypes := #[22, 3, 3, 69] }, none⟩]
@[reducible] def q102_13 : SCode := .region [⟨some 62, .move (.tmp 2), none⟩,
    ⟨some 63, .binOp .sub 3 (.tmp 62) (.const (.int .i64 1)) 3, none⟩,
    ⟨some 64, .move (.tmp 13), none⟩,
    ⟨some 65, .move (.tmp 1), none⟩,
    ⟨some 66, .binOp .sub 3 (.tmp 64) (.tmp 65) 3, none⟩,
    ⟨some 67, .binOp .sub 3 (.tmp 63) (.tmp 66) 3, none⟩,
    ⟨some 13, .assign (.tmp 67), none⟩]
@[reducible] def q102_14 : SCode := .region [⟨some 14, .assign (.const (.int .i64 1)), none⟩]
@[reducible] def q102_15 : SCode := .region [⟨some 68, .move (.tmp 10), none⟩,
    ⟨some 69, .move (.tmp 68), none⟩,
    ⟨some 70, .move (.tmp 11), some (69, true)⟩,
    ⟨some 71, .pick (.tmp 69) (.tmp 70) (.const (.bool false)), none⟩,
    ⟨some 72, .move (.tmp 71), none⟩,
    ⟨some 73, .move (.tmp 14), some (72, true)⟩,
    ⟨some 74, .binOp .eql 91 (.tmp 73) (.const (.int .i64 1)) 91, some (72, true)⟩,
    ⟨some 75, .pick (.tmp 72) (.tmp 74) (.const (.bool false)), none⟩]
@[reducible] def q102_16 : SCode := .region [⟨some 76, .move (.tmp 0), none⟩,
    ⟨some 77, .move (.tmp 1), none⟩,
    ⟨some 78, .move (.tmp 2), none⟩,
    ⟨some 79, .move (.tmp 4), none⟩,
    ⟨some 80, .call { callee := .value (.func 125), args := #[.tmp 76, .tmp 77, .tmp 78, .tmp 79], argTypes := #[22, 3, 3, 69] }, none⟩]
def q102_17 : SCode := .draw [⟨some 81, .move (.tmp 1), none⟩,
    ⟨some 82, .binOp .gtr 3 (.tmp 81) (.const (.int .i64 0)) 3, none⟩,
    ⟨some 83, .move (.tmp 82), none⟩,
    ⟨some 84, .move (.tmp 4), some (83, true)⟩,
    ⟨some 85, .move (.tmp 0), some (83, true)⟩,
    ⟨some 86, .move (.tmp 1), some (83, true)⟩,
    ⟨some 87, .binOp .sub 3 (.tmp 86) (.const (.int .i64 1)) 3, some (83, true)⟩,
    ⟨some 88, .indexAddr 22 (.tmp 85) (.tmp 87), some (83, true)⟩,
    ⟨some 89, .load 3 (.tmp 88), some (83, true)⟩,
    ⟨some 90, .move (.tmp 0), some (83, true)⟩,
    ⟨some 91, .move (.tmp 13), some (83, true)⟩,
    ⟨some 92, .indexAddr 22 (.tmp 90) (.tmp 91), some (83, true)⟩,
    ⟨some 93, .load 3 (.tmp 92), some (83, true)⟩,
    ⟨some 94, .call { callee := .value (.tmp 84), args := #[.tmp 89, .tmp 93], argTypes := #[3, 3] }, some (83, true)⟩,
    ⟨some 95, .binOp .lss 3 (.tmp 94) (.const (.int .i64 0)) 3, some (83, true)⟩,
    ⟨some 96, .unOp .not 4 (.tmp 95), some (83, true)⟩,
    ⟨some 97, .pick (.tmp 83) (.tmp 96) (.const (.bool false)), none⟩]
   [[], [0], [1], [2], [2], [2], [5, 2], [4, 6, 2], [7, 2], [2], [2], [9, 10, 2], [11, 2], [3, 8, 12, 2, 2], [13, 2], [14, 2], [2, 15]]
@[reducible] def q102_18 : SCode := .region [⟨some 98, .move (.tmp 0), none⟩,
    ⟨some 99, .move (.tmp 1), none⟩,
    ⟨some 100, .move (.tmp 2), none⟩,
    ⟨some 101, .move (.tmp 13), none⟩,
    ⟨some 102, .move (.tmp 4), none⟩,
    ⟨some 103, .call { callee := .value (.func 126), args := #[.tmp 98, .tmp 99, .tmp 100, .tmp 101, .tmp 102], argTypes := #[22, 3, 3, 3, 69] }, none⟩,
    ⟨some 15, .assign (.tmp 103), none⟩]
@[reducible] def q102_19 : SCode := .region [⟨some 104, .move (.tmp 15), none⟩,
    ⟨some 1, .assign (.tmp 104), none⟩]
@[reducible] def q102_20 : SCode := .region [⟨some 106, .move (.tmp 0), none⟩,
    ⟨some 107, .move (.tmp 1), none⟩,
    ⟨some 108, .move (.tmp 2), none⟩,
    ⟨some 109, .move (.tmp 13), none⟩,
    ⟨some 110, .move (.tmp 4), none⟩,
    ⟨some 111, .call { callee := .value (.func 127), args := #[.tmp 106, .tmp 107, .tmp 108, .tmp 109, .tmp 110], argTypes := #[22, 3, 3, 3, 69] }, none⟩,
    ⟨some 105, .move (.tmp 111), none⟩,
    ⟨some 112, .extract (.tmp 105) 0, none⟩,
    ⟨some 113, .extract (.tmp 105) 1, none⟩,
    ⟨some 16, .assign (.tmp 112), none⟩,
    ⟨some 17, .assign (.tmp 113), none⟩]
@[reducible] def q102_21 : SCode := .region [⟨some 114, .move (.tmp 17), none⟩,
    ⟨some 11, .assign (.tmp 114), none⟩]
@[reducible] def q102_22 : SCode := .region [⟨some 115, .move (.tmp 16), none⟩,
    ⟨some 116, .move (.tmp 1), none⟩,
    ⟨some 117, .binOp .sub 3 (.tmp 115) (.tmp 116) 3, none⟩,
    ⟨some 118, .move (.tmp 2), none⟩,
    ⟨some 119, .move (.tmp 16), none⟩,
    ⟨some 120, .binOp .sub 3 (.tmp 118) (.tmp 119) 3, none⟩,
    ⟨some 18, .assign (.tmp 117), none⟩,
    ⟨some 19, .assign (.tmp 120), none⟩]
@[reducible] def q102_23 : SCode := .region [⟨some 121, .move (.tmp 12), none⟩,
    ⟨some 122, .binOp .quo 3 (.tmp 121) (.const (.int .i64 8)) 3, none⟩,
    ⟨some 20, .assign (.tmp 122), none⟩]
@[reducible] def q102_24 : SCode := .region [⟨some 123, .move (.tmp 18), none⟩,
    ⟨some 124, .move (.tmp 19), none⟩,
    ⟨some 125, .binOp .lss 3 (.tmp 123) (.tmp 124) 3, none⟩]
@[reducible] def q102_25 : SCode := .region [⟨some 126, .move (.tmp 18), none⟩,
    ⟨some 127, .move (.tmp 20), none⟩,
    ⟨some 128, .binOp .geq 3 (.tmp 126) (.tmp 127) 3, none⟩,
    ⟨some 10, .assign (.tmp 128), none⟩]
@[reducible] def q102_26 : SCode := .region [⟨some 129, .move (.tmp 0), none⟩,
    ⟨some 130, .move (.tmp 1), none⟩,
    ⟨some 131, .move (.tmp 16), none⟩,
    ⟨some 132, .move (.tmp 3), none⟩,
    ⟨some 133, .move (.tmp 4), none⟩,
    ⟨some 134, .call { callee := .value (.func 102), args := #[.tmp 129, .tmp 130, .tmp 131, .tmp 132, .tmp 133], argTypes := #[22, 3, 3, 3, 69] }, none⟩]
@[reducible] def q102_27 : SCode := .region [⟨some 135, .move (.tmp 16), none⟩,
    ⟨some 136, .binOp .add 3 (.tmp 135) (.const (.int .i64 1)) 3, none⟩,
    ⟨some 1, .assign (.tmp 136), none⟩]
@[reducible] def q102_28 : SCode := .region [⟨some 137, .move (.tmp 19), none⟩,
    ⟨some 138, .move (.tmp 20), none⟩,
    ⟨some 139, .binOp .geq 3 (.tmp 137) (.tmp 138) 3, none⟩,
    ⟨some 10, .assign (.tmp 139), none⟩]
@[reducible] def q102_29 : SCode := .region [⟨some 140, .move (.tmp 0), none⟩,
    ⟨some 141, .move (.tmp 16), none⟩,
    ⟨some 142, .binOp .add 3 (.tmp 141) (.const (.int .i64 1)) 3, none⟩,
    ⟨some 143, .move (.tmp 2), none⟩,
    ⟨some 144, .move (.tmp 3), none⟩,
    ⟨some 145, .move (.tmp 4), none⟩,
    ⟨some 146, .call { callee := .value (.func 102), args := #[.tmp 140, .tmp 142, .tmp 143, .tmp 144, .tmp 145], argTypes := #[22, 3, 3, 3, 69] }, none⟩]
@[reducible] def q102_30 : SCode := .region [⟨some 147, .move (.tmp 16), none⟩,
    ⟨some 2, .assign (.tmp 147), none⟩]
def l102_0 : SCode := (.block 1 (.seq q102_2 (.seq (.seq q102_3 (.cond (.tmp 25) (.seq q102_4 .ret) .skip)) (.seq (.seq q102_5 (.cond (.tmp 32) (.seq q102_6 .ret) .skip)) (.seq (.seq q102_7 (.cond (.tmp 39) (.seq q102_8 q102_9) .skip)) (.seq q102_10 (.seq (.seq q102_11 (.cond (.tmp 56) (.seq q102_12 (.seq q102_13 q102_14)) .skip)) (.seq (.seq q102_15 (.cond (.tmp 75) (.seq q102_16 (.cond (.tmp 80) .ret .skip)) .skip)) (.seq (.seq q102_17 (.cond (.tmp 97) (.seq q102_18 (.seq q102_19 (.exit 1))) .skip)) (.seq q102_20 (.seq q102_21 (.seq q102_22 (.seq q102_23 (.seq q102_24 (.cond (.tmp 125) (.seq q102_25 (.seq q102_26 q102_27)) (.seq q102_28 (.seq q102_29 q102_30)))))))))))))))))
def s102 : SCode := (.seq q102_0 (.seq q102_1 (.block 0 (.loop l102_0))))
theorem s102_strip : stripC (bodyOf Tryd.f102) = s102 := by kernel_rfl
theorem s102_ok : codeOK 148 (bodyOf Tryd.f102) = true := by kernel_rfl
end Go.Proofs.Tryd.Am

namespace Go.Proofs.Tryd.Am
open Go.Am Rb Rch
set_option maxRecDepth 100000
set_option maxHeartbeats 1000000

def tN (xs : List Int) (j : Nat) : Nat := (xs.getD j 0).toNat
theorem orf_bit (f : Nat → Nat) (x : Nat) : ∀ (l : List Nat) (a : Nat), (l.foldl (fun r j => r ||| f j) a).testBit x = true ↔ a.testBit x = true ∨ ∃ j ∈ l, (f j).testBit x = true
  | [], a => by simp
  | j :: l, a => by
    rw [List.foldl_cons, orf_bit f x l, Nat.testBit_or, Bool.or_eq_true]
    constructor
    · rintro ((h | h) | ⟨k, hk, h⟩)
      · exact .inl h
      · exact .inr ⟨j, by simp, h⟩
      · exact .inr ⟨k, by simp [hk], h⟩
    · rintro (h | ⟨k, hk, h⟩)
      · exact .inl (.inl h)
      · rcases List.mem_cons.1 hk with rfl | hk
        · exact .inl (.inr h)
        · exact .inr ⟨k, hk, h⟩
/-- The program's rounds. -/
def pR (xs : List Int) (i : Nat) : Nat → Nat
  | 0 => 2 ^ i
  | k + 1 => (Am.bits (pR xs i k)).foldl (fun r j => r ||| tN xs j) (pR xs i k)
section
variable {xs : List Int} (ht : trn xs = true) {i : Nat} (hi : i < xs.length)
include ht
theorem tN_lt {j : Nat} (hj : j < xs.length) : tN xs j < 2 ^ xs.length := (trn_nat ht hj).2
theorem bit_in {s x : Nat} (hs : s < 2 ^ xs.length) (hx : s.testBit x = true) : x < xs.length := by
  rcases Nat.lt_or_ge x xs.length with h | h
  · exact h
  · rw [Nat.testBit_lt_two_pow (Nat.lt_of_lt_of_le hs (Nat.pow_le_pow_right (by decide) h))] at hx; cases hx
theorem orf_lt {l : List Nat} (hl : ∀ j ∈ l, j < xs.length) : ∀ {a : Nat}, a < 2 ^ xs.length → l.foldl (fun r j => r ||| tN xs j) a < 2 ^ xs.length := by
  induction l with
  | nil => exact fun h => h
  | cons j l ih => exact fun h => ih (fun k hk => hl k (by simp [hk])) (Nat.or_lt_two_pow h (tN_lt ht (hl j (by simp))))
include hi
theorem pR_lt : ∀ k, pR xs i k < 2 ^ xs.length
  | 0 => Nat.pow_lt_pow_right (by decide) hi
  | k + 1 => orf_lt ht (fun j hj => bit_in ht (pR_lt k) (mem_bits.1 hj).2) (pR_lt k)
theorem pR_sound : ∀ k x, (pR xs i k).testBit x = true → Rc (tN xs) i x
  | 0, x, h => by
    rw [pR, Nat.testBit_two_pow] at h
    obtain rfl := of_decide_eq_true h
    exact .refl
  | k + 1, x, h => by
    rcases (orf_bit _ _ _ _).1 h with h | ⟨j, hj, h⟩
    · exact pR_sound k x h
    · exact (pR_sound k j (mem_bits.1 hj).2).step h
theorem pR_all {x : Nat} (h : Rc (tN xs) i x) : (pR xs i xs.length).testBit x = true := by
  have hxl := trn_len ht
  have mono : ∀ k x, (pR xs i k).testBit x = true → (pR xs i (k + 1)).testBit x = true := fun k x h => (orf_bit _ _ _ _).2 (.inl h)
  have hg := grown (t := tN xs) (A := pR xs i) (n := xs.length) (i := i) (by rw [pR, Nat.testBit_two_pow]; exact decide_eq_true rfl) (pR_lt ht hi) mono
    (fun k j x hj hx => (orf_bit _ _ _ _).2 (.inr ⟨j, mem_bits.2 ⟨by have := bit_in ht (pR_lt ht hi k) hj; omega, hj⟩, hx⟩))
    (fun k e m => by induction m with | zero => rfl | succ m ih => rw [← Nat.add_assoc, pR, ih]; exact e)
  have h0 : ∀ k, (pR xs i k).testBit i = true := fun k => by
    induction k with
    | zero => rw [pR, Nat.testBit_two_pow]; exact decide_eq_true rfl
    | succ k ih => exact mono k i ih
  induction h with
  | refl => exact h0 _
  | step _ hb ih => exact hg _ _ ih hb
end
/-- Who is reached. -/
def rch (xs : List Int) (i : Nat) : Nat := pR xs i xs.length
theorem rch_iff {xs : List Int} (ht : trn xs = true) {i : Nat} (hi : i < xs.length) (x : Nat) : (rch xs i).testBit x = true ↔ Rc (tN xs) i x := ⟨pR_sound ht hi _ x, pR_all ht hi⟩
theorem rch_nest {xs : List Int} (ht : trn xs = true) : Nest xs.length (rch xs) where
  lt i hi := pR_lt ht hi _
  self i hi := (rch_iff ht hi i).2 .refl
  sub i j x hi h1 h2 := by
    have hj := bit_in ht (pR_lt ht hi _) h1
    exact (rch_iff ht hi x).2 (((rch_iff ht hi j).1 h1).trans ((rch_iff ht hj x).1 h2))
  lin i j hi hj := by
    rw [rch_iff ht hi, rch_iff ht hj]
    by_cases hij : i = j
    · subst hij; exact .inl .refl
    · obtain ⟨_, h2⟩ := trn_iff.1 ht
      have key : ∀ a b, a < xs.length → b < a → bb xs a b = true ∨ bb xs b a = true := fun a b ha hb => by
        have := (h2 a ha).2.2.2 b hb
        cases h : bb xs a b with
        | true => exact .inl rfl
        | false => rw [h] at this; right; cases g : bb xs b a with | true => rfl | false => rw [g] at this; exact absurd rfl this
      have st : ∀ a b, bb xs a b = true → Rc (tN xs) a b := fun a b h => Rc.refl.step h
      rcases Nat.lt_or_gt_of_ne hij with h | h
      · rcases key j i hj h with g | g
        · exact .inr (st _ _ g)
        · exact .inl (st _ _ g)
      · rcases key i j hi h with g | g
        · exact .inl (st _ _ g)
        · exact .inr (st _ _ g)

end Go.Proofs.Tryd.Am

namespace Go.Proofs.Tryd.Am
open Go.Am Rb Rch
set_option maxRecDepth 100000

/-- The map, i players on. -/
def pm (xs : List Int) : Nat → List (Int × Int)
  | 0 => []
  | i + 1 => mput ((rch xs i : Nat) : Int) (((mget ((rch xs i : Nat) : Int) (pm xs i)).toNat ||| 2 ^ i : Nat) : Int) (pm xs i)
theorem setL_snoc (l : List Nat) (i : Nat) : Clr.setL (l ++ [i]) = Clr.setL l ||| 2 ^ i := by rw [Clr.setL, Clr.setL, List.foldl_append]; rfl
theorem pm_get (xs : List Int) (r : Nat) : ∀ i, mget ((r : Nat) : Int) (pm xs i) = ((Clr.setL ((List.range i).filter fun j => rch xs j == r) : Nat) : Int)
  | 0 => rfl
  | i + 1 => by
    rw [pm, mget_mput, pm_get xs (rch xs i) i, List.range_succ, List.filter_append]
    by_cases h : ((r : Nat) : Int) = ((rch xs i : Nat) : Int)
    · have hr : r = rch xs i := Int.ofNat.inj h
      rw [if_pos h, ← hr]
      have : List.filter (fun j => rch xs j == r) [i] = [i] := by simp [← hr]
      rw [this, setL_snoc, Int.toNat_natCast]
    · have hr : ¬ rch xs i = r := fun e => h (by rw [e])
      rw [if_neg h, pm_get xs r i]
      have : List.filter (fun j => rch xs j == r) [i] = [] := by simp [hr]
      rw [this, List.append_nil]
theorem pm_keys (xs : List Int) : ∀ i, ((pm xs i).map (·.1)).Nodup ∧ ∀ k, k ∈ (pm xs i).map (·.1) ↔ ∃ j, j < i ∧ k = ((rch xs j : Nat) : Int)
  | 0 => ⟨List.nodup_nil, fun k => ⟨fun h => by simp [pm] at h, fun ⟨j, h, _⟩ => by omega⟩⟩
  | i + 1 => by
    obtain ⟨h1, h2⟩ := pm_keys xs i
    rw [pm, mput_keys]
    by_cases hm : ((rch xs i : Nat) : Int) ∈ (pm xs i).map (·.1)
    · rw [if_pos hm]
      refine ⟨h1, fun k => ⟨fun h => ?_, fun ⟨j, hj, e⟩ => ?_⟩⟩
      · obtain ⟨j, hj, e⟩ := (h2 k).1 h; exact ⟨j, by omega, e⟩
      · by_cases hji : j = i
        · rw [e, hji]; exact hm
        · exact (h2 k).2 ⟨j, by omega, e⟩
    · rw [if_neg hm]
      refine ⟨List.nodup_append.2 ⟨h1, by simp, fun a ha b hb => ?_⟩, fun k => ?_⟩
      · rw [List.mem_singleton.1 hb]; exact fun e => hm (e ▸ ha)
      · rw [List.mem_append, List.mem_singleton]
        constructor
        · rintro (h | e)
          · obtain ⟨j, hj, e⟩ := (h2 k).1 h; exact ⟨j, by omega, e⟩
          · exact ⟨i, by omega, e⟩
        · rintro ⟨j, hj, e⟩
          by_cases hji : j = i
          · right; rw [e, hji]
          · exact .inl ((h2 k).2 ⟨j, by omega, e⟩)
theorem pm_len (xs : List Int) (i : Nat) : (pm xs i).length ≤ i := by
  induction i with
  | zero => exact Nat.le_refl _
  | succ i ih =>
    have := congrArg List.length (mput_keys ((rch xs i : Nat) : Int) (((mget ((rch xs i : Nat) : Int) (pm xs i)).toNat ||| 2 ^ i : Nat) : Int) (pm xs i))
    rw [List.length_map] at this
    rw [pm, this]
    split
    · rw [List.length_map]; omega
    · rw [List.length_append, List.length_map, List.length_singleton]; omega
/-- The reaches, as numbers. -/
def kyL (xs : List Int) : List Nat := (pm xs xs.length).map fun p => p.1.toNat
theorem kyL_keys (xs : List Int) : (kyL xs).map (fun x => ((x : Nat) : Int)) = (pm xs xs.length).map (·.1) := by
  rw [kyL, List.map_map]
  refine List.map_congr_left fun p hp => ?_
  obtain ⟨j, _, e⟩ := ((pm_keys xs xs.length).2 p.1).1 (List.mem_map_of_mem hp)
  show ((p.1.toNat : Nat) : Int) = p.1
  rw [e]; rfl
theorem kyL_nodup (xs : List Int) : (kyL xs).Nodup := by
  have := (pm_keys xs xs.length).1
  rw [← kyL_keys] at this
  rw [List.nodup_iff_pairwise_ne, List.pairwise_map] at this
  exact List.nodup_iff_pairwise_ne.2 (this.imp fun h e => h (by rw [e]))
theorem kyL_mem (xs : List Int) (r : Nat) : r ∈ kyL xs ↔ ∃ j, j < xs.length ∧ rch xs j = r := by
  have h := (pm_keys xs xs.length).2 ((r : Nat) : Int)
  rw [← kyL_keys] at h
  constructor
  · intro hr
    obtain ⟨j, hj, e⟩ := h.1 (List.mem_map_of_mem hr)
    exact ⟨j, hj, (Int.ofNat.inj e).symm⟩
  · rintro ⟨j, hj, rfl⟩
    obtain ⟨x, hx, e⟩ := List.mem_map.1 (h.2 ⟨j, hj, rfl⟩)
    rw [← Int.ofNat.inj e]; exact hx
/-- The parts, the greatest reach first. -/
def prts (xs : List Int) : List Nat := cps xs.length (rch xs) xs.length (2 ^ xs.length - 1)
theorem cnt_bits {n s : Nat} (hs : s < 2 ^ n) (hn : n ≤ 64) : (Am.bits s).length = cnt n s := by
  rw [bits_range hs hn, cnt, ← List.countP_eq_length_filter]
theorem prts_eq {xs : List Int} (ht : trn xs = true) {L : List Nat} (hp : L.Perm (kyL xs)) (hs : L.Pairwise fun a b => -(((Am.bits a).length : Nat) : Int) ≤ -(((Am.bits b).length : Nat) : Int)) : prts xs = L.map (prt xs.length (rch xs)) := by
  have hxl := trn_len ht
  have hn := rch_nest ht
  have hall : ∀ i, i < xs.length → (2 ^ xs.length - 1).testBit i = true := fun i hi => by rw [Nat.testBit_two_pow_sub_one]; exact decide_eq_true hi
  have hlen : L.length ≤ xs.length := by
    rw [hp.length_eq, kyL, List.length_map]; exact pm_len xs _
  refine cps_eq hn L _ _ hlen (by have := Nat.two_pow_pos xs.length; omega) (hp.nodup_iff.2 (kyL_nodup xs)) (fun r hr => ?_) (fun i hi _ => hp.mem_iff.2 ((kyL_mem xs _).2 ⟨i, hi, rfl⟩)) (fun i x hi _ hx => hall x (hn.mem hi hx)) (hs.imp_of_mem fun {a b} ha hb h => ?_)
  · obtain ⟨i, hi, e⟩ := (kyL_mem xs r).1 (hp.mem_iff.1 hr)
    exact ⟨i, hi, hall i hi, e⟩
  · obtain ⟨i, hi, rfl⟩ := (kyL_mem xs a).1 (hp.mem_iff.1 ha)
    obtain ⟨j, hj, rfl⟩ := (kyL_mem xs b).1 (hp.mem_iff.1 hb)
    rw [cnt_bits (hn.lt i hi) (by omega), cnt_bits (hn.lt j hj) (by omega)] at h
    omega
end Go.Proofs.Tryd.Am

namespace Go.Proofs.Tryd.Am
open Go.Am Redei Rb
set_option maxRecDepth 100000
set_option maxHeartbeats 1000000

theorem iL_get (L : List Nat) (i : Nat) : (iL L).getD i 0 = ((L.getD i 0 : Nat) : Int) := by
  rw [List.getD, List.getElem?_map, List.getD]; cases L[i]? <;> rfl
theorem iL_set (L : List Nat) (i x : Nat) : (iL L).set i ((x : Nat) : Int) = iL (L.set i x) := by simp only [iL, List.map_set]; rfl
theorem getD_setN {L : List Nat} {s x i : Nat} (hs : s < L.length) : (L.set s x).getD i 0 = if i = s then x else L.getD i 0 := by
  rw [List.getD, List.getElem?_set]
  by_cases h : s = i
  · subst h; simp [hs]
  · rw [if_neg h, if_neg (Ne.symm h)]; rfl
abbrev tv (b M : Nat) : Value := .slice (some ⟨b, 0, none⟩) M M
section tab
variable {hp : Heap} {b M : Nat} {L : List Nat}
end tab

/-- What the run leans on: the tournament, the table, and the function that says what a player brings. -/
structure OB (h hp : Heap) (gv : Value) (M : Nat) (T : List Nat) : Prop where
  b1 : hp[h.length]? = some (.cells [gv] 22 false)
  bT : hp[h.length + 1]? = some (.ints (iL T) 3 false)
  b5 : hp[h.length + 2]? = some (.cells [tv (h.length + 1) M] 22 false)
  b6 : hp[h.length + 3]? = some (.cells [.func (.func 75) #[] #[pt h.length, pt (h.length + 2)]] 69 false)
  E : Ext (fun _ => False) h hp
  len : T.length = M
section
variable {h hp hp2 : Heap} {gv : Value} {M : Nat} {T : List Nat}
theorem OB.up (o : OB h hp gv M T) (hE : Ext (fun i => h.length + 4 ≤ i) hp hp2) : OB h hp2 gv M T := by
  have k : ∀ {i B}, i < h.length + 4 → hp[i]? = some B → hp2[i]? = some B := fun hi hb => (hE.2 _ (get_lt hb) (by omega)).trans hb
  exact ⟨k (by omega) o.b1, k (by omega) o.bT, k (by omega) o.b5, k (by omega) o.b6, ⟨Nat.le_trans o.E.1 hE.1, fun i hi _ => (hE.2 i (Nat.lt_of_lt_of_le hi o.E.1) (by omega)).trans (o.E.2 i hi id)⟩, o.len⟩
theorem OB.tab (o : OB h hp gv M T) {T2 : List Nat} (hT : T2.length = M) : OB h (hp.set (h.length + 1) (.ints (iL T2) 3 false)) gv M T2 := by
  have hl := get_lt o.bT
  refine ⟨?_, get_set hl _, ?_, ?_, o.E.set_ge (by omega) _, hT⟩
  · rw [List.getElem?_set_ne (by omega)]; exact o.b1
  · rw [List.getElem?_set_ne (by omega)]; exact o.b5
  · rw [List.getElem?_set_ne (by omega)]; exact o.b6
end
end Go.Proofs.Tryd.Am

namespace Go.Proofs.Tryd.Am
open Go.Am
set_option maxRecDepth 100000
end Go.Proofs.Tryd.Am

namespace Rb
section
variable {b : Nat → Nat → Bool}
end
section
variable {c : Nat → Nat → Nat} {n : Nat}
end
theorem nodup_le {α : Type} [DecidableEq α] : ∀ {l m : List α}, l.Nodup → (∀ x ∈ l, x ∈ m) → l.length ≤ m.length
  | [], _, _, _ => Nat.zero_le _
  | x :: l, m, hd, h => by
    have hd' := List.nodup_cons.1 hd
    have hx := h x (by simp)
    have := nodup_le (l := l) (m := m.erase x) hd'.2 fun y hy => (List.mem_erase_of_ne (show y ≠ x from fun e => hd'.1 (e ▸ hy))).2 (h y (by simp [hy]))
    rw [List.length_erase_of_mem hx] at this
    have : 0 < m.length := List.length_pos_of_mem hx
    rw [List.length_cons]; omega
end Rb
namespace Rb
section
variable {b : Nat → Nat → Bool}
/-- The pairs that an order goes against: who beats, and who stands before. -/
def bp (b : Nat → Nat → Bool) (pre : List Nat) : List Nat → List (Nat × Nat)
  | [] => []
  | x :: l => (pre.filter (b x)).map (fun y => (x, y)) ++ bp b (pre ++ [x]) l
/-- Each cycle has a pair that the order goes against. -/
def bk (l : List Nat) (t : Nat × Nat × Nat) : Nat × Nat :=
  if l.idxOf t.2.1 < l.idxOf t.1 then (t.1, t.2.1) else if l.idxOf t.2.2 < l.idxOf t.2.1 then (t.2.1, t.2.2) else (t.2.2, t.1)
end
end Rb

namespace Go.Proofs.Tryd.Am
open Go.Am
set_option maxRecDepth 100000
set_option maxHeartbeats 1000000

end Go.Proofs.Tryd.Am

namespace Go.Proofs.Tryd.Am
open Go.Am
set_option maxRecDepth 100000
/-! 101: math bits.Len -/
@[reducible] def q101_0 : SCode := .region [⟨some 2, .assign (.const (.int .i64 0)), none⟩]
@[reducible] def q101_1 : SCode := .region [⟨some 3, .move (.tmp 0), none⟩,
    ⟨some 4, .convert 53 87 (.tmp 3), none⟩,
    ⟨some 5, .call { callee := .value (.func 118), args := #[.tmp 4], argTypes := #[87] }, none⟩,
    ⟨some 2, .assign (.tmp 5), none⟩]
@[reducible] def q101_2 : SCode := .region [⟨some 6, .move (.tmp 0), none⟩,
    ⟨some 7, .call { callee := .value (.func 119), args := #[.tmp 6], argTypes := #[89] }, none⟩,
    ⟨some 2, .assign (.tmp 7), none⟩]
def s101 : SCode := (.seq q101_0 (.seq (.cond (.const (.bool false)) (.seq q101_1 .ret) .skip) (.seq q101_2 .ret)))
theorem s101_strip : stripC (bodyOf Tryd.f101) = s101 := by kernel_rfl
theorem s101_ok : codeOK 8 (bodyOf Tryd.f101) = true := by kernel_rfl
/-! 119: math bits.Len64 -/
@[reducible] def q119_0 : SCode := .region [⟨some 2, .assign (.const (.int .i64 0)), none⟩]
@[reducible] def q119_1 : SCode := .region [⟨some 3, .move (.tmp 0), none⟩,
    ⟨some 4, .binOp .geq 89 (.tmp 3) (.const (.int .u64 4294967296)) 89, none⟩]
@[reducible] def q119_2 : SCode := .region [⟨some 5, .move (.tmp 0), none⟩,
    ⟨some 6, .binOp .shr 89 (.tmp 5) (.const (.int .u64 32)) 53, none⟩,
    ⟨some 0, .assign (.tmp 6), none⟩]
@[reducible] def q119_3 : SCode := .region [⟨some 2, .assign (.const (.int .i64 32)), none⟩]
@[reducible] def q119_4 : SCode := .region [⟨some 7, .move (.tmp 0), none⟩,
    ⟨some 8, .binOp .geq 89 (.tmp 7) (.const (.int .u64 65536)) 89, none⟩]
@[reducible] def q119_5 : SCode := .region [⟨some 9, .move (.tmp 0), none⟩,
    ⟨some 10, .binOp .shr 89 (.tmp 9) (.const (.int .u64 16)) 53, none⟩,
    ⟨some 0, .assign (.tmp 10), none⟩]
@[reducible] def q119_6 : SCode := .region [⟨some 11, .move (.tmp 2), none⟩,
    ⟨some 12, .binOp .add 3 (.tmp 11) (.const (.int .i64 16)) 3, none⟩,
    ⟨some 2, .assign (.tmp 12), none⟩]
@[reducible] def q119_7 : SCode := .region [⟨some 13, .move (.tmp 0), none⟩,
    ⟨some 14, .binOp .geq 89 (.tmp 13) (.const (.int .u64 256)) 89, none⟩]
@[reducible] def q119_8 : SCode := .region [⟨some 15, .move (.tmp 0), none⟩,
    ⟨some 16, .binOp .shr 89 (.tmp 15) (.const (.int .u64 8)) 53, none⟩,
    ⟨some 0, .assign (.tmp 16), none⟩]
@[reducible] def q119_9 : SCode := .region [⟨some 17, .move (.tmp 2), none⟩,
    ⟨some 18, .binOp .add 3 (.tmp 17) (.const (.int .i64 8)) 3, none⟩,
    ⟨some 2, .assign (.tmp 18), none⟩]
@[reducible] def q119_10 : SCode := .region [⟨some 19, .move (.tmp 2), none⟩,
    ⟨some 20, .move (.tmp 0), none⟩,
    ⟨some 21, .convert 89 5 (.tmp 20), none⟩,
    ⟨some 22, .index 9 (.const (.string { data := #[0, 1, 2, 2, 3, 3, 3, 3, 4, 4, 4, 4, 4, 4, 4, 4, 5, 5, 5, 5, 5, 5, 5, 5, 5, 5, 5, 5, 5, 5, 5, 5, 6, 6, 6, 6, 6, 6, 6, 6, 6, 6, 6, 6, 6, 6, 6, 6, 6, 6, 6, 6, 6, 6, 6, 6, 6, 6, 6, 6, 6, 6, 6, 6, 7, 7, 7, 7, 7, 7, 7, 7, 7, 7, 7, 7, 7, 7, 7, 7, 7, 7, 7, 7, 7, 7, 7, 7, 7, 7, 7, 7, 7, 7, 7, 7, 7, 7, 7, 7, 7, 7, 7, 7, 7, 7, 7, 7, 7, 7, 7, 7, 7, 7, 7, 7, 7, 7, 7, 7, 7, 7, 7, 7, 7, 7, 7, 7, 8, 8, 8, 8, 8, 8, 8, 8, 8, 8, 8, 8, 8, 8, 8, 8, 8, 8, 8, 8, 8, 8, 8, 8, 8, 8, 8, 8, 8, 8, 8, 8, 8, 8, 8, 8, 8, 8, 8, 8, 8, 8, 8, 8, 8, 8, 8, 8, 8, 8, 8, 8, 8, 8, 8, 8, 8, 8, 8, 8, 8, 8, 8, 8, 8, 8, 8, 8, 8, 8, 8, 8, 8, 8, 8, 8, 8, 8, 8, 8, 8, 8, 8, 8, 8, 8, 8, 8, 8, 8, 8, 8, 8, 8, 8, 8, 8, 8, 8, 8, 8, 8, 8, 8, 8, 8, 8, 8, 8, 8, 8, 8, 8, 8, 8, 8, 8, 8, 8, 8, 8, 8, 8, 8, 8, 8, 8, 8] })) (.tmp 21), none⟩,
    ⟨some 23, .convert 5 3 (.tmp 22), none⟩,
    ⟨some 24, .binOp .add 3 (.tmp 19) (.tmp 23) 3, none⟩,
    ⟨some 2, .assign (.tmp 24), none⟩]
def s119 : SCode := (.seq q119_0 (.seq (.seq q119_1 (.cond (.tmp 4) (.seq q119_2 q119_3) .skip)) (.seq (.seq q119_4 (.cond (.tmp 8) (.seq q119_5 q119_6) .skip)) (.seq (.seq q119_7 (.cond (.tmp 14) (.seq q119_8 q119_9) .skip)) (.seq q119_10 .ret)))))
theorem s119_strip : stripC (bodyOf Tryd.f119) = s119 := by kernel_rfl
theorem s119_ok : codeOK 25 (bodyOf Tryd.f119) = true := by kernel_rfl
end Go.Proofs.Tryd.Am

namespace Go.Proofs.Tryd.Am
open Go.Am
set_option maxRecDepth 100000
/-! 120: slices.insertionSortCmpFunc[int] -/
@[reducible] def q120_0 : SCode := .region [⟨some 10, .move (.tmp 1), none⟩,
    ⟨some 11, .binOp .add 3 (.tmp 10) (.const (.int .i64 1)) 3, none⟩,
    ⟨some 8, .assign (.tmp 11), none⟩]
@[reducible] def q120_1 : SCode := .region [⟨some 12, .move (.tmp 8), none⟩,
    ⟨some 13, .move (.tmp 2), none⟩,
    ⟨some 14, .binOp .lss 3 (.tmp 12) (.tmp 13) 3, none⟩]
@[reducible] def q120_3 : SCode := .region [⟨some 17, .move (.tmp 8), none⟩,
    ⟨some 9, .assign (.tmp 17), none⟩]
def q120_4 : SCode := .draw [⟨some 18, .move (.tmp 9), none⟩,
    ⟨some 19, .move (.tmp 1), none⟩,
    ⟨some 20, .binOp .gtr 3 (.tmp 18) (.tmp 19) 3, none⟩,
    ⟨some 21, .move (.tmp 20), none⟩,
    ⟨some 22, .move (.tmp 3), some (21, true)⟩,
    ⟨some 23, .move (.tmp 0), some (21, true)⟩,
    ⟨some 24, .move (.tmp 9), some (21, true)⟩,
    ⟨some 25, .indexAddr 22 (.tmp 23) (.tmp 24), some (21, true)⟩,
    ⟨some 26, .load 3 (.tmp 25), some (21, true)⟩,
    ⟨some 27, .move (.tmp 0), some (21, true)⟩,
    ⟨some 28, .move (.tmp 9), some (21, true)⟩,
    ⟨some 29, .binOp .sub 3 (.tmp 28) (.const (.int .i64 1)) 3, some (21, true)⟩,
    ⟨some 30, .indexAddr 22 (.tmp 27) (.tmp 29), some (21, true)⟩,
    ⟨some 31, .load 3 (.tmp 30), some (21, true)⟩,
    ⟨some 32, .call { callee := .value (.tmp 22), args := #[.tmp 26, .tmp 31], argTypes := #[3, 3] }, some (21, true)⟩,
    ⟨some 33, .binOp .lss 3 (.tmp 32) (.const (.int .i64 0)) 3, some (21, true)⟩,
    ⟨some 34, .pick (.tmp 21) (.tmp 33) (.const (.bool false)), none⟩]
   [[], [], [0, 1], [2], [3], [3], [3], [5, 6, 3], [7, 3], [3], [3], [10, 3], [9, 11, 3], [12, 3], [4, 8, 13, 3, 3], [14, 3], [3, 15]]
def q120_6 : SCode := .draw [⟨some 37, .move (.tmp 0), none⟩,
    ⟨some 38, .move (.tmp 9), none⟩,
    ⟨some 39, .move (.tmp 0), none⟩,
    ⟨some 40, .move (.tmp 9), none⟩,
    ⟨some 41, .binOp .sub 3 (.tmp 40) (.const (.int .i64 1)) 3, none⟩,
    ⟨some 42, .move (.tmp 0), none⟩,
    ⟨some 43, .move (.tmp 9), none⟩,
    ⟨some 44, .binOp .sub 3 (.tmp 43) (.const (.int .i64 1)) 3, none⟩,
    ⟨some 45, .indexAddr 22 (.tmp 42) (.tmp 44), none⟩,
    ⟨some 46, .load 3 (.tmp 45), none⟩,
    ⟨some 47, .move (.tmp 0), none⟩,
    ⟨some 48, .move (.tmp 9), none⟩,
    ⟨some 49, .indexAddr 22 (.tmp 47) (.tmp 48), none⟩,
    ⟨some 50, .load 3 (.tmp 49), none⟩,
    ⟨some 51, .indexAddr 22 (.tmp 37) (.tmp 38), none⟩,
    ⟨none, .store 3 (.tmp 51) (.tmp 46), none⟩,
    ⟨some 52, .indexAddr 22 (.tmp 39) (.tmp 41), none⟩,
    ⟨none, .store 3 (.tmp 52) (.tmp 50), none⟩]
   [[], [], [], [], [3], [], [], [6], [5, 7], [8], [], [], [10, 11], [12], [0, 1, 0, 1, 5, 6, 7, 8, 9, 13], [14, 9, 0, 1, 5, 6, 7, 8, 9, 13], [2, 4, 0, 1, 2, 3, 4, 5, 6, 7, 8, 9, 10, 11, 12, 13, 14, 15], [16, 13, 15, 0, 1, 2, 3, 4, 5, 6, 7, 8, 9, 10, 11, 12, 13, 14, 15]]
@[reducible] def q120_5 : SCode := .region [⟨some 35, .move (.tmp 9), none⟩,
    ⟨some 36, .binOp .sub 3 (.tmp 35) (.const (.int .i64 1)) 3, none⟩,
    ⟨some 9, .assign (.tmp 36), none⟩]
def l120_0 : SCode := (.seq (.seq q120_4 (.cond (.tmp 34) .skip (.exit 2))) (.seq (.block 3 q120_6) q120_5))
@[reducible] def q120_2 : SCode := .region [⟨some 15, .move (.tmp 8), none⟩,
    ⟨some 16, .binOp .add 3 (.tmp 15) (.const (.int .i64 1)) 3, none⟩,
    ⟨some 8, .assign (.tmp 16), none⟩]
def l120_1 : SCode := (.seq (.seq q120_1 (.cond (.tmp 14) .skip (.exit 0))) (.seq (.block 1 (.seq q120_3 (.block 2 (.loop l120_0)))) q120_2))
def s120 : SCode := (.seq q120_0 (.block 0 (.loop l120_1)))
theorem s120_strip : stripC (bodyOf Tryd.f120) = s120 := by kernel_rfl
theorem s120_ok : codeOK 53 (bodyOf Tryd.f120) = true := by kernel_rfl
end Go.Proofs.Tryd.Am

namespace Go.Proofs.Tryd.Am
open Go.Am Rb
set_option maxRecDepth 100000
set_option maxHeartbeats 1000000

def swL (L : List Nat) (j : Nat) : List Nat := (L.set j (L.getD (j - 1) 0)).set (j - 1) (L.getD j 0)
theorem swL_get {L : List Nat} {j : Nat} (h1 : 1 ≤ j) (h2 : j < L.length) (t : Nat) : (swL L j).getD t 0 = if t = j - 1 then L.getD j 0 else if t = j then L.getD (j - 1) 0 else L.getD t 0 := by
  rw [swL, getD_setN (by rw [List.length_set]; omega), getD_setN h2]
theorem swL_perm {L : List Nat} {j : Nat} (h1 : 1 ≤ j) (h2 : j < L.length) : (swL L j).Perm L := by
  have := Array.swap_perm (xs := L.toArray) (i := j) (j := j - 1) (by simpa using h2) (by simp; omega)
  rw [Array.perm_iff_toList_perm, Array.toList_swap] at this
  simpa [swL, List.getD, List.getElem?_eq_getElem h2, List.getElem?_eq_getElem (show j - 1 < L.length by omega)] using this

section
variable {key : Nat → Int}
/-- The first i are sorted. -/
def SrtTo (key : Nat → Int) (L : List Nat) (i : Nat) : Prop := ∀ p q, p < q → q < i → key (L.getD p 0) ≤ key (L.getD q 0)
/-- The first i + 1 are sorted but for the one at j. -/
def SrtBut (key : Nat → Int) (L : List Nat) (i j : Nat) : Prop := ∀ p q, p < q → q ≤ i → q ≠ j → key (L.getD p 0) ≤ key (L.getD q 0)
theorem SrtBut.step {L : List Nat} {i j : Nat} (h : SrtBut key L i j) (h1 : 1 ≤ j) (h2 : j < L.length) (hj : j ≤ i) (hlt : key (L.getD j 0) < key (L.getD (j - 1) 0)) : SrtBut key (swL L j) i (j - 1) := by
  intro p q hpq hq hne
  rw [swL_get h1 h2, swL_get h1 h2, if_neg hne]
  by_cases hqj : q = j
  · rw [if_pos hqj]
    by_cases hp : p = j - 1
    · rw [if_pos hp]; omega
    · rw [if_neg hp, if_neg (by omega)]
      exact h p (j - 1) (by omega) (by omega) (by omega)
  · rw [if_neg hqj]
    by_cases hp : p = j - 1
    · rw [if_pos hp]; exact h j q (by omega) hq hqj
    · rw [if_neg hp]
      by_cases hpj : p = j
      · rw [if_pos hpj]; exact h (j - 1) q (by omega) hq hqj
      · rw [if_neg hpj]; exact h p q hpq hq hqj
theorem SrtBut.done {L : List Nat} {i j : Nat} (h : SrtBut key L i j) (hj : j = 0 ∨ key (L.getD (j - 1) 0) ≤ key (L.getD j 0)) : SrtTo key L (i + 1) := by
  intro p q hpq hq
  by_cases hqj : q = j
  · subst hqj
    rcases hj with hj | hj
    · omega
    · by_cases hp : p = q - 1
      · subst hp; exact hj
      · exact Int.le_trans (h p (q - 1) (by omega) (by omega) (by omega)) hj
  · exact h p q hpq (by omega) hqj
theorem SrtTo.pw {L : List Nat} (h : SrtTo key L L.length) : L.Pairwise fun a b => key a ≤ key b := by
  rw [List.pairwise_iff_getElem]
  intro i j hi hj hij
  have := h i j hij hj
  rw [List.getD, List.getD, List.getElem?_eq_getElem hi, List.getElem?_eq_getElem hj] at this
  exact this
end
theorem subN1 {n : Nat} (h1 : 1 ≤ n) (h : n < 9223372036854775808) : subV .i64 (n : Int) 1 = ((n - 1 : Nat) : Int) := by rw [subV_id (by omega) (by omega)]; omega
/-- A slice in a block of its own. -/
abbrev ov (b n m : Nat) : Value := .slice (some ⟨b, 0, some 0⟩) n (n + m)
theorem ov_own {h : Heap} {b n : Nat} {L : List Nat} {ys : List Int} (hb : b < h.length) (hn : L.length = n) : OwnSl 3 (h.set b (.ints (iL L ++ ys) 3 false)) (ov b n ys.length) (iL L) :=
  .inr ⟨b, ys, by rw [iL_len, hn], get_set hb _⟩
theorem elemP_ov (b n m i : Nat) : elemP (ov b n m) 1 i = .pointer (some ⟨b, i, none⟩) := by simp [elemP]
theorem ov_load {h : Heap} {b n : Nat} {L : List Nat} {ys : List Int} {i : Nat} (hb : b < h.length) (hn : L.length = n) (hi : i < n) {K : Value → Prop} :
    loadK prog (h.set b (.ints (iL L ++ ys) 3 false)) 3 (.pointer (some ⟨b, i, none⟩)) K = K (vint (L.getD i 0 : Nat)) := by
  have := (ov_own (h := h) (b := b) (n := n) (L := L) (ys := ys) hb hn).int.load shp_3 (i := i) (by rw [iL_len]; omega) K
  rw [elemP_ov, iL_get] at this
  exact this
theorem ov_store {h : Heap} {b : Nat} {L : List Nat} {ys : List Int} {i x : Nat} (hb : b < h.length) (hi : i < L.length) {K : Heap → Prop} :
    storeK prog (h.set b (.ints (iL L ++ ys) 3 false)) 3 (.pointer (some ⟨b, i, none⟩)) (vint (x : Nat)) K = K (h.set b (.ints (iL (L.set i x) ++ ys) 3 false)) := by
  rw [storeBI (get_set hb _) shp_3 (by rw [List.length_append, iL_len]; omega), List.set_set, List.set_append_left _ _ (by rw [iL_len]; exact hi), iL_set]

end Go.Proofs.Tryd.Am

namespace Go.Proofs.Tryd.Am
open Go.Am Rb
set_option maxRecDepth 100000
set_option maxHeartbeats 1000000

theorem wrap8 {x : Nat} (h : x < 256) : IntKind.u8.wrap (x : Int) = (x : Int) := by
  simp [IntKind.wrap, IntKind.signed, IntKind.bits]; omega
theorem s119_callW [Tabs Tryd.prog] {args : List Value} {h : Heap} {Q : Value → Heap → Prop} (hsz : args.length ≤ 25) (hk : AWS Tryd.prog 25 s119 (aPost Tryd.prog [.tmp 2] Q) (argEnv 0 args) h) : ACall Tryd.prog 119 args h Q :=
  acall_w Tryd.func119 rfl (enters_of Tryd.func119 (by kernel_rfl) rfl) rfl rfl (by decide) s119_strip s119_ok hsz hk
theorem len64_call [Tabs prog] {h : Heap} {x : Nat} (hx : x < 256) : ACall prog 119 [vu x] h fun r h' => (∃ z, r = .int .i64 z) ∧ h' = h := by
  obtain ⟨s, hs, hq⟩ : ∃ s : ByteArray, s.size = 256 ∧ q119_10 = .region [⟨some 19, .move (.tmp 2), none⟩, ⟨some 20, .move (.tmp 0), none⟩, ⟨some 21, .convert 89 5 (.tmp 20), none⟩, ⟨some 22, .index 9 (.const (.string s)) (.tmp 21), none⟩,
      ⟨some 23, .convert 5 3 (.tmp 22), none⟩, ⟨some 24, .binOp .add 3 (.tmp 19) (.tmp 23) 3, none⟩, ⟨some 2, .assign (.tmp 24), none⟩] := by
    refine ⟨_, ?_, rfl⟩
    kernel_rfl
  have hidx : s[x]? = some (s[x]'(by omega)) := getElem?_pos s x (by omega)
  have hnn : ∀ i : Nat, (0 : Int) ≤ (i : Int) := Int.natCast_nonneg
  have n1 : ¬ (4294967296 : Int) ≤ (x : Int) := by omega
  have n2 : ¬ (65536 : Int) ≤ (x : Int) := by omega
  have n3 : ¬ (256 : Int) ≤ (x : Int) := by omega
  refine s119_callW (by simp) ?_
  simp only [s119]
  refine aws_cut fun N1 hN1 => ?_
  simp (maxSteps := 2000000) only [s119, ↓aw_region, ↓aw_skip, ↓aw_seq, ↓aw_block, ↓aw_exit, ↓aw_ret, ↓sops_nil, ↓sops_go, ↓dops_nil, ↓dopsX_nil, ↓dopsR_nil, ↓vdn, vup, extr_20, extr_21, extr_30, extr_31, extr_32, List.map_cons, List.map_nil, cond_true, cond_false, aop, aThen, aBlock, argEnv, ev, sput, sputO, binK, binI, unK, builtinK, pickK, Nat.reduceBEq, Nat.reduceAdd, Int.reduceBEq, Int.reduceBNe, Int.reduceLT, aPost, resK, tup, tyf]
  refine hN1 [(0, vu x), (2, .int .i64 0)] _ _ ?_ (by simp (maxSteps := 2000000) only [↓aw_region, ↓aw_skip, ↓aw_seq, ↓aw_block, ↓aw_exit, ↓aw_ret, ↓sops_nil, ↓sops_go, ↓dops_nil, ↓dopsX_nil, ↓dopsR_nil, ↓vdn, vup, extr_20, extr_21, extr_30, extr_31, extr_32, List.map_cons, List.map_nil, cond_true, cond_false, aop, aThen, aBlock, argEnv, ev, sput, sputO, binK, binI, unK, builtinK, pickK, Nat.reduceBEq, Nat.reduceAdd, Int.reduceBEq, Int.reduceBNe, Int.reduceLT, aPost, resK, tup, tyf])
  clear hN1
  try clear N1
  refine aws_cut fun N2 hN2 => ?_
  simp (maxSteps := 2000000) only [s119, ↓aw_region, ↓aw_skip, ↓aw_seq, ↓aw_block, ↓aw_exit, ↓aw_ret, ↓sops_nil, ↓sops_go, ↓dops_nil, ↓dopsX_nil, ↓dopsR_nil, ↓vdn, vup, extr_20, extr_21, extr_30, extr_31, extr_32, List.map_cons, List.map_nil, cond_true, cond_false, aop, aThen, aBlock, argEnv, ev, sput, sputO, binK, binI, unK, builtinK, pickK, Nat.reduceBEq, Nat.reduceAdd, Int.reduceBEq, Int.reduceBNe, Int.reduceLT, aPost, resK, tup, tyf, ge_iff_le, n1]
  refine hN2 [(0, vu x), (2, .int .i64 0)] _ _ ?_ (by simp (maxSteps := 2000000) only [↓aw_region, ↓aw_skip, ↓aw_seq, ↓aw_block, ↓aw_exit, ↓aw_ret, ↓sops_nil, ↓sops_go, ↓dops_nil, ↓dopsX_nil, ↓dopsR_nil, ↓vdn, vup, extr_20, extr_21, extr_30, extr_31, extr_32, List.map_cons, List.map_nil, cond_true, cond_false, aop, aThen, aBlock, argEnv, ev, sput, sputO, binK, binI, unK, builtinK, pickK, Nat.reduceBEq, Nat.reduceAdd, Int.reduceBEq, Int.reduceBNe, Int.reduceLT, aPost, resK, tup, tyf])
  clear hN2
  try clear N2
  refine aws_cut fun N3 hN3 => ?_
  simp (maxSteps := 2000000) only [s119, ↓aw_region, ↓aw_skip, ↓aw_seq, ↓aw_block, ↓aw_exit, ↓aw_ret, ↓sops_nil, ↓sops_go, ↓dops_nil, ↓dopsX_nil, ↓dopsR_nil, ↓vdn, vup, extr_20, extr_21, extr_30, extr_31, extr_32, List.map_cons, List.map_nil, cond_true, cond_false, aop, aThen, aBlock, argEnv, ev, sput, sputO, binK, binI, unK, builtinK, pickK, Nat.reduceBEq, Nat.reduceAdd, Int.reduceBEq, Int.reduceBNe, Int.reduceLT, aPost, resK, tup, tyf, ge_iff_le, n2]
  refine hN3 [(0, vu x), (2, .int .i64 0)] _ _ ?_ (by simp (maxSteps := 2000000) only [↓aw_region, ↓aw_skip, ↓aw_seq, ↓aw_block, ↓aw_exit, ↓aw_ret, ↓sops_nil, ↓sops_go, ↓dops_nil, ↓dopsX_nil, ↓dopsR_nil, ↓vdn, vup, extr_20, extr_21, extr_30, extr_31, extr_32, List.map_cons, List.map_nil, cond_true, cond_false, aop, aThen, aBlock, argEnv, ev, sput, sputO, binK, binI, unK, builtinK, pickK, Nat.reduceBEq, Nat.reduceAdd, Int.reduceBEq, Int.reduceBNe, Int.reduceLT, aPost, resK, tup, tyf])
  clear hN3
  try clear N3
  refine aws_cut fun N4 hN4 => ?_
  simp (maxSteps := 2000000) only [s119, ↓aw_region, ↓aw_skip, ↓aw_seq, ↓aw_block, ↓aw_exit, ↓aw_ret, ↓sops_nil, ↓sops_go, ↓dops_nil, ↓dopsX_nil, ↓dopsR_nil, ↓vdn, vup, extr_20, extr_21, extr_30, extr_31, extr_32, List.map_cons, List.map_nil, cond_true, cond_false, aop, aThen, aBlock, argEnv, ev, sput, sputO, binK, binI, unK, builtinK, pickK, Nat.reduceBEq, Nat.reduceAdd, Int.reduceBEq, Int.reduceBNe, Int.reduceLT, aPost, resK, tup, tyf, ge_iff_le, n3]
  refine hN4 [(0, vu x), (2, .int .i64 0)] _ _ ?_ (by simp (maxSteps := 2000000) only [↓aw_region, ↓aw_skip, ↓aw_seq, ↓aw_block, ↓aw_exit, ↓aw_ret, ↓sops_nil, ↓sops_go, ↓dops_nil, ↓dopsX_nil, ↓dopsR_nil, ↓vdn, vup, extr_20, extr_21, extr_30, extr_31, extr_32, List.map_cons, List.map_nil, cond_true, cond_false, aop, aThen, aBlock, argEnv, ev, sput, sputO, binK, binI, unK, builtinK, pickK, Nat.reduceBEq, Nat.reduceAdd, Int.reduceBEq, Int.reduceBNe, Int.reduceLT, aPost, resK, tup, tyf])
  clear hN4
  try clear N4
  rw [hq]
  refine aw_aws ?_
  simp (maxSteps := 2000000) only [s119, ↓aw_region, ↓aw_skip, ↓aw_seq, ↓aw_block, ↓aw_exit, ↓aw_ret, ↓sops_nil, ↓sops_go, ↓dops_nil, ↓dopsX_nil, ↓dopsR_nil, ↓vdn, vup, extr_20, extr_21, extr_30, extr_31, extr_32, List.map_cons, List.map_nil, cond_true, cond_false, aop, aThen, aBlock, argEnv, ev, sput, sputO, binK, binI, unK, builtinK, pickK, Nat.reduceBEq, Nat.reduceAdd, Int.reduceBEq, Int.reduceBNe, Int.reduceLT, aPost, resK, tup, tyf, convK, und_89, und_5, und_3, wrap8 hx, indexK, und_9, hnn, Int.toNat_natCast, hidx]
  first | exact ⟨⟨_, rfl⟩, rfl⟩ | exact ⟨_, rfl⟩
theorem s101_callW [Tabs Tryd.prog] {args : List Value} {h : Heap} {Q : Value → Heap → Prop} (hsz : args.length ≤ 8) (hk : AWS Tryd.prog 8 s101 (aPost Tryd.prog [.tmp 2] Q) (argEnv 0 args) h) : ACall Tryd.prog 101 args h Q :=
  acall_w Tryd.func101 rfl (enters_of Tryd.func101 (by kernel_rfl) rfl) rfl rfl (by decide) s101_strip s101_ok hsz hk
theorem len_call [Tabs prog] {h : Heap} {x : Nat} (hx : x < 256) : ACall prog 101 [vu x] h fun r h' => (∃ z, r = .int .i64 z) ∧ h' = h := by
  refine s101_callW (by simp) ?_
  simp only [s101]
  refine aws_cut fun N5 hN5 => ?_
  simp (maxSteps := 2000000) only [s101, ↓aw_region, ↓aw_skip, ↓aw_seq, ↓aw_block, ↓aw_exit, ↓aw_ret, ↓sops_nil, ↓sops_go, ↓dops_nil, ↓dopsX_nil, ↓dopsR_nil, ↓vdn, vup, extr_20, extr_21, extr_30, extr_31, extr_32, List.map_cons, List.map_nil, cond_true, cond_false, aop, aThen, aBlock, argEnv, ev, sput, sputO, binK, binI, unK, builtinK, pickK, Nat.reduceBEq, Nat.reduceAdd, Int.reduceBEq, Int.reduceBNe, Int.reduceLT, aPost, resK, tup, tyf]
  refine hN5 [(0, vu x), (2, .int .i64 0)] _ _ ?_ (by simp (maxSteps := 2000000) only [↓aw_region, ↓aw_skip, ↓aw_seq, ↓aw_block, ↓aw_exit, ↓aw_ret, ↓sops_nil, ↓sops_go, ↓dops_nil, ↓dopsX_nil, ↓dopsR_nil, ↓vdn, vup, extr_20, extr_21, extr_30, extr_31, extr_32, List.map_cons, List.map_nil, cond_true, cond_false, aop, aThen, aBlock, argEnv, ev, sput, sputO, binK, binI, unK, builtinK, pickK, Nat.reduceBEq, Nat.reduceAdd, Int.reduceBEq, Int.reduceBNe, Int.reduceLT, aPost, resK, tup, tyf])
  clear hN5
  try clear N5
  refine aws_cutW fun N6 hN6 => ?_
  refine aws_false rfl ?_
  refine aw_aws ?_
  simp (maxSteps := 2000000) only [s101, ↓aw_region, ↓aw_skip, ↓aw_seq, ↓aw_block, ↓aw_exit, ↓aw_ret, ↓sops_nil, ↓sops_go, ↓dops_nil, ↓dopsX_nil, ↓dopsR_nil, ↓vdn, vup, extr_20, extr_21, extr_30, extr_31, extr_32, List.map_cons, List.map_nil, cond_true, cond_false, aop, aThen, aBlock, argEnv, ev, sput, sputO, binK, binI, unK, builtinK, pickK, Nat.reduceBEq, Nat.reduceAdd, Int.reduceBEq, Int.reduceBNe, Int.reduceLT, aPost, resK, tup, tyf]
  refine hN6 [(0, vu x), (2, .int .i64 0)] _ _ ?_ (by simp (maxSteps := 2000000) only [↓aw_region, ↓aw_skip, ↓aw_seq, ↓aw_block, ↓aw_exit, ↓aw_ret, ↓sops_nil, ↓sops_go, ↓dops_nil, ↓dopsX_nil, ↓dopsR_nil, ↓vdn, vup, extr_20, extr_21, extr_30, extr_31, extr_32, List.map_cons, List.map_nil, cond_true, cond_false, aop, aThen, aBlock, argEnv, ev, sput, sputO, binK, binI, unK, builtinK, pickK, Nat.reduceBEq, Nat.reduceAdd, Int.reduceBEq, Int.reduceBNe, Int.reduceLT, aPost, resK, tup, tyf])
  clear hN6
  try clear N6
  refine aw_aws ?_
  simp (maxSteps := 2000000) only [s101, ↓aw_region, ↓aw_skip, ↓aw_seq, ↓aw_block, ↓aw_exit, ↓aw_ret, ↓sops_nil, ↓sops_go, ↓dops_nil, ↓dopsX_nil, ↓dopsR_nil, ↓vdn, vup, extr_20, extr_21, extr_30, extr_31, extr_32, List.map_cons, List.map_nil, cond_true, cond_false, aop, aThen, aBlock, argEnv, ev, sput, sputO, binK, binI, unK, builtinK, pickK, Nat.reduceBEq, Nat.reduceAdd, Int.reduceBEq, Int.reduceBNe, Int.reduceLT, aPost, resK, tup, tyf, callK, List.nil_append, List.append_nil, List.toList_toArray, List.cons_append]
  refine (len64_call hx).mono ?_
  rintro _ h ⟨⟨z, rfl⟩, rfl⟩
  first | exact ⟨⟨z, rfl⟩, rfl⟩ | exact ⟨z, rfl⟩

end Go.Proofs.Tryd.Am

namespace Rb
set_option maxRecDepth 100000

/-- x put behind all that are not greater. -/
def insR (x : Nat) : List Nat → List Nat
  | [] => [x]
  | y :: l => if y ≤ x then y :: insR x l else x :: y :: l
def rising (l : List Nat) : List Nat := l.foldl (fun out x => insR x out) []
end Rb

namespace Go.Proofs.Tryd.Am
open Go.Am Rb
set_option maxRecDepth 100000
set_option maxHeartbeats 1000000

/-- A slice of ints that a run makes, behind what was there. -/
def RSI (h hp : Heap) (ov : Value) (xs : List Int) : Prop := OwnSl 3 hp ov xs ∧ Ext (fun _ => False) h hp ∧ ∀ b, blkOf ov = some b → h.length ≤ b
theorem RSI.nil (h : Heap) : RSI h h (.slice none 0 0) [] := ⟨.inl ⟨rfl, rfl⟩, Ext.refl _ _, fun b hb => by cases hb⟩
theorem RSI.push {h hp : Heap} {ov : Value} {xs : List Int} (s : RSI h hp ov xs) {x : Int} (hn : xs.length < 1099511627776) {K : Value → Heap → Prop} (hk : ∀ v' h', RSI h h' v' (xs ++ [x]) → K v' h') :
    appendK prog (hp ++ [.ints [x] 3 false]) 22 22 ov (.slice (some ⟨hp.length, 0, none⟩) 1 1) K := by
  obtain ⟨hown, hE, hblk⟩ := s
  have hx1 : Ext (fun _ => False) hp (hp ++ [.ints [x] 3 false]) := Ext.app _ _ _
  refine (hown.ext hx1 fun _ _ => id).append app_22_22 hn (get_new _ _) fun v' h' ho hE' hb => hk v' h' ⟨ho, ?_, fun b hbb => ?_⟩
  · have h1 := hE.1
    have h2 := hx1.1
    have h3 := hE'.1
    refine ⟨by omega, fun i hi _ => ?_⟩
    rw [hE'.2 i (by omega) fun hbb => by have := hblk i hbb; omega, hx1.2 i (by omega) id]
    exact hE.2 i hi id
  · rcases hb with h1 | ⟨b', h1, h2⟩
    · exact hblk b (h1 ▸ hbb)
    · rw [h1] at hbb; cases hbb; have := hE.1; have := hx1.1; omega

/-- How many a player beats. -/
def scr (x : Int) : Nat := (Am.bits x.toNat).length
theorem scr_le (x : Int) : scr x ≤ 64 := by rw [scr, Am.bits]; exact Nat.le_trans (List.length_filter_le _ _) (by simp)
end Go.Proofs.Tryd.Am

namespace Go.Proofs.Tryd.Am
open Go.Am Rb Rch
set_option maxRecDepth 100000
set_option maxHeartbeats 1000000

end Go.Proofs.Tryd.Am

namespace Go.Proofs.Tryd.Am
open Go.Am Rb Rch
set_option maxRecDepth 100000
set_option maxHeartbeats 1000000

/-- Who reaches all that is left. -/
def tp (R : Nat → Nat) (left j : Nat) : Bool := left.testBit j && (R j &&& left == left)
section
variable {n : Nat} {R : Nat → Nat} {left : Nat}
theorem top_bit (x : Nat) : (Clr.setL (topL n R left)).testBit x = true ↔ x < n ∧ tp R left x = true := by
  rw [Clr.setL_bit, topL, List.mem_filter, List.mem_range]; rfl
end
theorem cps_zero (n : Nat) (R : Nat → Nat) : ∀ k, cps n R k 0 = []
  | 0 => rfl
  | k + 1 => by rw [cps, if_pos rfl]
/-- What stands in the reference's loops: the parts so far, what is left. -/
structure RP (h hp : Heap) (xs : List Int) (w : Value) (P : List Nat) (left : Nat) : Prop where
  r : RSI h hp w (iL P)
  lt : left < 2 ^ xs.length
  p : P.length ≤ 8
  c : ∃ k, P.length + k ≤ 8 ∧ cnt xs.length left ≤ k ∧ prts xs = P ++ cps xs.length (rch xs) k left

end Go.Proofs.Tryd.Am

namespace Pck
variable {α : Type} {ok : α → α → Bool}

def fits (ok : α → α → Bool) (now : List α) (c : α) : Bool := now.all fun x => ok x c
def better (now best : List α) : List α := if best.length < now.length then now else best
/-- The search from here to the end of the list. -/
def pk (ok : α → α → Bool) : List α → List α → List α → List α
  | [], _, best => best
  | c :: r, now, best => pk ok r now (if fits ok now c = true then (if now.length + 1 + r.length ≤ (better (now ++ [c]) best).length then better (now ++ [c]) best else pk ok r (now ++ [c]) (better (now ++ [c]) best)) else best)
/-- The search as it is called. -/
def go (ok : α → α → Bool) (r now best : List α) : List α := if now.length + r.length ≤ (better now best).length then better now best else pk ok r now (better now best)
/-- How many more fit: the most. -/
def G (ok : α → α → Bool) : List α → (α → Bool) → Nat
  | [], _ => 0
  | c :: r, p => max (G ok r p) (if p c = true then 1 + G ok r (fun x => p x && ok c x) else 0)
end Pck

namespace Go.Proofs.Tryd.Am
open Go.Am Rb
set_option maxRecDepth 100000
set_option maxHeartbeats 1000000

end Go.Proofs.Tryd.Am

namespace Go.Proofs.Tryd.Am
open Go.Am Rb Rch
set_option maxRecDepth 100000
set_option maxHeartbeats 1000000

/-- The best order. -/
def gB (xs : List Int) : List Nat := gr (cst xs) xs.length xs.length 0
section
variable {xs : List Int} (ht : trn xs = true)
include ht
end
/-- The part that reaches all that is left. -/
def tP (xs : List Int) (left : Nat) : Nat := Clr.setL (topL xs.length (rch xs) left)
structure Tg (xs : List Int) (a left : Nat) : Prop where
  lt : left < 2 ^ xs.length
  le : a ≤ xs.length
  m : ∀ x, x ∈ (gB xs).drop a ↔ left.testBit x = true
section
variable {xs : List Int} (ht : trn xs = true) {a left : Nat}
include ht
theorem tP_bit (x : Nat) : (tP xs left).testBit x = true ↔ x < xs.length ∧ tp (rch xs) left x = true := top_bit x
end
/-- j parts behind. -/
structure TgI (xs : List Int) (j a left : Nat) : Prop where
  t : Tg xs a left
  k : ∃ k, xs.length - a ≤ k ∧ (prts xs).drop j = cps xs.length (rch xs) k left
section
variable {xs : List Int} (ht : trn xs = true) {j a left : Nat}
include ht
end
end Go.Proofs.Tryd.Am
