/-
  ranks: the search for a way: walk and its function literal.
  ranks: copies of slices: slices.Clone, the laws' own list.
  ranks: the first way found: walk, and the functions that stand on it.
  ranks: the laws' own search: R.way, R.Way, R.Round.
  ranks: both searches come to the same way; the law RanksWays.
  ranks: the ways of a tournament counted: an odd number; so the search finds one, and what it finds is a way.
  ranks: how many pairs an order goes against, plain.
  Printed by gen.py: the code of some functions, without what no step looks at; held against the program's own by the kernel.
  ranks: the size of a set, and Kings.
  Kings of a tournament: plain counting. Whoever beats the most reaches all in two; who is beaten is beaten by a king.
  ranks: the set that Kings returns is that of the kings; how many they are.
  Plain theory: players without a cycle.
  ranks: the tournament without its last player; the cycles as ints.
  Printed by gen.py: the code of some functions, without what no step looks at; held against the program's own by the kernel.
  ranks: the cycles; whether a set has one; how many a set has.
-/
import Derived.Test.YtemmcfeekpblkaaDoorPk4
import Derived.Test.YtemmcfeekpblkaaDoorPk5
import Derived.Test.YtemmcfeekpblkaaDoorPk3
import Derived.Test.YtemmcfeekpblkaaDoorProg
import Derived.KernelRfl
import Derived.Shelf.Abstract
set_option linter.all false
namespace Go.Proofs.Tryd.Am
open Go.Am
set_option maxRecDepth 100000

/-- The first way that goes on from cur through players of a set. -/
def grow (xs : List Int) (size : Nat) (is : List Int → Bool) : Nat → List Int → Nat → Option (List Int)
  | 0, _, _ => none
  | n + 1, cur, left => if cur.length = size then (if is cur then some cur else none) else
    firstOf (fun (i : Nat) => if cur ≠ [] ∧ bitI (xs.getD (cur.getD (cur.length - 1) 0).toNat 0) i = false then none else grow xs size is n (cur ++ [(i : Int)]) (less left (2 ^ i))) (Am.bits left)

/-- The boxes of the search. -/
structure Boxes (h : Heap) (bl bs bi bt bg : Nat) (size : Nat) (isv tv : Value) : Prop where
  size : h[bs]? = some (.cells [vint size] 3 false)
  is : h[bi]? = some (.cells [isv] 27 false)
  t : h[bt]? = some (.cells [tv] 55 false)
  grow : h[bg]? = some (.cells [.func (.func 92) #[] #[.pointer (some ⟨bl, 0, none⟩), .pointer (some ⟨bs, 0, none⟩), .pointer (some ⟨bi, 0, none⟩), .pointer (some ⟨bt, 0, none⟩), .pointer (some ⟨bg, 0, none⟩)]] 79 false)

/-- The search under way: the blocks I lie as in h0; l's box holds lv, a slice of our own that reads cur. -/
structure GS (I : Nat → Prop) (h0 : Heap) (bl : Nat) (h : Heap) (lv : Value) (cur : List Int) : Prop where
  len : h0.length ≤ h.length
  keep : ∀ i, I i → h[i]? = h0[i]?
  l : h[bl]? = some (.cells [lv] 22 false)
  own : OwnSl 3 h lv cur
  nl : ¬ I bl
  apart : ∀ b, blkOf lv = some b → ¬ I b ∧ b ≠ bl
  low : ∀ i, I i → i < h0.length

/-- More blocks: the search stands as it stood. -/
theorem GS.app {I : Nat → Prop} {h0 h : Heap} {bl : Nat} {lv : Value} {cur : List Int} (s : GS I h0 bl h lv cur) (g : Heap) : GS I h0 bl (h ++ g) lv cur where
  len := by have := s.len; simp; omega
  keep i hi := by rw [List.getElem?_append_left (Nat.lt_of_lt_of_le (s.low i hi) s.len)]; exact s.keep i hi
  l := get_old s.l g
  own := s.own.ext (S := fun _ => False) (Ext.app _ _ _) (fun _ _ h => h)
  nl := s.nl
  apart := s.apart
  low := s.low

/-- What the closure asked at a whole way answers. -/
def IsOk [Tabs prog] (I : Nat → Prop) (h0 : Heap) (isv : Value) (is : List Int → Bool) (size n : Nat) : Prop :=
  ∃ g cap, isv = .func (.func g) #[] cap ∧ ∀ h, h0.length ≤ h.length → (∀ i, I i → h[i]? = h0[i]?) → ∀ v l, IntSl h v l → l.length = size → (∀ x ∈ l, ∃ i : Nat, x = i ∧ i < n) → APure prog g ([v] ++ cap.toList) h (.bool (is l))

/-- A heap that turned elsewhere: the search stands as it stood. -/
theorem GS.ext {I : Nat → Prop} {h0 h h' : Heap} {bl : Nat} {lv : Value} {cur : List Int} {S : Nat → Prop} (s : GS I h0 bl h lv cur) (hx : Ext S h h') (h1 : ∀ i, I i → ¬ S i) (h2 : ¬ S bl) (h3 : ∀ b, blkOf lv = some b → ¬ S b) : GS I h0 bl h' lv cur where
  len := Nat.le_trans s.len hx.1
  keep i hi := (hx.2 i (Nat.lt_of_lt_of_le (s.low i hi) s.len) (h1 i hi)).trans (s.keep i hi)
  l := (hx.2 bl (get_lt s.l) h2).trans s.l
  own := s.own.ext hx h3
  nl := s.nl
  apart := s.apart
  low := s.low

/-- A new list in l's box. -/
theorem GS.store {I : Nat → Prop} {h0 h h1 : Heap} {bl : Nat} {lv lv' : Value} {cur cur' : List Int} (s : GS I h0 bl h lv cur) (hx : Ext (fun i => blkOf lv = some i) h h1) (ho : OwnSl 3 h1 lv' cur') (hb : blkOf lv' = blkOf lv ∨ ∃ b, blkOf lv' = some b ∧ h.length ≤ b) :
    GS I h0 bl (h1.set bl (.cells [lv'] 22 false)) lv' cur' where
  len := by have := s.len; have := hx.1; simp; omega
  keep i hi := by
    have hl := Nat.lt_of_lt_of_le (s.low i hi) s.len
    rw [List.getElem?_set_ne (fun h => s.nl (by rw [h]; exact hi)), hx.2 i hl (fun h => (s.apart i h).1 hi)]
    exact s.keep i hi
  l := get_set (Nat.lt_of_lt_of_le (get_lt s.l) hx.1) _
  own := ho.ext (S := fun i => i = bl) (Ext.set _ rfl) fun b hbb => by
    rintro rfl
    rcases hb with h | ⟨b', h, hl⟩
    · exact (s.apart _ (h ▸ hbb)).2 rfl
    · rw [h] at hbb; cases hbb; have := get_lt s.l; omega
  nl := s.nl
  apart b hbb := by
    rcases hb with h | ⟨b', h, hl⟩
    · exact s.apart b (h ▸ hbb)
    · rw [h] at hbb; cases hbb
      exact ⟨fun hi => by have := s.low _ hi; have := s.len; omega, fun he => by have := get_lt s.l; omega⟩
  low := s.low

/-- A run of the function literal under way: its boxes (left, the answer) stand at the end of the heap h that it found. -/
structure RS (I : Nat → Prop) (h0 : Heap) (bl : Nat) (h : Heap) (lv0 : Value) (left : Nat) (res : Bool) (h' : Heap) (lv : Value) (cur : List Int) : Prop where
  gs : GS I h0 bl h' lv cur
  low : h0.length ≤ h.length
  lt : bl < h.length
  bx : h'[h.length]? = some (.cells [vint left] 3 false)
  rs : h'[h.length + 1]? = some (.cells [.bool res] 4 false)
  ext : Ext (fun i => i = bl ∨ blkOf lv0 = some i) h h'
  blk : blkOf lv = blkOf lv0 ∨ ∃ b, blkOf lv = some b ∧ h.length ≤ b

section
variable {I : Nat → Prop} {h0 h h' h1 : Heap} {bl left : Nat} {lv0 lv lv' : Value} {cur cur' : List Int} {res : Bool}
theorem RS.of (s : GS I h0 bl h lv cur) : RS I h0 bl h lv left res (h ++ [.cells [vint left] 3 false] ++ [.cells [.bool res] 4 false]) lv cur where
  gs := by rw [List.append_assoc]; exact s.app _
  low := s.len
  lt := get_lt s.l
  bx := by simp
  rs := by simp
  ext := by rw [List.append_assoc]; exact Ext.app _ _ _
  blk := .inl rfl
/-- A step that keeps the boxes, and touches but the list. -/
theorem RS.go (s : RS I h0 bl h lv0 left res h' lv cur) (g : GS I h0 bl h1 lv' cur') (hx : Ext (fun i => i = bl ∨ blkOf lv = some i) h' h1) (hb : blkOf lv' = blkOf lv ∨ ∃ b, blkOf lv' = some b ∧ h'.length ≤ b) : RS I h0 bl h lv0 left res h1 lv' cur' where
  gs := g
  low := s.low
  lt := s.lt
  bx := by
    rw [hx.2 _ (get_lt s.bx) (by rintro (h | h); exact absurd s.lt (by omega); exact s.gs.own.notCells s.bx h)]; exact s.bx
  rs := by
    rw [hx.2 _ (get_lt s.rs) (by rintro (h | h); exact absurd s.lt (by omega); exact s.gs.own.notCells s.rs h)]; exact s.rs
  ext := ⟨Nat.le_trans s.ext.1 hx.1, fun i hi hs => by
    rw [hx.2 i (Nat.lt_of_lt_of_le hi s.ext.1), s.ext.2 i hi hs]
    rintro (rfl | h)
    · exact hs (.inl rfl)
    · rcases s.blk with h2 | ⟨b, h2, h3⟩
      · exact hs (.inr (h2 ▸ h))
      · rw [h2] at h; cases h; omega⟩
  blk := by
    have := s.ext.1
    rcases hb with h | ⟨b, h, h2⟩
    · rw [h]; exact s.blk
    · exact .inr ⟨b, h, by omega⟩
theorem RS.app (s : RS I h0 bl h lv0 left res h' lv cur) (g : Heap) : RS I h0 bl h lv0 left res (h' ++ g) lv cur := s.go (s.gs.app g) (Ext.app _ _ _) (.inl rfl)
/-- A block of no concern turns. -/
theorem RS.else (s : RS I h0 bl h lv0 left res h' lv cur) {j : Nat} {B : Blk} (hj : h.length + 2 ≤ j) (hl : blkOf lv ≠ some j) : RS I h0 bl h lv0 left res (h'.set j B) lv cur := by
  have hlen := s.low
  have hext := s.ext.1
  have hx : Ext (fun i => i = j) h' (h'.set j B) := Ext.set _ rfl
  have hbl := s.lt
  refine ⟨s.gs.ext hx (fun i hi he => by have := s.gs.low i hi; omega) (by omega) (fun b hb he => hl (he ▸ hb)), s.low, s.lt, by rw [List.getElem?_set_ne (by omega)]; exact s.bx, by rw [List.getElem?_set_ne (by omega)]; exact s.rs, ?_, s.blk⟩
  exact ⟨by simp; exact hext, fun i hi hs => by rw [List.getElem?_set_ne (by omega)]; exact s.ext.2 i hi hs⟩
theorem RS.store (s : RS I h0 bl h lv0 left res h' lv cur) (hx : Ext (fun i => blkOf lv = some i) h' h1) (ho : OwnSl 3 h1 lv' cur') (hb : blkOf lv' = blkOf lv ∨ ∃ b, blkOf lv' = some b ∧ h'.length ≤ b) :
    RS I h0 bl h lv0 left res (h1.set bl (.cells [lv'] 22 false)) lv' cur' :=
  s.go (s.gs.store hx ho hb) ((hx.mono fun _ h => .inr h).trans (Ext.set _ (.inl rfl))) hb
/-- The answer is set. -/
theorem RS.ans (s : RS I h0 bl h lv0 left res h' lv cur) (r : Bool) : RS I h0 bl h lv0 left r (h'.set (h.length + 1) (.cells [.bool r] 4 false)) lv cur := by
  have hx : Ext (fun i => i = h.length + 1) h' (h'.set (h.length + 1) (.cells [.bool r] 4 false)) := Ext.set _ rfl
  have hbl := s.lt
  have hlow := s.low
  refine ⟨s.gs.ext hx (fun i hi he => by have := s.gs.low i hi; omega) (by omega) (fun b hb he => s.gs.own.notCells s.rs (he ▸ hb)), s.low, s.lt, by rw [List.getElem?_set_ne (by omega)]; exact s.bx, get_set (get_lt s.rs) _, ?_, s.blk⟩
  exact ⟨by simp; exact s.ext.1, fun i hi hs => by rw [List.getElem?_set_ne (by omega)]; exact s.ext.2 i hi hs⟩
theorem RS.box (s : RS I h0 bl h lv0 left res h' lv cur) {i : Nat} {B : Blk} (hi : I i) (hb : h0[i]? = some B) : h'[i]? = some B := (s.gs.keep i hi).trans hb
end

theorem trn_at {xs : List Int} (h : trn xs = true) {i : Nat} (hi : i < xs.length) : 0 ≤ xs.getD i 0 ∧ xs.getD i 0 < 9223372036854775808 := by
  simp only [trn, Bool.and_eq_true, decide_eq_true_eq, List.all_eq_true, List.mem_range] at h
  have h2 := h.2 i hi
  rw [okAt, Bool.and_eq_true, Bool.and_eq_true, Bool.and_eq_true, decide_eq_true_eq, decide_eq_true_eq] at h2
  have := pow8 h.1.2
  exact ⟨h2.1.1.1, by have := h2.1.1.2; omega⟩

theorem lit1 {h : Heap} {x : Int} (K : Value → Heap → Prop) : buildSliceK prog h 22 1 [(0, vint x)] K = K (.slice (some ⟨h.length, 0, none⟩) 1 1) (h ++ [.ints [x] 3 false]) := by
  simp only [buildSliceK, el_22, zero_3, esz_3, reps, fillL, mkb, intsOf, notTuple, cellsOf, List.length_singleton, Nat.mul_one, Nat.zero_mul, Nat.zero_add]
  exact propext ⟨fun h => h.2.2.2, fun h => ⟨trivial, Nat.zero_lt_one, by decide, h⟩⟩

theorem grow_call [BitTab prog 1] {I : Nat → Prop} {h0 : Heap} {bl bs bi bt bg size : Nat} {isv tv : Value} {xs : List Int} {is : List Int → Bool} (hb : Boxes h0 bl bs bi bt bg size isv tv) (hI : I bs ∧ I bi ∧ I bt ∧ I bg ∧ ∀ b, blkOf tv = some b → I b)
    (ht : IntSl h0 tv xs) (hx : trn xs = true) (hsz : size ≤ xs.length) (his : IsOk I h0 isv is size xs.length) :
    ∀ (n : Nat) (cur : List Int) (left : Nat) (h : Heap) (lv : Value), GS I h0 bl h lv cur → left < 2 ^ xs.length → (∀ x ∈ cur, ∃ i : Nat, x = i ∧ i < xs.length) → cur.length ≤ size → left < n →
      ACall prog 92 [vint left, .pointer (some ⟨bl, 0, none⟩), .pointer (some ⟨bs, 0, none⟩), .pointer (some ⟨bi, 0, none⟩), .pointer (some ⟨bt, 0, none⟩), .pointer (some ⟨bg, 0, none⟩)] h fun r h' =>
        ∃ lv', (match grow xs size is n cur left with | none => r = .bool false ∧ GS I h0 bl h' lv' cur | some l => r = .bool true ∧ GS I h0 bl h' lv' l) ∧ Ext (fun i => i = bl ∨ blkOf lv = some i) h h' ∧ (blkOf lv' = blkOf lv ∨ ∃ b, blkOf lv' = some b ∧ h.length ≤ b) := by
  intro n
  induction n with
  | zero => intro cur left h lv gs hlt hcur hcl hn; omega
  | succ n ih =>
    intro cur left h lv gs hlt hcur hcl hn
    refine s92_call (by simp) ?_
    simp (maxSteps := 2000000) only [↓aw_region, ↓aw_skip, ↓aw_seq, ↓aw_block, ↓aw_exit, ↓aw_ret, ↓sops_nil, ↓sops_go, ↓dops_nil, ↓dopsX_nil, ↓dopsR_nil, ↓vdn, vup, extr_20, extr_21, extr_30, extr_31, extr_32, List.map_cons, List.map_nil, cond_true, cond_false, aop, aThen, aBlock, argEnv, ev, sput, sputO, binK, binI, unK, builtinK, pickK, Nat.reduceBEq, Nat.reduceAdd, Int.reduceBEq, Int.reduceBNe, Int.reduceLT, aPost, resK, tup, tyf, s92, ↓aw_region, boxK, allocK, cellsOf, Option.isSome_some, newPtr, List.length_append, List.length_singleton]
    have rs0 := RS.of (left := left) (res := false) gs
    generalize h ++ [.cells [vint left] 3 false] ++ [.cells [.bool false] 4 false] = h2 at rs0 ⊢
    have ld : ∀ (h2 : Heap) lv2 cur2 res2, RS I h0 bl h lv left res2 h2 lv2 cur2 → (∀ K, loadK prog h2 22 (.pointer (some ⟨bl, 0, none⟩)) K = K lv2) ∧ (∀ K, loadK prog h2 3 (.pointer (some ⟨bs, 0, none⟩)) K = K (vint size)) ∧ (∀ K, loadK prog h2 27 (.pointer (some ⟨bi, 0, none⟩)) K = K isv) ∧
        (∀ K, loadK prog h2 55 (.pointer (some ⟨bt, 0, none⟩)) K = K tv) ∧ (∀ K, loadK prog h2 79 (.pointer (some ⟨bg, 0, none⟩)) K = K (.func (.func 92) #[] #[.pointer (some ⟨bl, 0, none⟩), .pointer (some ⟨bs, 0, none⟩), .pointer (some ⟨bi, 0, none⟩), .pointer (some ⟨bt, 0, none⟩), .pointer (some ⟨bg, 0, none⟩)])) ∧
        (∀ K, loadK prog h2 3 (.pointer (some ⟨h.length, 0, none⟩)) K = K (vint left)) ∧ (∀ K, loadK prog h2 4 (.pointer (some ⟨h.length + 1, 0, none⟩)) K = K (.bool res2)) ∧ IntSl h2 tv xs := fun h2 lv2 cur2 res2 s =>
      ⟨fun K => load1 s.gs.l shp_22 K, fun K => load1 (s.box hI.1 hb.size) shp_3 K, fun K => load1 (s.box hI.2.1 hb.is) shp_27 K, fun K => load1 (s.box hI.2.2.1 hb.t) shp_55 K, fun K => load1 (s.box hI.2.2.2.1 hb.grow) shp_79 K, fun K => load1 s.bx shp_3 K, fun K => load1 s.rs shp_4 K, ht.same fun b hbb => s.gs.keep b (hI.2.2.2.2 b hbb)⟩
    obtain ⟨l1, l2, l3, l4, l5, l6, l7, ht2⟩ := ld h2 lv cur false rs0
    have hlen : cur.length ≤ 8 := by
      have : xs.length ≤ 8 := by simp only [trn, Bool.and_eq_true, decide_eq_true_eq] at hx; omega
      omega
    by_cases hc : cur.length = size
    · have hce : ((cur.length : Int) == size) = true := by simp [hc]
      obtain ⟨g, cap, rfl, hgo⟩ := his
      simp (maxSteps := 2000000) only [s92, ↓aw_region, ↓aw_skip, ↓aw_seq, ↓aw_block, ↓aw_exit, ↓aw_ret, ↓sops_nil, ↓sops_go, ↓dops_nil, ↓dopsX_nil, ↓dopsR_nil, ↓vdn, vup, extr_20, extr_21, extr_30, extr_31, extr_32, List.map_cons, List.map_nil, cond_true, cond_false, aop, aThen, aBlock, argEnv, ev, sput, sputO, binK, binI, unK, builtinK, pickK, Nat.reduceBEq, Nat.reduceAdd, Int.reduceBEq, Int.reduceBNe, Int.reduceLT, aPost, resK, tup, tyf, l1, l2, l3, rs0.gs.own.int.len, hce, callK, List.nil_append, List.toList_toArray]
      refine (hgo h2 rs0.gs.len rs0.gs.keep lv cur rs0.gs.own.int hc hcur).mono ?_
      rintro v h3 ⟨rfl, rfl⟩
      have rs1 := rs0.ans (is cur)
      obtain ⟨_, _, _, _, _, _, k7, _⟩ := ld _ lv cur (is cur) rs1
      simp (maxSteps := 2000000) only [s92, ↓aw_region, ↓aw_skip, ↓aw_seq, ↓aw_block, ↓aw_exit, ↓aw_ret, ↓sops_nil, ↓sops_go, ↓dops_nil, ↓dopsX_nil, ↓dopsR_nil, ↓vdn, vup, extr_20, extr_21, extr_30, extr_31, extr_32, List.map_cons, List.map_nil, cond_true, cond_false, aop, aThen, aBlock, argEnv, ev, sput, sputO, binK, binI, unK, builtinK, pickK, Nat.reduceBEq, Nat.reduceAdd, Int.reduceBEq, Int.reduceBNe, Int.reduceLT, aPost, resK, tup, tyf, storeB rs0.rs shp_4, k7]
      refine ⟨lv, ?_, rs1.ext, .inl rfl⟩
      simp only [grow, hc, if_true]
      cases his : is cur with
      | true => exact ⟨rfl, his ▸ rs1.gs⟩
      | false => exact ⟨rfl, his ▸ rs1.gs⟩
    · have hce : ((cur.length : Int) == size) = false := by simp; omega
      have hxl : xs.length ≤ 8 := by simp only [trn, Bool.and_eq_true, decide_eq_true_eq] at hx; omega
      have hpow : 2 ^ xs.length ≤ 2 ^ 8 := Nat.pow_le_pow_right (by decide) hxl
      have hleft : left < 2 ^ 63 := by omega
      simp (maxSteps := 2000000) only [s92, ↓aw_region, ↓aw_skip, ↓aw_seq, ↓aw_block, ↓aw_exit, ↓aw_ret, ↓sops_nil, ↓sops_go, ↓dops_nil, ↓dopsX_nil, ↓dopsR_nil, ↓vdn, vup, extr_20, extr_21, extr_30, extr_31, extr_32, List.map_cons, List.map_nil, cond_true, cond_false, aop, aThen, aBlock, argEnv, ev, sput, sputO, binK, binI, unK, builtinK, pickK, Nat.reduceBEq, Nat.reduceAdd, Int.reduceBEq, Int.reduceBNe, Int.reduceLT, aPost, resK, tup, tyf, l1, l2, l6, rs0.gs.own.int.len, hce, callK, List.nil_append, List.append_nil]
      refine players_call.mono ?_
      rintro v h3 ⟨rfl, rfl⟩
      simp (maxSteps := 2000000) only [s92, ↓aw_region, ↓aw_skip, ↓aw_seq, ↓aw_block, ↓aw_exit, ↓aw_ret, ↓sops_nil, ↓sops_go, ↓dops_nil, ↓dopsX_nil, ↓dopsR_nil, ↓vdn, vup, extr_20, extr_21, extr_30, extr_31, extr_32, List.map_cons, List.map_nil, cond_true, cond_false, aop, aThen, aBlock, argEnv, ev, sput, sputO, binK, binI, unK, builtinK, pickK, Nat.reduceBEq, Nat.reduceAdd, Int.reduceBEq, Int.reduceBNe, Int.reduceLT, aPost, resK, tup, tyf, newPtr]
      refine aw_hide fun Q hQ => ?_
      have hlow2 : h.length + 2 ≤ h2.length := by have := get_lt rs0.rs; omega
      have rs1 : RS I h0 bl h lv left false ((h2 ++ [Blk.cells [vint left] 3 false]).set h2.length Blk.dead) lv cur :=
        (rs0.app _).else hlow2 fun hb => by have := rs0.gs.own.lt hb; omega
      let F : Nat → Option (List Int) := fun i => if cur ≠ [] ∧ bitI (xs.getD (cur.getD (cur.length - 1) 0).toNat 0) i = false then none else grow xs size is n (cur ++ [(i : Int)]) (less left (2 ^ i))
      have hgrow : grow xs size is (n + 1) cur left = firstOf F (Am.bits left) := by simp only [grow, hc, if_false]; rfl
      refine aw_range bitIter (bx := h2.length) (s := left) (et := 3) rfl (get_new _ _) hleft (fun pre hk => (∀ y ∈ pre, F y = none) ∧ ∃ lv', RS I h0 bl h lv left false hk lv' cur) ⟨fun _ h => (by cases h), lv, rs1⟩ ?_ ?_
      · rintro pre x hk hpre ⟨hnone, lv2, rs⟩
        obtain ⟨hx64, hxb⟩ := mem_bits.1 (mem_pre hpre)
        have hxn : x < xs.length := by
          rcases Nat.lt_or_ge x xs.length with h | h
          · exact h
          · rw [Nat.testBit_lt_two_pow (Nat.lt_of_lt_of_le hlt (Nat.pow_le_pow_right (by decide) h))] at hxb; cases hxb
        have next : F x = none → ∀ y ∈ pre ++ [x], F y = none := fun hF y hy => by
          rcases List.mem_append.1 hy with h | h
          · exact hnone y h
          · rw [List.mem_singleton.1 h]; exact hF
        obtain ⟨k1, k2, k3, k4, k5, k6, k7, kt⟩ := ld hk lv2 cur false rs
        simp (maxSteps := 2000000) only [s92, ↓aw_region, ↓aw_skip, ↓aw_seq, ↓aw_block, ↓aw_exit, ↓aw_ret, ↓sops_nil, ↓sops_go, ↓dops_nil, ↓dopsX_nil, ↓dopsR_nil, ↓vdn, vup, extr_20, extr_21, extr_30, extr_31, extr_32, List.map_cons, List.map_nil, cond_true, cond_false, aop, aThen, aBlock, argEnv, ev, sput, sputO, binK, binI, unK, builtinK, pickK, Nat.reduceBEq, Nat.reduceAdd, Int.reduceBEq, Int.reduceBNe, Int.reduceLT, aPost, resK, tup, tyf, r92_0_a, r92_0_b]
        refine aw_drawX [(12, 4)] (by kernel_rfl) (by kernel_rfl) (by kernel_rfl) (by kernel_rfl) ?_
        have hsub : cur ≠ [] → subV .i64 cur.length 1 = ((cur.length - 1 : Nat) : Int) := fun h => by
          have := List.length_pos_iff.2 h
          rw [subV_id (by omega) (by omega)]; omega
        have goOn : (cur ≠ [] ∧ bitI (xs.getD (cur.getD (cur.length - 1) 0).toNat 0) x = false) = False → F x = grow xs size is n (cur ++ [(x : Int)]) (less left (2 ^ x)) := fun h => by simp only [F]; rw [if_neg (by rw [h]; exact id)]
        have hcur' : ∀ y ∈ cur ++ [(x : Int)], ∃ i : Nat, y = i ∧ i < xs.length := fun y hy => by
          rcases List.mem_append.1 hy with h | h
          · exact hcur y h
          · exact ⟨x, List.mem_singleton.1 h, hxn⟩
        have hshl : shlV .i64 1 x = 2 ^ x := shl1 (by omega)
        have hand : bitsV .andNot .i64 (left : Int) (2 ^ x) = ((less left (2 ^ x) : Nat) : Int) := by
          have := bitsV_andNot (a := left) (b := 2 ^ x) (by omega) (Nat.lt_of_lt_of_le (Nat.pow_lt_pow_right (by decide) (show x < 62 by omega)) (by decide))
          simpa using this
        have hend : ∀ {P1 : Prop}, (cur = [] → P1) → (∀ i : Nat, cur ≠ [] → cur.getD (cur.length - 1) 0 = i → i < xs.length → bitI (xs.getD i 0) x = true → P1) → (∀ i : Nat, cur ≠ [] → cur.getD (cur.length - 1) 0 = i → i < xs.length → bitI (xs.getD i 0) x = false → P1) → P1 := by
          intro P1 a b c
          by_cases he : cur = []
          · exact a he
          · have hpos := List.length_pos_iff.2 he
            obtain ⟨i, hi, hin⟩ := hcur (cur.getD (cur.length - 1) 0) (by rw [List.getD, List.getElem?_eq_getElem (by omega)]; exact List.getElem_mem _)
            cases hbt : bitI (xs.getD i 0) x with
            | true => exact b i he hi hin hbt
            | false => exact c i he hi hin hbt
        refine hend (fun he => ?_) (fun i he hi hin hbt => ?_) (fun i he hi hin hbt => ?_)
        rotate_left 2
        · have hpos := List.length_pos_iff.2 he
          obtain ⟨hb1, hb2⟩ := trn_at hx hin
          simp (maxSteps := 2000000) only [s92, ↓aw_region, ↓aw_skip, ↓aw_seq, ↓aw_block, ↓aw_exit, ↓aw_ret, ↓sops_nil, ↓sops_go, ↓dops_nil, ↓dopsX_nil, ↓dopsR_nil, ↓vdn, vup, extr_20, extr_21, extr_30, extr_31, extr_32, List.map_cons, List.map_nil, cond_true, cond_false, aop, aThen, aBlock, argEnv, ev, sput, sputO, binK, binI, unK, builtinK, pickK, Nat.reduceBEq, Nat.reduceAdd, Int.reduceBEq, Int.reduceBNe, Int.reduceLT, aPost, resK, tup, tyf, k1, k4, rs.gs.own.int.len, Int.natCast_pos.2 hpos, hsub he, rs.gs.own.int.idx el_22 esz_3 (show cur.length - 1 < cur.length by omega), rs.gs.own.int.load shp_3 (show cur.length - 1 < cur.length by omega), hi, callK, List.nil_append, List.append_nil, gt_iff_lt]
          refine (beats_call kt hin hb1 hb2).mono ?_
          rintro v h3 ⟨rfl, rfl⟩
          simp (maxSteps := 2000000) only [s92, ↓aw_region, ↓aw_skip, ↓aw_seq, ↓aw_block, ↓aw_exit, ↓aw_ret, ↓sops_nil, ↓sops_go, ↓dops_nil, ↓dopsX_nil, ↓dopsR_nil, ↓vdn, vup, extr_20, extr_21, extr_30, extr_31, extr_32, List.map_cons, List.map_nil, cond_true, cond_false, aop, aThen, aBlock, argEnv, ev, sput, sputO, binK, binI, unK, builtinK, pickK, Nat.reduceBEq, Nat.reduceAdd, Int.reduceBEq, Int.reduceBNe, Int.reduceLT, aPost, resK, tup, tyf, hbt]
          exact ⟨next (by simp only [F]; rw [if_pos ⟨he, by rw [hi]; exact hbt⟩]), lv2, rs⟩
        · have hF := goOn (by simp [he])
          have hl0 : ((cur.length : Nat) : Int) = 0 := by rw [he]; rfl
          simp (maxSteps := 2000000) only [s92, ↓aw_region, ↓aw_skip, ↓aw_seq, ↓aw_block, ↓aw_exit, ↓aw_ret, ↓sops_nil, ↓sops_go, ↓dops_nil, ↓dopsX_nil, ↓dopsR_nil, ↓vdn, vup, extr_20, extr_21, extr_30, extr_31, extr_32, List.map_cons, List.map_nil, cond_true, cond_false, aop, aThen, aBlock, argEnv, ev, sput, sputO, binK, binI, unK, builtinK, pickK, Nat.reduceBEq, Nat.reduceAdd, Int.reduceBEq, Int.reduceBNe, Int.reduceLT, aPost, resK, tup, tyf, k1, rs.gs.own.int.len, hl0, Int.lt_irrefl, gt_iff_lt, lit1]
          have hx1 : Ext (fun _ => False) hk (hk ++ [.ints [(x : Int)] 3 false]) := Ext.app _ _ _
          refine (rs.gs.own.ext hx1 fun _ _ h => h).append app_22_22 (by omega) (get_new _ _) ?_
          intro lv3 h4 ho4 hx4 hb4
          have hx5 : Ext (fun i => blkOf lv2 = some i) hk h4 := (hx1.mono fun _ h => h.elim).trans hx4
          have hb5 : blkOf lv3 = blkOf lv2 ∨ ∃ b, blkOf lv3 = some b ∧ hk.length ≤ b := by
            rcases hb4 with h | ⟨b, h, hl⟩
            · exact .inl h
            · exact .inr ⟨b, h, by simp at hl; omega⟩
          have hbl4 : h4[bl]? = some (.cells [lv2] 22 false) := (hx5.2 bl (get_lt rs.gs.l) (fun h => (rs.gs.apart _ h).2 rfl)).trans rs.gs.l
          have rs3 := rs.store hx5 ho4 hb5
          obtain ⟨k1, k2, k3, k4, k5, k6, k7, kt⟩ := ld _ _ _ _ rs3
          simp (maxSteps := 2000000) only [s92, ↓aw_region, ↓aw_skip, ↓aw_seq, ↓aw_block, ↓aw_exit, ↓aw_ret, ↓sops_nil, ↓sops_go, ↓dops_nil, ↓dopsX_nil, ↓dopsR_nil, ↓vdn, vup, extr_20, extr_21, extr_30, extr_31, extr_32, List.map_cons, List.map_nil, cond_true, cond_false, aop, aThen, aBlock, argEnv, ev, sput, sputO, binK, binI, unK, builtinK, pickK, Nat.reduceBEq, Nat.reduceAdd, Int.reduceBEq, Int.reduceBNe, Int.reduceLT, aPost, resK, tup, tyf, store1 hbl4 shp_22 ho4.one]
          refine aw_drawX [(5, 4)] (by kernel_rfl) (by kernel_rfl) (by kernel_rfl) (by kernel_rfl) ?_
          simp (maxSteps := 2000000) only [s92, ↓aw_region, ↓aw_skip, ↓aw_seq, ↓aw_block, ↓aw_exit, ↓aw_ret, ↓sops_nil, ↓sops_go, ↓dops_nil, ↓dopsX_nil, ↓dopsR_nil, ↓vdn, vup, extr_20, extr_21, extr_30, extr_31, extr_32, List.map_cons, List.map_nil, cond_true, cond_false, aop, aThen, aBlock, argEnv, ev, sput, sputO, binK, binI, unK, builtinK, pickK, Nat.reduceBEq, Nat.reduceAdd, Int.reduceBEq, Int.reduceBNe, Int.reduceLT, aPost, resK, tup, tyf, k5, k6, Int.natCast_nonneg, hshl, hand, callK, List.nil_append, List.append_nil, List.toList_toArray, List.cons_append]
          refine (ih (cur ++ [(x : Int)]) (less left (2 ^ x)) _ lv3 rs3.gs (less_lt hlt) hcur' (by simp; omega) (Nat.lt_of_lt_of_le (less_bit_lt hxb) (by omega))).mono ?_
          rintro v h6 ⟨lv4, hres, hx6, hb6⟩
          rw [← hF] at hres
          cases hg : F x with
          | none =>
            rw [hg] at hres
            obtain ⟨rfl, gs6⟩ := hres
            have rs6 := rs3.go gs6 hx6 hb6
            obtain ⟨k1, k2, k3, k4, k5, k6, k7, kt⟩ := ld _ _ _ _ rs6
            have hsub6 : subV .i64 ((cur ++ [(x : Int)]).length : Nat) 1 = (cur.length : Int) := by
              rw [List.length_append, List.length_singleton, subV_id (by omega) (by omega)]; omega
            simp (maxSteps := 2000000) only [s92, ↓aw_region, ↓aw_skip, ↓aw_seq, ↓aw_block, ↓aw_exit, ↓aw_ret, ↓sops_nil, ↓sops_go, ↓dops_nil, ↓dopsX_nil, ↓dopsR_nil, ↓vdn, vup, extr_20, extr_21, extr_30, extr_31, extr_32, List.map_cons, List.map_nil, cond_true, cond_false, aop, aThen, aBlock, argEnv, ev, sput, sputO, binK, binI, unK, builtinK, pickK, Nat.reduceBEq, Nat.reduceAdd, Int.reduceBEq, Int.reduceBNe, Int.reduceLT, aPost, resK, tup, tyf, k1, rs6.gs.own.int.len, hsub6]
            refine rs6.gs.own.cut el_22 esz_3 ?_
            intro lv5 ho5 hb7
            simp (maxSteps := 2000000) only [s92, ↓aw_region, ↓aw_skip, ↓aw_seq, ↓aw_block, ↓aw_exit, ↓aw_ret, ↓sops_nil, ↓sops_go, ↓dops_nil, ↓dopsX_nil, ↓dopsR_nil, ↓vdn, vup, extr_20, extr_21, extr_30, extr_31, extr_32, List.map_cons, List.map_nil, cond_true, cond_false, aop, aThen, aBlock, argEnv, ev, sput, sputO, binK, binI, unK, builtinK, pickK, Nat.reduceBEq, Nat.reduceAdd, Int.reduceBEq, Int.reduceBNe, Int.reduceLT, aPost, resK, tup, tyf, store1 rs6.gs.l shp_22 ho5.one]
            exact ⟨next hg, lv5, rs6.store (Ext.refl _ _) ho5 (.inl hb7)⟩
          | some l =>
            rw [hg] at hres
            obtain ⟨rfl, gs6⟩ := hres
            have rs6 := rs3.go gs6 hx6 hb6
            have rs7 := rs6.ans true
            obtain ⟨_, _, _, _, _, _, k7, _⟩ := ld _ _ _ _ rs7
            simp (maxSteps := 2000000) only [s92, ↓aw_region, ↓aw_skip, ↓aw_seq, ↓aw_block, ↓aw_exit, ↓aw_ret, ↓sops_nil, ↓sops_go, ↓dops_nil, ↓dopsX_nil, ↓dopsR_nil, ↓vdn, vup, extr_20, extr_21, extr_30, extr_31, extr_32, List.map_cons, List.map_nil, cond_true, cond_false, aop, aThen, aBlock, argEnv, ev, sput, sputO, binK, binI, unK, builtinK, pickK, Nat.reduceBEq, Nat.reduceAdd, Int.reduceBEq, Int.reduceBNe, Int.reduceLT, aPost, resK, tup, tyf, storeB rs6.rs shp_4]
            refine hQ _ _ _ ?_
            simp (maxSteps := 2000000) only [s92, ↓aw_region, ↓aw_skip, ↓aw_seq, ↓aw_block, ↓aw_exit, ↓aw_ret, ↓sops_nil, ↓sops_go, ↓dops_nil, ↓dopsX_nil, ↓dopsR_nil, ↓vdn, vup, extr_20, extr_21, extr_30, extr_31, extr_32, List.map_cons, List.map_nil, cond_true, cond_false, aop, aThen, aBlock, argEnv, ev, sput, sputO, binK, binI, unK, builtinK, pickK, Nat.reduceBEq, Nat.reduceAdd, Int.reduceBEq, Int.reduceBNe, Int.reduceLT, aPost, resK, tup, tyf, k7]
            refine ⟨lv4, ?_, rs7.ext, rs7.blk⟩
            rw [hgrow, firstOf_some pre hnone hg hpre]
            exact rs7.gs
        · have hpos := List.length_pos_iff.2 he
          obtain ⟨hb1, hb2⟩ := trn_at hx hin
          have hF := goOn (eq_false fun h => by rw [hi] at h; rw [Int.toNat_natCast, hbt] at h; cases h.2)
          simp (maxSteps := 2000000) only [s92, ↓aw_region, ↓aw_skip, ↓aw_seq, ↓aw_block, ↓aw_exit, ↓aw_ret, ↓sops_nil, ↓sops_go, ↓dops_nil, ↓dopsX_nil, ↓dopsR_nil, ↓vdn, vup, extr_20, extr_21, extr_30, extr_31, extr_32, List.map_cons, List.map_nil, cond_true, cond_false, aop, aThen, aBlock, argEnv, ev, sput, sputO, binK, binI, unK, builtinK, pickK, Nat.reduceBEq, Nat.reduceAdd, Int.reduceBEq, Int.reduceBNe, Int.reduceLT, aPost, resK, tup, tyf, k1, k4, rs.gs.own.int.len, Int.natCast_pos.2 hpos, hsub he, rs.gs.own.int.idx el_22 esz_3 (show cur.length - 1 < cur.length by omega), rs.gs.own.int.load shp_3 (show cur.length - 1 < cur.length by omega), hi, callK, List.nil_append, List.append_nil, gt_iff_lt]
          refine (beats_call kt hin hb1 hb2).mono ?_
          rintro v h3 ⟨rfl, rfl⟩
          simp (maxSteps := 2000000) only [s92, ↓aw_region, ↓aw_skip, ↓aw_seq, ↓aw_block, ↓aw_exit, ↓aw_ret, ↓sops_nil, ↓sops_go, ↓dops_nil, ↓dopsX_nil, ↓dopsR_nil, ↓vdn, vup, extr_20, extr_21, extr_30, extr_31, extr_32, List.map_cons, List.map_nil, cond_true, cond_false, aop, aThen, aBlock, argEnv, ev, sput, sputO, binK, binI, unK, builtinK, pickK, Nat.reduceBEq, Nat.reduceAdd, Int.reduceBEq, Int.reduceBNe, Int.reduceLT, aPost, resK, tup, tyf, hbt, k1, lit1]
          have hx1 : Ext (fun _ => False) h3 (h3 ++ [.ints [(x : Int)] 3 false]) := Ext.app _ _ _
          refine (rs.gs.own.ext hx1 fun _ _ h => h).append app_22_22 (by omega) (get_new _ _) ?_
          intro lv3 h4 ho4 hx4 hb4
          have hx5 : Ext (fun i => blkOf lv2 = some i) h3 h4 := (hx1.mono fun _ h => h.elim).trans hx4
          have hb5 : blkOf lv3 = blkOf lv2 ∨ ∃ b, blkOf lv3 = some b ∧ h3.length ≤ b := by
            rcases hb4 with h | ⟨b, h, hl⟩
            · exact .inl h
            · exact .inr ⟨b, h, by simp at hl; omega⟩
          have hbl4 : h4[bl]? = some (.cells [lv2] 22 false) := (hx5.2 bl (get_lt rs.gs.l) (fun h => (rs.gs.apart _ h).2 rfl)).trans rs.gs.l
          have rs3 := rs.store hx5 ho4 hb5
          obtain ⟨k1, k2, k3, k4, k5, k6, k7, kt⟩ := ld _ _ _ _ rs3
          simp (maxSteps := 2000000) only [s92, ↓aw_region, ↓aw_skip, ↓aw_seq, ↓aw_block, ↓aw_exit, ↓aw_ret, ↓sops_nil, ↓sops_go, ↓dops_nil, ↓dopsX_nil, ↓dopsR_nil, ↓vdn, vup, extr_20, extr_21, extr_30, extr_31, extr_32, List.map_cons, List.map_nil, cond_true, cond_false, aop, aThen, aBlock, argEnv, ev, sput, sputO, binK, binI, unK, builtinK, pickK, Nat.reduceBEq, Nat.reduceAdd, Int.reduceBEq, Int.reduceBNe, Int.reduceLT, aPost, resK, tup, tyf, store1 hbl4 shp_22 ho4.one]
          refine aw_drawX [(5, 4)] (by kernel_rfl) (by kernel_rfl) (by kernel_rfl) (by kernel_rfl) ?_
          simp (maxSteps := 2000000) only [s92, ↓aw_region, ↓aw_skip, ↓aw_seq, ↓aw_block, ↓aw_exit, ↓aw_ret, ↓sops_nil, ↓sops_go, ↓dops_nil, ↓dopsX_nil, ↓dopsR_nil, ↓vdn, vup, extr_20, extr_21, extr_30, extr_31, extr_32, List.map_cons, List.map_nil, cond_true, cond_false, aop, aThen, aBlock, argEnv, ev, sput, sputO, binK, binI, unK, builtinK, pickK, Nat.reduceBEq, Nat.reduceAdd, Int.reduceBEq, Int.reduceBNe, Int.reduceLT, aPost, resK, tup, tyf, k5, k6, Int.natCast_nonneg, hshl, hand, callK, List.nil_append, List.append_nil, List.toList_toArray, List.cons_append]
          refine (ih (cur ++ [(x : Int)]) (less left (2 ^ x)) _ lv3 rs3.gs (less_lt hlt) hcur' (by simp; omega) (Nat.lt_of_lt_of_le (less_bit_lt hxb) (by omega))).mono ?_
          rintro v h6 ⟨lv4, hres, hx6, hb6⟩
          rw [← hF] at hres
          cases hg : F x with
          | none =>
            rw [hg] at hres
            obtain ⟨rfl, gs6⟩ := hres
            have rs6 := rs3.go gs6 hx6 hb6
            obtain ⟨k1, k2, k3, k4, k5, k6, k7, kt⟩ := ld _ _ _ _ rs6
            have hsub6 : subV .i64 ((cur ++ [(x : Int)]).length : Nat) 1 = (cur.length : Int) := by
              rw [List.length_append, List.length_singleton, subV_id (by omega) (by omega)]; omega
            simp (maxSteps := 2000000) only [s92, ↓aw_region, ↓aw_skip, ↓aw_seq, ↓aw_block, ↓aw_exit, ↓aw_ret, ↓sops_nil, ↓sops_go, ↓dops_nil, ↓dopsX_nil, ↓dopsR_nil, ↓vdn, vup, extr_20, extr_21, extr_30, extr_31, extr_32, List.map_cons, List.map_nil, cond_true, cond_false, aop, aThen, aBlock, argEnv, ev, sput, sputO, binK, binI, unK, builtinK, pickK, Nat.reduceBEq, Nat.reduceAdd, Int.reduceBEq, Int.reduceBNe, Int.reduceLT, aPost, resK, tup, tyf, k1, rs6.gs.own.int.len, hsub6]
            refine rs6.gs.own.cut el_22 esz_3 ?_
            intro lv5 ho5 hb7
            simp (maxSteps := 2000000) only [s92, ↓aw_region, ↓aw_skip, ↓aw_seq, ↓aw_block, ↓aw_exit, ↓aw_ret, ↓sops_nil, ↓sops_go, ↓dops_nil, ↓dopsX_nil, ↓dopsR_nil, ↓vdn, vup, extr_20, extr_21, extr_30, extr_31, extr_32, List.map_cons, List.map_nil, cond_true, cond_false, aop, aThen, aBlock, argEnv, ev, sput, sputO, binK, binI, unK, builtinK, pickK, Nat.reduceBEq, Nat.reduceAdd, Int.reduceBEq, Int.reduceBNe, Int.reduceLT, aPost, resK, tup, tyf, store1 rs6.gs.l shp_22 ho5.one]
            exact ⟨next hg, lv5, rs6.store (Ext.refl _ _) ho5 (.inl hb7)⟩
          | some l =>
            rw [hg] at hres
            obtain ⟨rfl, gs6⟩ := hres
            have rs6 := rs3.go gs6 hx6 hb6
            have rs7 := rs6.ans true
            obtain ⟨_, _, _, _, _, _, k7, _⟩ := ld _ _ _ _ rs7
            simp (maxSteps := 2000000) only [s92, ↓aw_region, ↓aw_skip, ↓aw_seq, ↓aw_block, ↓aw_exit, ↓aw_ret, ↓sops_nil, ↓sops_go, ↓dops_nil, ↓dopsX_nil, ↓dopsR_nil, ↓vdn, vup, extr_20, extr_21, extr_30, extr_31, extr_32, List.map_cons, List.map_nil, cond_true, cond_false, aop, aThen, aBlock, argEnv, ev, sput, sputO, binK, binI, unK, builtinK, pickK, Nat.reduceBEq, Nat.reduceAdd, Int.reduceBEq, Int.reduceBNe, Int.reduceLT, aPost, resK, tup, tyf, storeB rs6.rs shp_4]
            refine hQ _ _ _ ?_
            simp (maxSteps := 2000000) only [s92, ↓aw_region, ↓aw_skip, ↓aw_seq, ↓aw_block, ↓aw_exit, ↓aw_ret, ↓sops_nil, ↓sops_go, ↓dops_nil, ↓dopsX_nil, ↓dopsR_nil, ↓vdn, vup, extr_20, extr_21, extr_30, extr_31, extr_32, List.map_cons, List.map_nil, cond_true, cond_false, aop, aThen, aBlock, argEnv, ev, sput, sputO, binK, binI, unK, builtinK, pickK, Nat.reduceBEq, Nat.reduceAdd, Int.reduceBEq, Int.reduceBNe, Int.reduceLT, aPost, resK, tup, tyf, k7]
            refine ⟨lv4, ?_, rs7.ext, rs7.blk⟩
            rw [hgrow, firstOf_some pre hnone hg hpre]
            exact rs7.gs
      · rintro hk ⟨hnone, lv2, rs⟩
        have rs2 := rs.ans false
        obtain ⟨_, _, _, _, _, _, k7, _⟩ := ld _ _ _ _ rs2
        refine hQ _ _ _ ?_
        simp (maxSteps := 2000000) only [s92, ↓aw_region, ↓aw_skip, ↓aw_seq, ↓aw_block, ↓aw_exit, ↓aw_ret, ↓sops_nil, ↓sops_go, ↓dops_nil, ↓dopsX_nil, ↓dopsR_nil, ↓vdn, vup, extr_20, extr_21, extr_30, extr_31, extr_32, List.map_cons, List.map_nil, cond_true, cond_false, aop, aThen, aBlock, argEnv, ev, sput, sputO, binK, binI, unK, builtinK, pickK, Nat.reduceBEq, Nat.reduceAdd, Int.reduceBEq, Int.reduceBNe, Int.reduceLT, aPost, resK, tup, tyf, storeB rs.rs shp_4, k7]
        refine ⟨lv2, ?_, rs2.ext, rs2.blk⟩
        rw [hgrow, firstOf_none hnone]
        exact rs2.gs
end Go.Proofs.Tryd.Am

namespace Go.Proofs.Tryd.Am
open Go.Am

set_option maxRecDepth 100000 in
theorem clone_call [Tabs prog] {h : Heap} {v : Value} {xs : List Int} (hv : IntSl h v xs) (hl : xs.length < 1099511627776) : ACall prog 46 [v] h fun r h' => IntSl h' r xs ∧ ∃ g, h' = h ++ g := by
  refine s46_call (by simp) ?_
  have hv' := hv
  rcases hv with ⟨rfl, rfl⟩ | ⟨b, o, sp, cap, c, e, ro, rfl, hc, hb, hx⟩
  · simp (maxSteps := 2000000) only [s46, ↓aw_region, ↓aw_skip, ↓aw_seq, ↓aw_block, ↓aw_exit, ↓aw_ret, ↓sops_nil, ↓sops_go, ↓dops_nil, ↓dopsX_nil, ↓dopsR_nil, ↓vdn, vup, extr_20, extr_21, extr_30, extr_31, extr_32, List.map_cons, List.map_nil, cond_true, cond_false, aop, aThen, aBlock, argEnv, ev, sput, sputO, binK, binI, unK, builtinK, pickK, Nat.reduceBEq, Nat.reduceAdd, Int.reduceBEq, Int.reduceBNe, Int.reduceLT, aPost, resK, tup, tyf, Option.isSome_some]
    exact ⟨.inl ⟨rfl, rfl⟩, [], by rw [List.append_nil]⟩
  · simp (maxSteps := 2000000) only [s46, ↓aw_region, ↓aw_skip, ↓aw_seq, ↓aw_block, ↓aw_exit, ↓aw_ret, ↓sops_nil, ↓sops_go, ↓dops_nil, ↓dopsX_nil, ↓dopsR_nil, ↓vdn, vup, extr_20, extr_21, extr_30, extr_31, extr_32, List.map_cons, List.map_nil, cond_true, cond_false, aop, aThen, aBlock, argEnv, ev, sput, sputO, binK, binI, unK, builtinK, pickK, Nat.reduceBEq, Nat.reduceAdd, Int.reduceBEq, Int.reduceBNe, Int.reduceLT, aPost, resK, tup, tyf, Option.isSome_some]
    simp only [buildSliceK, el_22, zero_3, esz_3, reps, fillL, mkb, intsOf]
    refine And.intro rfl (And.intro Nat.zero_lt_one (And.intro (Nat.zero_le _) ?_))
    refine (hv'.grow [.ints [] 3 false]).copy app_22_22 hl (by rw [List.getElem?_append_right (Nat.le_refl _)]; simp) ?_
    intro r g hr _
    exact ⟨hr, _, List.append_assoc _ _ _⟩

theorem min11 (n : Nat) : (if (11 : Int) < n then 11 else (n : Int)) = ((min n 11 : Nat) : Int) := by split <;> omega

theorem list_call [Tabs prog] {h : Heap} {v : Value} {xs : List Int} (hv : IntSl h v xs) (hl : xs.length < 9223372036854775808) : ACall prog 19 [v] h fun r h' => IntSl h' r (xs.take 11) ∧ ∃ g, h' = h ++ g := by
  refine s19_call (by simp) ?_
  simp (maxSteps := 2000000) only [s19, ↓aw_region, ↓aw_skip, ↓aw_seq, ↓aw_block, ↓aw_exit, ↓aw_ret, ↓sops_nil, ↓sops_go, ↓dops_nil, ↓dopsX_nil, ↓dopsR_nil, ↓vdn, vup, extr_20, extr_21, extr_30, extr_31, extr_32, List.map_cons, List.map_nil, cond_true, cond_false, aop, aThen, aBlock, argEnv, ev, sput, sputO, binK, binI, unK, builtinK, pickK, Nat.reduceBEq, Nat.reduceAdd, Int.reduceBEq, Int.reduceBNe, Int.reduceLT, aPost, resK, tup, tyf, hv.len, mmK, Bool.false_eq_true, if_false, gt_iff_lt, min11, Option.map_none, Option.map_some]
  refine hv.pre el_22 esz_3 (Nat.min_le_left _ _) ?_
  intro v' hv'
  have e : xs.take (min xs.length 11) = xs.take 11 := by
    by_cases h : xs.length ≤ 11
    · rw [Nat.min_eq_left h, List.take_length, List.take_of_length_le h]
    · rw [Nat.min_eq_right (by omega)]
  rw [e] at hv'
  simp (maxSteps := 2000000) only [↓aw_region, ↓aw_skip, ↓aw_seq, ↓aw_block, ↓aw_exit, ↓aw_ret, ↓sops_nil, ↓sops_go, ↓dops_nil, ↓dopsX_nil, ↓dopsR_nil, ↓vdn, vup, extr_20, extr_21, extr_30, extr_31, extr_32, List.map_cons, List.map_nil, cond_true, cond_false, aop, aThen, aBlock, argEnv, ev, sput, sputO, binK, binI, unK, builtinK, pickK, Nat.reduceBEq, Nat.reduceAdd, Int.reduceBEq, Int.reduceBNe, Int.reduceLT, aPost, resK, tup, tyf, callK, List.nil_append, List.append_nil]
  exact clone_call hv' (by simp; omega)
end Go.Proofs.Tryd.Am

namespace Go.Proofs.Tryd.Am
open Go.Am
set_option maxRecDepth 100000

/-- The first way of a length through players of a tournament. -/
def find (xs : List Int) (size : Nat) (is : List Int → Bool) : Option (List Int) := grow xs size is (2 ^ xs.length) [] (2 ^ xs.length - 1)

/-- What the closure asked at a whole way answers, on every later heap. -/
def AskOk [Tabs prog] (h : Heap) (isv : Value) (is : List Int → Bool) (size n : Nat) : Prop :=
  ∃ g cap, isv = .func (.func g) #[] cap ∧ ∀ h', Ext (fun _ => False) h h' → ∀ v l, IntSl h' v l → l.length = size → (∀ x ∈ l, ∃ i : Nat, x = i ∧ i < n) → APure prog g ([v] ++ cap.toList) h' (.bool (is l))

theorem search_call [BitTab prog 1] {h : Heap} {tv isv : Value} {xs : List Int} {is : List Int → Bool} {size : Nat} (ht : IntSl h tv xs) (hx : trn xs = true) (hsz : size ≤ xs.length) (his : AskOk h isv is size xs.length) :
    ACall prog 57 [tv, vint size, isv] h fun r h' => Ext (fun _ => False) h h' ∧ (match find xs size is with | none => r = .slice none 0 0 | some l => OwnSl 3 h' r l) := by
  have hxl : xs.length ≤ 8 := by simp only [trn, Bool.and_eq_true, decide_eq_true_eq] at hx; omega
  have hpow : 2 ^ xs.length ≤ 2 ^ 8 := Nat.pow_le_pow_right (by decide) hxl
  have hpos := Nat.two_pow_pos xs.length
  obtain ⟨g, cap, rfl, hgo⟩ := his
  refine s57_call (by simp) ?_
  obtain ⟨tp, tl, tc, rfl⟩ : ∃ p l c, tv = .slice p l c := by
    rcases ht with ⟨rfl, _⟩ | ⟨b, o, sp, cap, c, e, ro, rfl, _⟩
    · exact ⟨_, _, _, rfl⟩
    · exact ⟨_, _, _, rfl⟩
  have hall := fun (h' : Heap) (ht' : IntSl h' (.slice tp tl tc) xs) => all_call ht' hxl
  generalize htv : Value.slice tp tl tc = tv at *
  simp (maxSteps := 2000000) only [s57, ↓aw_region, ↓aw_skip, ↓aw_seq, ↓aw_block, ↓aw_exit, ↓aw_ret, ↓sops_nil, ↓sops_go, ↓dops_nil, ↓dopsX_nil, ↓dopsR_nil, ↓vdn, vup, extr_20, extr_21, extr_30, extr_31, extr_32, List.map_cons, List.map_nil, cond_true, cond_false, aop, aThen, aBlock, argEnv, ev, sput, sputO, binK, binI, unK, builtinK, pickK, Nat.reduceBEq, Nat.reduceAdd, Int.reduceBEq, Int.reduceBNe, Int.reduceLT, aPost, resK, tup, tyf, boxK, allocK, cellsOf, Option.isSome_some, newPtr, List.length_append, List.length_singleton]
  subst htv
  simp only [true_and, List.map_toArray, List.map_cons, List.map_nil, ev, sget, Nat.reduceBEq, cond_true, cond_false, Nat.add_assoc, Nat.reduceAdd]
  rw [storeF (v := .nilFunc) (e := 79) (by simp) shp_79]
  generalize htv : Value.slice tp tl tc = tv at *
  obtain ⟨H, hH⟩ : ∃ H, H = h ++ [Blk.cells [tv] 55 false] ++ [Blk.cells [vint size] 3 false] ++ [Blk.cells [Value.func (Fn.func g) #[] cap] 27 false] ++ [Blk.cells [Value.slice none 0 0] 22 false] ++ [Blk.cells [Value.nilFunc] 79 false] := ⟨_, rfl⟩
  rw [← hH]
  have hlen : H.length = h.length + 5 := by rw [hH]; simp
  obtain ⟨G, hG⟩ : ∃ G, G = H.set (h.length + 4) (Blk.cells [Value.func (Fn.func 92) #[] #[Value.pointer (some ⟨h.length + 3, 0, none⟩), Value.pointer (some ⟨h.length + 1, 0, none⟩), Value.pointer (some ⟨h.length + 2, 0, none⟩), Value.pointer (some ⟨h.length, 0, none⟩), Value.pointer (some ⟨h.length + 4, 0, none⟩)]] 79 false) := ⟨_, rfl⟩
  rw [← hG]
  have hlG : G.length = h.length + 5 := by rw [hG]; simp [hlen]
  have hold : ∀ i, i < h.length → G[i]? = h[i]? := fun i hi => by rw [hG, List.getElem?_set_ne (by omega), hH]; simp only [List.append_assoc]; exact List.getElem?_append_left hi
  have hExt : Ext (fun _ => False) h G := ⟨by omega, fun i hi _ => hold i hi⟩
  have b0 : G[h.length]? = some (.cells [tv] 55 false) := by rw [hG, List.getElem?_set_ne (by omega), hH]; simp
  have b1 : G[h.length + 1]? = some (.cells [vint size] 3 false) := by rw [hG, List.getElem?_set_ne (by omega), hH]; simp
  have b2 : G[h.length + 2]? = some (.cells [.func (.func g) #[] cap] 27 false) := by rw [hG, List.getElem?_set_ne (by omega), hH]; simp
  have b3 : G[h.length + 3]? = some (.cells [.slice none 0 0] 22 false) := by rw [hG, List.getElem?_set_ne (by omega), hH]; simp
  have b4 : G[h.length + 4]? = some (.cells [Value.func (Fn.func 92) #[] #[Value.pointer (some ⟨h.length + 3, 0, none⟩), Value.pointer (some ⟨h.length + 1, 0, none⟩), Value.pointer (some ⟨h.length + 2, 0, none⟩), Value.pointer (some ⟨h.length, 0, none⟩), Value.pointer (some ⟨h.length + 4, 0, none⟩)]] 79 false) := by rw [hG]; exact get_set (by omega) _
  have htG : IntSl G tv xs := ht.same fun b hb => hold b (ht.lt hb)
  let I : Nat → Prop := fun i => i < h.length + 5 ∧ i ≠ h.length + 3
  have gs0 : GS I G (h.length + 3) G (.slice none 0 0) [] := ⟨Nat.le_refl _, fun _ _ => rfl, b3, .inl ⟨rfl, rfl⟩, fun h => h.2 rfl, fun b hb => (by cases hb), fun i hi => by have := hi.1; omega⟩
  have grow := grow_call (I := I) (h0 := G) (bl := h.length + 3) (bs := h.length + 1) (bi := h.length + 2) (bt := h.length) (bg := h.length + 4) (size := size) (isv := .func (.func g) #[] cap) (tv := tv) (xs := xs) (is := is)
    ⟨b1, b2, b0, b4⟩ ⟨⟨by omega, by omega⟩, ⟨by omega, by omega⟩, ⟨by omega, by omega⟩, ⟨by omega, by omega⟩, fun b hb => ⟨by have := ht.lt hb; omega, by have := ht.lt hb; omega⟩⟩ htG hx hsz
    ⟨g, cap, rfl, fun h' hl hi v l hv hll hr => hgo h' ⟨by omega, fun i hi2 _ => (hi i ⟨by omega, by omega⟩).trans (hold i hi2)⟩ v l hv hll hr⟩
    (2 ^ xs.length) [] (2 ^ xs.length - 1) G (.slice none 0 0) gs0 (by omega) (fun _ h => by cases h) (Nat.zero_le _) (by omega)
  refine aw_drawX [(2, 1), (3, 4)] (by kernel_rfl) (by kernel_rfl) (by kernel_rfl) (by kernel_rfl) ?_
  simp (maxSteps := 2000000) only [s57, ↓aw_region, ↓aw_skip, ↓aw_seq, ↓aw_block, ↓aw_exit, ↓aw_ret, ↓sops_nil, ↓sops_go, ↓dops_nil, ↓dopsX_nil, ↓dopsR_nil, ↓vdn, vup, extr_20, extr_21, extr_30, extr_31, extr_32, List.map_cons, List.map_nil, cond_true, cond_false, aop, aThen, aBlock, argEnv, ev, sput, sputO, binK, binI, unK, builtinK, pickK, Nat.reduceBEq, Nat.reduceAdd, Int.reduceBEq, Int.reduceBNe, Int.reduceLT, aPost, resK, tup, tyf, load1 b4 shp_79, load1 b0 shp_55, callK, List.nil_append, List.append_nil, List.toList_toArray, List.cons_append]
  refine ⟨_, _, hall G htG, rfl, ?_⟩
  refine grow.mono ?_
  rintro v h' ⟨lv, hres, hx', hb'⟩
  have hfin : Ext (fun _ => False) h h' := ⟨Nat.le_trans hExt.1 hx'.1, fun i hi _ => (hx'.2 i (by omega) (by rintro (h | h); omega; cases h)).trans (hold i hi)⟩
  have hfind : find xs size is = _root_.Go.Proofs.Tryd.Am.grow xs size is (2 ^ xs.length) [] (2 ^ xs.length - 1) := rfl
  rw [← hfind] at hres
  cases hf : find xs size is with
  | none =>
    rw [hf] at hres
    obtain ⟨rfl, gs⟩ := hres
    simp (maxSteps := 2000000) only [s57, ↓aw_region, ↓aw_skip, ↓aw_seq, ↓aw_block, ↓aw_exit, ↓aw_ret, ↓sops_nil, ↓sops_go, ↓dops_nil, ↓dopsX_nil, ↓dopsR_nil, ↓vdn, vup, extr_20, extr_21, extr_30, extr_31, extr_32, List.map_cons, List.map_nil, cond_true, cond_false, aop, aThen, aBlock, argEnv, ev, sput, sputO, binK, binI, unK, builtinK, pickK, Nat.reduceBEq, Nat.reduceAdd, Int.reduceBEq, Int.reduceBNe, Int.reduceLT, aPost, resK, tup, tyf]
    exact hfin
  | some l =>
    rw [hf] at hres
    obtain ⟨rfl, gs⟩ := hres
    simp (maxSteps := 2000000) only [s57, ↓aw_region, ↓aw_skip, ↓aw_seq, ↓aw_block, ↓aw_exit, ↓aw_ret, ↓sops_nil, ↓sops_go, ↓dops_nil, ↓dopsX_nil, ↓dopsR_nil, ↓vdn, vup, extr_20, extr_21, extr_30, extr_31, extr_32, List.map_cons, List.map_nil, cond_true, cond_false, aop, aThen, aBlock, argEnv, ev, sput, sputO, binK, binI, unK, builtinK, pickK, Nat.reduceBEq, Nat.reduceAdd, Int.reduceBEq, Int.reduceBNe, Int.reduceLT, aPost, resK, tup, tyf, load1 gs.l shp_22]
    exact ⟨hfin, gs.own⟩

theorem way_call [BitTab prog 1] {h : Heap} {v : Value} {xs : List Int} (hv : IntSl h v xs) (hl : xs.length < 9223372036854775808) (hx : ∀ x ∈ xs, -9223372036854775808 ≤ x ∧ x < 9223372036854775808) :
    ACall prog 18 [v] h fun r h' => Ext (fun _ => False) h h' ∧ ∃ a e, r = .tuple #[a, .int .i64 e] ∧
      (if trn xs then e = 0 ∧ (match find xs xs.length (fun _ => true) with | none => a = .slice none 0 0 | some l => OwnSl 3 h' a l) else e = 2 ∧ a = .slice none 0 0) := by
  refine s18_call (by simp) ?_
  simp (maxSteps := 2000000) only [s18, ↓aw_region, ↓aw_skip, ↓aw_seq, ↓aw_block, ↓aw_exit, ↓aw_ret, ↓sops_nil, ↓sops_go, ↓dops_nil, ↓dopsX_nil, ↓dopsR_nil, ↓vdn, vup, extr_20, extr_21, extr_30, extr_31, extr_32, List.map_cons, List.map_nil, cond_true, cond_false, aop, aThen, aBlock, argEnv, ev, sput, sputO, binK, binI, unK, builtinK, pickK, Nat.reduceBEq, Nat.reduceAdd, Int.reduceBEq, Int.reduceBNe, Int.reduceLT, aPost, resK, tup, tyf, callK, List.nil_append, List.append_nil, List.toList_toArray, List.cons_append]
  refine (valid_call hv hl hx).mono ?_
  rintro _ _ ⟨rfl, rfl⟩
  cases ht : trn xs with
  | false =>
    simp (maxSteps := 2000000) only [s18, ↓aw_region, ↓aw_skip, ↓aw_seq, ↓aw_block, ↓aw_exit, ↓aw_ret, ↓sops_nil, ↓sops_go, ↓dops_nil, ↓dopsX_nil, ↓dopsR_nil, ↓vdn, vup, extr_20, extr_21, extr_30, extr_31, extr_32, List.map_cons, List.map_nil, cond_true, cond_false, aop, aThen, aBlock, argEnv, ev, sput, sputO, binK, binI, unK, builtinK, pickK, Nat.reduceBEq, Nat.reduceAdd, Int.reduceBEq, Int.reduceBNe, Int.reduceLT, aPost, resK, tup, tyf]
    exact ⟨Ext.refl _ _, _, _, rfl, rfl, rfl⟩
  | true =>
    simp (maxSteps := 2000000) only [s18, ↓aw_region, ↓aw_skip, ↓aw_seq, ↓aw_block, ↓aw_exit, ↓aw_ret, ↓sops_nil, ↓sops_go, ↓dops_nil, ↓dopsX_nil, ↓dopsR_nil, ↓vdn, vup, extr_20, extr_21, extr_30, extr_31, extr_32, List.map_cons, List.map_nil, cond_true, cond_false, aop, aThen, aBlock, argEnv, ev, sput, sputO, binK, binI, unK, builtinK, pickK, Nat.reduceBEq, Nat.reduceAdd, Int.reduceBEq, Int.reduceBNe, Int.reduceLT, aPost, resK, tup, tyf, hv.len, callK, List.nil_append, List.append_nil, List.toList_toArray, List.cons_append]
    refine (search_call hv ht (Nat.le_refl _) ⟨58, #[], rfl, fun h' _ v l _ _ _ => yes_call⟩).mono ?_
    rintro r h' ⟨hext, hr⟩
    exact ⟨hext, _, _, rfl, rfl, hr⟩

theorem lit2 {h : Heap} {x y : Int} (K : Value → Heap → Prop) : buildSliceK prog h 22 2 [(0, vint x), (1, vint y)] K = K (.slice (some ⟨h.length, 0, none⟩) 2 2) (h ++ [.ints [x, y] 3 false]) := by
  simp only [buildSliceK, el_22, zero_3, esz_3, reps, fillL, mkb, intsOf, notTuple, cellsOf, List.length_singleton, Nat.mul_one, Nat.zero_mul, Nat.zero_add]
  exact propext ⟨fun h => h.2.2.2, fun h => ⟨trivial, Nat.zero_lt_one, by decide, h⟩⟩
theorem litSl {h : Heap} {xs : List Int} : IntSl (h ++ [.ints xs 3 false]) (.slice (some ⟨h.length, 0, none⟩) xs.length xs.length) xs :=
  .inr ⟨h.length, 0, none, xs.length, xs.map vint, 3, false, rfl, Nat.le_refl _, by simp [view, Blk.view], fun i hi => by simp [List.getD, hi]⟩
theorem IntSl_ext {h h' : Heap} {v : Value} {xs : List Int} (hv : IntSl h v xs) (he : Ext (fun _ => False) h h') : IntSl h' v xs := hv.same fun b hb => he.2 b (hv.lt hb) id

theorem awake_call [BitTab prog 1] {h : Heap} : ACall prog 21 [] h fun r h' => r = .bool true ∧ Ext (fun _ => False) h h' := by
  have ht : trn [0, 1] = true := by decide
  have hf : find [0, 1] 2 (fun _ => true) = some [1, 0] := by decide +kernel
  refine s21_call (by simp) ?_
  simp (maxSteps := 2000000) only [s21, ↓aw_region, ↓aw_skip, ↓aw_seq, ↓aw_block, ↓aw_exit, ↓aw_ret, ↓sops_nil, ↓sops_go, ↓dops_nil, ↓dopsX_nil, ↓dopsR_nil, ↓vdn, vup, extr_20, extr_21, extr_30, extr_31, extr_32, List.map_cons, List.map_nil, cond_true, cond_false, aop, aThen, aBlock, argEnv, ev, sput, sputO, binK, binI, unK, builtinK, pickK, Nat.reduceBEq, Nat.reduceAdd, Int.reduceBEq, Int.reduceBNe, Int.reduceLT, aPost, resK, tup, tyf, lit2, callK, List.nil_append, List.append_nil, List.toList_toArray, List.cons_append]
  refine (way_call (xs := [0, 1]) litSl (by decide) (by decide)).mono ?_
  rintro r h1 ⟨hext, a, e, rfl, hr⟩
  rw [if_pos ht] at hr
  obtain ⟨rfl, hr⟩ := hr
  simp only [List.length_cons, List.length_nil, Nat.zero_add, Nat.reduceAdd, hf] at hr
  have hx : Ext (fun _ => False) h h1 := (Ext.app _ _ _).trans hext
  simp (maxSteps := 2000000) only [s21, ↓aw_region, ↓aw_skip, ↓aw_seq, ↓aw_block, ↓aw_exit, ↓aw_ret, ↓sops_nil, ↓sops_go, ↓dops_nil, ↓dopsX_nil, ↓dopsR_nil, ↓vdn, vup, extr_20, extr_21, extr_30, extr_31, extr_32, List.map_cons, List.map_nil, cond_true, cond_false, aop, aThen, aBlock, argEnv, ev, sput, sputO, binK, binI, unK, builtinK, pickK, Nat.reduceBEq, Nat.reduceAdd, Int.reduceBEq, Int.reduceBNe, Int.reduceLT, aPost, resK, tup, tyf, lit2, callK, List.nil_append, List.append_nil, List.toList_toArray, List.cons_append]
  refine (equal_call (xs := [1, 0]) (ys := [1, 0]) (hr.int.grow _) litSl (by decide) (by decide)).mono ?_
  rintro _ _ ⟨rfl, rfl⟩
  simp (maxSteps := 2000000) only [s21, ↓aw_region, ↓aw_skip, ↓aw_seq, ↓aw_block, ↓aw_exit, ↓aw_ret, ↓sops_nil, ↓sops_go, ↓dops_nil, ↓dopsX_nil, ↓dopsR_nil, ↓vdn, vup, extr_20, extr_21, extr_30, extr_31, extr_32, List.map_cons, List.map_nil, cond_true, cond_false, aop, aThen, aBlock, argEnv, ev, sput, sputO, binK, binI, unK, builtinK, pickK, Nat.reduceBEq, Nat.reduceAdd, Int.reduceBEq, Int.reduceBNe, Int.reduceLT, aPost, resK, tup, tyf]
  exact hx.trans (Ext.app _ _ _)
end Go.Proofs.Tryd.Am

namespace Go.Proofs.Tryd.Am
open Go.Am
set_option maxRecDepth 100000
set_option maxHeartbeats 1000000

end Go.Proofs.Tryd.Am

namespace Go.Proofs.Tryd.Am
open Go.Am
set_option maxRecDepth 100000
set_option maxHeartbeats 1000000

theorem bits_range {s n : Nat} (hs : s < 2 ^ n) (hn : n ≤ 64) : Am.bits s = (List.range n).filter fun i => s.testBit i := by
  obtain ⟨d, hd⟩ : ∃ d, 64 = n + d := ⟨64 - n, by omega⟩
  unfold Am.bits
  rw [hd, List.range_add, List.filter_append]
  have : List.filter (fun i => s.testBit i) (List.map (fun x => n + x) (List.range d)) = [] := by
    rw [List.filter_eq_nil_iff]
    intro i hi
    obtain ⟨j, _, rfl⟩ := List.mem_map.1 hi
    rw [Nat.testBit_lt_two_pow (Nat.lt_of_lt_of_le hs (Nat.pow_le_pow_right (by decide) (by omega)))]; simp
  rw [this, List.append_nil]

theorem trn_take {xs : List Int} : trn (xs.take 11) = trn xs := by
  by_cases h : xs.length ≤ 11
  · rw [List.take_of_length_le h]
  · have h1 : trn xs = false := by simp only [trn, Bool.and_eq_false_iff, decide_eq_false_iff_not]; exact .inl (.inr (by omega))
    have h2 : trn (xs.take 11) = false := by simp only [trn, Bool.and_eq_false_iff, decide_eq_false_iff_not]; refine .inl (.inr ?_); simp; omega
    rw [h1, h2]

end Go.Proofs.Tryd.Am

namespace Go.Proofs.Tryd.Am
open Go.Am Redei

/-- y beats x. -/
def bt (xs : List Int) (x y : Nat) : Bool := bitI (xs.getD y 0) x

theorem or_lt {n met i : Nat} (h : met < 2 ^ n) (hi : i < n) : met ||| 2 ^ i < 2 ^ n := Nat.or_lt_two_pow h (Nat.pow_lt_pow_right (by decide) hi)
/-- The set of a list. -/
def setOf (l : List Int) : Nat := l.foldl (fun s x => s ||| 2 ^ x.toNat) 0
theorem setOf_snoc (l : List Int) (x : Int) : setOf (l ++ [x]) = setOf l ||| 2 ^ x.toNat := by simp [setOf]
/-- The k-th of l is a player, and none of those before. -/
def newAt (n : Nat) (l : List Int) (k : Nat) : Bool := decide (0 ≤ l.getD k 0) && decide (l.getD k 0 < n) && !(setOf (l.take k)).testBit (l.getD k 0).toNat
def isOrd (n : Nat) (l : List Int) : Bool := (List.range l.length).all (newAt n l) && decide (l.length = n)
end Go.Proofs.Tryd.Am

namespace Go.Proofs.Tryd.Am
open Go.Am Redei Rb
set_option maxRecDepth 100000
set_option maxHeartbeats 1000000

theorem bitsLen (s : Nat) : (Am.bits s).length = (List.range 64).countP s.testBit := by rw [Am.bits, List.countP_eq_length_filter]
/-- How many a set has below n, and how many it lacks. -/
theorem bits_fr {n s : Nat} (hs : s < 2 ^ n) (hn : n ≤ 64) : (Am.bits s).length + (fr n s).length = n := by
  have h1 : ∀ d, (List.range (n + d)).countP s.testBit = (List.range n).countP s.testBit := by
    intro d
    induction d with
    | zero => rfl
    | succ d ih =>
      rw [← Nat.add_assoc, List.range_succ, List.countP_append, ih]
      have : s.testBit (n + d) = false := Nat.testBit_lt_two_pow (Nat.lt_of_lt_of_le hs (Nat.pow_le_pow_right (by decide) (Nat.le_add_right n d)))
      simp [this]
  have h2 := h1 (64 - n)
  rw [show n + (64 - n) = 64 by omega] at h2
  rw [bitsLen, h2, fr, ← List.countP_eq_length_filter]
  have := List.length_eq_countP_add_countP (p := s.testBit) (l := List.range n)
  rw [List.length_range] at this
  have e : (List.range n).countP (fun a => !s.testBit a) = (List.range n).countP fun a => decide (¬ s.testBit a = true) := List.countP_congr fun x _ => by simp
  rw [e]
  exact this.symm
theorem bits_put {n s y : Nat} (hn : n ≤ 64) (hs : s < 2 ^ n) (hy : y < n) : (Am.bits (s ||| 2 ^ y)).length = (Am.bits s).length + if s.testBit y = true then 0 else 1 := by
  cases hb : s.testBit y with
  | true =>
    have : s ||| 2 ^ y = s := by
      apply Nat.eq_of_testBit_eq
      intro i
      rw [Nat.testBit_or, Nat.testBit_two_pow]
      by_cases h : y = i
      · subst h; simp [hb]
      · simp [h]
    rw [this]; rfl
  | false =>
    have h1 := bits_fr hs hn
    have h2 := bits_fr (put_lt hs hy) hn
    have h3 := fr_put (mem_fr.2 ⟨hy, hb⟩)
    simp
    omega
/-- What a player brings that stands behind a set. -/
def cst (xs : List Int) (i s : Nat) : Nat := (Am.bits ((xs.getD i 0).toNat &&& s)).length
theorem cst_few {xs : List Int} (hl : xs.length ≤ 8) : Few (cst xs) xs.length := fun i s hs => by
  have h1 := bits_fr hs (show xs.length ≤ 64 by omega)
  have h2 : cst xs i s ≤ (Am.bits s).length := by
    rw [cst, bitsLen, bitsLen]
    exact List.countP_mono_left fun x _ h => by rw [Nat.testBit_and, Bool.and_eq_true] at h; exact h.2
  omega
/-- The pairs of the first i. -/
def agTo (xs os : List Int) : Nat → Nat
  | 0 => 0
  | i + 1 => agTo xs os i + cst xs (os.getD i 0).toNat (setOf (os.take i))
theorem take_snoc {os : List Int} {i : Nat} (h : i < os.length) : os.take (i + 1) = os.take i ++ [os.getD i 0] := by
  rw [List.take_succ_eq_append_getElem h, List.getD, List.getElem?_eq_getElem h, Option.getD_some]
def inRg (n : Nat) (os : List Int) (k : Nat) : Prop := 0 ≤ os.getD k 0 ∧ os.getD k 0 < n
theorem setOf_lt' {n : Nat} {os : List Int} : ∀ i, i ≤ os.length → (∀ k, k < i → inRg n os k) → setOf (os.take i) < 2 ^ n
  | 0, _, _ => Nat.two_pow_pos n
  | i + 1, hi, h => by
    have h1 := h i (by omega)
    rw [take_snoc (by omega), setOf_snoc]
    exact put_lt (setOf_lt' i (by omega) fun k hk => h k (by omega)) (by have := h1.1; have := h1.2; omega)
theorem agTo_le {xs os : List Int} (hl : xs.length ≤ 8) (h : ∀ k, k < os.length → inRg xs.length os k) : ∀ i, i ≤ os.length → agTo xs os i ≤ i * 8
  | 0, _ => Nat.le_refl _
  | i + 1, hi => by
    have h1 := agTo_le hl h i (by omega)
    have h2 := cst_few hl (os.getD i 0).toNat (setOf (os.take i)) (setOf_lt' i (by omega) fun k hk => h k (by omega))
    rw [agTo]; omega
/-- Told twice over: a set of all players has each one once. -/
theorem ord_iff {n : Nat} {os : List Int} (hn : n ≤ 8) (h : ∀ k, k < os.length → inRg n os k) : isOrd n os = (decide (os.length = n) && decide (setOf os = 2 ^ n - 1)) := by
  have hD : ∀ i, i ≤ os.length → (Am.bits (setOf (os.take i))).length ≤ i ∧ ((Am.bits (setOf (os.take i))).length = i ↔ ∀ k, k < i → newAt n os k = true) := by
    intro i
    induction i with
    | zero =>
      intro _
      have h0 : (Am.bits (setOf (os.take 0))).length = 0 := by rw [List.take_zero]; decide
      exact ⟨Nat.le_of_eq h0, ⟨fun _ k hk => by omega, fun _ => h0⟩⟩
    | succ i ih =>
      intro hi
      obtain ⟨a, b⟩ := ih (by omega)
      have hr := h i (by omega)
      have hs := setOf_lt' i (by omega) fun k hk => h k (by omega)
      have hp := bits_put (show n ≤ 64 by omega) hs (show (os.getD i 0).toNat < n by have := hr.1; have := hr.2; omega)
      rw [take_snoc (by omega), setOf_snoc, hp]
      have hnew : newAt n os i = !(setOf (os.take i)).testBit (os.getD i 0).toNat := by
        rw [newAt, decide_eq_true hr.1, decide_eq_true hr.2]; rfl
      cases hb : (setOf (os.take i)).testBit (os.getD i 0).toNat with
      | true =>
        rw [hb] at hnew
        refine ⟨by simp; omega, ⟨fun e => by simp at e; omega, fun e => ?_⟩⟩
        have := e i (by omega)
        rw [hnew] at this; cases this
      | false =>
        rw [hb] at hnew
        refine ⟨by simp; omega, ⟨fun e k hk => ?_, fun e => ?_⟩⟩
        · simp at e
          by_cases hki : k = i
          · rw [hki]; exact hnew
          · exact b.1 e k (by omega)
        · have := b.2 fun k hk => e k (by omega)
          simp; exact this
  obtain ⟨hle, hiff⟩ := hD os.length (Nat.le_refl _)
  rw [List.take_length] at hle hiff
  have hs := setOf_lt' os.length (Nat.le_refl _) h
  rw [List.take_length] at hs
  have hbf := bits_fr hs (show n ≤ 64 by omega)
  have hall : (Am.bits (setOf os)).length = n ↔ setOf os = 2 ^ n - 1 := by
    constructor
    · intro e
      have h0 : fr n (setOf os) = [] := List.length_eq_zero_iff.1 (by omega)
      apply Nat.eq_of_testBit_eq
      intro i
      rw [Nat.testBit_two_pow_sub_one]
      by_cases hi : i < n
      · cases hb : (setOf os).testBit i with
        | true => simp [hi]
        | false =>
          have : i ∈ fr n (setOf os) := mem_fr.2 ⟨hi, hb⟩
          rw [h0] at this; cases this
      · rw [Nat.testBit_lt_two_pow (Nat.lt_of_lt_of_le hs (Nat.pow_le_pow_right (by decide) (by omega)))]; simp [hi]
    · intro e
      have h0 : fr n (setOf os) = [] := by
        rw [List.eq_nil_iff_forall_not_mem]
        intro i hi
        have := mem_fr.1 hi
        rw [e, Nat.testBit_two_pow_sub_one] at this
        simp [this.1] at this
      rw [h0] at hbf; simpa using hbf
  rw [Bool.eq_iff_iff, isOrd, Bool.and_eq_true, Bool.and_eq_true, List.all_eq_true, decide_eq_true_eq, decide_eq_true_eq]
  simp only [List.mem_range]
  constructor
  · rintro ⟨h1, h2⟩
    have h3 : os.length = n := by simpa using h2
    exact ⟨h3, hall.1 (by rw [← h3]; exact hiff.2 h1)⟩
  · rintro ⟨h1, h2⟩
    refine ⟨hiff.1 (by rw [hall.2 h2]; exact h1.symm), by simpa using h1⟩
theorem ord_no {n : Nat} {os : List Int} {i : Nat} (hi : i < os.length) (h : ¬ inRg n os i) : isOrd n os = false := by
  have : (List.range os.length).all (newAt n os) = false := by
    rw [List.all_eq_false]
    refine ⟨i, List.mem_range.2 hi, ?_⟩
    intro hn
    simp only [newAt, Bool.and_eq_true, decide_eq_true_eq] at hn
    exact h hn.1
  rw [isOrd, this, Bool.false_and]
theorem ord_rng {n : Nat} {os : List Int} (h : isOrd n os = true) : os.length = n ∧ ∀ k, k < os.length → inRg n os k ∧ newAt n os k = true := by
  rw [isOrd, Bool.and_eq_true, List.all_eq_true] at h
  refine ⟨by simpa using h.2, fun k hk => ?_⟩
  have := h.1 k (List.mem_range.2 hk)
  refine ⟨?_, this⟩
  simp only [newAt, Bool.and_eq_true, decide_eq_true_eq] at this
  exact this.1
end Go.Proofs.Tryd.Am

namespace Go.Proofs.Tryd.Am
open Go.Am
set_option maxRecDepth 100000
/-! 5: planchet planchetlaw02.RanksCrowned -/
@[reducible] def q5_0 : SCode := .region [⟨some 2, .assign (.const (.bool false)), none⟩]
@[reducible] def q5_1 : SCode := .region [⟨some 12, .move (.tmp 0), none⟩,
    ⟨some 13, .call { callee := .value (.func 19), args := #[.tmp 12], argTypes := #[22] }, none⟩,
    ⟨some 14, .call { callee := .value (.func 28), args := #[.tmp 13], argTypes := #[22] }, none⟩,
    ⟨some 11, .move (.tmp 14), none⟩,
    ⟨some 15, .extract (.tmp 11) 0, none⟩,
    ⟨some 16, .extract (.tmp 11) 1, none⟩,
    ⟨some 3, .assign (.tmp 15), none⟩,
    ⟨some 4, .assign (.tmp 16), none⟩]
@[reducible] def q5_2 : SCode := .region [⟨some 17, .move (.tmp 4), none⟩,
    ⟨some 18, .binOp .neq 23 (.tmp 17) (.const (.int .i64 0)) 23, none⟩,
    ⟨some 19, .move (.tmp 18), none⟩,
    ⟨some 20, .move (.tmp 0), some (19, false)⟩,
    ⟨some 21, .call { callee := .value (.func 20), args := #[.tmp 20], argTypes := #[22] }, some (19, false)⟩,
    ⟨some 22, .unOp .not 4 (.tmp 21), some (19, false)⟩,
    ⟨some 23, .pick (.tmp 19) (.const (.bool true)) (.tmp 22), none⟩]
@[reducible] def q5_3 : SCode := .region [⟨some 24, .move (.tmp 4), none⟩,
    ⟨some 25, .binOp .eql 23 (.tmp 24) (.const (.int .i64 2)) 23, none⟩,
    ⟨some 26, .move (.tmp 25), none⟩,
    ⟨some 27, .call { callee := .value (.func 21), args := #[], argTypes := #[] }, some (26, true)⟩,
    ⟨some 28, .pick (.tmp 26) (.tmp 27) (.const (.bool false)), none⟩,
    ⟨some 2, .assign (.tmp 28), none⟩]
@[reducible] def q5_4 : SCode := .region [⟨some 5, .assign (.const (.int .i64 0)), none⟩,
    ⟨some 6, .assign (.const (.bool false)), none⟩]
@[reducible] def q5_5 : SCode := .region [⟨some 29, .move (.tmp 0), none⟩,
    ⟨some 30, .call { callee := .builtin .len, args := #[.tmp 29], argTypes := #[22] }, none⟩,
    ⟨some 31, .move (.const (.int .i64 0)), none⟩]
@[reducible] def q5_6 : SCode := .region [⟨some 32, .binOp .lss 3 (.tmp 31) (.tmp 30) 3, none⟩]
@[reducible] def q5_7 : SCode := .region [⟨some 33, .indexAddr 22 (.tmp 29) (.tmp 31), none⟩,
    ⟨some 34, .load 3 (.tmp 33), none⟩,
    ⟨some 8, .assign (.tmp 34), none⟩]
@[reducible] def q5_8 : SCode := .region [⟨some 35, .move (.tmp 5), none⟩,
    ⟨some 36, .move (.tmp 8), none⟩,
    ⟨some 37, .call { callee := .value (.func 29), args := #[.tmp 36], argTypes := #[3] }, none⟩,
    ⟨some 38, .call { callee := .builtin .max, args := #[.tmp 35, .tmp 37], argTypes := #[3, 3] }, none⟩,
    ⟨some 5, .assign (.tmp 38), none⟩]
@[reducible] def q5_9 : SCode := .region [⟨some 39, .binOp .add 3 (.tmp 31) (.const (.int .i64 1)) 3, none⟩,
    ⟨some 31, .move (.tmp 39), none⟩]
def l5_0 : SCode := (.seq q5_6 (.seq (.cond (.tmp 32) .skip (.exit 0)) (.seq (.block 1 (.seq q5_7 q5_8)) q5_9)))
@[reducible] def q5_10 : SCode := .region [⟨some 40, .move (.tmp 0), none⟩,
    ⟨some 41, .call { callee := .builtin .len, args := #[.tmp 40], argTypes := #[22] }, none⟩,
    ⟨some 42, .move (.const (.int .i64 0)), none⟩]
@[reducible] def q5_11 : SCode := .region [⟨some 43, .binOp .lss 3 (.tmp 42) (.tmp 41) 3, none⟩]
@[reducible] def q5_12 : SCode := .region [⟨some 44, .move (.tmp 42), none⟩,
    ⟨some 45, .indexAddr 22 (.tmp 40) (.tmp 42), none⟩,
    ⟨some 46, .load 3 (.tmp 45), none⟩,
    ⟨some 9, .assign (.tmp 44), none⟩,
    ⟨some 10, .assign (.tmp 46), none⟩]
@[reducible] def q5_13 : SCode := .region [⟨some 47, .move (.tmp 10), none⟩,
    ⟨some 48, .call { callee := .value (.func 29), args := #[.tmp 47], argTypes := #[3] }, none⟩,
    ⟨some 49, .move (.tmp 5), none⟩,
    ⟨some 50, .binOp .eql 3 (.tmp 48) (.tmp 49) 3, none⟩,
    ⟨some 51, .move (.tmp 50), none⟩,
    ⟨some 52, .move (.tmp 3), some (51, true)⟩,
    ⟨some 53, .move (.tmp 9), some (51, true)⟩,
    ⟨some 54, .binOp .shr 3 (.tmp 52) (.tmp 53) 3, some (51, true)⟩,
    ⟨some 55, .binOp .and 3 (.tmp 54) (.const (.int .i64 1)) 3, some (51, true)⟩,
    ⟨some 56, .binOp .eql 3 (.tmp 55) (.const (.int .i64 0)) 3, some (51, true)⟩,
    ⟨some 57, .pick (.tmp 51) (.tmp 56) (.const (.bool false)), none⟩]
@[reducible] def q5_14 : SCode := .region [⟨some 2, .assign (.const (.bool false)), none⟩]
@[reducible] def q5_15 : SCode := .region [⟨some 58, .move (.tmp 6), none⟩,
    ⟨some 59, .move (.tmp 58), none⟩,
    ⟨some 60, .move (.tmp 10), some (59, false)⟩,
    ⟨some 61, .call { callee := .value (.func 29), args := #[.tmp 60], argTypes := #[3] }, some (59, false)⟩,
    ⟨some 62, .move (.tmp 0), some (59, false)⟩,
    ⟨some 63, .call { callee := .builtin .len, args := #[.tmp 62], argTypes := #[22] }, some (59, false)⟩,
    ⟨some 64, .binOp .sub 3 (.tmp 63) (.const (.int .i64 1)) 3, some (59, false)⟩,
    ⟨some 65, .binOp .eql 3 (.tmp 61) (.tmp 64) 3, some (59, false)⟩,
    ⟨some 66, .pick (.tmp 59) (.const (.bool true)) (.tmp 65), none⟩,
    ⟨some 6, .assign (.tmp 66), none⟩]
@[reducible] def q5_16 : SCode := .region [⟨some 67, .binOp .add 3 (.tmp 42) (.const (.int .i64 1)) 3, none⟩,
    ⟨some 42, .move (.tmp 67), none⟩]
def l5_1 : SCode := (.seq q5_11 (.seq (.cond (.tmp 43) .skip (.exit 2)) (.seq (.block 3 (.seq q5_12 (.seq (.seq q5_13 (.cond (.tmp 57) (.seq q5_14 .ret) .skip)) q5_15))) q5_16)))
@[reducible] def q5_17 : SCode := .region [⟨some 68, .move (.tmp 3), none⟩,
    ⟨some 69, .binOp .gtr 3 (.tmp 68) (.const (.int .i64 0)) 3, none⟩,
    ⟨some 70, .move (.tmp 69), none⟩,
    ⟨some 71, .move (.tmp 3), some (70, true)⟩,
    ⟨some 72, .move (.tmp 0), some (70, true)⟩,
    ⟨some 73, .call { callee := .builtin .len, args := #[.tmp 72], argTypes := #[22] }, some (70, true)⟩,
    ⟨some 74, .binOp .shl 3 (.const (.int .i64 1)) (.tmp 73) 3, some (70, true)⟩,
    ⟨some 75, .binOp .lss 3 (.tmp 71) (.tmp 74) 3, some (70, true)⟩,
    ⟨some 76, .pick (.tmp 70) (.tmp 75) (.const (.bool false)), none⟩,
    ⟨some 77, .move (.tmp 76), none⟩,
    ⟨some 78, .move (.tmp 3), some (77, true)⟩,
    ⟨some 79, .call { callee := .value (.func 29), args := #[.tmp 78], argTypes := #[3] }, some (77, true)⟩,
    ⟨some 80, .binOp .eql 3 (.tmp 79) (.const (.int .i64 1)) 3, some (77, true)⟩,
    ⟨some 81, .move (.tmp 6), some (77, true)⟩,
    ⟨some 82, .binOp .eql 4 (.tmp 80) (.tmp 81) 4, some (77, true)⟩,
    ⟨some 83, .pick (.tmp 77) (.tmp 82) (.const (.bool false)), none⟩,
    ⟨some 84, .move (.tmp 83), none⟩,
    ⟨some 85, .move (.tmp 6), some (84, true)⟩,
    ⟨some 86, .move (.tmp 85), some (84, true)⟩,
    ⟨some 87, .move (.tmp 3), some (86, false)⟩,
    ⟨some 88, .call { callee := .value (.func 29), args := #[.tmp 87], argTypes := #[3] }, some (86, false)⟩,
    ⟨some 89, .binOp .geq 3 (.tmp 88) (.const (.int .i64 3)) 3, some (86, false)⟩,
    ⟨some 90, .pick (.tmp 86) (.const (.bool true)) (.tmp 89), some (84, true)⟩,
    ⟨some 91, .pick (.tmp 84) (.tmp 90) (.const (.bool false)), none⟩,
    ⟨some 92, .move (.tmp 91), none⟩,
    ⟨some 93, .call { callee := .value (.func 21), args := #[], argTypes := #[] }, some (92, true)⟩,
    ⟨some 94, .pick (.tmp 92) (.tmp 93) (.const (.bool false)), none⟩,
    ⟨some 2, .assign (.tmp 94), none⟩]
def s5 : SCode := (.seq q5_0 (.seq q5_1 (.seq (.seq q5_2 (.cond (.tmp 23) (.seq q5_3 .ret) .skip)) (.seq q5_4 (.seq (.seq q5_5 (.block 0 (.loop l5_0))) (.seq (.seq q5_10 (.block 2 (.loop l5_1))) (.seq q5_17 .ret)))))))
/-! 73: planchet ranks.count -/
@[reducible] def q73_0 : SCode := .region [⟨some 2, .assign (.const (.int .i64 0)), none⟩]
@[reducible] def q73_1 : SCode := .region [⟨some 3, .move (.tmp 0), none⟩,
    ⟨some 4, .convert 3 53 (.tmp 3), none⟩,
    ⟨some 5, .call { callee := .value (.func 97), args := #[.tmp 4], argTypes := #[53] }, none⟩,
    ⟨some 2, .assign (.tmp 5), none⟩]
def s73 : SCode := (.seq q73_0 (.seq q73_1 .ret))
theorem s73_strip : stripC (bodyOf Tryd.f73) = s73 := by kernel_rfl
theorem s73_ok : codeOK 6 (bodyOf Tryd.f73) = true := by kernel_rfl
theorem s73_call [Tabs Tryd.prog] {args : List Value} {h : Heap} {Q : Value → Heap → Prop} (hsz : args.length ≤ 6) (hk : aw Tryd.prog 6 s73 (aPost Tryd.prog [.tmp 2] Q) (argEnv 0 args) h) : ACall Tryd.prog 73 args h Q :=
  acall_s Tryd.func73 rfl (enters_of Tryd.func73 (by kernel_rfl) rfl) rfl rfl (by decide) s73_strip s73_ok hsz hk

/-! 97: math bits.OnesCount -/
@[reducible] def q97_0 : SCode := .region [⟨some 2, .assign (.const (.int .i64 0)), none⟩]
@[reducible] def q97_1 : SCode := .region [⟨some 3, .move (.tmp 0), none⟩,
    ⟨some 4, .convert 53 87 (.tmp 3), none⟩,
    ⟨some 5, .call { callee := .value (.func 108), args := #[.tmp 4], argTypes := #[87] }, none⟩,
    ⟨some 2, .assign (.tmp 5), none⟩]
@[reducible] def q97_2 : SCode := .region [⟨some 6, .move (.tmp 0), none⟩,
    ⟨some 7, .call { callee := .value (.func 109), args := #[.tmp 6], argTypes := #[89] }, none⟩,
    ⟨some 2, .assign (.tmp 7), none⟩]
def s97 : SCode := (.seq q97_0 (.seq (.cond (.const (.bool false)) (.seq q97_1 .ret) .skip) (.seq q97_2 .ret)))
theorem s97_strip : stripC (bodyOf Tryd.f97) = s97 := by kernel_rfl
theorem s97_ok : codeOK 8 (bodyOf Tryd.f97) = true := by kernel_rfl
theorem s97_call [Tabs Tryd.prog] {args : List Value} {h : Heap} {Q : Value → Heap → Prop} (hsz : args.length ≤ 8) (hk : aw Tryd.prog 8 s97 (aPost Tryd.prog [.tmp 2] Q) (argEnv 0 args) h) : ACall Tryd.prog 97 args h Q :=
  acall_s Tryd.func97 rfl (enters_of Tryd.func97 (by kernel_rfl) rfl) rfl rfl (by decide) s97_strip s97_ok hsz hk

/-! 109: math bits.OnesCount64 -/
@[reducible] def q109_0 : SCode := .region [⟨some 2, .assign (.const (.int .i64 0)), none⟩]
@[reducible] def q109_1 : SCode := .region [⟨some 3, .move (.tmp 0), none⟩,
    ⟨some 4, .binOp .shr 89 (.tmp 3) (.const (.int .u64 1)) 53, none⟩,
    ⟨some 5, .binOp .and 89 (.tmp 4) (.const (.int .u64 6148914691236517205)) 89, none⟩,
    ⟨some 6, .move (.tmp 0), none⟩,
    ⟨some 7, .binOp .and 89 (.tmp 6) (.const (.int .u64 6148914691236517205)) 89, none⟩,
    ⟨some 8, .binOp .add 89 (.tmp 5) (.tmp 7) 89, none⟩,
    ⟨some 0, .assign (.tmp 8), none⟩]
@[reducible] def q109_2 : SCode := .region [⟨some 9, .move (.tmp 0), none⟩,
    ⟨some 10, .binOp .shr 89 (.tmp 9) (.const (.int .u64 2)) 53, none⟩,
    ⟨some 11, .binOp .and 89 (.tmp 10) (.const (.int .u64 3689348814741910323)) 89, none⟩,
    ⟨some 12, .move (.tmp 0), none⟩,
    ⟨some 13, .binOp .and 89 (.tmp 12) (.const (.int .u64 3689348814741910323)) 89, none⟩,
    ⟨some 14, .binOp .add 89 (.tmp 11) (.tmp 13) 89, none⟩,
    ⟨some 0, .assign (.tmp 14), none⟩]
@[reducible] def q109_3 : SCode := .region [⟨some 15, .move (.tmp 0), none⟩,
    ⟨some 16, .binOp .shr 89 (.tmp 15) (.const (.int .u64 4)) 53, none⟩,
    ⟨some 17, .move (.tmp 0), none⟩,
    ⟨some 18, .binOp .add 89 (.tmp 16) (.tmp 17) 89, none⟩,
    ⟨some 19, .binOp .and 89 (.tmp 18) (.const (.int .u64 1085102592571150095)) 89, none⟩,
    ⟨some 0, .assign (.tmp 19), none⟩]
@[reducible] def q109_4 : SCode := .region [⟨some 20, .move (.tmp 0), none⟩,
    ⟨some 21, .move (.tmp 0), none⟩,
    ⟨some 22, .binOp .shr 89 (.tmp 21) (.const (.int .u64 8)) 53, none⟩,
    ⟨some 23, .binOp .add 89 (.tmp 20) (.tmp 22) 89, none⟩,
    ⟨some 0, .assign (.tmp 23), none⟩]
@[reducible] def q109_5 : SCode := .region [⟨some 24, .move (.tmp 0), none⟩,
    ⟨some 25, .move (.tmp 0), none⟩,
    ⟨some 26, .binOp .shr 89 (.tmp 25) (.const (.int .u64 16)) 53, none⟩,
    ⟨some 27, .binOp .add 89 (.tmp 24) (.tmp 26) 89, none⟩,
    ⟨some 0, .assign (.tmp 27), none⟩]
@[reducible] def q109_6 : SCode := .region [⟨some 28, .move (.tmp 0), none⟩,
    ⟨some 29, .move (.tmp 0), none⟩,
    ⟨some 30, .binOp .shr 89 (.tmp 29) (.const (.int .u64 32)) 53, none⟩,
    ⟨some 31, .binOp .add 89 (.tmp 28) (.tmp 30) 89, none⟩,
    ⟨some 0, .assign (.tmp 31), none⟩]
@[reducible] def q109_7 : SCode := .region [⟨some 32, .move (.tmp 0), none⟩,
    ⟨some 33, .convert 89 3 (.tmp 32), none⟩,
    ⟨some 34, .binOp .and 3 (.tmp 33) (.const (.int .i64 127)) 3, none⟩,
    ⟨some 2, .assign (.tmp 34), none⟩]
def s109 : SCode := (.seq q109_0 (.seq q109_1 (.seq q109_2 (.seq q109_3 (.seq q109_4 (.seq q109_5 (.seq q109_6 (.seq q109_7 .ret))))))))
theorem s109_strip : stripC (bodyOf Tryd.f109) = s109 := by kernel_rfl
theorem s109_ok : codeOK 35 (bodyOf Tryd.f109) = true := by kernel_rfl
theorem s109_call [Tabs Tryd.prog] {args : List Value} {h : Heap} {Q : Value → Heap → Prop} (hsz : args.length ≤ 35) (hk : aw Tryd.prog 35 s109 (aPost Tryd.prog [.tmp 2] Q) (argEnv 0 args) h) : ACall Tryd.prog 109 args h Q :=
  acall_s Tryd.func109 rfl (enters_of Tryd.func109 (by kernel_rfl) rfl) rfl rfl (by decide) s109_strip s109_ok hsz hk

end Go.Proofs.Tryd.Am

namespace Go.Proofs.Tryd.Am
open Go.Am
set_option maxRecDepth 100000
set_option maxHeartbeats 1000000

theorem trn_nat {xs : List Int} (h : trn xs = true) {i : Nat} (hi : i < xs.length) : xs.getD i 0 = ((xs.getD i 0).toNat : Int) ∧ (xs.getD i 0).toNat < 2 ^ xs.length := by
  simp only [trn, Bool.and_eq_true, decide_eq_true_eq, List.all_eq_true, List.mem_range] at h
  have h2 := h.2 i hi
  rw [okAt, Bool.and_eq_true, Bool.and_eq_true, Bool.and_eq_true, decide_eq_true_eq, decide_eq_true_eq] at h2
  have h3 := h2.1.1.1
  have h4 := h2.1.1.2
  have e : ((2 ^ xs.length : Nat) : Int) = 2 ^ xs.length := by simp
  refine ⟨(Int.toNat_of_nonneg h3).symm, ?_⟩
  rw [← Int.toNat_of_nonneg h3, ← e] at h4
  exact Int.ofNat_lt.1 h4

end Go.Proofs.Tryd.Am

namespace Go.Proofs.Tryd.Kings

section
variable {α : Type} {p q : α → Bool}
theorem most (f : α → Nat) : ∀ {l : List α}, l ≠ [] → ∃ u ∈ l, ∀ w ∈ l, f w ≤ f u
  | [], h => absurd rfl h
  | [x], _ => ⟨x, by simp, fun w hw => by rw [List.mem_singleton.1 hw]; exact Nat.le_refl _⟩
  | x :: y :: l, _ => by
    obtain ⟨u, hu, hm⟩ := most f (l := y :: l) (by simp)
    by_cases h : f x ≤ f u
    · exact ⟨u, List.mem_cons_of_mem _ hu, fun w hw => by rcases List.mem_cons.1 hw with rfl | hw; exact h; exact hm w hw⟩
    · exact ⟨x, by simp, fun w hw => by rcases List.mem_cons.1 hw with rfl | hw; exact Nat.le_refl _; have := hm w hw; omega⟩
end

/-- Of two, just one beats the other; nobody beats himself. -/
def Trn (n : Nat) (b : Nat → Nat → Bool) : Prop := (∀ i j, i < n → j < n → i ≠ j → b i j = !b j i) ∧ ∀ i, i < n → b i i = false

variable {n : Nat} {b : Nat → Nat → Bool}

end Go.Proofs.Tryd.Kings

namespace Go.Proofs.Tryd.Am
open Go.Am Kings

/-- i beats j. -/
def bb (xs : List Int) (i j : Nat) : Bool := bitI (xs.getD i 0) j

theorem trn_trn {xs : List Int} (h : trn xs = true) : Trn xs.length (bb xs) := by
  have hok : ∀ i, i < xs.length → ∀ j, j < i → bitI (xs.getD i 0) j = !bitI (xs.getD j 0) i := by
    intro i hi j hj
    simp only [trn, Bool.and_eq_true, decide_eq_true_eq, List.all_eq_true, List.mem_range] at h
    have h2 := h.2 i hi
    simp only [okAt, Bool.and_eq_true, List.all_eq_true, List.mem_range] at h2
    have h3 := h2.2 j hj
    revert h3
    cases bitI (xs.getD i 0) j <;> cases bitI (xs.getD j 0) i <;> decide
  refine ⟨fun i j hi hj hij => ?_, fun i hi => ?_⟩
  · show bitI (xs.getD i 0) j = !bitI (xs.getD j 0) i
    rcases Nat.lt_or_gt_of_ne hij with hlt | hlt
    · rw [hok j hj i hlt, Bool.not_not]
    · exact hok i hi j hlt
  · simp only [trn, Bool.and_eq_true, decide_eq_true_eq, List.all_eq_true, List.mem_range] at h
    have h2 := h.2 i hi
    simp only [okAt, Bool.and_eq_true, Bool.not_eq_true'] at h2
    exact h2.1.2

end Go.Proofs.Tryd.Am

namespace Clr
open Go.Am

theorem perm_of_nodup {α : Type} {l1 l2 : List α} (h1 : l1.Nodup) (h2 : l2.Nodup) (h : ∀ a, a ∈ l1 ↔ a ∈ l2) : l1.Perm l2 := by
  classical
  induction l1 generalizing l2 with
  | nil =>
    cases l2 with
    | nil => exact List.Perm.nil
    | cons b l => exact absurd ((h b).2 (by simp)) (by simp)
  | cons a l ih =>
    have ha : a ∈ l2 := (h a).1 (by simp)
    obtain ⟨s, t, rfl⟩ := List.append_of_mem ha
    refine List.Perm.trans ?_ (List.perm_middle).symm
    refine List.Perm.cons a (ih (List.nodup_cons.1 h1).2 ?_ ?_)
    · exact (List.nodup_cons.1 ((List.perm_middle).nodup_iff.1 h2)).2
    · intro b
      have hb := h b
      simp only [List.mem_cons, List.mem_append] at hb ⊢
      have hna : a ∉ l := (List.nodup_cons.1 h1).1
      have hnt : a ∉ s ++ t := (List.nodup_cons.1 ((List.perm_middle).nodup_iff.1 h2)).1
      constructor
      · intro hl
        have hba : b ≠ a := fun e => hna (e ▸ hl)
        rcases hb.1 (.inr hl) with h | h | h
        · exact .inl h
        · exact absurd h hba
        · exact .inr h
      · intro hst
        have hba : b ≠ a := fun e => hnt (e ▸ List.mem_append.2 hst)
        rcases hb.2 (hst.elim .inl fun h => .inr (.inr h)) with h | h
        · exact absurd h hba
        · exact h

/-- All cycles, each from its least player on. -/
def cycles (n : Nat) (b : Nat → Nat → Bool) : List (Nat × Nat × Nat) :=
  (List.range n).flatMap fun a => ((List.range n).filter (b a)).flatMap fun x => ((List.range n).filter (b x)).flatMap fun c => if a < x ∧ a < c ∧ b c a = true then [(a, x, c)] else []
theorem mem_cycles {n : Nat} {b : Nat → Nat → Bool} {a x c : Nat} : (a, x, c) ∈ cycles n b ↔ a < n ∧ x < n ∧ c < n ∧ b a x = true ∧ b x c = true ∧ b c a = true ∧ a < x ∧ a < c := by
  simp only [cycles, List.mem_flatMap, List.mem_filter, List.mem_range]
  constructor
  · rintro ⟨a', ha, x', ⟨hx, hax⟩, c', ⟨hc, hxc⟩, h⟩
    split at h
    · next h2 =>
      simp only [List.mem_singleton, Prod.mk.injEq] at h
      obtain ⟨rfl, rfl, rfl⟩ := h
      exact ⟨ha, hx, hc, hax, hxc, h2.2.2, h2.1, h2.2.1⟩
    · cases h
  · rintro ⟨ha, hx, hc, h1, h2, h3, h4, h5⟩
    exact ⟨a, ha, x, ⟨hx, h1⟩, c, ⟨hc, h2⟩, by rw [if_pos ⟨h4, h5, h3⟩]; simp⟩
/-- Whether a set has all of a cycle. -/
def has (s : Nat) (c : Nat × Nat × Nat) : Bool := s.testBit c.1 && s.testBit c.2.1 && s.testBit c.2.2
/-- A tournament. -/
def Trn (n : Nat) (b : Nat → Nat → Bool) : Prop := (∀ i j, i < n → j < n → i ≠ j → b i j = !b j i) ∧ ∀ i, i < n → b i i = false
def Acy (b : Nat → Nat → Bool) (l : List Nat) : Prop := ∀ p ∈ l, ∀ q ∈ l, ∀ r ∈ l, b p q = true → b q r = true → b r p = true → False

variable {n : Nat} {b : Nat → Nat → Bool}
theorem bits_nodup (s : Nat) : (bits s).Nodup := List.nodup_range.filter _
/-- The set of a list. -/
def setL (l : List Nat) : Nat := l.foldl (fun s x => s ||| 2 ^ x) 0
theorem fold_bit : ∀ (l : List Nat) (s w : Nat), (l.foldl (fun s x => s ||| 2 ^ x) s).testBit w = (s.testBit w || l.contains w)
  | [], s, w => by simp
  | x :: l, s, w => by
    rw [List.foldl_cons, fold_bit l, Nat.testBit_or, Nat.testBit_two_pow, List.contains_cons, Bool.or_assoc]
    congr 2
    by_cases h : x = w
    · subst h; simp
    · rw [decide_eq_false h]; simp [Ne.symm h]
theorem setL_bit (l : List Nat) (w : Nat) : (setL l).testBit w = true ↔ w ∈ l := by
  rw [setL, fold_bit, Nat.zero_testBit, Bool.false_or]; simp
theorem len_le {l : List Nat} (hl : ∀ x ∈ l, x < n) (hd : l.Nodup) : l.length ≤ n := by
  have h1 : l.Perm ((List.range n).filter fun x => l.contains x) := perm_of_nodup hd (List.nodup_range.filter _) fun x => by
    simp only [List.mem_filter, List.mem_range, List.contains_iff_mem]
    exact ⟨fun h => ⟨hl x h, h⟩, fun h => h.2⟩
  rw [h1.length_eq]
  have := List.length_filter_le (fun x => l.contains x) (List.range n)
  rwa [List.length_range] at this
/-- One before, or behind, all of some without a cycle. -/
theorem acy_top (ht : Trn n b) {x : Nat} {l : List Nat} (hx : x < n) (hl : ∀ y ∈ l, y < n) (ha : Acy b l) (h : (∀ y ∈ l, b x y = true) ∨ ∀ y ∈ l, b x y = false) (hn : x ∉ l) : Acy b (x :: l) := by
  have hxx := ht.2 x hx
  have hsw : ∀ y ∈ l, b y x = !b x y := fun y hy => ht.1 y x (hl y hy) hx fun e => hn (e ▸ hy)
  intro p hp q hq r hr h1 h2 h3
  have key : ∀ u v w : Nat, u = x → v ∈ x :: l → w ∈ x :: l → b u v = true → b v w = true → b w u = true → False := by
    rintro u v w rfl hv hw g1 g2 g3
    have hv' : v ∈ l := (List.mem_cons.1 hv).resolve_left fun e => by rw [e, hxx] at g1; cases g1
    have hw' : w ∈ l := (List.mem_cons.1 hw).resolve_left fun e => by rw [e, hxx] at g3; cases g3
    rcases h with h | h
    · rw [hsw w hw', h w hw'] at g3; cases g3
    · rw [h v hv'] at g1; cases g1
  by_cases hpx : p = x
  · exact key p q r hpx hq hr h1 h2 h3
  · by_cases hqx : q = x
    · exact key q r p hqx hr hp h2 h3 h1
    · by_cases hrx : r = x
      · exact key r p q hrx hp hq h3 h1 h2
      · exact ha p ((List.mem_cons.1 hp).resolve_left hpx) q ((List.mem_cons.1 hq).resolve_left hqx) r ((List.mem_cons.1 hr).resolve_left hrx) h1 h2 h3
/-- Of a list half stands on one side. -/
theorem side (f : Nat → Bool) : ∀ l : List Nat, (l.filter f).length + (l.filter fun x => !f x).length = l.length
  | [] => rfl
  | x :: l => by
    have := side f l
    rw [List.filter_cons, List.filter_cons]
    cases f x <;> simp <;> omega
/-- Of 2 k - 1 others at least k on one side of x: then those without a cycle among k go with x. -/
theorem grow (ht : Trn n b) {k m : Nat} (hk : ∀ l : List Nat, (∀ x ∈ l, x < n) → l.Nodup → k ≤ l.length → ∃ l', (∀ x ∈ l', x ∈ l) ∧ l'.Nodup ∧ Acy b l' ∧ l'.length = m) {l : List Nat} (hl : ∀ x ∈ l, x < n) (hd : l.Nodup) (hlen : 2 * k ≤ l.length) (hk0 : 0 < k) :
    ∃ l', (∀ x ∈ l', x ∈ l) ∧ l'.Nodup ∧ Acy b l' ∧ l'.length = m + 1 := by
  cases l with
  | nil => simp at hlen; omega
  | cons x l =>
    have hx := List.nodup_cons.1 hd
    have hs := side (b x) l
    simp only [List.length_cons] at hlen
    have hx' := hl x (by simp)
    have hl' : ∀ y ∈ l, y < n := fun y hy => hl y (by simp [hy])
    have fin : ∀ F : List Nat, (∀ y ∈ F, y ∈ l) → F.Nodup → ((∀ y ∈ F, b x y = true) ∨ ∀ y ∈ F, b x y = false) → k ≤ F.length → ∃ l', (∀ y ∈ l', y ∈ x :: l) ∧ l'.Nodup ∧ Acy b l' ∧ l'.length = m + 1 := by
      intro F h1 h2 h3 h4
      obtain ⟨l', g1, g2, g3, g4⟩ := hk F (fun y hy => hl' y (h1 y hy)) h2 h4
      have hxl : x ∉ l' := fun h => hx.1 (h1 x (g1 x h))
      refine ⟨x :: l', fun y hy => ?_, List.nodup_cons.2 ⟨hxl, g2⟩, acy_top ht hx' (fun y hy => hl' y (h1 y (g1 y hy))) g3 (h3.imp (fun h y hy => h y (g1 y hy)) fun h y hy => h y (g1 y hy)) hxl, by simp [g4]⟩
      rcases List.mem_cons.1 hy with rfl | h
      · simp
      · simp [h1 y (g1 y h)]
    by_cases hA : k ≤ (l.filter (b x)).length
    · exact fin _ (fun y hy => (List.mem_filter.1 hy).1) (hx.2.filter _) (.inl fun y hy => (List.mem_filter.1 hy).2) hA
    · exact fin (l.filter fun y => !b x y) (fun y hy => (List.mem_filter.1 hy).1) (hx.2.filter _) (.inr fun y hy => by simpa using (List.mem_filter.1 hy).2) (by omega)
end Clr

namespace Go.Proofs.Tryd.Am
open Go.Am
set_option maxRecDepth 100000
set_option maxHeartbeats 1000000

theorem trn_len {xs : List Int} (h : trn xs = true) : 1 ≤ xs.length ∧ xs.length ≤ 8 := by
  simp only [trn, Bool.and_eq_true, decide_eq_true_eq] at h; exact h.1
theorem trn_clr {xs : List Int} (h : trn xs = true) : Clr.Trn xs.length (bb xs) := ⟨(trn_trn h).1, (trn_trn h).2⟩
/-- A cycle as ints. -/
def cI (c : Nat × Nat × Nat) : T3 := ((c.1 : Int), (c.2.1 : Int), (c.2.2 : Int))
def cC (xs : List Int) (a x : Nat) (pre : List Nat) : List T3 := pre.flatMap fun c => if a < x ∧ a < c ∧ bb xs c a = true then [((a : Int), (x : Int), (c : Int))] else []
def cX (xs : List Int) (a : Nat) (pre : List Nat) : List T3 := pre.flatMap fun x => cC xs a x (Am.bits (xs.getD x 0).toNat)
def cA (xs : List Int) (k : Nat) : List T3 := (List.range k).flatMap fun a => cX xs a (Am.bits (xs.getD a 0).toNat)
theorem cA_succ (xs : List Int) (k : Nat) : cA xs (k + 1) = cA xs k ++ cX xs k (Am.bits (xs.getD k 0).toNat) := by simp [cA, List.range_succ]
theorem cX_snoc (xs : List Int) (a : Nat) (pre : List Nat) (x : Nat) : cX xs a (pre ++ [x]) = cX xs a pre ++ cC xs a x (Am.bits (xs.getD x 0).toNat) := by simp [cX]
theorem cC_snoc (xs : List Int) (a x : Nat) (pre : List Nat) (c : Nat) : cC xs a x (pre ++ [c]) = cC xs a x pre ++ (if a < x ∧ a < c ∧ bb xs c a = true then [((a : Int), (x : Int), (c : Int))] else []) := by simp [cC]
theorem bits_bb {xs : List Int} (h : trn xs = true) {i : Nat} (hi : i < xs.length) : Am.bits (xs.getD i 0).toNat = (List.range xs.length).filter (bb xs i) := by
  have hl := trn_len h
  rw [bits_range (trn_nat h hi).2 (by omega)]; rfl
theorem cA_all {xs : List Int} (h : trn xs = true) : cA xs xs.length = (Clr.cycles xs.length (bb xs)).map cI := by
  rw [cA, Clr.cycles, List.map_flatMap, List.flatMap_def, List.flatMap_def]
  congr 1
  refine List.map_congr_left fun a ha => ?_
  have ha' := List.mem_range.1 ha
  rw [cX, bits_bb h ha', List.map_flatMap, List.flatMap_def, List.flatMap_def]
  congr 1
  refine List.map_congr_left fun x hx => ?_
  have hx' := List.mem_range.1 (List.mem_filter.1 hx).1
  rw [cC, bits_bb h hx', List.map_flatMap]
  congr 1
  funext c
  split <;> rfl
theorem flat_le {α β : Type} {f : α → List β} {k : Nat} : ∀ l : List α, (∀ x ∈ l, (f x).length ≤ k) → (l.flatMap f).length ≤ l.length * k
  | [], _ => by simp
  | x :: l, h => by
    have := flat_le l fun y hy => h y (by simp [hy])
    have := h x (by simp)
    rw [List.flatMap_cons, List.length_append, List.length_cons, Nat.succ_mul]; omega
theorem bits_len8 {xs : List Int} (h : trn xs = true) {i : Nat} (hi : i < xs.length) : (Am.bits (xs.getD i 0).toNat).length ≤ 8 := by
  rw [bits_bb h hi]
  have := List.length_filter_le (bb xs i) (List.range xs.length)
  rw [List.length_range] at this
  have := trn_len h; omega
theorem cC_le {xs : List Int} {a x : Nat} (pre : List Nat) : (cC xs a x pre).length ≤ pre.length := by
  have := flat_le (f := fun c => if a < x ∧ a < c ∧ bb xs c a = true then [((a : Int), (x : Int), (c : Int))] else []) (k := 1) pre fun c _ => by
    split <;> simp
  rw [Nat.mul_one] at this; exact this
end Go.Proofs.Tryd.Am

namespace Go.Proofs.Tryd.Am
open Go.Am
set_option maxRecDepth 100000
/-! 7: planchet planchetlaw02.RanksClear -/
@[reducible] def q7_0 : SCode := .region [⟨some 2, .assign (.const (.bool false)), none⟩]
@[reducible] def q7_1 : SCode := .region [⟨some 13, .move (.tmp 0), none⟩,
    ⟨some 14, .call { callee := .value (.func 19), args := #[.tmp 13], argTypes := #[22] }, none⟩,
    ⟨some 15, .call { callee := .value (.func 36), args := #[.tmp 14], argTypes := #[22] }, none⟩,
    ⟨some 12, .move (.tmp 15), none⟩,
    ⟨some 16, .extract (.tmp 12) 0, none⟩,
    ⟨some 17, .extract (.tmp 12) 1, none⟩,
    ⟨some 3, .assign (.tmp 16), none⟩,
    ⟨some 4, .assign (.tmp 17), none⟩]
@[reducible] def q7_2 : SCode := .region [⟨some 18, .move (.tmp 4), none⟩,
    ⟨some 19, .binOp .neq 23 (.tmp 18) (.const (.int .i64 0)) 23, none⟩,
    ⟨some 20, .move (.tmp 19), none⟩,
    ⟨some 21, .move (.tmp 0), some (20, false)⟩,
    ⟨some 22, .call { callee := .value (.func 20), args := #[.tmp 21], argTypes := #[22] }, some (20, false)⟩,
    ⟨some 23, .unOp .not 4 (.tmp 22), some (20, false)⟩,
    ⟨some 24, .pick (.tmp 20) (.const (.bool true)) (.tmp 23), none⟩]
@[reducible] def q7_3 : SCode := .region [⟨some 25, .move (.tmp 4), none⟩,
    ⟨some 26, .binOp .eql 23 (.tmp 25) (.const (.int .i64 2)) 23, none⟩,
    ⟨some 27, .move (.tmp 26), none⟩,
    ⟨some 28, .call { callee := .value (.func 21), args := #[], argTypes := #[] }, some (27, true)⟩,
    ⟨some 29, .pick (.tmp 27) (.tmp 28) (.const (.bool false)), none⟩,
    ⟨some 2, .assign (.tmp 29), none⟩]
@[reducible] def q7_4 : SCode := .region [⟨some 31, .move (.tmp 0), none⟩,
    ⟨some 32, .call { callee := .value (.func 19), args := #[.tmp 31], argTypes := #[22] }, none⟩,
    ⟨some 33, .call { callee := .value (.func 30), args := #[.tmp 32], argTypes := #[22] }, none⟩,
    ⟨some 30, .move (.tmp 33), none⟩,
    ⟨some 34, .extract (.tmp 30) 0, none⟩,
    ⟨some 35, .extract (.tmp 30) 1, none⟩,
    ⟨some 5, .assign (.tmp 34), none⟩,
    ⟨some 6, .assign (.tmp 35), none⟩]
@[reducible] def q7_5 : SCode := .region [⟨some 36, .move (.tmp 6), none⟩,
    ⟨some 37, .binOp .neq 23 (.tmp 36) (.const (.int .i64 0)) 23, none⟩,
    ⟨some 38, .move (.tmp 37), none⟩,
    ⟨some 39, .move (.tmp 3), some (38, false)⟩,
    ⟨some 40, .move (.tmp 0), some (38, false)⟩,
    ⟨some 41, .call { callee := .builtin .len, args := #[.tmp 40], argTypes := #[22] }, some (38, false)⟩,
    ⟨some 42, .call { callee := .builtin .min, args := #[.tmp 41, .const (.int .i64 2)], argTypes := #[3, 3] }, some (38, false)⟩,
    ⟨some 43, .binOp .lss 3 (.tmp 39) (.tmp 42) 3, some (38, false)⟩,
    ⟨some 44, .pick (.tmp 38) (.const (.bool true)) (.tmp 43), none⟩,
    ⟨some 45, .move (.tmp 44), none⟩,
    ⟨some 46, .move (.tmp 3), some (45, false)⟩,
    ⟨some 47, .move (.tmp 0), some (45, false)⟩,
    ⟨some 48, .call { callee := .builtin .len, args := #[.tmp 47], argTypes := #[22] }, some (45, false)⟩,
    ⟨some 49, .binOp .gtr 3 (.tmp 46) (.tmp 48) 3, some (45, false)⟩,
    ⟨some 50, .pick (.tmp 45) (.const (.bool true)) (.tmp 49), none⟩,
    ⟨some 51, .move (.tmp 50), none⟩,
    ⟨some 52, .move (.tmp 0), some (51, false)⟩,
    ⟨some 53, .call { callee := .builtin .len, args := #[.tmp 52], argTypes := #[22] }, some (51, false)⟩,
    ⟨some 54, .binOp .geq 3 (.tmp 53) (.const (.int .i64 4)) 3, some (51, false)⟩,
    ⟨some 55, .move (.tmp 54), some (51, false)⟩,
    ⟨some 56, .move (.tmp 3), some (55, true)⟩,
    ⟨some 57, .binOp .lss 3 (.tmp 56) (.const (.int .i64 3)) 3, some (55, true)⟩,
    ⟨some 58, .pick (.tmp 55) (.tmp 57) (.const (.bool false)), some (51, false)⟩,
    ⟨some 59, .pick (.tmp 51) (.const (.bool true)) (.tmp 58), none⟩,
    ⟨some 60, .move (.tmp 59), none⟩,
    ⟨some 61, .move (.tmp 0), some (60, false)⟩,
    ⟨some 62, .call { callee := .builtin .len, args := #[.tmp 61], argTypes := #[22] }, some (60, false)⟩,
    ⟨some 63, .binOp .geq 3 (.tmp 62) (.const (.int .i64 8)) 3, some (60, false)⟩,
    ⟨some 64, .move (.tmp 63), some (60, false)⟩,
    ⟨some 65, .move (.tmp 3), some (64, true)⟩,
    ⟨some 66, .binOp .lss 3 (.tmp 65) (.const (.int .i64 4)) 3, some (64, true)⟩,
    ⟨some 67, .pick (.tmp 64) (.tmp 66) (.const (.bool false)), some (60, false)⟩,
    ⟨some 68, .pick (.tmp 60) (.const (.bool true)) (.tmp 67), none⟩,
    ⟨some 69, .move (.tmp 68), none⟩,
    ⟨some 70, .move (.tmp 3), some (69, false)⟩,
    ⟨some 71, .move (.tmp 0), some (69, false)⟩,
    ⟨some 72, .call { callee := .builtin .len, args := #[.tmp 71], argTypes := #[22] }, some (69, false)⟩,
    ⟨some 73, .binOp .eql 3 (.tmp 70) (.tmp 72) 3, some (69, false)⟩,
    ⟨some 74, .move (.tmp 5), some (69, false)⟩,
    ⟨some 75, .call { callee := .builtin .len, args := #[.tmp 74], argTypes := #[36] }, some (69, false)⟩,
    ⟨some 76, .binOp .eql 3 (.tmp 75) (.const (.int .i64 0)) 3, some (69, false)⟩,
    ⟨some 77, .binOp .neq 4 (.tmp 73) (.tmp 76) 4, some (69, false)⟩,
    ⟨some 78, .pick (.tmp 69) (.const (.bool true)) (.tmp 77), none⟩]
@[reducible] def q7_6 : SCode := .region [⟨some 2, .assign (.const (.bool false)), none⟩]
@[reducible] def q7_7 : SCode := .region [⟨some 79, .move (.tmp 0), none⟩,
    ⟨some 80, .call { callee := .builtin .len, args := #[.tmp 79], argTypes := #[22] }, none⟩,
    ⟨some 81, .binOp .eql 3 (.tmp 80) (.const (.int .i64 1)) 3, none⟩]
@[reducible] def q7_8 : SCode := .region [⟨some 82, .call { callee := .value (.func 21), args := #[], argTypes := #[] }, none⟩,
    ⟨some 2, .assign (.tmp 82), none⟩]
@[reducible] def q7_9 : SCode := .region [⟨some 7, .assign (.const (.slice none 0 0)), none⟩]
@[reducible] def q7_10 : SCode := .region [⟨some 83, .move (.tmp 0), none⟩,
    ⟨some 84, .call { callee := .builtin .len, args := #[.tmp 83], argTypes := #[22] }, none⟩,
    ⟨some 85, .binOp .sub 3 (.tmp 84) (.const (.int .i64 1)) 3, none⟩,
    ⟨some 8, .assign (.tmp 85), none⟩]
@[reducible] def q7_11 : SCode := .region [⟨some 86, .move (.tmp 0), none⟩,
    ⟨some 87, .move (.tmp 8), none⟩,
    ⟨some 88, .slice 22 (.tmp 86) none (some (.tmp 87)) none, none⟩,
    ⟨some 89, .call { callee := .builtin .len, args := #[.tmp 88], argTypes := #[22] }, none⟩,
    ⟨some 90, .move (.const (.int .i64 0)), none⟩]
@[reducible] def q7_12 : SCode := .region [⟨some 91, .binOp .lss 3 (.tmp 90) (.tmp 89) 3, none⟩]
@[reducible] def q7_13 : SCode := .region [⟨some 92, .indexAddr 22 (.tmp 88) (.tmp 90), none⟩,
    ⟨some 93, .load 3 (.tmp 92), none⟩,
    ⟨some 10, .assign (.tmp 93), none⟩]
@[reducible] def q7_14 : SCode := .region [⟨some 94, .move (.tmp 7), none⟩,
    ⟨some 95, .move (.tmp 10), none⟩,
    ⟨some 96, .move (.tmp 8), none⟩,
    ⟨some 97, .binOp .shl 3 (.const (.int .i64 1)) (.tmp 96) 3, none⟩,
    ⟨some 98, .binOp .sub 3 (.tmp 97) (.const (.int .i64 1)) 3, none⟩,
    ⟨some 99, .binOp .and 3 (.tmp 95) (.tmp 98) 3, none⟩,
    ⟨some 100, .buildSlice 22 1 #[(0, .tmp 99)], none⟩,
    ⟨some 101, .call { callee := .builtin .append, args := #[.tmp 94, .tmp 100], argTypes := #[22, 22] }, none⟩,
    ⟨some 7, .assign (.tmp 101), none⟩]
@[reducible] def q7_15 : SCode := .region [⟨some 102, .binOp .add 3 (.tmp 90) (.const (.int .i64 1)) 3, none⟩,
    ⟨some 90, .move (.tmp 102), none⟩]
def l7_0 : SCode := (.seq q7_12 (.seq (.cond (.tmp 91) .skip (.exit 0)) (.seq (.block 1 (.seq q7_13 q7_14)) q7_15)))
@[reducible] def q7_16 : SCode := .region [⟨some 104, .move (.tmp 7), none⟩,
    ⟨some 105, .call { callee := .value (.func 36), args := #[.tmp 104], argTypes := #[22] }, none⟩,
    ⟨some 103, .move (.tmp 105), none⟩,
    ⟨some 106, .extract (.tmp 103) 0, none⟩,
    ⟨some 107, .extract (.tmp 103) 1, none⟩,
    ⟨some 11, .assign (.tmp 106), none⟩,
    ⟨some 6, .assign (.tmp 107), none⟩]
@[reducible] def q7_17 : SCode := .region [⟨some 108, .move (.tmp 6), none⟩,
    ⟨some 109, .binOp .eql 23 (.tmp 108) (.const (.int .i64 0)) 23, none⟩,
    ⟨some 110, .move (.tmp 109), none⟩,
    ⟨some 111, .move (.tmp 11), some (110, true)⟩,
    ⟨some 112, .move (.tmp 3), some (110, true)⟩,
    ⟨some 113, .binOp .eql 3 (.tmp 111) (.tmp 112) 3, some (110, true)⟩,
    ⟨some 114, .move (.tmp 113), some (110, true)⟩,
    ⟨some 115, .move (.tmp 11), some (114, false)⟩,
    ⟨some 116, .move (.tmp 3), some (114, false)⟩,
    ⟨some 117, .binOp .sub 3 (.tmp 116) (.const (.int .i64 1)) 3, some (114, false)⟩,
    ⟨some 118, .binOp .eql 3 (.tmp 115) (.tmp 117) 3, some (114, false)⟩,
    ⟨some 119, .pick (.tmp 114) (.const (.bool true)) (.tmp 118), some (110, true)⟩,
    ⟨some 120, .pick (.tmp 110) (.tmp 119) (.const (.bool false)), none⟩,
    ⟨some 121, .move (.tmp 120), none⟩,
    ⟨some 122, .call { callee := .value (.func 21), args := #[], argTypes := #[] }, some (121, true)⟩,
    ⟨some 123, .pick (.tmp 121) (.tmp 122) (.const (.bool false)), none⟩,
    ⟨some 2, .assign (.tmp 123), none⟩]
def s7 : SCode := (.seq q7_0 (.seq q7_1 (.seq (.seq q7_2 (.cond (.tmp 24) (.seq q7_3 .ret) .skip)) (.seq q7_4 (.seq (.seq q7_5 (.cond (.tmp 78) (.seq q7_6 .ret) .skip)) (.seq (.seq q7_7 (.cond (.tmp 81) (.seq q7_8 .ret) .skip)) (.seq q7_9 (.seq q7_10 (.seq (.seq q7_11 (.block 0 (.loop l7_0))) (.seq q7_16 (.seq q7_17 .ret)))))))))))
/-! 30: planchet ranks.Cycles -/
@[reducible] def q30_0 : SCode := .region [⟨some 2, .assign (.const (.slice none 0 0)), none⟩,
    ⟨some 3, .assign (.const (.int .i64 0)), none⟩]
@[reducible] def q30_1 : SCode := .region [⟨some 4, .move (.tmp 0), none⟩,
    ⟨some 5, .call { callee := .value (.func 56), args := #[.tmp 4], argTypes := #[55] }, none⟩,
    ⟨some 6, .unOp .not 4 (.tmp 5), none⟩]
@[reducible] def q30_2 : SCode := .region [⟨some 2, .assign (.const (.slice none 0 0)), none⟩,
    ⟨some 3, .assign (.const (.int .i64 2)), none⟩]
@[reducible] def q30_3 : SCode := .region [⟨some 7, .move (.tmp 0), none⟩,
    ⟨some 8, .call { callee := .value (.func 64), args := #[.tmp 7], argTypes := #[55] }, none⟩,
    ⟨some 2, .assign (.tmp 8), none⟩,
    ⟨some 3, .assign (.const (.int .i64 0)), none⟩]
def s30 : SCode := (.seq q30_0 (.seq (.seq q30_1 (.cond (.tmp 6) (.seq q30_2 .ret) .skip)) (.seq q30_3 .ret)))
theorem s30_strip : stripC (bodyOf Tryd.f30) = s30 := by kernel_rfl
theorem s30_ok : codeOK 9 (bodyOf Tryd.f30) = true := by kernel_rfl
theorem s30_call [Tabs Tryd.prog] {args : List Value} {h : Heap} {Q : Value → Heap → Prop} (hsz : args.length ≤ 9) (hk : aw Tryd.prog 9 s30 (aPost Tryd.prog [.tmp 2, .tmp 3] Q) (argEnv 0 args) h) : ACall Tryd.prog 30 args h Q :=
  acall_s Tryd.func30 rfl (enters_of Tryd.func30 (by kernel_rfl) rfl) rfl rfl (by decide) s30_strip s30_ok hsz hk

/-! 64: (planchet ranks.tournament).cycles -/
@[reducible] def q64_0 : SCode := .region [⟨some 1, .box 55 (.tmp 0), none⟩,
    ⟨some 2, .assign (.const (.slice none 0 0)), none⟩]
@[reducible] def q64_1 : SCode := .region [⟨some 3, .alloc 36, none⟩]
@[reducible] def q64_2 : SCode := .region [⟨some 7, .load 55 (.tmp 1), none⟩,
    ⟨some 8, .call { callee := .builtin .len, args := #[.tmp 7], argTypes := #[55] }, none⟩,
    ⟨some 9, .move (.const (.int .i64 0)), none⟩]
@[reducible] def q64_3 : SCode := .region [⟨some 10, .binOp .lss 3 (.tmp 9) (.tmp 8) 3, none⟩]
@[reducible] def q64_4 : SCode := .region [⟨some 11, .move (.tmp 9), none⟩,
    ⟨some 4, .alloc 3, none⟩,
    ⟨none, .store 3 (.tmp 4) (.tmp 11), none⟩]
@[reducible] def q64_5 : SCode := .region [⟨some 12, .load 55 (.tmp 1), none⟩,
    ⟨some 13, .load 3 (.tmp 4), none⟩,
    ⟨some 14, .indexAddr 55 (.tmp 12) (.tmp 13), none⟩,
    ⟨some 15, .load 3 (.tmp 14), none⟩,
    ⟨some 16, .call { callee := .value (.func 62), args := #[.tmp 15], argTypes := #[3] }, none⟩]
@[reducible] def q64_6 : SCode := .region [⟨some 5, .alloc 3, none⟩,
    ⟨none, .store 3 (.tmp 5) (.tmp 17), none⟩]
@[reducible] def q64_7 : SCode := .region [⟨some 18, .load 55 (.tmp 1), none⟩,
    ⟨some 19, .load 3 (.tmp 5), none⟩,
    ⟨some 20, .indexAddr 55 (.tmp 18) (.tmp 19), none⟩,
    ⟨some 21, .load 3 (.tmp 20), none⟩,
    ⟨some 22, .call { callee := .value (.func 62), args := #[.tmp 21], argTypes := #[3] }, none⟩]
@[reducible] def q64_8 : SCode := .region [⟨some 6, .assign (.tmp 23), none⟩]
@[reducible] def q64_9 : SCode := .region [⟨some 24, .load 3 (.tmp 4), none⟩,
    ⟨some 25, .load 3 (.tmp 5), none⟩,
    ⟨some 26, .binOp .lss 3 (.tmp 24) (.tmp 25) 3, none⟩,
    ⟨some 27, .move (.tmp 26), none⟩,
    ⟨some 28, .load 3 (.tmp 4), some (27, true)⟩,
    ⟨some 29, .move (.tmp 6), some (27, true)⟩,
    ⟨some 30, .binOp .lss 3 (.tmp 28) (.tmp 29) 3, some (27, true)⟩,
    ⟨some 31, .pick (.tmp 27) (.tmp 30) (.const (.bool false)), none⟩,
    ⟨some 32, .move (.tmp 31), none⟩,
    ⟨some 33, .load 55 (.tmp 1), some (32, true)⟩,
    ⟨some 34, .move (.tmp 6), some (32, true)⟩,
    ⟨some 35, .load 3 (.tmp 4), some (32, true)⟩,
    ⟨some 36, .call { callee := .value (.func 60), args := #[.tmp 33, .tmp 34, .tmp 35], argTypes := #[55, 3, 3] }, some (32, true)⟩,
    ⟨some 37, .pick (.tmp 32) (.tmp 36) (.const (.bool false)), none⟩]
@[reducible] def q64_10 : SCode := .region [⟨some 38, .load 36 (.tmp 3), none⟩,
    ⟨some 39, .load 3 (.tmp 4), none⟩,
    ⟨some 40, .load 3 (.tmp 5), none⟩,
    ⟨some 41, .move (.tmp 6), none⟩,
    ⟨some 42, .build 40 #[(0, .tmp 39), (1, .tmp 40), (2, .tmp 41)], none⟩,
    ⟨some 43, .buildSlice 36 1 #[(0, .tmp 42)], none⟩,
    ⟨some 44, .call { callee := .builtin .append, args := #[.tmp 38, .tmp 43], argTypes := #[36, 36] }, none⟩,
    ⟨none, .store 36 (.tmp 3) (.tmp 44), none⟩]
def r64_0_a : SCode := q64_8
def r64_0_b : SCode := (.block 5 (.seq q64_9 (.cond (.tmp 37) q64_10 .skip)))
def r64_1_a : SCode := q64_6
def r64_1_b : SCode := (.block 3 (.seq q64_7 (.block 4 (.range (.tmp 22) [23] r64_0_a r64_0_b))))
@[reducible] def q64_11 : SCode := .region [⟨some 45, .binOp .add 3 (.tmp 9) (.const (.int .i64 1)) 3, none⟩,
    ⟨some 9, .move (.tmp 45), none⟩]
def l64_2 : SCode := (.seq q64_3 (.seq (.cond (.tmp 10) .skip (.exit 0)) (.seq (.block 1 (.seq q64_4 (.seq q64_5 (.block 2 (.range (.tmp 16) [17] r64_1_a r64_1_b))))) q64_11)))
@[reducible] def q64_12 : SCode := .region [⟨some 46, .load 36 (.tmp 3), none⟩,
    ⟨some 2, .assign (.tmp 46), none⟩]
def s64 : SCode := (.seq q64_0 (.seq q64_1 (.seq (.seq q64_2 (.block 0 (.loop l64_2))) (.seq q64_12 .ret))))
theorem s64_strip : stripC (bodyOf Tryd.f64) = s64 := by kernel_rfl
theorem s64_ok : codeOK 47 (bodyOf Tryd.f64) = true := by kernel_rfl
theorem s64_call [Tabs Tryd.prog] {args : List Value} {h : Heap} {Q : Value → Heap → Prop} (hsz : args.length ≤ 47) (hk : aw Tryd.prog 47 s64 (aPost Tryd.prog [.tmp 2] Q) (argEnv 0 args) h) : ACall Tryd.prog 64 args h Q :=
  acall_s Tryd.func64 rfl (enters_of Tryd.func64 (by kernel_rfl) rfl) rfl rfl (by decide) s64_strip s64_ok hsz hk

/-! 67: slices.ContainsFunc[[][3]int,[3]int] -/
@[reducible] def q67_0 : SCode := .region [⟨some 4, .assign (.const (.bool false)), none⟩]
@[reducible] def q67_1 : SCode := .region [⟨some 5, .move (.tmp 0), none⟩,
    ⟨some 6, .move (.tmp 1), none⟩,
    ⟨some 7, .call { callee := .value (.func 95), args := #[.tmp 5, .tmp 6], argTypes := #[36, 67] }, none⟩,
    ⟨some 8, .binOp .geq 3 (.tmp 7) (.const (.int .i64 0)) 3, none⟩,
    ⟨some 4, .assign (.tmp 8), none⟩]
def s67 : SCode := (.seq q67_0 (.seq q67_1 .ret))
theorem s67_strip : stripC (bodyOf Tryd.f67) = s67 := by kernel_rfl
theorem s67_ok : codeOK 9 (bodyOf Tryd.f67) = true := by kernel_rfl
theorem s67_call [Tabs Tryd.prog] {args : List Value} {h : Heap} {Q : Value → Heap → Prop} (hsz : args.length ≤ 9) (hk : aw Tryd.prog 9 s67 (aPost Tryd.prog [.tmp 4] Q) (argEnv 0 args) h) : ACall Tryd.prog 67 args h Q :=
  acall_s Tryd.func67 rfl (enters_of Tryd.func67 (by kernel_rfl) rfl) rfl rfl (by decide) s67_strip s67_ok hsz hk

/-! 95: slices.IndexFunc[[][3]int,[3]int] -/
@[reducible] def q95_0 : SCode := .region [⟨some 4, .assign (.const (.int .i64 0)), none⟩]
@[reducible] def q95_1 : SCode := .region [⟨some 6, .move (.tmp 0), none⟩,
    ⟨some 7, .call { callee := .builtin .len, args := #[.tmp 6], argTypes := #[36] }, none⟩,
    ⟨some 8, .move (.const (.int .i64 0)), none⟩]
@[reducible] def q95_2 : SCode := .region [⟨some 9, .binOp .lss 3 (.tmp 8) (.tmp 7) 3, none⟩]
@[reducible] def q95_3 : SCode := .region [⟨some 10, .move (.tmp 8), none⟩,
    ⟨some 5, .assign (.tmp 10), none⟩]
@[reducible] def q95_4 : SCode := .region [⟨some 11, .move (.tmp 1), none⟩,
    ⟨some 12, .move (.tmp 0), none⟩,
    ⟨some 13, .move (.tmp 5), none⟩,
    ⟨some 14, .indexAddr 36 (.tmp 12) (.tmp 13), none⟩,
    ⟨some 15, .load 40 (.tmp 14), none⟩,
    ⟨some 16, .call { callee := .value (.tmp 11), args := #[.tmp 15], argTypes := #[40] }, none⟩]
@[reducible] def q95_5 : SCode := .region [⟨some 17, .move (.tmp 5), none⟩,
    ⟨some 4, .assign (.tmp 17), none⟩]
@[reducible] def q95_6 : SCode := .region [⟨some 18, .binOp .add 3 (.tmp 8) (.const (.int .i64 1)) 3, none⟩,
    ⟨some 8, .move (.tmp 18), none⟩]
def l95_0 : SCode := (.seq q95_2 (.seq (.cond (.tmp 9) .skip (.exit 0)) (.seq (.block 1 (.seq q95_3 (.seq q95_4 (.cond (.tmp 16) (.seq q95_5 .ret) .skip)))) q95_6)))
@[reducible] def q95_7 : SCode := .region [⟨some 4, .assign (.const (.int .i64 (-1))), none⟩]
def s95 : SCode := (.seq q95_0 (.seq (.seq q95_1 (.block 0 (.loop l95_0))) (.seq q95_7 .ret)))
theorem s95_strip : stripC (bodyOf Tryd.f95) = s95 := by kernel_rfl
theorem s95_ok : codeOK 19 (bodyOf Tryd.f95) = true := by kernel_rfl
theorem s95_call [Tabs Tryd.prog] {args : List Value} {h : Heap} {Q : Value → Heap → Prop} (hsz : args.length ≤ 19) (hk : aw Tryd.prog 19 s95 (aPost Tryd.prog [.tmp 4] Q) (argEnv 0 args) h) : ACall Tryd.prog 95 args h Q :=
  acall_s Tryd.func95 rfl (enters_of Tryd.func95 (by kernel_rfl) rfl) rfl rfl (by decide) s95_strip s95_ok hsz hk

end Go.Proofs.Tryd.Am

namespace Go.Proofs.Tryd.Am
open Go.Am
set_option maxRecDepth 100000
set_option maxHeartbeats 1000000

/-- The cycles under way: t's box and the list's box; what lay before lies as it lay. -/
structure CS (h : Heap) (n : Nat) (v : Value) (hp : Heap) (ov : Value) (ts : List T3) : Prop where
  t : hp[n]? = some (.cells [v] 55 false)
  o : hp[n + 1]? = some (.cells [ov] 36 false)
  own : OwnT 40 hp ov ts
  blk : ∀ b, blkOf ov = some b → n + 2 ≤ b
  ext : Ext (fun _ => False) h hp
  len : h.length = n
/-- What a part of the run may touch. -/
def cS (n : Nat) (ov : Value) (i : Nat) : Prop := i = n + 1 ∨ blkOf ov = some i
def Mv (n : Nat) (ov : Value) (h : Heap) (ov' : Value) (h' : Heap) : Prop := Ext (cS n ov) h h' ∧ (blkOf ov' = blkOf ov ∨ ∃ b, blkOf ov' = some b ∧ h.length ≤ b)
section
variable {h hp hq : Heap} {n : Nat} {v ov ov' ov2 : Value} {ts : List T3}
theorem _root_.Go.Am.OwnT.notCells {e e2 : TypeId} {c : List Value} {ro : Bool} {j : Nat} (ho : OwnT e hp v ts) (hj : hp[j]? = some (.cells c e2 ro)) : blkOf v ≠ some j := fun hb => by
  obtain ⟨ys, hy⟩ := ho.ints hb
  rw [hj] at hy; cases hy
theorem CS.new (s : CS h n v hp ov ts) (hE : Ext (fun _ => False) hp hq) : CS h n v hq ov ts :=
  ⟨(hE.2 _ (get_lt s.t) id).trans s.t, (hE.2 _ (get_lt s.o) id).trans s.o, s.own.ext hE, s.blk, s.ext.trans hE, s.len⟩
theorem Mv.new (hE : Ext (fun _ => False) hp hq) : Mv n ov hp ov hq := ⟨hE.mono fun _ h => h.elim, .inl rfl⟩
theorem Mv.trans (a : Mv n ov h ov' hp) (b : Mv n ov' hp ov2 hq) (hn : n + 1 < h.length) : Mv n ov h ov2 hq := by
  have hl := a.1.1
  refine ⟨⟨Nat.le_trans hl b.1.1, fun i hi hs => ?_⟩, ?_⟩
  · rw [b.1.2 i (by omega) ?_, a.1.2 i hi hs]
    rintro (h1 | h1)
    · exact hs (.inl h1)
    · rcases a.2 with h2 | ⟨b', h2, h3⟩
      · exact hs (.inr (h2 ▸ h1))
      · rw [h2] at h1; cases h1; omega
  · rcases b.2 with h1 | ⟨b', h1, h2⟩
    · rw [h1]; exact a.2
    · exact .inr ⟨b', h1, by omega⟩
theorem Mv.box (m : Mv n ov hp ov' hq) (s : CS h n v hp ov ts) {j : Nat} {c : List Value} {e : TypeId} {ro : Bool} (hj : hp[j]? = some (.cells c e ro)) (hn : n + 2 ≤ j) : hq[j]? = some (.cells c e ro) := by
  rw [m.1.2 j (get_lt hj) ?_]
  · exact hj
  · rintro (h1 | h1)
    · omega
    · exact s.own.notCells hj h1
/-- One cycle more. -/
theorem CS.push (s : CS h n v hp ov ts) {t : T3} (hE : Ext (fun i => blkOf ov = some i) hp hq) (ho : OwnT 40 hq ov' (ts ++ [t])) (hb : blkOf ov' = blkOf ov ∨ ∃ b, blkOf ov' = some b ∧ hp.length ≤ b) :
    CS h n v (hq.set (n + 1) (.cells [ov'] 36 false)) ov' (ts ++ [t]) ∧ Mv n ov hp ov' (hq.set (n + 1) (.cells [ov'] 36 false)) := by
  have hl := hE.1
  have ho1 := get_lt s.o
  have hnb : ∀ b, blkOf ov' = some b → n + 2 ≤ b := fun b hbb => by
    rcases hb with h1 | ⟨b', h1, h2⟩
    · exact s.blk b (h1 ▸ hbb)
    · rw [h1] at hbb; cases hbb; omega
  refine ⟨⟨?_, get_set (by omega) _, ?_, hnb, ⟨?_, fun i hi _ => ?_⟩, s.len⟩, ⟨(hE.mono fun _ h => .inr h).trans (Ext.set _ (.inl rfl)), hb⟩⟩
  · rw [List.getElem?_set_ne (by omega), hE.2 _ (get_lt s.t) (s.own.notCells s.t)]; exact s.t
  · exact ho.same fun b hbb => List.getElem?_set_ne (by have := hnb b hbb; omega)
  · have := s.ext.1; simp; omega
  · have := s.ext.1
    have hsl := s.len
    rw [List.getElem?_set_ne (by omega), hE.2 i (by omega) fun hbb => by have := s.blk i hbb; omega]
    exact s.ext.2 i hi id
end
theorem boxS {h : Heap} {v : Value} {xs : List Int} (hv : IntSl h v xs) {K : Value → Heap → Prop} : boxK prog h 55 v K = K (newPtr h) (h ++ [.cells [v] 55 false]) := by
  rcases hv with ⟨rfl, _⟩ | ⟨b, o, sp, cap, c, e, ro, rfl, _⟩ <;> simp [boxK, esz_55, cellsOf]
theorem newBox (g : Heap) (x : Int) : ((g ++ [Blk.cells [.int .i64 0] 3 false]).set g.length (.cells [.int .i64 x] 3 false))[g.length]? = some (.cells [.int .i64 x] 3 false) ∧ Ext (fun _ => False) g ((g ++ [Blk.cells [.int .i64 0] 3 false]).set g.length (.cells [.int .i64 x] 3 false)) :=
  ⟨get_set (by simp) _, by simp, fun i hi _ => by rw [List.getElem?_set_ne (by omega), List.getElem?_append_left hi]⟩
theorem deadBox (g : Heap) (B : Blk) : Ext (fun _ => False) g ((g ++ [B]).set g.length .dead) :=
  ⟨by simp, fun i hi _ => by rw [List.getElem?_set_ne (by omega), List.getElem?_append_left hi]⟩
theorem bld3 {x y z : Int} {K : Value → Prop} : buildK prog 40 [(0, vint x), (1, vint y), (2, vint z)] K = K (.agg #[vint x, vint y, vint z]) := by
  simp [buildK, zero_40, fillL, pl_40_0, pl_40_1, pl_40_2, notTuple, cellsOf, splice]
theorem cX_le {xs : List Int} (h : trn xs = true) {a : Nat} {pre : List Nat} (hp : ∀ x ∈ pre, x < xs.length) (hl : pre.length ≤ 8) : (cX xs a pre).length ≤ 64 := by
  have := flat_le (f := fun x => cC xs a x (Am.bits (xs.getD x 0).toNat)) (k := 8) pre fun x hx => Nat.le_trans (cC_le _) (bits_len8 h (hp x hx))
  have e : cX xs a pre = pre.flatMap fun x => cC xs a x (Am.bits (xs.getD x 0).toNat) := rfl
  rw [e]; omega
theorem bits_in {xs : List Int} (h : trn xs = true) {i : Nat} (hi : i < xs.length) {x : Nat} (hx : x ∈ Am.bits (xs.getD i 0).toNat) : x < xs.length ∧ bb xs i x = true := by
  rw [bits_bb h hi, List.mem_filter, List.mem_range] at hx; exact hx
theorem cA_le {xs : List Int} (h : trn xs = true) {k : Nat} (hk : k ≤ xs.length) : (cA xs k).length ≤ 512 := by
  have hl := trn_len h
  have := flat_le (f := fun a => cX xs a (Am.bits (xs.getD a 0).toNat)) (k := 64) (List.range k) fun a ha => cX_le h (fun x hx => (bits_in h (by have := List.mem_range.1 ha; omega) hx).1) (bits_len8 h (by have := List.mem_range.1 ha; omega))
  have e : cA xs k = (List.range k).flatMap fun a => cX xs a (Am.bits (xs.getD a 0).toNat) := rfl
  rw [e]; rw [List.length_range] at this; omega
theorem pre_sub {α : Type} {pre l : List α} {x : α} (h : pre ++ [x] <+: l) : ∀ y ∈ pre, y ∈ l := fun y hy => h.subset (by simp [hy])
theorem pre_len {α : Type} {pre l : List α} {x : α} (h : pre ++ [x] <+: l) : pre.length ≤ l.length := by
  have := h.length_le
  simp at this; omega

theorem cycles_call [BitTab prog 1] {h : Heap} {v : Value} {xs : List Int} (hv : IntSl h v xs) (ht : trn xs = true) : ACall prog 64 [v] h fun r h' => OwnT 40 h' r (cA xs xs.length) ∧ Ext (fun _ => False) h h' := by
  have hl := trn_len ht
  have hpw : 2 ^ xs.length ≤ 2 ^ 8 := Nat.pow_le_pow_right (by decide) hl.2
  refine s64_call (by simp) ?_
  simp only [s64]
  refine aw_cut fun N hN => ?_
  simp (maxSteps := 2000000) only [s64, ↓aw_region, ↓aw_skip, ↓aw_seq, ↓aw_block, ↓aw_exit, ↓aw_ret, ↓sops_nil, ↓sops_go, ↓dops_nil, ↓dopsX_nil, ↓dopsR_nil, ↓vdn, vup, extr_20, extr_21, extr_30, extr_31, extr_32, List.map_cons, List.map_nil, cond_true, cond_false, aop, aThen, aBlock, argEnv, ev, sput, sputO, binK, binI, unK, builtinK, pickK, Nat.reduceBEq, Nat.reduceAdd, Int.reduceBEq, Int.reduceBNe, Int.reduceLT, aPost, resK, tup, tyf, boxS hv, newPtr]
  refine hN _ _ ?_
  clear hN N
  refine aw_cut fun N hN => ?_
  simp (maxSteps := 2000000) only [s64, ↓aw_region, ↓aw_skip, ↓aw_seq, ↓aw_block, ↓aw_exit, ↓aw_ret, ↓sops_nil, ↓sops_go, ↓dops_nil, ↓dopsX_nil, ↓dopsR_nil, ↓vdn, vup, extr_20, extr_21, extr_30, extr_31, extr_32, List.map_cons, List.map_nil, cond_true, cond_false, aop, aThen, aBlock, argEnv, ev, sput, sputO, binK, binI, unK, builtinK, pickK, Nat.reduceBEq, Nat.reduceAdd, Int.reduceBEq, Int.reduceBNe, Int.reduceLT, aPost, resK, tup, tyf, allocK, newPtr, zero_36]
  refine hN _ _ ?_
  clear hN N
  obtain ⟨n, hn⟩ : ∃ n, n = h.length := ⟨_, rfl⟩
  simp only [List.length_append, List.length_cons, List.length_nil, Nat.zero_add, ← hn]
  have s0 : CS h n v (h ++ [Blk.cells [v] 55 false] ++ [Blk.cells [.slice none 0 0] 36 false]) (.slice none 0 0) [] :=
    ⟨by rw [hn]; exact get_old (get_new _ _) _, by have := get_new (h ++ [Blk.cells [v] 55 false]) (Blk.cells [.slice none 0 0] 36 false); simpa [hn] using this, .inl ⟨rfl, rfl⟩, fun _ h => (by cases h), by rw [List.append_assoc]; exact Ext.app _ _ _, hn.symm⟩
  generalize h ++ [Blk.cells [v] 55 false] ++ [Blk.cells [.slice none 0 0] 36 false] = H at s0 ⊢
  refine aw_cut fun N hN => ?_
  simp (maxSteps := 2000000) only [s64, ↓aw_region, ↓aw_skip, ↓aw_seq, ↓aw_block, ↓aw_exit, ↓aw_ret, ↓sops_nil, ↓sops_go, ↓dops_nil, ↓dopsX_nil, ↓dopsR_nil, ↓vdn, vup, extr_20, extr_21, extr_30, extr_31, extr_32, List.map_cons, List.map_nil, cond_true, cond_false, aop, aThen, aBlock, argEnv, ev, sput, sputO, binK, binI, unK, builtinK, pickK, Nat.reduceBEq, Nat.reduceAdd, Int.reduceBEq, Int.reduceBNe, Int.reduceLT, aPost, resK, tup, tyf, load1 s0.t shp_55, (IntSl_ext hv s0.ext).len, ↓aw_loop_eq]
  refine aws_hide fun Q hQ => ?_
  refine aw_loop (γ := Nat × Value × Heap) (fun s => s.1 ≤ xs.length ∧ CS h n v s.2.2 s.2.1 (cA xs s.1))
    (fun s => ([(0, v), (1, .pointer (some ⟨n, 0, none⟩)), (2, .slice none 0 0), (3, .pointer (some ⟨n + 1, 0, none⟩)), (8, vint xs.length), (9, vint s.1)], s.2.2)) (fun s => xs.length - s.1) (0, .slice none 0 0, H) ⟨Nat.zero_le _, s0⟩ (by simp (maxSteps := 2000000) only [↓aw_region, ↓aw_skip, ↓aw_seq, ↓aw_block, ↓aw_exit, ↓aw_ret, ↓sops_nil, ↓sops_go, ↓dops_nil, ↓dopsX_nil, ↓dopsR_nil, ↓vdn, vup, extr_20, extr_21, extr_30, extr_31, extr_32, List.map_cons, List.map_nil, cond_true, cond_false, aop, aThen, aBlock, argEnv, ev, sput, sputO, binK, binI, unK, builtinK, pickK, Nat.reduceBEq, Nat.reduceAdd, Int.reduceBEq, Int.reduceBNe, Int.reduceLT, aPost, resK, tup, tyf, Int.natCast_zero]) rfl ?_
  rintro ⟨a, ov, hp⟩ ⟨ha, s⟩
  simp only at ha s
  refine aw_hide fun Q2 hQ2 => ?_
  by_cases hin : (a : Int) < xs.length
  · have ha' : a < xs.length := by omega
    obtain ⟨hX, hXl⟩ := trn_nat ht ha'
    simp only [l64_2]
    obtain ⟨ba1, hE1⟩ := newBox hp a
    have s1 := s.new hE1
    have hlp : n + 2 ≤ hp.length := by have := get_lt s.o; omega
    simp (maxSteps := 2000000) only [s64, ↓aw_region, ↓aw_skip, ↓aw_seq, ↓aw_block, ↓aw_exit, ↓aw_ret, ↓sops_nil, ↓sops_go, ↓dops_nil, ↓dopsX_nil, ↓dopsR_nil, ↓vdn, vup, extr_20, extr_21, extr_30, extr_31, extr_32, List.map_cons, List.map_nil, cond_true, cond_false, aop, aThen, aBlock, argEnv, ev, sput, sputO, binK, binI, unK, builtinK, pickK, Nat.reduceBEq, Nat.reduceAdd, Int.reduceBEq, Int.reduceBNe, Int.reduceLT, aPost, resK, tup, tyf, hin, allocK, newPtr, zero_3]
    rw [storeI (get_new _ _) shp_3]
    generalize hba : hp.length = ba at ba1 hE1 hlp s1 ⊢
    generalize (hp ++ [Blk.cells [.int .i64 0] 3 false]).set ba (.cells [.int .i64 (a : Int)] 3 false) = h1 at ba1 hE1 s1 ⊢
    have hv1 := IntSl_ext hv s1.ext
    simp (maxSteps := 2000000) only [s64, ↓aw_region, ↓aw_skip, ↓aw_seq, ↓aw_block, ↓aw_exit, ↓aw_ret, ↓sops_nil, ↓sops_go, ↓dops_nil, ↓dopsX_nil, ↓dopsR_nil, ↓vdn, vup, extr_20, extr_21, extr_30, extr_31, extr_32, List.map_cons, List.map_nil, cond_true, cond_false, aop, aThen, aBlock, argEnv, ev, sput, sputO, binK, binI, unK, builtinK, pickK, Nat.reduceBEq, Nat.reduceAdd, Int.reduceBEq, Int.reduceBNe, Int.reduceLT, aPost, resK, tup, tyf, load1 s1.t shp_55, load1 ba1 shp_3, hv1.idx el_55 esz_3 ha', hv1.load shp_3 ha', callK, List.nil_append, List.append_nil, List.toList_toArray, List.cons_append]
    refine players_call.mono ?_
    rintro _ _ ⟨rfl, rfl⟩
    simp (maxSteps := 2000000) only [s64, ↓aw_region, ↓aw_skip, ↓aw_seq, ↓aw_block, ↓aw_exit, ↓aw_ret, ↓sops_nil, ↓sops_go, ↓dops_nil, ↓dopsX_nil, ↓dopsR_nil, ↓vdn, vup, extr_20, extr_21, extr_30, extr_31, extr_32, List.map_cons, List.map_nil, cond_true, cond_false, aop, aThen, aBlock, argEnv, ev, sput, sputO, binK, binI, unK, builtinK, pickK, Nat.reduceBEq, Nat.reduceAdd, Int.reduceBEq, Int.reduceBNe, Int.reduceLT, aPost, resK, tup, tyf, newPtr]
    have hE2 := deadBox h1 (Blk.cells [vint (xs.getD a 0)] 3 false)
    have s2 := s1.new hE2
    have ba2 := (hE2.2 _ (get_lt ba1) id).trans ba1
    have hlb : n + 2 ≤ h1.length := by have := get_lt s1.o; omega
    generalize hX2 : (xs.getD a 0).toNat = X at hX hXl
    refine aw_range bitIter (bx := h1.length) (s := X) (et := 3) rfl (by rw [hX]; exact get_new _ _) (by omega) (fun pre hk => ∃ ov', CS h n v hk ov' (cA xs a ++ cX xs a pre) ∧ Mv n ov ((h1 ++ [Blk.cells [vint (xs.getD a 0)] 3 false]).set h1.length .dead) ov' hk) ?_ ?_ ?_
    · exact ⟨ov, by simpa [cX] using s2, Mv.new (Ext.refl _ _)⟩
    · rintro pre x hk hpre ⟨ov1, s3, m3⟩
      have hxm := mem_pre hpre
      rw [← hX2] at hxm
      obtain ⟨hx', hxb⟩ := bits_in ht ha' hxm
      obtain ⟨hY, hYl⟩ := trn_nat ht hx'
      have ba3 := m3.box s2 ba2 (by omega)
      obtain ⟨bx4, hE4⟩ := newBox hk x
      have s4 := s3.new hE4
      have ba4 := (hE4.2 _ (get_lt ba3) id).trans ba3
      have hlk : n + 2 ≤ hk.length := by have := get_lt s3.o; omega
      simp (maxSteps := 2000000) only [s64, ↓aw_region, ↓aw_skip, ↓aw_seq, ↓aw_block, ↓aw_exit, ↓aw_ret, ↓sops_nil, ↓sops_go, ↓dops_nil, ↓dopsX_nil, ↓dopsR_nil, ↓vdn, vup, extr_20, extr_21, extr_30, extr_31, extr_32, List.map_cons, List.map_nil, cond_true, cond_false, aop, aThen, aBlock, argEnv, ev, sput, sputO, binK, binI, unK, builtinK, pickK, Nat.reduceBEq, Nat.reduceAdd, Int.reduceBEq, Int.reduceBNe, Int.reduceLT, aPost, resK, tup, tyf, r64_1_a, r64_1_b, allocK, newPtr, zero_3]
      rw [storeI (get_new _ _) shp_3]
      generalize hbx : hk.length = bx at bx4 hE4 hlk s4 ba4 ⊢
      generalize (hk ++ [Blk.cells [.int .i64 0] 3 false]).set bx (.cells [.int .i64 (x : Int)] 3 false) = h4 at bx4 hE4 s4 ba4 ⊢
      have hv4 := IntSl_ext hv s4.ext
      simp (maxSteps := 2000000) only [s64, ↓aw_region, ↓aw_skip, ↓aw_seq, ↓aw_block, ↓aw_exit, ↓aw_ret, ↓sops_nil, ↓sops_go, ↓dops_nil, ↓dopsX_nil, ↓dopsR_nil, ↓vdn, vup, extr_20, extr_21, extr_30, extr_31, extr_32, List.map_cons, List.map_nil, cond_true, cond_false, aop, aThen, aBlock, argEnv, ev, sput, sputO, binK, binI, unK, builtinK, pickK, Nat.reduceBEq, Nat.reduceAdd, Int.reduceBEq, Int.reduceBNe, Int.reduceLT, aPost, resK, tup, tyf, load1 s4.t shp_55, load1 bx4 shp_3, hv4.idx el_55 esz_3 hx', hv4.load shp_3 hx', callK, List.nil_append, List.append_nil, List.toList_toArray, List.cons_append]
      refine players_call.mono ?_
      rintro _ _ ⟨rfl, rfl⟩
      simp (maxSteps := 2000000) only [s64, ↓aw_region, ↓aw_skip, ↓aw_seq, ↓aw_block, ↓aw_exit, ↓aw_ret, ↓sops_nil, ↓sops_go, ↓dops_nil, ↓dopsX_nil, ↓dopsR_nil, ↓vdn, vup, extr_20, extr_21, extr_30, extr_31, extr_32, List.map_cons, List.map_nil, cond_true, cond_false, aop, aThen, aBlock, argEnv, ev, sput, sputO, binK, binI, unK, builtinK, pickK, Nat.reduceBEq, Nat.reduceAdd, Int.reduceBEq, Int.reduceBNe, Int.reduceLT, aPost, resK, tup, tyf, newPtr]
      have hE5 := deadBox h4 (Blk.cells [vint (xs.getD x 0)] 3 false)
      have s5 := s4.new hE5
      have ba5 := (hE5.2 _ (get_lt ba4) id).trans ba4
      have bx5 := (hE5.2 _ (get_lt bx4) id).trans bx4
      have m5 : Mv n ov1 hk ov1 ((h4 ++ [Blk.cells [vint (xs.getD x 0)] 3 false]).set h4.length .dead) := Mv.new (hE4.trans hE5)
      generalize hY2 : (xs.getD x 0).toNat = Y at hY hYl
      refine aw_range bitIter (bx := h4.length) (s := Y) (et := 3) rfl (by rw [hY]; exact get_new _ _) (by omega) (fun pre' hk' => ∃ ov2, CS h n v hk' ov2 (cA xs a ++ cX xs a pre ++ cC xs a x pre') ∧ Mv n ov1 ((h4 ++ [Blk.cells [vint (xs.getD x 0)] 3 false]).set h4.length .dead) ov2 hk') ?_ ?_ ?_
      · exact ⟨ov1, by simpa [cC] using s5, Mv.new (Ext.refl _ _)⟩
      · rintro pre' c hk' hpre' ⟨ov2, s6, m6⟩
        have hcm := mem_pre hpre'
        rw [← hY2] at hcm
        obtain ⟨hc', hcb⟩ := bits_in ht hx' hcm
        obtain ⟨hC, hCl⟩ := trn_nat ht hc'
        have ba6 := m6.box s5 ba5 (by omega)
        have bx6 := m6.box s5 bx5 (by omega)
        have hv6 := IntSl_ext hv s6.ext
        have hlen : (cA xs a ++ cX xs a pre ++ cC xs a x pre').length ≤ 1024 := by
          have g1 := cA_le ht (show a ≤ xs.length by omega)
          have g2 := cX_le ht (a := a) (pre := pre) (fun y hy => (bits_in ht ha' (by rw [hX2]; exact pre_sub hpre y hy)).1) (Nat.le_trans (pre_len hpre) (by rw [← hX2]; exact bits_len8 ht ha'))
          have g3 := cC_le (xs := xs) (a := a) (x := x) pre'
          have g4 := Nat.le_trans (pre_len hpre') (by rw [← hY2]; exact bits_len8 ht hx')
          simp only [List.length_append]; omega
        have stay : ¬ (a < x ∧ a < c ∧ bb xs c a = true) → ∃ ov2', CS h n v hk' ov2' (cA xs a ++ cX xs a pre ++ cC xs a x (pre' ++ [c])) ∧ Mv n ov1 ((h4 ++ [Blk.cells [vint (xs.getD x 0)] 3 false]).set h4.length .dead) ov2' hk' := fun hno => ⟨ov2, by rw [cC_snoc, if_neg hno, List.append_nil]; exact s6, m6⟩
        simp (maxSteps := 2000000) only [s64, ↓aw_region, ↓aw_skip, ↓aw_seq, ↓aw_block, ↓aw_exit, ↓aw_ret, ↓sops_nil, ↓sops_go, ↓dops_nil, ↓dopsX_nil, ↓dopsR_nil, ↓vdn, vup, extr_20, extr_21, extr_30, extr_31, extr_32, List.map_cons, List.map_nil, cond_true, cond_false, aop, aThen, aBlock, argEnv, ev, sput, sputO, binK, binI, unK, builtinK, pickK, Nat.reduceBEq, Nat.reduceAdd, Int.reduceBEq, Int.reduceBNe, Int.reduceLT, aPost, resK, tup, tyf, r64_0_a, r64_0_b]
        by_cases hax : a < x
        · have c1 : (a : Int) < (x : Int) := by omega
          by_cases hac : a < c
          · have c2 : (a : Int) < (c : Int) := by omega
            simp (maxSteps := 2000000) only [s64, ↓aw_region, ↓aw_skip, ↓aw_seq, ↓aw_block, ↓aw_exit, ↓aw_ret, ↓sops_nil, ↓sops_go, ↓dops_nil, ↓dopsX_nil, ↓dopsR_nil, ↓vdn, vup, extr_20, extr_21, extr_30, extr_31, extr_32, List.map_cons, List.map_nil, cond_true, cond_false, aop, aThen, aBlock, argEnv, ev, sput, sputO, binK, binI, unK, builtinK, pickK, Nat.reduceBEq, Nat.reduceAdd, Int.reduceBEq, Int.reduceBNe, Int.reduceLT, aPost, resK, tup, tyf, load1 ba6 shp_3, load1 bx6 shp_3, load1 s6.t shp_55, c1, c2, callK, List.nil_append, List.append_nil, List.toList_toArray, List.cons_append]
            refine (beats_call hv6 hc' (by omega) (by omega)).mono ?_
            rintro _ hk' ⟨rfl, rfl⟩
            cases hbb : bitI (xs.getD c 0) a with
            | false =>
              simp (maxSteps := 2000000) only [s64, ↓aw_region, ↓aw_skip, ↓aw_seq, ↓aw_block, ↓aw_exit, ↓aw_ret, ↓sops_nil, ↓sops_go, ↓dops_nil, ↓dopsX_nil, ↓dopsR_nil, ↓vdn, vup, extr_20, extr_21, extr_30, extr_31, extr_32, List.map_cons, List.map_nil, cond_true, cond_false, aop, aThen, aBlock, argEnv, ev, sput, sputO, binK, binI, unK, builtinK, pickK, Nat.reduceBEq, Nat.reduceAdd, Int.reduceBEq, Int.reduceBNe, Int.reduceLT, aPost, resK, tup, tyf, hbb, rangeQ]
              exact stay fun h => by rw [bb, hbb] at h; cases h.2.2
            | true =>
              simp (maxSteps := 2000000) only [s64, ↓aw_region, ↓aw_skip, ↓aw_seq, ↓aw_block, ↓aw_exit, ↓aw_ret, ↓sops_nil, ↓sops_go, ↓dops_nil, ↓dopsX_nil, ↓dopsR_nil, ↓vdn, vup, extr_20, extr_21, extr_30, extr_31, extr_32, List.map_cons, List.map_nil, cond_true, cond_false, aop, aThen, aBlock, argEnv, ev, sput, sputO, binK, binI, unK, builtinK, pickK, Nat.reduceBEq, Nat.reduceAdd, Int.reduceBEq, Int.reduceBNe, Int.reduceLT, aPost, resK, tup, tyf, hbb, load1 s6.o shp_36, load1 ba6 shp_3, load1 bx6 shp_3, List.toList_toArray, bld3, litT el_36 zero_40 esz_40]
              have hx1 : Ext (fun _ => False) hk' (hk' ++ [.ints [(a : Int), (x : Int), (c : Int)] 40 false]) := Ext.app _ _ _
              refine (s6.own.ext hx1).append app_36_36 (by omega) (get_new _ _) ?_
              intro ov3 h7 ho7 hx7 hb7
              have hx8 : Ext (fun i => blkOf ov2 = some i) hk' h7 := (hx1.mono fun _ h => h.elim).trans hx7
              have hb8 : blkOf ov3 = blkOf ov2 ∨ ∃ b, blkOf ov3 = some b ∧ hk'.length ≤ b := by
                rcases hb7 with h | ⟨b, h, hl⟩
                · exact .inl h
                · exact .inr ⟨b, h, by simp at hl; omega⟩
              have ho8 : h7[n + 1]? = some (.cells [ov2] 36 false) := (hx8.2 _ (get_lt s6.o) (s6.own.notCells s6.o)).trans s6.o
              obtain ⟨s9, m9⟩ := s6.push hx8 ho7 hb8
              simp (maxSteps := 2000000) only [s64, ↓aw_region, ↓aw_skip, ↓aw_seq, ↓aw_block, ↓aw_exit, ↓aw_ret, ↓sops_nil, ↓sops_go, ↓dops_nil, ↓dopsX_nil, ↓dopsR_nil, ↓vdn, vup, extr_20, extr_21, extr_30, extr_31, extr_32, List.map_cons, List.map_nil, cond_true, cond_false, aop, aThen, aBlock, argEnv, ev, sput, sputO, binK, binI, unK, builtinK, pickK, Nat.reduceBEq, Nat.reduceAdd, Int.reduceBEq, Int.reduceBNe, Int.reduceLT, aPost, resK, tup, tyf, store1 ho8 shp_36 ho7.one, rangeQ]
              refine ⟨ov3, ?_, m6.trans m9 (by have := get_lt s5.o; omega)⟩
              rw [cC_snoc, if_pos ⟨hax, hac, hbb⟩, ← List.append_assoc]
              exact s9
          · have c2 : ¬ (a : Int) < (c : Int) := by omega
            simp (maxSteps := 2000000) only [s64, ↓aw_region, ↓aw_skip, ↓aw_seq, ↓aw_block, ↓aw_exit, ↓aw_ret, ↓sops_nil, ↓sops_go, ↓dops_nil, ↓dopsX_nil, ↓dopsR_nil, ↓vdn, vup, extr_20, extr_21, extr_30, extr_31, extr_32, List.map_cons, List.map_nil, cond_true, cond_false, aop, aThen, aBlock, argEnv, ev, sput, sputO, binK, binI, unK, builtinK, pickK, Nat.reduceBEq, Nat.reduceAdd, Int.reduceBEq, Int.reduceBNe, Int.reduceLT, aPost, resK, tup, tyf, load1 ba6 shp_3, load1 bx6 shp_3, c1, c2, rangeQ]
            exact stay fun h => hac h.2.1
        · have c1 : ¬ (a : Int) < (x : Int) := by omega
          simp (maxSteps := 2000000) only [s64, ↓aw_region, ↓aw_skip, ↓aw_seq, ↓aw_block, ↓aw_exit, ↓aw_ret, ↓sops_nil, ↓sops_go, ↓dops_nil, ↓dopsX_nil, ↓dopsR_nil, ↓vdn, vup, extr_20, extr_21, extr_30, extr_31, extr_32, List.map_cons, List.map_nil, cond_true, cond_false, aop, aThen, aBlock, argEnv, ev, sput, sputO, binK, binI, unK, builtinK, pickK, Nat.reduceBEq, Nat.reduceAdd, Int.reduceBEq, Int.reduceBNe, Int.reduceLT, aPost, resK, tup, tyf, load1 ba6 shp_3, load1 bx6 shp_3, c1, rangeQ]
          exact stay fun h => hax h.1
      · rintro hk' ⟨ov2, s6, m6⟩
        simp (maxSteps := 2000000) only [s64, ↓aw_region, ↓aw_skip, ↓aw_seq, ↓aw_block, ↓aw_exit, ↓aw_ret, ↓sops_nil, ↓sops_go, ↓dops_nil, ↓dopsX_nil, ↓dopsR_nil, ↓vdn, vup, extr_20, extr_21, extr_30, extr_31, extr_32, List.map_cons, List.map_nil, cond_true, cond_false, aop, aThen, aBlock, argEnv, ev, sput, sputO, binK, binI, unK, builtinK, pickK, Nat.reduceBEq, Nat.reduceAdd, Int.reduceBEq, Int.reduceBNe, Int.reduceLT, aPost, resK, tup, tyf, rangeQ]
        refine ⟨ov2, ?_, (m3.trans m5 (by have := get_lt s2.o; omega)).trans m6 (by have := get_lt s2.o; omega)⟩
        rw [cX_snoc, hY2, ← List.append_assoc]
        exact s6
    · rintro hk ⟨ov1, s3, m3⟩
      simp (maxSteps := 2000000) only [s64, ↓aw_region, ↓aw_skip, ↓aw_seq, ↓aw_block, ↓aw_exit, ↓aw_ret, ↓sops_nil, ↓sops_go, ↓dops_nil, ↓dopsX_nil, ↓dopsR_nil, ↓vdn, vup, extr_20, extr_21, extr_30, extr_31, extr_32, List.map_cons, List.map_nil, cond_true, cond_false, aop, aThen, aBlock, argEnv, ev, sput, sputO, binK, binI, unK, builtinK, pickK, Nat.reduceBEq, Nat.reduceAdd, Int.reduceBEq, Int.reduceBNe, Int.reduceLT, aPost, resK, tup, tyf, add1 (show a < 9223372036854775807 by omega)]
      refine hQ2 _ _ _ ⟨(a + 1, ov1, hk), ⟨by simp only; omega, ?_⟩, by simp only; omega, by simp (maxSteps := 2000000) only [↓aw_region, ↓aw_skip, ↓aw_seq, ↓aw_block, ↓aw_exit, ↓aw_ret, ↓sops_nil, ↓sops_go, ↓dops_nil, ↓dopsX_nil, ↓dopsR_nil, ↓vdn, vup, extr_20, extr_21, extr_30, extr_31, extr_32, List.map_cons, List.map_nil, cond_true, cond_false, aop, aThen, aBlock, argEnv, ev, sput, sputO, binK, binI, unK, builtinK, pickK, Nat.reduceBEq, Nat.reduceAdd, Int.reduceBEq, Int.reduceBNe, Int.reduceLT, aPost, resK, tup, tyf], rfl⟩
      simp only
      rw [cA_succ, hX2]
      exact s3
  · obtain rfl : a = xs.length := by omega
    simp (maxSteps := 2000000) only [s64, ↓aw_region, ↓aw_skip, ↓aw_seq, ↓aw_block, ↓aw_exit, ↓aw_ret, ↓sops_nil, ↓sops_go, ↓dops_nil, ↓dopsX_nil, ↓dopsR_nil, ↓vdn, vup, extr_20, extr_21, extr_30, extr_31, extr_32, List.map_cons, List.map_nil, cond_true, cond_false, aop, aThen, aBlock, argEnv, ev, sput, sputO, binK, binI, unK, builtinK, pickK, Nat.reduceBEq, Nat.reduceAdd, Int.reduceBEq, Int.reduceBNe, Int.reduceLT, aPost, resK, tup, tyf, l64_2, Int.lt_irrefl]
    refine hQ2 _ _ _ (hQ _ _ _ ?_)
    simp (maxSteps := 2000000) only [s64, ↓aw_region, ↓aw_skip, ↓aw_seq, ↓aw_block, ↓aw_exit, ↓aw_ret, ↓sops_nil, ↓sops_go, ↓dops_nil, ↓dopsX_nil, ↓dopsR_nil, ↓vdn, vup, extr_20, extr_21, extr_30, extr_31, extr_32, List.map_cons, List.map_nil, cond_true, cond_false, aop, aThen, aBlock, argEnv, ev, sput, sputO, binK, binI, unK, builtinK, pickK, Nat.reduceBEq, Nat.reduceAdd, Int.reduceBEq, Int.reduceBNe, Int.reduceLT, aPost, resK, tup, tyf, if_true]
    refine hN _ _ ?_
    simp (maxSteps := 2000000) only [s64, ↓aw_region, ↓aw_skip, ↓aw_seq, ↓aw_block, ↓aw_exit, ↓aw_ret, ↓sops_nil, ↓sops_go, ↓dops_nil, ↓dopsX_nil, ↓dopsR_nil, ↓vdn, vup, extr_20, extr_21, extr_30, extr_31, extr_32, List.map_cons, List.map_nil, cond_true, cond_false, aop, aThen, aBlock, argEnv, ev, sput, sputO, binK, binI, unK, builtinK, pickK, Nat.reduceBEq, Nat.reduceAdd, Int.reduceBEq, Int.reduceBNe, Int.reduceLT, aPost, resK, tup, tyf, load1 s.o shp_36]
    exact ⟨s.own, s.ext⟩

end Go.Proofs.Tryd.Am
