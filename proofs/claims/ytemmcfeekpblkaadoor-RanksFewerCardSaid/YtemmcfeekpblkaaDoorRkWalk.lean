/-
  ranks: the search for a way: walk and its function literal.
-/
import Derived.Test.YtemmcfeekpblkaaDoorAmR
import Derived.Test.YtemmcfeekpblkaaDoorTypes
import Derived.Test.YtemmcfeekpblkaaDoorFnA
import Derived.Test.YtemmcfeekpblkaaDoorRkSmall
import Derived.Test.YtemmcfeekpblkaaDoorBits
set_option linter.all false
namespace Go.Proofs.Tryd.Am
open Go.Am
set_option maxRecDepth 100000

/-- The first way that goes on from cur through players of a set. -/
def grow (xs : List Int) (size : Nat) (is : List Int → Bool) : Nat → List Int → Nat → Option (List Int)
  | 0, _, _ => none
  | n + 1, cur, left => if cur.length = size then (if is cur then some cur else none) else
    firstOf (fun (i : Nat) => if cur ≠ [] ∧ bitI (xs.getD (cur.getD (cur.length - 1) 0).toNat 0) i = false then none else grow xs size is n (cur ++ [(i : Int)]) (less left (2 ^ i))) (Am.bits left)

/-- The boxes of the search. -/
structure Boxes (h : Heap) (bl bs bi bt bg : Nat) (size : Nat) (isv tv : Value) : Prop where
  size : h[bs]? = some (.cells [vint size] 3 false)
  is : h[bi]? = some (.cells [isv] 27 false)
  t : h[bt]? = some (.cells [tv] 55 false)
  grow : h[bg]? = some (.cells [.func (.func 92) #[] #[.pointer (some ⟨bl, 0, none⟩), .pointer (some ⟨bs, 0, none⟩), .pointer (some ⟨bi, 0, none⟩), .pointer (some ⟨bt, 0, none⟩), .pointer (some ⟨bg, 0, none⟩)]] 79 false)

/-- The search under way: the blocks I lie as in h0; l's box holds lv, a slice of our own that reads cur. -/
structure GS (I : Nat → Prop) (h0 : Heap) (bl : Nat) (h : Heap) (lv : Value) (cur : List Int) : Prop where
  len : h0.length ≤ h.length
  keep : ∀ i, I i → h[i]? = h0[i]?
  l : h[bl]? = some (.cells [lv] 22 false)
  own : OwnSl 3 h lv cur
  nl : ¬ I bl
  apart : ∀ b, blkOf lv = some b → ¬ I b ∧ b ≠ bl
  low : ∀ i, I i → i < h0.length

/-- More blocks: the search stands as it stood. -/
theorem GS.app {I : Nat → Prop} {h0 h : Heap} {bl : Nat} {lv : Value} {cur : List Int} (s : GS I h0 bl h lv cur) (g : Heap) : GS I h0 bl (h ++ g) lv cur where
  len := by have := s.len; simp; omega
  keep i hi := by rw [List.getElem?_append_left (Nat.lt_of_lt_of_le (s.low i hi) s.len)]; exact s.keep i hi
  l := get_old s.l g
  own := s.own.ext (S := fun _ => False) (Ext.app _ _ _) (fun _ _ h => h)
  nl := s.nl
  apart := s.apart
  low := s.low

/-- What the closure asked at a whole way answers. -/
def IsOk [Tabs prog] (I : Nat → Prop) (h0 : Heap) (isv : Value) (is : List Int → Bool) (size n : Nat) : Prop :=
  ∃ g cap, isv = .func (.func g) #[] cap ∧ ∀ h, h0.length ≤ h.length → (∀ i, I i → h[i]? = h0[i]?) → ∀ v l, IntSl h v l → l.length = size → (∀ x ∈ l, ∃ i : Nat, x = i ∧ i < n) → APure prog g ([v] ++ cap.toList) h (.bool (is l))

/-- A heap that turned elsewhere: the search stands as it stood. -/
theorem GS.ext {I : Nat → Prop} {h0 h h' : Heap} {bl : Nat} {lv : Value} {cur : List Int} {S : Nat → Prop} (s : GS I h0 bl h lv cur) (hx : Ext S h h') (h1 : ∀ i, I i → ¬ S i) (h2 : ¬ S bl) (h3 : ∀ b, blkOf lv = some b → ¬ S b) : GS I h0 bl h' lv cur where
  len := Nat.le_trans s.len hx.1
  keep i hi := (hx.2 i (Nat.lt_of_lt_of_le (s.low i hi) s.len) (h1 i hi)).trans (s.keep i hi)
  l := (hx.2 bl (get_lt s.l) h2).trans s.l
  own := s.own.ext hx h3
  nl := s.nl
  apart := s.apart
  low := s.low

/-- A new list in l's box. -/
theorem GS.store {I : Nat → Prop} {h0 h h1 : Heap} {bl : Nat} {lv lv' : Value} {cur cur' : List Int} (s : GS I h0 bl h lv cur) (hx : Ext (fun i => blkOf lv = some i) h h1) (ho : OwnSl 3 h1 lv' cur') (hb : blkOf lv' = blkOf lv ∨ ∃ b, blkOf lv' = some b ∧ h.length ≤ b) :
    GS I h0 bl (h1.set bl (.cells [lv'] 22 false)) lv' cur' where
  len := by have := s.len; have := hx.1; simp; omega
  keep i hi := by
    have hl := Nat.lt_of_lt_of_le (s.low i hi) s.len
    rw [List.getElem?_set_ne (fun h => s.nl (by rw [h]; exact hi)), hx.2 i hl (fun h => (s.apart i h).1 hi)]
    exact s.keep i hi
  l := get_set (Nat.lt_of_lt_of_le (get_lt s.l) hx.1) _
  own := ho.ext (S := fun i => i = bl) (Ext.set _ rfl) fun b hbb => by
    rintro rfl
    rcases hb with h | ⟨b', h, hl⟩
    · exact (s.apart _ (h ▸ hbb)).2 rfl
    · rw [h] at hbb; cases hbb; have := get_lt s.l; omega
  nl := s.nl
  apart b hbb := by
    rcases hb with h | ⟨b', h, hl⟩
    · exact s.apart b (h ▸ hbb)
    · rw [h] at hbb; cases hbb
      exact ⟨fun hi => by have := s.low _ hi; have := s.len; omega, fun he => by have := get_lt s.l; omega⟩
  low := s.low

/-- A run of the function literal under way: its boxes (left, the answer) stand at the end of the heap h that it found. -/
structure RS (I : Nat → Prop) (h0 : Heap) (bl : Nat) (h : Heap) (lv0 : Value) (left : Nat) (res : Bool) (h' : Heap) (lv : Value) (cur : List Int) : Prop where
  gs : GS I h0 bl h' lv cur
  low : h0.length ≤ h.length
  lt : bl < h.length
  bx : h'[h.length]? = some (.cells [vint left] 3 false)
  rs : h'[h.length + 1]? = some (.cells [.bool res] 4 false)
  ext : Ext (fun i => i = bl ∨ blkOf lv0 = some i) h h'
  blk : blkOf lv = blkOf lv0 ∨ ∃ b, blkOf lv = some b ∧ h.length ≤ b

section
variable {I : Nat → Prop} {h0 h h' h1 : Heap} {bl left : Nat} {lv0 lv lv' : Value} {cur cur' : List Int} {res : Bool}
theorem RS.of (s : GS I h0 bl h lv cur) : RS I h0 bl h lv left res (h ++ [.cells [vint left] 3 false] ++ [.cells [.bool res] 4 false]) lv cur where
  gs := by rw [List.append_assoc]; exact s.app _
  low := s.len
  lt := get_lt s.l
  bx := by simp
  rs := by simp
  ext := by rw [List.append_assoc]; exact Ext.app _ _ _
  blk := .inl rfl
/-- A step that keeps the boxes, and touches but the list. -/
theorem RS.go (s : RS I h0 bl h lv0 left res h' lv cur) (g : GS I h0 bl h1 lv' cur') (hx : Ext (fun i => i = bl ∨ blkOf lv = some i) h' h1) (hb : blkOf lv' = blkOf lv ∨ ∃ b, blkOf lv' = some b ∧ h'.length ≤ b) : RS I h0 bl h lv0 left res h1 lv' cur' where
  gs := g
  low := s.low
  lt := s.lt
  bx := by
    rw [hx.2 _ (get_lt s.bx) (by rintro (h | h); exact absurd s.lt (by omega); exact s.gs.own.notCells s.bx h)]; exact s.bx
  rs := by
    rw [hx.2 _ (get_lt s.rs) (by rintro (h | h); exact absurd s.lt (by omega); exact s.gs.own.notCells s.rs h)]; exact s.rs
  ext := ⟨Nat.le_trans s.ext.1 hx.1, fun i hi hs => by
    rw [hx.2 i (Nat.lt_of_lt_of_le hi s.ext.1), s.ext.2 i hi hs]
    rintro (rfl | h)
    · exact hs (.inl rfl)
    · rcases s.blk with h2 | ⟨b, h2, h3⟩
      · exact hs (.inr (h2 ▸ h))
      · rw [h2] at h; cases h; omega⟩
  blk := by
    have := s.ext.1
    rcases hb with h | ⟨b, h, h2⟩
    · rw [h]; exact s.blk
    · exact .inr ⟨b, h, by omega⟩
theorem RS.app (s : RS I h0 bl h lv0 left res h' lv cur) (g : Heap) : RS I h0 bl h lv0 left res (h' ++ g) lv cur := s.go (s.gs.app g) (Ext.app _ _ _) (.inl rfl)
/-- A block of no concern turns. -/
theorem RS.else (s : RS I h0 bl h lv0 left res h' lv cur) {j : Nat} {B : Blk} (hj : h.length + 2 ≤ j) (hl : blkOf lv ≠ some j) : RS I h0 bl h lv0 left res (h'.set j B) lv cur := by
  have hlen := s.low
  have hext := s.ext.1
  have hx : Ext (fun i => i = j) h' (h'.set j B) := Ext.set _ rfl
  have hbl := s.lt
  refine ⟨s.gs.ext hx (fun i hi he => by have := s.gs.low i hi; omega) (by omega) (fun b hb he => hl (he ▸ hb)), s.low, s.lt, by rw [List.getElem?_set_ne (by omega)]; exact s.bx, by rw [List.getElem?_set_ne (by omega)]; exact s.rs, ?_, s.blk⟩
  exact ⟨by simp; exact hext, fun i hi hs => by rw [List.getElem?_set_ne (by omega)]; exact s.ext.2 i hi hs⟩
theorem RS.store (s : RS I h0 bl h lv0 left res h' lv cur) (hx : Ext (fun i => blkOf lv = some i) h' h1) (ho : OwnSl 3 h1 lv' cur') (hb : blkOf lv' = blkOf lv ∨ ∃ b, blkOf lv' = some b ∧ h'.length ≤ b) :
    RS I h0 bl h lv0 left res (h1.set bl (.cells [lv'] 22 false)) lv' cur' :=
  s.go (s.gs.store hx ho hb) ((hx.mono fun _ h => .inr h).trans (Ext.set _ (.inl rfl))) hb
/-- The answer is set. -/
theorem RS.ans (s : RS I h0 bl h lv0 left res h' lv cur) (r : Bool) : RS I h0 bl h lv0 left r (h'.set (h.length + 1) (.cells [.bool r] 4 false)) lv cur := by
  have hx : Ext (fun i => i = h.length + 1) h' (h'.set (h.length + 1) (.cells [.bool r] 4 false)) := Ext.set _ rfl
  have hbl := s.lt
  have hlow := s.low
  refine ⟨s.gs.ext hx (fun i hi he => by have := s.gs.low i hi; omega) (by omega) (fun b hb he => s.gs.own.notCells s.rs (he ▸ hb)), s.low, s.lt, by rw [List.getElem?_set_ne (by omega)]; exact s.bx, get_set (get_lt s.rs) _, ?_, s.blk⟩
  exact ⟨by simp; exact s.ext.1, fun i hi hs => by rw [List.getElem?_set_ne (by omega)]; exact s.ext.2 i hi hs⟩
theorem RS.box (s : RS I h0 bl h lv0 left res h' lv cur) {i : Nat} {B : Blk} (hi : I i) (hb : h0[i]? = some B) : h'[i]? = some B := (s.gs.keep i hi).trans hb
end

theorem trn_at {xs : List Int} (h : trn xs = true) {i : Nat} (hi : i < xs.length) : 0 ≤ xs.getD i 0 ∧ xs.getD i 0 < 9223372036854775808 := by
  simp only [trn, Bool.and_eq_true, decide_eq_true_eq, List.all_eq_true, List.mem_range] at h
  have h2 := h.2 i hi
  rw [okAt, Bool.and_eq_true, Bool.and_eq_true, Bool.and_eq_true, decide_eq_true_eq, decide_eq_true_eq] at h2
  have := pow8 h.1.2
  exact ⟨h2.1.1.1, by have := h2.1.1.2; omega⟩

theorem lit1 {h : Heap} {x : Int} (K : Value → Heap → Prop) : buildSliceK prog h 22 1 [(0, vint x)] K = K (.slice (some ⟨h.length, 0, none⟩) 1 1) (h ++ [.ints [x] 3 false]) := by
  simp only [buildSliceK, el_22, zero_3, esz_3, reps, fillL, mkb, intsOf, notTuple, cellsOf, List.length_singleton, Nat.mul_one, Nat.zero_mul, Nat.zero_add]
  exact propext ⟨fun h => h.2.2.2, fun h => ⟨trivial, Nat.zero_lt_one, by decide, h⟩⟩

theorem grow_call [BitTab prog 1] {I : Nat → Prop} {h0 : Heap} {bl bs bi bt bg size : Nat} {isv tv : Value} {xs : List Int} {is : List Int → Bool} (hb : Boxes h0 bl bs bi bt bg size isv tv) (hI : I bs ∧ I bi ∧ I bt ∧ I bg ∧ ∀ b, blkOf tv = some b → I b)
    (ht : IntSl h0 tv xs) (hx : trn xs = true) (hsz : size ≤ xs.length) (his : IsOk I h0 isv is size xs.length) :
    ∀ (n : Nat) (cur : List Int) (left : Nat) (h : Heap) (lv : Value), GS I h0 bl h lv cur → left < 2 ^ xs.length → (∀ x ∈ cur, ∃ i : Nat, x = i ∧ i < xs.length) → cur.length ≤ size → left < n →
      ACall prog 92 [vint left, .pointer (some ⟨bl, 0, none⟩), .pointer (some ⟨bs, 0, none⟩), .pointer (some ⟨bi, 0, none⟩), .pointer (some ⟨bt, 0, none⟩), .pointer (some ⟨bg, 0, none⟩)] h fun r h' =>
        ∃ lv', (match grow xs size is n cur left with | none => r = .bool false ∧ GS I h0 bl h' lv' cur | some l => r = .bool true ∧ GS I h0 bl h' lv' l) ∧ Ext (fun i => i = bl ∨ blkOf lv = some i) h h' ∧ (blkOf lv' = blkOf lv ∨ ∃ b, blkOf lv' = some b ∧ h.length ≤ b) := by
  intro n
  induction n with
  | zero => intro cur left h lv gs hlt hcur hcl hn; omega
  | succ n ih =>
    intro cur left h lv gs hlt hcur hcl hn
    refine s92_call (by simp) ?_
    simp (config := {maxSteps := 2000000}) only [↓aw_region, ↓aw_skip, ↓aw_seq, ↓aw_block, ↓aw_exit, ↓aw_ret, ↓sops_nil, ↓sops_go, ↓dops_nil, ↓dopsX_nil, ↓dopsR_nil, ↓vdn, vup, extr_20, extr_21, extr_30, extr_31, extr_32, List.map_cons, List.map_nil, cond_true, cond_false, aop, aThen, aBlock, argEnv, ev, sput, sputO, binK, binI, unK, builtinK, pickK, Nat.reduceBEq, Nat.reduceAdd, Int.reduceBEq, Int.reduceBNe, Int.reduceLT, aPost, resK, tup, tyf, s92, ↓aw_region, boxK, allocK, cellsOf, Option.isSome_some, newPtr, List.length_append, List.length_singleton]
    have rs0 := RS.of (left := left) (res := false) gs
    generalize h ++ [.cells [vint left] 3 false] ++ [.cells [.bool false] 4 false] = h2 at rs0 ⊢
    have ld : ∀ (h2 : Heap) lv2 cur2 res2, RS I h0 bl h lv left res2 h2 lv2 cur2 → (∀ K, loadK prog h2 22 (.pointer (some ⟨bl, 0, none⟩)) K = K lv2) ∧ (∀ K, loadK prog h2 3 (.pointer (some ⟨bs, 0, none⟩)) K = K (vint size)) ∧ (∀ K, loadK prog h2 27 (.pointer (some ⟨bi, 0, none⟩)) K = K isv) ∧
        (∀ K, loadK prog h2 55 (.pointer (some ⟨bt, 0, none⟩)) K = K tv) ∧ (∀ K, loadK prog h2 79 (.pointer (some ⟨bg, 0, none⟩)) K = K (.func (.func 92) #[] #[.pointer (some ⟨bl, 0, none⟩), .pointer (some ⟨bs, 0, none⟩), .pointer (some ⟨bi, 0, none⟩), .pointer (some ⟨bt, 0, none⟩), .pointer (some ⟨bg, 0, none⟩)])) ∧
        (∀ K, loadK prog h2 3 (.pointer (some ⟨h.length, 0, none⟩)) K = K (vint left)) ∧ (∀ K, loadK prog h2 4 (.pointer (some ⟨h.length + 1, 0, none⟩)) K = K (.bool res2)) ∧ IntSl h2 tv xs := fun h2 lv2 cur2 res2 s =>
      ⟨fun K => load1 s.gs.l shp_22 K, fun K => load1 (s.box hI.1 hb.size) shp_3 K, fun K => load1 (s.box hI.2.1 hb.is) shp_27 K, fun K => load1 (s.box hI.2.2.1 hb.t) shp_55 K, fun K => load1 (s.box hI.2.2.2.1 hb.grow) shp_79 K, fun K => load1 s.bx shp_3 K, fun K => load1 s.rs shp_4 K, ht.same fun b hbb => s.gs.keep b (hI.2.2.2.2 b hbb)⟩
    obtain ⟨l1, l2, l3, l4, l5, l6, l7, ht2⟩ := ld h2 lv cur false rs0
    have hlen : cur.length ≤ 8 := by
      have : xs.length ≤ 8 := by simp only [trn, Bool.and_eq_true, decide_eq_true_eq] at hx; omega
      omega
    by_cases hc : cur.length = size
    · have hce : ((cur.length : Int) == size) = true := by simp [hc]
      obtain ⟨g, cap, rfl, hgo⟩ := his
      simp (config := {maxSteps := 2000000}) only [s92, ↓aw_region, ↓aw_skip, ↓aw_seq, ↓aw_block, ↓aw_exit, ↓aw_ret, ↓sops_nil, ↓sops_go, ↓dops_nil, ↓dopsX_nil, ↓dopsR_nil, ↓vdn, vup, extr_20, extr_21, extr_30, extr_31, extr_32, List.map_cons, List.map_nil, cond_true, cond_false, aop, aThen, aBlock, argEnv, ev, sput, sputO, binK, binI, unK, builtinK, pickK, Nat.reduceBEq, Nat.reduceAdd, Int.reduceBEq, Int.reduceBNe, Int.reduceLT, aPost, resK, tup, tyf, l1, l2, l3, rs0.gs.own.int.len, hce, callK, List.nil_append, List.toList_toArray]
      refine (hgo h2 rs0.gs.len rs0.gs.keep lv cur rs0.gs.own.int hc hcur).mono ?_
      rintro v h3 ⟨rfl, rfl⟩
      have rs1 := rs0.ans (is cur)
      obtain ⟨_, _, _, _, _, _, k7, _⟩ := ld _ lv cur (is cur) rs1
      simp (config := {maxSteps := 2000000}) only [s92, ↓aw_region, ↓aw_skip, ↓aw_seq, ↓aw_block, ↓aw_exit, ↓aw_ret, ↓sops_nil, ↓sops_go, ↓dops_nil, ↓dopsX_nil, ↓dopsR_nil, ↓vdn, vup, extr_20, extr_21, extr_30, extr_31, extr_32, List.map_cons, List.map_nil, cond_true, cond_false, aop, aThen, aBlock, argEnv, ev, sput, sputO, binK, binI, unK, builtinK, pickK, Nat.reduceBEq, Nat.reduceAdd, Int.reduceBEq, Int.reduceBNe, Int.reduceLT, aPost, resK, tup, tyf, storeB rs0.rs shp_4, k7]
      refine ⟨lv, ?_, rs1.ext, .inl rfl⟩
      simp only [grow, hc, if_true]
      cases his : is cur with
      | true => exact ⟨rfl, his ▸ rs1.gs⟩
      | false => exact ⟨rfl, his ▸ rs1.gs⟩
    · have hce : ((cur.length : Int) == size) = false := by simp; omega
      have hxl : xs.length ≤ 8 := by simp only [trn, Bool.and_eq_true, decide_eq_true_eq] at hx; omega
      have hpow : 2 ^ xs.length ≤ 2 ^ 8 := Nat.pow_le_pow_right (by decide) hxl
      have hleft : left < 2 ^ 63 := by omega
      simp (config := {maxSteps := 2000000}) only [s92, ↓aw_region, ↓aw_skip, ↓aw_seq, ↓aw_block, ↓aw_exit, ↓aw_ret, ↓sops_nil, ↓sops_go, ↓dops_nil, ↓dopsX_nil, ↓dopsR_nil, ↓vdn, vup, extr_20, extr_21, extr_30, extr_31, extr_32, List.map_cons, List.map_nil, cond_true, cond_false, aop, aThen, aBlock, argEnv, ev, sput, sputO, binK, binI, unK, builtinK, pickK, Nat.reduceBEq, Nat.reduceAdd, Int.reduceBEq, Int.reduceBNe, Int.reduceLT, aPost, resK, tup, tyf, l1, l2, l6, rs0.gs.own.int.len, hce, callK, List.nil_append, List.append_nil]
      refine players_call.mono ?_
      rintro v h3 ⟨rfl, rfl⟩
      simp (config := {maxSteps := 2000000}) only [s92, ↓aw_region, ↓aw_skip, ↓aw_seq, ↓aw_block, ↓aw_exit, ↓aw_ret, ↓sops_nil, ↓sops_go, ↓dops_nil, ↓dopsX_nil, ↓dopsR_nil, ↓vdn, vup, extr_20, extr_21, extr_30, extr_31, extr_32, List.map_cons, List.map_nil, cond_true, cond_false, aop, aThen, aBlock, argEnv, ev, sput, sputO, binK, binI, unK, builtinK, pickK, Nat.reduceBEq, Nat.reduceAdd, Int.reduceBEq, Int.reduceBNe, Int.reduceLT, aPost, resK, tup, tyf, newPtr]
      refine aw_hide fun Q hQ => ?_
      have hlow2 : h.length + 2 ≤ h2.length := by have := get_lt rs0.rs; omega
      have rs1 : RS I h0 bl h lv left false ((h2 ++ [Blk.cells [vint left] 3 false]).set h2.length Blk.dead) lv cur :=
        (rs0.app _).else hlow2 fun hb => by have := rs0.gs.own.lt hb; omega
      let F : Nat → Option (List Int) := fun i => if cur ≠ [] ∧ bitI (xs.getD (cur.getD (cur.length - 1) 0).toNat 0) i = false then none else grow xs size is n (cur ++ [(i : Int)]) (less left (2 ^ i))
      have hgrow : grow xs size is (n + 1) cur left = firstOf F (Am.bits left) := by simp only [grow, hc, if_false]; rfl
      refine aw_range bitIter (bx := h2.length) (s := left) (et := 3) rfl (get_new _ _) hleft (fun pre hk => (∀ y ∈ pre, F y = none) ∧ ∃ lv', RS I h0 bl h lv left false hk lv' cur) ⟨fun _ h => (by cases h), lv, rs1⟩ ?_ ?_
      · rintro pre x hk hpre ⟨hnone, lv2, rs⟩
        obtain ⟨hx64, hxb⟩ := mem_bits.1 (mem_pre hpre)
        have hxn : x < xs.length := by
          rcases Nat.lt_or_ge x xs.length with h | h
          · exact h
          · rw [Nat.testBit_lt_two_pow (Nat.lt_of_lt_of_le hlt (Nat.pow_le_pow_right (by decide) h))] at hxb; cases hxb
        have next : F x = none → ∀ y ∈ pre ++ [x], F y = none := fun hF y hy => by
          rcases List.mem_append.1 hy with h | h
          · exact hnone y h
          · rw [List.mem_singleton.1 h]; exact hF
        obtain ⟨k1, k2, k3, k4, k5, k6, k7, kt⟩ := ld hk lv2 cur false rs
        simp (config := {maxSteps := 2000000}) only [s92, ↓aw_region, ↓aw_skip, ↓aw_seq, ↓aw_block, ↓aw_exit, ↓aw_ret, ↓sops_nil, ↓sops_go, ↓dops_nil, ↓dopsX_nil, ↓dopsR_nil, ↓vdn, vup, extr_20, extr_21, extr_30, extr_31, extr_32, List.map_cons, List.map_nil, cond_true, cond_false, aop, aThen, aBlock, argEnv, ev, sput, sputO, binK, binI, unK, builtinK, pickK, Nat.reduceBEq, Nat.reduceAdd, Int.reduceBEq, Int.reduceBNe, Int.reduceLT, aPost, resK, tup, tyf, r92_0_a, r92_0_b]
        refine aw_drawX [(12, 4)] (by kernel_rfl) (by kernel_rfl) (by kernel_rfl) (by kernel_rfl) ?_
        have hsub : cur ≠ [] → subV .i64 cur.length 1 = ((cur.length - 1 : Nat) : Int) := fun h => by
          have := List.length_pos_iff.2 h
          rw [subV_id (by omega) (by omega)]; omega
        have goOn : (cur ≠ [] ∧ bitI (xs.getD (cur.getD (cur.length - 1) 0).toNat 0) x = false) = False → F x = grow xs size is n (cur ++ [(x : Int)]) (less left (2 ^ x)) := fun h => by simp only [F]; rw [if_neg (by rw [h]; exact id)]
        have hcur' : ∀ y ∈ cur ++ [(x : Int)], ∃ i : Nat, y = i ∧ i < xs.length := fun y hy => by
          rcases List.mem_append.1 hy with h | h
          · exact hcur y h
          · exact ⟨x, List.mem_singleton.1 h, hxn⟩
        have hshl : shlV .i64 1 x = 2 ^ x := shl1 (by omega)
        have hand : bitsV .andNot .i64 (left : Int) (2 ^ x) = ((less left (2 ^ x) : Nat) : Int) := by
          have := bitsV_andNot (a := left) (b := 2 ^ x) (by omega) (Nat.lt_of_lt_of_le (Nat.pow_lt_pow_right (by decide) (show x < 62 by omega)) (by decide))
          simpa using this
        have hend : ∀ {P1 : Prop}, (cur = [] → P1) → (∀ i : Nat, cur ≠ [] → cur.getD (cur.length - 1) 0 = i → i < xs.length → bitI (xs.getD i 0) x = true → P1) → (∀ i : Nat, cur ≠ [] → cur.getD (cur.length - 1) 0 = i → i < xs.length → bitI (xs.getD i 0) x = false → P1) → P1 := by
          intro P1 a b c
          by_cases he : cur = []
          · exact a he
          · have hpos := List.length_pos_iff.2 he
            obtain ⟨i, hi, hin⟩ := hcur (cur.getD (cur.length - 1) 0) (by rw [List.getD, List.getElem?_eq_getElem (by omega)]; exact List.getElem_mem _)
            cases hbt : bitI (xs.getD i 0) x with
            | true => exact b i he hi hin hbt
            | false => exact c i he hi hin hbt
        refine hend (fun he => ?_) (fun i he hi hin hbt => ?_) (fun i he hi hin hbt => ?_)
        rotate_left 2
        · have hpos := List.length_pos_iff.2 he
          obtain ⟨hb1, hb2⟩ := trn_at hx hin
          simp (config := {maxSteps := 2000000}) only [s92, ↓aw_region, ↓aw_skip, ↓aw_seq, ↓aw_block, ↓aw_exit, ↓aw_ret, ↓sops_nil, ↓sops_go, ↓dops_nil, ↓dopsX_nil, ↓dopsR_nil, ↓vdn, vup, extr_20, extr_21, extr_30, extr_31, extr_32, List.map_cons, List.map_nil, cond_true, cond_false, aop, aThen, aBlock, argEnv, ev, sput, sputO, binK, binI, unK, builtinK, pickK, Nat.reduceBEq, Nat.reduceAdd, Int.reduceBEq, Int.reduceBNe, Int.reduceLT, aPost, resK, tup, tyf, k1, k4, rs.gs.own.int.len, Int.natCast_pos.2 hpos, hsub he, rs.gs.own.int.idx el_22 esz_3 (show cur.length - 1 < cur.length by omega), rs.gs.own.int.load shp_3 (show cur.length - 1 < cur.length by omega), hi, callK, List.nil_append, List.append_nil, gt_iff_lt]
          refine (beats_call kt hin hb1 hb2).mono ?_
          rintro v h3 ⟨rfl, rfl⟩
          simp (config := {maxSteps := 2000000}) only [s92, ↓aw_region, ↓aw_skip, ↓aw_seq, ↓aw_block, ↓aw_exit, ↓aw_ret, ↓sops_nil, ↓sops_go, ↓dops_nil, ↓dopsX_nil, ↓dopsR_nil, ↓vdn, vup, extr_20, extr_21, extr_30, extr_31, extr_32, List.map_cons, List.map_nil, cond_true, cond_false, aop, aThen, aBlock, argEnv, ev, sput, sputO, binK, binI, unK, builtinK, pickK, Nat.reduceBEq, Nat.reduceAdd, Int.reduceBEq, Int.reduceBNe, Int.reduceLT, aPost, resK, tup, tyf, hbt]
          exact ⟨next (by simp only [F]; rw [if_pos ⟨he, by rw [hi]; exact hbt⟩]), lv2, rs⟩
        · have hF := goOn (by simp [he])
          have hl0 : ((cur.length : Nat) : Int) = 0 := by rw [he]; rfl
          simp (config := {maxSteps := 2000000}) only [s92, ↓aw_region, ↓aw_skip, ↓aw_seq, ↓aw_block, ↓aw_exit, ↓aw_ret, ↓sops_nil, ↓sops_go, ↓dops_nil, ↓dopsX_nil, ↓dopsR_nil, ↓vdn, vup, extr_20, extr_21, extr_30, extr_31, extr_32, List.map_cons, List.map_nil, cond_true, cond_false, aop, aThen, aBlock, argEnv, ev, sput, sputO, binK, binI, unK, builtinK, pickK, Nat.reduceBEq, Nat.reduceAdd, Int.reduceBEq, Int.reduceBNe, Int.reduceLT, aPost, resK, tup, tyf, k1, rs.gs.own.int.len, hl0, Int.lt_irrefl, gt_iff_lt, lit1]
          have hx1 : Ext (fun _ => False) hk (hk ++ [.ints [(x : Int)] 3 false]) := Ext.app _ _ _
          refine (rs.gs.own.ext hx1 fun _ _ h => h).append app_22_22 (by omega) (get_new _ _) ?_
          intro lv3 h4 ho4 hx4 hb4
          have hx5 : Ext (fun i => blkOf lv2 = some i) hk h4 := (hx1.mono fun _ h => h.elim).trans hx4
          have hb5 : blkOf lv3 = blkOf lv2 ∨ ∃ b, blkOf lv3 = some b ∧ hk.length ≤ b := by
            rcases hb4 with h | ⟨b, h, hl⟩
            · exact .inl h
            · exact .inr ⟨b, h, by simp at hl; omega⟩
          have hbl4 : h4[bl]? = some (.cells [lv2] 22 false) := (hx5.2 bl (get_lt rs.gs.l) (fun h => (rs.gs.apart _ h).2 rfl)).trans rs.gs.l
          have rs3 := rs.store hx5 ho4 hb5
          obtain ⟨k1, k2, k3, k4, k5, k6, k7, kt⟩ := ld _ _ _ _ rs3
          simp (config := {maxSteps := 2000000}) only [s92, ↓aw_region, ↓aw_skip, ↓aw_seq, ↓aw_block, ↓aw_exit, ↓aw_ret, ↓sops_nil, ↓sops_go, ↓dops_nil, ↓dopsX_nil, ↓dopsR_nil, ↓vdn, vup, extr_20, extr_21, extr_30, extr_31, extr_32, List.map_cons, List.map_nil, cond_true, cond_false, aop, aThen, aBlock, argEnv, ev, sput, sputO, binK, binI, unK, builtinK, pickK, Nat.reduceBEq, Nat.reduceAdd, Int.reduceBEq, Int.reduceBNe, Int.reduceLT, aPost, resK, tup, tyf, store1 hbl4 shp_22 ho4.one]
          refine aw_drawX [(5, 4)] (by kernel_rfl) (by kernel_rfl) (by kernel_rfl) (by kernel_rfl) ?_
          simp (config := {maxSteps := 2000000}) only [s92, ↓aw_region, ↓aw_skip, ↓aw_seq, ↓aw_block, ↓aw_exit, ↓aw_ret, ↓sops_nil, ↓sops_go, ↓dops_nil, ↓dopsX_nil, ↓dopsR_nil, ↓vdn, vup, extr_20, extr_21, extr_30, extr_31, extr_32, List.map_cons, List.map_nil, cond_true, cond_false, aop, aThen, aBlock, argEnv, ev, sput, sputO, binK, binI, unK, builtinK, pickK, Nat.reduceBEq, Nat.reduceAdd, Int.reduceBEq, Int.reduceBNe, Int.reduceLT, aPost, resK, tup, tyf, k5, k6, Int.natCast_nonneg, hshl, hand, callK, List.nil_append, List.append_nil, List.toList_toArray, List.cons_append]
          refine (ih (cur ++ [(x : Int)]) (less left (2 ^ x)) _ lv3 rs3.gs (less_lt hlt) hcur' (by simp; omega) (Nat.lt_of_lt_of_le (less_bit_lt hxb) (by omega))).mono ?_
          rintro v h6 ⟨lv4, hres, hx6, hb6⟩
          rw [← hF] at hres
          cases hg : F x with
          | none =>
            rw [hg] at hres
            obtain ⟨rfl, gs6⟩ := hres
            have rs6 := rs3.go gs6 hx6 hb6
            obtain ⟨k1, k2, k3, k4, k5, k6, k7, kt⟩ := ld _ _ _ _ rs6
            have hsub6 : subV .i64 ((cur ++ [(x : Int)]).length : Nat) 1 = (cur.length : Int) := by
              rw [List.length_append, List.length_singleton, subV_id (by omega) (by omega)]; omega
            simp (config := {maxSteps := 2000000}) only [s92, ↓aw_region, ↓aw_skip, ↓aw_seq, ↓aw_block, ↓aw_exit, ↓aw_ret, ↓sops_nil, ↓sops_go, ↓dops_nil, ↓dopsX_nil, ↓dopsR_nil, ↓vdn, vup, extr_20, extr_21, extr_30, extr_31, extr_32, List.map_cons, List.map_nil, cond_true, cond_false, aop, aThen, aBlock, argEnv, ev, sput, sputO, binK, binI, unK, builtinK, pickK, Nat.reduceBEq, Nat.reduceAdd, Int.reduceBEq, Int.reduceBNe, Int.reduceLT, aPost, resK, tup, tyf, k1, rs6.gs.own.int.len, hsub6]
            refine rs6.gs.own.cut el_22 esz_3 ?_
            intro lv5 ho5 hb7
            simp (config := {maxSteps := 2000000}) only [s92, ↓aw_region, ↓aw_skip, ↓aw_seq, ↓aw_block, ↓aw_exit, ↓aw_ret, ↓sops_nil, ↓sops_go, ↓dops_nil, ↓dopsX_nil, ↓dopsR_nil, ↓vdn, vup, extr_20, extr_21, extr_30, extr_31, extr_32, List.map_cons, List.map_nil, cond_true, cond_false, aop, aThen, aBlock, argEnv, ev, sput, sputO, binK, binI, unK, builtinK, pickK, Nat.reduceBEq, Nat.reduceAdd, Int.reduceBEq, Int.reduceBNe, Int.reduceLT, aPost, resK, tup, tyf, store1 rs6.gs.l shp_22 ho5.one]
            exact ⟨next hg, lv5, rs6.store (Ext.refl _ _) ho5 (.inl hb7)⟩
          | some l =>
            rw [hg] at hres
            obtain ⟨rfl, gs6⟩ := hres
            have rs6 := rs3.go gs6 hx6 hb6
            have rs7 := rs6.ans true
            obtain ⟨_, _, _, _, _, _, k7, _⟩ := ld _ _ _ _ rs7
            simp (config := {maxSteps := 2000000}) only [s92, ↓aw_region, ↓aw_skip, ↓aw_seq, ↓aw_block, ↓aw_exit, ↓aw_ret, ↓sops_nil, ↓sops_go, ↓dops_nil, ↓dopsX_nil, ↓dopsR_nil, ↓vdn, vup, extr_20, extr_21, extr_30, extr_31, extr_32, List.map_cons, List.map_nil, cond_true, cond_false, aop, aThen, aBlock, argEnv, ev, sput, sputO, binK, binI, unK, builtinK, pickK, Nat.reduceBEq, Nat.reduceAdd, Int.reduceBEq, Int.reduceBNe, Int.reduceLT, aPost, resK, tup, tyf, storeB rs6.rs shp_4]
            refine hQ _ _ _ ?_
            simp (config := {maxSteps := 2000000}) only [s92, ↓aw_region, ↓aw_skip, ↓aw_seq, ↓aw_block, ↓aw_exit, ↓aw_ret, ↓sops_nil, ↓sops_go, ↓dops_nil, ↓dopsX_nil, ↓dopsR_nil, ↓vdn, vup, extr_20, extr_21, extr_30, extr_31, extr_32, List.map_cons, List.map_nil, cond_true, cond_false, aop, aThen, aBlock, argEnv, ev, sput, sputO, binK, binI, unK, builtinK, pickK, Nat.reduceBEq, Nat.reduceAdd, Int.reduceBEq, Int.reduceBNe, Int.reduceLT, aPost, resK, tup, tyf, k7]
            refine ⟨lv4, ?_, rs7.ext, rs7.blk⟩
            rw [hgrow, firstOf_some pre hnone hg hpre]
            exact rs7.gs
        · have hpos := List.length_pos_iff.2 he
          obtain ⟨hb1, hb2⟩ := trn_at hx hin
          have hF := goOn (eq_false fun h => by rw [hi] at h; rw [Int.toNat_natCast, hbt] at h; cases h.2)
          simp (config := {maxSteps := 2000000}) only [s92, ↓aw_region, ↓aw_skip, ↓aw_seq, ↓aw_block, ↓aw_exit, ↓aw_ret, ↓sops_nil, ↓sops_go, ↓dops_nil, ↓dopsX_nil, ↓dopsR_nil, ↓vdn, vup, extr_20, extr_21, extr_30, extr_31, extr_32, List.map_cons, List.map_nil, cond_true, cond_false, aop, aThen, aBlock, argEnv, ev, sput, sputO, binK, binI, unK, builtinK, pickK, Nat.reduceBEq, Nat.reduceAdd, Int.reduceBEq, Int.reduceBNe, Int.reduceLT, aPost, resK, tup, tyf, k1, k4, rs.gs.own.int.len, Int.natCast_pos.2 hpos, hsub he, rs.gs.own.int.idx el_22 esz_3 (show cur.length - 1 < cur.length by omega), rs.gs.own.int.load shp_3 (show cur.length - 1 < cur.length by omega), hi, callK, List.nil_append, List.append_nil, gt_iff_lt]
          refine (beats_call kt hin hb1 hb2).mono ?_
          rintro v h3 ⟨rfl, rfl⟩
          simp (config := {maxSteps := 2000000}) only [s92, ↓aw_region, ↓aw_skip, ↓aw_seq, ↓aw_block, ↓aw_exit, ↓aw_ret, ↓sops_nil, ↓sops_go, ↓dops_nil, ↓dopsX_nil, ↓dopsR_nil, ↓vdn, vup, extr_20, extr_21, extr_30, extr_31, extr_32, List.map_cons, List.map_nil, cond_true, cond_false, aop, aThen, aBlock, argEnv, ev, sput, sputO, binK, binI, unK, builtinK, pickK, Nat.reduceBEq, Nat.reduceAdd, Int.reduceBEq, Int.reduceBNe, Int.reduceLT, aPost, resK, tup, tyf, hbt, k1, lit1]
          have hx1 : Ext (fun _ => False) h3 (h3 ++ [.ints [(x : Int)] 3 false]) := Ext.app _ _ _
          refine (rs.gs.own.ext hx1 fun _ _ h => h).append app_22_22 (by omega) (get_new _ _) ?_
          intro lv3 h4 ho4 hx4 hb4
          have hx5 : Ext (fun i => blkOf lv2 = some i) h3 h4 := (hx1.mono fun _ h => h.elim).trans hx4
          have hb5 : blkOf lv3 = blkOf lv2 ∨ ∃ b, blkOf lv3 = some b ∧ h3.length ≤ b := by
            rcases hb4 with h | ⟨b, h, hl⟩
            · exact .inl h
            · exact .inr ⟨b, h, by simp at hl; omega⟩
          have hbl4 : h4[bl]? = some (.cells [lv2] 22 false) := (hx5.2 bl (get_lt rs.gs.l) (fun h => (rs.gs.apart _ h).2 rfl)).trans rs.gs.l
          have rs3 := rs.store hx5 ho4 hb5
          obtain ⟨k1, k2, k3, k4, k5, k6, k7, kt⟩ := ld _ _ _ _ rs3
          simp (config := {maxSteps := 2000000}) only [s92, ↓aw_region, ↓aw_skip, ↓aw_seq, ↓aw_block, ↓aw_exit, ↓aw_ret, ↓sops_nil, ↓sops_go, ↓dops_nil, ↓dopsX_nil, ↓dopsR_nil, ↓vdn, vup, extr_20, extr_21, extr_30, extr_31, extr_32, List.map_cons, List.map_nil, cond_true, cond_false, aop, aThen, aBlock, argEnv, ev, sput, sputO, binK, binI, unK, builtinK, pickK, Nat.reduceBEq, Nat.reduceAdd, Int.reduceBEq, Int.reduceBNe, Int.reduceLT, aPost, resK, tup, tyf, store1 hbl4 shp_22 ho4.one]
          refine aw_drawX [(5, 4)] (by kernel_rfl) (by kernel_rfl) (by kernel_rfl) (by kernel_rfl) ?_
          simp (config := {maxSteps := 2000000}) only [s92, ↓aw_region, ↓aw_skip, ↓aw_seq, ↓aw_block, ↓aw_exit, ↓aw_ret, ↓sops_nil, ↓sops_go, ↓dops_nil, ↓dopsX_nil, ↓dopsR_nil, ↓vdn, vup, extr_20, extr_21, extr_30, extr_31, extr_32, List.map_cons, List.map_nil, cond_true, cond_false, aop, aThen, aBlock, argEnv, ev, sput, sputO, binK, binI, unK, builtinK, pickK, Nat.reduceBEq, Nat.reduceAdd, Int.reduceBEq, Int.reduceBNe, Int.reduceLT, aPost, resK, tup, tyf, k5, k6, Int.natCast_nonneg, hshl, hand, callK, List.nil_append, List.append_nil, List.toList_toArray, List.cons_append]
          refine (ih (cur ++ [(x : Int)]) (less left (2 ^ x)) _ lv3 rs3.gs (less_lt hlt) hcur' (by simp; omega) (Nat.lt_of_lt_of_le (less_bit_lt hxb) (by omega))).mono ?_
          rintro v h6 ⟨lv4, hres, hx6, hb6⟩
          rw [← hF] at hres
          cases hg : F x with
          | none =>
            rw [hg] at hres
            obtain ⟨rfl, gs6⟩ := hres
            have rs6 := rs3.go gs6 hx6 hb6
            obtain ⟨k1, k2, k3, k4, k5, k6, k7, kt⟩ := ld _ _ _ _ rs6
            have hsub6 : subV .i64 ((cur ++ [(x : Int)]).length : Nat) 1 = (cur.length : Int) := by
              rw [List.length_append, List.length_singleton, subV_id (by omega) (by omega)]; omega
            simp (config := {maxSteps := 2000000}) only [s92, ↓aw_region, ↓aw_skip, ↓aw_seq, ↓aw_block, ↓aw_exit, ↓aw_ret, ↓sops_nil, ↓sops_go, ↓dops_nil, ↓dopsX_nil, ↓dopsR_nil, ↓vdn, vup, extr_20, extr_21, extr_30, extr_31, extr_32, List.map_cons, List.map_nil, cond_true, cond_false, aop, aThen, aBlock, argEnv, ev, sput, sputO, binK, binI, unK, builtinK, pickK, Nat.reduceBEq, Nat.reduceAdd, Int.reduceBEq, Int.reduceBNe, Int.reduceLT, aPost, resK, tup, tyf, k1, rs6.gs.own.int.len, hsub6]
            refine rs6.gs.own.cut el_22 esz_3 ?_
            intro lv5 ho5 hb7
            simp (config := {maxSteps := 2000000}) only [s92, ↓aw_region, ↓aw_skip, ↓aw_seq, ↓aw_block, ↓aw_exit, ↓aw_ret, ↓sops_nil, ↓sops_go, ↓dops_nil, ↓dopsX_nil, ↓dopsR_nil, ↓vdn, vup, extr_20, extr_21, extr_30, extr_31, extr_32, List.map_cons, List.map_nil, cond_true, cond_false, aop, aThen, aBlock, argEnv, ev, sput, sputO, binK, binI, unK, builtinK, pickK, Nat.reduceBEq, Nat.reduceAdd, Int.reduceBEq, Int.reduceBNe, Int.reduceLT, aPost, resK, tup, tyf, store1 rs6.gs.l shp_22 ho5.one]
            exact ⟨next hg, lv5, rs6.store (Ext.refl _ _) ho5 (.inl hb7)⟩
          | some l =>
            rw [hg] at hres
            obtain ⟨rfl, gs6⟩ := hres
            have rs6 := rs3.go gs6 hx6 hb6
            have rs7 := rs6.ans true
            obtain ⟨_, _, _, _, _, _, k7, _⟩ := ld _ _ _ _ rs7
            simp (config := {maxSteps := 2000000}) only [s92, ↓aw_region, ↓aw_skip, ↓aw_seq, ↓aw_block, ↓aw_exit, ↓aw_ret, ↓sops_nil, ↓sops_go, ↓dops_nil, ↓dopsX_nil, ↓dopsR_nil, ↓vdn, vup, extr_20, extr_21, extr_30, extr_31, extr_32, List.map_cons, List.map_nil, cond_true, cond_false, aop, aThen, aBlock, argEnv, ev, sput, sputO, binK, binI, unK, builtinK, pickK, Nat.reduceBEq, Nat.reduceAdd, Int.reduceBEq, Int.reduceBNe, Int.reduceLT, aPost, resK, tup, tyf, storeB rs6.rs shp_4]
            refine hQ _ _ _ ?_
            simp (config := {maxSteps := 2000000}) only [s92, ↓aw_region, ↓aw_skip, ↓aw_seq, ↓aw_block, ↓aw_exit, ↓aw_ret, ↓sops_nil, ↓sops_go, ↓dops_nil, ↓dopsX_nil, ↓dopsR_nil, ↓vdn, vup, extr_20, extr_21, extr_30, extr_31, extr_32, List.map_cons, List.map_nil, cond_true, cond_false, aop, aThen, aBlock, argEnv, ev, sput, sputO, binK, binI, unK, builtinK, pickK, Nat.reduceBEq, Nat.reduceAdd, Int.reduceBEq, Int.reduceBNe, Int.reduceLT, aPost, resK, tup, tyf, k7]
            refine ⟨lv4, ?_, rs7.ext, rs7.blk⟩
            rw [hgrow, firstOf_some pre hnone hg hpre]
            exact rs7.gs
      · rintro hk ⟨hnone, lv2, rs⟩
        have rs2 := rs.ans false
        obtain ⟨_, _, _, _, _, _, k7, _⟩ := ld _ _ _ _ rs2
        refine hQ _ _ _ ?_
        simp (config := {maxSteps := 2000000}) only [s92, ↓aw_region, ↓aw_skip, ↓aw_seq, ↓aw_block, ↓aw_exit, ↓aw_ret, ↓sops_nil, ↓sops_go, ↓dops_nil, ↓dopsX_nil, ↓dopsR_nil, ↓vdn, vup, extr_20, extr_21, extr_30, extr_31, extr_32, List.map_cons, List.map_nil, cond_true, cond_false, aop, aThen, aBlock, argEnv, ev, sput, sputO, binK, binI, unK, builtinK, pickK, Nat.reduceBEq, Nat.reduceAdd, Int.reduceBEq, Int.reduceBNe, Int.reduceLT, aPost, resK, tup, tyf, storeB rs.rs shp_4, k7]
        refine ⟨lv2, ?_, rs2.ext, rs2.blk⟩
        rw [hgrow, firstOf_none hnone]
        exact rs2.gs
end Go.Proofs.Tryd.Am
