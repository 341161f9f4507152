/-
  ranks: the first way found: walk, and the functions that stand on it.
-/
import Derived.Test.YtemmcfeekpblkaaDoorRkWalk
import Derived.Test.YtemmcfeekpblkaaDoorRkCopy
import Derived.Test.YtemmcfeekpblkaaDoorRkSmall
set_option linter.all false
namespace Go.Proofs.Tryd.Am
open Go.Am
set_option maxRecDepth 100000

/-- The first way of a length through players of a tournament. -/
def find (xs : List Int) (size : Nat) (is : List Int → Bool) : Option (List Int) := grow xs size is (2 ^ xs.length) [] (2 ^ xs.length - 1)

theorem firstOf_mem {α β : Type} {f : α → Option β} {y : β} : ∀ {l : List α}, firstOf f l = some y → ∃ x ∈ l, f x = some y
  | [], h => by cases h
  | x :: l, h => by
    simp only [firstOf] at h
    cases hx : f x with
    | some z => rw [hx] at h; exact ⟨x, by simp, by rw [hx]; exact h⟩
    | none =>
      rw [hx] at h
      obtain ⟨z, h1, h2⟩ := firstOf_mem h
      exact ⟨z, by simp [h1], h2⟩
theorem grow_len {xs : List Int} {size : Nat} {is : List Int → Bool} : ∀ (n : Nat) (cur : List Int) (left : Nat) (l : List Int), grow xs size is n cur left = some l → l.length = size ∧ is l = true
  | 0, _, _, _, h => by cases h
  | n + 1, cur, left, l, h => by
    simp only [grow] at h
    split at h
    · split at h
      · rename_i h1 h2; cases h; exact ⟨h1, h2⟩
      · cases h
    · obtain ⟨i, _, hi⟩ := firstOf_mem h
      split at hi
      · cases hi
      · exact grow_len n _ _ l hi
theorem find_len {xs : List Int} {size : Nat} {is : List Int → Bool} {l : List Int} (h : find xs size is = some l) : l.length = size := (grow_len _ _ _ _ h).1

/-- What the closure asked at a whole way answers, on every later heap. -/
def AskOk [Tabs prog] (h : Heap) (isv : Value) (is : List Int → Bool) (size n : Nat) : Prop :=
  ∃ g cap, isv = .func (.func g) #[] cap ∧ ∀ h', Ext (fun _ => False) h h' → ∀ v l, IntSl h' v l → l.length = size → (∀ x ∈ l, ∃ i : Nat, x = i ∧ i < n) → APure prog g ([v] ++ cap.toList) h' (.bool (is l))

theorem search_call [BitTab prog 1] {h : Heap} {tv isv : Value} {xs : List Int} {is : List Int → Bool} {size : Nat} (ht : IntSl h tv xs) (hx : trn xs = true) (hsz : size ≤ xs.length) (his : AskOk h isv is size xs.length) :
    ACall prog 57 [tv, vint size, isv] h fun r h' => Ext (fun _ => False) h h' ∧ (match find xs size is with | none => r = .slice none 0 0 | some l => OwnSl 3 h' r l) := by
  have hxl : xs.length ≤ 8 := by simp only [trn, Bool.and_eq_true, decide_eq_true_eq] at hx; omega
  have hpow : 2 ^ xs.length ≤ 2 ^ 8 := Nat.pow_le_pow_right (by decide) hxl
  have hpos := Nat.two_pow_pos xs.length
  obtain ⟨g, cap, rfl, hgo⟩ := his
  refine s57_call (by simp) ?_
  obtain ⟨tp, tl, tc, rfl⟩ : ∃ p l c, tv = .slice p l c := by
    rcases ht with ⟨rfl, _⟩ | ⟨b, o, sp, cap, c, e, ro, rfl, _⟩
    · exact ⟨_, _, _, rfl⟩
    · exact ⟨_, _, _, rfl⟩
  have hall := fun (h' : Heap) (ht' : IntSl h' (.slice tp tl tc) xs) => all_call ht' hxl
  generalize htv : Value.slice tp tl tc = tv at *
  simp (config := {maxSteps := 2000000}) only [s57, ↓aw_region, ↓aw_skip, ↓aw_seq, ↓aw_block, ↓aw_exit, ↓aw_ret, ↓sops_nil, ↓sops_go, ↓dops_nil, ↓dopsX_nil, ↓dopsR_nil, ↓vdn, vup, extr_20, extr_21, extr_30, extr_31, extr_32, List.map_cons, List.map_nil, cond_true, cond_false, aop, aThen, aBlock, argEnv, ev, sput, sputO, binK, binI, unK, builtinK, pickK, Nat.reduceBEq, Nat.reduceAdd, Int.reduceBEq, Int.reduceBNe, Int.reduceLT, aPost, resK, tup, tyf, boxK, allocK, cellsOf, Option.isSome_some, newPtr, List.length_append, List.length_singleton]
  subst htv
  simp only [true_and, List.map_toArray, List.map_cons, List.map_nil, ev, sget, Nat.reduceBEq, cond_true, cond_false, Nat.add_assoc, Nat.reduceAdd]
  rw [storeF (v := .nilFunc) (e := 79) (by simp) shp_79]
  generalize htv : Value.slice tp tl tc = tv at *
  obtain ⟨H, hH⟩ : ∃ H, H = h ++ [Blk.cells [tv] 55 false] ++ [Blk.cells [vint size] 3 false] ++ [Blk.cells [Value.func (Fn.func g) #[] cap] 27 false] ++ [Blk.cells [Value.slice none 0 0] 22 false] ++ [Blk.cells [Value.nilFunc] 79 false] := ⟨_, rfl⟩
  rw [← hH]
  have hlen : H.length = h.length + 5 := by rw [hH]; simp
  obtain ⟨G, hG⟩ : ∃ G, G = H.set (h.length + 4) (Blk.cells [Value.func (Fn.func 92) #[] #[Value.pointer (some ⟨h.length + 3, 0, none⟩), Value.pointer (some ⟨h.length + 1, 0, none⟩), Value.pointer (some ⟨h.length + 2, 0, none⟩), Value.pointer (some ⟨h.length, 0, none⟩), Value.pointer (some ⟨h.length + 4, 0, none⟩)]] 79 false) := ⟨_, rfl⟩
  rw [← hG]
  have hlG : G.length = h.length + 5 := by rw [hG]; simp [hlen]
  have hold : ∀ i, i < h.length → G[i]? = h[i]? := fun i hi => by rw [hG, List.getElem?_set_ne (by omega), hH]; simp only [List.append_assoc]; exact List.getElem?_append_left hi
  have hExt : Ext (fun _ => False) h G := ⟨by omega, fun i hi _ => hold i hi⟩
  have b0 : G[h.length]? = some (.cells [tv] 55 false) := by rw [hG, List.getElem?_set_ne (by omega), hH]; simp
  have b1 : G[h.length + 1]? = some (.cells [vint size] 3 false) := by rw [hG, List.getElem?_set_ne (by omega), hH]; simp
  have b2 : G[h.length + 2]? = some (.cells [.func (.func g) #[] cap] 27 false) := by rw [hG, List.getElem?_set_ne (by omega), hH]; simp
  have b3 : G[h.length + 3]? = some (.cells [.slice none 0 0] 22 false) := by rw [hG, List.getElem?_set_ne (by omega), hH]; simp
  have b4 : G[h.length + 4]? = some (.cells [Value.func (Fn.func 92) #[] #[Value.pointer (some ⟨h.length + 3, 0, none⟩), Value.pointer (some ⟨h.length + 1, 0, none⟩), Value.pointer (some ⟨h.length + 2, 0, none⟩), Value.pointer (some ⟨h.length, 0, none⟩), Value.pointer (some ⟨h.length + 4, 0, none⟩)]] 79 false) := by rw [hG]; exact get_set (by omega) _
  have htG : IntSl G tv xs := ht.same fun b hb => hold b (ht.lt hb)
  let I : Nat → Prop := fun i => i < h.length + 5 ∧ i ≠ h.length + 3
  have gs0 : GS I G (h.length + 3) G (.slice none 0 0) [] := ⟨Nat.le_refl _, fun _ _ => rfl, b3, .inl ⟨rfl, rfl⟩, fun h => h.2 rfl, fun b hb => (by cases hb), fun i hi => by have := hi.1; omega⟩
  have grow := grow_call (I := I) (h0 := G) (bl := h.length + 3) (bs := h.length + 1) (bi := h.length + 2) (bt := h.length) (bg := h.length + 4) (size := size) (isv := .func (.func g) #[] cap) (tv := tv) (xs := xs) (is := is)
    ⟨b1, b2, b0, b4⟩ ⟨⟨by omega, by omega⟩, ⟨by omega, by omega⟩, ⟨by omega, by omega⟩, ⟨by omega, by omega⟩, fun b hb => ⟨by have := ht.lt hb; omega, by have := ht.lt hb; omega⟩⟩ htG hx hsz
    ⟨g, cap, rfl, fun h' hl hi v l hv hll hr => hgo h' ⟨by omega, fun i hi2 _ => (hi i ⟨by omega, by omega⟩).trans (hold i hi2)⟩ v l hv hll hr⟩
    (2 ^ xs.length) [] (2 ^ xs.length - 1) G (.slice none 0 0) gs0 (by omega) (fun _ h => by cases h) (Nat.zero_le _) (by omega)
  refine aw_drawX [(2, 1), (3, 4)] (by kernel_rfl) (by kernel_rfl) (by kernel_rfl) (by kernel_rfl) ?_
  simp (config := {maxSteps := 2000000}) only [s57, ↓aw_region, ↓aw_skip, ↓aw_seq, ↓aw_block, ↓aw_exit, ↓aw_ret, ↓sops_nil, ↓sops_go, ↓dops_nil, ↓dopsX_nil, ↓dopsR_nil, ↓vdn, vup, extr_20, extr_21, extr_30, extr_31, extr_32, List.map_cons, List.map_nil, cond_true, cond_false, aop, aThen, aBlock, argEnv, ev, sput, sputO, binK, binI, unK, builtinK, pickK, Nat.reduceBEq, Nat.reduceAdd, Int.reduceBEq, Int.reduceBNe, Int.reduceLT, aPost, resK, tup, tyf, load1 b4 shp_79, load1 b0 shp_55, callK, List.nil_append, List.append_nil, List.toList_toArray, List.cons_append]
  refine ⟨_, _, hall G htG, rfl, ?_⟩
  refine grow.mono ?_
  rintro v h' ⟨lv, hres, hx', hb'⟩
  have hfin : Ext (fun _ => False) h h' := ⟨Nat.le_trans hExt.1 hx'.1, fun i hi _ => (hx'.2 i (by omega) (by rintro (h | h); omega; cases h)).trans (hold i hi)⟩
  have hfind : find xs size is = _root_.Go.Proofs.Tryd.Am.grow xs size is (2 ^ xs.length) [] (2 ^ xs.length - 1) := rfl
  rw [← hfind] at hres
  cases hf : find xs size is with
  | none =>
    rw [hf] at hres
    obtain ⟨rfl, gs⟩ := hres
    simp (config := {maxSteps := 2000000}) only [s57, ↓aw_region, ↓aw_skip, ↓aw_seq, ↓aw_block, ↓aw_exit, ↓aw_ret, ↓sops_nil, ↓sops_go, ↓dops_nil, ↓dopsX_nil, ↓dopsR_nil, ↓vdn, vup, extr_20, extr_21, extr_30, extr_31, extr_32, List.map_cons, List.map_nil, cond_true, cond_false, aop, aThen, aBlock, argEnv, ev, sput, sputO, binK, binI, unK, builtinK, pickK, Nat.reduceBEq, Nat.reduceAdd, Int.reduceBEq, Int.reduceBNe, Int.reduceLT, aPost, resK, tup, tyf]
    exact hfin
  | some l =>
    rw [hf] at hres
    obtain ⟨rfl, gs⟩ := hres
    simp (config := {maxSteps := 2000000}) only [s57, ↓aw_region, ↓aw_skip, ↓aw_seq, ↓aw_block, ↓aw_exit, ↓aw_ret, ↓sops_nil, ↓sops_go, ↓dops_nil, ↓dopsX_nil, ↓dopsR_nil, ↓vdn, vup, extr_20, extr_21, extr_30, extr_31, extr_32, List.map_cons, List.map_nil, cond_true, cond_false, aop, aThen, aBlock, argEnv, ev, sput, sputO, binK, binI, unK, builtinK, pickK, Nat.reduceBEq, Nat.reduceAdd, Int.reduceBEq, Int.reduceBNe, Int.reduceLT, aPost, resK, tup, tyf, load1 gs.l shp_22]
    exact ⟨hfin, gs.own⟩

theorem nilSl {e : TypeId} {h : Heap} {v : Value} {l : List Int} (ho : OwnSl e h v l) (hl : l ≠ []) : ∃ b n c, v = .slice (some ⟨b, 0, some 0⟩) n c := by
  rcases ho with ⟨_, rfl⟩ | ⟨b, ys, rfl, _⟩
  · exact absurd rfl hl
  · exact ⟨_, _, _, rfl⟩

theorem way_call [BitTab prog 1] {h : Heap} {v : Value} {xs : List Int} (hv : IntSl h v xs) (hl : xs.length < 9223372036854775808) (hx : ∀ x ∈ xs, -9223372036854775808 ≤ x ∧ x < 9223372036854775808) :
    ACall prog 18 [v] h fun r h' => Ext (fun _ => False) h h' ∧ ∃ a e, r = .tuple #[a, .int .i64 e] ∧
      (if trn xs then e = 0 ∧ (match find xs xs.length (fun _ => true) with | none => a = .slice none 0 0 | some l => OwnSl 3 h' a l) else e = 2 ∧ a = .slice none 0 0) := by
  refine s18_call (by simp) ?_
  simp (config := {maxSteps := 2000000}) only [s18, ↓aw_region, ↓aw_skip, ↓aw_seq, ↓aw_block, ↓aw_exit, ↓aw_ret, ↓sops_nil, ↓sops_go, ↓dops_nil, ↓dopsX_nil, ↓dopsR_nil, ↓vdn, vup, extr_20, extr_21, extr_30, extr_31, extr_32, List.map_cons, List.map_nil, cond_true, cond_false, aop, aThen, aBlock, argEnv, ev, sput, sputO, binK, binI, unK, builtinK, pickK, Nat.reduceBEq, Nat.reduceAdd, Int.reduceBEq, Int.reduceBNe, Int.reduceLT, aPost, resK, tup, tyf, callK, List.nil_append, List.append_nil, List.toList_toArray, List.cons_append]
  refine (valid_call hv hl hx).mono ?_
  rintro _ _ ⟨rfl, rfl⟩
  cases ht : trn xs with
  | false =>
    simp (config := {maxSteps := 2000000}) only [s18, ↓aw_region, ↓aw_skip, ↓aw_seq, ↓aw_block, ↓aw_exit, ↓aw_ret, ↓sops_nil, ↓sops_go, ↓dops_nil, ↓dopsX_nil, ↓dopsR_nil, ↓vdn, vup, extr_20, extr_21, extr_30, extr_31, extr_32, List.map_cons, List.map_nil, cond_true, cond_false, aop, aThen, aBlock, argEnv, ev, sput, sputO, binK, binI, unK, builtinK, pickK, Nat.reduceBEq, Nat.reduceAdd, Int.reduceBEq, Int.reduceBNe, Int.reduceLT, aPost, resK, tup, tyf]
    exact ⟨Ext.refl _ _, _, _, rfl, rfl, rfl⟩
  | true =>
    simp (config := {maxSteps := 2000000}) only [s18, ↓aw_region, ↓aw_skip, ↓aw_seq, ↓aw_block, ↓aw_exit, ↓aw_ret, ↓sops_nil, ↓sops_go, ↓dops_nil, ↓dopsX_nil, ↓dopsR_nil, ↓vdn, vup, extr_20, extr_21, extr_30, extr_31, extr_32, List.map_cons, List.map_nil, cond_true, cond_false, aop, aThen, aBlock, argEnv, ev, sput, sputO, binK, binI, unK, builtinK, pickK, Nat.reduceBEq, Nat.reduceAdd, Int.reduceBEq, Int.reduceBNe, Int.reduceLT, aPost, resK, tup, tyf, hv.len, callK, List.nil_append, List.append_nil, List.toList_toArray, List.cons_append]
    refine (search_call hv ht (Nat.le_refl _) ⟨58, #[], rfl, fun h' _ v l _ _ _ => yes_call⟩).mono ?_
    rintro r h' ⟨hext, hr⟩
    exact ⟨hext, _, _, rfl, rfl, hr⟩

/-- Of a way of k players, the last one beats the first one. -/
def closes (xs : List Int) (k : Nat) (l : List Int) : Bool := bitI (xs.getD (l.getD (k - 1) 0).toNat 0) (l.getD 0 0).toNat

theorem closes_call [Tabs prog] {h : Heap} {v tv : Value} {xs l : List Int} {k bt bk : Nat} (hx : trn xs = true) (ht : IntSl h tv xs) (hbt : h[bt]? = some (.cells [tv] 55 false)) (hbk : h[bk]? = some (.cells [vint k] 3 false))
    (hv : IntSl h v l) (hl : l.length = k) (hk : 0 < k) (hk8 : k ≤ 8) (hr : ∀ x ∈ l, ∃ i : Nat, x = i ∧ i < xs.length) : APure prog 59 [v, .pointer (some ⟨bt, 0, none⟩), .pointer (some ⟨bk, 0, none⟩)] h (.bool (closes xs k l)) := by
  have hat : ∀ j, j < k → ∃ i : Nat, l.getD j 0 = i ∧ i < xs.length := fun j hj => hr _ (by rw [List.getD, List.getElem?_eq_getElem (by omega)]; exact List.getElem_mem _)
  obtain ⟨a, ha, ha2⟩ := hat (k - 1) (by omega)
  obtain ⟨b, hb, hb2⟩ := hat 0 hk
  have hsub : subV .i64 (k : Int) 1 = ((k - 1 : Nat) : Int) := by rw [subV_id (by omega) (by omega)]; omega
  obtain ⟨hb1, hb3⟩ := trn_at hx ha2
  have hbe := beats_call ht (j := b) ha2 hb1 hb3
  have hcl : closes xs k l = bitI (xs.getD a 0) b := by simp only [closes, ha, hb, Int.toNat_natCast]
  have hi0 : ∀ (t : TypeId) (K : Value → Prop), elemOf' prog t = some 3 → idxAddrK prog t v (vint 0) K = K (elemP v 1 0) := fun t K he => by
    have := hv.idx he esz_3 (k := .i64) (i := 0) (by omega) K
    simpa using this
  refine s59_call (by simp) ?_
  simp (config := {maxSteps := 2000000}) only [s59, ↓aw_region, ↓aw_skip, ↓aw_seq, ↓aw_block, ↓aw_exit, ↓aw_ret, ↓sops_nil, ↓sops_go, ↓dops_nil, ↓dopsX_nil, ↓dopsR_nil, ↓vdn, vup, extr_20, extr_21, extr_30, extr_31, extr_32, List.map_cons, List.map_nil, cond_true, cond_false, aop, aThen, aBlock, argEnv, ev, sput, sputO, binK, binI, unK, builtinK, pickK, Nat.reduceBEq, Nat.reduceAdd, Int.reduceBEq, Int.reduceBNe, Int.reduceLT, aPost, resK, tup, tyf]
  refine aw_drawX [(9, 4)] (by kernel_rfl) (by kernel_rfl) (by kernel_rfl) (by kernel_rfl) ?_
  simp (config := {maxSteps := 2000000}) only [s59, ↓aw_region, ↓aw_skip, ↓aw_seq, ↓aw_block, ↓aw_exit, ↓aw_ret, ↓sops_nil, ↓sops_go, ↓dops_nil, ↓dopsX_nil, ↓dopsR_nil, ↓vdn, vup, extr_20, extr_21, extr_30, extr_31, extr_32, List.map_cons, List.map_nil, cond_true, cond_false, aop, aThen, aBlock, argEnv, ev, sput, sputO, binK, binI, unK, builtinK, pickK, Nat.reduceBEq, Nat.reduceAdd, Int.reduceBEq, Int.reduceBNe, Int.reduceLT, aPost, resK, tup, tyf, load1 hbt shp_55, load1 hbk shp_3, hsub, hv.idx el_22 esz_3 (show k - 1 < l.length by omega), hi0 22 _ el_22, hv.load shp_3 (show k - 1 < l.length by omega), hv.load shp_3 (show 0 < l.length by omega), ha, hb, callK, List.nil_append, List.append_nil, List.toList_toArray, List.cons_append]
  refine hbe.mono ?_
  rintro _ _ ⟨rfl, rfl⟩
  simp (config := {maxSteps := 2000000}) only [s59, ↓aw_region, ↓aw_skip, ↓aw_seq, ↓aw_block, ↓aw_exit, ↓aw_ret, ↓sops_nil, ↓sops_go, ↓dops_nil, ↓dopsX_nil, ↓dopsR_nil, ↓vdn, vup, extr_20, extr_21, extr_30, extr_31, extr_32, List.map_cons, List.map_nil, cond_true, cond_false, aop, aThen, aBlock, argEnv, ev, sput, sputO, binK, binI, unK, builtinK, pickK, Nat.reduceBEq, Nat.reduceAdd, Int.reduceBEq, Int.reduceBNe, Int.reduceLT, aPost, resK, tup, tyf, hcl]

theorem round_call [BitTab prog 1] {h : Heap} {v : Value} {xs : List Int} {k : Int} (hv : IntSl h v xs) (hl : xs.length < 9223372036854775808) (hx : ∀ x ∈ xs, -9223372036854775808 ≤ x ∧ x < 9223372036854775808) :
    ACall prog 24 [v, vint k] h fun r h' => Ext (fun _ => False) h h' ∧ ∃ a e, r = .tuple #[a, .int .i64 e] ∧
      (if trn xs = true ∧ 3 ≤ k ∧ k ≤ xs.length then (match find xs k.toNat (closes xs k.toNat) with | none => e = 4 ∧ a = .slice none 0 0 | some l => e = 0 ∧ OwnSl 3 h' a l) else e = 2 ∧ a = .slice none 0 0) := by
  refine s24_call (by simp) ?_
  obtain ⟨tp, tl, tc, rfl⟩ : ∃ p l c, v = .slice p l c := by
    rcases hv with ⟨rfl, _⟩ | ⟨b, o, sp, cap, c, e, ro, rfl, _⟩
    · exact ⟨_, _, _, rfl⟩
    · exact ⟨_, _, _, rfl⟩
  simp (config := {maxSteps := 2000000}) only [s24, ↓aw_region, ↓aw_skip, ↓aw_seq, ↓aw_block, ↓aw_exit, ↓aw_ret, ↓sops_nil, ↓sops_go, ↓dops_nil, ↓dopsX_nil, ↓dopsR_nil, ↓vdn, vup, extr_20, extr_21, extr_30, extr_31, extr_32, List.map_cons, List.map_nil, cond_true, cond_false, aop, aThen, aBlock, argEnv, ev, sput, sputO, binK, binI, unK, builtinK, pickK, Nat.reduceBEq, Nat.reduceAdd, Int.reduceBEq, Int.reduceBNe, Int.reduceLT, aPost, resK, tup, tyf, boxK, allocK, cellsOf, Option.isSome_some, newPtr, List.length_append, List.length_singleton]
  rw [store1 (v := .slice none 0 0) (e := 55) (by simp) shp_55 rfl]
  generalize htv : Value.slice tp tl tc = tv at *
  obtain ⟨G, hG⟩ : ∃ G, G = (h ++ [Blk.cells [vint k] 3 false] ++ [Blk.cells [Value.slice none 0 0] 55 false]).set (h.length + 1) (Blk.cells [tv] 55 false) := ⟨_, rfl⟩
  rw [← hG]
  have hlG : G.length = h.length + 2 := by rw [hG]; simp
  have hold : ∀ i, i < h.length → G[i]? = h[i]? := fun i hi => by rw [hG, List.getElem?_set_ne (by omega)]; simp only [List.append_assoc]; exact List.getElem?_append_left hi
  have hExt : Ext (fun _ => False) h G := ⟨by omega, fun i hi _ => hold i hi⟩
  have b0 : G[h.length]? = some (.cells [vint k] 3 false) := by rw [hG, List.getElem?_set_ne (by omega)]; simp
  have b1 : G[h.length + 1]? = some (.cells [tv] 55 false) := by rw [hG]; exact get_set (by simp) _
  have htG : IntSl G tv xs := hv.same fun b hb => hold b (hv.lt hb)
  simp (config := {maxSteps := 2000000}) only [s24, ↓aw_region, ↓aw_skip, ↓aw_seq, ↓aw_block, ↓aw_exit, ↓aw_ret, ↓sops_nil, ↓sops_go, ↓dops_nil, ↓dopsX_nil, ↓dopsR_nil, ↓vdn, vup, extr_20, extr_21, extr_30, extr_31, extr_32, List.map_cons, List.map_nil, cond_true, cond_false, aop, aThen, aBlock, argEnv, ev, sput, sputO, binK, binI, unK, builtinK, pickK, Nat.reduceBEq, Nat.reduceAdd, Int.reduceBEq, Int.reduceBNe, Int.reduceLT, aPost, resK, tup, tyf, load1 b1 shp_55, callK, List.nil_append, List.append_nil, List.toList_toArray, List.cons_append]
  refine (valid_call htG hl hx).mono ?_
  rintro _ G2 ⟨rfl, hG2⟩
  subst hG2
  cases ht : trn xs with
  | false =>
    simp (config := {maxSteps := 2000000}) only [s24, ↓aw_region, ↓aw_skip, ↓aw_seq, ↓aw_block, ↓aw_exit, ↓aw_ret, ↓sops_nil, ↓sops_go, ↓dops_nil, ↓dopsX_nil, ↓dopsR_nil, ↓vdn, vup, extr_20, extr_21, extr_30, extr_31, extr_32, List.map_cons, List.map_nil, cond_true, cond_false, aop, aThen, aBlock, argEnv, ev, sput, sputO, binK, binI, unK, builtinK, pickK, Nat.reduceBEq, Nat.reduceAdd, Int.reduceBEq, Int.reduceBNe, Int.reduceLT, aPost, resK, tup, tyf]
    exact ⟨hExt, _, _, rfl, by rw [if_neg (by simp)]; exact ⟨rfl, rfl⟩⟩
  | true =>
    have hxl : xs.length ≤ 8 := by simp only [trn, Bool.and_eq_true, decide_eq_true_eq] at ht; omega
    by_cases h3 : k < 3
    · simp (config := {maxSteps := 2000000}) only [s24, ↓aw_region, ↓aw_skip, ↓aw_seq, ↓aw_block, ↓aw_exit, ↓aw_ret, ↓sops_nil, ↓sops_go, ↓dops_nil, ↓dopsX_nil, ↓dopsR_nil, ↓vdn, vup, extr_20, extr_21, extr_30, extr_31, extr_32, List.map_cons, List.map_nil, cond_true, cond_false, aop, aThen, aBlock, argEnv, ev, sput, sputO, binK, binI, unK, builtinK, pickK, Nat.reduceBEq, Nat.reduceAdd, Int.reduceBEq, Int.reduceBNe, Int.reduceLT, aPost, resK, tup, tyf, load1 b0 shp_3, h3]
      exact ⟨hExt, _, _, rfl, by rw [if_neg (by omega)]; exact ⟨rfl, rfl⟩⟩
    by_cases hk : (xs.length : Int) < k
    · simp (config := {maxSteps := 2000000}) only [s24, ↓aw_region, ↓aw_skip, ↓aw_seq, ↓aw_block, ↓aw_exit, ↓aw_ret, ↓sops_nil, ↓sops_go, ↓dops_nil, ↓dopsX_nil, ↓dopsR_nil, ↓vdn, vup, extr_20, extr_21, extr_30, extr_31, extr_32, List.map_cons, List.map_nil, cond_true, cond_false, aop, aThen, aBlock, argEnv, ev, sput, sputO, binK, binI, unK, builtinK, pickK, Nat.reduceBEq, Nat.reduceAdd, Int.reduceBEq, Int.reduceBNe, Int.reduceLT, aPost, resK, tup, tyf, load1 b0 shp_3, h3, htG.len, hk, gt_iff_lt]
      exact ⟨hExt, _, _, rfl, by rw [if_neg (by omega)]; exact ⟨rfl, rfl⟩⟩
    obtain ⟨n, rfl⟩ := Int.eq_ofNat_of_zero_le (show 0 ≤ k by omega)
    simp (config := {maxSteps := 2000000}) only [s24, ↓aw_region, ↓aw_skip, ↓aw_seq, ↓aw_block, ↓aw_exit, ↓aw_ret, ↓sops_nil, ↓sops_go, ↓dops_nil, ↓dopsX_nil, ↓dopsR_nil, ↓vdn, vup, extr_20, extr_21, extr_30, extr_31, extr_32, List.map_cons, List.map_nil, cond_true, cond_false, aop, aThen, aBlock, argEnv, ev, sput, sputO, binK, binI, unK, builtinK, pickK, Nat.reduceBEq, Nat.reduceAdd, Int.reduceBEq, Int.reduceBNe, Int.reduceLT, aPost, resK, tup, tyf, load1 b0 shp_3, load1 b1 shp_55, h3, htG.len, hk, gt_iff_lt, callK, List.nil_append, List.append_nil, List.map_toArray]
    refine (search_call (is := closes xs n) (size := n) htG ht (by omega) ⟨59, _, rfl, fun h' he v l hv' hl' hr => ?_⟩).mono ?_
    · simp only [List.toList_toArray, List.cons_append, List.nil_append]
      exact closes_call ht (htG.same fun b hb => he.2 b (htG.lt hb) id) ((he.2 _ (get_lt b1) id).trans b1) ((he.2 _ (get_lt b0) id).trans b0) hv' hl' (by omega) (by omega) hr
    rintro r h' ⟨hext, hr⟩
    have hfin := hExt.trans hext
    have hcond : (3 ≤ (n : Int) ∧ (n : Int) ≤ xs.length) := ⟨by omega, by omega⟩
    cases hf : find xs n (closes xs n) with
    | none =>
      rw [hf] at hr
      simp only at hr
      subst hr
      simp (config := {maxSteps := 2000000}) only [s24, ↓aw_region, ↓aw_skip, ↓aw_seq, ↓aw_block, ↓aw_exit, ↓aw_ret, ↓sops_nil, ↓sops_go, ↓dops_nil, ↓dopsX_nil, ↓dopsR_nil, ↓vdn, vup, extr_20, extr_21, extr_30, extr_31, extr_32, List.map_cons, List.map_nil, cond_true, cond_false, aop, aThen, aBlock, argEnv, ev, sput, sputO, binK, binI, unK, builtinK, pickK, Nat.reduceBEq, Nat.reduceAdd, Int.reduceBEq, Int.reduceBNe, Int.reduceLT, aPost, resK, tup, tyf, Option.isSome_some]
      exact ⟨hfin, _, _, rfl, by rw [if_pos hcond, Int.toNat_natCast, hf]; exact ⟨rfl, rfl⟩⟩
    | some l =>
      rw [hf] at hr
      simp only at hr
      have hln := find_len hf
      obtain ⟨b, m, c, rfl⟩ := nilSl hr (by rintro rfl; simp at hln; omega)
      simp (config := {maxSteps := 2000000}) only [s24, ↓aw_region, ↓aw_skip, ↓aw_seq, ↓aw_block, ↓aw_exit, ↓aw_ret, ↓sops_nil, ↓sops_go, ↓dops_nil, ↓dopsX_nil, ↓dopsR_nil, ↓vdn, vup, extr_20, extr_21, extr_30, extr_31, extr_32, List.map_cons, List.map_nil, cond_true, cond_false, aop, aThen, aBlock, argEnv, ev, sput, sputO, binK, binI, unK, builtinK, pickK, Nat.reduceBEq, Nat.reduceAdd, Int.reduceBEq, Int.reduceBNe, Int.reduceLT, aPost, resK, tup, tyf, Option.isSome_some]
      exact ⟨hfin, _, _, rfl, by rw [if_pos hcond, Int.toNat_natCast, hf]; exact ⟨rfl, hr⟩⟩

theorem lit2 {h : Heap} {x y : Int} (K : Value → Heap → Prop) : buildSliceK prog h 22 2 [(0, vint x), (1, vint y)] K = K (.slice (some ⟨h.length, 0, none⟩) 2 2) (h ++ [.ints [x, y] 3 false]) := by
  simp only [buildSliceK, el_22, zero_3, esz_3, reps, fillL, mkb, intsOf, notTuple, cellsOf, List.length_singleton, Nat.mul_one, Nat.zero_mul, Nat.zero_add]
  exact propext ⟨fun h => h.2.2.2, fun h => ⟨trivial, Nat.zero_lt_one, by decide, h⟩⟩
theorem litSl {h : Heap} {xs : List Int} : IntSl (h ++ [.ints xs 3 false]) (.slice (some ⟨h.length, 0, none⟩) xs.length xs.length) xs :=
  .inr ⟨h.length, 0, none, xs.length, xs.map vint, 3, false, rfl, Nat.le_refl _, by simp [view, Blk.view], fun i hi => by simp [List.getD, hi]⟩
theorem IntSl_ext {h h' : Heap} {v : Value} {xs : List Int} (hv : IntSl h v xs) (he : Ext (fun _ => False) h h') : IntSl h' v xs := hv.same fun b hb => he.2 b (hv.lt hb) id

theorem awake_call [BitTab prog 1] {h : Heap} : ACall prog 21 [] h fun r h' => r = .bool true ∧ Ext (fun _ => False) h h' := by
  have ht : trn [0, 1] = true := by decide
  have hf : find [0, 1] 2 (fun _ => true) = some [1, 0] := by decide +kernel
  refine s21_call (by simp) ?_
  simp (config := {maxSteps := 2000000}) only [s21, ↓aw_region, ↓aw_skip, ↓aw_seq, ↓aw_block, ↓aw_exit, ↓aw_ret, ↓sops_nil, ↓sops_go, ↓dops_nil, ↓dopsX_nil, ↓dopsR_nil, ↓vdn, vup, extr_20, extr_21, extr_30, extr_31, extr_32, List.map_cons, List.map_nil, cond_true, cond_false, aop, aThen, aBlock, argEnv, ev, sput, sputO, binK, binI, unK, builtinK, pickK, Nat.reduceBEq, Nat.reduceAdd, Int.reduceBEq, Int.reduceBNe, Int.reduceLT, aPost, resK, tup, tyf, lit2, callK, List.nil_append, List.append_nil, List.toList_toArray, List.cons_append]
  refine (way_call (xs := [0, 1]) litSl (by decide) (by decide)).mono ?_
  rintro r h1 ⟨hext, a, e, rfl, hr⟩
  rw [if_pos ht] at hr
  obtain ⟨rfl, hr⟩ := hr
  simp only [List.length_cons, List.length_nil, Nat.zero_add, Nat.reduceAdd, hf] at hr
  have hx : Ext (fun _ => False) h h1 := (Ext.app _ _ _).trans hext
  simp (config := {maxSteps := 2000000}) only [s21, ↓aw_region, ↓aw_skip, ↓aw_seq, ↓aw_block, ↓aw_exit, ↓aw_ret, ↓sops_nil, ↓sops_go, ↓dops_nil, ↓dopsX_nil, ↓dopsR_nil, ↓vdn, vup, extr_20, extr_21, extr_30, extr_31, extr_32, List.map_cons, List.map_nil, cond_true, cond_false, aop, aThen, aBlock, argEnv, ev, sput, sputO, binK, binI, unK, builtinK, pickK, Nat.reduceBEq, Nat.reduceAdd, Int.reduceBEq, Int.reduceBNe, Int.reduceLT, aPost, resK, tup, tyf, lit2, callK, List.nil_append, List.append_nil, List.toList_toArray, List.cons_append]
  refine (equal_call (xs := [1, 0]) (ys := [1, 0]) (hr.int.grow _) litSl (by decide) (by decide)).mono ?_
  rintro _ _ ⟨rfl, rfl⟩
  simp (config := {maxSteps := 2000000}) only [s21, ↓aw_region, ↓aw_skip, ↓aw_seq, ↓aw_block, ↓aw_exit, ↓aw_ret, ↓sops_nil, ↓sops_go, ↓dops_nil, ↓dopsX_nil, ↓dopsR_nil, ↓vdn, vup, extr_20, extr_21, extr_30, extr_31, extr_32, List.map_cons, List.map_nil, cond_true, cond_false, aop, aThen, aBlock, argEnv, ev, sput, sputO, binK, binI, unK, builtinK, pickK, Nat.reduceBEq, Nat.reduceAdd, Int.reduceBEq, Int.reduceBNe, Int.reduceLT, aPost, resK, tup, tyf]
  exact hx.trans (Ext.app _ _ _)
end Go.Proofs.Tryd.Am
