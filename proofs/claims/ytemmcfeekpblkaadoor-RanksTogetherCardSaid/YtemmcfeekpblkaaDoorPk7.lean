/-
  ranks: a packing has no more cycles than an order goes against pairs; the best order's neighbours; the first of the best.
  ranks, plain: the parts stand together in the best order.
  ranks: who is reached from a player, as the program finds it.
  ranks: the library's sort of a short slice by a function: insertion; the stable sort.
  ranks: the library's sort of a short slice by a function, not stable.
  ranks: the parts, as the program finds them: a map from reaches to players, the reaches sorted.
  ranks: the parts, as the program finds them: the walk over the map; the whole.
  ranks: the parts, as the program finds them: the whole.
  ranks: what a player brings.
  ranks: the first best order, as the program finds it.
-/
import Derived.Test.YtemmcfeekpblkaaDoorPk6
set_option linter.all false
namespace Go.Proofs.Tryd.Am
open Go.Am Rb
set_option maxRecDepth 100000
set_option maxHeartbeats 1000000

theorem ord_mem {n : Nat} {os : List Int} (h : isOrd n os = true) {x : Nat} (hx : x < n) : x ∈ nl os := by
  obtain ⟨h1, h2, h3⟩ := isOrd_iff.1 h
  apply Classical.byContradiction
  intro hno
  have := Clr.len_le (n := n) (l := x :: nl os) (fun y hy => by
    rcases List.mem_cons.1 hy with rfl | hy
    · exact hx
    · obtain ⟨z, hz, rfl⟩ := List.mem_map.1 hy
      have := h2 z hz
      omega) (List.nodup_cons.2 ⟨hno, h3⟩)
  rw [List.length_cons, List.length_map] at this; omega
/-- In the best order each one beats the next. -/
theorem gr_next {xs : List Int} (ht : trn xs = true) {p m : List Nat} {x y : Nat} (h : gr (cst xs) xs.length xs.length 0 = p ++ x :: y :: m) : bb xs x y = true := by
  have hl := trn_len ht
  obtain ⟨ho, hbest⟩ := gr_best (xs := xs) hl.2
  obtain ⟨h1, h2, h3⟩ := isOrd_iff.1 ho
  rw [nl_iL, h] at h3
  rw [h, iL_len] at h1
  have hin : ∀ z ∈ p ++ x :: y :: m, z < xs.length := fun z hz => by
    have := h2 (z : Int) (by rw [h]; exact List.mem_map.2 ⟨z, hz, rfl⟩)
    omega
  have hperm : (p ++ y :: x :: m).Perm (p ++ x :: y :: m) := (List.Perm.swap x y m).append_left p
  have ho2 : isOrd xs.length (iL (p ++ y :: x :: m)) = true := iL_ord (by rw [hperm.length_eq]; exact h1) (hperm.nodup_iff.2 h3) fun z hz => hin z (hperm.mem_iff.1 hz)
  have hb := hbest _ ho2
  rw [(agTo_back hl.2 ho).1, (agTo_back hl.2 ho2).1, nl_iL, nl_iL, h] at hb
  have hxy : x ≠ y := fun e => by
    have := (List.nodup_append.1 h3).2.1
    rw [e] at this
    exact (List.nodup_cons.1 this).1 (by simp)
  have htr := (trn_clr ht).1 x y (hin x (by simp)) (hin y (by simp)) hxy
  cases hc : bb xs x y with
  | true => rfl
  | false =>
    rw [hc] at htr
    have := back_swap hc (by simpa using htr) [] p m
    omega
end Go.Proofs.Tryd.Am

namespace Go.Proofs.Tryd.Am
open Go.Am Rb Rch
set_option maxRecDepth 100000
set_option maxHeartbeats 1000000

/-- The best order. -/
def gB (xs : List Int) : List Nat := gr (cst xs) xs.length xs.length 0
section
variable {xs : List Int} (ht : trn xs = true)
include ht
theorem gB_ok : (gB xs).length = xs.length ∧ (∀ x ∈ gB xs, x < xs.length) ∧ (gB xs).Nodup := by
  have hl := trn_len ht
  obtain ⟨ho, _⟩ := gr_best (xs := xs) hl.2
  obtain ⟨h1, h2, h3⟩ := isOrd_iff.1 ho
  rw [nl_iL] at h3
  rw [iL_len] at h1
  refine ⟨h1, fun x hx => ?_, h3⟩
  have := h2 (x : Int) (List.mem_map.2 ⟨x, hx, rfl⟩)
  omega
theorem gB_mem (x : Nat) : x ∈ gB xs ↔ x < xs.length := by
  refine ⟨(gB_ok ht).2.1 x, fun hx => ?_⟩
  have hl := trn_len ht
  have := ord_mem (gr_best (xs := xs) hl.2).1 hx
  rwa [nl_iL] at this
theorem bb_rch {x y : Nat} (hx : x < xs.length) (h : bb xs x y = true) : (rch xs x).testBit y = true := (rch_iff ht hx y).2 (Rc.refl.step h)
theorem chain_pw : ∀ (l : List Nat), (∀ x ∈ l, x < xs.length) → (∀ p m x y, l = p ++ x :: y :: m → bb xs x y = true) → l.Pairwise fun x y => (rch xs x).testBit y = true
  | [], _, _ => List.Pairwise.nil
  | [x], _, _ => List.pairwise_singleton _ _
  | x :: y :: l, hm, hc => by
    have ih := chain_pw (y :: l) (fun z hz => hm z (List.mem_cons_of_mem _ hz)) fun p m a b e => hc (x :: p) m a b (by rw [e]; rfl)
    have hx := hm x (by simp)
    have h1 := bb_rch ht hx (hc [] l x y rfl)
    refine List.pairwise_cons.2 ⟨fun z hz => ?_, ih⟩
    rcases List.mem_cons.1 hz with rfl | hz
    · exact h1
    · exact (rch_nest ht).sub x y z hx h1 ((List.pairwise_cons.1 ih).1 z hz)
theorem gB_pw : (gB xs).Pairwise fun x y => (rch xs x).testBit y = true :=
  chain_pw ht _ (gB_ok ht).2.1 fun _ _ _ _ e => gr_next ht e
end
theorem split_pw {f : Nat → Bool} : ∀ {l : List Nat}, l.Pairwise (fun x y => f y = true → f x = true) → l = l.filter f ++ l.filter fun x => !f x
  | [], _ => rfl
  | x :: l, h => by
    obtain ⟨h1, h2⟩ := List.pairwise_cons.1 h
    cases hx : f x with
    | true => rw [List.filter_cons, if_pos hx, List.filter_cons, if_neg (by simp [hx]), List.cons_append, ← split_pw h2]
    | false =>
      have e : l.filter f = [] := List.filter_eq_nil_iff.2 fun y hy h => by rw [h1 y hy h] at hx; cases hx
      have e2 : (l.filter fun x => !f x) = l := List.filter_eq_self.2 fun y hy => by
        cases hy' : f y with
        | false => rfl
        | true => rw [h1 y hy hy'] at hx; cases hx
      rw [List.filter_cons, if_neg (by simp [hx]), List.filter_cons, if_pos (by simp [hx]), e, e2]; rfl
/-- The part that reaches all that is left. -/
def tP (xs : List Int) (left : Nat) : Nat := Clr.setL (topL xs.length (rch xs) left)
structure Tg (xs : List Int) (a left : Nat) : Prop where
  lt : left < 2 ^ xs.length
  le : a ≤ xs.length
  m : ∀ x, x ∈ (gB xs).drop a ↔ left.testBit x = true
section
variable {xs : List Int} (ht : trn xs = true) {a left : Nat}
include ht
theorem tg_start : Tg xs 0 (2 ^ xs.length - 1) where
  lt := by have := Nat.two_pow_pos xs.length; omega
  le := Nat.zero_le _
  m x := by rw [List.drop_zero, gB_mem ht, Nat.testBit_two_pow_sub_one, decide_eq_true_eq]
theorem tg_ne (h : Tg xs a left) (h0 : left ≠ 0) : a < xs.length := by
  apply Classical.byContradiction
  intro hn
  refine h0 (Nat.eq_of_testBit_eq fun x => ?_)
  rw [Nat.zero_testBit]
  cases hx : left.testBit x with
  | false => rfl
  | true =>
    have := (h.m x).2 hx
    rw [List.drop_eq_nil_of_le (by rw [(gB_ok ht).1]; omega)] at this; cases this
theorem tg_zero (h : Tg xs a 0) : a = xs.length := by
  have hle := h.le
  cases hd : (gB xs).drop a with
  | nil => have := List.drop_eq_nil_iff.1 hd; rw [(gB_ok ht).1] at this; omega
  | cons x l => have := (h.m x).1 (by rw [hd]; simp); rw [Nat.zero_testBit] at this; cases this
theorem tP_bit (x : Nat) : (tP xs left).testBit x = true ↔ x < xs.length ∧ tp (rch xs) left x = true := top_bit x
theorem tg_step (h : Tg xs a left) (h0 : left ≠ 0) :
    1 ≤ tP xs left ∧ tP xs left < 2 ^ xs.length ∧ tP xs left &&& ((2 ^ xs.length - 1) ^^^ left) = 0 ∧ 1 ≤ (Am.bits (tP xs left)).length ∧ a + (Am.bits (tP xs left)).length ≤ xs.length ∧
    Clr.setL (((gB xs).drop a).take (Am.bits (tP xs left)).length) = tP xs left ∧ Tg xs (a + (Am.bits (tP xs left)).length) (left ^^^ tP xs left) ∧
    ((2 ^ xs.length - 1) ^^^ left) ||| tP xs left = (2 ^ xs.length - 1) ^^^ (left ^^^ tP xs left) ∧
    ∀ i, i < xs.length → (tP xs left).testBit i = true → ∀ x, (left ^^^ tP xs left).testBit x = true → (tN xs i).testBit x = true := by
  have hxl := trn_len ht
  have hn := rch_nest ht
  have hb := fun x => tP_bit ht (left := left) x
  have htl : ∀ x, (tP xs left).testBit x = true → left.testBit x = true := fun x hx => by
    have := ((hb x).1 hx).2; rw [tp, Bool.and_eq_true] at this; exact this.1
  have hlt : tP xs left < 2 ^ xs.length := Clr.setL_lt fun x hx => List.mem_range.1 (List.mem_filter.1 hx).1
  obtain ⟨i0, hi0, ht0⟩ := tp_some hn h.lt h0
  have hi0b := (hb i0).2 ⟨hi0, ht0⟩
  have htne : tP xs left ≠ 0 := fun e => by rw [e, Nat.zero_testBit] at hi0b; cases hi0b
  have hnd : ((gB xs).drop a).Nodup := (List.drop_sublist a (gB xs)).nodup (gB_ok ht).2.2
  have hpw : ((gB xs).drop a).Pairwise fun x y => (rch xs x).testBit y = true := (gB_pw ht).sublist (List.drop_sublist a (gB xs))
  have hup : ∀ x y, x < xs.length → (rch xs x).testBit y = true → rch xs y &&& left = left → rch xs x &&& left = left := fun x y hx hxy e => by
    refine Nat.eq_of_testBit_eq fun z => ?_
    rw [Nat.testBit_and]
    cases hz : left.testBit z with
    | false => simp
    | true =>
      have : (rch xs y &&& left).testBit z = true := by rw [e]; exact hz
      rw [Nat.testBit_and, Bool.and_eq_true] at this
      rw [hn.sub x y z hx hxy this.1]; rfl
  have hsplit := split_pw (f := (tP xs left).testBit) (l := (gB xs).drop a) (hpw.imp_of_mem fun {x y} hx hy hxy hty => by
    have hxl' := (h.m x).1 hx
    refine (hb x).2 ⟨left_bit h.lt hxl', ?_⟩
    have := ((hb y).1 hty).2
    rw [tp, Bool.and_eq_true, beq_iff_eq] at this ⊢
    exact ⟨hxl', hup x y (left_bit h.lt hxl') hxy this.2⟩)
  have hlen : ((gB xs).drop a |>.filter (tP xs left).testBit).length = (Am.bits (tP xs left)).length := by
    refine (Clr.perm_of_nodup (hnd.filter _) (Clr.bits_nodup _) fun x => ?_).length_eq
    rw [List.mem_filter, h.m, mem_bits]
    refine ⟨fun hx => ⟨by have := ((hb x).1 hx.2).1; omega, hx.2⟩, fun hx => ⟨htl x hx.2, hx.2⟩⟩
  have htake : ((gB xs).drop a).take (Am.bits (tP xs left)).length = ((gB xs).drop a).filter (tP xs left).testBit := by
    conv => lhs; rw [hsplit]
    rw [← hlen, List.take_left]
  have hdrop : ((gB xs).drop a).drop (Am.bits (tP xs left)).length = ((gB xs).drop a).filter fun x => !(tP xs left).testBit x := by
    conv => lhs; rw [hsplit]
    rw [← hlen, List.drop_left]
  have hle : a + (Am.bits (tP xs left)).length ≤ xs.length := by
    have h1 := List.length_filter_le (tP xs left).testBit ((gB xs).drop a)
    rw [hlen, List.length_drop, (gB_ok ht).1] at h1
    have := h.le; omega
  have hxor : ∀ x, (left ^^^ tP xs left).testBit x = (left.testBit x && !(tP xs left).testBit x) := fun x => by
    rw [Nat.testBit_xor]
    cases hx : (tP xs left).testBit x with
    | false => simp
    | true => rw [htl x hx]; rfl
  have hfull : ∀ x, (2 ^ xs.length - 1).testBit x = decide (x < xs.length) := fun x => Nat.testBit_two_pow_sub_one _ _
  refine ⟨Nat.pos_of_ne_zero htne, hlt, ?_, ?_, hle, ?_, ⟨Nat.xor_lt_two_pow h.lt hlt, hle, fun x => ?_⟩, ?_, ?_⟩
  · refine Nat.eq_of_testBit_eq fun x => ?_
    rw [Nat.testBit_and, Nat.testBit_xor, Nat.zero_testBit, hfull]
    cases hx : (tP xs left).testBit x with
    | false => rfl
    | true => rw [htl x hx, decide_eq_true ((hb x).1 hx).1]; rfl
  · exact List.length_pos_of_mem (mem_bits.2 ⟨by omega, hi0b⟩)
  · rw [htake]
    refine Nat.eq_of_testBit_eq fun x => ?_
    rw [Bool.eq_iff_iff, Clr.setL_bit, List.mem_filter, h.m]
    exact ⟨fun hx => hx.2, fun hx => ⟨htl x hx, hx⟩⟩
  · rw [← List.drop_drop, hdrop, List.mem_filter, h.m, hxor, Bool.and_eq_true]
  · refine Nat.eq_of_testBit_eq fun x => ?_
    rw [Nat.testBit_or, Nat.testBit_xor, Nat.testBit_xor, hxor, hfull]
    cases hx : (tP xs left).testBit x with
    | false => simp
    | true => rw [htl x hx, decide_eq_true ((hb x).1 hx).1]; rfl
  · intro i hi hti x hx
    rw [hxor, Bool.and_eq_true] at hx
    have hxn := left_bit h.lt hx.1
    have hne : x ≠ i := fun e => by rw [e, hti] at hx; exact absurd hx.2 (by decide)
    have htr := (trn_clr ht).1 x i hxn hi hne
    cases hc : bb xs i x with
    | true => exact hc
    | false =>
      rw [hc] at htr
      have hxi : bb xs x i = true := by simpa using htr
      have h2 := ((hb i).1 hti).2
      rw [tp, Bool.and_eq_true, beq_iff_eq] at h2
      have : (tP xs left).testBit x = true := (hb x).2 ⟨hxn, by rw [tp, Bool.and_eq_true, beq_iff_eq]; exact ⟨hx.1, hup x i hxn (bb_rch ht hxn hxi) h2.2⟩⟩
      rw [this] at hx; exact absurd hx.2 (by decide)
end
/-- j parts behind. -/
structure TgI (xs : List Int) (j a left : Nat) : Prop where
  t : Tg xs a left
  k : ∃ k, xs.length - a ≤ k ∧ (prts xs).drop j = cps xs.length (rch xs) k left
section
variable {xs : List Int} (ht : trn xs = true) {j a left : Nat}
include ht
theorem tgi_start : TgI xs 0 0 (2 ^ xs.length - 1) := ⟨tg_start ht, xs.length, by omega, by rw [List.drop_zero]; rfl⟩
theorem tgi_step (h : TgI xs j a left) (hj : j < (prts xs).length) : left ≠ 0 ∧ (prts xs).getD j 0 = tP xs left ∧ TgI xs (j + 1) (a + (Am.bits (tP xs left)).length) (left ^^^ tP xs left) := by
  obtain ⟨k, hk, e⟩ := h.k
  have hd : (prts xs).drop j = (prts xs).getD j 0 :: (prts xs).drop (j + 1) := by rw [List.drop_eq_getElem_cons hj, List.getD, List.getElem?_eq_getElem hj]; rfl
  have h0 : left ≠ 0 := fun e0 => by rw [e0, cps_zero, hd] at e; cases e
  have ha := tg_ne ht h.t h0
  cases k with
  | zero => omega
  | succ k =>
    rw [hd, cps, if_neg h0] at e
    obtain ⟨h1, h2, h3, h4, h5, h6, h7, _⟩ := tg_step ht h.t h0
    injection e with e1 e2
    exact ⟨h0, e1, h7, k, by omega, e2⟩
theorem tgi_end (h : TgI xs j a left) (hj : ¬ j < (prts xs).length) : a = xs.length := by
  obtain ⟨k, hk, e⟩ := h.k
  rw [List.drop_eq_nil_of_le (by omega)] at e
  by_cases h0 : left = 0
  · exact tg_zero ht (h0 ▸ h.t)
  · have ha := tg_ne ht h.t h0
    cases k with
    | zero => omega
    | succ k => rw [cps, if_neg h0] at e; cases e
end
end Go.Proofs.Tryd.Am

namespace Go.Proofs.Tryd.Am
open Go.Am Rb Rch
set_option maxRecDepth 100000
set_option maxHeartbeats 1000000

theorem s82_callW [Tabs Tryd.prog] {args : List Value} {h : Heap} {Q : Value → Heap → Prop} (hsz : args.length ≤ 24) (hk : AWS Tryd.prog 24 s82 (aPost Tryd.prog [.tmp 4] Q) (argEnv 0 args) h) : ACall Tryd.prog 82 args h Q :=
  acall_w Tryd.func82 rfl (enters_of Tryd.func82 (by kernel_rfl) rfl) rfl rfl (by decide) s82_strip s82_ok hsz hk
theorem reach_call [BitTab prog 1] {h : Heap} {v : Value} {xs : List Int} {i : Nat} (hv : IntSl h v xs) (ht : trn xs = true) (hi : i < xs.length) : APure prog 82 [v, vint i] h (vint (rch xs i : Nat)) := by
  refine ACall.forget (Low.int _ _) ?_
  have hxl := trn_len ht
  have h256 := pow8N hxl.2
  have hnn : ∀ i : Nat, (0 : Int) ≤ (i : Int) := Int.natCast_nonneg
  have box55 : ∀ {K : Value → Heap → Prop}, boxK prog h 55 v K = K (newPtr h) (h ++ [.cells [v] 55 false]) := fun {K} => by
    rcases hv with ⟨rfl, _⟩ | ⟨b, o, sp, cap, c, e, ro, rfl, _⟩ <;> simp [boxK, cellsOf, esz_55]
  refine s82_callW (by simp) ?_
  simp only [s82]
  refine aws_cut fun N1 hN1 => ?_
  simp (maxSteps := 2000000) only [s82, ↓aw_region, ↓aw_skip, ↓aw_seq, ↓aw_block, ↓aw_exit, ↓aw_ret, ↓sops_nil, ↓sops_go, ↓dops_nil, ↓dopsX_nil, ↓dopsR_nil, ↓vdn, vup, extr_20, extr_21, extr_30, extr_31, extr_32, List.map_cons, List.map_nil, cond_true, cond_false, aop, aThen, aBlock, argEnv, ev, sput, sputO, binK, binI, unK, builtinK, pickK, Nat.reduceBEq, Nat.reduceAdd, Int.reduceBEq, Int.reduceBNe, Int.reduceLT, aPost, resK, tup, tyf, box55]
  refine hN1 [(0, v), (1, vint i), (2, .pointer (some ⟨h.length, 0, none⟩)), (4, .int .i64 0)] _ _ ?_ (by simp (maxSteps := 2000000) only [↓aw_region, ↓aw_skip, ↓aw_seq, ↓aw_block, ↓aw_exit, ↓aw_ret, ↓sops_nil, ↓sops_go, ↓dops_nil, ↓dopsX_nil, ↓dopsR_nil, ↓vdn, vup, extr_20, extr_21, extr_30, extr_31, extr_32, List.map_cons, List.map_nil, cond_true, cond_false, aop, aThen, aBlock, argEnv, ev, sput, sputO, binK, binI, unK, builtinK, pickK, Nat.reduceBEq, Nat.reduceAdd, Int.reduceBEq, Int.reduceBNe, Int.reduceLT, aPost, resK, tup, tyf])
  clear hN1
  try clear N1
  obtain ⟨H, hH⟩ : ∃ H, H = h ++ [Blk.cells [v] 55 false] := ⟨_, rfl⟩
  have hE0 : Ext (fun _ => False) h H := by rw [hH]; exact Ext.app _ _ _
  have b0 : H[h.length]? = some (.cells [v] 55 false) := by rw [hH]; exact get_new _ _
  have hHl : H.length = h.length + 1 := by rw [hH]; simp
  rw [← hH]
  clear hH
  have hvH := IntSl_ext hv hE0
  refine aws_cut fun N2 hN2 => ?_
  simp (maxSteps := 2000000) only [s82, ↓aw_region, ↓aw_skip, ↓aw_seq, ↓aw_block, ↓aw_exit, ↓aw_ret, ↓sops_nil, ↓sops_go, ↓dops_nil, ↓dopsX_nil, ↓dopsR_nil, ↓vdn, vup, extr_20, extr_21, extr_30, extr_31, extr_32, List.map_cons, List.map_nil, cond_true, cond_false, aop, aThen, aBlock, argEnv, ev, sput, sputO, binK, binI, unK, builtinK, pickK, Nat.reduceBEq, Nat.reduceAdd, Int.reduceBEq, Int.reduceBNe, Int.reduceLT, aPost, resK, tup, tyf, hnn, shlI1 (show i ≤ 62 by omega), allocK, newPtr, zero_3]
  rw [storeI (v := .int .i64 0) (e := 3) (get_new _ _) shp_3]
  obtain ⟨G, hG⟩ : ∃ G, G = (H ++ [Blk.cells [Value.int .i64 0] 3 false]).set H.length (Blk.cells [vint ((2 ^ i : Nat) : Int)] 3 false) := ⟨_, rfl⟩
  have hE1 : Ext (fun _ => False) H G := ⟨by rw [hG]; simp, fun j hj _ => by rw [hG, List.getElem?_set_ne (by omega), List.getElem?_append_left hj]⟩
  have b1 : G[H.length]? = some (.cells [vint ((2 ^ i : Nat) : Int)] 3 false) := by rw [hG]; exact get_set (by simp) _
  rw [← hG]
  clear hG
  refine hN2 [(0, v), (1, vint i), (2, .pointer (some ⟨h.length, 0, none⟩)), (4, .int .i64 0), (5, .pointer (some ⟨H.length, 0, none⟩))] _ _ ?_ (by simp (maxSteps := 2000000) only [↓aw_region, ↓aw_skip, ↓aw_seq, ↓aw_block, ↓aw_exit, ↓aw_ret, ↓sops_nil, ↓sops_go, ↓dops_nil, ↓dopsX_nil, ↓dopsR_nil, ↓vdn, vup, extr_20, extr_21, extr_30, extr_31, extr_32, List.map_cons, List.map_nil, cond_true, cond_false, aop, aThen, aBlock, argEnv, ev, sput, sputO, binK, binI, unK, builtinK, pickK, Nat.reduceBEq, Nat.reduceAdd, Int.reduceBEq, Int.reduceBNe, Int.reduceLT, aPost, resK, tup, tyf])
  clear hN2
  try clear N2
  have b0G := (hE1.2 _ (get_lt b0) id).trans b0
  have hvG := IntSl_ext hvH hE1
  have hEG := hE0.trans hE1
  generalize hbs : H.length = bs at *
  refine aws_cut fun Z hZ => ?_
  simp (maxSteps := 2000000) only [s82, ↓aw_region, ↓aw_skip, ↓aw_seq, ↓aw_block, ↓aw_exit, ↓aw_ret, ↓sops_nil, ↓sops_go, ↓dops_nil, ↓dopsX_nil, ↓dopsR_nil, ↓vdn, vup, extr_20, extr_21, extr_30, extr_31, extr_32, List.map_cons, List.map_nil, cond_true, cond_false, aop, aThen, aBlock, argEnv, ev, sput, sputO, binK, binI, unK, builtinK, pickK, Nat.reduceBEq, Nat.reduceAdd, Int.reduceBEq, Int.reduceBNe, Int.reduceLT, aPost, resK, tup, tyf, load1 b0G shp_55, hvG.len, ↓aw_loop_eq]
  refine aws_hide fun Q hQ => ?_
  refine aw_loop (γ := Nat × Heap) (fun s => s.1 ≤ xs.length ∧ Ext (fun _ => False) h s.2 ∧ s.2[h.length]? = some (.cells [v] 55 false) ∧ s.2[bs]? = some (.cells [vint (pR xs i s.1 : Nat)] 3 false))
    (fun s => ([(0, v), (1, vint i), (2, .pointer (some ⟨h.length, 0, none⟩)), (4, .int .i64 0), (5, .pointer (some ⟨bs, 0, none⟩)), (9, v), (10, vint xs.length), (11, vint s.1)], s.2)) (fun s => xs.length - s.1) (0, G) ⟨Nat.zero_le _, hEG, b0G, by rw [pR]; exact b1⟩ (by simp (maxSteps := 2000000) only [↓aw_region, ↓aw_skip, ↓aw_seq, ↓aw_block, ↓aw_exit, ↓aw_ret, ↓sops_nil, ↓sops_go, ↓dops_nil, ↓dopsX_nil, ↓dopsR_nil, ↓vdn, vup, extr_20, extr_21, extr_30, extr_31, extr_32, List.map_cons, List.map_nil, cond_true, cond_false, aop, aThen, aBlock, argEnv, ev, sput, sputO, binK, binI, unK, builtinK, pickK, Nat.reduceBEq, Nat.reduceAdd, Int.reduceBEq, Int.reduceBNe, Int.reduceLT, aPost, resK, tup, tyf, Int.natCast_zero]) rfl ?_
  clear b0G b1 hvG hEG hE1 hE0 b0 hvH
  rintro ⟨k, hp⟩ ⟨hk, hE, bp, bS⟩
  simp only at hk hE bp bS
  refine aw_hide fun Q2 hQ2 => ?_
  have hvp := IntSl_ext hv hE
  by_cases hkn : (k : Int) < xs.length
  · have hlt := pR_lt ht hi k
    simp (maxSteps := 2000000) only [s82, ↓aw_region, ↓aw_skip, ↓aw_seq, ↓aw_block, ↓aw_exit, ↓aw_ret, ↓sops_nil, ↓sops_go, ↓dops_nil, ↓dopsX_nil, ↓dopsR_nil, ↓vdn, vup, extr_20, extr_21, extr_30, extr_31, extr_32, List.map_cons, List.map_nil, cond_true, cond_false, aop, aThen, aBlock, argEnv, ev, sput, sputO, binK, binI, unK, builtinK, pickK, Nat.reduceBEq, Nat.reduceAdd, Int.reduceBEq, Int.reduceBNe, Int.reduceLT, aPost, resK, tup, tyf, l82_1, hkn, load1 bS shp_3, callK, List.nil_append, List.append_nil, List.toList_toArray, List.cons_append]
    refine players_call.mono ?_
    rintro v' h3 ⟨rfl, rfl⟩
    have hbl := get_lt bS
    have hpl := get_lt bp
    have hEl := hE.1
    refine aw_range bitIter (bx := hp.length) (s := pR xs i k) (et := 3) rfl (get_new _ _) (by omega) (fun pre hk => Ext (fun _ => False) h hk ∧ hk[h.length]? = some (.cells [v] 55 false) ∧ hk[bs]? = some (.cells [vint ((pre.foldl (fun r j => r ||| tN xs j) (pR xs i k) : Nat) : Int)] 3 false)) ⟨?_, ?_, ?_⟩ ?_ ?_
    · refine hE.trans ⟨by simp, fun j hj _ => ?_⟩
      rw [List.getElem?_set_ne (by omega), List.getElem?_append_left hj]
    · rw [List.getElem?_set_ne (by omega)]; exact get_old bp _
    · rw [List.getElem?_set_ne (by omega)]; exact get_old bS _
    · rintro pre j hk2 hpre ⟨hE2, bp2, bS2⟩
      obtain ⟨hj64, hjb⟩ := mem_bits.1 (mem_pre hpre)
      have hjn : j < xs.length := bit_in ht hlt hjb
      obtain ⟨hY, hYl⟩ := trn_nat ht hjn
      have hvk := IntSl_ext hv hE2
      have hlt2 : pre.foldl (fun r j => r ||| tN xs j) (pR xs i k) < 2 ^ xs.length := orf_lt ht (fun m hm => bit_in ht hlt (mem_bits.1 (hpre.subset (by simp [hm]))).2) hlt
      generalize hr : pre.foldl (fun r j => r ||| tN xs j) (pR xs i k) = r at bS2 hlt2
      have hor2 : bitsV .or .i64 (r : Int) (xs.getD j 0) = ((r ||| tN xs j : Nat) : Int) := by
        have := bitsV_or (a := r) (b := tN xs j) (by omega) (by rw [tN]; omega)
        rw [tN] at this ⊢
        rw [← hY] at this; exact this
      simp (maxSteps := 2000000) only [s82, ↓aw_region, ↓aw_skip, ↓aw_seq, ↓aw_block, ↓aw_exit, ↓aw_ret, ↓sops_nil, ↓sops_go, ↓dops_nil, ↓dopsX_nil, ↓dopsR_nil, ↓vdn, vup, extr_20, extr_21, extr_30, extr_31, extr_32, List.map_cons, List.map_nil, cond_true, cond_false, aop, aThen, aBlock, argEnv, ev, sput, sputO, binK, binI, unK, builtinK, pickK, Nat.reduceBEq, Nat.reduceAdd, Int.reduceBEq, Int.reduceBNe, Int.reduceLT, aPost, resK, tup, tyf, r82_0_a, r82_0_b]
      refine aw_drawX [] (by kernel_rfl) (by kernel_rfl) (by kernel_rfl) (by kernel_rfl) ?_
      simp (maxSteps := 2000000) only [s82, ↓aw_region, ↓aw_skip, ↓aw_seq, ↓aw_block, ↓aw_exit, ↓aw_ret, ↓sops_nil, ↓sops_go, ↓dops_nil, ↓dopsX_nil, ↓dopsR_nil, ↓vdn, vup, extr_20, extr_21, extr_30, extr_31, extr_32, List.map_cons, List.map_nil, cond_true, cond_false, aop, aThen, aBlock, argEnv, ev, sput, sputO, binK, binI, unK, builtinK, pickK, Nat.reduceBEq, Nat.reduceAdd, Int.reduceBEq, Int.reduceBNe, Int.reduceLT, aPost, resK, tup, tyf, load1 bS2 shp_3, load1 bp2 shp_55, hvk.idx el_55 esz_3 hjn, hvk.load shp_3 hjn, hor2, storeI bS2 shp_3]
      have hbl2 := get_lt bS2
      refine ⟨?_, ?_, ?_⟩
      · exact hE2.set_ge (by omega) _
      · rw [List.getElem?_set_ne (by omega)]; exact bp2
      · rw [get_set (get_lt bS2), List.foldl_append, hr]; rfl
    · rintro hk2 ⟨hE2, bp2, bS2⟩
      simp (maxSteps := 2000000) only [s82, ↓aw_region, ↓aw_skip, ↓aw_seq, ↓aw_block, ↓aw_exit, ↓aw_ret, ↓sops_nil, ↓sops_go, ↓dops_nil, ↓dopsX_nil, ↓dopsR_nil, ↓vdn, vup, extr_20, extr_21, extr_30, extr_31, extr_32, List.map_cons, List.map_nil, cond_true, cond_false, aop, aThen, aBlock, argEnv, ev, sput, sputO, binK, binI, unK, builtinK, pickK, Nat.reduceBEq, Nat.reduceAdd, Int.reduceBEq, Int.reduceBNe, Int.reduceLT, aPost, resK, tup, tyf, add1 (show k < 9223372036854775807 by omega)]
      exact hQ2 _ _ _ ⟨(k + 1, hk2), ⟨by simp only; omega, hE2, bp2, bS2⟩, by simp only; omega, by simp (maxSteps := 2000000) only [↓aw_region, ↓aw_skip, ↓aw_seq, ↓aw_block, ↓aw_exit, ↓aw_ret, ↓sops_nil, ↓sops_go, ↓dops_nil, ↓dopsX_nil, ↓dopsR_nil, ↓vdn, vup, extr_20, extr_21, extr_30, extr_31, extr_32, List.map_cons, List.map_nil, cond_true, cond_false, aop, aThen, aBlock, argEnv, ev, sput, sputO, binK, binI, unK, builtinK, pickK, Nat.reduceBEq, Nat.reduceAdd, Int.reduceBEq, Int.reduceBNe, Int.reduceLT, aPost, resK, tup, tyf], rfl⟩
  · obtain rfl : k = xs.length := by omega
    simp (maxSteps := 2000000) only [s82, ↓aw_region, ↓aw_skip, ↓aw_seq, ↓aw_block, ↓aw_exit, ↓aw_ret, ↓sops_nil, ↓sops_go, ↓dops_nil, ↓dopsX_nil, ↓dopsR_nil, ↓vdn, vup, extr_20, extr_21, extr_30, extr_31, extr_32, List.map_cons, List.map_nil, cond_true, cond_false, aop, aThen, aBlock, argEnv, ev, sput, sputO, binK, binI, unK, builtinK, pickK, Nat.reduceBEq, Nat.reduceAdd, Int.reduceBEq, Int.reduceBNe, Int.reduceLT, aPost, resK, tup, tyf, l82_1, Int.lt_irrefl]
    refine hQ2 _ _ _ (hQ _ _ _ ?_)
    simp (maxSteps := 2000000) only [s82, ↓aw_region, ↓aw_skip, ↓aw_seq, ↓aw_block, ↓aw_exit, ↓aw_ret, ↓sops_nil, ↓sops_go, ↓dops_nil, ↓dopsX_nil, ↓dopsR_nil, ↓vdn, vup, extr_20, extr_21, extr_30, extr_31, extr_32, List.map_cons, List.map_nil, cond_true, cond_false, aop, aThen, aBlock, argEnv, ev, sput, sputO, binK, binI, unK, builtinK, pickK, Nat.reduceBEq, Nat.reduceAdd, Int.reduceBEq, Int.reduceBNe, Int.reduceLT, aPost, resK, tup, tyf, if_true]
    refine hZ [(0, v), (1, vint i), (2, .pointer (some ⟨h.length, 0, none⟩)), (4, .int .i64 0), (5, .pointer (some ⟨bs, 0, none⟩))] _ _ ?_ (by simp (maxSteps := 2000000) only [↓aw_region, ↓aw_skip, ↓aw_seq, ↓aw_block, ↓aw_exit, ↓aw_ret, ↓sops_nil, ↓sops_go, ↓dops_nil, ↓dopsX_nil, ↓dopsR_nil, ↓vdn, vup, extr_20, extr_21, extr_30, extr_31, extr_32, List.map_cons, List.map_nil, cond_true, cond_false, aop, aThen, aBlock, argEnv, ev, sput, sputO, binK, binI, unK, builtinK, pickK, Nat.reduceBEq, Nat.reduceAdd, Int.reduceBEq, Int.reduceBNe, Int.reduceLT, aPost, resK, tup, tyf])
    clear hZ
    try clear Z
    refine aw_aws ?_
    simp (maxSteps := 2000000) only [s82, ↓aw_region, ↓aw_skip, ↓aw_seq, ↓aw_block, ↓aw_exit, ↓aw_ret, ↓sops_nil, ↓sops_go, ↓dops_nil, ↓dopsX_nil, ↓dopsR_nil, ↓vdn, vup, extr_20, extr_21, extr_30, extr_31, extr_32, List.map_cons, List.map_nil, cond_true, cond_false, aop, aThen, aBlock, argEnv, ev, sput, sputO, binK, binI, unK, builtinK, pickK, Nat.reduceBEq, Nat.reduceAdd, Int.reduceBEq, Int.reduceBNe, Int.reduceLT, aPost, resK, tup, tyf, load1 bS shp_3]
    exact ⟨rfl, hE⟩
end Go.Proofs.Tryd.Am

namespace Go.Proofs.Tryd.Am
open Go.Am Rb
set_option maxRecDepth 100000
set_option maxHeartbeats 1000000

theorem s120_callW [Tabs Tryd.prog] {args : List Value} {h : Heap} {Q : Value → Heap → Prop} (hsz : args.length ≤ 53) (hk : AWS Tryd.prog 53 s120 (aPost Tryd.prog [] Q) (argEnv 0 args) h) : ACall Tryd.prog 120 args h Q :=
  acall_w Tryd.func120 rfl (enters_of Tryd.func120 (by kernel_rfl) rfl) rfl rfl (by decide) s120_strip s120_ok hsz hk
theorem isortF_call [Tabs prog] {h : Heap} {b : Nat} {L0 : List Nat} {ys : List Int} {g : FuncId} {cap : Array Value} {key : Nat → Int} (hk : ∀ x ∈ L0, -1000 ≤ key x ∧ key x ≤ 1000) (hc : ∀ L x y, x ∈ L0 → y ∈ L0 → APure prog g ([vint x, vint y] ++ cap.toList) (h.set b (.ints (iL L ++ ys) 3 false)) (vint (key x - key y))) (hb : h[b]? = some (.ints (iL L0 ++ ys) 3 false)) (hl : L0.length ≤ 12) (hx : ∀ x ∈ L0, x < 4611686018427387904) :
    ACall prog 120 [ov b L0.length ys.length, .int .i64 0, vint L0.length, .func (.func g) #[] cap] h fun _ h' => ∃ L : List Nat, L.Perm L0 ∧ L.Pairwise (fun a b => key a ≤ key b) ∧ h' = h.set b (.ints (iL L ++ ys) 3 false) := by
  have hlt := get_lt hb
  have h0 : h = h.set b (.ints (iL L0 ++ ys) 3 false) := by
    apply List.ext_getElem?
    intro i
    by_cases hi : b = i
    · subst hi; rw [get_set hlt, hb]
    · rw [List.getElem?_set_ne hi]
  obtain ⟨n, hn⟩ : ∃ n, L0.length = n := ⟨_, rfl⟩
  rw [hn] at hl ⊢
  have hrange : ∀ {L : List Nat}, L.Perm L0 → ∀ i, L.getD i 0 < 4611686018427387904 := fun {L} hp i => by
    by_cases hi : i < L.length
    · rw [List.getD, List.getElem?_eq_getElem hi]; exact hx _ (hp.mem_iff.1 (List.getElem_mem hi))
    · rw [List.getD, List.getElem?_eq_none (by omega)]; decide
  refine s120_callW (by simp) ?_
  simp only [s120]
  have e01 : addV .i64 0 1 = 1 := rfl
  refine aws_cut fun N1 hN1 => ?_
  simp (maxSteps := 2000000) only [s120, ↓aw_region, ↓aw_skip, ↓aw_seq, ↓aw_block, ↓aw_exit, ↓aw_ret, ↓sops_nil, ↓sops_go, ↓dops_nil, ↓dopsX_nil, ↓dopsR_nil, ↓vdn, vup, extr_20, extr_21, extr_30, extr_31, extr_32, List.map_cons, List.map_nil, cond_true, cond_false, aop, aThen, aBlock, argEnv, ev, sput, sputO, binK, binI, unK, builtinK, pickK, Nat.reduceBEq, Nat.reduceAdd, Int.reduceBEq, Int.reduceBNe, Int.reduceLT, aPost, resK, tup, tyf, e01]
  refine hN1 [(0, ov b n ys.length), (1, .int .i64 0), (2, vint n), (3, .func (.func g) #[] cap), (8, .int .i64 1)] _ _ ?_ (by simp (maxSteps := 2000000) only [↓aw_region, ↓aw_skip, ↓aw_seq, ↓aw_block, ↓aw_exit, ↓aw_ret, ↓sops_nil, ↓sops_go, ↓dops_nil, ↓dopsX_nil, ↓dopsR_nil, ↓vdn, vup, extr_20, extr_21, extr_30, extr_31, extr_32, List.map_cons, List.map_nil, cond_true, cond_false, aop, aThen, aBlock, argEnv, ev, sput, sputO, binK, binI, unK, builtinK, pickK, Nat.reduceBEq, Nat.reduceAdd, Int.reduceBEq, Int.reduceBNe, Int.reduceLT, aPost, resK, tup, tyf])
  clear hN1
  try clear N1
  refine aws_block ?_
  refine aws_hide fun Q hQ => ?_
  refine aw_loopW (γ := Nat × List Nat) (fun s => 1 ≤ s.1 ∧ (s.1 ≤ n ∨ s.1 = 1) ∧ s.2.Perm L0 ∧ SrtTo key s.2 s.1)
    (fun s => ([(0, ov b n ys.length), (1, .int .i64 0), (2, vint n), (3, .func (.func g) #[] cap), (8, vint s.1)], h.set b (.ints (iL s.2 ++ ys) 3 false))) (fun s => n - s.1) (1, L0) ⟨Nat.le_refl _, .inr rfl, .refl _, fun p q _ _ => by omega⟩ (by simp (maxSteps := 2000000) only [↓aw_region, ↓aw_skip, ↓aw_seq, ↓aw_block, ↓aw_exit, ↓aw_ret, ↓sops_nil, ↓sops_go, ↓dops_nil, ↓dopsX_nil, ↓dopsR_nil, ↓vdn, vup, extr_20, extr_21, extr_30, extr_31, extr_32, List.map_cons, List.map_nil, cond_true, cond_false, aop, aThen, aBlock, argEnv, ev, sput, sputO, binK, binI, unK, builtinK, pickK, Nat.reduceBEq, Nat.reduceAdd, Int.reduceBEq, Int.reduceBNe, Int.reduceLT, aPost, resK, tup, tyf, Int.natCast_one]) h0 ?_
  rintro ⟨i, L⟩ ⟨hi1, hi, hp, hs⟩
  simp only at hi1 hi hp hs
  have hLn : L.length = n := hp.length_eq.trans hn
  refine aws_hide fun Q2 hQ2 => ?_
  simp only [l120_1]
  by_cases hin : (i : Int) < n
  · have hi' : i < n := by omega
    refine aws_cut fun N2 hN2 => ?_
    simp (maxSteps := 2000000) only [s120, ↓aw_region, ↓aw_skip, ↓aw_seq, ↓aw_block, ↓aw_exit, ↓aw_ret, ↓sops_nil, ↓sops_go, ↓dops_nil, ↓dopsX_nil, ↓dopsR_nil, ↓vdn, vup, extr_20, extr_21, extr_30, extr_31, extr_32, List.map_cons, List.map_nil, cond_true, cond_false, aop, aThen, aBlock, argEnv, ev, sput, sputO, binK, binI, unK, builtinK, pickK, Nat.reduceBEq, Nat.reduceAdd, Int.reduceBEq, Int.reduceBNe, Int.reduceLT, aPost, resK, tup, tyf, hin]
    refine hN2 [(0, ov b n ys.length), (1, .int .i64 0), (2, vint n), (3, .func (.func g) #[] cap), (8, vint i)] _ _ ?_ (by simp (maxSteps := 2000000) only [↓aw_region, ↓aw_skip, ↓aw_seq, ↓aw_block, ↓aw_exit, ↓aw_ret, ↓sops_nil, ↓sops_go, ↓dops_nil, ↓dopsX_nil, ↓dopsR_nil, ↓vdn, vup, extr_20, extr_21, extr_30, extr_31, extr_32, List.map_cons, List.map_nil, cond_true, cond_false, aop, aThen, aBlock, argEnv, ev, sput, sputO, binK, binI, unK, builtinK, pickK, Nat.reduceBEq, Nat.reduceAdd, Int.reduceBEq, Int.reduceBNe, Int.reduceLT, aPost, resK, tup, tyf])
    clear hN2
    try clear N2
    refine aws_cutW fun M hM => ?_
    refine aws_block ?_
    refine aws_cut fun N3 hN3 => ?_
    simp (maxSteps := 2000000) only [s120, ↓aw_region, ↓aw_skip, ↓aw_seq, ↓aw_block, ↓aw_exit, ↓aw_ret, ↓sops_nil, ↓sops_go, ↓dops_nil, ↓dopsX_nil, ↓dopsR_nil, ↓vdn, vup, extr_20, extr_21, extr_30, extr_31, extr_32, List.map_cons, List.map_nil, cond_true, cond_false, aop, aThen, aBlock, argEnv, ev, sput, sputO, binK, binI, unK, builtinK, pickK, Nat.reduceBEq, Nat.reduceAdd, Int.reduceBEq, Int.reduceBNe, Int.reduceLT, aPost, resK, tup, tyf]
    refine hN3 [(0, ov b n ys.length), (1, .int .i64 0), (2, vint n), (3, .func (.func g) #[] cap), (8, vint i), (9, vint i)] _ _ ?_ (by simp (maxSteps := 2000000) only [↓aw_region, ↓aw_skip, ↓aw_seq, ↓aw_block, ↓aw_exit, ↓aw_ret, ↓sops_nil, ↓sops_go, ↓dops_nil, ↓dopsX_nil, ↓dopsR_nil, ↓vdn, vup, extr_20, extr_21, extr_30, extr_31, extr_32, List.map_cons, List.map_nil, cond_true, cond_false, aop, aThen, aBlock, argEnv, ev, sput, sputO, binK, binI, unK, builtinK, pickK, Nat.reduceBEq, Nat.reduceAdd, Int.reduceBEq, Int.reduceBNe, Int.reduceLT, aPost, resK, tup, tyf])
    clear hN3
    try clear N3
    refine aws_block ?_
    refine aws_hide fun Q3 hQ3 => ?_
    refine aw_loopW (γ := Nat × List Nat) (fun s => s.1 ≤ i ∧ s.2.Perm L0 ∧ SrtBut key s.2 i s.1)
      (fun s => ([(0, ov b n ys.length), (1, .int .i64 0), (2, vint n), (3, .func (.func g) #[] cap), (8, vint i), (9, vint s.1)], h.set b (.ints (iL s.2 ++ ys) 3 false))) (fun s => s.1) (i, L) ⟨Nat.le_refl _, hp, fun p q h1 h2 h3 => hs p q h1 (by omega)⟩ (by simp (maxSteps := 2000000) only [↓aw_region, ↓aw_skip, ↓aw_seq, ↓aw_block, ↓aw_exit, ↓aw_ret, ↓sops_nil, ↓sops_go, ↓dops_nil, ↓dopsX_nil, ↓dopsR_nil, ↓vdn, vup, extr_20, extr_21, extr_30, extr_31, extr_32, List.map_cons, List.map_nil, cond_true, cond_false, aop, aThen, aBlock, argEnv, ev, sput, sputO, binK, binI, unK, builtinK, pickK, Nat.reduceBEq, Nat.reduceAdd, Int.reduceBEq, Int.reduceBNe, Int.reduceLT, aPost, resK, tup, tyf]) rfl ?_
    clear hp hs hLn
    rintro ⟨j, L⟩ ⟨hj, hp, hs⟩
    simp only at hj hp hs
    have hLn : L.length = n := hp.length_eq.trans hn
    have own := ov_own (h := h) (b := b) (n := n) (L := L) (ys := ys) hlt hLn
    refine aws_hide fun Q4 hQ4 => ?_
    simp only [l120_0]
    have fin : (j = 0 ∨ key (L.getD (j - 1) 0) ≤ key (L.getD j 0)) → ∀ e, ELe e [(0, ov b n ys.length), (1, .int .i64 0), (2, vint n), (3, .func (.func g) #[] cap), (8, vint i)] → M e (h.set b (.ints (iL L ++ ys) 3 false)) := by
      intro hd e he
      refine hM [(0, ov b n ys.length), (1, .int .i64 0), (2, vint n), (3, .func (.func g) #[] cap), (8, vint i)] _ _ ?_ he
      refine aw_aws ?_
      simp (maxSteps := 2000000) only [s120, ↓aw_region, ↓aw_skip, ↓aw_seq, ↓aw_block, ↓aw_exit, ↓aw_ret, ↓sops_nil, ↓sops_go, ↓dops_nil, ↓dopsX_nil, ↓dopsR_nil, ↓vdn, vup, extr_20, extr_21, extr_30, extr_31, extr_32, List.map_cons, List.map_nil, cond_true, cond_false, aop, aThen, aBlock, argEnv, ev, sput, sputO, binK, binI, unK, builtinK, pickK, Nat.reduceBEq, Nat.reduceAdd, Int.reduceBEq, Int.reduceBNe, Int.reduceLT, aPost, resK, tup, tyf, add1 (show i < 9223372036854775807 by omega)]
      exact hQ2 _ _ _ ⟨(i + 1, L), ⟨by simp only; omega, .inl (by simp only; omega), hp, hs.done hd⟩, by simp only; omega, by simp (maxSteps := 2000000) only [↓aw_region, ↓aw_skip, ↓aw_seq, ↓aw_block, ↓aw_exit, ↓aw_ret, ↓sops_nil, ↓sops_go, ↓dops_nil, ↓dopsX_nil, ↓dopsR_nil, ↓vdn, vup, extr_20, extr_21, extr_30, extr_31, extr_32, List.map_cons, List.map_nil, cond_true, cond_false, aop, aThen, aBlock, argEnv, ev, sput, sputO, binK, binI, unK, builtinK, pickK, Nat.reduceBEq, Nat.reduceAdd, Int.reduceBEq, Int.reduceBNe, Int.reduceLT, aPost, resK, tup, tyf], rfl⟩
    by_cases hj0 : j = 0
    · subst hj0
      refine aws_cut fun N4 hN4 => ?_
      simp (maxSteps := 2000000) only [s120, ↓aw_region, ↓aw_skip, ↓aw_seq, ↓aw_block, ↓aw_exit, ↓aw_ret, ↓sops_nil, ↓sops_go, ↓dops_nil, ↓dopsX_nil, ↓dopsR_nil, ↓vdn, vup, extr_20, extr_21, extr_30, extr_31, extr_32, List.map_cons, List.map_nil, cond_true, cond_false, aop, aThen, aBlock, argEnv, ev, sput, sputO, binK, binI, unK, builtinK, pickK, Nat.reduceBEq, Nat.reduceAdd, Int.reduceBEq, Int.reduceBNe, Int.reduceLT, aPost, resK, tup, tyf]
      refine aw_drawX [(14, 1)] (by kernel_rfl) (by kernel_rfl) (by kernel_rfl) (by kernel_rfl) ?_
      simp (maxSteps := 2000000) only [s120, ↓aw_region, ↓aw_skip, ↓aw_seq, ↓aw_block, ↓aw_exit, ↓aw_ret, ↓sops_nil, ↓sops_go, ↓dops_nil, ↓dopsX_nil, ↓dopsR_nil, ↓vdn, vup, extr_20, extr_21, extr_30, extr_31, extr_32, List.map_cons, List.map_nil, cond_true, cond_false, aop, aThen, aBlock, argEnv, ev, sput, sputO, binK, binI, unK, builtinK, pickK, Nat.reduceBEq, Nat.reduceAdd, Int.reduceBEq, Int.reduceBNe, Int.reduceLT, aPost, resK, tup, tyf, gt_iff_lt, Int.natCast_zero, Int.lt_irrefl]
      refine hQ4 _ _ _ (hQ3 _ _ _ ?_)
      simp (maxSteps := 2000000) only [s120, ↓aw_region, ↓aw_skip, ↓aw_seq, ↓aw_block, ↓aw_exit, ↓aw_ret, ↓sops_nil, ↓sops_go, ↓dops_nil, ↓dopsX_nil, ↓dopsR_nil, ↓vdn, vup, extr_20, extr_21, extr_30, extr_31, extr_32, List.map_cons, List.map_nil, cond_true, cond_false, aop, aThen, aBlock, argEnv, ev, sput, sputO, binK, binI, unK, builtinK, pickK, Nat.reduceBEq, Nat.reduceAdd, Int.reduceBEq, Int.reduceBNe, Int.reduceLT, aPost, resK, tup, tyf, if_true]
      exact fin (.inl rfl) _ (by simp (maxSteps := 2000000) only [↓aw_region, ↓aw_skip, ↓aw_seq, ↓aw_block, ↓aw_exit, ↓aw_ret, ↓sops_nil, ↓sops_go, ↓dops_nil, ↓dopsX_nil, ↓dopsR_nil, ↓vdn, vup, extr_20, extr_21, extr_30, extr_31, extr_32, List.map_cons, List.map_nil, cond_true, cond_false, aop, aThen, aBlock, argEnv, ev, sput, sputO, binK, binI, unK, builtinK, pickK, Nat.reduceBEq, Nat.reduceAdd, Int.reduceBEq, Int.reduceBNe, Int.reduceLT, aPost, resK, tup, tyf])
    · have hjp : (0 : Int) < (j : Int) := by omega
      have hjn : j < (iL L).length := by rw [iL_len]; omega
      have hj1n : j - 1 < (iL L).length := by omega
      have hin1 : ∀ i, i < n → L.getD i 0 ∈ L0 := fun i hi => hp.mem_iff.1 (by rw [List.getD, List.getElem?_eq_getElem (by omega), Option.getD_some]; exact List.getElem_mem _)
      have c1 := hc L _ _ (hin1 j (by omega)) (hin1 (j - 1) (by omega))
      have hk1 := hk _ (hin1 j (by omega))
      have hk2 := hk _ (hin1 (j - 1) (by omega))
      have hsub := subN1 (show 1 ≤ j by omega) (show j < 9223372036854775808 by omega)
      by_cases hlt2 : key (L.getD j 0) < key (L.getD (j - 1) 0)
      · have hneg : key (L.getD j 0) - key (L.getD (j - 1) 0) < 0 := by omega
        refine aws_cut fun N5 hN5 => ?_
        simp (maxSteps := 2000000) only [s120, ↓aw_region, ↓aw_skip, ↓aw_seq, ↓aw_block, ↓aw_exit, ↓aw_ret, ↓sops_nil, ↓sops_go, ↓dops_nil, ↓dopsX_nil, ↓dopsR_nil, ↓vdn, vup, extr_20, extr_21, extr_30, extr_31, extr_32, List.map_cons, List.map_nil, cond_true, cond_false, aop, aThen, aBlock, argEnv, ev, sput, sputO, binK, binI, unK, builtinK, pickK, Nat.reduceBEq, Nat.reduceAdd, Int.reduceBEq, Int.reduceBNe, Int.reduceLT, aPost, resK, tup, tyf]
        refine aw_drawX [(14, 1)] (by kernel_rfl) (by kernel_rfl) (by kernel_rfl) (by kernel_rfl) ?_
        simp (maxSteps := 2000000) only [s120, ↓aw_region, ↓aw_skip, ↓aw_seq, ↓aw_block, ↓aw_exit, ↓aw_ret, ↓sops_nil, ↓sops_go, ↓dops_nil, ↓dopsX_nil, ↓dopsR_nil, ↓vdn, vup, extr_20, extr_21, extr_30, extr_31, extr_32, List.map_cons, List.map_nil, cond_true, cond_false, aop, aThen, aBlock, argEnv, ev, sput, sputO, binK, binI, unK, builtinK, pickK, Nat.reduceBEq, Nat.reduceAdd, Int.reduceBEq, Int.reduceBNe, Int.reduceLT, aPost, resK, tup, tyf, gt_iff_lt, hjp, hsub, own.int.idx el_22 esz_3 hjn, own.int.load shp_3 hjn, own.int.idx el_22 esz_3 hj1n, own.int.load shp_3 hj1n, iL_get, callK, List.nil_append, List.append_nil, List.toList_toArray, List.cons_append]
        refine ⟨_, _, c1, rfl, ?_⟩
        simp (maxSteps := 2000000) only [s120, ↓aw_region, ↓aw_skip, ↓aw_seq, ↓aw_block, ↓aw_exit, ↓aw_ret, ↓sops_nil, ↓sops_go, ↓dops_nil, ↓dopsX_nil, ↓dopsR_nil, ↓vdn, vup, extr_20, extr_21, extr_30, extr_31, extr_32, List.map_cons, List.map_nil, cond_true, cond_false, aop, aThen, aBlock, argEnv, ev, sput, sputO, binK, binI, unK, builtinK, pickK, Nat.reduceBEq, Nat.reduceAdd, Int.reduceBEq, Int.reduceBNe, Int.reduceLT, aPost, resK, tup, tyf, hneg, decide_true, decide_false]
        refine hN5 [(0, ov b n ys.length), (1, .int .i64 0), (2, vint n), (3, .func (.func g) #[] cap), (8, vint i), (9, vint j)] _ _ ?_ (by simp (maxSteps := 2000000) only [↓aw_region, ↓aw_skip, ↓aw_seq, ↓aw_block, ↓aw_exit, ↓aw_ret, ↓sops_nil, ↓sops_go, ↓dops_nil, ↓dopsX_nil, ↓dopsR_nil, ↓vdn, vup, extr_20, extr_21, extr_30, extr_31, extr_32, List.map_cons, List.map_nil, cond_true, cond_false, aop, aThen, aBlock, argEnv, ev, sput, sputO, binK, binI, unK, builtinK, pickK, Nat.reduceBEq, Nat.reduceAdd, Int.reduceBEq, Int.reduceBNe, Int.reduceLT, aPost, resK, tup, tyf])
        clear hN5
        try clear N5
        refine aw_aws ?_
        simp (maxSteps := 2000000) only [s120, ↓aw_region, ↓aw_skip, ↓aw_seq, ↓aw_block, ↓aw_exit, ↓aw_ret, ↓sops_nil, ↓sops_go, ↓dops_nil, ↓dopsX_nil, ↓dopsR_nil, ↓vdn, vup, extr_20, extr_21, extr_30, extr_31, extr_32, List.map_cons, List.map_nil, cond_true, cond_false, aop, aThen, aBlock, argEnv, ev, sput, sputO, binK, binI, unK, builtinK, pickK, Nat.reduceBEq, Nat.reduceAdd, Int.reduceBEq, Int.reduceBNe, Int.reduceLT, aPost, resK, tup, tyf]
        refine aw_drawX [] (by kernel_rfl) (by kernel_rfl) (by kernel_rfl) (by kernel_rfl) ?_
        have hjL : j < L.length := by omega
        simp (maxSteps := 2000000) only [s120, ↓aw_region, ↓aw_skip, ↓aw_seq, ↓aw_block, ↓aw_exit, ↓aw_ret, ↓sops_nil, ↓sops_go, ↓dops_nil, ↓dopsX_nil, ↓dopsR_nil, ↓vdn, vup, extr_20, extr_21, extr_30, extr_31, extr_32, List.map_cons, List.map_nil, cond_true, cond_false, aop, aThen, aBlock, argEnv, ev, sput, sputO, binK, binI, unK, builtinK, pickK, Nat.reduceBEq, Nat.reduceAdd, Int.reduceBEq, Int.reduceBNe, Int.reduceLT, aPost, resK, tup, tyf, hsub, own.int.idx el_22 esz_3 hjn, own.int.idx el_22 esz_3 hj1n, elemP_ov, ov_load hlt hLn (show j < n by omega), ov_load hlt hLn (show j - 1 < n by omega), ov_store hlt hjL, ov_store hlt (show j - 1 < (L.set j (L.getD (j - 1) 0)).length by rw [List.length_set]; omega)]
        refine hQ4 _ _ _ ⟨(j - 1, swL L j), ⟨by simp only; omega, (swL_perm (by omega) hjL).trans hp, hs.step (by omega) hjL hj hlt2⟩, by simp only; omega, by simp (maxSteps := 2000000) only [↓aw_region, ↓aw_skip, ↓aw_seq, ↓aw_block, ↓aw_exit, ↓aw_ret, ↓sops_nil, ↓sops_go, ↓dops_nil, ↓dopsX_nil, ↓dopsR_nil, ↓vdn, vup, extr_20, extr_21, extr_30, extr_31, extr_32, List.map_cons, List.map_nil, cond_true, cond_false, aop, aThen, aBlock, argEnv, ev, sput, sputO, binK, binI, unK, builtinK, pickK, Nat.reduceBEq, Nat.reduceAdd, Int.reduceBEq, Int.reduceBNe, Int.reduceLT, aPost, resK, tup, tyf], rfl⟩
      · have hneg : ¬ key (L.getD j 0) - key (L.getD (j - 1) 0) < 0 := by omega
        refine aws_cut fun N6 hN6 => ?_
        simp (maxSteps := 2000000) only [s120, ↓aw_region, ↓aw_skip, ↓aw_seq, ↓aw_block, ↓aw_exit, ↓aw_ret, ↓sops_nil, ↓sops_go, ↓dops_nil, ↓dopsX_nil, ↓dopsR_nil, ↓vdn, vup, extr_20, extr_21, extr_30, extr_31, extr_32, List.map_cons, List.map_nil, cond_true, cond_false, aop, aThen, aBlock, argEnv, ev, sput, sputO, binK, binI, unK, builtinK, pickK, Nat.reduceBEq, Nat.reduceAdd, Int.reduceBEq, Int.reduceBNe, Int.reduceLT, aPost, resK, tup, tyf]
        refine aw_drawX [(14, 1)] (by kernel_rfl) (by kernel_rfl) (by kernel_rfl) (by kernel_rfl) ?_
        simp (maxSteps := 2000000) only [s120, ↓aw_region, ↓aw_skip, ↓aw_seq, ↓aw_block, ↓aw_exit, ↓aw_ret, ↓sops_nil, ↓sops_go, ↓dops_nil, ↓dopsX_nil, ↓dopsR_nil, ↓vdn, vup, extr_20, extr_21, extr_30, extr_31, extr_32, List.map_cons, List.map_nil, cond_true, cond_false, aop, aThen, aBlock, argEnv, ev, sput, sputO, binK, binI, unK, builtinK, pickK, Nat.reduceBEq, Nat.reduceAdd, Int.reduceBEq, Int.reduceBNe, Int.reduceLT, aPost, resK, tup, tyf, gt_iff_lt, hjp, hsub, own.int.idx el_22 esz_3 hjn, own.int.load shp_3 hjn, own.int.idx el_22 esz_3 hj1n, own.int.load shp_3 hj1n, iL_get, callK, List.nil_append, List.append_nil, List.toList_toArray, List.cons_append]
        refine ⟨_, _, c1, rfl, ?_⟩
        simp (maxSteps := 2000000) only [s120, ↓aw_region, ↓aw_skip, ↓aw_seq, ↓aw_block, ↓aw_exit, ↓aw_ret, ↓sops_nil, ↓sops_go, ↓dops_nil, ↓dopsX_nil, ↓dopsR_nil, ↓vdn, vup, extr_20, extr_21, extr_30, extr_31, extr_32, List.map_cons, List.map_nil, cond_true, cond_false, aop, aThen, aBlock, argEnv, ev, sput, sputO, binK, binI, unK, builtinK, pickK, Nat.reduceBEq, Nat.reduceAdd, Int.reduceBEq, Int.reduceBNe, Int.reduceLT, aPost, resK, tup, tyf, hneg, decide_true, decide_false]
        refine hQ4 _ _ _ (hQ3 _ _ _ ?_)
        simp (maxSteps := 2000000) only [s120, ↓aw_region, ↓aw_skip, ↓aw_seq, ↓aw_block, ↓aw_exit, ↓aw_ret, ↓sops_nil, ↓sops_go, ↓dops_nil, ↓dopsX_nil, ↓dopsR_nil, ↓vdn, vup, extr_20, extr_21, extr_30, extr_31, extr_32, List.map_cons, List.map_nil, cond_true, cond_false, aop, aThen, aBlock, argEnv, ev, sput, sputO, binK, binI, unK, builtinK, pickK, Nat.reduceBEq, Nat.reduceAdd, Int.reduceBEq, Int.reduceBNe, Int.reduceLT, aPost, resK, tup, tyf, if_true]
        exact fin (.inr (by omega)) _ (by simp (maxSteps := 2000000) only [↓aw_region, ↓aw_skip, ↓aw_seq, ↓aw_block, ↓aw_exit, ↓aw_ret, ↓sops_nil, ↓sops_go, ↓dops_nil, ↓dopsX_nil, ↓dopsR_nil, ↓vdn, vup, extr_20, extr_21, extr_30, extr_31, extr_32, List.map_cons, List.map_nil, cond_true, cond_false, aop, aThen, aBlock, argEnv, ev, sput, sputO, binK, binI, unK, builtinK, pickK, Nat.reduceBEq, Nat.reduceAdd, Int.reduceBEq, Int.reduceBNe, Int.reduceLT, aPost, resK, tup, tyf])
  · refine aws_cut fun M hM => ?_
    simp (maxSteps := 2000000) only [s120, ↓aw_region, ↓aw_skip, ↓aw_seq, ↓aw_block, ↓aw_exit, ↓aw_ret, ↓sops_nil, ↓sops_go, ↓dops_nil, ↓dopsX_nil, ↓dopsR_nil, ↓vdn, vup, extr_20, extr_21, extr_30, extr_31, extr_32, List.map_cons, List.map_nil, cond_true, cond_false, aop, aThen, aBlock, argEnv, ev, sput, sputO, binK, binI, unK, builtinK, pickK, Nat.reduceBEq, Nat.reduceAdd, Int.reduceBEq, Int.reduceBNe, Int.reduceLT, aPost, resK, tup, tyf, hin]
    refine hQ2 _ _ _ (hQ _ _ _ ?_)
    simp (maxSteps := 2000000) only [s120, ↓aw_region, ↓aw_skip, ↓aw_seq, ↓aw_block, ↓aw_exit, ↓aw_ret, ↓sops_nil, ↓sops_go, ↓dops_nil, ↓dopsX_nil, ↓dopsR_nil, ↓vdn, vup, extr_20, extr_21, extr_30, extr_31, extr_32, List.map_cons, List.map_nil, cond_true, cond_false, aop, aThen, aBlock, argEnv, ev, sput, sputO, binK, binI, unK, builtinK, pickK, Nat.reduceBEq, Nat.reduceAdd, Int.reduceBEq, Int.reduceBNe, Int.reduceLT, aPost, resK, tup, tyf, if_true]
    refine ⟨L, hp, ?_, rfl⟩
    refine SrtTo.pw ?_
    rw [hLn]
    intro p q hpq hq
    exact hs p q hpq (by omega)

end Go.Proofs.Tryd.Am

namespace Go.Proofs.Tryd.Am
open Go.Am Rb
set_option maxRecDepth 100000
set_option maxHeartbeats 1000000

theorem s102_callW [Tabs Tryd.prog] {args : List Value} {h : Heap} {Q : Value → Heap → Prop} (hsz : args.length ≤ 148) (hk : AWS Tryd.prog 148 s102 (aPost Tryd.prog [] Q) (argEnv 0 args) h) : ACall Tryd.prog 102 args h Q :=
  acall_w Tryd.func102 rfl (enters_of Tryd.func102 (by kernel_rfl) rfl) rfl rfl (by decide) s102_strip s102_ok hsz hk
theorem pdqF_call [Tabs prog] {h : Heap} {b : Nat} {L0 : List Nat} {ys : List Int} {z : Int} {g : FuncId} {cap : Array Value} {key : Nat → Int} (hk : ∀ x ∈ L0, -1000 ≤ key x ∧ key x ≤ 1000) (hc : ∀ L x y, x ∈ L0 → y ∈ L0 → APure prog g ([vint x, vint y] ++ cap.toList) (h.set b (.ints (iL L ++ ys) 3 false)) (vint (key x - key y))) (hb : h[b]? = some (.ints (iL L0 ++ ys) 3 false)) (hl : L0.length ≤ 12) (hx : ∀ x ∈ L0, x < 4611686018427387904) :
    ACall prog 102 [ov b L0.length ys.length, .int .i64 0, vint L0.length, .int .i64 z, .func (.func g) #[] cap] h fun _ h' => ∃ L : List Nat, L.Perm L0 ∧ L.Pairwise (fun a b => key a ≤ key b) ∧ h' = h.set b (.ints (iL L ++ ys) 3 false) := by
  have hsub : subV .i64 (L0.length : Int) 0 = (L0.length : Int) := by rw [subV_id (by omega) (by omega)]; omega
  have hle : (L0.length : Int) ≤ 12 := by omega
  refine s102_callW (by simp) ?_
  simp only [s102]
  refine aws_cut fun N1 hN1 => ?_
  simp (maxSteps := 2000000) only [s102, ↓aw_region, ↓aw_skip, ↓aw_seq, ↓aw_block, ↓aw_exit, ↓aw_ret, ↓sops_nil, ↓sops_go, ↓dops_nil, ↓dopsX_nil, ↓dopsR_nil, ↓vdn, vup, extr_20, extr_21, extr_30, extr_31, extr_32, List.map_cons, List.map_nil, cond_true, cond_false, aop, aThen, aBlock, argEnv, ev, sput, sputO, binK, binI, unK, builtinK, pickK, Nat.reduceBEq, Nat.reduceAdd, Int.reduceBEq, Int.reduceBNe, Int.reduceLT, aPost, resK, tup, tyf]
  refine hN1 [(0, ov b L0.length ys.length), (1, .int .i64 0), (2, vint L0.length), (3, .int .i64 z), (4, .func (.func g) #[] cap), (10, .bool true)] _ _ ?_ (by simp (maxSteps := 2000000) only [↓aw_region, ↓aw_skip, ↓aw_seq, ↓aw_block, ↓aw_exit, ↓aw_ret, ↓sops_nil, ↓sops_go, ↓dops_nil, ↓dopsX_nil, ↓dopsR_nil, ↓vdn, vup, extr_20, extr_21, extr_30, extr_31, extr_32, List.map_cons, List.map_nil, cond_true, cond_false, aop, aThen, aBlock, argEnv, ev, sput, sputO, binK, binI, unK, builtinK, pickK, Nat.reduceBEq, Nat.reduceAdd, Int.reduceBEq, Int.reduceBNe, Int.reduceLT, aPost, resK, tup, tyf])
  clear hN1
  try clear N1
  refine aws_cut fun N2 hN2 => ?_
  simp (maxSteps := 2000000) only [s102, ↓aw_region, ↓aw_skip, ↓aw_seq, ↓aw_block, ↓aw_exit, ↓aw_ret, ↓sops_nil, ↓sops_go, ↓dops_nil, ↓dopsX_nil, ↓dopsR_nil, ↓vdn, vup, extr_20, extr_21, extr_30, extr_31, extr_32, List.map_cons, List.map_nil, cond_true, cond_false, aop, aThen, aBlock, argEnv, ev, sput, sputO, binK, binI, unK, builtinK, pickK, Nat.reduceBEq, Nat.reduceAdd, Int.reduceBEq, Int.reduceBNe, Int.reduceLT, aPost, resK, tup, tyf]
  refine hN2 [(0, ov b L0.length ys.length), (1, .int .i64 0), (2, vint L0.length), (3, .int .i64 z), (4, .func (.func g) #[] cap), (10, .bool true), (11, .bool true)] _ _ ?_ (by simp (maxSteps := 2000000) only [↓aw_region, ↓aw_skip, ↓aw_seq, ↓aw_block, ↓aw_exit, ↓aw_ret, ↓sops_nil, ↓sops_go, ↓dops_nil, ↓dopsX_nil, ↓dopsR_nil, ↓vdn, vup, extr_20, extr_21, extr_30, extr_31, extr_32, List.map_cons, List.map_nil, cond_true, cond_false, aop, aThen, aBlock, argEnv, ev, sput, sputO, binK, binI, unK, builtinK, pickK, Nat.reduceBEq, Nat.reduceAdd, Int.reduceBEq, Int.reduceBNe, Int.reduceLT, aPost, resK, tup, tyf])
  clear hN2
  try clear N2
  refine aws_block ?_
  refine aws_hide fun Q hQ => ?_
  refine aw_loopW (γ := Unit) (fun _ => True) (fun _ => ([(0, ov b L0.length ys.length), (1, .int .i64 0), (2, vint L0.length), (3, .int .i64 z), (4, .func (.func g) #[] cap), (10, .bool true), (11, .bool true)], h)) (fun _ => 0) () trivial (by simp (maxSteps := 2000000) only [↓aw_region, ↓aw_skip, ↓aw_seq, ↓aw_block, ↓aw_exit, ↓aw_ret, ↓sops_nil, ↓sops_go, ↓dops_nil, ↓dopsX_nil, ↓dopsR_nil, ↓vdn, vup, extr_20, extr_21, extr_30, extr_31, extr_32, List.map_cons, List.map_nil, cond_true, cond_false, aop, aThen, aBlock, argEnv, ev, sput, sputO, binK, binI, unK, builtinK, pickK, Nat.reduceBEq, Nat.reduceAdd, Int.reduceBEq, Int.reduceBNe, Int.reduceLT, aPost, resK, tup, tyf]) rfl ?_
  rintro _ _
  refine aws_hide fun Q2 hQ2 => ?_
  simp only [l102_0]
  refine aws_block ?_
  refine aws_cut fun N3 hN3 => ?_
  simp (maxSteps := 2000000) only [s102, ↓aw_region, ↓aw_skip, ↓aw_seq, ↓aw_block, ↓aw_exit, ↓aw_ret, ↓sops_nil, ↓sops_go, ↓dops_nil, ↓dopsX_nil, ↓dopsR_nil, ↓vdn, vup, extr_20, extr_21, extr_30, extr_31, extr_32, List.map_cons, List.map_nil, cond_true, cond_false, aop, aThen, aBlock, argEnv, ev, sput, sputO, binK, binI, unK, builtinK, pickK, Nat.reduceBEq, Nat.reduceAdd, Int.reduceBEq, Int.reduceBNe, Int.reduceLT, aPost, resK, tup, tyf, hsub]
  refine hN3 [(0, ov b L0.length ys.length), (1, .int .i64 0), (2, vint L0.length), (3, .int .i64 z), (4, .func (.func g) #[] cap), (10, .bool true), (11, .bool true), (12, vint L0.length)] _ _ ?_ (by simp (maxSteps := 2000000) only [↓aw_region, ↓aw_skip, ↓aw_seq, ↓aw_block, ↓aw_exit, ↓aw_ret, ↓sops_nil, ↓sops_go, ↓dops_nil, ↓dopsX_nil, ↓dopsR_nil, ↓vdn, vup, extr_20, extr_21, extr_30, extr_31, extr_32, List.map_cons, List.map_nil, cond_true, cond_false, aop, aThen, aBlock, argEnv, ev, sput, sputO, binK, binI, unK, builtinK, pickK, Nat.reduceBEq, Nat.reduceAdd, Int.reduceBEq, Int.reduceBNe, Int.reduceLT, aPost, resK, tup, tyf])
  clear hN3
  try clear N3
  refine aws_cut fun N4 hN4 => ?_
  simp (maxSteps := 2000000) only [s102, ↓aw_region, ↓aw_skip, ↓aw_seq, ↓aw_block, ↓aw_exit, ↓aw_ret, ↓sops_nil, ↓sops_go, ↓dops_nil, ↓dopsX_nil, ↓dopsR_nil, ↓vdn, vup, extr_20, extr_21, extr_30, extr_31, extr_32, List.map_cons, List.map_nil, cond_true, cond_false, aop, aThen, aBlock, argEnv, ev, sput, sputO, binK, binI, unK, builtinK, pickK, Nat.reduceBEq, Nat.reduceAdd, Int.reduceBEq, Int.reduceBNe, Int.reduceLT, aPost, resK, tup, tyf, callK, List.nil_append, List.append_nil, List.toList_toArray, List.cons_append, hle]
  refine (isortF_call hk hc hb hl hx).mono ?_
  rintro r h' hr
  refine hQ2 _ _ _ (hQ _ _ _ ?_)
  try simp (maxSteps := 2000000) only [s102, ↓aw_region, ↓aw_skip, ↓aw_seq, ↓aw_block, ↓aw_exit, ↓aw_ret, ↓sops_nil, ↓sops_go, ↓dops_nil, ↓dopsX_nil, ↓dopsR_nil, ↓vdn, vup, extr_20, extr_21, extr_30, extr_31, extr_32, List.map_cons, List.map_nil, cond_true, cond_false, aop, aThen, aBlock, argEnv, ev, sput, sputO, binK, binI, unK, builtinK, pickK, Nat.reduceBEq, Nat.reduceAdd, Int.reduceBEq, Int.reduceBNe, Int.reduceLT, aPost, resK, tup, tyf]
  exact hr
theorem s83_callW [Tabs Tryd.prog] {args : List Value} {h : Heap} {Q : Value → Heap → Prop} (hsz : args.length ≤ 14) (hk : AWS Tryd.prog 14 s83 (aPost Tryd.prog [] Q) (argEnv 0 args) h) : ACall Tryd.prog 83 args h Q :=
  acall_w Tryd.func83 rfl (enters_of Tryd.func83 (by kernel_rfl) rfl) rfl rfl (by decide) s83_strip s83_ok hsz hk
theorem sortFn_call [Tabs prog] {h : Heap} {b : Nat} {L0 : List Nat} {ys : List Int} {g : FuncId} {cap : Array Value} {key : Nat → Int} (hk : ∀ x ∈ L0, -1000 ≤ key x ∧ key x ≤ 1000) (hc : ∀ L x y, x ∈ L0 → y ∈ L0 → APure prog g ([vint x, vint y] ++ cap.toList) (h.set b (.ints (iL L ++ ys) 3 false)) (vint (key x - key y))) (hb : h[b]? = some (.ints (iL L0 ++ ys) 3 false)) (hl : L0.length ≤ 12) (hx : ∀ x ∈ L0, x < 4611686018427387904) :
    ACall prog 83 [ov b L0.length ys.length, .func (.func g) #[] cap] h fun _ h' => ∃ L : List Nat, L.Perm L0 ∧ L.Pairwise (fun a b => key a ≤ key b) ∧ h' = h.set b (.ints (iL L ++ ys) 3 false) := by
  have hw : IntKind.u64.wrap (L0.length : Int) = (L0.length : Int) := wrapU_id (by omega) (by omega)
  refine s83_callW (by simp) ?_
  simp only [s83]
  refine aws_cut fun N5 hN5 => ?_
  simp (maxSteps := 2000000) only [s83, ↓aw_region, ↓aw_skip, ↓aw_seq, ↓aw_block, ↓aw_exit, ↓aw_ret, ↓sops_nil, ↓sops_go, ↓dops_nil, ↓dopsX_nil, ↓dopsR_nil, ↓vdn, vup, extr_20, extr_21, extr_30, extr_31, extr_32, List.map_cons, List.map_nil, cond_true, cond_false, aop, aThen, aBlock, argEnv, ev, sput, sputO, binK, binI, unK, builtinK, pickK, Nat.reduceBEq, Nat.reduceAdd, Int.reduceBEq, Int.reduceBNe, Int.reduceLT, aPost, resK, tup, tyf, lenK]
  refine hN5 [(0, ov b L0.length ys.length), (1, .func (.func g) #[] cap), (4, vint L0.length)] _ _ ?_ (by simp (maxSteps := 2000000) only [↓aw_region, ↓aw_skip, ↓aw_seq, ↓aw_block, ↓aw_exit, ↓aw_ret, ↓sops_nil, ↓sops_go, ↓dops_nil, ↓dopsX_nil, ↓dopsR_nil, ↓vdn, vup, extr_20, extr_21, extr_30, extr_31, extr_32, List.map_cons, List.map_nil, cond_true, cond_false, aop, aThen, aBlock, argEnv, ev, sput, sputO, binK, binI, unK, builtinK, pickK, Nat.reduceBEq, Nat.reduceAdd, Int.reduceBEq, Int.reduceBNe, Int.reduceLT, aPost, resK, tup, tyf])
  clear hN5
  try clear N5
  refine aw_aws ?_
  simp (maxSteps := 2000000) only [s83, ↓aw_region, ↓aw_skip, ↓aw_seq, ↓aw_block, ↓aw_exit, ↓aw_ret, ↓sops_nil, ↓sops_go, ↓dops_nil, ↓dopsX_nil, ↓dopsR_nil, ↓vdn, vup, extr_20, extr_21, extr_30, extr_31, extr_32, List.map_cons, List.map_nil, cond_true, cond_false, aop, aThen, aBlock, argEnv, ev, sput, sputO, binK, binI, unK, builtinK, pickK, Nat.reduceBEq, Nat.reduceAdd, Int.reduceBEq, Int.reduceBNe, Int.reduceLT, aPost, resK, tup, tyf, callK, List.nil_append, List.append_nil, List.toList_toArray, List.cons_append, convK, und_3, und_53, hw]
  refine (len_call (show L0.length < 256 by omega)).mono ?_
  rintro _ h ⟨⟨z, rfl⟩, rfl⟩
  refine (pdqF_call hk hc hb hl hx).mono ?_
  rintro r h' hr
  exact hr
end Go.Proofs.Tryd.Am

namespace Go.Proofs.Tryd.Am
open Go.Am Rb Rch
set_option maxRecDepth 100000
set_option maxHeartbeats 1000000

theorem s84_callW [Tabs Tryd.prog] {args : List Value} {h : Heap} {Q : Value → Heap → Prop} (hsz : args.length ≤ 10) (hk : AWS Tryd.prog 10 s84 (aPost Tryd.prog [.tmp 4] Q) (argEnv 0 args) h) : ACall Tryd.prog 84 args h Q :=
  acall_w Tryd.func84 rfl (enters_of Tryd.func84 (by kernel_rfl) rfl) rfl rfl (by decide) s84_strip s84_ok hsz hk
theorem parts1_call [Tabs prog] {h : Heap} {x y : Nat} (hx : x < 256) (hy : y < 256) : APure prog 84 [vint x, vint y] h (vint ((-(((Am.bits x).length : Nat) : Int)) - (-(((Am.bits y).length : Nat) : Int)))) := by
  have h1 : (Am.bits x).length ≤ 64 := by have := scr_le (x : Int); rw [scr, Int.toNat_natCast] at this; exact this
  have h2 : (Am.bits y).length ≤ 64 := by have := scr_le (y : Int); rw [scr, Int.toNat_natCast] at this; exact this
  have hsub : subV .i64 (((Am.bits y).length : Nat) : Int) (((Am.bits x).length : Nat) : Int) = (-(((Am.bits x).length : Nat) : Int)) - (-(((Am.bits y).length : Nat) : Int)) := by rw [subV_id (by omega) (by omega)]; omega
  refine s84_callW (by simp) ?_
  simp only [s84]
  refine aws_cut fun N1 hN1 => ?_
  simp (maxSteps := 2000000) only [s84, ↓aw_region, ↓aw_skip, ↓aw_seq, ↓aw_block, ↓aw_exit, ↓aw_ret, ↓sops_nil, ↓sops_go, ↓dops_nil, ↓dopsX_nil, ↓dopsR_nil, ↓vdn, vup, extr_20, extr_21, extr_30, extr_31, extr_32, List.map_cons, List.map_nil, cond_true, cond_false, aop, aThen, aBlock, argEnv, ev, sput, sputO, binK, binI, unK, builtinK, pickK, Nat.reduceBEq, Nat.reduceAdd, Int.reduceBEq, Int.reduceBNe, Int.reduceLT, aPost, resK, tup, tyf]
  refine hN1 [(0, vint x), (1, vint y), (4, .int .i64 0)] _ _ ?_ (by simp (maxSteps := 2000000) only [↓aw_region, ↓aw_skip, ↓aw_seq, ↓aw_block, ↓aw_exit, ↓aw_ret, ↓sops_nil, ↓sops_go, ↓dops_nil, ↓dopsX_nil, ↓dopsR_nil, ↓vdn, vup, extr_20, extr_21, extr_30, extr_31, extr_32, List.map_cons, List.map_nil, cond_true, cond_false, aop, aThen, aBlock, argEnv, ev, sput, sputO, binK, binI, unK, builtinK, pickK, Nat.reduceBEq, Nat.reduceAdd, Int.reduceBEq, Int.reduceBNe, Int.reduceLT, aPost, resK, tup, tyf])
  clear hN1
  try clear N1
  refine aws_cut fun N2 hN2 => ?_
  simp (maxSteps := 2000000) only [s84, ↓aw_region, ↓aw_skip, ↓aw_seq, ↓aw_block, ↓aw_exit, ↓aw_ret, ↓sops_nil, ↓sops_go, ↓dops_nil, ↓dopsX_nil, ↓dopsR_nil, ↓vdn, vup, extr_20, extr_21, extr_30, extr_31, extr_32, List.map_cons, List.map_nil, cond_true, cond_false, aop, aThen, aBlock, argEnv, ev, sput, sputO, binK, binI, unK, builtinK, pickK, Nat.reduceBEq, Nat.reduceAdd, Int.reduceBEq, Int.reduceBNe, Int.reduceLT, aPost, resK, tup, tyf, callK, List.nil_append, List.append_nil, List.toList_toArray, List.cons_append]
  refine (count_call hy).mono ?_
  rintro _ h ⟨rfl, rfl⟩
  refine (count_call hx).mono ?_
  rintro _ h ⟨rfl, rfl⟩
  simp (maxSteps := 2000000) only [s84, ↓aw_region, ↓aw_skip, ↓aw_seq, ↓aw_block, ↓aw_exit, ↓aw_ret, ↓sops_nil, ↓sops_go, ↓dops_nil, ↓dopsX_nil, ↓dopsR_nil, ↓vdn, vup, extr_20, extr_21, extr_30, extr_31, extr_32, List.map_cons, List.map_nil, cond_true, cond_false, aop, aThen, aBlock, argEnv, ev, sput, sputO, binK, binI, unK, builtinK, pickK, Nat.reduceBEq, Nat.reduceAdd, Int.reduceBEq, Int.reduceBNe, Int.reduceLT, aPost, resK, tup, tyf, hsub]
  refine hN2 [(0, vint x), (1, vint y), (4, vint ((-(((Am.bits x).length : Nat) : Int)) - (-(((Am.bits y).length : Nat) : Int))))] _ _ ?_ (by simp (maxSteps := 2000000) only [↓aw_region, ↓aw_skip, ↓aw_seq, ↓aw_block, ↓aw_exit, ↓aw_ret, ↓sops_nil, ↓sops_go, ↓dops_nil, ↓dopsX_nil, ↓dopsR_nil, ↓vdn, vup, extr_20, extr_21, extr_30, extr_31, extr_32, List.map_cons, List.map_nil, cond_true, cond_false, aop, aThen, aBlock, argEnv, ev, sput, sputO, binK, binI, unK, builtinK, pickK, Nat.reduceBEq, Nat.reduceAdd, Int.reduceBEq, Int.reduceBNe, Int.reduceLT, aPost, resK, tup, tyf])
  clear hN2
  try clear N2
  refine aw_aws ?_
  simp (maxSteps := 2000000) only [s84, ↓aw_region, ↓aw_skip, ↓aw_seq, ↓aw_block, ↓aw_exit, ↓aw_ret, ↓sops_nil, ↓sops_go, ↓dops_nil, ↓dopsX_nil, ↓dopsR_nil, ↓vdn, vup, extr_20, extr_21, extr_30, extr_31, extr_32, List.map_cons, List.map_nil, cond_true, cond_false, aop, aThen, aBlock, argEnv, ev, sput, sputO, binK, binI, unK, builtinK, pickK, Nat.reduceBEq, Nat.reduceAdd, Int.reduceBEq, Int.reduceBNe, Int.reduceLT, aPost, resK, tup, tyf]

theorem pm_room {xs : List Int} (r i : Nat) (hi : i ≤ xs.length) (h8 : xs.length ≤ 8) : (mget ((r : Nat) : Int) (pm xs i)).toNat < 256 := by
  rw [pm_get, Int.toNat_natCast]
  have := Clr.setL_lt (n := xs.length) (l := (List.range i).filter fun j => rch xs j == r) (fun x hx => by have := List.mem_range.1 (List.mem_filter.1 hx).1; omega)
  have := pow8N h8
  omega

/-- The map is made. -/
theorem parts_map [BitTab prog 1] {h : Heap} {v : Value} {xs : List Int} {bm : Nat} (hv : IntSl h v xs) (ht : trn xs = true) (hm : h[bm]? = some (.map (mI []))) {N : Env → Heap → Prop} {Q0 : Exit → Env → Heap → Prop}
    (hN : ∀ hq e, Ext (fun b => b = bm) h hq → hq[bm]? = some (.map (mI (pm xs xs.length))) → ELe e [(0, v), (2, .slice none 0 0), (3, .int .i64 0), (4, v), (5, .map (some bm))] → N e hq) (hbv : blkOf v ≠ some bm) :
    aw prog 57 (.seq q49_5 (.block 0 (.loop l49_0))) (aThen N Q0) [(0, v), (2, .slice none 0 0), (3, .int .i64 0), (4, v), (5, .map (some bm))] h := by
  have hxl := trn_len ht
  have h256 := pow8N hxl.2
  have hnn : ∀ i : Nat, (0 : Int) ≤ (i : Int) := Int.natCast_nonneg
  simp (maxSteps := 2000000) only [s49, ↓aw_region, ↓aw_skip, ↓aw_seq, ↓aw_block, ↓aw_exit, ↓aw_ret, ↓sops_nil, ↓sops_go, ↓dops_nil, ↓dopsX_nil, ↓dopsR_nil, ↓vdn, vup, extr_20, extr_21, extr_30, extr_31, extr_32, List.map_cons, List.map_nil, cond_true, cond_false, aop, aThen, aBlock, argEnv, ev, sput, sputO, binK, binI, unK, builtinK, pickK, Nat.reduceBEq, Nat.reduceAdd, Int.reduceBEq, Int.reduceBNe, Int.reduceLT, aPost, resK, tup, tyf, hv.len, ↓aw_loop_eq]
  refine aws_hide fun Q hQ => ?_
  refine aw_loop (γ := Nat × Heap) (fun g => g.1 ≤ xs.length ∧ Ext (fun b => b = bm) h g.2 ∧ g.2[bm]? = some (.map (mI (pm xs g.1))))
    (fun g => ([(0, v), (2, .slice none 0 0), (3, .int .i64 0), (4, v), (5, .map (some bm)), (17, v), (18, vint xs.length), (19, vint g.1)], g.2)) (fun g => xs.length - g.1) (0, h) ⟨Nat.zero_le _, Ext.refl _ _, hm⟩ (by simp (maxSteps := 2000000) only [↓aw_region, ↓aw_skip, ↓aw_seq, ↓aw_block, ↓aw_exit, ↓aw_ret, ↓sops_nil, ↓sops_go, ↓dops_nil, ↓dopsX_nil, ↓dopsR_nil, ↓vdn, vup, extr_20, extr_21, extr_30, extr_31, extr_32, List.map_cons, List.map_nil, cond_true, cond_false, aop, aThen, aBlock, argEnv, ev, sput, sputO, binK, binI, unK, builtinK, pickK, Nat.reduceBEq, Nat.reduceAdd, Int.reduceBEq, Int.reduceBNe, Int.reduceLT, aPost, resK, tup, tyf, Int.natCast_zero]) rfl ?_
  rintro ⟨i, hp⟩ ⟨hi, hE, hmp⟩
  simp only at hi hE hmp
  refine aw_hide fun Q2 hQ2 => ?_
  by_cases hin : (i : Int) < xs.length
  · have hi' : i < xs.length := by omega
    have hvp : IntSl hp v xs := hv.same fun b hb => hE.2 b (hv.lt hb) (fun e => hbv (e ▸ hb))
    have hroom := pm_room (xs := xs) (rch xs i) i hi hxl.2
    have hg : mget ((rch xs i : Nat) : Int) (pm xs i) = (((mget ((rch xs i : Nat) : Int) (pm xs i)).toNat : Nat) : Int) := by rw [pm_get]; rfl
    have h2i : 2 ^ i < 2 ^ 8 := Nat.pow_lt_pow_right (by decide) (by omega)
    have hor : bitsV .or .i64 (mget ((rch xs i : Nat) : Int) (pm xs i)) ((2 ^ i : Nat) : Int) = (((mget ((rch xs i : Nat) : Int) (pm xs i)).toNat ||| 2 ^ i : Nat) : Int) := by
      have := bitsV_or (a := (mget ((rch xs i : Nat) : Int) (pm xs i)).toNat) (b := 2 ^ i) (by omega) (by omega)
      rw [← hg] at this; exact this
    simp (maxSteps := 2000000) only [s49, ↓aw_region, ↓aw_skip, ↓aw_seq, ↓aw_block, ↓aw_exit, ↓aw_ret, ↓sops_nil, ↓sops_go, ↓dops_nil, ↓dopsX_nil, ↓dopsR_nil, ↓vdn, vup, extr_20, extr_21, extr_30, extr_31, extr_32, List.map_cons, List.map_nil, cond_true, cond_false, aop, aThen, aBlock, argEnv, ev, sput, sputO, binK, binI, unK, builtinK, pickK, Nat.reduceBEq, Nat.reduceAdd, Int.reduceBEq, Int.reduceBNe, Int.reduceLT, aPost, resK, tup, tyf, l49_0, hin]
    refine aw_drawX [(3, 1)] (by kernel_rfl) (by kernel_rfl) (by kernel_rfl) (by kernel_rfl) ?_
    simp (maxSteps := 2000000) only [s49, ↓aw_region, ↓aw_skip, ↓aw_seq, ↓aw_block, ↓aw_exit, ↓aw_ret, ↓sops_nil, ↓sops_go, ↓dops_nil, ↓dopsX_nil, ↓dopsR_nil, ↓vdn, vup, extr_20, extr_21, extr_30, extr_31, extr_32, List.map_cons, List.map_nil, cond_true, cond_false, aop, aThen, aBlock, argEnv, ev, sput, sputO, binK, binI, unK, builtinK, pickK, Nat.reduceBEq, Nat.reduceAdd, Int.reduceBEq, Int.reduceBNe, Int.reduceLT, aPost, resK, tup, tyf, ↓dopsX_lookup, ↓dopsX_mapUpdate, callK, List.nil_append, List.append_nil, List.toList_toArray, List.cons_append]
    refine ⟨_, _, reach_call hvp ht hi', rfl, ?_⟩
    simp (maxSteps := 2000000) only [s49, ↓aw_region, ↓aw_skip, ↓aw_seq, ↓aw_block, ↓aw_exit, ↓aw_ret, ↓sops_nil, ↓sops_go, ↓dops_nil, ↓dopsX_nil, ↓dopsR_nil, ↓vdn, vup, extr_20, extr_21, extr_30, extr_31, extr_32, List.map_cons, List.map_nil, cond_true, cond_false, aop, aThen, aBlock, argEnv, ev, sput, sputO, binK, binI, unK, builtinK, pickK, Nat.reduceBEq, Nat.reduceAdd, Int.reduceBEq, Int.reduceBNe, Int.reduceLT, aPost, resK, tup, tyf, ↓dopsX_lookup, ↓dopsX_mapUpdate, lookupI hmp und_75 und_3 zv_3, hnn, shlI1 (show i ≤ 62 by omega), hor, updateI hmp und_75 und_3, add1 (show i < 9223372036854775807 by omega)]
    exact hQ2 _ _ _ ⟨(i + 1, hp.set bm (.map (mI (pm xs (i + 1))))), ⟨by simp only; omega, hE.trans (Ext.set _ rfl), get_set (get_lt hmp) _⟩, by simp only; omega, by simp (maxSteps := 2000000) only [↓aw_region, ↓aw_skip, ↓aw_seq, ↓aw_block, ↓aw_exit, ↓aw_ret, ↓sops_nil, ↓sops_go, ↓dops_nil, ↓dopsX_nil, ↓dopsR_nil, ↓vdn, vup, extr_20, extr_21, extr_30, extr_31, extr_32, List.map_cons, List.map_nil, cond_true, cond_false, aop, aThen, aBlock, argEnv, ev, sput, sputO, binK, binI, unK, builtinK, pickK, Nat.reduceBEq, Nat.reduceAdd, Int.reduceBEq, Int.reduceBNe, Int.reduceLT, aPost, resK, tup, tyf], rfl⟩
  · obtain rfl : i = xs.length := by omega
    simp (maxSteps := 2000000) only [s49, ↓aw_region, ↓aw_skip, ↓aw_seq, ↓aw_block, ↓aw_exit, ↓aw_ret, ↓sops_nil, ↓sops_go, ↓dops_nil, ↓dopsX_nil, ↓dopsR_nil, ↓vdn, vup, extr_20, extr_21, extr_30, extr_31, extr_32, List.map_cons, List.map_nil, cond_true, cond_false, aop, aThen, aBlock, argEnv, ev, sput, sputO, binK, binI, unK, builtinK, pickK, Nat.reduceBEq, Nat.reduceAdd, Int.reduceBEq, Int.reduceBNe, Int.reduceLT, aPost, resK, tup, tyf, l49_0, Int.lt_irrefl]
    refine hQ2 _ _ _ (hQ _ _ _ ?_)
    simp (maxSteps := 2000000) only [s49, ↓aw_region, ↓aw_skip, ↓aw_seq, ↓aw_block, ↓aw_exit, ↓aw_ret, ↓sops_nil, ↓sops_go, ↓dops_nil, ↓dopsX_nil, ↓dopsR_nil, ↓vdn, vup, extr_20, extr_21, extr_30, extr_31, extr_32, List.map_cons, List.map_nil, cond_true, cond_false, aop, aThen, aBlock, argEnv, ev, sput, sputO, binK, binI, unK, builtinK, pickK, Nat.reduceBEq, Nat.reduceAdd, Int.reduceBEq, Int.reduceBNe, Int.reduceLT, aPost, resK, tup, tyf, if_true]
    exact hN hp _ hE hmp (by simp (maxSteps := 2000000) only [↓aw_region, ↓aw_skip, ↓aw_seq, ↓aw_block, ↓aw_exit, ↓aw_ret, ↓sops_nil, ↓sops_go, ↓dops_nil, ↓dopsX_nil, ↓dopsR_nil, ↓vdn, vup, extr_20, extr_21, extr_30, extr_31, extr_32, List.map_cons, List.map_nil, cond_true, cond_false, aop, aThen, aBlock, argEnv, ev, sput, sputO, binK, binI, unK, builtinK, pickK, Nat.reduceBEq, Nat.reduceAdd, Int.reduceBEq, Int.reduceBNe, Int.reduceLT, aPost, resK, tup, tyf])
end Go.Proofs.Tryd.Am

namespace Go.Proofs.Tryd.Am
open Go.Am Rb Rch
set_option maxRecDepth 100000
set_option maxHeartbeats 1000000

/-- What the walk over the map stands on: the reaches met so far, behind what lies up to the walk's own block. -/
structure WK (h hq : Heap) (bm it : Nat) (l : List (Int × Int)) (w0 : Value) (seen : List Nat) : Prop where
  E : Ext (fun _ => False) h hq
  m : hq[bm]? = some (.map (mI l))
  i : hq[it]? = some (.iter bm l.length seen l.length)
  own : OwnSl 3 hq w0 (iL (seen.map fun j => (l.getD j (0, 0)).1.toNat))
  blk : ∀ b, blkOf w0 = some b → it < b
  nodup : seen.Nodup
  lt : ∀ j ∈ seen, j < l.length
  le : h.length ≤ bm ∧ bm < it
theorem WK.step {h hq : Heap} {bm it : Nat} {l : List (Int × Int)} {w0 : Value} {seen : List Nat} (k : WK h hq bm it l w0 seen) {j : Nat} (hj : j < l.length) (hn : j ∉ seen) (hl : l.length ≤ 8) {K : Value → Heap → Prop}
    (hk : ∀ v' h', WK h h' bm it l v' (seen ++ [j]) → K v' h') :
    appendK prog (hq.set it (.iter bm l.length (seen ++ [j]) l.length) ++ [.ints [(((l.getD j (0, 0)).1.toNat : Nat) : Int)] 3 false]) 22 22 w0 (.slice (some ⟨(hq.set it (.iter bm l.length (seen ++ [j]) l.length)).length, 0, none⟩) 1 1) K := by
  have hil := get_lt k.i
  have hml := get_lt k.m
  have hbi := k.le
  have hsl : seen.length ≤ l.length := by
    have := nodup_le k.nodup (m := List.range l.length) (fun x hx => List.mem_range.2 (k.lt x hx))
    rw [List.length_range] at this; exact this
  generalize hg : hq.set it (.iter bm l.length (seen ++ [j]) l.length) = g
  have hgl : g.length = hq.length := by rw [← hg]; simp
  have g1 : ∀ b, b ≠ it → g[b]? = hq[b]? := fun b hb => by rw [← hg, List.getElem?_set_ne (Ne.symm hb)]
  have gi : g[it]? = some (.iter bm l.length (seen ++ [j]) l.length) := by rw [← hg]; exact get_set hil _
  have rs : RSI (g.take (it + 1)) g w0 (iL (seen.map fun j => (l.getD j (0, 0)).1.toNat)) := by
    refine ⟨k.own.ext (S := fun b => b = it) ⟨by omega, fun b _ hb => g1 b hb⟩ (fun b hb e => by have := k.blk b hb; omega), ⟨by simp; omega, fun b hb _ => ?_⟩, fun b hb => by have := k.blk b hb; simp; omega⟩
    rw [List.getElem?_take, if_pos (by simp at hb; omega)]
  refine rs.push (by rw [iL_len, List.length_map]; omega) fun v' h' s' => hk v' h' ?_
  obtain ⟨o, e, b⟩ := s'
  have keep : ∀ c, c ≤ it → h'[c]? = g[c]? := fun c hc => by
    rw [e.2 c (by simp; omega) id, List.getElem?_take, if_pos (by omega)]
  have hhl : it < h'.length := by have := e.1; simp at this; omega
  refine ⟨⟨by have := k.E.1; omega, fun c hc _ => ?_⟩, ?_, ?_, ?_, fun c hc => by have := b c hc; simp at this; omega, ?_, fun x hx => ?_, k.le⟩
  · rw [keep c (by omega), g1 c (by omega)]; exact k.E.2 c hc id
  · rw [keep bm (by omega), g1 bm (by omega)]; exact k.m
  · rw [keep it (Nat.le_refl _)]; exact gi
  · rw [List.map_append]
    have e2 : iL (List.map (fun j => (l.getD j (0, 0)).1.toNat) seen ++ List.map (fun j => (l.getD j (0, 0)).1.toNat) [j]) = iL (seen.map fun j => (l.getD j (0, 0)).1.toNat) ++ [(((l.getD j (0, 0)).1.toNat : Nat) : Int)] := by
      simp [iL]
    rw [e2]; exact o
  · exact List.nodup_append.2 ⟨k.nodup, by simp, fun a ha b hb => by rw [List.mem_singleton.1 hb]; exact fun e => hn (e ▸ ha)⟩
  · rcases List.mem_append.1 hx with hx | hx
    · exact k.lt x hx
    · rw [List.mem_singleton.1 hx]; exact hj

theorem s49_callW [Tabs Tryd.prog] {args : List Value} {h : Heap} {Q : Value → Heap → Prop} (hsz : args.length ≤ 57) (hk : AWS Tryd.prog 57 s49 (aPost Tryd.prog [.tmp 2, .tmp 3] Q) (argEnv 0 args) h) : ACall Tryd.prog 49 args h Q :=
  acall_w Tryd.func49 rfl (enters_of Tryd.func49 (by kernel_rfl) rfl) rfl rfl (by decide) s49_strip s49_ok hsz hk
theorem parts_walk [Tabs prog] {h hp : Heap} {v : Value} {xs : List Int} {bm : Nat} (hxl : 1 ≤ xs.length ∧ xs.length ≤ 8) (hE : Ext (fun _ => False) h hp) (hm : hp[bm]? = some (.map (mI (pm xs xs.length)))) (hbm : h.length ≤ bm) {Q0 : Exit → Env → Heap → Prop}
    (hN : ∀ hq w0 L e, Ext (fun _ => False) h hq → hq[bm]? = some (.map (mI (pm xs xs.length))) → OwnSl 3 hq w0 (iL L) → L.Perm (kyL xs) → (∀ b, blkOf w0 = some b → h.length ≤ b ∧ bm < b) → ELe e [(0, v), (4, v), (5, .map (some bm)), (7, w0)] → Q0 .normal e hq) :
    AWS prog 57 (.seq q49_11 (.block 2 (.loop l49_1))) Q0 [(0, v), (4, v), (5, .map (some bm)), (7, .slice none 0 0)] hp := by
  obtain ⟨l, hl⟩ : ∃ l, l = pm xs xs.length := ⟨_, rfl⟩
  rw [← hl] at hm hN
  have hl8 : l.length ≤ 8 := by rw [hl]; have := pm_len xs xs.length; omega
  have hlne : l ≠ [] := fun e => by
    have := (kyL_mem xs (rch xs 0)).2 ⟨0, by omega, rfl⟩
    rw [kyL, ← hl, e] at this; cases this
  have hkl : kyL xs = (List.range l.length).map fun j => (l.getD j (0, 0)).1.toNat := by
    rw [kyL, ← hl]
    apply List.ext_getElem (by simp)
    intro i h1 h2
    have : i < l.length := by simpa using h1
    simp [List.getD, List.getElem?_eq_getElem this]
  have hky : ∀ j, j < l.length → (l.getD j (0, 0)).1 = (((l.getD j (0, 0)).1.toNat : Nat) : Int) := fun j hj => by
    have hmem : (l.getD j (0, 0)).1 ∈ (pm xs xs.length).map (·.1) := by
      rw [← hl, List.getD, List.getElem?_eq_getElem hj]; exact List.mem_map_of_mem (List.getElem_mem hj)
    obtain ⟨i, _, e⟩ := ((pm_keys xs xs.length).2 _).1 hmem
    rw [e]; rfl
  refine aws_cut fun Z hZ => ?_
  simp (maxSteps := 2000000) only [s49, ↓aw_region, ↓aw_skip, ↓aw_seq, ↓aw_block, ↓aw_exit, ↓aw_ret, ↓sops_nil, ↓sops_go, ↓dops_nil, ↓dopsX_nil, ↓dopsR_nil, ↓vdn, vup, extr_20, extr_21, extr_30, extr_31, extr_32, List.map_cons, List.map_nil, cond_true, cond_false, aop, aThen, aBlock, argEnv, ev, sput, sputO, binK, binI, unK, builtinK, pickK, Nat.reduceBEq, Nat.reduceAdd, Int.reduceBEq, Int.reduceBNe, Int.reduceLT, aPost, resK, tup, tyf, isPick_map, rangeI hm und_75]
  refine hZ [(0, v), (4, v), (5, .map (some bm)), (7, .slice none 0 0), (32, .pointer (some ⟨hp.length, 0, none⟩))] _ _ ?_ (by simp (maxSteps := 2000000) only [↓aw_region, ↓aw_skip, ↓aw_seq, ↓aw_block, ↓aw_exit, ↓aw_ret, ↓sops_nil, ↓sops_go, ↓dops_nil, ↓dopsX_nil, ↓dopsR_nil, ↓vdn, vup, extr_20, extr_21, extr_30, extr_31, extr_32, List.map_cons, List.map_nil, cond_true, cond_false, aop, aThen, aBlock, argEnv, ev, sput, sputO, binK, binI, unK, builtinK, pickK, Nat.reduceBEq, Nat.reduceAdd, Int.reduceBEq, Int.reduceBNe, Int.reduceLT, aPost, resK, tup, tyf])
  clear hZ
  try clear Z
  have hbl := get_lt hm
  obtain ⟨g, hg⟩ : ∃ g, g = hp ++ [Blk.iter bm l.length [] l.length] := ⟨_, rfl⟩
  have hEg : Ext (fun _ => False) h g := by rw [hg]; exact hE.trans (Ext.app _ _ _)
  have hmg : g[bm]? = some (.map (mI l)) := by rw [hg]; exact get_old hm _
  have hig : g[hp.length]? = some (.iter bm l.length [] l.length) := by rw [hg]; exact get_new _ _
  rw [← hg]
  clear hg
  generalize hit : hp.length = it at *
  refine aws_block ?_
  refine aws_hide fun Q hQ => ?_
  refine aw_loopW (γ := Heap × Value × List Nat) (fun s => WK h s.1 bm it l s.2.1 s.2.2)
    (fun s => ([(0, v), (4, v), (5, .map (some bm)), (7, s.2.1), (32, .pointer (some ⟨it, 0, none⟩))], s.1)) (fun s => l.length - s.2.2.length) (g, .slice none 0 0, []) ⟨hEg, hmg, hig, .inl ⟨rfl, rfl⟩, (fun b hb => by cases hb), List.nodup_nil, (fun j hj => by cases hj), ⟨hbm, hbl⟩⟩ (by simp (maxSteps := 2000000) only [↓aw_region, ↓aw_skip, ↓aw_seq, ↓aw_block, ↓aw_exit, ↓aw_ret, ↓sops_nil, ↓sops_go, ↓dops_nil, ↓dopsX_nil, ↓dopsR_nil, ↓vdn, vup, extr_20, extr_21, extr_30, extr_31, extr_32, List.map_cons, List.map_nil, cond_true, cond_false, aop, aThen, aBlock, argEnv, ev, sput, sputO, binK, binI, unK, builtinK, pickK, Nat.reduceBEq, Nat.reduceAdd, Int.reduceBEq, Int.reduceBNe, Int.reduceLT, aPost, resK, tup, tyf]) rfl ?_
  clear hEg hmg hig
  rintro ⟨hq, w0, seen⟩ k
  simp only at k
  refine aws_hide fun Q2 hQ2 => ?_
  simp only [l49_1]
  refine aws_cut fun Y hY => ?_
  simp (maxSteps := 2000000) only [s49, ↓aw_region, ↓aw_skip, ↓aw_seq, ↓aw_block, ↓aw_exit, ↓aw_ret, ↓sops_nil, ↓sops_go, ↓dops_nil, ↓dopsX_nil, ↓dopsR_nil, ↓vdn, vup, extr_20, extr_21, extr_30, extr_31, extr_32, List.map_cons, List.map_nil, cond_true, cond_false, aop, aThen, aBlock, argEnv, ev, sput, sputO, binK, binI, unK, builtinK, pickK, Nat.reduceBEq, Nat.reduceAdd, Int.reduceBEq, Int.reduceBNe, Int.reduceLT, aPost, resK, tup, tyf, isPick_map, nextI k.i k.m hlne, extr_10]
  refine ⟨fun j hj hn => ?_, fun hall => ?_⟩
  · refine hY [(0, v), (4, v), (5, .map (some bm)), (7, w0), (32, .pointer (some ⟨it, 0, none⟩)), (34, .bool true)] _ _ ?_ (by simp (maxSteps := 2000000) only [↓aw_region, ↓aw_skip, ↓aw_seq, ↓aw_block, ↓aw_exit, ↓aw_ret, ↓sops_nil, ↓sops_go, ↓dops_nil, ↓dopsX_nil, ↓dopsR_nil, ↓vdn, vup, extr_20, extr_21, extr_30, extr_31, extr_32, List.map_cons, List.map_nil, cond_true, cond_false, aop, aThen, aBlock, argEnv, ev, sput, sputO, binK, binI, unK, builtinK, pickK, Nat.reduceBEq, Nat.reduceAdd, Int.reduceBEq, Int.reduceBNe, Int.reduceLT, aPost, resK, tup, tyf])
    clear hY
    try clear Y
    refine aws_cut fun N1 hN1 => ?_
    simp (maxSteps := 2000000) only [s49, ↓aw_region, ↓aw_skip, ↓aw_seq, ↓aw_block, ↓aw_exit, ↓aw_ret, ↓sops_nil, ↓sops_go, ↓dops_nil, ↓dopsX_nil, ↓dopsR_nil, ↓vdn, vup, extr_20, extr_21, extr_30, extr_31, extr_32, List.map_cons, List.map_nil, cond_true, cond_false, aop, aThen, aBlock, argEnv, ev, sput, sputO, binK, binI, unK, builtinK, pickK, Nat.reduceBEq, Nat.reduceAdd, Int.reduceBEq, Int.reduceBNe, Int.reduceLT, aPost, resK, tup, tyf]
    refine hN1 [(0, v), (4, v), (5, .map (some bm)), (7, w0), (32, .pointer (some ⟨it, 0, none⟩))] _ _ ?_ (by simp (maxSteps := 2000000) only [↓aw_region, ↓aw_skip, ↓aw_seq, ↓aw_block, ↓aw_exit, ↓aw_ret, ↓sops_nil, ↓sops_go, ↓dops_nil, ↓dopsX_nil, ↓dopsR_nil, ↓vdn, vup, extr_20, extr_21, extr_30, extr_31, extr_32, List.map_cons, List.map_nil, cond_true, cond_false, aop, aThen, aBlock, argEnv, ev, sput, sputO, binK, binI, unK, builtinK, pickK, Nat.reduceBEq, Nat.reduceAdd, Int.reduceBEq, Int.reduceBNe, Int.reduceLT, aPost, resK, tup, tyf])
    clear hN1
    try clear N1
    refine aws_block ?_
    have hi2 : (hq.set it (.iter bm l.length (seen ++ [j]) l.length))[it]? = some (.iter bm l.length (seen ++ [j]) l.length) := get_set (get_lt k.i) _
    have hm2 : (hq.set it (.iter bm l.length (seen ++ [j]) l.length))[bm]? = some (.map (mI l)) := by rw [List.getElem?_set_ne (by omega)]; exact k.m
    refine aws_cut fun N2 hN2 => ?_
    simp (maxSteps := 2000000) only [s49, ↓aw_region, ↓aw_skip, ↓aw_seq, ↓aw_block, ↓aw_exit, ↓aw_ret, ↓sops_nil, ↓sops_go, ↓dops_nil, ↓dopsX_nil, ↓dopsR_nil, ↓vdn, vup, extr_20, extr_21, extr_30, extr_31, extr_32, List.map_cons, List.map_nil, cond_true, cond_false, aop, aThen, aBlock, argEnv, ev, sput, sputO, binK, binI, unK, builtinK, pickK, Nat.reduceBEq, Nat.reduceAdd, Int.reduceBEq, Int.reduceBNe, Int.reduceLT, aPost, resK, tup, tyf, isPick_map, entryI hi2 hm2 hj]
    rw [hky j hj]
    refine hN2 [(0, v), (4, v), (5, .map (some bm)), (7, w0), (8, vint ((l.getD j (0, 0)).1.toNat : Nat)), (32, .pointer (some ⟨it, 0, none⟩))] _ _ ?_ (by simp (maxSteps := 2000000) only [↓aw_region, ↓aw_skip, ↓aw_seq, ↓aw_block, ↓aw_exit, ↓aw_ret, ↓sops_nil, ↓sops_go, ↓dops_nil, ↓dopsX_nil, ↓dopsR_nil, ↓vdn, vup, extr_20, extr_21, extr_30, extr_31, extr_32, List.map_cons, List.map_nil, cond_true, cond_false, aop, aThen, aBlock, argEnv, ev, sput, sputO, binK, binI, unK, builtinK, pickK, Nat.reduceBEq, Nat.reduceAdd, Int.reduceBEq, Int.reduceBNe, Int.reduceLT, aPost, resK, tup, tyf])
    clear hN2
    try clear N2
    have kst := fun {K} => k.step (K := K) hj hn hl8
    generalize hq.set it (.iter bm l.length (seen ++ [j]) l.length) = g2 at kst ⊢
    generalize (((l.getD j (0, 0)).1.toNat : Nat) : Int) = z at kst ⊢
    refine aw_aws ?_
    simp (maxSteps := 2000000) only [s49, ↓aw_region, ↓aw_skip, ↓aw_seq, ↓aw_block, ↓aw_exit, ↓aw_ret, ↓sops_nil, ↓sops_go, ↓dops_nil, ↓dopsX_nil, ↓dopsR_nil, ↓vdn, vup, extr_20, extr_21, extr_30, extr_31, extr_32, List.map_cons, List.map_nil, cond_true, cond_false, aop, aThen, aBlock, argEnv, ev, sput, sputO, binK, binI, unK, builtinK, pickK, Nat.reduceBEq, Nat.reduceAdd, Int.reduceBEq, Int.reduceBNe, Int.reduceLT, aPost, resK, tup, tyf, litI1]
    refine kst fun v' h' k' => ?_
    have hsl : seen.length < l.length := by
      have := nodup_le k'.nodup (m := List.range l.length) (fun x hx => List.mem_range.2 (k'.lt x hx))
      rw [List.length_range, List.length_append, List.length_singleton] at this; omega
    exact hQ2 _ _ _ ⟨(h', v', seen ++ [j]), k', by simp only [List.length_append, List.length_singleton]; omega, by simp (maxSteps := 2000000) only [↓aw_region, ↓aw_skip, ↓aw_seq, ↓aw_block, ↓aw_exit, ↓aw_ret, ↓sops_nil, ↓sops_go, ↓dops_nil, ↓dopsX_nil, ↓dopsR_nil, ↓vdn, vup, extr_20, extr_21, extr_30, extr_31, extr_32, List.map_cons, List.map_nil, cond_true, cond_false, aop, aThen, aBlock, argEnv, ev, sput, sputO, binK, binI, unK, builtinK, pickK, Nat.reduceBEq, Nat.reduceAdd, Int.reduceBEq, Int.reduceBNe, Int.reduceLT, aPost, resK, tup, tyf], rfl⟩
  · refine hY [(0, v), (4, v), (5, .map (some bm)), (7, w0), (32, .pointer (some ⟨it, 0, none⟩)), (34, .bool false)] _ _ ?_ (by simp (maxSteps := 2000000) only [↓aw_region, ↓aw_skip, ↓aw_seq, ↓aw_block, ↓aw_exit, ↓aw_ret, ↓sops_nil, ↓sops_go, ↓dops_nil, ↓dopsX_nil, ↓dopsR_nil, ↓vdn, vup, extr_20, extr_21, extr_30, extr_31, extr_32, List.map_cons, List.map_nil, cond_true, cond_false, aop, aThen, aBlock, argEnv, ev, sput, sputO, binK, binI, unK, builtinK, pickK, Nat.reduceBEq, Nat.reduceAdd, Int.reduceBEq, Int.reduceBNe, Int.reduceLT, aPost, resK, tup, tyf])
    clear hY
    try clear Y
    refine aw_aws ?_
    simp (maxSteps := 2000000) only [s49, ↓aw_region, ↓aw_skip, ↓aw_seq, ↓aw_block, ↓aw_exit, ↓aw_ret, ↓sops_nil, ↓sops_go, ↓dops_nil, ↓dopsX_nil, ↓dopsR_nil, ↓vdn, vup, extr_20, extr_21, extr_30, extr_31, extr_32, List.map_cons, List.map_nil, cond_true, cond_false, aop, aThen, aBlock, argEnv, ev, sput, sputO, binK, binI, unK, builtinK, pickK, Nat.reduceBEq, Nat.reduceAdd, Int.reduceBEq, Int.reduceBNe, Int.reduceLT, aPost, resK, tup, tyf]
    refine hQ2 _ _ _ (hQ _ _ _ ?_)
    simp (maxSteps := 2000000) only [s49, ↓aw_region, ↓aw_skip, ↓aw_seq, ↓aw_block, ↓aw_exit, ↓aw_ret, ↓sops_nil, ↓sops_go, ↓dops_nil, ↓dopsX_nil, ↓dopsR_nil, ↓vdn, vup, extr_20, extr_21, extr_30, extr_31, extr_32, List.map_cons, List.map_nil, cond_true, cond_false, aop, aThen, aBlock, argEnv, ev, sput, sputO, binK, binI, unK, builtinK, pickK, Nat.reduceBEq, Nat.reduceAdd, Int.reduceBEq, Int.reduceBNe, Int.reduceLT, aPost, resK, tup, tyf, if_true]
    refine hN hq w0 _ _ k.E k.m k.own ?_ (fun b hb => by have := k.blk b hb; have := k.le; omega) (by simp (maxSteps := 2000000) only [↓aw_region, ↓aw_skip, ↓aw_seq, ↓aw_block, ↓aw_exit, ↓aw_ret, ↓sops_nil, ↓sops_go, ↓dops_nil, ↓dopsX_nil, ↓dopsR_nil, ↓vdn, vup, extr_20, extr_21, extr_30, extr_31, extr_32, List.map_cons, List.map_nil, cond_true, cond_false, aop, aThen, aBlock, argEnv, ev, sput, sputO, binK, binI, unK, builtinK, pickK, Nat.reduceBEq, Nat.reduceAdd, Int.reduceBEq, Int.reduceBNe, Int.reduceLT, aPost, resK, tup, tyf])
    rw [hkl]
    refine List.Perm.map _ ?_
    have hlen : seen.length = l.length := by
      have h1 := nodup_le (l := List.range l.length) (m := seen) List.nodup_range (fun x hx => hall x (List.mem_range.1 hx))
      have h2 := nodup_le k.nodup (m := List.range l.length) (fun x hx => List.mem_range.2 (k.lt x hx))
      rw [List.length_range] at h1 h2; omega
    exact (List.perm_ext_iff_of_nodup k.nodup List.nodup_range).2 fun x => ⟨fun hx => List.mem_range.2 (k.lt x hx), fun hx => hall x (List.mem_range.1 hx)⟩
end Go.Proofs.Tryd.Am

namespace Go.Proofs.Tryd.Am
open Go.Am Rb Rch
set_option maxRecDepth 100000
set_option maxHeartbeats 1000000

theorem iL_take_succ {L : List Nat} {j : Nat} (hj : j < L.length) (f : Nat → Nat) : iL ((L.take (j + 1)).map f) = iL ((L.take j).map f) ++ [((f (L.getD j 0) : Nat) : Int)] := by
  have e : L.take (j + 1) = L.take j ++ [L.getD j 0] := by rw [List.take_add_one, List.getD, List.getElem?_eq_getElem hj]; rfl
  rw [e, List.map_append, iL, List.map_append]; rfl
theorem parts_call [BitTab prog 1] {h : Heap} {v : Value} {xs : List Int} (hv : IntSl h v xs) (hl : xs.length < 9223372036854775808) (hx : ∀ x ∈ xs, -9223372036854775808 ≤ x ∧ x < 9223372036854775808) :
    ACall prog 49 [v] h fun r h' => Ext (fun _ => False) h h' ∧ if trn xs = true then ∃ w, r = .tuple #[w, .int .i64 0] ∧ OwnSl 3 h' w (iL (prts xs)) else r = .tuple #[.slice none 0 0, .int .i64 2] := by
  refine s49_callW (by simp) ?_
  simp only [s49]
  refine aws_cut fun N1 hN1 => ?_
  simp (maxSteps := 2000000) only [s49, ↓aw_region, ↓aw_skip, ↓aw_seq, ↓aw_block, ↓aw_exit, ↓aw_ret, ↓sops_nil, ↓sops_go, ↓dops_nil, ↓dopsX_nil, ↓dopsR_nil, ↓vdn, vup, extr_20, extr_21, extr_30, extr_31, extr_32, List.map_cons, List.map_nil, cond_true, cond_false, aop, aThen, aBlock, argEnv, ev, sput, sputO, binK, binI, unK, builtinK, pickK, Nat.reduceBEq, Nat.reduceAdd, Int.reduceBEq, Int.reduceBNe, Int.reduceLT, aPost, resK, tup, tyf]
  refine hN1 [(0, v), (2, .slice none 0 0), (3, .int .i64 0)] _ _ ?_ (by simp (maxSteps := 2000000) only [↓aw_region, ↓aw_skip, ↓aw_seq, ↓aw_block, ↓aw_exit, ↓aw_ret, ↓sops_nil, ↓sops_go, ↓dops_nil, ↓dopsX_nil, ↓dopsR_nil, ↓vdn, vup, extr_20, extr_21, extr_30, extr_31, extr_32, List.map_cons, List.map_nil, cond_true, cond_false, aop, aThen, aBlock, argEnv, ev, sput, sputO, binK, binI, unK, builtinK, pickK, Nat.reduceBEq, Nat.reduceAdd, Int.reduceBEq, Int.reduceBNe, Int.reduceLT, aPost, resK, tup, tyf])
  clear hN1
  try clear N1
  refine aws_cut fun N2 hN2 => ?_
  simp (maxSteps := 2000000) only [s49, ↓aw_region, ↓aw_skip, ↓aw_seq, ↓aw_block, ↓aw_exit, ↓aw_ret, ↓sops_nil, ↓sops_go, ↓dops_nil, ↓dopsX_nil, ↓dopsR_nil, ↓vdn, vup, extr_20, extr_21, extr_30, extr_31, extr_32, List.map_cons, List.map_nil, cond_true, cond_false, aop, aThen, aBlock, argEnv, ev, sput, sputO, binK, binI, unK, builtinK, pickK, Nat.reduceBEq, Nat.reduceAdd, Int.reduceBEq, Int.reduceBNe, Int.reduceLT, aPost, resK, tup, tyf]
  refine hN2 [(0, v), (2, .slice none 0 0), (3, .int .i64 0), (4, v)] _ _ ?_ (by simp (maxSteps := 2000000) only [↓aw_region, ↓aw_skip, ↓aw_seq, ↓aw_block, ↓aw_exit, ↓aw_ret, ↓sops_nil, ↓sops_go, ↓dops_nil, ↓dopsX_nil, ↓dopsR_nil, ↓vdn, vup, extr_20, extr_21, extr_30, extr_31, extr_32, List.map_cons, List.map_nil, cond_true, cond_false, aop, aThen, aBlock, argEnv, ev, sput, sputO, binK, binI, unK, builtinK, pickK, Nat.reduceBEq, Nat.reduceAdd, Int.reduceBEq, Int.reduceBNe, Int.reduceLT, aPost, resK, tup, tyf])
  clear hN2
  try clear N2
  refine aws_cut fun N3 hN3 => ?_
  simp (maxSteps := 2000000) only [s49, ↓aw_region, ↓aw_skip, ↓aw_seq, ↓aw_block, ↓aw_exit, ↓aw_ret, ↓sops_nil, ↓sops_go, ↓dops_nil, ↓dopsX_nil, ↓dopsR_nil, ↓vdn, vup, extr_20, extr_21, extr_30, extr_31, extr_32, List.map_cons, List.map_nil, cond_true, cond_false, aop, aThen, aBlock, argEnv, ev, sput, sputO, binK, binI, unK, builtinK, pickK, Nat.reduceBEq, Nat.reduceAdd, Int.reduceBEq, Int.reduceBNe, Int.reduceLT, aPost, resK, tup, tyf, callK, List.nil_append, List.append_nil, List.toList_toArray, List.cons_append]
  refine (valid_call hv hl hx).mono ?_
  rintro _ h ⟨rfl, rfl⟩
  cases ht : trn xs with
  | false =>
    simp (maxSteps := 2000000) only [s49, ↓aw_region, ↓aw_skip, ↓aw_seq, ↓aw_block, ↓aw_exit, ↓aw_ret, ↓sops_nil, ↓sops_go, ↓dops_nil, ↓dopsX_nil, ↓dopsR_nil, ↓vdn, vup, extr_20, extr_21, extr_30, extr_31, extr_32, List.map_cons, List.map_nil, cond_true, cond_false, aop, aThen, aBlock, argEnv, ev, sput, sputO, binK, binI, unK, builtinK, pickK, Nat.reduceBEq, Nat.reduceAdd, Int.reduceBEq, Int.reduceBNe, Int.reduceLT, aPost, resK, tup, tyf, Bool.not_false]
    exact ⟨Ext.refl _ _, by rw [if_neg (by decide)]; trivial⟩
  | true =>
  have hxl := trn_len ht
  have h256 := pow8N hxl.2
  simp (maxSteps := 2000000) only [s49, ↓aw_region, ↓aw_skip, ↓aw_seq, ↓aw_block, ↓aw_exit, ↓aw_ret, ↓sops_nil, ↓sops_go, ↓dops_nil, ↓dopsX_nil, ↓dopsR_nil, ↓vdn, vup, extr_20, extr_21, extr_30, extr_31, extr_32, List.map_cons, List.map_nil, cond_true, cond_false, aop, aThen, aBlock, argEnv, ev, sput, sputO, binK, binI, unK, builtinK, pickK, Nat.reduceBEq, Nat.reduceAdd, Int.reduceBEq, Int.reduceBNe, Int.reduceLT, aPost, resK, tup, tyf, Bool.not_true]
  refine hN3 [(0, v), (2, .slice none 0 0), (3, .int .i64 0), (4, v)] _ _ ?_ (by simp (maxSteps := 2000000) only [↓aw_region, ↓aw_skip, ↓aw_seq, ↓aw_block, ↓aw_exit, ↓aw_ret, ↓sops_nil, ↓sops_go, ↓dops_nil, ↓dopsX_nil, ↓dopsR_nil, ↓vdn, vup, extr_20, extr_21, extr_30, extr_31, extr_32, List.map_cons, List.map_nil, cond_true, cond_false, aop, aThen, aBlock, argEnv, ev, sput, sputO, binK, binI, unK, builtinK, pickK, Nat.reduceBEq, Nat.reduceAdd, Int.reduceBEq, Int.reduceBNe, Int.reduceLT, aPost, resK, tup, tyf])
  clear hN3
  try clear N3
  refine aws_cut fun N4 hN4 => ?_
  simp (maxSteps := 2000000) only [s49, ↓aw_region, ↓aw_skip, ↓aw_seq, ↓aw_block, ↓aw_exit, ↓aw_ret, ↓sops_nil, ↓sops_go, ↓dops_nil, ↓dopsX_nil, ↓dopsR_nil, ↓vdn, vup, extr_20, extr_21, extr_30, extr_31, extr_32, List.map_cons, List.map_nil, cond_true, cond_false, aop, aThen, aBlock, argEnv, ev, sput, sputO, binK, binI, unK, builtinK, pickK, Nat.reduceBEq, Nat.reduceAdd, Int.reduceBEq, Int.reduceBNe, Int.reduceLT, aPost, resK, tup, tyf, isPick_map, makeMI]
  obtain ⟨bm, hbm⟩ : ∃ bm, bm = h.length := ⟨_, rfl⟩
  rw [← hbm]
  refine hN4 [(0, v), (2, .slice none 0 0), (3, .int .i64 0), (4, v), (5, .map (some bm))] _ _ ?_ (by simp (maxSteps := 2000000) only [↓aw_region, ↓aw_skip, ↓aw_seq, ↓aw_block, ↓aw_exit, ↓aw_ret, ↓sops_nil, ↓sops_go, ↓dops_nil, ↓dopsX_nil, ↓dopsR_nil, ↓vdn, vup, extr_20, extr_21, extr_30, extr_31, extr_32, List.map_cons, List.map_nil, cond_true, cond_false, aop, aThen, aBlock, argEnv, ev, sput, sputO, binK, binI, unK, builtinK, pickK, Nat.reduceBEq, Nat.reduceAdd, Int.reduceBEq, Int.reduceBNe, Int.reduceLT, aPost, resK, tup, tyf])
  clear hN4
  try clear N4
  have hm0 : (h ++ [Blk.map (mI [])])[bm]? = some (.map (mI [])) := by rw [hbm]; exact get_new _ _
  have hE0 : Ext (fun _ => False) h (h ++ [Blk.map (mI [])]) := Ext.app _ _ _
  generalize h ++ [Blk.map (mI [])] = h1 at hm0 hE0 ⊢
  have hv1 := IntSl_ext hv hE0
  have hbv : blkOf v ≠ some bm := fun e => by have := hv.lt e; omega
  refine aws_cut fun M hM => ?_
  refine parts_map hv1 ht hm0 (fun hq e hE1 hm1 he => ?_) hbv
  refine hM [(0, v), (2, .slice none 0 0), (3, .int .i64 0), (4, v), (5, .map (some bm))] _ _ ?_ he
  clear hM
  have hEq : Ext (fun _ => False) h hq := ⟨Nat.le_trans hE0.1 hE1.1, fun i hi _ => by
    rw [hE1.2 i (by have := hE0.1; omega) (by simp only; omega)]; exact hE0.2 i hi id⟩
  refine aws_cut fun N5 hN5 => ?_
  simp (maxSteps := 2000000) only [s49, ↓aw_region, ↓aw_skip, ↓aw_seq, ↓aw_block, ↓aw_exit, ↓aw_ret, ↓sops_nil, ↓sops_go, ↓dops_nil, ↓dopsX_nil, ↓dopsR_nil, ↓vdn, vup, extr_20, extr_21, extr_30, extr_31, extr_32, List.map_cons, List.map_nil, cond_true, cond_false, aop, aThen, aBlock, argEnv, ev, sput, sputO, binK, binI, unK, builtinK, pickK, Nat.reduceBEq, Nat.reduceAdd, Int.reduceBEq, Int.reduceBNe, Int.reduceLT, aPost, resK, tup, tyf]
  refine hN5 [(0, v), (4, v), (5, .map (some bm)), (7, .slice none 0 0)] _ _ ?_ (by simp (maxSteps := 2000000) only [↓aw_region, ↓aw_skip, ↓aw_seq, ↓aw_block, ↓aw_exit, ↓aw_ret, ↓sops_nil, ↓sops_go, ↓dops_nil, ↓dopsX_nil, ↓dopsR_nil, ↓vdn, vup, extr_20, extr_21, extr_30, extr_31, extr_32, List.map_cons, List.map_nil, cond_true, cond_false, aop, aThen, aBlock, argEnv, ev, sput, sputO, binK, binI, unK, builtinK, pickK, Nat.reduceBEq, Nat.reduceAdd, Int.reduceBEq, Int.reduceBNe, Int.reduceLT, aPost, resK, tup, tyf])
  clear hN5
  try clear N5
  clear hm0 hE0 hv1 hE1
  refine aws_cutW fun W hW => ?_
  refine parts_walk hxl hEq hm1 (by omega) fun hq2 w0 L e hE2 hm2 hown hperm hblk he2 => ?_
  refine hW [(0, v), (4, v), (5, .map (some bm)), (7, w0)] _ _ ?_ he2
  clear hW
  have hLx : ∀ x ∈ L, x < 256 := fun x hxm => by
    obtain ⟨j, hj, rfl⟩ := (kyL_mem xs x).1 (hperm.mem_iff.1 hxm)
    have := (rch_nest ht).lt j hj; omega
  have hL8 : L.length ≤ 8 := by rw [hperm.length_eq, kyL, List.length_map]; have := pm_len xs xs.length; omega
  have hb64 : ∀ x : Nat, (Am.bits x).length ≤ 64 := fun x => by have := scr_le (x : Int); rw [scr, Int.toNat_natCast] at this; exact this
  rcases hown with ⟨_, hnil⟩ | ⟨b, ys, hov, hb⟩
  · have h0 : L = [] := by simpa [iL] using hnil
    have := (kyL_mem xs (rch xs 0)).2 ⟨0, by omega, rfl⟩
    rw [← hperm.mem_iff, h0] at this; cases this
  have hbg := hblk b (by rw [hov]; rfl)
  rw [iL_len] at hov
  subst hov
  refine aws_cut fun N6 hN6 => ?_
  simp (maxSteps := 2000000) only [s49, ↓aw_region, ↓aw_skip, ↓aw_seq, ↓aw_block, ↓aw_exit, ↓aw_ret, ↓sops_nil, ↓sops_go, ↓dops_nil, ↓dopsX_nil, ↓dopsR_nil, ↓vdn, vup, extr_20, extr_21, extr_30, extr_31, extr_32, List.map_cons, List.map_nil, cond_true, cond_false, aop, aThen, aBlock, argEnv, ev, sput, sputO, binK, binI, unK, builtinK, pickK, Nat.reduceBEq, Nat.reduceAdd, Int.reduceBEq, Int.reduceBNe, Int.reduceLT, aPost, resK, tup, tyf, callK, List.nil_append, List.append_nil, List.toList_toArray, List.cons_append, List.map_toArray]
  refine ((show ACall prog 83 [ov b L.length ys.length, .func (.func 84) #[] #[]] hq2 _ from sortFn_call (key := fun x => -(((Am.bits x).length : Nat) : Int)) (fun x _ => by have := hb64 x; omega) (fun L' x y hxm hym => parts1_call (hLx x hxm) (hLx y hym)) hb (by omega) (fun x hxm => by have := hLx x hxm; omega))).mono ?_
  rintro rr h5 ⟨L2, hp2, hs2, rfl⟩
  refine hN6 [(0, v), (4, v), (5, .map (some bm)), (7, ov b L.length ys.length)] _ _ ?_ (by simp (maxSteps := 2000000) only [↓aw_region, ↓aw_skip, ↓aw_seq, ↓aw_block, ↓aw_exit, ↓aw_ret, ↓sops_nil, ↓sops_go, ↓dops_nil, ↓dopsX_nil, ↓dopsR_nil, ↓vdn, vup, extr_20, extr_21, extr_30, extr_31, extr_32, List.map_cons, List.map_nil, cond_true, cond_false, aop, aThen, aBlock, argEnv, ev, sput, sputO, binK, binI, unK, builtinK, pickK, Nat.reduceBEq, Nat.reduceAdd, Int.reduceBEq, Int.reduceBNe, Int.reduceLT, aPost, resK, tup, tyf])
  clear hN6
  try clear N6
  have hE5 : Ext (fun _ => False) h (hq2.set b (.ints (iL L2 ++ ys) 3 false)) := hE2.set_ge (by omega) _
  have hm5 : (hq2.set b (.ints (iL L2 ++ ys) 3 false))[bm]? = some (.map (mI (pm xs xs.length))) := by rw [List.getElem?_set_ne (by omega)]; exact hm2
  have hr5 : IntSl (hq2.set b (.ints (iL L2 ++ ys) 3 false)) (ov b L2.length ys.length) (iL L2) := (ov_own (get_lt hb) rfl).int
  have hbl5 : bm < (hq2.set b (.ints (iL L2 ++ ys) 3 false)).length := get_lt hm5
  generalize hq2.set b (.ints (iL L2 ++ ys) 3 false) = h5 at hE5 hm5 hr5 hbl5 ⊢
  have hLL : L2.length = L.length := hp2.length_eq
  rw [← hLL]
  refine aws_cut fun N7 hN7 => ?_
  simp (maxSteps := 2000000) only [s49, ↓aw_region, ↓aw_skip, ↓aw_seq, ↓aw_block, ↓aw_exit, ↓aw_ret, ↓sops_nil, ↓sops_go, ↓dops_nil, ↓dopsX_nil, ↓dopsR_nil, ↓vdn, vup, extr_20, extr_21, extr_30, extr_31, extr_32, List.map_cons, List.map_nil, cond_true, cond_false, aop, aThen, aBlock, argEnv, ev, sput, sputO, binK, binI, unK, builtinK, pickK, Nat.reduceBEq, Nat.reduceAdd, Int.reduceBEq, Int.reduceBNe, Int.reduceLT, aPost, resK, tup, tyf]
  refine hN7 [(0, v), (4, v), (5, .map (some bm)), (7, ov b L2.length ys.length), (9, .slice none 0 0)] _ _ ?_ (by simp (maxSteps := 2000000) only [↓aw_region, ↓aw_skip, ↓aw_seq, ↓aw_block, ↓aw_exit, ↓aw_ret, ↓sops_nil, ↓sops_go, ↓dops_nil, ↓dopsX_nil, ↓dopsR_nil, ↓vdn, vup, extr_20, extr_21, extr_30, extr_31, extr_32, List.map_cons, List.map_nil, cond_true, cond_false, aop, aThen, aBlock, argEnv, ev, sput, sputO, binK, binI, unK, builtinK, pickK, Nat.reduceBEq, Nat.reduceAdd, Int.reduceBEq, Int.reduceBNe, Int.reduceLT, aPost, resK, tup, tyf])
  clear hN7
  try clear N7
  refine aws_cut fun Z hZ => ?_
  simp (maxSteps := 2000000) only [s49, ↓aw_region, ↓aw_skip, ↓aw_seq, ↓aw_block, ↓aw_exit, ↓aw_ret, ↓sops_nil, ↓sops_go, ↓dops_nil, ↓dopsX_nil, ↓dopsR_nil, ↓vdn, vup, extr_20, extr_21, extr_30, extr_31, extr_32, List.map_cons, List.map_nil, cond_true, cond_false, aop, aThen, aBlock, argEnv, ev, sput, sputO, binK, binI, unK, builtinK, pickK, Nat.reduceBEq, Nat.reduceAdd, Int.reduceBEq, Int.reduceBNe, Int.reduceLT, aPost, resK, tup, tyf, hr5.len, iL_len, ↓aw_loop_eq]
  refine aws_hide fun Q hQ => ?_
  refine aw_loop (γ := Nat × Value × Heap) (fun s => s.1 ≤ L2.length ∧ RSI h5 s.2.2 s.2.1 (iL ((L2.take s.1).map (prt xs.length (rch xs)))))
    (fun s => ([(0, v), (4, v), (5, .map (some bm)), (7, ov b L2.length ys.length), (9, s.2.1), (43, ov b L2.length ys.length), (44, vint L2.length), (45, vint s.1)], s.2.2)) (fun s => L2.length - s.1) (0, .slice none 0 0, h5) ⟨Nat.zero_le _, RSI.nil h5⟩ (by simp (maxSteps := 2000000) only [↓aw_region, ↓aw_skip, ↓aw_seq, ↓aw_block, ↓aw_exit, ↓aw_ret, ↓sops_nil, ↓sops_go, ↓dops_nil, ↓dopsX_nil, ↓dopsR_nil, ↓vdn, vup, extr_20, extr_21, extr_30, extr_31, extr_32, List.map_cons, List.map_nil, cond_true, cond_false, aop, aThen, aBlock, argEnv, ev, sput, sputO, binK, binI, unK, builtinK, pickK, Nat.reduceBEq, Nat.reduceAdd, Int.reduceBEq, Int.reduceBNe, Int.reduceLT, aPost, resK, tup, tyf, Int.natCast_zero]) rfl ?_
  rintro ⟨j, w1, hp⟩ ⟨hj, hs⟩
  simp only at hj hs
  refine aw_hide fun Q2 hQ2 => ?_
  have hr6 := IntSl_ext hr5 hs.2.1
  have hm6 := (hs.2.1.2 bm hbl5 id).trans hm5
  by_cases hjn : (j : Int) < L2.length
  · have hj' : j < L2.length := by omega
    have hjL : j < (iL L2).length := by rw [iL_len]; exact hj'
    have hget : mget ((L2.getD j 0 : Nat) : Int) (pm xs xs.length) = ((prt xs.length (rch xs) (L2.getD j 0) : Nat) : Int) := pm_get xs _ _
    simp (maxSteps := 2000000) only [s49, ↓aw_region, ↓aw_skip, ↓aw_seq, ↓aw_block, ↓aw_exit, ↓aw_ret, ↓sops_nil, ↓sops_go, ↓dops_nil, ↓dopsX_nil, ↓dopsR_nil, ↓vdn, vup, extr_20, extr_21, extr_30, extr_31, extr_32, List.map_cons, List.map_nil, cond_true, cond_false, aop, aThen, aBlock, argEnv, ev, sput, sputO, binK, binI, unK, builtinK, pickK, Nat.reduceBEq, Nat.reduceAdd, Int.reduceBEq, Int.reduceBNe, Int.reduceLT, aPost, resK, tup, tyf, l49_2, hjn, hr6.idx el_22 esz_3 hjL, hr6.load shp_3 hjL, iL_get, isPick_map, lookupI hm6 und_75 und_3 zv_3, hget, litI1]
    refine hs.push (by rw [iL_len, List.length_map, List.length_take]; omega) fun v' h' s' => ?_
    simp (maxSteps := 2000000) only [s49, ↓aw_region, ↓aw_skip, ↓aw_seq, ↓aw_block, ↓aw_exit, ↓aw_ret, ↓sops_nil, ↓sops_go, ↓dops_nil, ↓dopsX_nil, ↓dopsR_nil, ↓vdn, vup, extr_20, extr_21, extr_30, extr_31, extr_32, List.map_cons, List.map_nil, cond_true, cond_false, aop, aThen, aBlock, argEnv, ev, sput, sputO, binK, binI, unK, builtinK, pickK, Nat.reduceBEq, Nat.reduceAdd, Int.reduceBEq, Int.reduceBNe, Int.reduceLT, aPost, resK, tup, tyf, add1 (show j < 9223372036854775807 by omega)]
    refine hQ2 _ _ _ ⟨(j + 1, v', h'), ⟨by simp only; omega, by rw [iL_take_succ hj']; exact s'⟩, by simp only; omega, by simp (maxSteps := 2000000) only [↓aw_region, ↓aw_skip, ↓aw_seq, ↓aw_block, ↓aw_exit, ↓aw_ret, ↓sops_nil, ↓sops_go, ↓dops_nil, ↓dopsX_nil, ↓dopsR_nil, ↓vdn, vup, extr_20, extr_21, extr_30, extr_31, extr_32, List.map_cons, List.map_nil, cond_true, cond_false, aop, aThen, aBlock, argEnv, ev, sput, sputO, binK, binI, unK, builtinK, pickK, Nat.reduceBEq, Nat.reduceAdd, Int.reduceBEq, Int.reduceBNe, Int.reduceLT, aPost, resK, tup, tyf], rfl⟩
  · obtain rfl : j = L2.length := by omega
    simp (maxSteps := 2000000) only [s49, ↓aw_region, ↓aw_skip, ↓aw_seq, ↓aw_block, ↓aw_exit, ↓aw_ret, ↓sops_nil, ↓sops_go, ↓dops_nil, ↓dopsX_nil, ↓dopsR_nil, ↓vdn, vup, extr_20, extr_21, extr_30, extr_31, extr_32, List.map_cons, List.map_nil, cond_true, cond_false, aop, aThen, aBlock, argEnv, ev, sput, sputO, binK, binI, unK, builtinK, pickK, Nat.reduceBEq, Nat.reduceAdd, Int.reduceBEq, Int.reduceBNe, Int.reduceLT, aPost, resK, tup, tyf, l49_2, Int.lt_irrefl]
    refine hQ2 _ _ _ (hQ _ _ _ ?_)
    simp (maxSteps := 2000000) only [s49, ↓aw_region, ↓aw_skip, ↓aw_seq, ↓aw_block, ↓aw_exit, ↓aw_ret, ↓sops_nil, ↓sops_go, ↓dops_nil, ↓dopsX_nil, ↓dopsR_nil, ↓vdn, vup, extr_20, extr_21, extr_30, extr_31, extr_32, List.map_cons, List.map_nil, cond_true, cond_false, aop, aThen, aBlock, argEnv, ev, sput, sputO, binK, binI, unK, builtinK, pickK, Nat.reduceBEq, Nat.reduceAdd, Int.reduceBEq, Int.reduceBNe, Int.reduceLT, aPost, resK, tup, tyf, if_true]
    refine hZ [(0, v), (4, v), (5, .map (some bm)), (7, ov b L2.length ys.length), (9, w1)] _ _ ?_ (by simp (maxSteps := 2000000) only [↓aw_region, ↓aw_skip, ↓aw_seq, ↓aw_block, ↓aw_exit, ↓aw_ret, ↓sops_nil, ↓sops_go, ↓dops_nil, ↓dopsX_nil, ↓dopsR_nil, ↓vdn, vup, extr_20, extr_21, extr_30, extr_31, extr_32, List.map_cons, List.map_nil, cond_true, cond_false, aop, aThen, aBlock, argEnv, ev, sput, sputO, binK, binI, unK, builtinK, pickK, Nat.reduceBEq, Nat.reduceAdd, Int.reduceBEq, Int.reduceBNe, Int.reduceLT, aPost, resK, tup, tyf])
    clear hZ
    try clear Z
    rw [List.take_length] at hs
    obtain ⟨hown, hE6, _⟩ := hs
    refine aw_aws ?_
    simp (maxSteps := 2000000) only [s49, ↓aw_region, ↓aw_skip, ↓aw_seq, ↓aw_block, ↓aw_exit, ↓aw_ret, ↓sops_nil, ↓sops_go, ↓dops_nil, ↓dopsX_nil, ↓dopsR_nil, ↓vdn, vup, extr_20, extr_21, extr_30, extr_31, extr_32, List.map_cons, List.map_nil, cond_true, cond_false, aop, aThen, aBlock, argEnv, ev, sput, sputO, binK, binI, unK, builtinK, pickK, Nat.reduceBEq, Nat.reduceAdd, Int.reduceBEq, Int.reduceBNe, Int.reduceLT, aPost, resK, tup, tyf]
    refine ⟨hE5.trans hE6, ?_⟩
    rw [if_pos ht, prts_eq ht (hp2.trans hperm) hs2]
    exact ⟨_, rfl, hown⟩
end Go.Proofs.Tryd.Am

namespace Go.Proofs.Tryd.Am
open Go.Am Redei Rb
set_option maxRecDepth 100000
set_option maxHeartbeats 1000000

theorem s75_callW [Tabs Tryd.prog] {args : List Value} {h : Heap} {Q : Value → Heap → Prop} (hsz : args.length ≤ 22) (hk : AWS Tryd.prog 22 s75 (aPost Tryd.prog [.tmp 6] Q) (argEnv 0 args) h) : ACall Tryd.prog 75 args h Q :=
  acall_w Tryd.func75 rfl (enters_of Tryd.func75 (by kernel_rfl) rfl) rfl rfl (by decide) s75_strip s75_ok hsz hk
theorem cost_call [Tabs prog] {h hp : Heap} {gv : Value} {xs : List Int} {M : Nat} {T : List Nat} (o : OB h hp gv M T) (hv : IntSl h gv xs) (ht : trn xs = true) (hM : 2 ^ xs.length = M) {s i : Nat} (hs : s < M) (hi : i < xs.length) (hT : T.getD (s ||| 2 ^ i) 0 ≤ 1000) :
    APure prog 75 [vint s, vint i, pt h.length, pt (h.length + 2)] hp (vint (cst xs i s + T.getD (s ||| 2 ^ i) 0 : Nat)) := by
  have hnn : ∀ i : Nat, (0 : Int) ≤ (i : Int) := Int.natCast_nonneg
  have hxl : 1 ≤ xs.length ∧ xs.length ≤ 8 := by simp only [trn, Bool.and_eq_true, decide_eq_true_eq] at ht; omega
  have h256 := pow8N hxl.2
  have hvp := IntSl_ext hv o.E
  obtain ⟨hX, hXl⟩ := trn_nat ht hi
  obtain ⟨X, hXe⟩ : ∃ X, X = (xs.getD i 0).toNat := ⟨_, rfl⟩
  have hcX : cst xs i s = (Am.bits (X &&& s)).length := by rw [cst, ← hXe]
  rw [← hXe] at hX hXl
  have hc64 := cst_le xs i s
  have p2 : 2 ^ i ≤ 2 ^ 8 := Nat.pow_le_pow_right (by decide) (by omega)
  have hor : bitsV .or .i64 ((s : Nat) : Int) ((2 ^ i : Nat) : Int) = ((s ||| 2 ^ i : Nat) : Int) := bitsV_or (by omega) (by omega)
  have hand : bitsV .and .i64 ((X : Nat) : Int) ((s : Nat) : Int) = ((X &&& s : Nat) : Int) := bitsV_and (by omega) (by omega)
  have hal : X &&& s < 256 := Nat.lt_of_le_of_lt Nat.and_le_right (by omega)
  have hsi : s ||| 2 ^ i < M := by rw [← hM]; exact put_lt (by rw [hM]; exact hs) hi
  have hadd : addV .i64 (((Am.bits (X &&& s)).length : Nat) : Int) ((T.getD (s ||| 2 ^ i) 0 : Nat) : Int) = ((cst xs i s + T.getD (s ||| 2 ^ i) 0 : Nat) : Int) := by
    rw [← hcX, addV_id (by omega) (by omega)]; omega
  refine s75_callW (by simp) ?_
  simp only [s75]
  refine aws_cut fun N1 hN1 => ?_
  simp (maxSteps := 2000000) only [s75, ↓aw_region, ↓aw_skip, ↓aw_seq, ↓aw_block, ↓aw_exit, ↓aw_ret, ↓sops_nil, ↓sops_go, ↓dops_nil, ↓dopsX_nil, ↓dopsR_nil, ↓vdn, vup, extr_20, extr_21, extr_30, extr_31, extr_32, List.map_cons, List.map_nil, cond_true, cond_false, aop, aThen, aBlock, argEnv, ev, sput, sputO, binK, binI, unK, builtinK, pickK, Nat.reduceBEq, Nat.reduceAdd, Int.reduceBEq, Int.reduceBNe, Int.reduceLT, aPost, resK, tup, tyf]
  refine hN1 [(0, vint s), (1, vint i), (2, pt h.length), (3, pt (h.length + 2)), (6, .int .i64 0)] _ _ ?_ (by simp (maxSteps := 2000000) only [↓aw_region, ↓aw_skip, ↓aw_seq, ↓aw_block, ↓aw_exit, ↓aw_ret, ↓sops_nil, ↓sops_go, ↓dops_nil, ↓dopsX_nil, ↓dopsR_nil, ↓vdn, vup, extr_20, extr_21, extr_30, extr_31, extr_32, List.map_cons, List.map_nil, cond_true, cond_false, aop, aThen, aBlock, argEnv, ev, sput, sputO, binK, binI, unK, builtinK, pickK, Nat.reduceBEq, Nat.reduceAdd, Int.reduceBEq, Int.reduceBNe, Int.reduceLT, aPost, resK, tup, tyf])
  clear hN1
  try clear N1
  refine aw_aws ?_
  simp (maxSteps := 2000000) only [s75, ↓aw_region, ↓aw_skip, ↓aw_seq, ↓aw_block, ↓aw_exit, ↓aw_ret, ↓sops_nil, ↓sops_go, ↓dops_nil, ↓dopsX_nil, ↓dopsR_nil, ↓vdn, vup, extr_20, extr_21, extr_30, extr_31, extr_32, List.map_cons, List.map_nil, cond_true, cond_false, aop, aThen, aBlock, argEnv, ev, sput, sputO, binK, binI, unK, builtinK, pickK, Nat.reduceBEq, Nat.reduceAdd, Int.reduceBEq, Int.reduceBNe, Int.reduceLT, aPost, resK, tup, tyf]
  refine aw_drawX [(6, 1)] (by kernel_rfl) (by kernel_rfl) (by kernel_rfl) (by kernel_rfl) ?_
  have band : ∀ {K : Value → Prop}, binK prog .and 3 (.int .i64 ((X : Nat) : Int)) (.int .i64 ((s : Nat) : Int)) K = K (vint (X &&& s : Nat)) := fun {K} => by
    simp only [binK, binI]; rw [hand, true_and]
  simp (maxSteps := 2000000) only [s75, ↓aw_region, ↓aw_skip, ↓aw_seq, ↓aw_block, ↓aw_exit, ↓aw_ret, ↓sops_nil, ↓sops_go, ↓dops_nil, ↓dopsX_nil, ↓dopsR_nil, ↓vdn, vup, extr_20, extr_21, extr_30, extr_31, extr_32, List.map_cons, List.map_nil, cond_true, cond_false, aop, aThen, aBlock, argEnv, ev, sput, sputO, builtinK, Nat.reduceBEq, Nat.reduceAdd, Int.reduceBEq, Int.reduceBNe, Int.reduceLT, aPost, resK, tup, tyf, load1 o.b1 shp_22, hvp.idx el_22 esz_3 hi, hvp.load shp_3 hi, hX, band, load1 o.b5 shp_22, callK, List.nil_append, List.append_nil, List.toList_toArray, List.cons_append]
  refine ⟨_, _, count_call hal, rfl, ?_⟩
  simp (maxSteps := 2000000) only [s75, ↓aw_region, ↓aw_skip, ↓aw_seq, ↓aw_block, ↓aw_exit, ↓aw_ret, ↓sops_nil, ↓sops_go, ↓dops_nil, ↓dopsX_nil, ↓dopsR_nil, ↓vdn, vup, extr_20, extr_21, extr_30, extr_31, extr_32, List.map_cons, List.map_nil, cond_true, cond_false, aop, aThen, aBlock, argEnv, ev, sput, sputO, binK, binI, unK, builtinK, pickK, Nat.reduceBEq, Nat.reduceAdd, Int.reduceBEq, Int.reduceBNe, Int.reduceLT, aPost, resK, tup, tyf, load1 o.b5 shp_22, hnn, shlI1 (show i ≤ 62 by omega), hor, tab_idx o.bT o.len hsi, tab_load o.bT o.len hsi, hadd]

end Go.Proofs.Tryd.Am

namespace Go.Proofs.Tryd.Am
open Go.Am Redei Rb
set_option maxRecDepth 100000
set_option maxHeartbeats 1000000

theorem or_gt {s i : Nat} (h : s.testBit i = false) : s + 1 ≤ s ||| 2 ^ i := by
  have h1 : s ≤ s ||| 2 ^ i := Nat.left_le_or
  have h2 : s ≠ s ||| 2 ^ i := fun e => by
    have : (s ||| 2 ^ i).testBit i = true := by rw [Nat.testBit_or, Nat.testBit_two_pow]; simp
    rw [← e, h] at this; cases this
  omega
theorem band {x s : Nat} (hx : x < 9223372036854775808) (hs : s < 9223372036854775808) {K : Value → Prop} : binK prog .andNot 3 (.int .i64 ((x : Nat) : Int)) (.int .i64 ((s : Nat) : Int)) K = K (vint (less x s : Nat)) := by
  simp only [binK, binI]; rw [bitsV_andNot hx hs, true_and]
/-- The table is filled from the end on. -/
theorem fill_loop [BitTab prog 1] {h : Heap} {gv : Value} {xs : List Int} {M : Nat} (hv : IntSl h gv xs) (ht : trn xs = true) (hM : 2 ^ xs.length = M) {N : Env → Heap → Prop} {Q0 : Exit → Env → Heap → Prop} {T0 : List Nat} {H : Heap} {c7 : Nat}
    (o0 : OB h H gv M T0) (hT0 : TOk xs M (M - 1) T0) (h7 : H[c7]? = some (.cells [.int .i64 (((M - 1 : Nat) : Int) - 1)] 3 false)) (hc7 : h.length + 4 ≤ c7)
    (hN : ∀ hp T e, OB h hp gv M T → TOk xs M 0 T → ELe e [(1, pt h.length), (2, .slice none 0 0), (3, .int .i64 0), (4, gv), (5, pt (h.length + 2)), (6, pt (h.length + 3))] → N e hp) :
    AWS prog 84 (.block 0 (.loop l38_1)) (aThen N Q0) [(1, pt h.length), (2, .slice none 0 0), (3, .int .i64 0), (4, gv), (5, pt (h.length + 2)), (6, pt (h.length + 3)), (7, pt c7)] H := by
  have hnn : ∀ i : Nat, (0 : Int) ≤ (i : Int) := Int.natCast_nonneg
  have hxl : 1 ≤ xs.length ∧ xs.length ≤ 8 := by simp only [trn, Bool.and_eq_true, decide_eq_true_eq] at ht; omega
  have h256 := pow8N hxl.2
  have hp0 := Nat.two_pow_pos xs.length
  have h64 : xs.length * xs.length ≤ 8 * 8 := Nat.mul_le_mul hxl.2 hxl.2
  have hmul : mulV .i64 (xs.length : Int) (xs.length : Int) = ((xs.length * xs.length : Nat) : Int) := by
    have e : (xs.length : Int) * (xs.length : Int) = ((xs.length * xs.length : Nat) : Int) := (Int.natCast_mul _ _).symm
    rw [mulV_id (by rw [e]; omega) (by rw [e]; omega), e]
  rw [hM] at h256 hp0
  refine aws_block ?_
  refine aws_hide fun Q hQ => ?_
  refine aw_loopW (γ := Nat × Heap × Nat × List Nat) (fun s => s.1 ≤ M - 1 ∧ OB h s.2.1 gv M s.2.2.2 ∧ s.2.1[s.2.2.1]? = some (.cells [.int .i64 ((s.1 : Int) - 1)] 3 false) ∧ h.length + 4 ≤ s.2.2.1 ∧ TOk xs M s.1 s.2.2.2)
    (fun s => ([(1, pt h.length), (2, .slice none 0 0), (3, .int .i64 0), (4, gv), (5, pt (h.length + 2)), (6, pt (h.length + 3)), (7, pt s.2.2.1)], s.2.1)) (fun s => s.1) (M - 1, H, c7, T0) ⟨Nat.le_refl _, o0, h7, hc7, hT0⟩ (by simp (maxSteps := 2000000) only [↓aw_region, ↓aw_skip, ↓aw_seq, ↓aw_block, ↓aw_exit, ↓aw_ret, ↓sops_nil, ↓sops_go, ↓dops_nil, ↓dopsX_nil, ↓dopsR_nil, ↓vdn, vup, extr_20, extr_21, extr_30, extr_31, extr_32, List.map_cons, List.map_nil, cond_true, cond_false, aop, aThen, aBlock, argEnv, ev, sput, sputO, binK, binI, unK, builtinK, pickK, Nat.reduceBEq, Nat.reduceAdd, Int.reduceBEq, Int.reduceBNe, Int.reduceLT, aPost, resK, tup, tyf]) rfl ?_
  rintro ⟨t, hp, b7, T⟩ ⟨htM, o, hb7, hl7, hT⟩
  simp only at htM o hb7 hl7 hT
  refine aws_hide fun Q2 hQ2 => ?_
  simp only [l38_1]
  cases t with
  | zero =>
    have hneg : ¬ (0 : Int) ≤ (((0 : Nat) : Int) - 1) := by omega
    refine aws_cut fun N1 hN1 => ?_
    simp (maxSteps := 2000000) only [s38, ↓aw_region, ↓aw_skip, ↓aw_seq, ↓aw_block, ↓aw_exit, ↓aw_ret, ↓sops_nil, ↓sops_go, ↓dops_nil, ↓dopsX_nil, ↓dopsR_nil, ↓vdn, vup, extr_20, extr_21, extr_30, extr_31, extr_32, List.map_cons, List.map_nil, cond_true, cond_false, aop, aThen, aBlock, argEnv, ev, sput, sputO, binK, binI, unK, builtinK, pickK, Nat.reduceBEq, Nat.reduceAdd, Int.reduceBEq, Int.reduceBNe, Int.reduceLT, aPost, resK, tup, tyf, load1 hb7 shp_3, ge_iff_le, hneg]
    refine hQ2 _ _ _ (hQ _ _ _ ?_)
    simp (maxSteps := 2000000) only [s38, ↓aw_region, ↓aw_skip, ↓aw_seq, ↓aw_block, ↓aw_exit, ↓aw_ret, ↓sops_nil, ↓sops_go, ↓dops_nil, ↓dopsX_nil, ↓dopsR_nil, ↓vdn, vup, extr_20, extr_21, extr_30, extr_31, extr_32, List.map_cons, List.map_nil, cond_true, cond_false, aop, aThen, aBlock, argEnv, ev, sput, sputO, binK, binI, unK, builtinK, pickK, Nat.reduceBEq, Nat.reduceAdd, Int.reduceBEq, Int.reduceBNe, Int.reduceLT, aPost, resK, tup, tyf, if_true]
    exact hN hp T _ o hT (by simp (maxSteps := 2000000) only [↓aw_region, ↓aw_skip, ↓aw_seq, ↓aw_block, ↓aw_exit, ↓aw_ret, ↓sops_nil, ↓sops_go, ↓dops_nil, ↓dopsX_nil, ↓dopsR_nil, ↓vdn, vup, extr_20, extr_21, extr_30, extr_31, extr_32, List.map_cons, List.map_nil, cond_true, cond_false, aop, aThen, aBlock, argEnv, ev, sput, sputO, binK, binI, unK, builtinK, pickK, Nat.reduceBEq, Nat.reduceAdd, Int.reduceBEq, Int.reduceBNe, Int.reduceLT, aPost, resK, tup, tyf])
  | succ s =>
  have es : ((((s + 1 : Nat)) : Int) - 1) = ((s : Nat) : Int) := by omega
  rw [es] at hb7
  have hsM : s < M := by omega
  have hsn : s < 2 ^ xs.length := by rw [hM]; exact hsM
  have hfr : fr xs.length s ≠ [] := fun e => by have := (fr_full hM hsM).1 e; omega
  obtain ⟨k, hk⟩ : ∃ k, (fr xs.length s).length = k + 1 := ⟨(fr xs.length s).length - 1, by have := List.length_pos_iff.2 hfr; omega⟩
  refine aws_cut fun N2 hN2 => ?_
  simp (maxSteps := 2000000) only [s38, ↓aw_region, ↓aw_skip, ↓aw_seq, ↓aw_block, ↓aw_exit, ↓aw_ret, ↓sops_nil, ↓sops_go, ↓dops_nil, ↓dopsX_nil, ↓dopsR_nil, ↓vdn, vup, extr_20, extr_21, extr_30, extr_31, extr_32, List.map_cons, List.map_nil, cond_true, cond_false, aop, aThen, aBlock, argEnv, ev, sput, sputO, binK, binI, unK, builtinK, pickK, Nat.reduceBEq, Nat.reduceAdd, Int.reduceBEq, Int.reduceBNe, Int.reduceLT, aPost, resK, tup, tyf, load1 hb7 shp_3, ge_iff_le, hnn]
  refine hN2 [(1, pt h.length), (2, .slice none 0 0), (3, .int .i64 0), (4, gv), (5, pt (h.length + 2)), (6, pt (h.length + 3)), (7, pt b7)] _ _ ?_ (by simp (maxSteps := 2000000) only [↓aw_region, ↓aw_skip, ↓aw_seq, ↓aw_block, ↓aw_exit, ↓aw_ret, ↓sops_nil, ↓sops_go, ↓dops_nil, ↓dopsX_nil, ↓dopsR_nil, ↓vdn, vup, extr_20, extr_21, extr_30, extr_31, extr_32, List.map_cons, List.map_nil, cond_true, cond_false, aop, aThen, aBlock, argEnv, ev, sput, sputO, binK, binI, unK, builtinK, pickK, Nat.reduceBEq, Nat.reduceAdd, Int.reduceBEq, Int.reduceBNe, Int.reduceLT, aPost, resK, tup, tyf])
  clear hN2
  try clear N2
  refine aws_cutW fun K hK => ?_
  refine aws_block ?_
  refine aws_cut fun N3 hN3 => ?_
  have hvp := IntSl_ext hv o.E
  have hsg : shlV .i64 1 0 = 1 := rfl
  simp (maxSteps := 2000000) only [s38, ↓aw_region, ↓aw_skip, ↓aw_seq, ↓aw_block, ↓aw_exit, ↓aw_ret, ↓sops_nil, ↓sops_go, ↓dops_nil, ↓dopsX_nil, ↓dopsR_nil, ↓vdn, vup, extr_20, extr_21, extr_30, extr_31, extr_32, List.map_cons, List.map_nil, cond_true, cond_false, aop, aThen, aBlock, argEnv, ev, sput, sputO, binK, binI, unK, builtinK, pickK, Nat.reduceBEq, Nat.reduceAdd, Int.reduceBEq, Int.reduceBNe, Int.reduceLT, aPost, resK, tup, tyf, load1 o.b5 shp_22, load1 hb7 shp_3, load1 o.b1 shp_22, hvp.len, hmul, tab_idx o.bT o.len hsM, tab_store o.bT o.len hsM]
  refine hN3 [(1, pt h.length), (2, .slice none 0 0), (3, .int .i64 0), (4, gv), (5, pt (h.length + 2)), (6, pt (h.length + 3)), (7, pt b7)] _ _ ?_ (by simp (maxSteps := 2000000) only [↓aw_region, ↓aw_skip, ↓aw_seq, ↓aw_block, ↓aw_exit, ↓aw_ret, ↓sops_nil, ↓sops_go, ↓dops_nil, ↓dopsX_nil, ↓dopsR_nil, ↓vdn, vup, extr_20, extr_21, extr_30, extr_31, extr_32, List.map_cons, List.map_nil, cond_true, cond_false, aop, aThen, aBlock, argEnv, ev, sput, sputO, binK, binI, unK, builtinK, pickK, Nat.reduceBEq, Nat.reduceAdd, Int.reduceBEq, Int.reduceBNe, Int.reduceLT, aPost, resK, tup, tyf])
  clear hN3
  try clear N3
  have o1 := o.tab (T2 := T.set s (xs.length * xs.length)) (by rw [List.length_set]; exact o.len)
  have hb1 : (hp.set (h.length + 1) (.ints (iL (T.set s (xs.length * xs.length))) 3 false))[b7]? = some (.cells [vint s] 3 false) := by rw [List.getElem?_set_ne (by omega)]; exact hb7
  generalize hp.set (h.length + 1) (.ints (iL (T.set s (xs.length * xs.length))) 3 false) = h1 at o1 hb1 ⊢
  have hv1 := IntSl_ext hv o1.E
  refine aws_cut fun N4 hN4 => ?_
  refine aw_drawX [(1, 1), (4, 4)] (by kernel_rfl) (by kernel_rfl) (by kernel_rfl) (by kernel_rfl) ?_
  simp (maxSteps := 2000000) only [s38, ↓aw_region, ↓aw_skip, ↓aw_seq, ↓aw_block, ↓aw_exit, ↓aw_ret, ↓sops_nil, ↓sops_go, ↓dops_nil, ↓dopsX_nil, ↓dopsR_nil, ↓vdn, vup, extr_20, extr_21, extr_30, extr_31, extr_32, List.map_cons, List.map_nil, cond_true, cond_false, aop, aThen, aBlock, argEnv, ev, sput, sputO, builtinK, Nat.reduceBEq, Nat.reduceAdd, Int.reduceBEq, Int.reduceBNe, Int.reduceLT, aPost, resK, tup, tyf, load1 hb1 shp_3, callK, List.nil_append, List.append_nil, List.toList_toArray, List.cons_append]
  refine ⟨_, _, all_call hv1 hxl.2, rfl, ?_⟩
  rw [hM]
  simp (maxSteps := 2000000) only [s38, ↓aw_region, ↓aw_skip, ↓aw_seq, ↓aw_block, ↓aw_exit, ↓aw_ret, ↓sops_nil, ↓sops_go, ↓dops_nil, ↓dopsX_nil, ↓dopsR_nil, ↓vdn, vup, extr_20, extr_21, extr_30, extr_31, extr_32, List.map_cons, List.map_nil, cond_true, cond_false, aop, aThen, aBlock, argEnv, ev, sput, sputO, builtinK, Nat.reduceBEq, Nat.reduceAdd, Int.reduceBEq, Int.reduceBNe, Int.reduceLT, aPost, resK, tup, tyf, load1 hb1 shp_3, band (show M - 1 < 9223372036854775808 by omega) (show s < 9223372036854775808 by omega), callK, List.nil_append, List.append_nil, List.toList_toArray, List.cons_append]
  refine players_call.mono ?_
  rintro v' h2 ⟨rfl, rfl⟩
  try simp (maxSteps := 2000000) only [s38, ↓aw_region, ↓aw_skip, ↓aw_seq, ↓aw_block, ↓aw_exit, ↓aw_ret, ↓sops_nil, ↓sops_go, ↓dops_nil, ↓dopsX_nil, ↓dopsR_nil, ↓vdn, vup, extr_20, extr_21, extr_30, extr_31, extr_32, List.map_cons, List.map_nil, cond_true, cond_false, aop, aThen, aBlock, argEnv, ev, sput, sputO, binK, binI, unK, builtinK, pickK, Nat.reduceBEq, Nat.reduceAdd, Int.reduceBEq, Int.reduceBNe, Int.reduceLT, aPost, resK, tup, tyf]
  refine hN4 [(1, pt h.length), (2, .slice none 0 0), (3, .int .i64 0), (4, gv), (5, pt (h.length + 2)), (6, pt (h.length + 3)), (7, pt b7), (40, .func (.func 93) #[] #[newPtr h1])] _ _ ?_ (by simp (maxSteps := 2000000) only [↓aw_region, ↓aw_skip, ↓aw_seq, ↓aw_block, ↓aw_exit, ↓aw_ret, ↓sops_nil, ↓sops_go, ↓dops_nil, ↓dopsX_nil, ↓dopsR_nil, ↓vdn, vup, extr_20, extr_21, extr_30, extr_31, extr_32, List.map_cons, List.map_nil, cond_true, cond_false, aop, aThen, aBlock, argEnv, ev, sput, sputO, binK, binI, unK, builtinK, pickK, Nat.reduceBEq, Nat.reduceAdd, Int.reduceBEq, Int.reduceBNe, Int.reduceLT, aPost, resK, tup, tyf])
  clear hN4
  try clear N4
  have hbl := bits_left hM (show xs.length ≤ 64 by omega) hsM
  have hb7l := get_lt hb1
  have hll : less (M - 1) s < 2 ^ xs.length := less_lt (by rw [hM]; omega)
  refine aws_block ?_
  refine aw_aws ?_
  refine aw_range bitIter (bx := h1.length) (s := less (M - 1) s) (et := 3) rfl (get_new _ _) (by omega) (fun pre hk => OB h hk gv M (T.set s (mnF (fv (cst xs) xs.length k s) pre (xs.length * xs.length))) ∧ hk[b7]? = some (.cells [vint s] 3 false)) ?_ ?_ ?_
  · have hE : Ext (fun i => h.length + 4 ≤ i) h1 ((h1 ++ [Blk.cells [vint (less (M - 1) s : Nat)] 3 false]).set h1.length .dead) := (Ext.app _ _ _).trans (Ext.set _ (by omega))
    refine ⟨o1.up hE, ?_⟩
    rw [List.getElem?_set_ne (by omega), List.getElem?_append_left hb7l]; exact hb1
  · rintro pre x hk2 hpre ⟨o2, hb2⟩
    rw [hbl] at hpre
    have hx := mem_pre hpre
    obtain ⟨hxn, hxs⟩ := mem_fr.1 hx
    have hgt := or_gt hxs
    have hsx : s ||| 2 ^ x < 2 ^ xs.length := put_lt hsn hxn
    have hput := fr_put hx
    have hTx : (T.set s (mnF (fv (cst xs) xs.length k s) pre (xs.length * xs.length))).getD (s ||| 2 ^ x) 0 = rst (cst xs) xs.length k (s ||| 2 ^ x) := by
      rw [getD_setN (by rw [o.len]; exact hsM), if_neg (by omega), hT.1 _ (by omega) (by rw [← hM]; exact hsx), show (fr xs.length (s ||| 2 ^ x)).length = k by omega]
    have hTs : (T.set s (mnF (fv (cst xs) xs.length k s) pre (xs.length * xs.length))).getD s 0 = mnF (fv (cst xs) xs.length k s) pre (xs.length * xs.length) := by
      rw [getD_setN (by rw [o.len]; exact hsM), if_pos rfl]
    have hr64 := rst_64 hxl.2 hsx
    rw [show (fr xs.length (s ||| 2 ^ x)).length = k by omega] at hr64
    have hcc : APure prog 75 [vint s, vint x, pt h.length, pt (h.length + 2)] hk2 (vint (fv (cst xs) xs.length k s x : Nat)) := by
      have := cost_call o2 hv ht hM hsM hxn (by rw [hTx]; omega)
      rw [hTx] at this; exact this
    have hmn : (if fv (cst xs) xs.length k s x < mnF (fv (cst xs) xs.length k s) pre (xs.length * xs.length) then fv (cst xs) xs.length k s x else mnF (fv (cst xs) xs.length k s) pre (xs.length * xs.length)) = mnF (fv (cst xs) xs.length k s) (pre ++ [x]) (xs.length * xs.length) := (mnF_snoc _ _ _).symm
    simp (maxSteps := 2000000) only [s38, ↓aw_region, ↓aw_skip, ↓aw_seq, ↓aw_block, ↓aw_exit, ↓aw_ret, ↓sops_nil, ↓sops_go, ↓dops_nil, ↓dopsX_nil, ↓dopsR_nil, ↓vdn, vup, extr_20, extr_21, extr_30, extr_31, extr_32, List.map_cons, List.map_nil, cond_true, cond_false, aop, aThen, aBlock, argEnv, ev, sput, sputO, binK, binI, unK, builtinK, pickK, Nat.reduceBEq, Nat.reduceAdd, Int.reduceBEq, Int.reduceBNe, Int.reduceLT, aPost, resK, tup, tyf, r38_0_a, r38_0_b]
    refine aw_drawX [(9, 1)] (by kernel_rfl) (by kernel_rfl) (by kernel_rfl) (by kernel_rfl) ?_
    simp (maxSteps := 2000000) only [s38, ↓aw_region, ↓aw_skip, ↓aw_seq, ↓aw_block, ↓aw_exit, ↓aw_ret, ↓sops_nil, ↓sops_go, ↓dops_nil, ↓dopsX_nil, ↓dopsR_nil, ↓vdn, vup, extr_20, extr_21, extr_30, extr_31, extr_32, List.map_cons, List.map_nil, cond_true, cond_false, aop, aThen, aBlock, argEnv, ev, sput, sputO, builtinK, Nat.reduceBEq, Nat.reduceAdd, Int.reduceBEq, Int.reduceBNe, Int.reduceLT, aPost, resK, tup, tyf, load1 o2.b5 shp_22, load1 hb2 shp_3, tab_idx o2.bT o2.len hsM, tab_load o2.bT o2.len hsM, hTs, load1 o2.b6 shp_69, callK, List.nil_append, List.append_nil, List.toList_toArray, List.cons_append]
    refine ⟨_, _, hcc, rfl, ?_⟩
    simp (maxSteps := 2000000) only [s38, ↓aw_region, ↓aw_skip, ↓aw_seq, ↓aw_block, ↓aw_exit, ↓aw_ret, ↓sops_nil, ↓sops_go, ↓dops_nil, ↓dopsX_nil, ↓dopsR_nil, ↓vdn, vup, extr_20, extr_21, extr_30, extr_31, extr_32, List.map_cons, List.map_nil, cond_true, cond_false, aop, aThen, aBlock, argEnv, ev, sput, sputO, binK, binI, unK, builtinK, pickK, Nat.reduceBEq, Nat.reduceAdd, Int.reduceBEq, Int.reduceBNe, Int.reduceLT, aPost, resK, tup, tyf, mmK, Bool.false_eq_true, if_false, gt_iff_lt, mnI, hmn, tab_store o2.bT o2.len hsM, rangeQ]
    rw [List.set_set]
    refine ⟨o2.tab (by rw [List.length_set]; exact o.len), ?_⟩
    rw [List.getElem?_set_ne (by omega)]; exact hb2
  · rintro hk2 ⟨o2, hb2⟩
    rw [hbl, ← rst_succ] at o2
    have hT2 : TOk xs M s (T.set s (rst (cst xs) xs.length (k + 1) s)) := by
      have h64' := rst_64 hxl.2 hsn
      rw [hk] at h64'
      refine ⟨fun r h1 h2 => ?_, fun r => ?_⟩
      · rw [getD_setN (by rw [o.len]; exact hsM)]
        by_cases e : r = s
        · rw [if_pos e, e, hk]
        · rw [if_neg e]; exact hT.1 r (by omega) h2
      · rw [getD_setN (by rw [o.len]; exact hsM)]
        split
        · exact h64'
        · exact hT.2 r
    simp (maxSteps := 2000000) only [s38, ↓aw_region, ↓aw_skip, ↓aw_seq, ↓aw_block, ↓aw_exit, ↓aw_ret, ↓sops_nil, ↓sops_go, ↓dops_nil, ↓dopsX_nil, ↓dopsR_nil, ↓vdn, vup, extr_20, extr_21, extr_30, extr_31, extr_32, List.map_cons, List.map_nil, cond_true, cond_false, aop, aThen, aBlock, argEnv, ev, sput, sputO, binK, binI, unK, builtinK, pickK, Nat.reduceBEq, Nat.reduceAdd, Int.reduceBEq, Int.reduceBNe, Int.reduceLT, aPost, resK, tup, tyf, Nat.reduceEqDiff, if_true, if_false]
    refine hK [(1, pt h.length), (2, .slice none 0 0), (3, .int .i64 0), (4, gv), (5, pt (h.length + 2)), (6, pt (h.length + 3)), (7, pt b7)] _ _ ?_ (by simp (maxSteps := 2000000) only [↓aw_region, ↓aw_skip, ↓aw_seq, ↓aw_block, ↓aw_exit, ↓aw_ret, ↓sops_nil, ↓sops_go, ↓dops_nil, ↓dopsX_nil, ↓dopsR_nil, ↓vdn, vup, extr_20, extr_21, extr_30, extr_31, extr_32, List.map_cons, List.map_nil, cond_true, cond_false, aop, aThen, aBlock, argEnv, ev, sput, sputO, binK, binI, unK, builtinK, pickK, Nat.reduceBEq, Nat.reduceAdd, Int.reduceBEq, Int.reduceBNe, Int.reduceLT, aPost, resK, tup, tyf])
    clear hK
    try clear K
    refine aw_aws ?_
    have hsub : subV .i64 ((s : Nat) : Int) 1 = ((s : Nat) : Int) - 1 := subV_id (by omega) (by omega)
    simp (maxSteps := 2000000) only [s38, ↓aw_region, ↓aw_skip, ↓aw_seq, ↓aw_block, ↓aw_exit, ↓aw_ret, ↓sops_nil, ↓sops_go, ↓dops_nil, ↓dopsX_nil, ↓dopsR_nil, ↓vdn, vup, extr_20, extr_21, extr_30, extr_31, extr_32, List.map_cons, List.map_nil, cond_true, cond_false, aop, aThen, aBlock, argEnv, ev, sput, sputO, binK, binI, unK, builtinK, pickK, Nat.reduceBEq, Nat.reduceAdd, Int.reduceBEq, Int.reduceBNe, Int.reduceLT, aPost, resK, tup, tyf, load1 hb2 shp_3, allocK, newPtr, zero_3, Am.storeI (get_new _ _) shp_3, setLast, load1 (get_new _ _) shp_3, hsub]
    refine hQ2 _ _ _ ⟨(s, hk2 ++ [Blk.cells [.int .i64 (((s : Nat) : Int) - 1)] 3 false], hk2.length, _), ⟨by simp only; omega, o2.up (Ext.app _ _ _), get_new _ _, ?_, hT2⟩, by simp only; omega, by simp (maxSteps := 2000000) only [↓aw_region, ↓aw_skip, ↓aw_seq, ↓aw_block, ↓aw_exit, ↓aw_ret, ↓sops_nil, ↓sops_go, ↓dops_nil, ↓dopsX_nil, ↓dopsR_nil, ↓vdn, vup, extr_20, extr_21, extr_30, extr_31, extr_32, List.map_cons, List.map_nil, cond_true, cond_false, aop, aThen, aBlock, argEnv, ev, sput, sputO, binK, binI, unK, builtinK, pickK, Nat.reduceBEq, Nat.reduceAdd, Int.reduceBEq, Int.reduceBNe, Int.reduceLT, aPost, resK, tup, tyf], rfl⟩
    have := get_lt hb2
    simp only; omega
end Go.Proofs.Tryd.Am
