/-
  ranks, plain: how many cycles of three a tournament has.
  ranks: slices of pairs: copies, whether a pair is in one.
  ranks: Turn.
  ranks: what the orders and the turned results are, plain.
  ranks: results turned, bit by bit; the law RanksFewer's plain part.
  ranks: the law RanksTriples.
-/
import Derived.Test.YtemmcfeekpblkaaDoorPk6
import Derived.Test.YtemmcfeekpblkaaDoorPk5
set_option linter.all false
namespace Tri
def S (n : Nat) (F : Nat → Nat) : Nat := ((List.range n).map F).sum
theorem S_succ (n : Nat) (F : Nat → Nat) : S (n + 1) F = S n F + F n := by simp [S, List.range_succ]
theorem S_congr {n : Nat} {F G : Nat → Nat} (h : ∀ i, i < n → F i = G i) : S n F = S n G := by
  induction n with
  | zero => rfl
  | succ n ih => rw [S_succ, S_succ, ih fun i hi => h i (by omega), h n (by omega)]
theorem S_add (n : Nat) (F G : Nat → Nat) : S n (fun i => F i + G i) = S n F + S n G := by
  induction n with
  | zero => rfl
  | succ n ih => rw [S_succ, S_succ, S_succ, ih]; omega
theorem S_zero (n : Nat) : S n (fun _ => 0) = 0 := by
  induction n with
  | zero => rfl
  | succ n ih => rw [S_succ, ih]
theorem S_mul (n k : Nat) (F : Nat → Nat) : S n (fun i => k * F i) = k * S n F := by
  induction n with
  | zero => rfl
  | succ n ih => rw [S_succ, S_succ, ih, Nat.mul_add]
theorem S_swap (n m : Nat) (F : Nat → Nat → Nat) : S n (fun i => S m fun j => F i j) = S m fun j => S n fun i => F i j := by
  induction n with
  | zero => exact (S_zero m).symm
  | succ n ih => rw [S_succ, ih, ← S_add]; exact S_congr fun j _ => (S_succ n _).symm
/-- Over all three. -/
def S3 (n : Nat) (F : Nat → Nat → Nat → Nat) : Nat := S n fun a => S n fun x => S n fun c => F a x c
theorem S3_congr {n : Nat} {F G : Nat → Nat → Nat → Nat} (h : ∀ a x c, a < n → x < n → c < n → F a x c = G a x c) : S3 n F = S3 n G :=
  S_congr fun a ha => S_congr fun x hx => S_congr fun c hc => h a x c ha hx hc
theorem S3_add (n : Nat) (F G : Nat → Nat → Nat → Nat) : S3 n (fun a x c => F a x c + G a x c) = S3 n F + S3 n G := by
  rw [S3, S3, S3, ← S_add]
  refine S_congr fun a _ => ?_
  rw [← S_add]
  exact S_congr fun x _ => S_add _ _ _
theorem S3_23 (n : Nat) (F : Nat → Nat → Nat → Nat) : S3 n (fun a x c => F a c x) = S3 n F := S_congr fun a _ => S_swap _ _ _
theorem S3_12 (n : Nat) (F : Nat → Nat → Nat → Nat) : S3 n (fun a x c => F x a c) = S3 n F := S_swap _ _ _
theorem S3_rot (n : Nat) (F : Nat → Nat → Nat → Nat) : S3 n (fun a x c => F x c a) = S3 n F :=
  (S3_12 n fun p q r => F p r q).trans (S3_23 n F)
def B (p : Bool) : Nat := if p then 1 else 0
section
variable {n : Nat} {b : Nat → Nat → Bool} (ht : ∀ i j, i < n → j < n → i ≠ j → b i j = !b j i) (hi : ∀ i, i < n → b i i = false)
include ht hi
theorem f_cyc (h8 : n ≤ 8) : 2 * S3 n (fun a x c => B (b a x && b x c && b c a)) + 3 * S3 n (fun a x c => B (b a x && b a c && decide (x ≠ c))) = n * (n - 1) * (n - 2) := by
  have hN : ∀ n, n ≤ 8 → S3 n (fun a x c => B (decide (a ≠ x) && decide (x ≠ c) && decide (a ≠ c))) = n * (n - 1) * (n - 2) := by decide +kernel
  rw [← hN n h8]
  have e1 := S3_23 n fun a x c => B (b a x && b x c && b c a)
  have e2 := S3_12 n fun a x c => B (b a x && b a c && decide (x ≠ c))
  have e3 := S3_rot n fun a x c => B (b a x && b a c && decide (x ≠ c))
  have e4 := S3_rot n fun a x c => B (b x c && b x a && decide (c ≠ a))
  have key : S3 n (fun a x c => B (decide (a ≠ x) && decide (x ≠ c) && decide (a ≠ c))) = S3 n (fun a x c => B (b a x && b x c && b c a) + (B (b a c && b c x && b x a) + (B (b a x && b a c && decide (x ≠ c)) + (B (b x a && b x c && decide (a ≠ c)) + B (b c a && b c x && decide (a ≠ x)))))) := by
    refine S3_congr fun a x c ha hx hc => ?_
    by_cases h1 : a = x
    · subst h1
      by_cases h2 : a = c
      · subst h2; simp [hi a ha, B]
      · have := ht a c ha hc h2; cases h : b a c <;> cases g : b c a <;> simp_all [B]
    · by_cases h2 : x = c
      · subst h2
        have := ht a x ha hx h1; cases h : b a x <;> cases g : b x a <;> simp_all [B]
      · by_cases h3 : a = c
        · subst h3; simp [hi a ha, B, h1, h2]
        · have g1 := ht a x ha hx h1
          have g2 := ht x c hx hc h2
          have g3 := ht a c ha hc h3
          rw [g1, g2, g3]
          simp only [h1, h2, h3, B, ne_eq, not_false_eq_true, decide_true, Bool.and_true]
          cases b x a <;> cases b c x <;> cases b c a <;> rfl
  rw [key, S3_add, S3_add, S3_add, S3_add]
  have e5 : S3 n (fun a x c => B (b c a && b c x && decide (a ≠ x))) = S3 n (fun a x c => B (b a x && b a c && decide (x ≠ c))) := by
    rw [← S3_rot n fun a x c => B (b a x && b a c && decide (x ≠ c)), ← S3_rot n fun a x c => B (b x c && b x a && decide (c ≠ a))]
  rw [e1, e2, e5]; omega
/-- Each cycle once. -/
def lowest (b : Nat → Nat → Bool) (a x c : Nat) : Nat := B (decide (a < x) && decide (a < c) && (b a x && b x c && b c a))
theorem f_low : S3 n (fun a x c => B (b a x && b x c && b c a)) = 3 * S3 n (lowest b) := by
  have e1 := S3_rot n (lowest b)
  have e2 := S3_rot n fun a x c => lowest b x c a
  have key : S3 n (fun a x c => B (b a x && b x c && b c a)) = S3 n (fun a x c => lowest b a x c + (lowest b x c a + lowest b c a x)) := by
    refine S3_congr fun a x c ha hx hc => ?_
    have hf : (b x c && b c a && b a x) = (b a x && b x c && b c a) := by cases b a x <;> cases b x c <;> cases b c a <;> rfl
    have hg : (b c a && b a x && b x c) = (b a x && b x c && b c a) := by cases b a x <;> cases b x c <;> cases b c a <;> rfl
    rw [lowest, lowest, lowest, hf, hg]
    cases h : b a x && b x c && b c a with
    | false => simp [B]
    | true =>
      have h1 : a ≠ x := by rintro rfl; simp [hi a ha] at h
      have h2 : x ≠ c := by rintro rfl; simp [hi x hx] at h
      have h3 : c ≠ a := by rintro rfl; simp [hi c hc] at h
      simp only [Bool.and_true, B]
      rcases Nat.lt_or_gt_of_ne h1 with q1 | q1 <;> rcases Nat.lt_or_gt_of_ne h2 with q2 | q2 <;> rcases Nat.lt_or_gt_of_ne h3 with q3 | q3 <;> first | omega | simp [q1, q2, q3, Nat.lt_asymm q1, Nat.lt_asymm q2, Nat.lt_asymm q3]
  rw [key, S3_add, S3_add]
  have e3 : S3 n (fun a x c => lowest b c a x) = S3 n (lowest b) := by rw [← e1, ← e2]
  rw [e1, e3]; omega
omit ht hi in
theorem f_scr : S3 n (fun a x c => B (b a x && b a c && decide (x ≠ c))) + S n (fun a => S n fun x => B (b a x)) = S n fun a => S n (fun x => B (b a x)) * S n fun x => B (b a x) := by
  rw [S3, ← S_add]
  refine S_congr fun a _ => ?_
  rw [← S_add, ← S_mul]
  refine S_congr fun x hx => ?_
  rw [Nat.mul_comm, ← S_mul]
  have hd : ∀ m, x < m → S m (fun c => B (decide (x = c))) = 1 := fun m hm => by
    induction m with
    | zero => omega
    | succ m ih =>
      rw [S_succ]
      by_cases hx : x < m
      · rw [ih hx, decide_eq_false (by omega)]; rfl
      · obtain rfl : x = m := by omega
        have : S x (fun c => B (decide (x = c))) = 0 := by
          rw [← S_zero x]; exact S_congr fun c hc => by rw [decide_eq_false (by omega)]; rfl
        rw [this, decide_eq_true rfl]; rfl
  have e : B (b a x) = S n fun c => B (b a x) * B (decide (x = c)) := by rw [S_mul, hd n hx, Nat.mul_one]
  conv => lhs; rw [e]
  rw [← S_add]
  refine S_congr fun c _ => ?_
  by_cases hc : x = c
  · subst hc; cases b a x <;> simp [B]
  · cases b a x <;> cases b a c <;> simp [B, hc]
omit ht hi in
theorem S_len (F : Nat → List (Nat × Nat × Nat)) : ((List.range n).flatMap F).length = S n fun a => (F a).length := by rw [List.length_flatMap, S]
omit ht hi in
theorem S_fil (p : Nat → Bool) (F : Nat → List (Nat × Nat × Nat)) : (((List.range n).filter p).flatMap F).length = S n fun a => if p a = true then (F a).length else 0 := by
  have e : (fun a => if p a = true then (F a).length else 0) = fun a => (if p a = true then F a else []).length := funext fun a => by split <;> rfl
  rw [e, ← S_len]
  · congr 1
    generalize List.range n = l
    induction l with
    | nil => rfl
    | cons a l ih =>
      rw [List.filter_cons]
      split <;> rename_i h <;> simp [h, ih]
omit ht hi in
theorem cyc_len : (Clr.cycles n b).length = S3 n (lowest b) := by
  rw [Clr.cycles, S_len]
  refine S_congr fun a _ => ?_
  rw [S_fil]
  refine S_congr fun x _ => ?_
  rw [S_fil]
  cases h1 : b a x with
  | false =>
    rw [if_neg (by decide), ← S_zero n]
    exact S_congr fun c _ => by simp [lowest, h1, B]
  | true =>
    rw [if_pos rfl]
    refine S_congr fun c _ => ?_
    cases h2 : b x c <;> cases h3 : b c a <;> by_cases h4 : a < x <;> by_cases h5 : a < c <;> simp [lowest, h1, h2, h3, h4, h5, B]
theorem cycles_count (h8 : n ≤ 8) : 6 * (Clr.cycles n b).length + 3 * (S n fun a => S n (fun x => B (b a x)) * S n (fun x => B (b a x)) - S n fun x => B (b a x)) = n * (n - 1) * (n - 2) := by
  rw [cyc_len]
  have h1 := f_cyc ht hi h8
  have h2 := f_low ht hi
  have h3 := f_scr (n := n) (b := b)
  have h4 : S n (fun a => S n (fun x => B (b a x)) * S n (fun x => B (b a x)) - S n fun x => B (b a x)) + S n (fun a => S n fun x => B (b a x)) = S n fun a => S n (fun x => B (b a x)) * S n fun x => B (b a x) := by
    rw [← S_add]
    refine S_congr fun a _ => Nat.sub_add_cancel ?_
    generalize S n (fun x => B (b a x)) = s
    cases s with
    | zero => exact Nat.le_refl _
    | succ s => exact Nat.le_mul_of_pos_left _ (by omega)
  omega
end
end Tri

namespace Go.Proofs.Tryd.Am
open Go.Am
set_option maxRecDepth 100000
set_option maxHeartbeats 1000000

end Go.Proofs.Tryd.Am

namespace Go.Proofs.Tryd.Am
open Go.Am
set_option maxRecDepth 100000
set_option maxHeartbeats 1000000

/-- A result turned in a player's set. -/
def xI (a : Int) (m : Nat) : Int := ((a.toNat ^^^ 2 ^ m : Nat) : Int)
def half (t : List Int) (i j : Nat) : List Int := t.set i (xI (t.getD i 0) j)
section
variable {h : Heap} {t e : TypeId} {b o n c k : Nat} {xs : List Int} {ro : Bool}
end
end Go.Proofs.Tryd.Am

namespace Go.Proofs.Tryd.Am
open Go.Am Rb
set_option maxRecDepth 100000
set_option maxHeartbeats 1000000

abbrev nl (os : List Int) : List Nat := os.map Int.toNat
end Go.Proofs.Tryd.Am

namespace Go.Proofs.Tryd.Am
open Go.Am Rb
set_option maxRecDepth 100000
set_option maxHeartbeats 1000000

def hit (i j x y : Nat) : Bool := decide (x = i ∧ y = j) ^^ decide (x = j ∧ y = i)
theorem trn_iff {xs : List Int} : trn xs = true ↔ (1 ≤ xs.length ∧ xs.length ≤ 8) ∧ ∀ i, i < xs.length → 0 ≤ xs.getD i 0 ∧ xs.getD i 0 < 2 ^ xs.length ∧ bb xs i i = false ∧ ∀ j, j < i → bb xs i j ≠ bb xs j i := by
  simp only [trn, okAt, Bool.and_eq_true, decide_eq_true_eq, List.all_eq_true, List.mem_range, Bool.not_eq_true', bne_iff_ne, bb, and_assoc]
end Go.Proofs.Tryd.Am

namespace Go.Proofs.Tryd.Am
open Go.Am Rb
set_option maxRecDepth 100000
set_option maxHeartbeats 1000000

def pS (L : List Nat) : Nat := (L.map fun x => x * (x - 1) / 2).sum
theorem pS_perm {a b : List Nat} (h : a.Perm b) : pS a = pS b := (h.map _).sum_nat
theorem pS_snoc {L : List Nat} {i : Nat} (hi : i < L.length) : pS (L.take (i + 1)) = pS (L.take i) + L.getD i 0 * (L.getD i 0 - 1) / 2 := by
  have e : L.take (i + 1) = L.take i ++ [L.getD i 0] := by rw [List.take_add_one, List.getD, List.getElem?_eq_getElem hi]; rfl
  rw [e, pS, List.map_append, List.sum_append]; simp [pS]
theorem pS_le {L : List Nat} (i : Nat) : pS (L.take i) ≤ pS L := by
  conv => rhs; rw [← List.take_append_drop i L]
  rw [pS, pS, List.map_append, List.sum_append]; omega
theorem pair_v : ∀ x : Nat, x ≤ 64 → quoV .i64 (mulV .i64 (x : Int) (subV .i64 (x : Int) 1)) 2 = ((x * (x - 1) / 2 : Nat) : Int) := by decide +kernel
theorem trip_v : ∀ n : Nat, n ≤ 8 → quoV .i64 (mulV .i64 (mulV .i64 (n : Int) (subV .i64 (n : Int) 1)) (subV .i64 (n : Int) 2)) 6 = ((n * (n - 1) * (n - 2) / 6 : Nat) : Int) := by decide +kernel
theorem scr_S {xs : List Int} (h : trn xs = true) {a : Nat} (ha : a < xs.length) : Tri.S xs.length (fun x => Tri.B (bb xs a x)) = scr (xs.getD a 0) := by
  rw [scr, bits_bb h ha, Tri.S]
  generalize List.range xs.length = l
  induction l with
  | nil => rfl
  | cons a l ih =>
    rw [List.map_cons, List.sum_cons, ih, List.filter_cons]
    split <;> rename_i hb <;> simp [Tri.B, hb]; omega
theorem S_scL {xs : List Int} (F : Nat → Nat) : Tri.S xs.length (fun a => F (scr (xs.getD a 0))) = ((scL xs).map F).sum := by
  have e : (List.range xs.length).map (fun a => F (scr (xs.getD a 0))) = (scL xs).map F := by
    apply List.ext_getElem (by simp [scL])
    intro i h1 h2
    have hi : i < xs.length := by simpa using h1
    simp [scL, List.getD, List.getElem?_eq_getElem hi]
  rw [Tri.S, e]
theorem triples_plain {xs : List Int} (h : trn xs = true) : (cA xs xs.length).length + pS (scL xs) = xs.length * (xs.length - 1) * (xs.length - 2) / 6 := by
  have hl := trn_len h
  obtain ⟨_, h2⟩ := trn_iff.1 h
  have ht : ∀ i j, i < xs.length → j < xs.length → i ≠ j → bb xs i j = !bb xs j i := fun i j hi hj hne => by
    rcases Nat.lt_or_gt_of_ne hne with g | g
    · have := (h2 j hj).2.2.2 i g
      cases hx : bb xs i j <;> cases hy : bb xs j i <;> simp_all
    · have := (h2 i hi).2.2.2 j g
      cases hx : bb xs i j <;> cases hy : bb xs j i <;> simp_all
  have hc := Tri.cycles_count ht (fun i hi => (h2 i hi).2.2.1) hl.2
  rw [cA_all h, List.length_map]
  have e : Tri.S xs.length (fun a => Tri.S xs.length (fun x => Tri.B (bb xs a x)) * Tri.S xs.length (fun x => Tri.B (bb xs a x)) - Tri.S xs.length fun x => Tri.B (bb xs a x)) = 2 * pS (scL xs) := by
    rw [pS, ← S_scL (xs := xs) fun x => x * (x - 1) / 2, ← Tri.S_mul]
    refine Tri.S_congr fun a ha => ?_
    rw [scr_S h ha]
    have : ∀ x : Nat, x ≤ 64 → x * x - x = 2 * (x * (x - 1) / 2) := by decide +kernel
    exact this _ (scr_le _)
  rw [e] at hc
  omega

theorem s12_callW [Tabs Tryd.prog] {args : List Value} {h : Heap} {Q : Value → Heap → Prop} (hsz : args.length ≤ 70) (hk : AWS Tryd.prog 70 s12 (aPost Tryd.prog [.tmp 2] Q) (argEnv 0 args) h) : ACall Tryd.prog 12 args h Q :=
  acall_w Tryd.func12 rfl (enters_of Tryd.func12 (by kernel_rfl) rfl) rfl rfl (by decide) s12_strip s12_ok hsz hk
theorem trn_take12 {xs : List Int} (h : trn xs = true) : xs.take 11 = xs :=
  List.take_of_length_le (by have := trn_len h; omega)
theorem law_triples [BitTab prog 1] {h : Heap} {v : Value} {xs : List Int} (hv : IntSl h v xs) (hl : xs.length < 9223372036854775808) (hx : ∀ x ∈ xs, -9223372036854775808 ≤ x ∧ x < 9223372036854775808) :
    ACall prog 12 [v] h fun r _ => r = .bool true := by
  have awk : ∀ {K : Value → Heap → Prop} {g : Heap}, (∀ g', Ext (fun _ => False) g g' → K (.bool true) g') → ACall prog 21 [] g K := fun {K g} hk => awake_call.mono fun v h' ⟨h1, h2⟩ => by rw [h1]; exact hk _ h2
  have rng11 : ∀ {ys : List Int}, (∀ x ∈ ys, -9223372036854775808 ≤ x ∧ x < 9223372036854775808) → ∀ x ∈ ys.take 11, -9223372036854775808 ≤ x ∧ x < 9223372036854775808 := fun h x hm => h x (List.take_subset _ _ hm)
  have len11 : ∀ {ys : List Int}, (ys.take 11).length < 9223372036854775808 := by intro ys; simp; omega
  have e22 : ((2 : Int) == 2) = true := rfl
  have n20 : ((2 : Int) != 0) = true := rfl
  have n00 : ((0 : Int) != 0) = false := rfl
  have e0 : ((0 : Int) == 0) = true := rfl
  refine s12_callW (by simp) ?_
  simp only [s12]
  refine aws_cut fun N1 hN1 => ?_
  simp (maxSteps := 2000000) only [s12, ↓aw_region, ↓aw_skip, ↓aw_seq, ↓aw_block, ↓aw_exit, ↓aw_ret, ↓sops_nil, ↓sops_go, ↓dops_nil, ↓dopsX_nil, ↓dopsR_nil, ↓vdn, vup, extr_20, extr_21, extr_30, extr_31, extr_32, List.map_cons, List.map_nil, cond_true, cond_false, aop, aThen, aBlock, argEnv, ev, sput, sputO, binK, binI, unK, builtinK, pickK, Nat.reduceBEq, Nat.reduceAdd, Int.reduceBEq, Int.reduceBNe, Int.reduceLT, aPost, resK, tup, tyf]
  refine hN1 [(0, v), (2, .bool false)] _ _ ?_ (by simp (maxSteps := 2000000) only [↓aw_region, ↓aw_skip, ↓aw_seq, ↓aw_block, ↓aw_exit, ↓aw_ret, ↓sops_nil, ↓sops_go, ↓dops_nil, ↓dopsX_nil, ↓dopsR_nil, ↓vdn, vup, extr_20, extr_21, extr_30, extr_31, extr_32, List.map_cons, List.map_nil, cond_true, cond_false, aop, aThen, aBlock, argEnv, ev, sput, sputO, binK, binI, unK, builtinK, pickK, Nat.reduceBEq, Nat.reduceAdd, Int.reduceBEq, Int.reduceBNe, Int.reduceLT, aPost, resK, tup, tyf])
  clear hN1
  try clear N1
  refine aws_cut fun N2 hN2 => ?_
  simp (maxSteps := 2000000) only [s12, ↓aw_region, ↓aw_skip, ↓aw_seq, ↓aw_block, ↓aw_exit, ↓aw_ret, ↓sops_nil, ↓sops_go, ↓dops_nil, ↓dopsX_nil, ↓dopsR_nil, ↓vdn, vup, extr_20, extr_21, extr_30, extr_31, extr_32, List.map_cons, List.map_nil, cond_true, cond_false, aop, aThen, aBlock, argEnv, ev, sput, sputO, binK, binI, unK, builtinK, pickK, Nat.reduceBEq, Nat.reduceAdd, Int.reduceBEq, Int.reduceBNe, Int.reduceLT, aPost, resK, tup, tyf, callK, List.nil_append, List.append_nil, List.toList_toArray, List.cons_append]
  refine (list_call hv hl).mono ?_
  rintro l1 _ ⟨hl1, g1, rfl⟩
  refine (cycles30_call hl1 len11 (rng11 hx)).mono ?_
  rintro r1 h1 ⟨hE1, hr1⟩
  have hv1 := IntSl_ext (hv.grow g1) hE1
  clear hl1 hE1
  cases ht : trn xs with
  | false =>
    rw [trn_take, ht, if_neg (by decide)] at hr1
    subst hr1
    simp (maxSteps := 2000000) only [s12, ↓aw_region, ↓aw_skip, ↓aw_seq, ↓aw_block, ↓aw_exit, ↓aw_ret, ↓sops_nil, ↓sops_go, ↓dops_nil, ↓dopsX_nil, ↓dopsR_nil, ↓vdn, vup, extr_20, extr_21, extr_30, extr_31, extr_32, List.map_cons, List.map_nil, cond_true, cond_false, aop, aThen, aBlock, argEnv, ev, sput, sputO, binK, binI, unK, builtinK, pickK, Nat.reduceBEq, Nat.reduceAdd, Int.reduceBEq, Int.reduceBNe, Int.reduceLT, aPost, resK, tup, tyf]
    refine hN2 [(0, v), (2, .bool false), (3, .slice none 0 0), (4, .int .i64 2)] _ _ ?_ (by simp (maxSteps := 2000000) only [↓aw_region, ↓aw_skip, ↓aw_seq, ↓aw_block, ↓aw_exit, ↓aw_ret, ↓sops_nil, ↓sops_go, ↓dops_nil, ↓dopsX_nil, ↓dopsR_nil, ↓vdn, vup, extr_20, extr_21, extr_30, extr_31, extr_32, List.map_cons, List.map_nil, cond_true, cond_false, aop, aThen, aBlock, argEnv, ev, sput, sputO, binK, binI, unK, builtinK, pickK, Nat.reduceBEq, Nat.reduceAdd, Int.reduceBEq, Int.reduceBNe, Int.reduceLT, aPost, resK, tup, tyf])
    clear hN2
    try clear N2
    refine aws_cut fun N3 hN3 => ?_
    simp (maxSteps := 2000000) only [s12, ↓aw_region, ↓aw_skip, ↓aw_seq, ↓aw_block, ↓aw_exit, ↓aw_ret, ↓sops_nil, ↓sops_go, ↓dops_nil, ↓dopsX_nil, ↓dopsR_nil, ↓vdn, vup, extr_20, extr_21, extr_30, extr_31, extr_32, List.map_cons, List.map_nil, cond_true, cond_false, aop, aThen, aBlock, argEnv, ev, sput, sputO, binK, binI, unK, builtinK, pickK, Nat.reduceBEq, Nat.reduceAdd, Int.reduceBEq, Int.reduceBNe, Int.reduceLT, aPost, resK, tup, tyf, callK, List.nil_append, List.append_nil, List.toList_toArray, List.cons_append]
    refine (list_call hv1 hl).mono ?_
    rintro l2 _ ⟨hl2, g2, rfl⟩
    refine (scores_call hl2 len11 (rng11 hx)).mono ?_
    rintro r2 h2 ⟨hE2, hr2⟩
    rw [trn_take, ht, if_neg (by decide)] at hr2
    subst hr2
    simp (maxSteps := 2000000) only [s12, ↓aw_region, ↓aw_skip, ↓aw_seq, ↓aw_block, ↓aw_exit, ↓aw_ret, ↓sops_nil, ↓sops_go, ↓dops_nil, ↓dopsX_nil, ↓dopsR_nil, ↓vdn, vup, extr_20, extr_21, extr_30, extr_31, extr_32, List.map_cons, List.map_nil, cond_true, cond_false, aop, aThen, aBlock, argEnv, ev, sput, sputO, binK, binI, unK, builtinK, pickK, Nat.reduceBEq, Nat.reduceAdd, Int.reduceBEq, Int.reduceBNe, Int.reduceLT, aPost, resK, tup, tyf]
    refine hN3 [(0, v), (2, .bool false), (3, .slice none 0 0), (4, .int .i64 2), (5, .slice none 0 0), (6, .int .i64 2)] _ _ ?_ (by simp (maxSteps := 2000000) only [↓aw_region, ↓aw_skip, ↓aw_seq, ↓aw_block, ↓aw_exit, ↓aw_ret, ↓sops_nil, ↓sops_go, ↓dops_nil, ↓dopsX_nil, ↓dopsR_nil, ↓vdn, vup, extr_20, extr_21, extr_30, extr_31, extr_32, List.map_cons, List.map_nil, cond_true, cond_false, aop, aThen, aBlock, argEnv, ev, sput, sputO, binK, binI, unK, builtinK, pickK, Nat.reduceBEq, Nat.reduceAdd, Int.reduceBEq, Int.reduceBNe, Int.reduceLT, aPost, resK, tup, tyf])
    clear hN3
    try clear N3
    refine aws_cut fun N4 hN4 => ?_
    simp (maxSteps := 2000000) only [s12, ↓aw_region, ↓aw_skip, ↓aw_seq, ↓aw_block, ↓aw_exit, ↓aw_ret, ↓sops_nil, ↓sops_go, ↓dops_nil, ↓dopsX_nil, ↓dopsR_nil, ↓vdn, vup, extr_20, extr_21, extr_30, extr_31, extr_32, List.map_cons, List.map_nil, cond_true, cond_false, aop, aThen, aBlock, argEnv, ev, sput, sputO, binK, binI, unK, builtinK, pickK, Nat.reduceBEq, Nat.reduceAdd, Int.reduceBEq, Int.reduceBNe, Int.reduceLT, aPost, resK, tup, tyf, callK, List.nil_append, List.append_nil, List.toList_toArray, List.cons_append, n20, e22]
    refine awk fun g _ => ?_
    simp (maxSteps := 2000000) only [s12, ↓aw_region, ↓aw_skip, ↓aw_seq, ↓aw_block, ↓aw_exit, ↓aw_ret, ↓sops_nil, ↓sops_go, ↓dops_nil, ↓dopsX_nil, ↓dopsR_nil, ↓vdn, vup, extr_20, extr_21, extr_30, extr_31, extr_32, List.map_cons, List.map_nil, cond_true, cond_false, aop, aThen, aBlock, argEnv, ev, sput, sputO, binK, binI, unK, builtinK, pickK, Nat.reduceBEq, Nat.reduceAdd, Int.reduceBEq, Int.reduceBNe, Int.reduceLT, aPost, resK, tup, tyf]
  | true =>
    have hxl := trn_len ht
    rw [trn_take12 ht, ht, if_pos rfl] at hr1
    obtain ⟨u, rfl, hu⟩ := hr1
    simp (maxSteps := 2000000) only [s12, ↓aw_region, ↓aw_skip, ↓aw_seq, ↓aw_block, ↓aw_exit, ↓aw_ret, ↓sops_nil, ↓sops_go, ↓dops_nil, ↓dopsX_nil, ↓dopsR_nil, ↓vdn, vup, extr_20, extr_21, extr_30, extr_31, extr_32, List.map_cons, List.map_nil, cond_true, cond_false, aop, aThen, aBlock, argEnv, ev, sput, sputO, binK, binI, unK, builtinK, pickK, Nat.reduceBEq, Nat.reduceAdd, Int.reduceBEq, Int.reduceBNe, Int.reduceLT, aPost, resK, tup, tyf]
    refine hN2 [(0, v), (2, .bool false), (3, u), (4, .int .i64 0)] _ _ ?_ (by simp (maxSteps := 2000000) only [↓aw_region, ↓aw_skip, ↓aw_seq, ↓aw_block, ↓aw_exit, ↓aw_ret, ↓sops_nil, ↓sops_go, ↓dops_nil, ↓dopsX_nil, ↓dopsR_nil, ↓vdn, vup, extr_20, extr_21, extr_30, extr_31, extr_32, List.map_cons, List.map_nil, cond_true, cond_false, aop, aThen, aBlock, argEnv, ev, sput, sputO, binK, binI, unK, builtinK, pickK, Nat.reduceBEq, Nat.reduceAdd, Int.reduceBEq, Int.reduceBNe, Int.reduceLT, aPost, resK, tup, tyf])
    clear hN2
    try clear N2
    refine aws_cut fun N5 hN5 => ?_
    simp (maxSteps := 2000000) only [s12, ↓aw_region, ↓aw_skip, ↓aw_seq, ↓aw_block, ↓aw_exit, ↓aw_ret, ↓sops_nil, ↓sops_go, ↓dops_nil, ↓dopsX_nil, ↓dopsR_nil, ↓vdn, vup, extr_20, extr_21, extr_30, extr_31, extr_32, List.map_cons, List.map_nil, cond_true, cond_false, aop, aThen, aBlock, argEnv, ev, sput, sputO, binK, binI, unK, builtinK, pickK, Nat.reduceBEq, Nat.reduceAdd, Int.reduceBEq, Int.reduceBNe, Int.reduceLT, aPost, resK, tup, tyf, callK, List.nil_append, List.append_nil, List.toList_toArray, List.cons_append]
    refine (list_call hv1 hl).mono ?_
    rintro l2 _ ⟨hl2, g2, rfl⟩
    rw [trn_take12 ht] at hl2
    refine (scores_call hl2 hl hx).mono ?_
    rintro r2 h2 ⟨hE2, hr2⟩
    rw [if_pos ht] at hr2
    obtain ⟨w, rfl, hw⟩ := hr2
    have hv2 := IntSl_ext (hv1.grow g2) hE2
    have hu2 := (hu.trip.ext (Ext.app (fun _ => False) _ g2)).ext hE2
    have hw2 := hw.int
    have hplain := triples_plain ht
    have hsl : (rising (scL xs)).length = xs.length := by rw [rising_len]; simp [scL]
    have hsm : ∀ x ∈ rising (scL xs), x ≤ 64 := fun x hm => by
      obtain ⟨y, _, rfl⟩ := List.mem_map.1 ((rising_perm _).mem_iff.1 hm)
      exact scr_le y
    rw [← pS_perm (rising_perm (scL xs))] at hplain
    clear hl2 hE2 hw hu
    generalize rising (scL xs) = L at *
    generalize hcl : (cA xs xs.length).length = c at *
    simp (maxSteps := 2000000) only [s12, ↓aw_region, ↓aw_skip, ↓aw_seq, ↓aw_block, ↓aw_exit, ↓aw_ret, ↓sops_nil, ↓sops_go, ↓dops_nil, ↓dopsX_nil, ↓dopsR_nil, ↓vdn, vup, extr_20, extr_21, extr_30, extr_31, extr_32, List.map_cons, List.map_nil, cond_true, cond_false, aop, aThen, aBlock, argEnv, ev, sput, sputO, binK, binI, unK, builtinK, pickK, Nat.reduceBEq, Nat.reduceAdd, Int.reduceBEq, Int.reduceBNe, Int.reduceLT, aPost, resK, tup, tyf]
    refine hN5 [(0, v), (2, .bool false), (3, u), (4, .int .i64 0), (5, w), (6, .int .i64 0)] _ _ ?_ (by simp (maxSteps := 2000000) only [↓aw_region, ↓aw_skip, ↓aw_seq, ↓aw_block, ↓aw_exit, ↓aw_ret, ↓sops_nil, ↓sops_go, ↓dops_nil, ↓dopsX_nil, ↓dopsR_nil, ↓vdn, vup, extr_20, extr_21, extr_30, extr_31, extr_32, List.map_cons, List.map_nil, cond_true, cond_false, aop, aThen, aBlock, argEnv, ev, sput, sputO, binK, binI, unK, builtinK, pickK, Nat.reduceBEq, Nat.reduceAdd, Int.reduceBEq, Int.reduceBNe, Int.reduceLT, aPost, resK, tup, tyf])
    clear hN5
    try clear N5
    refine aws_cut fun N6 hN6 => ?_
    simp (maxSteps := 2000000) only [s12, ↓aw_region, ↓aw_skip, ↓aw_seq, ↓aw_block, ↓aw_exit, ↓aw_ret, ↓sops_nil, ↓sops_go, ↓dops_nil, ↓dopsX_nil, ↓dopsR_nil, ↓vdn, vup, extr_20, extr_21, extr_30, extr_31, extr_32, List.map_cons, List.map_nil, cond_true, cond_false, aop, aThen, aBlock, argEnv, ev, sput, sputO, binK, binI, unK, builtinK, pickK, Nat.reduceBEq, Nat.reduceAdd, Int.reduceBEq, Int.reduceBNe, Int.reduceLT, aPost, resK, tup, tyf, n00]
    refine hN6 [(0, v), (2, .bool false), (3, u), (4, .int .i64 0), (5, w), (6, .int .i64 0)] _ _ ?_ (by simp (maxSteps := 2000000) only [↓aw_region, ↓aw_skip, ↓aw_seq, ↓aw_block, ↓aw_exit, ↓aw_ret, ↓sops_nil, ↓sops_go, ↓dops_nil, ↓dopsX_nil, ↓dopsR_nil, ↓vdn, vup, extr_20, extr_21, extr_30, extr_31, extr_32, List.map_cons, List.map_nil, cond_true, cond_false, aop, aThen, aBlock, argEnv, ev, sput, sputO, binK, binI, unK, builtinK, pickK, Nat.reduceBEq, Nat.reduceAdd, Int.reduceBEq, Int.reduceBNe, Int.reduceLT, aPost, resK, tup, tyf])
    clear hN6
    try clear N6
    refine aws_cut fun N7 hN7 => ?_
    simp (maxSteps := 2000000) only [s12, ↓aw_region, ↓aw_skip, ↓aw_seq, ↓aw_block, ↓aw_exit, ↓aw_ret, ↓sops_nil, ↓sops_go, ↓dops_nil, ↓dopsX_nil, ↓dopsR_nil, ↓vdn, vup, extr_20, extr_21, extr_30, extr_31, extr_32, List.map_cons, List.map_nil, cond_true, cond_false, aop, aThen, aBlock, argEnv, ev, sput, sputO, binK, binI, unK, builtinK, pickK, Nat.reduceBEq, Nat.reduceAdd, Int.reduceBEq, Int.reduceBNe, Int.reduceLT, aPost, resK, tup, tyf, hv2.len]
    refine hN7 [(0, v), (2, .bool false), (3, u), (4, .int .i64 0), (5, w), (6, .int .i64 0), (7, vint xs.length)] _ _ ?_ (by simp (maxSteps := 2000000) only [↓aw_region, ↓aw_skip, ↓aw_seq, ↓aw_block, ↓aw_exit, ↓aw_ret, ↓sops_nil, ↓sops_go, ↓dops_nil, ↓dopsX_nil, ↓dopsR_nil, ↓vdn, vup, extr_20, extr_21, extr_30, extr_31, extr_32, List.map_cons, List.map_nil, cond_true, cond_false, aop, aThen, aBlock, argEnv, ev, sput, sputO, binK, binI, unK, builtinK, pickK, Nat.reduceBEq, Nat.reduceAdd, Int.reduceBEq, Int.reduceBNe, Int.reduceLT, aPost, resK, tup, tyf])
    clear hN7
    try clear N7
    have hb : xs.length * (xs.length - 1) * (xs.length - 2) / 6 ≤ 56 := by
      have : ∀ n : Nat, n ≤ 8 → n * (n - 1) * (n - 2) / 6 ≤ 56 := by decide
      exact this _ hxl.2
    have h60 : (6 : Int) ≠ 0 := by decide
    have h20 : (2 : Int) ≠ 0 := by decide
    have htv := trip_v _ hxl.2
    generalize hW : xs.length * (xs.length - 1) * (xs.length - 2) / 6 = W at *
    refine aws_cut fun N8 hN8 => ?_
    simp (maxSteps := 2000000) only [s12, ↓aw_region, ↓aw_skip, ↓aw_seq, ↓aw_block, ↓aw_exit, ↓aw_ret, ↓sops_nil, ↓sops_go, ↓dops_nil, ↓dopsX_nil, ↓dopsR_nil, ↓vdn, vup, extr_20, extr_21, extr_30, extr_31, extr_32, List.map_cons, List.map_nil, cond_true, cond_false, aop, aThen, aBlock, argEnv, ev, sput, sputO, binK, binI, unK, builtinK, pickK, Nat.reduceBEq, Nat.reduceAdd, Int.reduceBEq, Int.reduceBNe, Int.reduceLT, aPost, resK, tup, tyf, h60, ne_eq, not_false_eq_true, htv]
    refine hN8 [(0, v), (2, .bool false), (3, u), (4, .int .i64 0), (5, w), (6, .int .i64 0), (7, vint xs.length), (8, vint W)] _ _ ?_ (by simp (maxSteps := 2000000) only [↓aw_region, ↓aw_skip, ↓aw_seq, ↓aw_block, ↓aw_exit, ↓aw_ret, ↓sops_nil, ↓sops_go, ↓dops_nil, ↓dopsX_nil, ↓dopsR_nil, ↓vdn, vup, extr_20, extr_21, extr_30, extr_31, extr_32, List.map_cons, List.map_nil, cond_true, cond_false, aop, aThen, aBlock, argEnv, ev, sput, sputO, binK, binI, unK, builtinK, pickK, Nat.reduceBEq, Nat.reduceAdd, Int.reduceBEq, Int.reduceBNe, Int.reduceLT, aPost, resK, tup, tyf])
    clear hN8
    try clear N8
    refine aws_cut fun Z hZ => ?_
    simp (maxSteps := 2000000) only [s12, ↓aw_region, ↓aw_skip, ↓aw_seq, ↓aw_block, ↓aw_exit, ↓aw_ret, ↓sops_nil, ↓sops_go, ↓dops_nil, ↓dopsX_nil, ↓dopsR_nil, ↓vdn, vup, extr_20, extr_21, extr_30, extr_31, extr_32, List.map_cons, List.map_nil, cond_true, cond_false, aop, aThen, aBlock, argEnv, ev, sput, sputO, binK, binI, unK, builtinK, pickK, Nat.reduceBEq, Nat.reduceAdd, Int.reduceBEq, Int.reduceBNe, Int.reduceLT, aPost, resK, tup, tyf, hw2.len, iL_len, ↓aw_loop_eq]
    refine aws_hide fun Q hQ => ?_
    refine aw_loop (γ := Nat) (fun i => i ≤ L.length)
      (fun i => ([(0, v), (2, .bool false), (3, u), (4, .int .i64 0), (5, w), (6, .int .i64 0), (7, vint xs.length), (8, vint ((W : Int) - (pS (L.take i) : Nat))), (45, w), (46, vint L.length), (47, vint i)], h2)) (fun i => L.length - i) 0 (Nat.zero_le _) (by simp (maxSteps := 2000000) only [↓aw_region, ↓aw_skip, ↓aw_seq, ↓aw_block, ↓aw_exit, ↓aw_ret, ↓sops_nil, ↓sops_go, ↓dops_nil, ↓dopsX_nil, ↓dopsR_nil, ↓vdn, vup, extr_20, extr_21, extr_30, extr_31, extr_32, List.map_cons, List.map_nil, cond_true, cond_false, aop, aThen, aBlock, argEnv, ev, sput, sputO, binK, binI, unK, builtinK, pickK, Nat.reduceBEq, Nat.reduceAdd, Int.reduceBEq, Int.reduceBNe, Int.reduceLT, aPost, resK, tup, tyf, Int.natCast_zero, List.take_zero, pS, List.map_nil, List.sum_nil, Int.sub_zero]) rfl ?_
    intro j hj
    refine aw_hide fun Q2 hQ2 => ?_
    have hle := pS_le (L := L) j
    by_cases hjn : (j : Int) < L.length
    · have hj' : j < (iL L).length := by rw [iL_len]; omega
      have hjL : j < L.length := by omega
      have hx64 : L.getD j 0 ≤ 64 := hsm _ (by rw [List.getD, List.getElem?_eq_getElem hjL, Option.getD_some]; exact List.getElem_mem _)
      have hpv := pair_v _ hx64
      have hsn := pS_snoc hjL
      have hle2 := pS_le (L := L) (j + 1)
      have hsub : subV .i64 ((W : Int) - (pS (L.take j) : Nat)) ((L.getD j 0 * (L.getD j 0 - 1) / 2 : Nat) : Int) = (W : Int) - (pS (L.take (j + 1)) : Nat) := by
        rw [subV_id (by omega) (by omega)]; omega
      simp (maxSteps := 2000000) only [s12, ↓aw_region, ↓aw_skip, ↓aw_seq, ↓aw_block, ↓aw_exit, ↓aw_ret, ↓sops_nil, ↓sops_go, ↓dops_nil, ↓dopsX_nil, ↓dopsR_nil, ↓vdn, vup, extr_20, extr_21, extr_30, extr_31, extr_32, List.map_cons, List.map_nil, cond_true, cond_false, aop, aThen, aBlock, argEnv, ev, sput, sputO, binK, binI, unK, builtinK, pickK, Nat.reduceBEq, Nat.reduceAdd, Int.reduceBEq, Int.reduceBNe, Int.reduceLT, aPost, resK, tup, tyf, l12_0, hjn, hw2.idx el_22 esz_3 hj', hw2.load shp_3 hj', iL_get, h20, ne_eq, not_false_eq_true, hpv, hsub, add1 (show j < 9223372036854775807 by omega)]
      exact hQ2 _ _ _ ⟨j + 1, by omega, by omega, by simp (maxSteps := 2000000) only [↓aw_region, ↓aw_skip, ↓aw_seq, ↓aw_block, ↓aw_exit, ↓aw_ret, ↓sops_nil, ↓sops_go, ↓dops_nil, ↓dopsX_nil, ↓dopsR_nil, ↓vdn, vup, extr_20, extr_21, extr_30, extr_31, extr_32, List.map_cons, List.map_nil, cond_true, cond_false, aop, aThen, aBlock, argEnv, ev, sput, sputO, binK, binI, unK, builtinK, pickK, Nat.reduceBEq, Nat.reduceAdd, Int.reduceBEq, Int.reduceBNe, Int.reduceLT, aPost, resK, tup, tyf], rfl⟩
    · obtain rfl : j = L.length := by omega
      have hfin : ((c : Nat) : Int) = (W : Int) - ((pS L : Nat) : Int) := by omega
      simp (maxSteps := 2000000) only [s12, ↓aw_region, ↓aw_skip, ↓aw_seq, ↓aw_block, ↓aw_exit, ↓aw_ret, ↓sops_nil, ↓sops_go, ↓dops_nil, ↓dopsX_nil, ↓dopsR_nil, ↓vdn, vup, extr_20, extr_21, extr_30, extr_31, extr_32, List.map_cons, List.map_nil, cond_true, cond_false, aop, aThen, aBlock, argEnv, ev, sput, sputO, binK, binI, unK, builtinK, pickK, Nat.reduceBEq, Nat.reduceAdd, Int.reduceBEq, Int.reduceBNe, Int.reduceLT, aPost, resK, tup, tyf, l12_0, Int.lt_irrefl]
      refine hQ2 _ _ _ (hQ _ _ _ ?_)
      simp (maxSteps := 2000000) only [s12, ↓aw_region, ↓aw_skip, ↓aw_seq, ↓aw_block, ↓aw_exit, ↓aw_ret, ↓sops_nil, ↓sops_go, ↓dops_nil, ↓dopsX_nil, ↓dopsR_nil, ↓vdn, vup, extr_20, extr_21, extr_30, extr_31, extr_32, List.map_cons, List.map_nil, cond_true, cond_false, aop, aThen, aBlock, argEnv, ev, sput, sputO, binK, binI, unK, builtinK, pickK, Nat.reduceBEq, Nat.reduceAdd, Int.reduceBEq, Int.reduceBNe, Int.reduceLT, aPost, resK, tup, tyf, if_true]
      refine hZ [(0, v), (2, .bool false), (3, u), (4, .int .i64 0), (5, w), (6, .int .i64 0), (7, vint xs.length), (8, vint ((W : Int) - (pS (L.take L.length) : Nat)))] _ _ ?_ (by simp (maxSteps := 2000000) only [↓aw_region, ↓aw_skip, ↓aw_seq, ↓aw_block, ↓aw_exit, ↓aw_ret, ↓sops_nil, ↓sops_go, ↓dops_nil, ↓dopsX_nil, ↓dopsR_nil, ↓vdn, vup, extr_20, extr_21, extr_30, extr_31, extr_32, List.map_cons, List.map_nil, cond_true, cond_false, aop, aThen, aBlock, argEnv, ev, sput, sputO, binK, binI, unK, builtinK, pickK, Nat.reduceBEq, Nat.reduceAdd, Int.reduceBEq, Int.reduceBNe, Int.reduceLT, aPost, resK, tup, tyf])
      clear hZ
      try clear Z
      rw [List.take_length, ← hfin]
      have hee : (((c : Nat) : Int) == ((c : Nat) : Int)) = true := beq_self_eq_true _
      refine aws_cut fun N9 hN9 => ?_
      simp (maxSteps := 2000000) only [s12, ↓aw_region, ↓aw_skip, ↓aw_seq, ↓aw_block, ↓aw_exit, ↓aw_ret, ↓sops_nil, ↓sops_go, ↓dops_nil, ↓dopsX_nil, ↓dopsR_nil, ↓vdn, vup, extr_20, extr_21, extr_30, extr_31, extr_32, List.map_cons, List.map_nil, cond_true, cond_false, aop, aThen, aBlock, argEnv, ev, sput, sputO, binK, binI, unK, builtinK, pickK, Nat.reduceBEq, Nat.reduceAdd, Int.reduceBEq, Int.reduceBNe, Int.reduceLT, aPost, resK, tup, tyf, callK, List.nil_append, List.append_nil, List.toList_toArray, List.cons_append, e0, hu2.len, hcl, hee]
      refine awk fun g _ => ?_
      refine hN9 [(0, v), (2, .bool true), (3, u), (4, .int .i64 0), (5, w), (6, .int .i64 0), (7, vint xs.length), (8, vint (c : Nat))] _ _ ?_ (by simp (maxSteps := 2000000) only [↓aw_region, ↓aw_skip, ↓aw_seq, ↓aw_block, ↓aw_exit, ↓aw_ret, ↓sops_nil, ↓sops_go, ↓dops_nil, ↓dopsX_nil, ↓dopsR_nil, ↓vdn, vup, extr_20, extr_21, extr_30, extr_31, extr_32, List.map_cons, List.map_nil, cond_true, cond_false, aop, aThen, aBlock, argEnv, ev, sput, sputO, binK, binI, unK, builtinK, pickK, Nat.reduceBEq, Nat.reduceAdd, Int.reduceBEq, Int.reduceBNe, Int.reduceLT, aPost, resK, tup, tyf])
      clear hN9
      try clear N9
      refine aw_aws ?_
      simp (maxSteps := 2000000) only [s12, ↓aw_region, ↓aw_skip, ↓aw_seq, ↓aw_block, ↓aw_exit, ↓aw_ret, ↓sops_nil, ↓sops_go, ↓dops_nil, ↓dopsX_nil, ↓dopsR_nil, ↓vdn, vup, extr_20, extr_21, extr_30, extr_31, extr_32, List.map_cons, List.map_nil, cond_true, cond_false, aop, aThen, aBlock, argEnv, ev, sput, sputO, binK, binI, unK, builtinK, pickK, Nat.reduceBEq, Nat.reduceAdd, Int.reduceBEq, Int.reduceBNe, Int.reduceLT, aPost, resK, tup, tyf]
end Go.Proofs.Tryd.Am
