/-
  ranks: what the making of a tournament keeps (plain).
  ranks: the library's sort of a short slice by a function: insertion; the stable sort.
  Printed by gen.py: the code of some functions, without what no step looks at; held against the program's own by the kernel.
  ranks: a tournament with some scores: what is asked of the scores; the comparison; the last look.
  ranks: a tournament with some scores: the rounds of the making.
  ranks: a tournament with some scores: one round of the making, walked.
  ranks: a tournament with some scores.
  ranks: a tournament with some scores: the whole.
-/
import Derived.Test.YtemmcfeekpblkaaDoorPk6
import Derived.Test.YtemmcfeekpblkaaDoorPk3
import Derived.Test.YtemmcfeekpblkaaDoorProg
import Derived.KernelRfl
import Derived.Shelf.Abstract
set_option linter.all false
namespace Go.Proofs.Tryd.Am
open Go.Am Rb
set_option maxRecDepth 100000

/-- Player i beats player j. -/
def orT (t : List Int) (i j : Nat) : List Int := t.set i (((t.getD i 0).toNat ||| 2 ^ j : Nat) : Int)
theorem orT_len (t : List Int) (i j : Nat) : (orT t i j).length = t.length := by simp [orT]
theorem orT_get {t : List Int} {i j : Nat} (hi : i < t.length) (x : Nat) : (orT t i j).getD x 0 = if x = i then (((t.getD i 0).toNat ||| 2 ^ j : Nat) : Int) else t.getD x 0 := by
  by_cases hx : x = i
  · subst hx; rw [if_pos rfl, orT, List.getD, List.getElem?_set_self hi]; rfl
  · rw [if_neg hx, orT, List.getD, List.getElem?_set_ne (Ne.symm hx)]; rfl
theorem orT_bb {t : List Int} {i j : Nat} (hi : i < t.length) (x y : Nat) : bb (orT t i j) x y = (bb t x y || decide (x = i ∧ y = j)) := by
  rw [bb, bb, bitI, bitI, orT_get hi]
  by_cases hx : x = i
  · subst hx
    rw [if_pos rfl, Int.toNat_natCast, Nat.testBit_or, Nat.testBit_two_pow]
    congr 1
    exact decide_eq_decide.2 ⟨fun h => ⟨rfl, h.symm⟩, fun h => h.2.symm⟩
  · rw [if_neg hx, decide_eq_false (fun h => hx h.1), Bool.or_false]
theorem orT_scr {n : Nat} {t : List Int} {i j : Nat} (hn : n ≤ 8) (hi : i < t.length) (hlt : t.getD i 0 < 2 ^ n) (h0 : 0 ≤ t.getD i 0) (hj : j < n) (hb : bb t i j = false) (x : Nat) : scr ((orT t i j).getD x 0) = scr (t.getD x 0) + if x = i then 1 else 0 := by
  rw [orT_get hi]
  by_cases hx : x = i
  · subst hx
    have hl : (t.getD x 0).toNat < 2 ^ n := by
      have : ((2 : Int) ^ n) = ((2 ^ n : Nat) : Int) := by simp
      rw [this] at hlt; omega
    rw [bb, bitI] at hb
    rw [if_pos rfl, if_pos rfl, scr, scr, Int.toNat_natCast, bits_put (by omega) hl hj, hb, if_neg (by decide)]
  · rw [if_neg hx, if_neg hx]; rfl

/-- The tournament so far: U, who has not met yet; w, how many wins are still to come; s, the scores. -/
structure MI (n : Nat) (s : Nat → Int) (ts : List Int) (U : Nat → Nat → Prop) (w : Nat → Int) : Prop where
  len : ts.length = n
  rng : ∀ i, i < n → 0 ≤ ts.getD i 0 ∧ ts.getD i 0 < 2 ^ n
  self : ∀ i, i < n → bb ts i i = false
  yet : ∀ i j, i < n → j < n → i ≠ j → U i j → bb ts i j = false
  met : ∀ i j, i < n → j < n → i ≠ j → ¬ U i j → bb ts i j = !bb ts j i
  won : ∀ i, i < n → (scr (ts.getD i 0) : Int) + w i = s i
theorem MI.congr {n : Nat} {s : Nat → Int} {ts : List Int} {U U' : Nat → Nat → Prop} {w w' : Nat → Int} (m : MI n s ts U w) (hU : ∀ i j, i < n → j < n → i ≠ j → (U' i j ↔ U i j)) (hw : ∀ i, i < n → w' i = w i) : MI n s ts U' w' :=
  ⟨m.len, m.rng, m.self, fun i j hi hj hne h => m.yet i j hi hj hne ((hU i j hi hj hne).1 h), fun i j hi hj hne h => m.met i j hi hj hne fun g => h ((hU i j hi hj hne).2 g), fun i hi => by rw [hw i hi]; exact m.won i hi⟩
theorem MI.win {n : Nat} {s : Nat → Int} {ts : List Int} {U U' : Nat → Nat → Prop} {w w' : Nat → Int} {i j : Nat} (m : MI n s ts U w) (hn : n ≤ 8) (hi : i < n) (hj : j < n) (hij : i ≠ j) (h1 : U i j) (h2 : U j i)
    (hU : ∀ a b, a < n → b < n → a ≠ b → (U' a b ↔ U a b ∧ ¬ (a = i ∧ b = j) ∧ ¬ (a = j ∧ b = i))) (hw : ∀ a, a < n → w' a = w a - if a = i then 1 else 0) : MI n s (orT ts i j) U' w' := by
  have hil : i < ts.length := by rw [m.len]; exact hi
  have hb := m.yet i j hi hj hij h1
  have hb2 := m.yet j i hj hi (Ne.symm hij) h2
  have h0 := m.rng i hi
  have hpow : ((2 : Int) ^ n) = ((2 ^ n : Nat) : Int) := by simp
  refine ⟨by rw [orT_len, m.len], fun a ha => ?_, fun a ha => ?_, fun a b ha hb' hne h => ?_, fun a b ha hb' hne h => ?_, fun a ha => ?_⟩
  · rw [orT_get hil]
    split
    · have : (ts.getD i 0).toNat ||| 2 ^ j < 2 ^ n := Nat.or_lt_two_pow (by rw [hpow] at h0; omega) (Nat.pow_lt_pow_right (by decide) hj)
      exact ⟨Int.natCast_nonneg _, by rw [hpow]; exact Int.ofNat_lt.2 this⟩
    · exact m.rng a ha
  · rw [orT_bb hil, m.self a ha, decide_eq_false (fun h => hij (h.1.symm.trans h.2)), Bool.or_false]
  · obtain ⟨g1, g2, g3⟩ := (hU a b ha hb' hne).1 h
    rw [orT_bb hil, m.yet a b ha hb' hne g1, decide_eq_false g2, Bool.or_false]
  · rw [orT_bb hil, orT_bb hil]
    by_cases e1 : a = i ∧ b = j
    · obtain ⟨rfl, rfl⟩ := e1
      rw [decide_eq_true ⟨rfl, rfl⟩, hb2, decide_eq_false (fun h => hij h.2)]
      simp
    · by_cases e2 : a = j ∧ b = i
      · obtain ⟨rfl, rfl⟩ := e2
        rw [decide_eq_false e1, hb2, decide_eq_true ⟨rfl, rfl⟩]
        simp
      · have hn' : ¬ U a b := fun g => h ((hU a b ha hb' hne).2 ⟨g, e1, e2⟩)
        rw [decide_eq_false e1, decide_eq_false (fun h => e2 ⟨h.2, h.1⟩), Bool.or_false, Bool.or_false]
        exact m.met a b ha hb' hne hn'
  · rw [orT_scr hn hil h0.2 h0.1 hj hb, hw a ha]
    have := m.won a ha
    split <;> omega
theorem MI.done {n : Nat} {s : Nat → Int} {ts : List Int} {U : Nat → Nat → Prop} {w : Nat → Int} (m : MI n s ts U w) (h1 : 1 ≤ n) (hn : n ≤ 8) (hU : ∀ i j, i < n → j < n → i ≠ j → ¬ U i j) (hw : ∀ i, i < n → w i = 0) : trn ts = true ∧ ∀ i, i < n → (scr (ts.getD i 0) : Int) = s i := by
  refine ⟨?_, fun i hi => by have := m.won i hi; have := hw i hi; omega⟩
  rw [trn_iff]
  have hl := m.len
  refine ⟨by omega, fun i hi => ?_⟩
  rw [hl] at hi ⊢
  refine ⟨(m.rng i hi).1, (m.rng i hi).2, m.self i hi, fun j hj => ?_⟩
  rw [m.met i j hi (by omega) (by omega) (hU i j hi (by omega) (by omega))]
  cases bb ts j i <;> decide
theorem MI.start {n : Nat} {s : Nat → Int} : MI n s (List.replicate n 0) (fun _ _ => True) s := by
  have hz : ∀ i, (List.replicate n (0 : Int)).getD i 0 = 0 := fun i => by
    rw [List.getD, List.getElem?_replicate]; split <;> rfl
  have hb : ∀ i j, bb (List.replicate n (0 : Int)) i j = false := fun i j => by rw [bb, hz]; exact Nat.zero_testBit j
  refine ⟨by simp, fun i hi => by
    have e : ((2 : Int) ^ n) = ((2 ^ n : Nat) : Int) := by simp
    rw [hz, e]; exact ⟨Int.le_refl _, Int.ofNat_lt.2 (Nat.two_pow_pos n)⟩, fun i _ => hb i i, fun i j _ _ _ _ => hb i j, fun i j _ _ _ h => absurd trivial h, fun i _ => ?_⟩
  rw [hz]
  have : scr 0 = 0 := by decide
  rw [this]; simp
end Go.Proofs.Tryd.Am

namespace Go.Proofs.Tryd.Am
open Go.Am Rb
set_option maxRecDepth 100000
set_option maxHeartbeats 1000000

theorem s120_callW [Tabs Tryd.prog] {args : List Value} {h : Heap} {Q : Value → Heap → Prop} (hsz : args.length ≤ 53) (hk : AWS Tryd.prog 53 s120 (aPost Tryd.prog [] Q) (argEnv 0 args) h) : ACall Tryd.prog 120 args h Q :=
  acall_w Tryd.func120 rfl (enters_of Tryd.func120 (by kernel_rfl) rfl) rfl rfl (by decide) s120_strip s120_ok hsz hk
theorem isortF_call [Tabs prog] {h : Heap} {b : Nat} {L0 : List Nat} {ys : List Int} {g : FuncId} {cap : Array Value} {key : Nat → Int} (hk : ∀ x ∈ L0, -1000 ≤ key x ∧ key x ≤ 1000) (hc : ∀ L x y, x ∈ L0 → y ∈ L0 → APure prog g ([vint x, vint y] ++ cap.toList) (h.set b (.ints (iL L ++ ys) 3 false)) (vint (key x - key y))) (hb : h[b]? = some (.ints (iL L0 ++ ys) 3 false)) (hl : L0.length ≤ 12) (hx : ∀ x ∈ L0, x < 4611686018427387904) :
    ACall prog 120 [ov b L0.length ys.length, .int .i64 0, vint L0.length, .func (.func g) #[] cap] h fun _ h' => ∃ L : List Nat, L.Perm L0 ∧ L.Pairwise (fun a b => key a ≤ key b) ∧ h' = h.set b (.ints (iL L ++ ys) 3 false) := by
  have hlt := get_lt hb
  have h0 : h = h.set b (.ints (iL L0 ++ ys) 3 false) := by
    apply List.ext_getElem?
    intro i
    by_cases hi : b = i
    · subst hi; rw [get_set hlt, hb]
    · rw [List.getElem?_set_ne hi]
  obtain ⟨n, hn⟩ : ∃ n, L0.length = n := ⟨_, rfl⟩
  rw [hn] at hl ⊢
  have hrange : ∀ {L : List Nat}, L.Perm L0 → ∀ i, L.getD i 0 < 4611686018427387904 := fun {L} hp i => by
    by_cases hi : i < L.length
    · rw [List.getD, List.getElem?_eq_getElem hi]; exact hx _ (hp.mem_iff.1 (List.getElem_mem hi))
    · rw [List.getD, List.getElem?_eq_none (by omega)]; decide
  refine s120_callW (by simp) ?_
  simp only [s120]
  have e01 : addV .i64 0 1 = 1 := rfl
  refine aws_cut fun N1 hN1 => ?_
  simp (maxSteps := 2000000) only [s120, ↓aw_region, ↓aw_skip, ↓aw_seq, ↓aw_block, ↓aw_exit, ↓aw_ret, ↓sops_nil, ↓sops_go, ↓dops_nil, ↓dopsX_nil, ↓dopsR_nil, ↓vdn, vup, extr_20, extr_21, extr_30, extr_31, extr_32, List.map_cons, List.map_nil, cond_true, cond_false, aop, aThen, aBlock, argEnv, ev, sput, sputO, binK, binI, unK, builtinK, pickK, Nat.reduceBEq, Nat.reduceAdd, Int.reduceBEq, Int.reduceBNe, Int.reduceLT, aPost, resK, tup, tyf, e01]
  refine hN1 [(0, ov b n ys.length), (1, .int .i64 0), (2, vint n), (3, .func (.func g) #[] cap), (8, .int .i64 1)] _ _ ?_ (by simp (maxSteps := 2000000) only [↓aw_region, ↓aw_skip, ↓aw_seq, ↓aw_block, ↓aw_exit, ↓aw_ret, ↓sops_nil, ↓sops_go, ↓dops_nil, ↓dopsX_nil, ↓dopsR_nil, ↓vdn, vup, extr_20, extr_21, extr_30, extr_31, extr_32, List.map_cons, List.map_nil, cond_true, cond_false, aop, aThen, aBlock, argEnv, ev, sput, sputO, binK, binI, unK, builtinK, pickK, Nat.reduceBEq, Nat.reduceAdd, Int.reduceBEq, Int.reduceBNe, Int.reduceLT, aPost, resK, tup, tyf])
  clear hN1
  try clear N1
  refine aws_block ?_
  refine aws_hide fun Q hQ => ?_
  refine aw_loopW (γ := Nat × List Nat) (fun s => 1 ≤ s.1 ∧ (s.1 ≤ n ∨ s.1 = 1) ∧ s.2.Perm L0 ∧ SrtTo key s.2 s.1)
    (fun s => ([(0, ov b n ys.length), (1, .int .i64 0), (2, vint n), (3, .func (.func g) #[] cap), (8, vint s.1)], h.set b (.ints (iL s.2 ++ ys) 3 false))) (fun s => n - s.1) (1, L0) ⟨Nat.le_refl _, .inr rfl, .refl _, fun p q _ _ => by omega⟩ (by simp (maxSteps := 2000000) only [↓aw_region, ↓aw_skip, ↓aw_seq, ↓aw_block, ↓aw_exit, ↓aw_ret, ↓sops_nil, ↓sops_go, ↓dops_nil, ↓dopsX_nil, ↓dopsR_nil, ↓vdn, vup, extr_20, extr_21, extr_30, extr_31, extr_32, List.map_cons, List.map_nil, cond_true, cond_false, aop, aThen, aBlock, argEnv, ev, sput, sputO, binK, binI, unK, builtinK, pickK, Nat.reduceBEq, Nat.reduceAdd, Int.reduceBEq, Int.reduceBNe, Int.reduceLT, aPost, resK, tup, tyf, Int.natCast_one]) h0 ?_
  rintro ⟨i, L⟩ ⟨hi1, hi, hp, hs⟩
  simp only at hi1 hi hp hs
  have hLn : L.length = n := hp.length_eq.trans hn
  refine aws_hide fun Q2 hQ2 => ?_
  simp only [l120_1]
  by_cases hin : (i : Int) < n
  · have hi' : i < n := by omega
    refine aws_cut fun N2 hN2 => ?_
    simp (maxSteps := 2000000) only [s120, ↓aw_region, ↓aw_skip, ↓aw_seq, ↓aw_block, ↓aw_exit, ↓aw_ret, ↓sops_nil, ↓sops_go, ↓dops_nil, ↓dopsX_nil, ↓dopsR_nil, ↓vdn, vup, extr_20, extr_21, extr_30, extr_31, extr_32, List.map_cons, List.map_nil, cond_true, cond_false, aop, aThen, aBlock, argEnv, ev, sput, sputO, binK, binI, unK, builtinK, pickK, Nat.reduceBEq, Nat.reduceAdd, Int.reduceBEq, Int.reduceBNe, Int.reduceLT, aPost, resK, tup, tyf, hin]
    refine hN2 [(0, ov b n ys.length), (1, .int .i64 0), (2, vint n), (3, .func (.func g) #[] cap), (8, vint i)] _ _ ?_ (by simp (maxSteps := 2000000) only [↓aw_region, ↓aw_skip, ↓aw_seq, ↓aw_block, ↓aw_exit, ↓aw_ret, ↓sops_nil, ↓sops_go, ↓dops_nil, ↓dopsX_nil, ↓dopsR_nil, ↓vdn, vup, extr_20, extr_21, extr_30, extr_31, extr_32, List.map_cons, List.map_nil, cond_true, cond_false, aop, aThen, aBlock, argEnv, ev, sput, sputO, binK, binI, unK, builtinK, pickK, Nat.reduceBEq, Nat.reduceAdd, Int.reduceBEq, Int.reduceBNe, Int.reduceLT, aPost, resK, tup, tyf])
    clear hN2
    try clear N2
    refine aws_cutW fun M hM => ?_
    refine aws_block ?_
    refine aws_cut fun N3 hN3 => ?_
    simp (maxSteps := 2000000) only [s120, ↓aw_region, ↓aw_skip, ↓aw_seq, ↓aw_block, ↓aw_exit, ↓aw_ret, ↓sops_nil, ↓sops_go, ↓dops_nil, ↓dopsX_nil, ↓dopsR_nil, ↓vdn, vup, extr_20, extr_21, extr_30, extr_31, extr_32, List.map_cons, List.map_nil, cond_true, cond_false, aop, aThen, aBlock, argEnv, ev, sput, sputO, binK, binI, unK, builtinK, pickK, Nat.reduceBEq, Nat.reduceAdd, Int.reduceBEq, Int.reduceBNe, Int.reduceLT, aPost, resK, tup, tyf]
    refine hN3 [(0, ov b n ys.length), (1, .int .i64 0), (2, vint n), (3, .func (.func g) #[] cap), (8, vint i), (9, vint i)] _ _ ?_ (by simp (maxSteps := 2000000) only [↓aw_region, ↓aw_skip, ↓aw_seq, ↓aw_block, ↓aw_exit, ↓aw_ret, ↓sops_nil, ↓sops_go, ↓dops_nil, ↓dopsX_nil, ↓dopsR_nil, ↓vdn, vup, extr_20, extr_21, extr_30, extr_31, extr_32, List.map_cons, List.map_nil, cond_true, cond_false, aop, aThen, aBlock, argEnv, ev, sput, sputO, binK, binI, unK, builtinK, pickK, Nat.reduceBEq, Nat.reduceAdd, Int.reduceBEq, Int.reduceBNe, Int.reduceLT, aPost, resK, tup, tyf])
    clear hN3
    try clear N3
    refine aws_block ?_
    refine aws_hide fun Q3 hQ3 => ?_
    refine aw_loopW (γ := Nat × List Nat) (fun s => s.1 ≤ i ∧ s.2.Perm L0 ∧ SrtBut key s.2 i s.1)
      (fun s => ([(0, ov b n ys.length), (1, .int .i64 0), (2, vint n), (3, .func (.func g) #[] cap), (8, vint i), (9, vint s.1)], h.set b (.ints (iL s.2 ++ ys) 3 false))) (fun s => s.1) (i, L) ⟨Nat.le_refl _, hp, fun p q h1 h2 h3 => hs p q h1 (by omega)⟩ (by simp (maxSteps := 2000000) only [↓aw_region, ↓aw_skip, ↓aw_seq, ↓aw_block, ↓aw_exit, ↓aw_ret, ↓sops_nil, ↓sops_go, ↓dops_nil, ↓dopsX_nil, ↓dopsR_nil, ↓vdn, vup, extr_20, extr_21, extr_30, extr_31, extr_32, List.map_cons, List.map_nil, cond_true, cond_false, aop, aThen, aBlock, argEnv, ev, sput, sputO, binK, binI, unK, builtinK, pickK, Nat.reduceBEq, Nat.reduceAdd, Int.reduceBEq, Int.reduceBNe, Int.reduceLT, aPost, resK, tup, tyf]) rfl ?_
    clear hp hs hLn
    rintro ⟨j, L⟩ ⟨hj, hp, hs⟩
    simp only at hj hp hs
    have hLn : L.length = n := hp.length_eq.trans hn
    have own := ov_own (h := h) (b := b) (n := n) (L := L) (ys := ys) hlt hLn
    refine aws_hide fun Q4 hQ4 => ?_
    simp only [l120_0]
    have fin : (j = 0 ∨ key (L.getD (j - 1) 0) ≤ key (L.getD j 0)) → ∀ e, ELe e [(0, ov b n ys.length), (1, .int .i64 0), (2, vint n), (3, .func (.func g) #[] cap), (8, vint i)] → M e (h.set b (.ints (iL L ++ ys) 3 false)) := by
      intro hd e he
      refine hM [(0, ov b n ys.length), (1, .int .i64 0), (2, vint n), (3, .func (.func g) #[] cap), (8, vint i)] _ _ ?_ he
      refine aw_aws ?_
      simp (maxSteps := 2000000) only [s120, ↓aw_region, ↓aw_skip, ↓aw_seq, ↓aw_block, ↓aw_exit, ↓aw_ret, ↓sops_nil, ↓sops_go, ↓dops_nil, ↓dopsX_nil, ↓dopsR_nil, ↓vdn, vup, extr_20, extr_21, extr_30, extr_31, extr_32, List.map_cons, List.map_nil, cond_true, cond_false, aop, aThen, aBlock, argEnv, ev, sput, sputO, binK, binI, unK, builtinK, pickK, Nat.reduceBEq, Nat.reduceAdd, Int.reduceBEq, Int.reduceBNe, Int.reduceLT, aPost, resK, tup, tyf, add1 (show i < 9223372036854775807 by omega)]
      exact hQ2 _ _ _ ⟨(i + 1, L), ⟨by simp only; omega, .inl (by simp only; omega), hp, hs.done hd⟩, by simp only; omega, by simp (maxSteps := 2000000) only [↓aw_region, ↓aw_skip, ↓aw_seq, ↓aw_block, ↓aw_exit, ↓aw_ret, ↓sops_nil, ↓sops_go, ↓dops_nil, ↓dopsX_nil, ↓dopsR_nil, ↓vdn, vup, extr_20, extr_21, extr_30, extr_31, extr_32, List.map_cons, List.map_nil, cond_true, cond_false, aop, aThen, aBlock, argEnv, ev, sput, sputO, binK, binI, unK, builtinK, pickK, Nat.reduceBEq, Nat.reduceAdd, Int.reduceBEq, Int.reduceBNe, Int.reduceLT, aPost, resK, tup, tyf], rfl⟩
    by_cases hj0 : j = 0
    · subst hj0
      refine aws_cut fun N4 hN4 => ?_
      simp (maxSteps := 2000000) only [s120, ↓aw_region, ↓aw_skip, ↓aw_seq, ↓aw_block, ↓aw_exit, ↓aw_ret, ↓sops_nil, ↓sops_go, ↓dops_nil, ↓dopsX_nil, ↓dopsR_nil, ↓vdn, vup, extr_20, extr_21, extr_30, extr_31, extr_32, List.map_cons, List.map_nil, cond_true, cond_false, aop, aThen, aBlock, argEnv, ev, sput, sputO, binK, binI, unK, builtinK, pickK, Nat.reduceBEq, Nat.reduceAdd, Int.reduceBEq, Int.reduceBNe, Int.reduceLT, aPost, resK, tup, tyf]
      refine aw_drawX [(14, 1)] (by kernel_rfl) (by kernel_rfl) (by kernel_rfl) (by kernel_rfl) ?_
      simp (maxSteps := 2000000) only [s120, ↓aw_region, ↓aw_skip, ↓aw_seq, ↓aw_block, ↓aw_exit, ↓aw_ret, ↓sops_nil, ↓sops_go, ↓dops_nil, ↓dopsX_nil, ↓dopsR_nil, ↓vdn, vup, extr_20, extr_21, extr_30, extr_31, extr_32, List.map_cons, List.map_nil, cond_true, cond_false, aop, aThen, aBlock, argEnv, ev, sput, sputO, binK, binI, unK, builtinK, pickK, Nat.reduceBEq, Nat.reduceAdd, Int.reduceBEq, Int.reduceBNe, Int.reduceLT, aPost, resK, tup, tyf, gt_iff_lt, Int.natCast_zero, Int.lt_irrefl]
      refine hQ4 _ _ _ (hQ3 _ _ _ ?_)
      simp (maxSteps := 2000000) only [s120, ↓aw_region, ↓aw_skip, ↓aw_seq, ↓aw_block, ↓aw_exit, ↓aw_ret, ↓sops_nil, ↓sops_go, ↓dops_nil, ↓dopsX_nil, ↓dopsR_nil, ↓vdn, vup, extr_20, extr_21, extr_30, extr_31, extr_32, List.map_cons, List.map_nil, cond_true, cond_false, aop, aThen, aBlock, argEnv, ev, sput, sputO, binK, binI, unK, builtinK, pickK, Nat.reduceBEq, Nat.reduceAdd, Int.reduceBEq, Int.reduceBNe, Int.reduceLT, aPost, resK, tup, tyf, if_true]
      exact fin (.inl rfl) _ (by simp (maxSteps := 2000000) only [↓aw_region, ↓aw_skip, ↓aw_seq, ↓aw_block, ↓aw_exit, ↓aw_ret, ↓sops_nil, ↓sops_go, ↓dops_nil, ↓dopsX_nil, ↓dopsR_nil, ↓vdn, vup, extr_20, extr_21, extr_30, extr_31, extr_32, List.map_cons, List.map_nil, cond_true, cond_false, aop, aThen, aBlock, argEnv, ev, sput, sputO, binK, binI, unK, builtinK, pickK, Nat.reduceBEq, Nat.reduceAdd, Int.reduceBEq, Int.reduceBNe, Int.reduceLT, aPost, resK, tup, tyf])
    · have hjp : (0 : Int) < (j : Int) := by omega
      have hjn : j < (iL L).length := by rw [iL_len]; omega
      have hj1n : j - 1 < (iL L).length := by omega
      have hin1 : ∀ i, i < n → L.getD i 0 ∈ L0 := fun i hi => hp.mem_iff.1 (by rw [List.getD, List.getElem?_eq_getElem (by omega), Option.getD_some]; exact List.getElem_mem _)
      have c1 := hc L _ _ (hin1 j (by omega)) (hin1 (j - 1) (by omega))
      have hk1 := hk _ (hin1 j (by omega))
      have hk2 := hk _ (hin1 (j - 1) (by omega))
      have hsub := subN1 (show 1 ≤ j by omega) (show j < 9223372036854775808 by omega)
      by_cases hlt2 : key (L.getD j 0) < key (L.getD (j - 1) 0)
      · have hneg : key (L.getD j 0) - key (L.getD (j - 1) 0) < 0 := by omega
        refine aws_cut fun N5 hN5 => ?_
        simp (maxSteps := 2000000) only [s120, ↓aw_region, ↓aw_skip, ↓aw_seq, ↓aw_block, ↓aw_exit, ↓aw_ret, ↓sops_nil, ↓sops_go, ↓dops_nil, ↓dopsX_nil, ↓dopsR_nil, ↓vdn, vup, extr_20, extr_21, extr_30, extr_31, extr_32, List.map_cons, List.map_nil, cond_true, cond_false, aop, aThen, aBlock, argEnv, ev, sput, sputO, binK, binI, unK, builtinK, pickK, Nat.reduceBEq, Nat.reduceAdd, Int.reduceBEq, Int.reduceBNe, Int.reduceLT, aPost, resK, tup, tyf]
        refine aw_drawX [(14, 1)] (by kernel_rfl) (by kernel_rfl) (by kernel_rfl) (by kernel_rfl) ?_
        simp (maxSteps := 2000000) only [s120, ↓aw_region, ↓aw_skip, ↓aw_seq, ↓aw_block, ↓aw_exit, ↓aw_ret, ↓sops_nil, ↓sops_go, ↓dops_nil, ↓dopsX_nil, ↓dopsR_nil, ↓vdn, vup, extr_20, extr_21, extr_30, extr_31, extr_32, List.map_cons, List.map_nil, cond_true, cond_false, aop, aThen, aBlock, argEnv, ev, sput, sputO, binK, binI, unK, builtinK, pickK, Nat.reduceBEq, Nat.reduceAdd, Int.reduceBEq, Int.reduceBNe, Int.reduceLT, aPost, resK, tup, tyf, gt_iff_lt, hjp, hsub, own.int.idx el_22 esz_3 hjn, own.int.load shp_3 hjn, own.int.idx el_22 esz_3 hj1n, own.int.load shp_3 hj1n, iL_get, callK, List.nil_append, List.append_nil, List.toList_toArray, List.cons_append]
        refine ⟨_, _, c1, rfl, ?_⟩
        simp (maxSteps := 2000000) only [s120, ↓aw_region, ↓aw_skip, ↓aw_seq, ↓aw_block, ↓aw_exit, ↓aw_ret, ↓sops_nil, ↓sops_go, ↓dops_nil, ↓dopsX_nil, ↓dopsR_nil, ↓vdn, vup, extr_20, extr_21, extr_30, extr_31, extr_32, List.map_cons, List.map_nil, cond_true, cond_false, aop, aThen, aBlock, argEnv, ev, sput, sputO, binK, binI, unK, builtinK, pickK, Nat.reduceBEq, Nat.reduceAdd, Int.reduceBEq, Int.reduceBNe, Int.reduceLT, aPost, resK, tup, tyf, hneg, decide_true, decide_false]
        refine hN5 [(0, ov b n ys.length), (1, .int .i64 0), (2, vint n), (3, .func (.func g) #[] cap), (8, vint i), (9, vint j)] _ _ ?_ (by simp (maxSteps := 2000000) only [↓aw_region, ↓aw_skip, ↓aw_seq, ↓aw_block, ↓aw_exit, ↓aw_ret, ↓sops_nil, ↓sops_go, ↓dops_nil, ↓dopsX_nil, ↓dopsR_nil, ↓vdn, vup, extr_20, extr_21, extr_30, extr_31, extr_32, List.map_cons, List.map_nil, cond_true, cond_false, aop, aThen, aBlock, argEnv, ev, sput, sputO, binK, binI, unK, builtinK, pickK, Nat.reduceBEq, Nat.reduceAdd, Int.reduceBEq, Int.reduceBNe, Int.reduceLT, aPost, resK, tup, tyf])
        clear hN5
        try clear N5
        refine aw_aws ?_
        simp (maxSteps := 2000000) only [s120, ↓aw_region, ↓aw_skip, ↓aw_seq, ↓aw_block, ↓aw_exit, ↓aw_ret, ↓sops_nil, ↓sops_go, ↓dops_nil, ↓dopsX_nil, ↓dopsR_nil, ↓vdn, vup, extr_20, extr_21, extr_30, extr_31, extr_32, List.map_cons, List.map_nil, cond_true, cond_false, aop, aThen, aBlock, argEnv, ev, sput, sputO, binK, binI, unK, builtinK, pickK, Nat.reduceBEq, Nat.reduceAdd, Int.reduceBEq, Int.reduceBNe, Int.reduceLT, aPost, resK, tup, tyf]
        refine aw_drawX [] (by kernel_rfl) (by kernel_rfl) (by kernel_rfl) (by kernel_rfl) ?_
        have hjL : j < L.length := by omega
        simp (maxSteps := 2000000) only [s120, ↓aw_region, ↓aw_skip, ↓aw_seq, ↓aw_block, ↓aw_exit, ↓aw_ret, ↓sops_nil, ↓sops_go, ↓dops_nil, ↓dopsX_nil, ↓dopsR_nil, ↓vdn, vup, extr_20, extr_21, extr_30, extr_31, extr_32, List.map_cons, List.map_nil, cond_true, cond_false, aop, aThen, aBlock, argEnv, ev, sput, sputO, binK, binI, unK, builtinK, pickK, Nat.reduceBEq, Nat.reduceAdd, Int.reduceBEq, Int.reduceBNe, Int.reduceLT, aPost, resK, tup, tyf, hsub, own.int.idx el_22 esz_3 hjn, own.int.idx el_22 esz_3 hj1n, elemP_ov, ov_load hlt hLn (show j < n by omega), ov_load hlt hLn (show j - 1 < n by omega), ov_store hlt hjL, ov_store hlt (show j - 1 < (L.set j (L.getD (j - 1) 0)).length by rw [List.length_set]; omega)]
        refine hQ4 _ _ _ ⟨(j - 1, swL L j), ⟨by simp only; omega, (swL_perm (by omega) hjL).trans hp, hs.step (by omega) hjL hj hlt2⟩, by simp only; omega, by simp (maxSteps := 2000000) only [↓aw_region, ↓aw_skip, ↓aw_seq, ↓aw_block, ↓aw_exit, ↓aw_ret, ↓sops_nil, ↓sops_go, ↓dops_nil, ↓dopsX_nil, ↓dopsR_nil, ↓vdn, vup, extr_20, extr_21, extr_30, extr_31, extr_32, List.map_cons, List.map_nil, cond_true, cond_false, aop, aThen, aBlock, argEnv, ev, sput, sputO, binK, binI, unK, builtinK, pickK, Nat.reduceBEq, Nat.reduceAdd, Int.reduceBEq, Int.reduceBNe, Int.reduceLT, aPost, resK, tup, tyf], rfl⟩
      · have hneg : ¬ key (L.getD j 0) - key (L.getD (j - 1) 0) < 0 := by omega
        refine aws_cut fun N6 hN6 => ?_
        simp (maxSteps := 2000000) only [s120, ↓aw_region, ↓aw_skip, ↓aw_seq, ↓aw_block, ↓aw_exit, ↓aw_ret, ↓sops_nil, ↓sops_go, ↓dops_nil, ↓dopsX_nil, ↓dopsR_nil, ↓vdn, vup, extr_20, extr_21, extr_30, extr_31, extr_32, List.map_cons, List.map_nil, cond_true, cond_false, aop, aThen, aBlock, argEnv, ev, sput, sputO, binK, binI, unK, builtinK, pickK, Nat.reduceBEq, Nat.reduceAdd, Int.reduceBEq, Int.reduceBNe, Int.reduceLT, aPost, resK, tup, tyf]
        refine aw_drawX [(14, 1)] (by kernel_rfl) (by kernel_rfl) (by kernel_rfl) (by kernel_rfl) ?_
        simp (maxSteps := 2000000) only [s120, ↓aw_region, ↓aw_skip, ↓aw_seq, ↓aw_block, ↓aw_exit, ↓aw_ret, ↓sops_nil, ↓sops_go, ↓dops_nil, ↓dopsX_nil, ↓dopsR_nil, ↓vdn, vup, extr_20, extr_21, extr_30, extr_31, extr_32, List.map_cons, List.map_nil, cond_true, cond_false, aop, aThen, aBlock, argEnv, ev, sput, sputO, binK, binI, unK, builtinK, pickK, Nat.reduceBEq, Nat.reduceAdd, Int.reduceBEq, Int.reduceBNe, Int.reduceLT, aPost, resK, tup, tyf, gt_iff_lt, hjp, hsub, own.int.idx el_22 esz_3 hjn, own.int.load shp_3 hjn, own.int.idx el_22 esz_3 hj1n, own.int.load shp_3 hj1n, iL_get, callK, List.nil_append, List.append_nil, List.toList_toArray, List.cons_append]
        refine ⟨_, _, c1, rfl, ?_⟩
        simp (maxSteps := 2000000) only [s120, ↓aw_region, ↓aw_skip, ↓aw_seq, ↓aw_block, ↓aw_exit, ↓aw_ret, ↓sops_nil, ↓sops_go, ↓dops_nil, ↓dopsX_nil, ↓dopsR_nil, ↓vdn, vup, extr_20, extr_21, extr_30, extr_31, extr_32, List.map_cons, List.map_nil, cond_true, cond_false, aop, aThen, aBlock, argEnv, ev, sput, sputO, binK, binI, unK, builtinK, pickK, Nat.reduceBEq, Nat.reduceAdd, Int.reduceBEq, Int.reduceBNe, Int.reduceLT, aPost, resK, tup, tyf, hneg, decide_true, decide_false]
        refine hQ4 _ _ _ (hQ3 _ _ _ ?_)
        simp (maxSteps := 2000000) only [s120, ↓aw_region, ↓aw_skip, ↓aw_seq, ↓aw_block, ↓aw_exit, ↓aw_ret, ↓sops_nil, ↓sops_go, ↓dops_nil, ↓dopsX_nil, ↓dopsR_nil, ↓vdn, vup, extr_20, extr_21, extr_30, extr_31, extr_32, List.map_cons, List.map_nil, cond_true, cond_false, aop, aThen, aBlock, argEnv, ev, sput, sputO, binK, binI, unK, builtinK, pickK, Nat.reduceBEq, Nat.reduceAdd, Int.reduceBEq, Int.reduceBNe, Int.reduceLT, aPost, resK, tup, tyf, if_true]
        exact fin (.inr (by omega)) _ (by simp (maxSteps := 2000000) only [↓aw_region, ↓aw_skip, ↓aw_seq, ↓aw_block, ↓aw_exit, ↓aw_ret, ↓sops_nil, ↓sops_go, ↓dops_nil, ↓dopsX_nil, ↓dopsR_nil, ↓vdn, vup, extr_20, extr_21, extr_30, extr_31, extr_32, List.map_cons, List.map_nil, cond_true, cond_false, aop, aThen, aBlock, argEnv, ev, sput, sputO, binK, binI, unK, builtinK, pickK, Nat.reduceBEq, Nat.reduceAdd, Int.reduceBEq, Int.reduceBNe, Int.reduceLT, aPost, resK, tup, tyf])
  · refine aws_cut fun M hM => ?_
    simp (maxSteps := 2000000) only [s120, ↓aw_region, ↓aw_skip, ↓aw_seq, ↓aw_block, ↓aw_exit, ↓aw_ret, ↓sops_nil, ↓sops_go, ↓dops_nil, ↓dopsX_nil, ↓dopsR_nil, ↓vdn, vup, extr_20, extr_21, extr_30, extr_31, extr_32, List.map_cons, List.map_nil, cond_true, cond_false, aop, aThen, aBlock, argEnv, ev, sput, sputO, binK, binI, unK, builtinK, pickK, Nat.reduceBEq, Nat.reduceAdd, Int.reduceBEq, Int.reduceBNe, Int.reduceLT, aPost, resK, tup, tyf, hin]
    refine hQ2 _ _ _ (hQ _ _ _ ?_)
    simp (maxSteps := 2000000) only [s120, ↓aw_region, ↓aw_skip, ↓aw_seq, ↓aw_block, ↓aw_exit, ↓aw_ret, ↓sops_nil, ↓sops_go, ↓dops_nil, ↓dopsX_nil, ↓dopsR_nil, ↓vdn, vup, extr_20, extr_21, extr_30, extr_31, extr_32, List.map_cons, List.map_nil, cond_true, cond_false, aop, aThen, aBlock, argEnv, ev, sput, sputO, binK, binI, unK, builtinK, pickK, Nat.reduceBEq, Nat.reduceAdd, Int.reduceBEq, Int.reduceBNe, Int.reduceLT, aPost, resK, tup, tyf, if_true]
    refine ⟨L, hp, ?_, rfl⟩
    refine SrtTo.pw ?_
    rw [hLn]
    intro p q hpq hq
    exact hs p q hpq (by omega)

theorem s104_callW [Tabs Tryd.prog] {args : List Value} {h : Heap} {Q : Value → Heap → Prop} (hsz : args.length ≤ 63) (hk : AWS Tryd.prog 63 s104 (aPost Tryd.prog [] Q) (argEnv 0 args) h) : ACall Tryd.prog 104 args h Q :=
  acall_w Tryd.func104 rfl (enters_of Tryd.func104 (by kernel_rfl) rfl) rfl rfl (by decide) s104_strip s104_ok hsz hk
theorem stableF_call [Tabs prog] {h : Heap} {b : Nat} {L0 : List Nat} {ys : List Int} {g : FuncId} {cap : Array Value} {key : Nat → Int} (hk : ∀ x ∈ L0, -1000 ≤ key x ∧ key x ≤ 1000) (hc : ∀ L x y, x ∈ L0 → y ∈ L0 → APure prog g ([vint x, vint y] ++ cap.toList) (h.set b (.ints (iL L ++ ys) 3 false)) (vint (key x - key y))) (hb : h[b]? = some (.ints (iL L0 ++ ys) 3 false)) (hl : L0.length ≤ 12) (hx : ∀ x ∈ L0, x < 4611686018427387904) :
    ACall prog 104 [ov b L0.length ys.length, vint L0.length, .func (.func g) #[] cap] h fun _ h' => ∃ L : List Nat, L.Perm L0 ∧ L.Pairwise (fun a b => key a ≤ key b) ∧ h' = h.set b (.ints (iL L ++ ys) 3 false) := by
  have n20 : ¬ (20 : Int) ≤ (L0.length : Int) := by omega
  have n20' : ¬ (20 : Int) < (L0.length : Int) := by omega
  refine s104_callW (by simp) ?_
  simp only [s104]
  refine aws_cut fun N7 hN7 => ?_
  simp (maxSteps := 2000000) only [s104, ↓aw_region, ↓aw_skip, ↓aw_seq, ↓aw_block, ↓aw_exit, ↓aw_ret, ↓sops_nil, ↓sops_go, ↓dops_nil, ↓dopsX_nil, ↓dopsR_nil, ↓vdn, vup, extr_20, extr_21, extr_30, extr_31, extr_32, List.map_cons, List.map_nil, cond_true, cond_false, aop, aThen, aBlock, argEnv, ev, sput, sputO, binK, binI, unK, builtinK, pickK, Nat.reduceBEq, Nat.reduceAdd, Int.reduceBEq, Int.reduceBNe, Int.reduceLT, aPost, resK, tup, tyf]
  refine hN7 [(0, ov b L0.length ys.length), (1, vint L0.length), (2, .func (.func g) #[] cap), (6, .int .i64 20)] _ _ ?_ (by simp (maxSteps := 2000000) only [↓aw_region, ↓aw_skip, ↓aw_seq, ↓aw_block, ↓aw_exit, ↓aw_ret, ↓sops_nil, ↓sops_go, ↓dops_nil, ↓dopsX_nil, ↓dopsR_nil, ↓vdn, vup, extr_20, extr_21, extr_30, extr_31, extr_32, List.map_cons, List.map_nil, cond_true, cond_false, aop, aThen, aBlock, argEnv, ev, sput, sputO, binK, binI, unK, builtinK, pickK, Nat.reduceBEq, Nat.reduceAdd, Int.reduceBEq, Int.reduceBNe, Int.reduceLT, aPost, resK, tup, tyf])
  clear hN7
  try clear N7
  refine aws_cut fun N8 hN8 => ?_
  simp (maxSteps := 2000000) only [s104, ↓aw_region, ↓aw_skip, ↓aw_seq, ↓aw_block, ↓aw_exit, ↓aw_ret, ↓sops_nil, ↓sops_go, ↓dops_nil, ↓dopsX_nil, ↓dopsR_nil, ↓vdn, vup, extr_20, extr_21, extr_30, extr_31, extr_32, List.map_cons, List.map_nil, cond_true, cond_false, aop, aThen, aBlock, argEnv, ev, sput, sputO, binK, binI, unK, builtinK, pickK, Nat.reduceBEq, Nat.reduceAdd, Int.reduceBEq, Int.reduceBNe, Int.reduceLT, aPost, resK, tup, tyf]
  refine hN8 [(0, ov b L0.length ys.length), (1, vint L0.length), (2, .func (.func g) #[] cap), (6, .int .i64 20), (7, .int .i64 0), (8, .int .i64 20)] _ _ ?_ (by simp (maxSteps := 2000000) only [↓aw_region, ↓aw_skip, ↓aw_seq, ↓aw_block, ↓aw_exit, ↓aw_ret, ↓sops_nil, ↓sops_go, ↓dops_nil, ↓dopsX_nil, ↓dopsR_nil, ↓vdn, vup, extr_20, extr_21, extr_30, extr_31, extr_32, List.map_cons, List.map_nil, cond_true, cond_false, aop, aThen, aBlock, argEnv, ev, sput, sputO, binK, binI, unK, builtinK, pickK, Nat.reduceBEq, Nat.reduceAdd, Int.reduceBEq, Int.reduceBNe, Int.reduceLT, aPost, resK, tup, tyf])
  clear hN8
  try clear N8
  refine aws_cutW fun M hM => ?_
  refine aws_block ?_
  refine aws_hide fun Q hQ => ?_
  refine aw_loopW (γ := Unit) (fun _ => True) (fun _ => ([(0, ov b L0.length ys.length), (1, vint L0.length), (2, .func (.func g) #[] cap), (6, .int .i64 20), (7, .int .i64 0), (8, .int .i64 20)], h)) (fun _ => 0) () trivial (by simp (maxSteps := 2000000) only [↓aw_region, ↓aw_skip, ↓aw_seq, ↓aw_block, ↓aw_exit, ↓aw_ret, ↓sops_nil, ↓sops_go, ↓dops_nil, ↓dopsX_nil, ↓dopsR_nil, ↓vdn, vup, extr_20, extr_21, extr_30, extr_31, extr_32, List.map_cons, List.map_nil, cond_true, cond_false, aop, aThen, aBlock, argEnv, ev, sput, sputO, binK, binI, unK, builtinK, pickK, Nat.reduceBEq, Nat.reduceAdd, Int.reduceBEq, Int.reduceBNe, Int.reduceLT, aPost, resK, tup, tyf]) rfl ?_
  rintro _ _
  refine aws_hide fun Q2 hQ2 => ?_
  simp only [l104_0]
  refine aws_cut fun N9 hN9 => ?_
  simp (maxSteps := 2000000) only [s104, ↓aw_region, ↓aw_skip, ↓aw_seq, ↓aw_block, ↓aw_exit, ↓aw_ret, ↓sops_nil, ↓sops_go, ↓dops_nil, ↓dopsX_nil, ↓dopsR_nil, ↓vdn, vup, extr_20, extr_21, extr_30, extr_31, extr_32, List.map_cons, List.map_nil, cond_true, cond_false, aop, aThen, aBlock, argEnv, ev, sput, sputO, binK, binI, unK, builtinK, pickK, Nat.reduceBEq, Nat.reduceAdd, Int.reduceBEq, Int.reduceBNe, Int.reduceLT, aPost, resK, tup, tyf, n20]
  refine hQ2 _ _ _ (hQ _ _ _ ?_)
  simp (maxSteps := 2000000) only [s104, ↓aw_region, ↓aw_skip, ↓aw_seq, ↓aw_block, ↓aw_exit, ↓aw_ret, ↓sops_nil, ↓sops_go, ↓dops_nil, ↓dopsX_nil, ↓dopsR_nil, ↓vdn, vup, extr_20, extr_21, extr_30, extr_31, extr_32, List.map_cons, List.map_nil, cond_true, cond_false, aop, aThen, aBlock, argEnv, ev, sput, sputO, binK, binI, unK, builtinK, pickK, Nat.reduceBEq, Nat.reduceAdd, Int.reduceBEq, Int.reduceBNe, Int.reduceLT, aPost, resK, tup, tyf, if_true]
  refine hM [(0, ov b L0.length ys.length), (1, vint L0.length), (2, .func (.func g) #[] cap), (6, .int .i64 20), (7, .int .i64 0), (8, .int .i64 20)] _ _ ?_ (by simp (maxSteps := 2000000) only [↓aw_region, ↓aw_skip, ↓aw_seq, ↓aw_block, ↓aw_exit, ↓aw_ret, ↓sops_nil, ↓sops_go, ↓dops_nil, ↓dopsX_nil, ↓dopsR_nil, ↓vdn, vup, extr_20, extr_21, extr_30, extr_31, extr_32, List.map_cons, List.map_nil, cond_true, cond_false, aop, aThen, aBlock, argEnv, ev, sput, sputO, binK, binI, unK, builtinK, pickK, Nat.reduceBEq, Nat.reduceAdd, Int.reduceBEq, Int.reduceBNe, Int.reduceLT, aPost, resK, tup, tyf])
  clear hM
  try clear M
  refine aws_cut fun N10 hN10 => ?_
  simp (maxSteps := 2000000) only [s104, ↓aw_region, ↓aw_skip, ↓aw_seq, ↓aw_block, ↓aw_exit, ↓aw_ret, ↓sops_nil, ↓sops_go, ↓dops_nil, ↓dopsX_nil, ↓dopsR_nil, ↓vdn, vup, extr_20, extr_21, extr_30, extr_31, extr_32, List.map_cons, List.map_nil, cond_true, cond_false, aop, aThen, aBlock, argEnv, ev, sput, sputO, binK, binI, unK, builtinK, pickK, Nat.reduceBEq, Nat.reduceAdd, Int.reduceBEq, Int.reduceBNe, Int.reduceLT, aPost, resK, tup, tyf, callK, List.nil_append, List.append_nil, List.toList_toArray, List.cons_append]
  refine (isortF_call hk hc hb hl hx).mono ?_
  rintro r h' hr
  refine hN10 [(0, ov b L0.length ys.length), (1, vint L0.length), (2, .func (.func g) #[] cap), (6, .int .i64 20), (7, .int .i64 0), (8, .int .i64 20)] _ _ ?_ (by simp (maxSteps := 2000000) only [↓aw_region, ↓aw_skip, ↓aw_seq, ↓aw_block, ↓aw_exit, ↓aw_ret, ↓sops_nil, ↓sops_go, ↓dops_nil, ↓dopsX_nil, ↓dopsR_nil, ↓vdn, vup, extr_20, extr_21, extr_30, extr_31, extr_32, List.map_cons, List.map_nil, cond_true, cond_false, aop, aThen, aBlock, argEnv, ev, sput, sputO, binK, binI, unK, builtinK, pickK, Nat.reduceBEq, Nat.reduceAdd, Int.reduceBEq, Int.reduceBNe, Int.reduceLT, aPost, resK, tup, tyf])
  clear hN10
  try clear N10
  refine aws_block ?_
  refine aws_hide fun Q hQ => ?_
  refine aw_loopW (γ := Unit) (fun _ => True) (fun _ => ([(0, ov b L0.length ys.length), (1, vint L0.length), (2, .func (.func g) #[] cap), (6, .int .i64 20), (7, .int .i64 0), (8, .int .i64 20)], h')) (fun _ => 0) () trivial (by simp (maxSteps := 2000000) only [↓aw_region, ↓aw_skip, ↓aw_seq, ↓aw_block, ↓aw_exit, ↓aw_ret, ↓sops_nil, ↓sops_go, ↓dops_nil, ↓dopsX_nil, ↓dopsR_nil, ↓vdn, vup, extr_20, extr_21, extr_30, extr_31, extr_32, List.map_cons, List.map_nil, cond_true, cond_false, aop, aThen, aBlock, argEnv, ev, sput, sputO, binK, binI, unK, builtinK, pickK, Nat.reduceBEq, Nat.reduceAdd, Int.reduceBEq, Int.reduceBNe, Int.reduceLT, aPost, resK, tup, tyf]) rfl ?_
  rintro _ _
  refine aws_hide fun Q2 hQ2 => ?_
  simp only [l104_2]
  refine aws_cut fun N11 hN11 => ?_
  simp (maxSteps := 2000000) only [s104, ↓aw_region, ↓aw_skip, ↓aw_seq, ↓aw_block, ↓aw_exit, ↓aw_ret, ↓sops_nil, ↓sops_go, ↓dops_nil, ↓dopsX_nil, ↓dopsR_nil, ↓vdn, vup, extr_20, extr_21, extr_30, extr_31, extr_32, List.map_cons, List.map_nil, cond_true, cond_false, aop, aThen, aBlock, argEnv, ev, sput, sputO, binK, binI, unK, builtinK, pickK, Nat.reduceBEq, Nat.reduceAdd, Int.reduceBEq, Int.reduceBNe, Int.reduceLT, aPost, resK, tup, tyf, n20']
  refine hQ2 _ _ _ (hQ _ _ _ ?_)
  simp (maxSteps := 2000000) only [s104, ↓aw_region, ↓aw_skip, ↓aw_seq, ↓aw_block, ↓aw_exit, ↓aw_ret, ↓sops_nil, ↓sops_go, ↓dops_nil, ↓dopsX_nil, ↓dopsR_nil, ↓vdn, vup, extr_20, extr_21, extr_30, extr_31, extr_32, List.map_cons, List.map_nil, cond_true, cond_false, aop, aThen, aBlock, argEnv, ev, sput, sputO, binK, binI, unK, builtinK, pickK, Nat.reduceBEq, Nat.reduceAdd, Int.reduceBEq, Int.reduceBNe, Int.reduceLT, aPost, resK, tup, tyf, if_true]
  exact hr
theorem s87_callW [Tabs Tryd.prog] {args : List Value} {h : Heap} {Q : Value → Heap → Prop} (hsz : args.length ≤ 9) (hk : AWS Tryd.prog 9 s87 (aPost Tryd.prog [] Q) (argEnv 0 args) h) : ACall Tryd.prog 87 args h Q :=
  acall_w Tryd.func87 rfl (enters_of Tryd.func87 (by kernel_rfl) rfl) rfl rfl (by decide) s87_strip s87_ok hsz hk
theorem sortF_call [Tabs prog] {h : Heap} {b : Nat} {L0 : List Nat} {ys : List Int} {g : FuncId} {cap : Array Value} {key : Nat → Int} (hk : ∀ x ∈ L0, -1000 ≤ key x ∧ key x ≤ 1000) (hc : ∀ L x y, x ∈ L0 → y ∈ L0 → APure prog g ([vint x, vint y] ++ cap.toList) (h.set b (.ints (iL L ++ ys) 3 false)) (vint (key x - key y))) (hb : h[b]? = some (.ints (iL L0 ++ ys) 3 false)) (hl : L0.length ≤ 12) (hx : ∀ x ∈ L0, x < 4611686018427387904) :
    ACall prog 87 [ov b L0.length ys.length, .func (.func g) #[] cap] h fun _ h' => ∃ L : List Nat, L.Perm L0 ∧ L.Pairwise (fun a b => key a ≤ key b) ∧ h' = h.set b (.ints (iL L ++ ys) 3 false) := by
  refine s87_callW (by simp) ?_
  refine aw_aws ?_
  simp (maxSteps := 2000000) only [s87, ↓aw_region, ↓aw_skip, ↓aw_seq, ↓aw_block, ↓aw_exit, ↓aw_ret, ↓sops_nil, ↓sops_go, ↓dops_nil, ↓dopsX_nil, ↓dopsR_nil, ↓vdn, vup, extr_20, extr_21, extr_30, extr_31, extr_32, List.map_cons, List.map_nil, cond_true, cond_false, aop, aThen, aBlock, argEnv, ev, sput, sputO, binK, binI, unK, builtinK, pickK, Nat.reduceBEq, Nat.reduceAdd, Int.reduceBEq, Int.reduceBNe, Int.reduceLT, aPost, resK, tup, tyf, callK, List.nil_append, List.append_nil, List.toList_toArray, List.cons_append, lenK]
  refine (stableF_call hk hc hb hl hx).mono ?_
  rintro r h' hr
  exact hr
end Go.Proofs.Tryd.Am

namespace Go.Proofs.Tryd.Am
open Go.Am
set_option maxRecDepth 100000
/-! 54: planchet planchetref02.IsScores -/
@[reducible] def q54_0 : SCode := .region [⟨some 2, .assign (.const (.bool false)), none⟩]
@[reducible] def q54_1 : SCode := .region [⟨some 5, .move (.tmp 0), none⟩,
    ⟨some 6, .call { callee := .builtin .len, args := #[.tmp 5], argTypes := #[22] }, none⟩,
    ⟨some 7, .move (.const (.int .i64 0)), none⟩]
@[reducible] def q54_2 : SCode := .region [⟨some 8, .binOp .lss 3 (.tmp 7) (.tmp 6) 3, none⟩]
@[reducible] def q54_3 : SCode := .region [⟨some 9, .move (.tmp 7), none⟩,
    ⟨some 10, .indexAddr 22 (.tmp 5) (.tmp 7), none⟩,
    ⟨some 11, .load 3 (.tmp 10), none⟩,
    ⟨some 3, .assign (.tmp 9), none⟩,
    ⟨some 4, .assign (.tmp 11), none⟩]
@[reducible] def q54_4 : SCode := .region [⟨some 12, .move (.tmp 4), none⟩,
    ⟨some 13, .binOp .lss 3 (.tmp 12) (.const (.int .i64 0)) 3, none⟩,
    ⟨some 14, .move (.tmp 13), none⟩,
    ⟨some 15, .move (.tmp 4), some (14, false)⟩,
    ⟨some 16, .binOp .gtr 3 (.tmp 15) (.const (.int .i64 7)) 3, some (14, false)⟩,
    ⟨some 17, .pick (.tmp 14) (.const (.bool true)) (.tmp 16), none⟩,
    ⟨some 18, .move (.tmp 17), none⟩,
    ⟨some 19, .move (.tmp 3), some (18, false)⟩,
    ⟨some 20, .binOp .gtr 3 (.tmp 19) (.const (.int .i64 0)) 3, some (18, false)⟩,
    ⟨some 21, .move (.tmp 20), some (18, false)⟩,
    ⟨some 22, .move (.tmp 0), some (21, true)⟩,
    ⟨some 23, .move (.tmp 3), some (21, true)⟩,
    ⟨some 24, .binOp .sub 3 (.tmp 23) (.const (.int .i64 1)) 3, some (21, true)⟩,
    ⟨some 25, .indexAddr 22 (.tmp 22) (.tmp 24), some (21, true)⟩,
    ⟨some 26, .load 3 (.tmp 25), some (21, true)⟩,
    ⟨some 27, .move (.tmp 4), some (21, true)⟩,
    ⟨some 28, .binOp .gtr 3 (.tmp 26) (.tmp 27) 3, some (21, true)⟩,
    ⟨some 29, .pick (.tmp 21) (.tmp 28) (.const (.bool false)), some (18, false)⟩,
    ⟨some 30, .pick (.tmp 18) (.const (.bool true)) (.tmp 29), none⟩]
@[reducible] def q54_5 : SCode := .region [⟨some 2, .assign (.const (.bool false)), none⟩]
@[reducible] def q54_6 : SCode := .region [⟨some 31, .binOp .add 3 (.tmp 7) (.const (.int .i64 1)) 3, none⟩,
    ⟨some 7, .move (.tmp 31), none⟩]
def l54_0 : SCode := (.seq q54_2 (.seq (.cond (.tmp 8) .skip (.exit 0)) (.seq (.block 1 (.seq q54_3 (.seq q54_4 (.cond (.tmp 30) (.seq q54_5 .ret) .skip)))) q54_6)))
@[reducible] def q54_7 : SCode := .region [⟨some 32, .move (.tmp 0), none⟩,
    ⟨some 33, .call { callee := .builtin .len, args := #[.tmp 32], argTypes := #[22] }, none⟩,
    ⟨some 34, .binOp .geq 3 (.tmp 33) (.const (.int .i64 1)) 3, none⟩,
    ⟨some 35, .move (.tmp 34), none⟩,
    ⟨some 36, .move (.tmp 0), some (35, true)⟩,
    ⟨some 37, .call { callee := .builtin .len, args := #[.tmp 36], argTypes := #[22] }, some (35, true)⟩,
    ⟨some 38, .binOp .leq 3 (.tmp 37) (.const (.int .i64 8)) 3, some (35, true)⟩,
    ⟨some 39, .pick (.tmp 35) (.tmp 38) (.const (.bool false)), none⟩,
    ⟨some 2, .assign (.tmp 39), none⟩]
def s54 : SCode := (.seq q54_0 (.seq (.seq q54_1 (.block 0 (.loop l54_0))) (.seq q54_7 .ret)))
theorem s54_strip : stripC (bodyOf Tryd.f54) = s54 := by kernel_rfl
theorem s54_ok : codeOK 40 (bodyOf Tryd.f54) = true := by kernel_rfl
end Go.Proofs.Tryd.Am

namespace Go.Proofs.Tryd.Am
open Go.Am Rb
set_option maxRecDepth 100000
set_option maxHeartbeats 1000000

/-- Each number is at least the one before it. -/
def srt (xs : List Int) : Bool := (List.range xs.length).all fun j => j == 0 || decide (xs.getD (j - 1) 0 ≤ xs.getD j 0)
def isS (xs : List Int) : Bool := decide (1 ≤ xs.length) && decide (xs.length ≤ 8) && srt xs && xs.all fun x => decide (0 ≤ x) && decide (x ≤ 7)
theorem srt_iff {xs : List Int} : srt xs = true ↔ ∀ j, j + 1 < xs.length → xs.getD j 0 ≤ xs.getD (j + 1) 0 := by
  rw [srt, List.all_eq_true]
  constructor
  · intro h j hj
    simpa using h (j + 1) (List.mem_range.2 hj)
  · intro h j hj
    cases j with
    | zero => rfl
    | succ j => simpa using h j (List.mem_range.1 hj)
theorem srt_le {xs : List Int} (h : srt xs = true) : ∀ k i, i + k < xs.length → xs.getD i 0 ≤ xs.getD (i + k) 0
  | 0, i, _ => Int.le_refl _
  | k + 1, i, hk => Int.le_trans (srt_le h k i (by omega)) (srt_iff.1 h (i + k) (by omega))
theorem srt_pw {xs : List Int} (h : srt xs = true) : xs.Pairwise (· ≤ ·) := by
  rw [List.pairwise_iff_getElem]
  intro i j hi hj hij
  have := srt_le h (j - i) i (by omega)
  have e : i + (j - i) = j := by omega
  rw [e, List.getD, List.getD, List.getElem?_eq_getElem hi, List.getElem?_eq_getElem hj] at this
  exact this
theorem s86_callW [Tabs Tryd.prog] {args : List Value} {h : Heap} {Q : Value → Heap → Prop} (hsz : args.length ≤ 21) (hk : AWS Tryd.prog 21 s86 (aPost Tryd.prog [.tmp 2] Q) (argEnv 0 args) h) : ACall Tryd.prog 86 args h Q :=
  acall_w Tryd.func86 rfl (enters_of Tryd.func86 (by kernel_rfl) rfl) rfl rfl (by decide) s86_strip s86_ok hsz hk
theorem issorted_call [Tabs prog] {h : Heap} {v : Value} {xs : List Int} (hv : IntSl h v xs) (hl : xs.length < 9223372036854775808) : APure prog 86 [v] h (.bool (srt xs)) := by
  have hsub : subV .i64 (xs.length : Int) 1 = (xs.length : Int) - 1 := subV_id (by omega) (by omega)
  refine s86_callW (by simp) ?_
  simp only [s86]
  refine aws_cut fun N1 hN1 => ?_
  simp (maxSteps := 2000000) only [s86, ↓aw_region, ↓aw_skip, ↓aw_seq, ↓aw_block, ↓aw_exit, ↓aw_ret, ↓sops_nil, ↓sops_go, ↓dops_nil, ↓dopsX_nil, ↓dopsR_nil, ↓vdn, vup, extr_20, extr_21, extr_30, extr_31, extr_32, List.map_cons, List.map_nil, cond_true, cond_false, aop, aThen, aBlock, argEnv, ev, sput, sputO, binK, binI, unK, builtinK, pickK, Nat.reduceBEq, Nat.reduceAdd, Int.reduceBEq, Int.reduceBNe, Int.reduceLT, aPost, resK, tup, tyf]
  refine hN1 [(0, v), (2, .bool false)] _ _ ?_ (by simp (maxSteps := 2000000) only [↓aw_region, ↓aw_skip, ↓aw_seq, ↓aw_block, ↓aw_exit, ↓aw_ret, ↓sops_nil, ↓sops_go, ↓dops_nil, ↓dopsX_nil, ↓dopsR_nil, ↓vdn, vup, extr_20, extr_21, extr_30, extr_31, extr_32, List.map_cons, List.map_nil, cond_true, cond_false, aop, aThen, aBlock, argEnv, ev, sput, sputO, binK, binI, unK, builtinK, pickK, Nat.reduceBEq, Nat.reduceAdd, Int.reduceBEq, Int.reduceBNe, Int.reduceLT, aPost, resK, tup, tyf])
  clear hN1
  try clear N1
  refine aws_cut fun Z hZ => ?_
  simp (maxSteps := 2000000) only [s86, ↓aw_region, ↓aw_skip, ↓aw_seq, ↓aw_block, ↓aw_exit, ↓aw_ret, ↓sops_nil, ↓sops_go, ↓dops_nil, ↓dopsX_nil, ↓dopsR_nil, ↓vdn, vup, extr_20, extr_21, extr_30, extr_31, extr_32, List.map_cons, List.map_nil, cond_true, cond_false, aop, aThen, aBlock, argEnv, ev, sput, sputO, binK, binI, unK, builtinK, pickK, Nat.reduceBEq, Nat.reduceAdd, Int.reduceBEq, Int.reduceBNe, Int.reduceLT, aPost, resK, tup, tyf, hv.len, hsub, ↓aw_loop_eq]
  refine aws_hide fun Q hQ => ?_
  refine aw_loopW (γ := Nat) (fun k => k ≤ xs.length ∧ ∀ j, k ≤ j → 1 ≤ j → j < xs.length → xs.getD (j - 1) 0 ≤ xs.getD j 0)
    (fun k => ([(0, v), (2, .bool false), (3, vint ((k : Int) - 1))], h)) (fun k => k) xs.length ⟨Nat.le_refl _, fun j h1 _ h2 => by omega⟩ (by simp (maxSteps := 2000000) only [↓aw_region, ↓aw_skip, ↓aw_seq, ↓aw_block, ↓aw_exit, ↓aw_ret, ↓sops_nil, ↓sops_go, ↓dops_nil, ↓dopsX_nil, ↓dopsR_nil, ↓vdn, vup, extr_20, extr_21, extr_30, extr_31, extr_32, List.map_cons, List.map_nil, cond_true, cond_false, aop, aThen, aBlock, argEnv, ev, sput, sputO, binK, binI, unK, builtinK, pickK, Nat.reduceBEq, Nat.reduceAdd, Int.reduceBEq, Int.reduceBNe, Int.reduceLT, aPost, resK, tup, tyf]) rfl ?_
  rintro k ⟨hk, hs⟩
  refine aws_hide fun Q2 hQ2 => ?_
  simp only [l86_0]
  by_cases hk1 : (0 : Int) < (k : Int) - 1
  · have e1 : (k : Int) - 1 = ((k - 1 : Nat) : Int) := by omega
    have e2 : subV .i64 ((k - 1 : Nat) : Int) 1 = ((k - 2 : Nat) : Int) := by rw [subV_id (by omega) (by omega)]; omega
    have hi1 : k - 1 < xs.length := by omega
    have hi2 : k - 2 < xs.length := by omega
    refine aws_cut fun N2 hN2 => ?_
    simp (maxSteps := 2000000) only [s86, ↓aw_region, ↓aw_skip, ↓aw_seq, ↓aw_block, ↓aw_exit, ↓aw_ret, ↓sops_nil, ↓sops_go, ↓dops_nil, ↓dopsX_nil, ↓dopsR_nil, ↓vdn, vup, extr_20, extr_21, extr_30, extr_31, extr_32, List.map_cons, List.map_nil, cond_true, cond_false, aop, aThen, aBlock, argEnv, ev, sput, sputO, binK, binI, unK, builtinK, pickK, Nat.reduceBEq, Nat.reduceAdd, Int.reduceBEq, Int.reduceBNe, Int.reduceLT, aPost, resK, tup, tyf, gt_iff_lt, hk1]
    refine hN2 [(0, v), (2, .bool false), (3, vint ((k : Int) - 1))] _ _ ?_ (by simp (maxSteps := 2000000) only [↓aw_region, ↓aw_skip, ↓aw_seq, ↓aw_block, ↓aw_exit, ↓aw_ret, ↓sops_nil, ↓sops_go, ↓dops_nil, ↓dopsX_nil, ↓dopsR_nil, ↓vdn, vup, extr_20, extr_21, extr_30, extr_31, extr_32, List.map_cons, List.map_nil, cond_true, cond_false, aop, aThen, aBlock, argEnv, ev, sput, sputO, binK, binI, unK, builtinK, pickK, Nat.reduceBEq, Nat.reduceAdd, Int.reduceBEq, Int.reduceBNe, Int.reduceLT, aPost, resK, tup, tyf])
    clear hN2
    try clear N2
    refine aws_cutW fun N3 hN3 => ?_
    refine aws_block ?_
    refine aws_cut fun N4 hN4 => ?_
    rw [e1]
    refine aw_drawX [(9, 1)] (by kernel_rfl) (by kernel_rfl) (by kernel_rfl) (by kernel_rfl) ?_
    simp (maxSteps := 2000000) only [s86, ↓aw_region, ↓aw_skip, ↓aw_seq, ↓aw_block, ↓aw_exit, ↓aw_ret, ↓sops_nil, ↓sops_go, ↓dops_nil, ↓dopsX_nil, ↓dopsR_nil, ↓vdn, vup, extr_20, extr_21, extr_30, extr_31, extr_32, List.map_cons, List.map_nil, cond_true, cond_false, aop, aThen, aBlock, argEnv, ev, sput, sputO, binK, binI, unK, builtinK, pickK, Nat.reduceBEq, Nat.reduceAdd, Int.reduceBEq, Int.reduceBNe, Int.reduceLT, aPost, resK, tup, tyf, hv.idx el_22 esz_3 hi1, hv.load shp_3 hi1, e2, hv.idx el_22 esz_3 hi2, hv.load shp_3 hi2, callK, List.nil_append, List.append_nil, List.toList_toArray, List.cons_append]
    refine ⟨_, _, less_call, rfl, ?_⟩
    cases hlt : decide (xs.getD (k - 1) 0 < xs.getD (k - 2) 0) with
    | true =>
      have hno : srt xs = false := by
        cases h : srt xs with
        | false => rfl
        | true =>
          have := srt_iff.1 h (k - 2) (by omega)
          have e : k - 2 + 1 = k - 1 := by omega
          rw [e] at this
          have := of_decide_eq_true hlt; omega
      refine hN4 [(0, v), (2, .bool false), (3, vint ((k - 1 : Nat) : Int)), (20, .bool true)] _ _ ?_ (by simp (maxSteps := 2000000) only [↓aw_region, ↓aw_skip, ↓aw_seq, ↓aw_block, ↓aw_exit, ↓aw_ret, ↓sops_nil, ↓sops_go, ↓dops_nil, ↓dopsX_nil, ↓dopsR_nil, ↓vdn, vup, extr_20, extr_21, extr_30, extr_31, extr_32, List.map_cons, List.map_nil, cond_true, cond_false, aop, aThen, aBlock, argEnv, ev, sput, sputO, binK, binI, unK, builtinK, pickK, Nat.reduceBEq, Nat.reduceAdd, Int.reduceBEq, Int.reduceBNe, Int.reduceLT, aPost, resK, tup, tyf])
      clear hN4
      try clear N4
      refine aw_aws ?_
      simp (maxSteps := 2000000) only [s86, ↓aw_region, ↓aw_skip, ↓aw_seq, ↓aw_block, ↓aw_exit, ↓aw_ret, ↓sops_nil, ↓sops_go, ↓dops_nil, ↓dopsX_nil, ↓dopsR_nil, ↓vdn, vup, extr_20, extr_21, extr_30, extr_31, extr_32, List.map_cons, List.map_nil, cond_true, cond_false, aop, aThen, aBlock, argEnv, ev, sput, sputO, binK, binI, unK, builtinK, pickK, Nat.reduceBEq, Nat.reduceAdd, Int.reduceBEq, Int.reduceBNe, Int.reduceLT, aPost, resK, tup, tyf]
      refine hQ2 _ _ _ (hQ _ _ _ ?_)
      simp (maxSteps := 2000000) only [s86, ↓aw_region, ↓aw_skip, ↓aw_seq, ↓aw_block, ↓aw_exit, ↓aw_ret, ↓sops_nil, ↓sops_go, ↓dops_nil, ↓dopsX_nil, ↓dopsR_nil, ↓vdn, vup, extr_20, extr_21, extr_30, extr_31, extr_32, List.map_cons, List.map_nil, cond_true, cond_false, aop, aThen, aBlock, argEnv, ev, sput, sputO, binK, binI, unK, builtinK, pickK, Nat.reduceBEq, Nat.reduceAdd, Int.reduceBEq, Int.reduceBNe, Int.reduceLT, aPost, resK, tup, tyf, hno]
    | false =>
      refine hN4 [(0, v), (2, .bool false), (3, vint ((k - 1 : Nat) : Int)), (20, .bool false)] _ _ ?_ (by simp (maxSteps := 2000000) only [↓aw_region, ↓aw_skip, ↓aw_seq, ↓aw_block, ↓aw_exit, ↓aw_ret, ↓sops_nil, ↓sops_go, ↓dops_nil, ↓dopsX_nil, ↓dopsR_nil, ↓vdn, vup, extr_20, extr_21, extr_30, extr_31, extr_32, List.map_cons, List.map_nil, cond_true, cond_false, aop, aThen, aBlock, argEnv, ev, sput, sputO, binK, binI, unK, builtinK, pickK, Nat.reduceBEq, Nat.reduceAdd, Int.reduceBEq, Int.reduceBNe, Int.reduceLT, aPost, resK, tup, tyf])
      clear hN4
      try clear N4
      refine aw_aws ?_
      simp (maxSteps := 2000000) only [s86, ↓aw_region, ↓aw_skip, ↓aw_seq, ↓aw_block, ↓aw_exit, ↓aw_ret, ↓sops_nil, ↓sops_go, ↓dops_nil, ↓dopsX_nil, ↓dopsR_nil, ↓vdn, vup, extr_20, extr_21, extr_30, extr_31, extr_32, List.map_cons, List.map_nil, cond_true, cond_false, aop, aThen, aBlock, argEnv, ev, sput, sputO, binK, binI, unK, builtinK, pickK, Nat.reduceBEq, Nat.reduceAdd, Int.reduceBEq, Int.reduceBNe, Int.reduceLT, aPost, resK, tup, tyf]
      refine hN3 [(0, v), (2, .bool false), (3, vint ((k - 1 : Nat) : Int))] _ _ ?_ (by simp (maxSteps := 2000000) only [↓aw_region, ↓aw_skip, ↓aw_seq, ↓aw_block, ↓aw_exit, ↓aw_ret, ↓sops_nil, ↓sops_go, ↓dops_nil, ↓dopsX_nil, ↓dopsR_nil, ↓vdn, vup, extr_20, extr_21, extr_30, extr_31, extr_32, List.map_cons, List.map_nil, cond_true, cond_false, aop, aThen, aBlock, argEnv, ev, sput, sputO, binK, binI, unK, builtinK, pickK, Nat.reduceBEq, Nat.reduceAdd, Int.reduceBEq, Int.reduceBNe, Int.reduceLT, aPost, resK, tup, tyf])
      clear hN3
      try clear N3
      refine aw_aws ?_
      have e3 : subV .i64 ((k - 1 : Nat) : Int) 1 = ((k - 1 : Nat) : Int) - 1 := subV_id (by omega) (by omega)
      simp (maxSteps := 2000000) only [s86, ↓aw_region, ↓aw_skip, ↓aw_seq, ↓aw_block, ↓aw_exit, ↓aw_ret, ↓sops_nil, ↓sops_go, ↓dops_nil, ↓dopsX_nil, ↓dopsR_nil, ↓vdn, vup, extr_20, extr_21, extr_30, extr_31, extr_32, List.map_cons, List.map_nil, cond_true, cond_false, aop, aThen, aBlock, argEnv, ev, sput, sputO, binK, binI, unK, builtinK, pickK, Nat.reduceBEq, Nat.reduceAdd, Int.reduceBEq, Int.reduceBNe, Int.reduceLT, aPost, resK, tup, tyf, e3]
      refine hQ2 _ _ _ ⟨k - 1, ⟨by omega, fun j h1 h2 h3 => ?_⟩, by omega, by simp (maxSteps := 2000000) only [↓aw_region, ↓aw_skip, ↓aw_seq, ↓aw_block, ↓aw_exit, ↓aw_ret, ↓sops_nil, ↓sops_go, ↓dops_nil, ↓dopsX_nil, ↓dopsR_nil, ↓vdn, vup, extr_20, extr_21, extr_30, extr_31, extr_32, List.map_cons, List.map_nil, cond_true, cond_false, aop, aThen, aBlock, argEnv, ev, sput, sputO, binK, binI, unK, builtinK, pickK, Nat.reduceBEq, Nat.reduceAdd, Int.reduceBEq, Int.reduceBNe, Int.reduceLT, aPost, resK, tup, tyf], rfl⟩
      by_cases hj : k ≤ j
      · exact hs j hj h2 h3
      · obtain rfl : j = k - 1 := by omega
        have := of_decide_eq_false hlt
        have e : k - 1 - 1 = k - 2 := by omega
        rw [e]; omega
  · have hsr : srt xs = true := srt_iff.2 fun j hj => by
      have := hs (j + 1) (by omega) (by omega) hj
      simpa using this
    refine aws_cut fun N5 hN5 => ?_
    simp (maxSteps := 2000000) only [s86, ↓aw_region, ↓aw_skip, ↓aw_seq, ↓aw_block, ↓aw_exit, ↓aw_ret, ↓sops_nil, ↓sops_go, ↓dops_nil, ↓dopsX_nil, ↓dopsR_nil, ↓vdn, vup, extr_20, extr_21, extr_30, extr_31, extr_32, List.map_cons, List.map_nil, cond_true, cond_false, aop, aThen, aBlock, argEnv, ev, sput, sputO, binK, binI, unK, builtinK, pickK, Nat.reduceBEq, Nat.reduceAdd, Int.reduceBEq, Int.reduceBNe, Int.reduceLT, aPost, resK, tup, tyf, gt_iff_lt, hk1]
    refine hQ2 _ _ _ (hQ _ _ _ ?_)
    simp (maxSteps := 2000000) only [s86, ↓aw_region, ↓aw_skip, ↓aw_seq, ↓aw_block, ↓aw_exit, ↓aw_ret, ↓sops_nil, ↓sops_go, ↓dops_nil, ↓dopsX_nil, ↓dopsR_nil, ↓vdn, vup, extr_20, extr_21, extr_30, extr_31, extr_32, List.map_cons, List.map_nil, cond_true, cond_false, aop, aThen, aBlock, argEnv, ev, sput, sputO, binK, binI, unK, builtinK, pickK, Nat.reduceBEq, Nat.reduceAdd, Int.reduceBEq, Int.reduceBNe, Int.reduceLT, aPost, resK, tup, tyf, if_true]
    refine hZ [(0, v), (2, .bool false), (3, vint ((k : Int) - 1))] _ _ ?_ (by simp (maxSteps := 2000000) only [↓aw_region, ↓aw_skip, ↓aw_seq, ↓aw_block, ↓aw_exit, ↓aw_ret, ↓sops_nil, ↓sops_go, ↓dops_nil, ↓dopsX_nil, ↓dopsR_nil, ↓vdn, vup, extr_20, extr_21, extr_30, extr_31, extr_32, List.map_cons, List.map_nil, cond_true, cond_false, aop, aThen, aBlock, argEnv, ev, sput, sputO, binK, binI, unK, builtinK, pickK, Nat.reduceBEq, Nat.reduceAdd, Int.reduceBEq, Int.reduceBNe, Int.reduceLT, aPost, resK, tup, tyf])
    clear hZ
    try clear Z
    refine aw_aws ?_
    simp (maxSteps := 2000000) only [s86, ↓aw_region, ↓aw_skip, ↓aw_seq, ↓aw_block, ↓aw_exit, ↓aw_ret, ↓sops_nil, ↓sops_go, ↓dops_nil, ↓dopsX_nil, ↓dopsR_nil, ↓vdn, vup, extr_20, extr_21, extr_30, extr_31, extr_32, List.map_cons, List.map_nil, cond_true, cond_false, aop, aThen, aBlock, argEnv, ev, sput, sputO, binK, binI, unK, builtinK, pickK, Nat.reduceBEq, Nat.reduceAdd, Int.reduceBEq, Int.reduceBNe, Int.reduceLT, aPost, resK, tup, tyf, hsr]
theorem s54_callW [Tabs Tryd.prog] {args : List Value} {h : Heap} {Q : Value → Heap → Prop} (hsz : args.length ≤ 40) (hk : AWS Tryd.prog 40 s54 (aPost Tryd.prog [.tmp 2] Q) (argEnv 0 args) h) : ACall Tryd.prog 54 args h Q :=
  acall_w Tryd.func54 rfl (enters_of Tryd.func54 (by kernel_rfl) rfl) rfl rfl (by decide) s54_strip s54_ok hsz hk
theorem isscores_call [Tabs prog] {h : Heap} {v : Value} {xs : List Int} (hv : IntSl h v xs) (hl : xs.length < 9223372036854775808) (hx : ∀ x ∈ xs, -9223372036854775808 ≤ x ∧ x < 9223372036854775808) : APure prog 54 [v] h (.bool (isS xs)) := by
  refine s54_callW (by simp) ?_
  simp only [s54]
  refine aws_cut fun N6 hN6 => ?_
  simp (maxSteps := 2000000) only [s54, ↓aw_region, ↓aw_skip, ↓aw_seq, ↓aw_block, ↓aw_exit, ↓aw_ret, ↓sops_nil, ↓sops_go, ↓dops_nil, ↓dopsX_nil, ↓dopsR_nil, ↓vdn, vup, extr_20, extr_21, extr_30, extr_31, extr_32, List.map_cons, List.map_nil, cond_true, cond_false, aop, aThen, aBlock, argEnv, ev, sput, sputO, binK, binI, unK, builtinK, pickK, Nat.reduceBEq, Nat.reduceAdd, Int.reduceBEq, Int.reduceBNe, Int.reduceLT, aPost, resK, tup, tyf]
  refine hN6 [(0, v), (2, .bool false)] _ _ ?_ (by simp (maxSteps := 2000000) only [↓aw_region, ↓aw_skip, ↓aw_seq, ↓aw_block, ↓aw_exit, ↓aw_ret, ↓sops_nil, ↓sops_go, ↓dops_nil, ↓dopsX_nil, ↓dopsR_nil, ↓vdn, vup, extr_20, extr_21, extr_30, extr_31, extr_32, List.map_cons, List.map_nil, cond_true, cond_false, aop, aThen, aBlock, argEnv, ev, sput, sputO, binK, binI, unK, builtinK, pickK, Nat.reduceBEq, Nat.reduceAdd, Int.reduceBEq, Int.reduceBNe, Int.reduceLT, aPost, resK, tup, tyf])
  clear hN6
  try clear N6
  refine aws_cut fun Z hZ => ?_
  simp (maxSteps := 2000000) only [s54, ↓aw_region, ↓aw_skip, ↓aw_seq, ↓aw_block, ↓aw_exit, ↓aw_ret, ↓sops_nil, ↓sops_go, ↓dops_nil, ↓dopsX_nil, ↓dopsR_nil, ↓vdn, vup, extr_20, extr_21, extr_30, extr_31, extr_32, List.map_cons, List.map_nil, cond_true, cond_false, aop, aThen, aBlock, argEnv, ev, sput, sputO, binK, binI, unK, builtinK, pickK, Nat.reduceBEq, Nat.reduceAdd, Int.reduceBEq, Int.reduceBNe, Int.reduceLT, aPost, resK, tup, tyf, hv.len, ↓aw_loop_eq]
  refine aws_hide fun Q hQ => ?_
  refine aw_loop (γ := Nat) (fun k => k ≤ xs.length ∧ ∀ j, j < k → (0 ≤ xs.getD j 0 ∧ xs.getD j 0 ≤ 7) ∧ (0 < j → xs.getD (j - 1) 0 ≤ xs.getD j 0))
    (fun k => ([(0, v), (2, .bool false), (5, v), (6, vint xs.length), (7, vint k)], h)) (fun k => xs.length - k) 0 ⟨Nat.zero_le _, fun j hj => by omega⟩ (by simp (maxSteps := 2000000) only [↓aw_region, ↓aw_skip, ↓aw_seq, ↓aw_block, ↓aw_exit, ↓aw_ret, ↓sops_nil, ↓sops_go, ↓dops_nil, ↓dopsX_nil, ↓dopsR_nil, ↓vdn, vup, extr_20, extr_21, extr_30, extr_31, extr_32, List.map_cons, List.map_nil, cond_true, cond_false, aop, aThen, aBlock, argEnv, ev, sput, sputO, binK, binI, unK, builtinK, pickK, Nat.reduceBEq, Nat.reduceAdd, Int.reduceBEq, Int.reduceBNe, Int.reduceLT, aPost, resK, tup, tyf, Int.natCast_zero]) rfl ?_
  rintro k ⟨hk, hs⟩
  refine aw_hide fun Q2 hQ2 => ?_
  by_cases hkn : (k : Int) < xs.length
  · have hk' : k < xs.length := by omega
    have bad : ∀ {K : Prop}, (¬ ((0 ≤ xs.getD k 0 ∧ xs.getD k 0 ≤ 7) ∧ (0 < k → xs.getD (k - 1) 0 ≤ xs.getD k 0))) → isS xs = false := fun {K} hb => by
      cases h : isS xs with
      | false => rfl
      | true =>
        simp only [isS, Bool.and_eq_true, List.all_eq_true, decide_eq_true_eq] at h
        refine absurd ⟨h.2 _ ?_, fun h0 => ?_⟩ hb
        · rw [List.getD, List.getElem?_eq_getElem hk', Option.getD_some]; exact List.getElem_mem _
        · have := srt_iff.1 h.1.2 (k - 1) (by omega)
          have e : k - 1 + 1 = k := by omega
          rw [e] at this; exact this
    have good : ((0 ≤ xs.getD k 0 ∧ xs.getD k 0 ≤ 7) ∧ (0 < k → xs.getD (k - 1) 0 ≤ xs.getD k 0)) → ∀ j, j < k + 1 → (0 ≤ xs.getD j 0 ∧ xs.getD j 0 ≤ 7) ∧ (0 < j → xs.getD (j - 1) 0 ≤ xs.getD j 0) := fun hg j hj => by
      by_cases h : j < k
      · exact hs j h
      · obtain rfl : j = k := by omega
        exact hg
    have leave : ∀ e, ELe e [(0, v), (2, .bool false)] → (¬ ((0 ≤ xs.getD k 0 ∧ xs.getD k 0 ≤ 7) ∧ (0 < k → xs.getD (k - 1) 0 ≤ xs.getD k 0))) → True := fun _ _ _ => trivial
    by_cases h0 : xs.getD k 0 < 0
    · simp (maxSteps := 2000000) only [s54, ↓aw_region, ↓aw_skip, ↓aw_seq, ↓aw_block, ↓aw_exit, ↓aw_ret, ↓sops_nil, ↓sops_go, ↓dops_nil, ↓dopsX_nil, ↓dopsR_nil, ↓vdn, vup, extr_20, extr_21, extr_30, extr_31, extr_32, List.map_cons, List.map_nil, cond_true, cond_false, aop, aThen, aBlock, argEnv, ev, sput, sputO, binK, binI, unK, builtinK, pickK, Nat.reduceBEq, Nat.reduceAdd, Int.reduceBEq, Int.reduceBNe, Int.reduceLT, aPost, resK, tup, tyf, l54_0, hkn, hv.idx el_22 esz_3 hk', hv.load shp_3 hk', h0, Bool.not_true]
      refine hQ2 _ _ _ (hQ _ _ _ ?_)
      simp (maxSteps := 2000000) only [s54, ↓aw_region, ↓aw_skip, ↓aw_seq, ↓aw_block, ↓aw_exit, ↓aw_ret, ↓sops_nil, ↓sops_go, ↓dops_nil, ↓dopsX_nil, ↓dopsR_nil, ↓vdn, vup, extr_20, extr_21, extr_30, extr_31, extr_32, List.map_cons, List.map_nil, cond_true, cond_false, aop, aThen, aBlock, argEnv, ev, sput, sputO, binK, binI, unK, builtinK, pickK, Nat.reduceBEq, Nat.reduceAdd, Int.reduceBEq, Int.reduceBNe, Int.reduceLT, aPost, resK, tup, tyf, bad (K := True) fun h => absurd h.1.1 (by omega)]
    · by_cases h7 : (7 : Int) < xs.getD k 0
      · simp (maxSteps := 2000000) only [s54, ↓aw_region, ↓aw_skip, ↓aw_seq, ↓aw_block, ↓aw_exit, ↓aw_ret, ↓sops_nil, ↓sops_go, ↓dops_nil, ↓dopsX_nil, ↓dopsR_nil, ↓vdn, vup, extr_20, extr_21, extr_30, extr_31, extr_32, List.map_cons, List.map_nil, cond_true, cond_false, aop, aThen, aBlock, argEnv, ev, sput, sputO, binK, binI, unK, builtinK, pickK, Nat.reduceBEq, Nat.reduceAdd, Int.reduceBEq, Int.reduceBNe, Int.reduceLT, aPost, resK, tup, tyf, l54_0, hkn, hv.idx el_22 esz_3 hk', hv.load shp_3 hk', h0, gt_iff_lt, h7]
        refine hQ2 _ _ _ (hQ _ _ _ ?_)
        simp (maxSteps := 2000000) only [s54, ↓aw_region, ↓aw_skip, ↓aw_seq, ↓aw_block, ↓aw_exit, ↓aw_ret, ↓sops_nil, ↓sops_go, ↓dops_nil, ↓dopsX_nil, ↓dopsR_nil, ↓vdn, vup, extr_20, extr_21, extr_30, extr_31, extr_32, List.map_cons, List.map_nil, cond_true, cond_false, aop, aThen, aBlock, argEnv, ev, sput, sputO, binK, binI, unK, builtinK, pickK, Nat.reduceBEq, Nat.reduceAdd, Int.reduceBEq, Int.reduceBNe, Int.reduceLT, aPost, resK, tup, tyf, bad (K := True) fun h => absurd h.1.2 (by omega)]
      · by_cases hkp : (0 : Int) < (k : Int)
        · have e2 : subV .i64 (k : Int) 1 = ((k - 1 : Nat) : Int) := by rw [subV_id (by omega) (by omega)]; omega
          have hi2 : k - 1 < xs.length := by omega
          by_cases hlt : xs.getD k 0 < xs.getD (k - 1) 0
          · simp (maxSteps := 2000000) only [s54, ↓aw_region, ↓aw_skip, ↓aw_seq, ↓aw_block, ↓aw_exit, ↓aw_ret, ↓sops_nil, ↓sops_go, ↓dops_nil, ↓dopsX_nil, ↓dopsR_nil, ↓vdn, vup, extr_20, extr_21, extr_30, extr_31, extr_32, List.map_cons, List.map_nil, cond_true, cond_false, aop, aThen, aBlock, argEnv, ev, sput, sputO, binK, binI, unK, builtinK, pickK, Nat.reduceBEq, Nat.reduceAdd, Int.reduceBEq, Int.reduceBNe, Int.reduceLT, aPost, resK, tup, tyf, l54_0, hkn, hv.idx el_22 esz_3 hk', hv.load shp_3 hk', h0, gt_iff_lt, h7, hkp, e2, hv.idx el_22 esz_3 hi2, hv.load shp_3 hi2, hlt]
            refine hQ2 _ _ _ (hQ _ _ _ ?_)
            simp (maxSteps := 2000000) only [s54, ↓aw_region, ↓aw_skip, ↓aw_seq, ↓aw_block, ↓aw_exit, ↓aw_ret, ↓sops_nil, ↓sops_go, ↓dops_nil, ↓dopsX_nil, ↓dopsR_nil, ↓vdn, vup, extr_20, extr_21, extr_30, extr_31, extr_32, List.map_cons, List.map_nil, cond_true, cond_false, aop, aThen, aBlock, argEnv, ev, sput, sputO, binK, binI, unK, builtinK, pickK, Nat.reduceBEq, Nat.reduceAdd, Int.reduceBEq, Int.reduceBNe, Int.reduceLT, aPost, resK, tup, tyf, bad (K := True) fun h => absurd (h.2 (by omega)) (by omega)]
          · simp (maxSteps := 2000000) only [s54, ↓aw_region, ↓aw_skip, ↓aw_seq, ↓aw_block, ↓aw_exit, ↓aw_ret, ↓sops_nil, ↓sops_go, ↓dops_nil, ↓dopsX_nil, ↓dopsR_nil, ↓vdn, vup, extr_20, extr_21, extr_30, extr_31, extr_32, List.map_cons, List.map_nil, cond_true, cond_false, aop, aThen, aBlock, argEnv, ev, sput, sputO, binK, binI, unK, builtinK, pickK, Nat.reduceBEq, Nat.reduceAdd, Int.reduceBEq, Int.reduceBNe, Int.reduceLT, aPost, resK, tup, tyf, l54_0, hkn, hv.idx el_22 esz_3 hk', hv.load shp_3 hk', h0, gt_iff_lt, h7, hkp, e2, hv.idx el_22 esz_3 hi2, hv.load shp_3 hi2, hlt, add1 (show k < 9223372036854775807 by omega)]
            exact hQ2 _ _ _ ⟨k + 1, ⟨hk', good ⟨⟨by omega, by omega⟩, fun _ => by omega⟩⟩, by omega, by simp (maxSteps := 2000000) only [↓aw_region, ↓aw_skip, ↓aw_seq, ↓aw_block, ↓aw_exit, ↓aw_ret, ↓sops_nil, ↓sops_go, ↓dops_nil, ↓dopsX_nil, ↓dopsR_nil, ↓vdn, vup, extr_20, extr_21, extr_30, extr_31, extr_32, List.map_cons, List.map_nil, cond_true, cond_false, aop, aThen, aBlock, argEnv, ev, sput, sputO, binK, binI, unK, builtinK, pickK, Nat.reduceBEq, Nat.reduceAdd, Int.reduceBEq, Int.reduceBNe, Int.reduceLT, aPost, resK, tup, tyf], rfl⟩
        · simp (maxSteps := 2000000) only [s54, ↓aw_region, ↓aw_skip, ↓aw_seq, ↓aw_block, ↓aw_exit, ↓aw_ret, ↓sops_nil, ↓sops_go, ↓dops_nil, ↓dopsX_nil, ↓dopsR_nil, ↓vdn, vup, extr_20, extr_21, extr_30, extr_31, extr_32, List.map_cons, List.map_nil, cond_true, cond_false, aop, aThen, aBlock, argEnv, ev, sput, sputO, binK, binI, unK, builtinK, pickK, Nat.reduceBEq, Nat.reduceAdd, Int.reduceBEq, Int.reduceBNe, Int.reduceLT, aPost, resK, tup, tyf, l54_0, hkn, hv.idx el_22 esz_3 hk', hv.load shp_3 hk', h0, gt_iff_lt, h7, hkp, add1 (show k < 9223372036854775807 by omega)]
          exact hQ2 _ _ _ ⟨k + 1, ⟨hk', good ⟨⟨by omega, by omega⟩, fun _ => by omega⟩⟩, by omega, by simp (maxSteps := 2000000) only [↓aw_region, ↓aw_skip, ↓aw_seq, ↓aw_block, ↓aw_exit, ↓aw_ret, ↓sops_nil, ↓sops_go, ↓dops_nil, ↓dopsX_nil, ↓dopsR_nil, ↓vdn, vup, extr_20, extr_21, extr_30, extr_31, extr_32, List.map_cons, List.map_nil, cond_true, cond_false, aop, aThen, aBlock, argEnv, ev, sput, sputO, binK, binI, unK, builtinK, pickK, Nat.reduceBEq, Nat.reduceAdd, Int.reduceBEq, Int.reduceBNe, Int.reduceLT, aPost, resK, tup, tyf], rfl⟩
  · obtain rfl : k = xs.length := by omega
    have hall : srt xs = true ∧ ∀ x ∈ xs, 0 ≤ x ∧ x ≤ 7 := ⟨srt_iff.2 fun j hj => by have := (hs (j + 1) hj).2 (by omega); simpa using this, fun x hx => by
      obtain ⟨i, hi, rfl⟩ := List.getElem_of_mem hx
      have := (hs i hi).1
      rw [List.getD, List.getElem?_eq_getElem hi] at this
      exact this⟩
    have hS : isS xs = (decide (1 ≤ xs.length) && decide (xs.length ≤ 8)) := by
      rw [isS, hall.1, Bool.and_true]
      have : (xs.all fun x => decide (0 ≤ x) && decide (x ≤ 7)) = true := List.all_eq_true.2 fun x hx => by
        have := hall.2 x hx; simp; omega
      rw [this, Bool.and_true]
    simp (maxSteps := 2000000) only [s54, ↓aw_region, ↓aw_skip, ↓aw_seq, ↓aw_block, ↓aw_exit, ↓aw_ret, ↓sops_nil, ↓sops_go, ↓dops_nil, ↓dopsX_nil, ↓dopsR_nil, ↓vdn, vup, extr_20, extr_21, extr_30, extr_31, extr_32, List.map_cons, List.map_nil, cond_true, cond_false, aop, aThen, aBlock, argEnv, ev, sput, sputO, binK, binI, unK, builtinK, pickK, Nat.reduceBEq, Nat.reduceAdd, Int.reduceBEq, Int.reduceBNe, Int.reduceLT, aPost, resK, tup, tyf, l54_0, Int.lt_irrefl]
    refine hQ2 _ _ _ (hQ _ _ _ ?_)
    simp (maxSteps := 2000000) only [s54, ↓aw_region, ↓aw_skip, ↓aw_seq, ↓aw_block, ↓aw_exit, ↓aw_ret, ↓sops_nil, ↓sops_go, ↓dops_nil, ↓dopsX_nil, ↓dopsR_nil, ↓vdn, vup, extr_20, extr_21, extr_30, extr_31, extr_32, List.map_cons, List.map_nil, cond_true, cond_false, aop, aThen, aBlock, argEnv, ev, sput, sputO, binK, binI, unK, builtinK, pickK, Nat.reduceBEq, Nat.reduceAdd, Int.reduceBEq, Int.reduceBNe, Int.reduceLT, aPost, resK, tup, tyf, if_true]
    refine hZ [(0, v), (2, .bool false)] _ _ ?_ (by simp (maxSteps := 2000000) only [↓aw_region, ↓aw_skip, ↓aw_seq, ↓aw_block, ↓aw_exit, ↓aw_ret, ↓sops_nil, ↓sops_go, ↓dops_nil, ↓dopsX_nil, ↓dopsR_nil, ↓vdn, vup, extr_20, extr_21, extr_30, extr_31, extr_32, List.map_cons, List.map_nil, cond_true, cond_false, aop, aThen, aBlock, argEnv, ev, sput, sputO, binK, binI, unK, builtinK, pickK, Nat.reduceBEq, Nat.reduceAdd, Int.reduceBEq, Int.reduceBNe, Int.reduceLT, aPost, resK, tup, tyf])
    clear hZ
    try clear Z
    refine aw_aws ?_
    by_cases h1 : (1 : Int) ≤ (xs.length : Int)
    · by_cases h8 : (xs.length : Int) ≤ 8
      · simp (maxSteps := 2000000) only [s54, ↓aw_region, ↓aw_skip, ↓aw_seq, ↓aw_block, ↓aw_exit, ↓aw_ret, ↓sops_nil, ↓sops_go, ↓dops_nil, ↓dopsX_nil, ↓dopsR_nil, ↓vdn, vup, extr_20, extr_21, extr_30, extr_31, extr_32, List.map_cons, List.map_nil, cond_true, cond_false, aop, aThen, aBlock, argEnv, ev, sput, sputO, binK, binI, unK, builtinK, pickK, Nat.reduceBEq, Nat.reduceAdd, Int.reduceBEq, Int.reduceBNe, Int.reduceLT, aPost, resK, tup, tyf, hv.len, ge_iff_le, h1, h8, hS, decide_eq_true (show 1 ≤ xs.length by omega), decide_eq_true (show xs.length ≤ 8 by omega), Bool.and_true]
      · simp (maxSteps := 2000000) only [s54, ↓aw_region, ↓aw_skip, ↓aw_seq, ↓aw_block, ↓aw_exit, ↓aw_ret, ↓sops_nil, ↓sops_go, ↓dops_nil, ↓dopsX_nil, ↓dopsR_nil, ↓vdn, vup, extr_20, extr_21, extr_30, extr_31, extr_32, List.map_cons, List.map_nil, cond_true, cond_false, aop, aThen, aBlock, argEnv, ev, sput, sputO, binK, binI, unK, builtinK, pickK, Nat.reduceBEq, Nat.reduceAdd, Int.reduceBEq, Int.reduceBNe, Int.reduceLT, aPost, resK, tup, tyf, hv.len, ge_iff_le, h1, h8, hS, decide_eq_true (show 1 ≤ xs.length by omega), decide_eq_false (show ¬ xs.length ≤ 8 by omega), Bool.and_false]
    · simp (maxSteps := 2000000) only [s54, ↓aw_region, ↓aw_skip, ↓aw_seq, ↓aw_block, ↓aw_exit, ↓aw_ret, ↓sops_nil, ↓sops_go, ↓dops_nil, ↓dopsX_nil, ↓dopsR_nil, ↓vdn, vup, extr_20, extr_21, extr_30, extr_31, extr_32, List.map_cons, List.map_nil, cond_true, cond_false, aop, aThen, aBlock, argEnv, ev, sput, sputO, binK, binI, unK, builtinK, pickK, Nat.reduceBEq, Nat.reduceAdd, Int.reduceBEq, Int.reduceBNe, Int.reduceLT, aPost, resK, tup, tyf, hv.len, ge_iff_le, h1, hS, decide_eq_false (show ¬ 1 ≤ xs.length by omega), Bool.false_and]
theorem s88_callW [Tabs Tryd.prog] {args : List Value} {h : Heap} {Q : Value → Heap → Prop} (hsz : args.length ≤ 15) (hk : AWS Tryd.prog 15 s88 (aPost Tryd.prog [.tmp 5] Q) (argEnv 0 args) h) : ACall Tryd.prog 88 args h Q :=
  acall_w Tryd.func88 rfl (enters_of Tryd.func88 (by kernel_rfl) rfl) rfl rfl (by decide) s88_strip s88_ok hsz hk
theorem make1_call [Tabs prog] {h : Heap} {bx bn n x y : Nat} {nd : List Int} (hbx : h[bx]? = some (.cells [.slice (some ⟨bn, 0, some 0⟩) n n] 22 false)) (hn : h[bn]? = some (.ints nd 3 false)) (hl : nd.length = n) (hx : x < n) (hy : y < n)
    (h1 : -100 ≤ nd.getD x 0 ∧ nd.getD x 0 ≤ 100) (h2 : -100 ≤ nd.getD y 0 ∧ nd.getD y 0 ≤ 100) : APure prog 88 [vint x, vint y, .pointer (some ⟨bx, 0, none⟩)] h (vint (nd.getD x 0 - nd.getD y 0)) := by
  have ld : ∀ {K : Value → Prop}, loadK prog h 22 (.pointer (some ⟨bx, 0, none⟩)) K = K (.slice (some ⟨bn, 0, some 0⟩) n n) := fun {K} => loadC (o := 0) hbx shp_22 rfl
  have hsub : subV .i64 (nd.getD x 0) (nd.getD y 0) = nd.getD x 0 - nd.getD y 0 := subV_id (by omega) (by omega)
  have hx' : x < nd.length := by omega
  have hy' : y < nd.length := by omega
  refine s88_callW (by simp) ?_
  simp only [s88]
  refine aws_cut fun N7 hN7 => ?_
  simp (maxSteps := 2000000) only [s88, ↓aw_region, ↓aw_skip, ↓aw_seq, ↓aw_block, ↓aw_exit, ↓aw_ret, ↓sops_nil, ↓sops_go, ↓dops_nil, ↓dopsX_nil, ↓dopsR_nil, ↓vdn, vup, extr_20, extr_21, extr_30, extr_31, extr_32, List.map_cons, List.map_nil, cond_true, cond_false, aop, aThen, aBlock, argEnv, ev, sput, sputO, binK, binI, unK, builtinK, pickK, Nat.reduceBEq, Nat.reduceAdd, Int.reduceBEq, Int.reduceBNe, Int.reduceLT, aPost, resK, tup, tyf]
  refine hN7 [(0, vint x), (1, vint y), (2, .pointer (some ⟨bx, 0, none⟩)), (5, .int .i64 0)] _ _ ?_ (by simp (maxSteps := 2000000) only [↓aw_region, ↓aw_skip, ↓aw_seq, ↓aw_block, ↓aw_exit, ↓aw_ret, ↓sops_nil, ↓sops_go, ↓dops_nil, ↓dopsX_nil, ↓dopsR_nil, ↓vdn, vup, extr_20, extr_21, extr_30, extr_31, extr_32, List.map_cons, List.map_nil, cond_true, cond_false, aop, aThen, aBlock, argEnv, ev, sput, sputO, binK, binI, unK, builtinK, pickK, Nat.reduceBEq, Nat.reduceAdd, Int.reduceBEq, Int.reduceBNe, Int.reduceLT, aPost, resK, tup, tyf])
  clear hN7
  try clear N7
  refine aws_cut fun N8 hN8 => ?_
  refine aw_drawX [] (by kernel_rfl) (by kernel_rfl) (by kernel_rfl) (by kernel_rfl) ?_
  simp (maxSteps := 2000000) only [s88, ↓aw_region, ↓aw_skip, ↓aw_seq, ↓aw_block, ↓aw_exit, ↓aw_ret, ↓sops_nil, ↓sops_go, ↓dops_nil, ↓dopsX_nil, ↓dopsR_nil, ↓vdn, vup, extr_20, extr_21, extr_30, extr_31, extr_32, List.map_cons, List.map_nil, cond_true, cond_false, aop, aThen, aBlock, argEnv, ev, sput, sputO, binK, binI, unK, builtinK, pickK, Nat.reduceBEq, Nat.reduceAdd, Int.reduceBEq, Int.reduceBNe, Int.reduceLT, aPost, resK, tup, tyf, ld, idxW hx, idxW hy, loadX hn hx', loadX hn hy', hsub]
  refine hN8 [(0, vint x), (1, vint y), (2, .pointer (some ⟨bx, 0, none⟩)), (5, vint (nd.getD x 0 - nd.getD y 0))] _ _ ?_ (by simp (maxSteps := 2000000) only [↓aw_region, ↓aw_skip, ↓aw_seq, ↓aw_block, ↓aw_exit, ↓aw_ret, ↓sops_nil, ↓sops_go, ↓dops_nil, ↓dopsX_nil, ↓dopsR_nil, ↓vdn, vup, extr_20, extr_21, extr_30, extr_31, extr_32, List.map_cons, List.map_nil, cond_true, cond_false, aop, aThen, aBlock, argEnv, ev, sput, sputO, binK, binI, unK, builtinK, pickK, Nat.reduceBEq, Nat.reduceAdd, Int.reduceBEq, Int.reduceBNe, Int.reduceLT, aPost, resK, tup, tyf])
  clear hN8
  try clear N8
  refine aw_aws ?_
  simp (maxSteps := 2000000) only [s88, ↓aw_region, ↓aw_skip, ↓aw_seq, ↓aw_block, ↓aw_exit, ↓aw_ret, ↓sops_nil, ↓sops_go, ↓dops_nil, ↓dopsX_nil, ↓dopsR_nil, ↓vdn, vup, extr_20, extr_21, extr_30, extr_31, extr_32, List.map_cons, List.map_nil, cond_true, cond_false, aop, aThen, aBlock, argEnv, ev, sput, sputO, binK, binI, unK, builtinK, pickK, Nat.reduceBEq, Nat.reduceAdd, Int.reduceBEq, Int.reduceBNe, Int.reduceLT, aPost, resK, tup, tyf]
theorem s90_callW [Tabs Tryd.prog] {args : List Value} {h : Heap} {Q : Value → Heap → Prop} (hsz : args.length ≤ 9) (hk : AWS Tryd.prog 9 s90 (aPost Tryd.prog [.tmp 4] Q) (argEnv 0 args) h) : ACall Tryd.prog 90 args h Q :=
  acall_w Tryd.func90 rfl (enters_of Tryd.func90 (by kernel_rfl) rfl) rfl rfl (by decide) s90_strip s90_ok hsz hk
theorem make2_call [Tabs prog] {h : Heap} {x y : Int} (h0 : 0 ≤ x) (h1 : x < 256) : APure prog 90 [vint x, vint y] h (.bool (decide ((scr x : Int) = y))) := by
  have hc := count_call (h := h) (show x.toNat < 256 by omega)
  rw [show ((x.toNat : Nat) : Int) = x by omega] at hc
  refine s90_callW (by simp) ?_
  simp only [s90]
  refine aws_cut fun N9 hN9 => ?_
  simp (maxSteps := 2000000) only [s90, ↓aw_region, ↓aw_skip, ↓aw_seq, ↓aw_block, ↓aw_exit, ↓aw_ret, ↓sops_nil, ↓sops_go, ↓dops_nil, ↓dopsX_nil, ↓dopsR_nil, ↓vdn, vup, extr_20, extr_21, extr_30, extr_31, extr_32, List.map_cons, List.map_nil, cond_true, cond_false, aop, aThen, aBlock, argEnv, ev, sput, sputO, binK, binI, unK, builtinK, pickK, Nat.reduceBEq, Nat.reduceAdd, Int.reduceBEq, Int.reduceBNe, Int.reduceLT, aPost, resK, tup, tyf]
  refine hN9 [(0, vint x), (1, vint y), (4, .bool false)] _ _ ?_ (by simp (maxSteps := 2000000) only [↓aw_region, ↓aw_skip, ↓aw_seq, ↓aw_block, ↓aw_exit, ↓aw_ret, ↓sops_nil, ↓sops_go, ↓dops_nil, ↓dopsX_nil, ↓dopsR_nil, ↓vdn, vup, extr_20, extr_21, extr_30, extr_31, extr_32, List.map_cons, List.map_nil, cond_true, cond_false, aop, aThen, aBlock, argEnv, ev, sput, sputO, binK, binI, unK, builtinK, pickK, Nat.reduceBEq, Nat.reduceAdd, Int.reduceBEq, Int.reduceBNe, Int.reduceLT, aPost, resK, tup, tyf])
  clear hN9
  try clear N9
  refine aws_cut fun N10 hN10 => ?_
  simp (maxSteps := 2000000) only [s90, ↓aw_region, ↓aw_skip, ↓aw_seq, ↓aw_block, ↓aw_exit, ↓aw_ret, ↓sops_nil, ↓sops_go, ↓dops_nil, ↓dopsX_nil, ↓dopsR_nil, ↓vdn, vup, extr_20, extr_21, extr_30, extr_31, extr_32, List.map_cons, List.map_nil, cond_true, cond_false, aop, aThen, aBlock, argEnv, ev, sput, sputO, binK, binI, unK, builtinK, pickK, Nat.reduceBEq, Nat.reduceAdd, Int.reduceBEq, Int.reduceBNe, Int.reduceLT, aPost, resK, tup, tyf, callK, List.nil_append, List.append_nil, List.toList_toArray, List.cons_append]
  refine (hc).mono ?_
  rintro _ h ⟨rfl, rfl⟩
  have e : ((((Am.bits x.toNat).length : Nat) : Int) == y) = decide ((scr x : Int) = y) := by rw [scr]; rfl
  simp (maxSteps := 2000000) only [s90, ↓aw_region, ↓aw_skip, ↓aw_seq, ↓aw_block, ↓aw_exit, ↓aw_ret, ↓sops_nil, ↓sops_go, ↓dops_nil, ↓dopsX_nil, ↓dopsR_nil, ↓vdn, vup, extr_20, extr_21, extr_30, extr_31, extr_32, List.map_cons, List.map_nil, cond_true, cond_false, aop, aThen, aBlock, argEnv, ev, sput, sputO, binK, binI, unK, builtinK, pickK, Nat.reduceBEq, Nat.reduceAdd, Int.reduceBEq, Int.reduceBNe, Int.reduceLT, aPost, resK, tup, tyf, e]
  refine hN10 [(0, vint x), (1, vint y), (4, .bool (decide ((scr x : Int) = y)))] _ _ ?_ (by simp (maxSteps := 2000000) only [↓aw_region, ↓aw_skip, ↓aw_seq, ↓aw_block, ↓aw_exit, ↓aw_ret, ↓sops_nil, ↓sops_go, ↓dops_nil, ↓dopsX_nil, ↓dopsR_nil, ↓vdn, vup, extr_20, extr_21, extr_30, extr_31, extr_32, List.map_cons, List.map_nil, cond_true, cond_false, aop, aThen, aBlock, argEnv, ev, sput, sputO, binK, binI, unK, builtinK, pickK, Nat.reduceBEq, Nat.reduceAdd, Int.reduceBEq, Int.reduceBNe, Int.reduceLT, aPost, resK, tup, tyf])
  clear hN10
  try clear N10
  refine aw_aws ?_
  simp (maxSteps := 2000000) only [s90, ↓aw_region, ↓aw_skip, ↓aw_seq, ↓aw_block, ↓aw_exit, ↓aw_ret, ↓sops_nil, ↓sops_go, ↓dops_nil, ↓dopsX_nil, ↓dopsR_nil, ↓vdn, vup, extr_20, extr_21, extr_30, extr_31, extr_32, List.map_cons, List.map_nil, cond_true, cond_false, aop, aThen, aBlock, argEnv, ev, sput, sputO, binK, binI, unK, builtinK, pickK, Nat.reduceBEq, Nat.reduceAdd, Int.reduceBEq, Int.reduceBNe, Int.reduceLT, aPost, resK, tup, tyf]
end Go.Proofs.Tryd.Am

namespace Go.Proofs.Tryd.Am
open Go.Am Rb
set_option maxRecDepth 100000
set_option maxHeartbeats 1000000

theorem s89_callW [Tabs Tryd.prog] {args : List Value} {h : Heap} {Q : Value → Heap → Prop} (hsz : args.length ≤ 32) (hk : AWS Tryd.prog 32 s89 (aPost Tryd.prog [.tmp 6] Q) (argEnv 0 args) h) : ACall Tryd.prog 89 args h Q :=
  acall_w Tryd.func89 rfl (enters_of Tryd.func89 (by kernel_rfl) rfl) rfl rfl (by decide) s89_strip s89_ok hsz hk
theorem equalf_call [Tabs prog] {h : Heap} {v w : Value} {ts xs : List Int} (hv : IntSl h v ts) (hw : IntSl h w xs) (hl : ts.length = xs.length) (hl2 : xs.length ≤ 8) (hr : ∀ i, i < xs.length → 0 ≤ ts.getD i 0 ∧ ts.getD i 0 < 256) (hs : ∀ i, i < xs.length → (scr (ts.getD i 0) : Int) = xs.getD i 0) :
    APure prog 89 [v, w, .func (.func 90) #[] #[]] h (.bool true) := by
  have hne : ((ts.length : Int) != (xs.length : Int)) = false := by rw [hl]; exact bne_self_eq_false _
  refine s89_callW (by simp) ?_
  simp only [s89]
  refine aws_cut fun N1 hN1 => ?_
  simp (maxSteps := 2000000) only [s89, ↓aw_region, ↓aw_skip, ↓aw_seq, ↓aw_block, ↓aw_exit, ↓aw_ret, ↓sops_nil, ↓sops_go, ↓dops_nil, ↓dopsX_nil, ↓dopsR_nil, ↓vdn, vup, extr_20, extr_21, extr_30, extr_31, extr_32, List.map_cons, List.map_nil, cond_true, cond_false, aop, aThen, aBlock, argEnv, ev, sput, sputO, binK, binI, unK, builtinK, pickK, Nat.reduceBEq, Nat.reduceAdd, Int.reduceBEq, Int.reduceBNe, Int.reduceLT, aPost, resK, tup, tyf]
  refine hN1 [(0, v), (1, w), (2, .func (.func 90) #[] #[]), (6, .bool false)] _ _ ?_ (by simp (maxSteps := 2000000) only [↓aw_region, ↓aw_skip, ↓aw_seq, ↓aw_block, ↓aw_exit, ↓aw_ret, ↓sops_nil, ↓sops_go, ↓dops_nil, ↓dopsX_nil, ↓dopsR_nil, ↓vdn, vup, extr_20, extr_21, extr_30, extr_31, extr_32, List.map_cons, List.map_nil, cond_true, cond_false, aop, aThen, aBlock, argEnv, ev, sput, sputO, binK, binI, unK, builtinK, pickK, Nat.reduceBEq, Nat.reduceAdd, Int.reduceBEq, Int.reduceBNe, Int.reduceLT, aPost, resK, tup, tyf])
  clear hN1
  try clear N1
  refine aws_cut fun N2 hN2 => ?_
  simp (maxSteps := 2000000) only [s89, ↓aw_region, ↓aw_skip, ↓aw_seq, ↓aw_block, ↓aw_exit, ↓aw_ret, ↓sops_nil, ↓sops_go, ↓dops_nil, ↓dopsX_nil, ↓dopsR_nil, ↓vdn, vup, extr_20, extr_21, extr_30, extr_31, extr_32, List.map_cons, List.map_nil, cond_true, cond_false, aop, aThen, aBlock, argEnv, ev, sput, sputO, binK, binI, unK, builtinK, pickK, Nat.reduceBEq, Nat.reduceAdd, Int.reduceBEq, Int.reduceBNe, Int.reduceLT, aPost, resK, tup, tyf, hv.len, hw.len, hne]
  refine hN2 [(0, v), (1, w), (2, .func (.func 90) #[] #[]), (6, .bool false)] _ _ ?_ (by simp (maxSteps := 2000000) only [↓aw_region, ↓aw_skip, ↓aw_seq, ↓aw_block, ↓aw_exit, ↓aw_ret, ↓sops_nil, ↓sops_go, ↓dops_nil, ↓dopsX_nil, ↓dopsR_nil, ↓vdn, vup, extr_20, extr_21, extr_30, extr_31, extr_32, List.map_cons, List.map_nil, cond_true, cond_false, aop, aThen, aBlock, argEnv, ev, sput, sputO, binK, binI, unK, builtinK, pickK, Nat.reduceBEq, Nat.reduceAdd, Int.reduceBEq, Int.reduceBNe, Int.reduceLT, aPost, resK, tup, tyf])
  clear hN2
  try clear N2
  refine aws_cut fun Z hZ => ?_
  simp (maxSteps := 2000000) only [s89, ↓aw_region, ↓aw_skip, ↓aw_seq, ↓aw_block, ↓aw_exit, ↓aw_ret, ↓sops_nil, ↓sops_go, ↓dops_nil, ↓dopsX_nil, ↓dopsR_nil, ↓vdn, vup, extr_20, extr_21, extr_30, extr_31, extr_32, List.map_cons, List.map_nil, cond_true, cond_false, aop, aThen, aBlock, argEnv, ev, sput, sputO, binK, binI, unK, builtinK, pickK, Nat.reduceBEq, Nat.reduceAdd, Int.reduceBEq, Int.reduceBNe, Int.reduceLT, aPost, resK, tup, tyf, hv.len, ↓aw_loop_eq]
  refine aws_hide fun Q hQ => ?_
  refine aw_loop (γ := Nat) (fun k => k ≤ ts.length)
    (fun k => ([(0, v), (1, w), (2, .func (.func 90) #[] #[]), (6, .bool false), (15, v), (16, vint ts.length), (17, vint k)], h)) (fun k => ts.length - k) 0 (Nat.zero_le _) (by simp (maxSteps := 2000000) only [↓aw_region, ↓aw_skip, ↓aw_seq, ↓aw_block, ↓aw_exit, ↓aw_ret, ↓sops_nil, ↓sops_go, ↓dops_nil, ↓dopsX_nil, ↓dopsR_nil, ↓vdn, vup, extr_20, extr_21, extr_30, extr_31, extr_32, List.map_cons, List.map_nil, cond_true, cond_false, aop, aThen, aBlock, argEnv, ev, sput, sputO, binK, binI, unK, builtinK, pickK, Nat.reduceBEq, Nat.reduceAdd, Int.reduceBEq, Int.reduceBNe, Int.reduceLT, aPost, resK, tup, tyf, Int.natCast_zero]) rfl ?_
  intro k hk
  refine aw_hide fun Q2 hQ2 => ?_
  by_cases hkn : (k : Int) < ts.length
  · have hk1 : k < ts.length := by omega
    have hk2 : k < xs.length := by omega
    have c := make2_call (h := h) (y := xs.getD k 0) (hr k hk2).1 (hr k hk2).2
    rw [decide_eq_true (hs k hk2)] at c
    simp (maxSteps := 2000000) only [s89, ↓aw_region, ↓aw_skip, ↓aw_seq, ↓aw_block, ↓aw_exit, ↓aw_ret, ↓sops_nil, ↓sops_go, ↓dops_nil, ↓dopsX_nil, ↓dopsR_nil, ↓vdn, vup, extr_20, extr_21, extr_30, extr_31, extr_32, List.map_cons, List.map_nil, cond_true, cond_false, aop, aThen, aBlock, argEnv, ev, sput, sputO, binK, binI, unK, builtinK, pickK, Nat.reduceBEq, Nat.reduceAdd, Int.reduceBEq, Int.reduceBNe, Int.reduceLT, aPost, resK, tup, tyf, l89_0, hkn, hv.idx el_55 esz_3 hk1, hv.load shp_3 hk1, hw.idx el_22 esz_3 hk2, hw.load shp_3 hk2, callK, List.nil_append, List.append_nil, List.toList_toArray, List.cons_append]
    refine c.mono ?_
    rintro _ h ⟨rfl, rfl⟩
    simp (maxSteps := 2000000) only [s89, ↓aw_region, ↓aw_skip, ↓aw_seq, ↓aw_block, ↓aw_exit, ↓aw_ret, ↓sops_nil, ↓sops_go, ↓dops_nil, ↓dopsX_nil, ↓dopsR_nil, ↓vdn, vup, extr_20, extr_21, extr_30, extr_31, extr_32, List.map_cons, List.map_nil, cond_true, cond_false, aop, aThen, aBlock, argEnv, ev, sput, sputO, binK, binI, unK, builtinK, pickK, Nat.reduceBEq, Nat.reduceAdd, Int.reduceBEq, Int.reduceBNe, Int.reduceLT, aPost, resK, tup, tyf, Bool.not_true, add1 (show k < 9223372036854775807 by omega)]
    exact hQ2 _ _ _ ⟨k + 1, by omega, by omega, by simp (maxSteps := 2000000) only [↓aw_region, ↓aw_skip, ↓aw_seq, ↓aw_block, ↓aw_exit, ↓aw_ret, ↓sops_nil, ↓sops_go, ↓dops_nil, ↓dopsX_nil, ↓dopsR_nil, ↓vdn, vup, extr_20, extr_21, extr_30, extr_31, extr_32, List.map_cons, List.map_nil, cond_true, cond_false, aop, aThen, aBlock, argEnv, ev, sput, sputO, binK, binI, unK, builtinK, pickK, Nat.reduceBEq, Nat.reduceAdd, Int.reduceBEq, Int.reduceBNe, Int.reduceLT, aPost, resK, tup, tyf], rfl⟩
  · obtain rfl : k = ts.length := by omega
    simp (maxSteps := 2000000) only [s89, ↓aw_region, ↓aw_skip, ↓aw_seq, ↓aw_block, ↓aw_exit, ↓aw_ret, ↓sops_nil, ↓sops_go, ↓dops_nil, ↓dopsX_nil, ↓dopsR_nil, ↓vdn, vup, extr_20, extr_21, extr_30, extr_31, extr_32, List.map_cons, List.map_nil, cond_true, cond_false, aop, aThen, aBlock, argEnv, ev, sput, sputO, binK, binI, unK, builtinK, pickK, Nat.reduceBEq, Nat.reduceAdd, Int.reduceBEq, Int.reduceBNe, Int.reduceLT, aPost, resK, tup, tyf, l89_0, Int.lt_irrefl]
    refine hQ2 _ _ _ (hQ _ _ _ ?_)
    simp (maxSteps := 2000000) only [s89, ↓aw_region, ↓aw_skip, ↓aw_seq, ↓aw_block, ↓aw_exit, ↓aw_ret, ↓sops_nil, ↓sops_go, ↓dops_nil, ↓dopsX_nil, ↓dopsR_nil, ↓vdn, vup, extr_20, extr_21, extr_30, extr_31, extr_32, List.map_cons, List.map_nil, cond_true, cond_false, aop, aThen, aBlock, argEnv, ev, sput, sputO, binK, binI, unK, builtinK, pickK, Nat.reduceBEq, Nat.reduceAdd, Int.reduceBEq, Int.reduceBNe, Int.reduceLT, aPost, resK, tup, tyf, if_true]
    refine hZ [(0, v), (1, w), (2, .func (.func 90) #[] #[]), (6, .bool false)] _ _ ?_ (by simp (maxSteps := 2000000) only [↓aw_region, ↓aw_skip, ↓aw_seq, ↓aw_block, ↓aw_exit, ↓aw_ret, ↓sops_nil, ↓sops_go, ↓dops_nil, ↓dopsX_nil, ↓dopsR_nil, ↓vdn, vup, extr_20, extr_21, extr_30, extr_31, extr_32, List.map_cons, List.map_nil, cond_true, cond_false, aop, aThen, aBlock, argEnv, ev, sput, sputO, binK, binI, unK, builtinK, pickK, Nat.reduceBEq, Nat.reduceAdd, Int.reduceBEq, Int.reduceBNe, Int.reduceLT, aPost, resK, tup, tyf])
    clear hZ
    try clear Z
    refine aw_aws ?_
    simp (maxSteps := 2000000) only [s89, ↓aw_region, ↓aw_skip, ↓aw_seq, ↓aw_block, ↓aw_exit, ↓aw_ret, ↓sops_nil, ↓sops_go, ↓dops_nil, ↓dopsX_nil, ↓dopsR_nil, ↓vdn, vup, extr_20, extr_21, extr_30, extr_31, extr_32, List.map_cons, List.map_nil, cond_true, cond_false, aop, aThen, aBlock, argEnv, ev, sput, sputO, binK, binI, unK, builtinK, pickK, Nat.reduceBEq, Nat.reduceAdd, Int.reduceBEq, Int.reduceBNe, Int.reduceLT, aPost, resK, tup, tyf]

/-- What the making stands on: the wins to come, in a box; the tournament. -/
structure MS (h hp : Heap) (bx bn bt n : Nat) (nd ts : List Int) : Prop where
  box : hp[bx]? = some (.cells [.slice (some ⟨bn, 0, some 0⟩) n n] 22 false)
  nn : hp[bn]? = some (.ints nd 3 false)
  tt : hp[bt]? = some (.ints ts 3 false)
  E : Ext (fun _ => False) h hp
  ge : h.length ≤ bx ∧ h.length ≤ bn ∧ h.length ≤ bt
  ne : bx ≠ bn ∧ bx ≠ bt ∧ bn ≠ bt
section
variable {h hp : Heap} {bx bn bt n : Nat} {nd ts : List Int}
theorem MS.setT (m : MS h hp bx bn bt n nd ts) (t2 : List Int) : MS h (hp.set bt (.ints t2 3 false)) bx bn bt n nd t2 :=
  ⟨by rw [List.getElem?_set_ne (Ne.symm m.ne.2.1)]; exact m.box, by rw [List.getElem?_set_ne (Ne.symm m.ne.2.2)]; exact m.nn, get_set (get_lt m.tt) _, m.E.set_ge m.ge.2.2 _, m.ge, m.ne⟩
theorem MS.setN (m : MS h hp bx bn bt n nd ts) (d2 : List Int) : MS h (hp.set bn (.ints d2 3 false)) bx bn bt n d2 ts :=
  ⟨by rw [List.getElem?_set_ne (Ne.symm m.ne.1)]; exact m.box, get_set (get_lt m.nn) _, by rw [List.getElem?_set_ne m.ne.2.2]; exact m.tt, m.E.set_ge m.ge.2.1 _, m.ge, m.ne⟩
theorem MS.setL (m : MS h hp bx bn bt n nd ts) {b : Nat} (hb : h.length ≤ b) (h1 : b ≠ bx) (h2 : b ≠ bn) (h3 : b ≠ bt) (B : Blk) : MS h (hp.set b B) bx bn bt n nd ts :=
  ⟨by rw [List.getElem?_set_ne h1]; exact m.box, by rw [List.getElem?_set_ne h2]; exact m.nn, by rw [List.getElem?_set_ne h3]; exact m.tt, m.E.set_ge hb _, m.ge, m.ne⟩
theorem MS.ld (m : MS h hp bx bn bt n nd ts) {K : Value → Prop} : loadK prog hp 22 (.pointer (some ⟨bx, 0, none⟩)) K = K (.slice (some ⟨bn, 0, some 0⟩) n n) := loadC (o := 0) m.box shp_22 rfl
end
theorem idxT {b n : Nat} {K : Value → Prop} {k : Nat} (hk : k < n) : idxAddrK prog 55 (tv b n) (vint (k : Nat)) K = K (.pointer (some ⟨b, k, none⟩)) := by
  simp only [idxAddrK, el_55, esz_3, Int.natCast_nonneg, Int.toNat_natCast, Nat.mul_one, Nat.zero_add, true_and, Int.ofNat_lt.2 hk]
theorem or_orT {n : Nat} {t : List Int} {i j : Nat} (hn : n ≤ 8) (h0 : 0 ≤ t.getD i 0 ∧ t.getD i 0 < 2 ^ n) (hj : j < n) : bitsV .or .i64 (t.getD i 0) (shlV .i64 1 ((j : Nat) : Int)) = (((t.getD i 0).toNat ||| 2 ^ j : Nat) : Int) := by
  have e : ((2 : Int) ^ n) = ((2 ^ n : Nat) : Int) := by simp
  have h8 := pow8N hn
  have h2 : 2 ^ j < 2 ^ 8 := Nat.pow_lt_pow_right (by decide) (by omega)
  rw [e] at h0
  rw [shlI1 (by omega)]
  have := bitsV_or (a := (t.getD i 0).toNat) (b := 2 ^ j) (by omega) (by omega)
  rw [← this, Int.toNat_of_nonneg h0.1]

open Classical in
/-- The wins to come, k players into a round: the first d keep theirs. -/
def ndK (r : List Nat) (d : Nat) (nd : List Int) (k : Nat) (nk : List Int) : Prop := nk.length = nd.length ∧ ∀ i, nk.getD i 0 = nd.getD i 0 - if ∃ j, d ≤ j ∧ j < k ∧ r[j]? = some i then 1 else 0
theorem ndK_step {r : List Nat} {d : Nat} {nd nk : List Int} {k i : Nat} (hr : r.Nodup) (h : ndK r d nd k nk) (hk : r[k]? = some i) (hi : i < nd.length) (hd : d ≤ k) : ndK r d nd (k + 1) (nk.set i (nk.getD i 0 - 1)) := by
  refine ⟨by rw [List.length_set, h.1], fun x => ?_⟩
  have hkl : k < r.length := (List.getElem?_eq_some_iff.1 hk).1
  by_cases hx : x = i
  · subst hx
    rw [List.getD, List.getElem?_set_self (by rw [h.1]; exact hi), Option.getD_some, h.2 x, if_neg, if_pos ⟨k, hd, by omega, hk⟩]
    · omega
    · rintro ⟨j, _, hj, hjx⟩
      have hjl : j < r.length := by omega
      rw [List.getElem?_eq_getElem hkl] at hk
      rw [List.getElem?_eq_getElem hjl] at hjx
      have := (List.nodup_iff_pairwise_ne.1 hr)
      exact absurd ((Option.some.inj hjx).trans (Option.some.inj hk).symm) ((List.pairwise_iff_getElem.1 this) j k hjl hkl hj)
  · rw [List.getD, List.getElem?_set_ne (Ne.symm hx)]
    refine (h.2 x).trans ?_
    congr 1
    by_cases he : ∃ j, d ≤ j ∧ j < k ∧ r[j]? = some x
    · obtain ⟨j, h1, h2, h3⟩ := he
      rw [if_pos ⟨j, h1, h2, h3⟩, if_pos ⟨j, h1, by omega, h3⟩]
    · rw [if_neg he, if_neg]
      rintro ⟨j, h1, h2, h3⟩
      by_cases hj : j < k
      · exact he ⟨j, h1, hj, h3⟩
      · obtain rfl : j = k := by omega
        rw [hk] at h3; exact hx (Option.some.inj h3).symm
theorem ndK_keep {r : List Nat} {d : Nat} {nd nk : List Int} {k : Nat} (h : ndK r d nd k nk) (hd : k < d) : ndK r d nd (k + 1) nk := by
  refine ⟨h.1, fun x => (h.2 x).trans ?_⟩
  rw [if_neg (by rintro ⟨j, h1, h2, _⟩; omega), if_neg (by rintro ⟨j, h1, h2, _⟩; omega)]
/-- Who has not met, and what is to come, k players into a round. -/
def UK (r : List Nat) (top k : Nat) (i j : Nat) : Prop := (i ∈ r ∧ j ∈ r) ∨ (i = top ∧ j ∈ r.drop k) ∨ (j = top ∧ i ∈ r.drop k)
def wK (r : List Nat) (top d k : Nat) (nk : List Int) (i : Nat) : Int := if i ∈ r then nk.getD i 0 else if i = top then (d : Int) - (min k d : Nat) else 0
theorem drop_mem {r : List Nat} {k i x : Nat} (hr : r.Nodup) (hk : r[k]? = some i) : x ∈ r.drop (k + 1) ↔ x ∈ r.drop k ∧ x ≠ i := by
  obtain ⟨hkl, rfl⟩ := List.getElem?_eq_some_iff.1 hk
  rw [List.drop_eq_getElem_cons hkl]
  have hn := hr.sublist (List.drop_sublist k r)
  rw [List.drop_eq_getElem_cons hkl] at hn
  rw [List.nodup_cons] at hn
  constructor
  · exact fun h => ⟨List.mem_cons_of_mem _ h, fun e => hn.1 (e ▸ h)⟩
  · rintro ⟨h, hne⟩
    rcases List.mem_cons.1 h with h | h
    · exact absurd h hne
    · exact h
theorem UK_step {r : List Nat} {top k i : Nat} (hr : r.Nodup) (ht : top ∉ r) (hk : r[k]? = some i) (a b : Nat) : UK r top (k + 1) a b ↔ UK r top k a b ∧ ¬ (a = top ∧ b = i) ∧ ¬ (a = i ∧ b = top) := by
  have hir : i ∈ r := List.mem_of_getElem? hk
  have hti : top ≠ i := fun e => ht (e ▸ hir)
  have ht2 : ∀ m, top ∉ r.drop m := fun m h => ht (List.mem_of_mem_drop h)
  rw [UK, UK, drop_mem hr hk, drop_mem hr hk]
  constructor
  · rintro (⟨h1, h2⟩ | ⟨rfl, h2, h3⟩ | ⟨rfl, h2, h3⟩)
    · exact ⟨.inl ⟨h1, h2⟩, fun e => ht (e.1 ▸ h1), fun e => ht (e.2 ▸ h2)⟩
    · exact ⟨.inr (.inl ⟨rfl, h2⟩), fun e => h3 e.2, fun e => hti e.1⟩
    · exact ⟨.inr (.inr ⟨rfl, h2⟩), fun e => hti e.2, fun e => h3 e.1⟩
  · rintro ⟨h1 | ⟨rfl, h2⟩ | ⟨rfl, h2⟩, g1, g2⟩
    · exact .inl h1
    · exact .inr (.inl ⟨rfl, h2, fun e => g1 ⟨rfl, e⟩⟩)
    · exact .inr (.inr ⟨rfl, h2, fun e => g2 ⟨e, rfl⟩⟩)
end Go.Proofs.Tryd.Am

namespace Go.Proofs.Tryd.Am
open Go.Am Rb
set_option maxRecDepth 100000
set_option maxHeartbeats 1000000

theorem ov_cut {b m c : Nat} {K : Value → Prop} (hk : K (.slice (some ⟨b, 0, some 0⟩) m (m + 1 + c))) : sliceK prog 22 (.slice (some ⟨b, 0, some 0⟩) (m + 1) (m + 1 + c)) none (some (vint m)) none K := by
  simp only [sliceK, el_22, esz_3, bnd]
  simp
  refine ⟨by omega, ?_⟩
  exact hk
theorem getL {r : List Nat} {k i : Nat} (hk : r[k]? = some i) : r.getD k 0 = i := by rw [List.getD, hk]; rfl

theorem mk_inner [Tabs prog] {h hp : Heap} {v : Value} {bx bn bt bl n top d cap : Nat} {s : Nat → Int} {nd ts ys : List Int} {r : List Nat} (hn8 : n ≤ 8) (m : MS h hp bx bn bt n nd ts) (hnl : nd.length = n) (hb : hp[bl]? = some (.ints (iL r ++ ys) 3 false)) (hcap : cap = r.length + ys.length)
    (hb1 : bl ≠ bn) (hb2 : bl ≠ bt) (hr : r.Nodup) (hrn : ∀ x ∈ r, x < n) (ht : top < n) (htr : top ∉ r) (hd : nd.getD top 0 = (d : Int)) (hs : ∀ i, i < n → 0 ≤ s i ∧ s i ≤ 7)
    (mi : MI n s ts (UK r top 0) (wK r top d 0 nd)) {Q0 : Exit → Env → Heap → Prop}
    (hN : ∀ hq nk tk e, MS h hq bx bn bt n nk tk → hq[bl]? = some (.ints (iL r ++ ys) 3 false) → ndK r d nd r.length nk → MI n s tk (UK r top r.length) (wK r top d r.length nk) → ELe e [(0, v), (4, .pointer (some ⟨bx, 0, none⟩)), (5, tv bt n), (6, .slice (some ⟨bl, 0, some 0⟩) r.length cap), (8, vint top)] → Q0 .normal e hq) :
    aw prog 126 (.seq q52_17 (.block 4 (.loop l52_1))) Q0 [(0, v), (4, .pointer (some ⟨bx, 0, none⟩)), (5, tv bt n), (6, .slice (some ⟨bl, 0, some 0⟩) r.length cap), (8, vint top)] hp := by
  subst hcap
  have rl : ∀ {hq : Heap}, hq[bl]? = some (.ints (iL r ++ ys) 3 false) → IntSl hq (.slice (some ⟨bl, 0, some 0⟩) r.length (r.length + ys.length)) (iL r) := fun {hq} hb => (show OwnSl 3 hq _ (iL r) from .inr ⟨bl, ys, by rw [iL_len], hb⟩).int
  have hrl : r.length ≤ 8 := by
    have := nodup_le hr (m := List.range n) (fun x hx => List.mem_range.2 (hrn x hx))
    rw [List.length_range] at this; omega
  simp (maxSteps := 2000000) only [s52, ↓aw_region, ↓aw_skip, ↓aw_seq, ↓aw_block, ↓aw_exit, ↓aw_ret, ↓sops_nil, ↓sops_go, ↓dops_nil, ↓dopsX_nil, ↓dopsR_nil, ↓vdn, vup, extr_20, extr_21, extr_30, extr_31, extr_32, List.map_cons, List.map_nil, cond_true, cond_false, aop, aThen, aBlock, argEnv, ev, sput, sputO, binK, binI, unK, builtinK, pickK, Nat.reduceBEq, Nat.reduceAdd, Int.reduceBEq, Int.reduceBNe, Int.reduceLT, aPost, resK, tup, tyf, (rl hb).len, iL_len, ↓aw_loop_eq]
  refine aws_hide fun Q hQ => ?_
  refine aw_loop (γ := Nat × Heap × List Int × List Int) (fun g => g.1 ≤ r.length ∧ MS h g.2.1 bx bn bt n g.2.2.1 g.2.2.2 ∧ g.2.1[bl]? = some (.ints (iL r ++ ys) 3 false) ∧ ndK r d nd g.1 g.2.2.1 ∧ MI n s g.2.2.2 (UK r top g.1) (wK r top d g.1 g.2.2.1))
    (fun g => ([(0, v), (4, .pointer (some ⟨bx, 0, none⟩)), (5, tv bt n), (6, .slice (some ⟨bl, 0, some 0⟩) r.length (r.length + ys.length)), (8, vint top), (85, .slice (some ⟨bl, 0, some 0⟩) r.length (r.length + ys.length)), (86, vint r.length), (87, vint g.1)], g.2.1)) (fun g => r.length - g.1) (0, hp, nd, ts) ⟨Nat.zero_le _, m, hb, ⟨rfl, fun i => by rw [if_neg (by rintro ⟨j, _, h, _⟩; omega)]; exact (Int.sub_zero _).symm⟩, mi⟩ (by simp (maxSteps := 2000000) only [↓aw_region, ↓aw_skip, ↓aw_seq, ↓aw_block, ↓aw_exit, ↓aw_ret, ↓sops_nil, ↓sops_go, ↓dops_nil, ↓dopsX_nil, ↓dopsR_nil, ↓vdn, vup, extr_20, extr_21, extr_30, extr_31, extr_32, List.map_cons, List.map_nil, cond_true, cond_false, aop, aThen, aBlock, argEnv, ev, sput, sputO, binK, binI, unK, builtinK, pickK, Nat.reduceBEq, Nat.reduceAdd, Int.reduceBEq, Int.reduceBNe, Int.reduceLT, aPost, resK, tup, tyf, Int.natCast_zero]) rfl ?_
  clear mi hb m
  rintro ⟨k, hq, nk, tk⟩ ⟨hk, m, hb, hnk, mi⟩
  simp only at hk m hb hnk mi
  refine aw_hide fun Q2 hQ2 => ?_
  by_cases hkn : (k : Int) < r.length
  · have hk' : k < r.length := by omega
    have hkL : k < (iL r).length := by rw [iL_len]; exact hk'
    obtain ⟨i, hi⟩ : ∃ i, r[k]? = some i := ⟨_, List.getElem?_eq_getElem hk'⟩
    have hir : i ∈ r := List.mem_of_getElem? hi
    have hin := hrn i hir
    have hti : top ≠ i := fun e => htr (e ▸ hir)
    have hnkl : nk.length = n := hnk.1.trans hnl
    have htop : nk.getD top 0 = (d : Int) := by
      rw [hnk.2 top, if_neg, hd]; · omega
      rintro ⟨j, _, _, hj⟩; exact htr (List.mem_of_getElem? hj)
    have htl : top < nk.length := by omega
    have hkd : i ∈ r.drop k := by
      obtain ⟨hkl, e⟩ := List.getElem?_eq_some_iff.1 hi
      rw [← e, List.drop_eq_getElem_cons hkl]; exact List.mem_cons_self
    have hlo := hQ2
    by_cases hkd2 : (k : Int) < (d : Int)
    · have mi2 := mi.win (U' := UK r top (k + 1)) (w' := wK r top d (k + 1) nk) hn8 ht hin hti (.inr (.inl ⟨rfl, hkd⟩)) (.inr (.inr ⟨rfl, hkd⟩)) (fun a b _ _ _ => UK_step hr htr hi a b) (fun a ha => by
        rw [wK, wK]
        by_cases har : a ∈ r
        · rw [if_pos har, if_pos har, if_neg (fun (e : a = top) => htr (e ▸ har))]; exact (Int.sub_zero _).symm
        · rw [if_neg har, if_neg har]
          by_cases hat : a = top
          · rw [if_pos hat, if_pos hat, if_pos hat]; omega
          · rw [if_neg hat, if_neg hat, if_neg hat]; rfl)
      have htt : top < tk.length := by rw [mi.len]; exact ht
      simp (maxSteps := 2000000) only [s52, ↓aw_region, ↓aw_skip, ↓aw_seq, ↓aw_block, ↓aw_exit, ↓aw_ret, ↓sops_nil, ↓sops_go, ↓dops_nil, ↓dopsX_nil, ↓dopsR_nil, ↓vdn, vup, extr_20, extr_21, extr_30, extr_31, extr_32, List.map_cons, List.map_nil, cond_true, cond_false, aop, aThen, aBlock, argEnv, ev, sput, sputO, binK, binI, unK, builtinK, pickK, Nat.reduceBEq, Nat.reduceAdd, Int.reduceBEq, Int.reduceBNe, Int.reduceLT, aPost, resK, tup, tyf, l52_1, hkn, (rl hb).idx el_22 esz_3 hkL, (rl hb).load shp_3 hkL, iL_get, getL hi, m.ld, idxW ht, loadX m.nn htl, htop, hkd2]
      refine aw_drawX [] (by kernel_rfl) (by kernel_rfl) (by kernel_rfl) (by kernel_rfl) ?_
      simp (maxSteps := 2000000) only [s52, ↓aw_region, ↓aw_skip, ↓aw_seq, ↓aw_block, ↓aw_exit, ↓aw_ret, ↓sops_nil, ↓sops_go, ↓dops_nil, ↓dopsX_nil, ↓dopsR_nil, ↓vdn, vup, extr_20, extr_21, extr_30, extr_31, extr_32, List.map_cons, List.map_nil, cond_true, cond_false, aop, aThen, aBlock, argEnv, ev, sput, sputO, binK, binI, unK, builtinK, pickK, Nat.reduceBEq, Nat.reduceAdd, Int.reduceBEq, Int.reduceBNe, Int.reduceLT, aPost, resK, tup, tyf, idxT ht, loadX m.tt htt, Int.natCast_nonneg, or_orT hn8 (mi.rng top ht) hin, storeX m.tt htt, add1 (show k < 9223372036854775807 by omega)]
      refine hQ2 _ _ _ ⟨(k + 1, hq.set bt (.ints (orT tk top i) 3 false), nk, orT tk top i), ⟨hk', m.setT _, by rw [List.getElem?_set_ne (Ne.symm hb2)]; exact hb, ndK_keep hnk (by omega), mi2⟩, by simp only; omega, by simp (maxSteps := 2000000) only [↓aw_region, ↓aw_skip, ↓aw_seq, ↓aw_block, ↓aw_exit, ↓aw_ret, ↓sops_nil, ↓sops_go, ↓dops_nil, ↓dopsX_nil, ↓dopsR_nil, ↓vdn, vup, extr_20, extr_21, extr_30, extr_31, extr_32, List.map_cons, List.map_nil, cond_true, cond_false, aop, aThen, aBlock, argEnv, ev, sput, sputO, binK, binI, unK, builtinK, pickK, Nat.reduceBEq, Nat.reduceAdd, Int.reduceBEq, Int.reduceBNe, Int.reduceLT, aPost, resK, tup, tyf], rfl⟩
    · have hil : i < nk.length := by omega
      have hit : i < tk.length := by rw [mi.len]; exact hin
      have hw := mi.won i hin
      rw [wK, if_pos hir] at hw
      have hsi := hs i hin
      have hsc := scr_le (tk.getD i 0)
      have hsub : subV .i64 (nk.getD i 0) 1 = nk.getD i 0 - 1 := subV_id (by omega) (by omega)
      have hnk2 := ndK_step hr hnk hi (by omega) (show d ≤ k by omega)
      have mi2 := mi.win (U' := UK r top (k + 1)) (w' := wK r top d (k + 1) (nk.set i (nk.getD i 0 - 1))) hn8 hin ht (Ne.symm hti) (.inr (.inr ⟨rfl, hkd⟩)) (.inr (.inl ⟨rfl, hkd⟩)) (fun a b _ _ _ => by rw [UK_step hr htr hi a b, And.comm (a := ¬ (a = i ∧ b = top))]) (fun a ha => by
        rw [wK, wK]
        by_cases har : a ∈ r
        · rw [if_pos har, if_pos har]
          by_cases hai : a = i
          · subst hai; rw [if_pos rfl, List.getD, List.getElem?_set_self hil]; rfl
          · rw [if_neg hai, List.getD, List.getElem?_set_ne (Ne.symm hai)]; exact (Int.sub_zero _).symm
        · rw [if_neg har, if_neg har, if_neg (fun (e : a = i) => har (e ▸ hir))]
          split <;> omega)
      simp (maxSteps := 2000000) only [s52, ↓aw_region, ↓aw_skip, ↓aw_seq, ↓aw_block, ↓aw_exit, ↓aw_ret, ↓sops_nil, ↓sops_go, ↓dops_nil, ↓dopsX_nil, ↓dopsR_nil, ↓vdn, vup, extr_20, extr_21, extr_30, extr_31, extr_32, List.map_cons, List.map_nil, cond_true, cond_false, aop, aThen, aBlock, argEnv, ev, sput, sputO, binK, binI, unK, builtinK, pickK, Nat.reduceBEq, Nat.reduceAdd, Int.reduceBEq, Int.reduceBNe, Int.reduceLT, aPost, resK, tup, tyf, l52_1, hkn, (rl hb).idx el_22 esz_3 hkL, (rl hb).load shp_3 hkL, iL_get, getL hi, m.ld, idxW ht, loadX m.nn htl, htop, hkd2]
      have m2 := m.setT (orT tk i top)
      have e2 : (hq.set bt (.ints (tk.set i (((tk.getD i 0).toNat ||| 2 ^ top : Nat) : Int)) 3 false)) = hq.set bt (.ints (orT tk i top) 3 false) := rfl
      refine aw_drawX [] (by kernel_rfl) (by kernel_rfl) (by kernel_rfl) (by kernel_rfl) ?_
      simp (maxSteps := 2000000) only [s52, ↓aw_region, ↓aw_skip, ↓aw_seq, ↓aw_block, ↓aw_exit, ↓aw_ret, ↓sops_nil, ↓sops_go, ↓dops_nil, ↓dopsX_nil, ↓dopsR_nil, ↓vdn, vup, extr_20, extr_21, extr_30, extr_31, extr_32, List.map_cons, List.map_nil, cond_true, cond_false, aop, aThen, aBlock, argEnv, ev, sput, sputO, binK, binI, unK, builtinK, pickK, Nat.reduceBEq, Nat.reduceAdd, Int.reduceBEq, Int.reduceBNe, Int.reduceLT, aPost, resK, tup, tyf, idxT hin, loadX m.tt hit, Int.natCast_nonneg, or_orT hn8 (mi.rng i hin) ht, storeX m.tt hit, e2, m2.ld, idxW hin, loadX m2.nn hil, hsub, storeX m2.nn hil, add1 (show k < 9223372036854775807 by omega)]
      refine hQ2 _ _ _ ⟨(k + 1, (hq.set bt (.ints (orT tk i top) 3 false)).set bn (.ints (nk.set i (nk.getD i 0 - 1)) 3 false), nk.set i (nk.getD i 0 - 1), orT tk i top), ⟨hk', m2.setN _, by rw [List.getElem?_set_ne (Ne.symm hb1), List.getElem?_set_ne (Ne.symm hb2)]; exact hb, hnk2, mi2⟩, by simp only; omega, by simp (maxSteps := 2000000) only [↓aw_region, ↓aw_skip, ↓aw_seq, ↓aw_block, ↓aw_exit, ↓aw_ret, ↓sops_nil, ↓sops_go, ↓dops_nil, ↓dopsX_nil, ↓dopsR_nil, ↓vdn, vup, extr_20, extr_21, extr_30, extr_31, extr_32, List.map_cons, List.map_nil, cond_true, cond_false, aop, aThen, aBlock, argEnv, ev, sput, sputO, binK, binI, unK, builtinK, pickK, Nat.reduceBEq, Nat.reduceAdd, Int.reduceBEq, Int.reduceBNe, Int.reduceLT, aPost, resK, tup, tyf], rfl⟩
  · obtain rfl : k = r.length := by omega
    simp (maxSteps := 2000000) only [s52, ↓aw_region, ↓aw_skip, ↓aw_seq, ↓aw_block, ↓aw_exit, ↓aw_ret, ↓sops_nil, ↓sops_go, ↓dops_nil, ↓dopsX_nil, ↓dopsR_nil, ↓vdn, vup, extr_20, extr_21, extr_30, extr_31, extr_32, List.map_cons, List.map_nil, cond_true, cond_false, aop, aThen, aBlock, argEnv, ev, sput, sputO, binK, binI, unK, builtinK, pickK, Nat.reduceBEq, Nat.reduceAdd, Int.reduceBEq, Int.reduceBNe, Int.reduceLT, aPost, resK, tup, tyf, l52_1, Int.lt_irrefl]
    refine hQ2 _ _ _ (hQ _ _ _ ?_)
    simp (maxSteps := 2000000) only [s52, ↓aw_region, ↓aw_skip, ↓aw_seq, ↓aw_block, ↓aw_exit, ↓aw_ret, ↓sops_nil, ↓sops_go, ↓dops_nil, ↓dopsX_nil, ↓dopsR_nil, ↓vdn, vup, extr_20, extr_21, extr_30, extr_31, extr_32, List.map_cons, List.map_nil, cond_true, cond_false, aop, aThen, aBlock, argEnv, ev, sput, sputO, binK, binI, unK, builtinK, pickK, Nat.reduceBEq, Nat.reduceAdd, Int.reduceBEq, Int.reduceBNe, Int.reduceLT, aPost, resK, tup, tyf, if_true]
    exact hN hq nk tk _ m hb hnk mi (by simp (maxSteps := 2000000) only [↓aw_region, ↓aw_skip, ↓aw_seq, ↓aw_block, ↓aw_exit, ↓aw_ret, ↓sops_nil, ↓sops_go, ↓dops_nil, ↓dopsX_nil, ↓dopsR_nil, ↓vdn, vup, extr_20, extr_21, extr_30, extr_31, extr_32, List.map_cons, List.map_nil, cond_true, cond_false, aop, aThen, aBlock, argEnv, ev, sput, sputO, binK, binI, unK, builtinK, pickK, Nat.reduceBEq, Nat.reduceAdd, Int.reduceBEq, Int.reduceBNe, Int.reduceLT, aPost, resK, tup, tyf])
end Go.Proofs.Tryd.Am

namespace Go.Proofs.Tryd.Am
open Go.Am Rb
set_option maxRecDepth 100000
set_option maxHeartbeats 1000000

theorem isS_iff {xs : List Int} : isS xs = true ↔ 1 ≤ xs.length ∧ xs.length ≤ 8 ∧ srt xs = true ∧ ∀ x ∈ xs, 0 ≤ x ∧ x ≤ 7 := by
  simp only [isS, Bool.and_eq_true, List.all_eq_true, decide_eq_true_eq]
  exact ⟨fun h => ⟨h.1.1.1, h.1.1.2, h.1.2, h.2⟩, fun h => ⟨⟨⟨h.1, h.2.1⟩, h.2.2.1⟩, h.2.2.2⟩⟩
theorem isS_ends {xs : List Int} (h1 : 1 ≤ xs.length) (h8 : xs.length ≤ 8) (hs : srt xs = true) : isS xs = true ↔ 0 ≤ xs.getD 0 0 ∧ xs.getD (xs.length - 1) 0 ≤ 7 := by
  rw [isS_iff]
  have hm : ∀ i, i < xs.length → xs.getD i 0 ∈ xs := fun i hi => by rw [List.getD, List.getElem?_eq_getElem hi, Option.getD_some]; exact List.getElem_mem _
  constructor
  · rintro ⟨_, _, _, h⟩
    exact ⟨(h _ (hm 0 (by omega))).1, (h _ (hm _ (by omega))).2⟩
  · rintro ⟨g1, g2⟩
    refine ⟨h1, h8, hs, fun x hx => ?_⟩
    obtain ⟨i, hi, rfl⟩ := List.getElem_of_mem hx
    have e1 := srt_le hs i 0 (by omega)
    have e2 := srt_le hs (xs.length - 1 - i) i (by omega)
    rw [show i + (xs.length - 1 - i) = xs.length - 1 by omega] at e2
    rw [Nat.zero_add] at e1
    have e3 : xs.getD i 0 = xs[i] := by rw [List.getD, List.getElem?_eq_getElem hi]; rfl
    omega
/-- What Make gives back. -/
def makeR (h' : Heap) (xs : List Int) (r : Value) : Prop :=
  if isS xs = true then (if poss xs.length (nl xs) = true then ∃ w ts, r = .tuple #[w, .int .i64 0] ∧ IntSl h' w ts ∧ trn ts = true ∧ ts.length = xs.length ∧ ∀ i, i < xs.length → (scr (ts.getD i 0) : Int) = xs.getD i 0 else r = .tuple #[.slice none 0 0, .int .i64 4]) else r = .tuple #[.slice none 0 0, .int .i64 2]
theorem iL_range (n : Nat) : iL (List.range (n + 1)) = iL (List.range n) ++ [((n : Nat) : Int)] := by rw [List.range_succ, iL, List.map_append]; rfl
theorem range_getD (xs : List Int) : (List.range xs.length).map (fun i => xs.getD i 0) = xs := by
  apply List.ext_getElem (by simp)
  intro i h1 h2
  simp [List.getD, List.getElem?_eq_getElem h2]

/-- What stands at the beginning of a round. -/
structure RMk (h hp : Heap) (bx bn bt bl n : Nat) (xs : List Int) (L : List Nat) (nd ts ys : List Int) : Prop where
  nodup : L.Nodup
  lt : ∀ x ∈ L, x < n
  m : MS h hp bx bn bt n nd ts
  nl : nd.length = n
  b : hp[bl]? = some (.ints (iL L ++ ys) 3 false)
  mi : MI n (fun i => xs.getD i 0) ts (fun i j => i ∈ L ∧ j ∈ L) (fun i => if i ∈ L then nd.getD i 0 else 0)
  g : gd L (fun i => nd.getD i 0) = poss n (Am.nl xs)

theorem s52_callW [Tabs Tryd.prog] {args : List Value} {h : Heap} {Q : Value → Heap → Prop} (hsz : args.length ≤ 126) (hk : AWS Tryd.prog 126 s52 (aPost Tryd.prog [.tmp 2, .tmp 3] Q) (argEnv 0 args) h) : ACall Tryd.prog 52 args h Q :=
  acall_w Tryd.func52 rfl (enters_of Tryd.func52 (by kernel_rfl) rfl) rfl rfl (by decide) s52_strip s52_ok hsz hk
theorem make_rounds [Tabs prog] {h hp : Heap} {v : Value} {bx bn bt bl n : Nat} {xs ys : List Int} {nd ts : List Int} (hn1 : 1 ≤ n) (hn8 : n ≤ 8) (hxn : xs.length = n) (hS : isS xs = true) (hne : bl ≠ bx ∧ bl ≠ bn ∧ bl ≠ bt) (hbl : h.length ≤ bl)
    (rs : RMk h hp bx bn bt bl n xs (List.range n) nd ts ys) {N : Env → Heap → Prop} {Q0 : Exit → Env → Heap → Prop} (hQ0 : ∀ e hq, poss n (nl xs) = false → Ext (fun _ => False) h hq → ELe e [(2, .slice none 0 0), (3, .int .i64 4)] → Q0 .ret e hq)
    (hN : ∀ hq nk tk ys' e, poss n (nl xs) = true → RMk h hq bx bn bt bl n xs [] nk tk ys' → ELe e [(0, v), (5, tv bt n)] → N e hq) :
    AWS prog 126 (.block 2 (.loop l52_2)) (aThen N Q0) [(0, v), (4, .pointer (some ⟨bx, 0, none⟩)), (5, tv bt n), (6, .slice (some ⟨bl, 0, some 0⟩) n (n + ys.length))] hp := by
  have hSx := isS_iff.1 hS
  have hsx : ∀ i, i < n → 0 ≤ xs.getD i 0 ∧ xs.getD i 0 ≤ 7 := fun i hi => hSx.2.2.2 _ (by rw [List.getD, List.getElem?_eq_getElem (by omega), Option.getD_some]; exact List.getElem_mem _)
  refine aws_block ?_
  refine aws_hide fun Q hQ => ?_
  refine aw_loopW (γ := Heap × List Nat × List Int × List Int × List Int) (fun g => RMk h g.1 bx bn bt bl n xs g.2.1 g.2.2.1 g.2.2.2.1 g.2.2.2.2)
    (fun g => ([(0, v), (4, .pointer (some ⟨bx, 0, none⟩)), (5, tv bt n), (6, .slice (some ⟨bl, 0, some 0⟩) g.2.1.length (g.2.1.length + g.2.2.2.2.length))], g.1)) (fun g => g.2.1.length) (hp, List.range n, nd, ts, ys) rs (by simp (maxSteps := 2000000) only [↓aw_region, ↓aw_skip, ↓aw_seq, ↓aw_block, ↓aw_exit, ↓aw_ret, ↓sops_nil, ↓sops_go, ↓dops_nil, ↓dopsX_nil, ↓dopsR_nil, ↓vdn, vup, extr_20, extr_21, extr_30, extr_31, extr_32, List.map_cons, List.map_nil, cond_true, cond_false, aop, aThen, aBlock, argEnv, ev, sput, sputO, binK, binI, unK, builtinK, pickK, Nat.reduceBEq, Nat.reduceAdd, Int.reduceBEq, Int.reduceBNe, Int.reduceLT, aPost, resK, tup, tyf, List.length_range]) rfl ?_
  clear rs ys nd ts hp
  rintro ⟨hp, L, nd, ts, ys⟩ rs
  simp only at rs
  refine aws_hide fun Q2 hQ2 => ?_
  simp only [l52_2]
  by_cases h0 : L = []
  · subst h0
    refine aws_cut fun N1 hN1 => ?_
    simp (maxSteps := 2000000) only [s52, ↓aw_region, ↓aw_skip, ↓aw_seq, ↓aw_block, ↓aw_exit, ↓aw_ret, ↓sops_nil, ↓sops_go, ↓dops_nil, ↓dopsX_nil, ↓dopsR_nil, ↓vdn, vup, extr_20, extr_21, extr_30, extr_31, extr_32, List.map_cons, List.map_nil, cond_true, cond_false, aop, aThen, aBlock, argEnv, ev, sput, sputO, binK, binI, unK, builtinK, pickK, Nat.reduceBEq, Nat.reduceAdd, Int.reduceBEq, Int.reduceBNe, Int.reduceLT, aPost, resK, tup, tyf, lenK, List.length_nil, Int.natCast_zero, gt_iff_lt, Int.lt_irrefl]
    refine hQ2 _ _ _ (hQ _ _ _ ?_)
    simp (maxSteps := 2000000) only [s52, ↓aw_region, ↓aw_skip, ↓aw_seq, ↓aw_block, ↓aw_exit, ↓aw_ret, ↓sops_nil, ↓sops_go, ↓dops_nil, ↓dopsX_nil, ↓dopsR_nil, ↓vdn, vup, extr_20, extr_21, extr_30, extr_31, extr_32, List.map_cons, List.map_nil, cond_true, cond_false, aop, aThen, aBlock, argEnv, ev, sput, sputO, binK, binI, unK, builtinK, pickK, Nat.reduceBEq, Nat.reduceAdd, Int.reduceBEq, Int.reduceBNe, Int.reduceLT, aPost, resK, tup, tyf, if_true]
    refine hN hp nd ts ys _ ?_ rs (by simp (maxSteps := 2000000) only [↓aw_region, ↓aw_skip, ↓aw_seq, ↓aw_block, ↓aw_exit, ↓aw_ret, ↓sops_nil, ↓sops_go, ↓dops_nil, ↓dopsX_nil, ↓dopsR_nil, ↓vdn, vup, extr_20, extr_21, extr_30, extr_31, extr_32, List.map_cons, List.map_nil, cond_true, cond_false, aop, aThen, aBlock, argEnv, ev, sput, sputO, binK, binI, unK, builtinK, pickK, Nat.reduceBEq, Nat.reduceAdd, Int.reduceBEq, Int.reduceBNe, Int.reduceLT, aPost, resK, tup, tyf])
    have := rs.g
    rw [← this]; rfl
  · have hpos : (0 : Int) < (L.length : Int) := by cases L with | nil => exact absurd rfl h0 | cons x l => simp
    have hLn : L.length ≤ n := by
      have := nodup_le rs.nodup (m := List.range n) (fun x hx => List.mem_range.2 (rs.lt x hx))
      rw [List.length_range] at this; exact this
    have hb100 : ∀ i, i ∈ L → -100 ≤ nd.getD i 0 ∧ nd.getD i 0 ≤ 100 := fun i hi => by
      have := rs.mi.won i (rs.lt i hi)
      simp only [if_pos hi] at this
      have h1 := hsx i (rs.lt i hi)
      have h2 := scr_le (ts.getD i 0)
      omega
    refine aws_cut fun N2 hN2 => ?_
    simp (maxSteps := 2000000) only [s52, ↓aw_region, ↓aw_skip, ↓aw_seq, ↓aw_block, ↓aw_exit, ↓aw_ret, ↓sops_nil, ↓sops_go, ↓dops_nil, ↓dopsX_nil, ↓dopsR_nil, ↓vdn, vup, extr_20, extr_21, extr_30, extr_31, extr_32, List.map_cons, List.map_nil, cond_true, cond_false, aop, aThen, aBlock, argEnv, ev, sput, sputO, binK, binI, unK, builtinK, pickK, Nat.reduceBEq, Nat.reduceAdd, Int.reduceBEq, Int.reduceBNe, Int.reduceLT, aPost, resK, tup, tyf, lenK, gt_iff_lt, hpos]
    refine hN2 [(0, v), (4, .pointer (some ⟨bx, 0, none⟩)), (5, tv bt n), (6, .slice (some ⟨bl, 0, some 0⟩) L.length (L.length + ys.length))] _ _ ?_ (by simp (maxSteps := 2000000) only [↓aw_region, ↓aw_skip, ↓aw_seq, ↓aw_block, ↓aw_exit, ↓aw_ret, ↓sops_nil, ↓sops_go, ↓dops_nil, ↓dopsX_nil, ↓dopsR_nil, ↓vdn, vup, extr_20, extr_21, extr_30, extr_31, extr_32, List.map_cons, List.map_nil, cond_true, cond_false, aop, aThen, aBlock, argEnv, ev, sput, sputO, binK, binI, unK, builtinK, pickK, Nat.reduceBEq, Nat.reduceAdd, Int.reduceBEq, Int.reduceBNe, Int.reduceLT, aPost, resK, tup, tyf])
    clear hN2
    try clear N2
    refine aws_block ?_
    refine aws_cut fun N3 hN3 => ?_
    simp (maxSteps := 2000000) only [s52, ↓aw_region, ↓aw_skip, ↓aw_seq, ↓aw_block, ↓aw_exit, ↓aw_ret, ↓sops_nil, ↓sops_go, ↓dops_nil, ↓dopsX_nil, ↓dopsR_nil, ↓vdn, vup, extr_20, extr_21, extr_30, extr_31, extr_32, List.map_cons, List.map_nil, cond_true, cond_false, aop, aThen, aBlock, argEnv, ev, sput, sputO, binK, binI, unK, builtinK, pickK, Nat.reduceBEq, Nat.reduceAdd, Int.reduceBEq, Int.reduceBNe, Int.reduceLT, aPost, resK, tup, tyf, callK, List.nil_append, List.append_nil, List.toList_toArray, List.cons_append, List.map_toArray]
    refine ((show ACall prog 87 [ov bl L.length ys.length, .func (.func 88) #[] #[.pointer (some ⟨bx, 0, none⟩)]] hp _ from sortF_call (key := fun i => nd.getD i 0) (fun x hx => by have := hb100 x hx; omega) (fun L' x y hx hy => make1_call (rs.m.setL hbl hne.1 hne.2.1 hne.2.2 _).box (rs.m.setL hbl hne.1 hne.2.1 hne.2.2 _).nn rs.nl (rs.lt x hx) (rs.lt y hy) (hb100 x hx) (hb100 y hy)) rs.b (by omega) (fun x hx => by have := rs.lt x hx; omega))).mono ?_
    rintro rr h1 ⟨L', hp1, hp2, rfl⟩
    refine hN3 [(0, v), (4, .pointer (some ⟨bx, 0, none⟩)), (5, tv bt n), (6, .slice (some ⟨bl, 0, some 0⟩) L.length (L.length + ys.length))] _ _ ?_ (by simp (maxSteps := 2000000) only [↓aw_region, ↓aw_skip, ↓aw_seq, ↓aw_block, ↓aw_exit, ↓aw_ret, ↓sops_nil, ↓sops_go, ↓dops_nil, ↓dopsX_nil, ↓dopsR_nil, ↓vdn, vup, extr_20, extr_21, extr_30, extr_31, extr_32, List.map_cons, List.map_nil, cond_true, cond_false, aop, aThen, aBlock, argEnv, ev, sput, sputO, binK, binI, unK, builtinK, pickK, Nat.reduceBEq, Nat.reduceAdd, Int.reduceBEq, Int.reduceBNe, Int.reduceLT, aPost, resK, tup, tyf])
    clear hN3
    try clear N3
    have hL'n : L'.length = L.length := hp1.length_eq
    obtain ⟨r, top, rfl⟩ : ∃ r top, L' = r ++ [top] := ⟨L'.dropLast, L'.getLast (fun e => by rw [e] at hL'n; simp at hL'n; exact h0 (List.length_eq_zero_iff.1 hL'n.symm)), (List.dropLast_concat_getLast _).symm⟩
    have hlr : L.length = r.length + 1 := by simpa using hL'n.symm
    have hm : ∀ x, x ∈ L ↔ x ∈ r ∨ x = top := fun x => by rw [← hp1.mem_iff]; simp
    have hnd' := hp1.nodup_iff.2 rs.nodup
    obtain ⟨hnr, _, hdis⟩ := List.nodup_append.1 hnd'
    have htr : top ∉ r := fun h => hdis top h top (by simp) rfl
    have htn : top < n := rs.lt top ((hm top).2 (.inr rfl))
    have m1 := rs.m.setL hbl hne.1 hne.2.1 hne.2.2 (.ints (iL (r ++ [top]) ++ ys) 3 false)
    have hbb : (hp.set bl (.ints (iL (r ++ [top]) ++ ys) 3 false))[bl]? = some (.ints (iL r ++ ((top : Int) :: ys)) 3 false) := by
      rw [get_set (get_lt rs.b)]; simp [iL]
    have hgd : gd (r ++ [top]) (fun i => nd.getD i 0) = poss n (nl xs) := (gd_perm hp1 _).trans rs.g
    generalize hp.set bl (.ints (iL (r ++ [top]) ++ ys) 3 false) = h1 at m1 hbb ⊢
    have hrl : IntSl h1 (.slice (some ⟨bl, 0, some 0⟩) (r.length + 1) (r.length + 1 + ys.length)) (iL (r ++ [top])) := by
      have : OwnSl 3 h1 (.slice (some ⟨bl, 0, some 0⟩) (iL (r ++ [top])).length ((iL (r ++ [top])).length + ys.length)) (iL (r ++ [top])) := .inr ⟨bl, ys, rfl, by rw [hbb]; simp [iL]⟩
      rw [iL_len, List.length_append, List.length_singleton] at this
      exact this.int
    rw [hlr]
    have hr8 : r.length ≤ 8 := by omega
    have e1 : subV .i64 ((r.length + 1 : Nat) : Int) 1 = ((r.length : Nat) : Int) := by rw [subV_id (by omega) (by omega)]; omega
    have hil : r.length < (iL (r ++ [top])).length := by rw [iL_len]; simp
    have hgt : (r ++ [top]).getD r.length 0 = top := by simp [List.getD]
    refine aws_cut fun N4 hN4 => ?_
    simp (maxSteps := 2000000) only [s52, ↓aw_region, ↓aw_skip, ↓aw_seq, ↓aw_block, ↓aw_exit, ↓aw_ret, ↓sops_nil, ↓sops_go, ↓dops_nil, ↓dopsX_nil, ↓dopsR_nil, ↓vdn, vup, extr_20, extr_21, extr_30, extr_31, extr_32, List.map_cons, List.map_nil, cond_true, cond_false, aop, aThen, aBlock, argEnv, ev, sput, sputO, binK, binI, unK, builtinK, pickK, Nat.reduceBEq, Nat.reduceAdd, Int.reduceBEq, Int.reduceBNe, Int.reduceLT, aPost, resK, tup, tyf, lenK, e1, hrl.idx el_22 esz_3 hil, hrl.load shp_3 hil, iL_get, hgt]
    refine hN4 [(0, v), (4, .pointer (some ⟨bx, 0, none⟩)), (5, tv bt n), (6, .slice (some ⟨bl, 0, some 0⟩) (r.length + 1) (r.length + 1 + ys.length)), (8, vint top)] _ _ ?_ (by simp (maxSteps := 2000000) only [↓aw_region, ↓aw_skip, ↓aw_seq, ↓aw_block, ↓aw_exit, ↓aw_ret, ↓sops_nil, ↓sops_go, ↓dops_nil, ↓dopsX_nil, ↓dopsR_nil, ↓vdn, vup, extr_20, extr_21, extr_30, extr_31, extr_32, List.map_cons, List.map_nil, cond_true, cond_false, aop, aThen, aBlock, argEnv, ev, sput, sputO, binK, binI, unK, builtinK, pickK, Nat.reduceBEq, Nat.reduceAdd, Int.reduceBEq, Int.reduceBNe, Int.reduceLT, aPost, resK, tup, tyf])
    clear hN4
    try clear N4
    refine aws_cut fun N5 hN5 => ?_
    simp (maxSteps := 2000000) only [s52, ↓aw_region, ↓aw_skip, ↓aw_seq, ↓aw_block, ↓aw_exit, ↓aw_ret, ↓sops_nil, ↓sops_go, ↓dops_nil, ↓dopsX_nil, ↓dopsR_nil, ↓vdn, vup, extr_20, extr_21, extr_30, extr_31, extr_32, List.map_cons, List.map_nil, cond_true, cond_false, aop, aThen, aBlock, argEnv, ev, sput, sputO, binK, binI, unK, builtinK, pickK, Nat.reduceBEq, Nat.reduceAdd, Int.reduceBEq, Int.reduceBNe, Int.reduceLT, aPost, resK, tup, tyf, lenK, e1, Option.map_none, Option.map_some]
    refine ov_cut ?_
    refine hN5 [(0, v), (4, .pointer (some ⟨bx, 0, none⟩)), (5, tv bt n), (6, .slice (some ⟨bl, 0, some 0⟩) r.length (r.length + 1 + ys.length)), (8, vint top)] _ _ ?_ (by simp (maxSteps := 2000000) only [↓aw_region, ↓aw_skip, ↓aw_seq, ↓aw_block, ↓aw_exit, ↓aw_ret, ↓sops_nil, ↓sops_go, ↓dops_nil, ↓dopsX_nil, ↓dopsR_nil, ↓vdn, vup, extr_20, extr_21, extr_30, extr_31, extr_32, List.map_cons, List.map_nil, cond_true, cond_false, aop, aThen, aBlock, argEnv, ev, sput, sputO, binK, binI, unK, builtinK, pickK, Nat.reduceBEq, Nat.reduceAdd, Int.reduceBEq, Int.reduceBNe, Int.reduceLT, aPost, resK, tup, tyf])
    clear hN5
    try clear N5
    have htl : top < nd.length := by rw [rs.nl]; exact htn
    have hfail : poss n (nl xs) = false → ∀ e, ELe e [(2, .slice none 0 0), (3, .int .i64 4)] → Q2 .ret e h1 := fun hf e he => hQ2 _ _ _ (hQ _ _ _ (hQ0 e h1 hf m1.E he))
    by_cases hneg : nd.getD top 0 < 0
    · have hf : poss n (nl xs) = false := by rw [← hgd]; exact gd_neg (x := top) (by simp) hneg
      refine aws_cut fun N6 hN6 => ?_
      simp (maxSteps := 2000000) only [s52, ↓aw_region, ↓aw_skip, ↓aw_seq, ↓aw_block, ↓aw_exit, ↓aw_ret, ↓sops_nil, ↓sops_go, ↓dops_nil, ↓dopsX_nil, ↓dopsR_nil, ↓vdn, vup, extr_20, extr_21, extr_30, extr_31, extr_32, List.map_cons, List.map_nil, cond_true, cond_false, aop, aThen, aBlock, argEnv, ev, sput, sputO, binK, binI, unK, builtinK, pickK, Nat.reduceBEq, Nat.reduceAdd, Int.reduceBEq, Int.reduceBNe, Int.reduceLT, aPost, resK, tup, tyf, m1.ld, idxW htn, loadX m1.nn htl, hneg]
      exact hfail hf _ (by simp (maxSteps := 2000000) only [↓aw_region, ↓aw_skip, ↓aw_seq, ↓aw_block, ↓aw_exit, ↓aw_ret, ↓sops_nil, ↓sops_go, ↓dops_nil, ↓dopsX_nil, ↓dopsR_nil, ↓vdn, vup, extr_20, extr_21, extr_30, extr_31, extr_32, List.map_cons, List.map_nil, cond_true, cond_false, aop, aThen, aBlock, argEnv, ev, sput, sputO, binK, binI, unK, builtinK, pickK, Nat.reduceBEq, Nat.reduceAdd, Int.reduceBEq, Int.reduceBNe, Int.reduceLT, aPost, resK, tup, tyf])
    · obtain ⟨d, hd⟩ : ∃ d : Nat, nd.getD top 0 = (d : Int) := ⟨(nd.getD top 0).toNat, by omega⟩
      by_cases hbig : (r.length : Int) < (d : Int)
      · have hf : poss n (nl xs) = false := by rw [← hgd]; exact gd_many hp2 (by show (r.length : Int) < nd.getD top 0; omega)
        have hneg' : ¬ (d : Int) < 0 := by omega
        refine aws_cut fun N7 hN7 => ?_
        simp (maxSteps := 2000000) only [s52, ↓aw_region, ↓aw_skip, ↓aw_seq, ↓aw_block, ↓aw_exit, ↓aw_ret, ↓sops_nil, ↓sops_go, ↓dops_nil, ↓dopsX_nil, ↓dopsR_nil, ↓vdn, vup, extr_20, extr_21, extr_30, extr_31, extr_32, List.map_cons, List.map_nil, cond_true, cond_false, aop, aThen, aBlock, argEnv, ev, sput, sputO, binK, binI, unK, builtinK, pickK, Nat.reduceBEq, Nat.reduceAdd, Int.reduceBEq, Int.reduceBNe, Int.reduceLT, aPost, resK, tup, tyf, m1.ld, idxW htn, loadX m1.nn htl, hd, hneg', lenK, gt_iff_lt, hbig]
        exact hfail hf _ (by simp (maxSteps := 2000000) only [↓aw_region, ↓aw_skip, ↓aw_seq, ↓aw_block, ↓aw_exit, ↓aw_ret, ↓sops_nil, ↓sops_go, ↓dops_nil, ↓dopsX_nil, ↓dopsR_nil, ↓vdn, vup, extr_20, extr_21, extr_30, extr_31, extr_32, List.map_cons, List.map_nil, cond_true, cond_false, aop, aThen, aBlock, argEnv, ev, sput, sputO, binK, binI, unK, builtinK, pickK, Nat.reduceBEq, Nat.reduceAdd, Int.reduceBEq, Int.reduceBNe, Int.reduceLT, aPost, resK, tup, tyf])
      · have hneg' : ¬ (d : Int) < 0 := by omega
        have hdl : d ≤ r.length := by omega
        refine aws_cut fun N8 hN8 => ?_
        simp (maxSteps := 2000000) only [s52, ↓aw_region, ↓aw_skip, ↓aw_seq, ↓aw_block, ↓aw_exit, ↓aw_ret, ↓sops_nil, ↓sops_go, ↓dops_nil, ↓dopsX_nil, ↓dopsR_nil, ↓vdn, vup, extr_20, extr_21, extr_30, extr_31, extr_32, List.map_cons, List.map_nil, cond_true, cond_false, aop, aThen, aBlock, argEnv, ev, sput, sputO, binK, binI, unK, builtinK, pickK, Nat.reduceBEq, Nat.reduceAdd, Int.reduceBEq, Int.reduceBNe, Int.reduceLT, aPost, resK, tup, tyf, m1.ld, idxW htn, loadX m1.nn htl, hd, hneg', lenK, gt_iff_lt, hbig]
        refine hN8 [(0, v), (4, .pointer (some ⟨bx, 0, none⟩)), (5, tv bt n), (6, .slice (some ⟨bl, 0, some 0⟩) r.length (r.length + 1 + ys.length)), (8, vint top)] _ _ ?_ (by simp (maxSteps := 2000000) only [↓aw_region, ↓aw_skip, ↓aw_seq, ↓aw_block, ↓aw_exit, ↓aw_ret, ↓sops_nil, ↓sops_go, ↓dops_nil, ↓dopsX_nil, ↓dopsR_nil, ↓vdn, vup, extr_20, extr_21, extr_30, extr_31, extr_32, List.map_cons, List.map_nil, cond_true, cond_false, aop, aThen, aBlock, argEnv, ev, sput, sputO, binK, binI, unK, builtinK, pickK, Nat.reduceBEq, Nat.reduceAdd, Int.reduceBEq, Int.reduceBNe, Int.reduceLT, aPost, resK, tup, tyf])
        clear hN8
        try clear N8
        have mi0 : MI n (fun i => xs.getD i 0) ts (UK r top 0) (wK r top d 0 nd) := rs.mi.congr (fun i j hi hj hij => by
          rw [UK, List.drop_zero, hm, hm]
          constructor
          · rintro (⟨h1, h2⟩ | ⟨h1, h2⟩ | ⟨h1, h2⟩)
            · exact ⟨.inl h1, .inl h2⟩
            · exact ⟨.inr h1, .inl h2⟩
            · exact ⟨.inl h2, .inr h1⟩
          · rintro ⟨h1 | h1, h2 | h2⟩
            · exact .inl ⟨h1, h2⟩
            · exact .inr (.inr ⟨h2, h1⟩)
            · exact .inr (.inl ⟨h1, h2⟩)
            · exact absurd (h1.trans h2.symm) hij) (fun i hi => by
          rw [wK]
          by_cases h1 : i ∈ r
          · rw [if_pos h1, if_pos ((hm i).2 (.inl h1))]
          · rw [if_neg h1]
            by_cases h2 : i = top
            · rw [if_pos h2, if_pos ((hm i).2 (.inr h2)), h2, hd]; simp
            · rw [if_neg h2, if_neg (fun h => (hm i).1 h |>.elim h1 h2)])
        refine aw_aws ?_
        refine mk_inner (cap := r.length + 1 + ys.length) (ys := (top : Int) :: ys) (nd := nd) (ts := ts) hn8 m1 rs.nl hbb (by rw [List.length_cons]; omega) hne.2.1 hne.2.2 hnr (fun x hx => rs.lt x ((hm x).2 (.inl hx))) htn htr hd hsx mi0 fun hq nk tk e m2 hb2 hnk mi2 he => ?_
        refine hQ2 _ _ _ ⟨(hq, r, nk, tk, (top : Int) :: ys), ⟨hnr, fun x hx => rs.lt x ((hm x).2 (.inl hx)), m2, hnk.1.trans rs.nl, hb2, mi2.congr (fun i j _ _ _ => ?_) (fun i _ => ?_), ?_⟩, by simp only; omega, ?_, rfl⟩
        · rw [UK, List.drop_length]; simp
        · rw [wK]
          by_cases h1 : i ∈ r
          · rw [if_pos h1, if_pos h1]
          · rw [if_neg h1, if_neg h1]; split <;> omega
        · rw [← hgd]
          refine (gd_step hp2 hd hdl fun j hj => ?_).symm
          rw [hnk.2 r[j]]
          congr 1
          by_cases hdj : d ≤ j
          · rw [if_pos hdj, if_pos ⟨j, hdj, hj, List.getElem?_eq_getElem hj⟩]
          · rw [if_neg hdj, if_neg]
            rintro ⟨i, h1, h2, h3⟩
            rw [List.getElem?_eq_getElem h2] at h3
            have hne := List.nodup_iff_pairwise_ne.1 hnr
            exact (List.pairwise_iff_getElem.1 hne) j i hj h2 (by omega) (Option.some.inj h3).symm
        · have hc : r.length + 1 + ys.length = r.length + ((top : Int) :: ys).length := by rw [List.length_cons]; omega
          rw [hc] at he
          intro p hp
          exact he p (by simp only [List.mem_cons, List.not_mem_nil, or_false] at hp ⊢; rcases hp with h | h | h | h <;> simp [h])
end Go.Proofs.Tryd.Am

namespace Go.Proofs.Tryd.Am
open Go.Am Rb
set_option maxRecDepth 100000
set_option maxHeartbeats 1000000

theorem srt_nl {xs : List Int} (h : srt xs = true) : (nl xs).Pairwise (· ≤ ·) :=
  List.pairwise_map.2 ((srt_pw h).imp fun h => by omega)
theorem makeR_no {h' : Heap} {xs : List Int} (h : isS xs = false) : makeR h' xs (.tuple #[.slice none 0 0, .int .i64 2]) := by
  rw [makeR, h, if_neg (by decide)]
theorem make_chk [Tabs prog] {h : Heap} {v : Value} {xs : List Int} (hv : IntSl h v xs) (hl : xs.length < 9223372036854775808) {Q : Exit → Env → Heap → Prop}
    (hbad : isS xs = false → ∀ e, ELe e [(2, .slice none 0 0), (3, .int .i64 2)] → Q .ret e h) (hok : isS xs = true → ∀ e, ELe e [(0, v)] → Q .normal e h) :
    aw prog 126 (.seq q52_1 (.cond (.tmp 38) (.seq q52_2 .ret) .skip)) Q [(0, v), (2, .slice none 0 0), (3, .int .i64 0)] h := by
  by_cases h1 : (xs.length : Int) < 1
  · have hno : isS xs = false := by
      cases hS : isS xs with
      | false => rfl
      | true => have := isS_iff.1 hS; omega
    simp (maxSteps := 2000000) only [s52, ↓aw_region, ↓aw_skip, ↓aw_seq, ↓aw_block, ↓aw_exit, ↓aw_ret, ↓sops_nil, ↓sops_go, ↓dops_nil, ↓dopsX_nil, ↓dopsR_nil, ↓vdn, vup, extr_20, extr_21, extr_30, extr_31, extr_32, List.map_cons, List.map_nil, cond_true, cond_false, aop, aThen, aBlock, argEnv, ev, sput, sputO, binK, binI, unK, builtinK, pickK, Nat.reduceBEq, Nat.reduceAdd, Int.reduceBEq, Int.reduceBNe, Int.reduceLT, aPost, resK, tup, tyf, hv.len, h1]
    exact hbad hno _ (by simp (maxSteps := 2000000) only [↓aw_region, ↓aw_skip, ↓aw_seq, ↓aw_block, ↓aw_exit, ↓aw_ret, ↓sops_nil, ↓sops_go, ↓dops_nil, ↓dopsX_nil, ↓dopsR_nil, ↓vdn, vup, extr_20, extr_21, extr_30, extr_31, extr_32, List.map_cons, List.map_nil, cond_true, cond_false, aop, aThen, aBlock, argEnv, ev, sput, sputO, binK, binI, unK, builtinK, pickK, Nat.reduceBEq, Nat.reduceAdd, Int.reduceBEq, Int.reduceBNe, Int.reduceLT, aPost, resK, tup, tyf])
  by_cases h8 : (8 : Int) < (xs.length : Int)
  · have hno : isS xs = false := by
      cases hS : isS xs with
      | false => rfl
      | true => have := isS_iff.1 hS; omega
    simp (maxSteps := 2000000) only [s52, ↓aw_region, ↓aw_skip, ↓aw_seq, ↓aw_block, ↓aw_exit, ↓aw_ret, ↓sops_nil, ↓sops_go, ↓dops_nil, ↓dopsX_nil, ↓dopsR_nil, ↓vdn, vup, extr_20, extr_21, extr_30, extr_31, extr_32, List.map_cons, List.map_nil, cond_true, cond_false, aop, aThen, aBlock, argEnv, ev, sput, sputO, binK, binI, unK, builtinK, pickK, Nat.reduceBEq, Nat.reduceAdd, Int.reduceBEq, Int.reduceBNe, Int.reduceLT, aPost, resK, tup, tyf, hv.len, h1, gt_iff_lt, h8]
    exact hbad hno _ (by simp (maxSteps := 2000000) only [↓aw_region, ↓aw_skip, ↓aw_seq, ↓aw_block, ↓aw_exit, ↓aw_ret, ↓sops_nil, ↓sops_go, ↓dops_nil, ↓dopsX_nil, ↓dopsR_nil, ↓vdn, vup, extr_20, extr_21, extr_30, extr_31, extr_32, List.map_cons, List.map_nil, cond_true, cond_false, aop, aThen, aBlock, argEnv, ev, sput, sputO, binK, binI, unK, builtinK, pickK, Nat.reduceBEq, Nat.reduceAdd, Int.reduceBEq, Int.reduceBNe, Int.reduceLT, aPost, resK, tup, tyf])
  have hl1 : 1 ≤ xs.length := by omega
  have hl8 : xs.length ≤ 8 := by omega
  have hi0 : 0 < xs.length := by omega
  have hi9 : xs.length - 1 < xs.length := by omega
  have e1 : subV .i64 (xs.length : Int) 1 = ((xs.length - 1 : Nat) : Int) := by rw [subV_id (by omega) (by omega)]; omega
  have hix0 : ∀ {K : Value → Prop}, idxAddrK prog 22 v (.int .i64 0) K = K (elemP v 1 0) := fun {K} => hv.idx (i := 0) el_22 esz_3 hi0 K
  simp (maxSteps := 2000000) only [s52, ↓aw_region, ↓aw_skip, ↓aw_seq, ↓aw_block, ↓aw_exit, ↓aw_ret, ↓sops_nil, ↓sops_go, ↓dops_nil, ↓dopsX_nil, ↓dopsR_nil, ↓vdn, vup, extr_20, extr_21, extr_30, extr_31, extr_32, List.map_cons, List.map_nil, cond_true, cond_false, aop, aThen, aBlock, argEnv, ev, sput, sputO, binK, binI, unK, builtinK, pickK, Nat.reduceBEq, Nat.reduceAdd, Int.reduceBEq, Int.reduceBNe, Int.reduceLT, aPost, resK, tup, tyf, callK, List.nil_append, List.append_nil, List.toList_toArray, List.cons_append, hv.len, h1, gt_iff_lt, h8]
  refine (issorted_call hv hl).mono ?_
  rintro _ h ⟨rfl, rfl⟩
  cases hs : srt xs with
  | false =>
    have hno : isS xs = false := by
      cases hS : isS xs with
      | false => rfl
      | true => have := (isS_iff.1 hS).2.2.1; rw [hs] at this; cases this
    simp (maxSteps := 2000000) only [s52, ↓aw_region, ↓aw_skip, ↓aw_seq, ↓aw_block, ↓aw_exit, ↓aw_ret, ↓sops_nil, ↓sops_go, ↓dops_nil, ↓dopsX_nil, ↓dopsR_nil, ↓vdn, vup, extr_20, extr_21, extr_30, extr_31, extr_32, List.map_cons, List.map_nil, cond_true, cond_false, aop, aThen, aBlock, argEnv, ev, sput, sputO, binK, binI, unK, builtinK, pickK, Nat.reduceBEq, Nat.reduceAdd, Int.reduceBEq, Int.reduceBNe, Int.reduceLT, aPost, resK, tup, tyf, Bool.not_false]
    exact hbad hno _ (by simp (maxSteps := 2000000) only [↓aw_region, ↓aw_skip, ↓aw_seq, ↓aw_block, ↓aw_exit, ↓aw_ret, ↓sops_nil, ↓sops_go, ↓dops_nil, ↓dopsX_nil, ↓dopsR_nil, ↓vdn, vup, extr_20, extr_21, extr_30, extr_31, extr_32, List.map_cons, List.map_nil, cond_true, cond_false, aop, aThen, aBlock, argEnv, ev, sput, sputO, binK, binI, unK, builtinK, pickK, Nat.reduceBEq, Nat.reduceAdd, Int.reduceBEq, Int.reduceBNe, Int.reduceLT, aPost, resK, tup, tyf])
  | true =>
  have hends := isS_ends hl1 hl8 hs
  by_cases hneg : xs.getD 0 0 < 0
  · have hno : isS xs = false := by
      cases hS : isS xs with
      | false => rfl
      | true => have := (hends.1 hS).1; omega
    simp (maxSteps := 2000000) only [s52, ↓aw_region, ↓aw_skip, ↓aw_seq, ↓aw_block, ↓aw_exit, ↓aw_ret, ↓sops_nil, ↓sops_go, ↓dops_nil, ↓dopsX_nil, ↓dopsR_nil, ↓vdn, vup, extr_20, extr_21, extr_30, extr_31, extr_32, List.map_cons, List.map_nil, cond_true, cond_false, aop, aThen, aBlock, argEnv, ev, sput, sputO, binK, binI, unK, builtinK, pickK, Nat.reduceBEq, Nat.reduceAdd, Int.reduceBEq, Int.reduceBNe, Int.reduceLT, aPost, resK, tup, tyf, Bool.not_true, hix0, hv.load shp_3 hi0, hneg]
    exact hbad hno _ (by simp (maxSteps := 2000000) only [↓aw_region, ↓aw_skip, ↓aw_seq, ↓aw_block, ↓aw_exit, ↓aw_ret, ↓sops_nil, ↓sops_go, ↓dops_nil, ↓dopsX_nil, ↓dopsR_nil, ↓vdn, vup, extr_20, extr_21, extr_30, extr_31, extr_32, List.map_cons, List.map_nil, cond_true, cond_false, aop, aThen, aBlock, argEnv, ev, sput, sputO, binK, binI, unK, builtinK, pickK, Nat.reduceBEq, Nat.reduceAdd, Int.reduceBEq, Int.reduceBNe, Int.reduceLT, aPost, resK, tup, tyf])
  by_cases hbig : (7 : Int) < xs.getD (xs.length - 1) 0
  · have hno : isS xs = false := by
      cases hS : isS xs with
      | false => rfl
      | true => have := (hends.1 hS).2; omega
    simp (maxSteps := 2000000) only [s52, ↓aw_region, ↓aw_skip, ↓aw_seq, ↓aw_block, ↓aw_exit, ↓aw_ret, ↓sops_nil, ↓sops_go, ↓dops_nil, ↓dopsX_nil, ↓dopsR_nil, ↓vdn, vup, extr_20, extr_21, extr_30, extr_31, extr_32, List.map_cons, List.map_nil, cond_true, cond_false, aop, aThen, aBlock, argEnv, ev, sput, sputO, binK, binI, unK, builtinK, pickK, Nat.reduceBEq, Nat.reduceAdd, Int.reduceBEq, Int.reduceBNe, Int.reduceLT, aPost, resK, tup, tyf, Bool.not_true, hix0, hv.load shp_3 hi0, hneg, hv.len, e1, hv.idx el_22 esz_3 hi9, hv.load shp_3 hi9, gt_iff_lt, hbig]
    exact hbad hno _ (by simp (maxSteps := 2000000) only [↓aw_region, ↓aw_skip, ↓aw_seq, ↓aw_block, ↓aw_exit, ↓aw_ret, ↓sops_nil, ↓sops_go, ↓dops_nil, ↓dopsX_nil, ↓dopsR_nil, ↓vdn, vup, extr_20, extr_21, extr_30, extr_31, extr_32, List.map_cons, List.map_nil, cond_true, cond_false, aop, aThen, aBlock, argEnv, ev, sput, sputO, binK, binI, unK, builtinK, pickK, Nat.reduceBEq, Nat.reduceAdd, Int.reduceBEq, Int.reduceBNe, Int.reduceLT, aPost, resK, tup, tyf])
  have hS : isS xs = true := hends.2 ⟨by omega, by omega⟩
  simp (maxSteps := 2000000) only [s52, ↓aw_region, ↓aw_skip, ↓aw_seq, ↓aw_block, ↓aw_exit, ↓aw_ret, ↓sops_nil, ↓sops_go, ↓dops_nil, ↓dopsX_nil, ↓dopsR_nil, ↓vdn, vup, extr_20, extr_21, extr_30, extr_31, extr_32, List.map_cons, List.map_nil, cond_true, cond_false, aop, aThen, aBlock, argEnv, ev, sput, sputO, binK, binI, unK, builtinK, pickK, Nat.reduceBEq, Nat.reduceAdd, Int.reduceBEq, Int.reduceBNe, Int.reduceLT, aPost, resK, tup, tyf, Bool.not_true, hix0, hv.load shp_3 hi0, hneg, hv.len, e1, hv.idx el_22 esz_3 hi9, hv.load shp_3 hi9, gt_iff_lt, hbig]
  exact hok hS _ (by simp (maxSteps := 2000000) only [↓aw_region, ↓aw_skip, ↓aw_seq, ↓aw_block, ↓aw_exit, ↓aw_ret, ↓sops_nil, ↓sops_go, ↓dops_nil, ↓dopsX_nil, ↓dopsR_nil, ↓vdn, vup, extr_20, extr_21, extr_30, extr_31, extr_32, List.map_cons, List.map_nil, cond_true, cond_false, aop, aThen, aBlock, argEnv, ev, sput, sputO, binK, binI, unK, builtinK, pickK, Nat.reduceBEq, Nat.reduceAdd, Int.reduceBEq, Int.reduceBNe, Int.reduceLT, aPost, resK, tup, tyf])
end Go.Proofs.Tryd.Am
