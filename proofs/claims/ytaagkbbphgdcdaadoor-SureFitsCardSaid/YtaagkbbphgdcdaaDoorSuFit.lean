/-
  sure: the least rank, as the program finds it.
-/
import Derived.Test.YtaagkbbphgdcdaaDoorSuSpan
set_option linter.all false
namespace Go.Proofs.Tryd.Am
open Go.Am Sr
set_option maxRecDepth 100000
set_option maxHeartbeats 1000000

theorem okRow_iff {g : Nat → Nat} {n i r : Nat} (hr : r < 2 ^ n) : Rn.okRow g n i r ↔ (r.testBit i && (less (less r (2 ^ i)) (g i) == 0)) = true := by
  rw [Bool.and_eq_true, beq_iff_eq, Rn.okRow]
  constructor
  · rintro ⟨_, h2, h3⟩
    refine ⟨h2, ?_⟩
    apply Nat.eq_of_testBit_eq
    intro b
    rw [less_testBit, less_testBit, Nat.testBit_two_pow, Nat.zero_testBit]
    cases hb : r.testBit b with
    | false => rfl
    | true =>
      by_cases hbi : i = b
      · simp [hbi]
      · rw [h3 b (Ne.symm hbi) hb]; simp
  · rintro ⟨h1, h2⟩
    refine ⟨hr, h1, fun b hb hrb => ?_⟩
    have := congrArg (fun z : Nat => z.testBit b) h2
    simp only [less_testBit, Nat.testBit_two_pow, Nat.zero_testBit, hrb] at this
    cases hg : (g i).testBit b with
    | true => rfl
    | false => rw [hg] at this; simp [Ne.symm hb] at this

/-- What the search leans on. -/
structure FH (h : Heap) (gv : Value) (bb bg bx bf : Nat) : Prop where
  g : h[bg]? = some (.cells [gv] 22 false)
  x : h[bx]? = some (.cells [gv] 56 false)
  f : h[bf]? = some (.cells [.func (.func 74) #[] #[pt bb, pt bg, pt bx, pt bf]] 75 false)
  ng : bg ≠ bb
  nx : bx ≠ bb
  nf : bf ≠ bb
theorem FH.ext {h h' : Heap} {gv : Value} {bb bg bx bf : Nat} (f : FH h gv bb bg bx bf) (hE : Ext (fun i => i = bb) h h') : FH h' gv bb bg bx bf :=
  { f with g := (hE.2 _ (get_lt f.g) f.ng).trans f.g, x := (hE.2 _ (get_lt f.x) f.nx).trans f.x, f := (hE.2 _ (get_lt f.f) f.nf).trans f.f }
theorem intSl_but {h h' : Heap} {v : Value} {xs : List Int} {bb : Nat} (hv : IntSl h v xs) (hn : blkOf v ≠ some bb) (hE : Ext (fun i => i = bb) h h') : IntSl h' v xs :=
  hv.same fun b hb => hE.2 b (hv.lt hb) fun e => hn (by rw [hb, e])
theorem spSl_but {h h' : Heap} {v : Value} {B : List Nat} {bb : Nat} (hv : SpSl h v B) (hn : blkOf v ≠ some bb) (hE : Ext (fun i => i = bb) h h') : SpSl h' v B := hv.imp id fun h => ⟨h.1, intSl_but h.2 hn hE⟩
theorem s74_callW [Tabs Tryd.prog] {args : List Value} {h : Heap} {Q : Value → Heap → Prop} (hsz : args.length ≤ 50) (hk : AWS Tryd.prog 50 s74 (aPost Tryd.prog [] Q) (argEnv 0 args) h) : ACall Tryd.prog 74 args h Q :=
  acall_w Tryd.func74 rfl (enters_of Tryd.func74 (by kernel_rfl) rfl) rfl rfl (by decide) s74_strip s74_ok hsz hk
theorem fit1_call [Tabs prog] {gv : Value} {xs : List Int} {bb bg bx bf n : Nat} (g : Gs xs) (hn : xs.length = n) (h5 : n ≤ 5) (hgb : blkOf gv ≠ some bb) : ∀ (k i : Nat), i + k = n → ∀ {h : Heap} {B R : List Nat} {best : Nat} {sv : Value},
    FH h gv bb bg bx bf → IntSl h gv xs → h[bb]? = some (.cells [vint best] 3 false) → SpSl h sv B → blkOf sv ≠ some bb → Rn.Bs B → (∀ b ∈ B, b < 2 ^ n) → (∀ y, Rn.S B y = Rn.S R y) → best ≤ n →
    ACall prog 74 [vint i, sv, pt bb, pt bg, pt bx, pt bf] h fun _ h' => ∃ best' : Nat, h'[bb]? = some (.cells [vint best'] 3 false) ∧ Ext (fun i => i = bb) h h' ∧ Rn.IsMin best (Rn.Rk (gn xs) n k i R) best' := by
  intro k
  induction k with
  | zero =>
    intro i hik h B R best sv fh hg hb hsv hsb hB hl hS hbn
    have hdim : Rn.dim n R = B.length := by rw [← Rn.dim_congr hS, Rn.dim_ind hl hB.ind]
    refine s74_callW (by simp) ?_
    simp only [s74]
    refine aws_cut fun N1 hN1 => ?_
    by_cases hge : best ≤ B.length
    · have hge2 : (best : Int) ≤ (B.length : Int) := by omega
      simp (config := {maxSteps := 2000000}) only [s74, ↓aw_region, ↓aw_skip, ↓aw_seq, ↓aw_block, ↓aw_exit, ↓aw_ret, ↓sops_nil, ↓sops_go, ↓dops_nil, ↓dopsX_nil, ↓dopsR_nil, ↓vdn, vup, extr_20, extr_21, extr_30, extr_31, extr_32, List.map_cons, List.map_nil, cond_true, cond_false, aop, aThen, aBlock, argEnv, ev, sput, sputO, binK, binI, unK, builtinK, pickK, Nat.reduceBEq, Nat.reduceAdd, Int.reduceBEq, Int.reduceBNe, Int.reduceLT, aPost, resK, tup, tyf, hsv.int.len, iL_len, List.length_map, load1 hb shp_3, ge_iff_le, hge2]
      exact ⟨best, hb, Ext.refl _ _, .skip fun w hw => by have := hw.ge; omega⟩
    · have hge2 : ¬ (best : Int) ≤ (B.length : Int) := by omega
      simp (config := {maxSteps := 2000000}) only [s74, ↓aw_region, ↓aw_skip, ↓aw_seq, ↓aw_block, ↓aw_exit, ↓aw_ret, ↓sops_nil, ↓sops_go, ↓dops_nil, ↓dopsX_nil, ↓dopsR_nil, ↓vdn, vup, extr_20, extr_21, extr_30, extr_31, extr_32, List.map_cons, List.map_nil, cond_true, cond_false, aop, aThen, aBlock, argEnv, ev, sput, sputO, binK, binI, unK, builtinK, pickK, Nat.reduceBEq, Nat.reduceAdd, Int.reduceBEq, Int.reduceBNe, Int.reduceLT, aPost, resK, tup, tyf, hsv.int.len, iL_len, List.length_map, load1 hb shp_3, ge_iff_le, hge2]
      refine hN1 [(0, vint i), (1, sv), (2, pt bb), (3, pt bg), (4, pt bx), (5, pt bf)] _ _ ?_ (by simp (config := {maxSteps := 2000000}) only [↓aw_region, ↓aw_skip, ↓aw_seq, ↓aw_block, ↓aw_exit, ↓aw_ret, ↓sops_nil, ↓sops_go, ↓dops_nil, ↓dopsX_nil, ↓dopsR_nil, ↓vdn, vup, extr_20, extr_21, extr_30, extr_31, extr_32, List.map_cons, List.map_nil, cond_true, cond_false, aop, aThen, aBlock, argEnv, ev, sput, sputO, binK, binI, unK, builtinK, pickK, Nat.reduceBEq, Nat.reduceAdd, Int.reduceBEq, Int.reduceBNe, Int.reduceLT, aPost, resK, tup, tyf])
      clear hN1
      try clear N1
      have hii : ((i : Int) == (xs.length : Int)) = true := by rw [beq_iff_eq]; omega
      refine aws_cut fun N2 hN2 => ?_
      simp (config := {maxSteps := 2000000}) only [s74, ↓aw_region, ↓aw_skip, ↓aw_seq, ↓aw_block, ↓aw_exit, ↓aw_ret, ↓sops_nil, ↓sops_go, ↓dops_nil, ↓dopsX_nil, ↓dopsR_nil, ↓vdn, vup, extr_20, extr_21, extr_30, extr_31, extr_32, List.map_cons, List.map_nil, cond_true, cond_false, aop, aThen, aBlock, argEnv, ev, sput, sputO, binK, binI, unK, builtinK, pickK, Nat.reduceBEq, Nat.reduceAdd, Int.reduceBEq, Int.reduceBNe, Int.reduceLT, aPost, resK, tup, tyf, load1 fh.g shp_22, hg.len, hii, hsv.int.len, iL_len, List.length_map, Am.storeI hb shp_3]
      refine ⟨B.length, get_set (get_lt hb) _, Ext.set _ rfl, ?_⟩
      exact ⟨.inr ((Rn.Rk.zero _).2 hdim.symm), by omega, fun w hw => by have := (Rn.Rk.zero _).1 hw; omega⟩
  | succ k ih =>
    intro i hik h B R best sv fh hg hb hsv hsb hB hl hS hbn
    have hdim : Rn.dim n R = B.length := by rw [← Rn.dim_congr hS, Rn.dim_ind hl hB.ind]
    have hnn : ∀ i : Nat, (0 : Int) ≤ (i : Int) := Int.natCast_nonneg
    have h32 : 2 ^ n ≤ 2 ^ 5 := Nat.pow_le_pow_right (by decide) h5
    have hp0 := Nat.two_pow_pos n
    obtain ⟨M, hM⟩ : ∃ M, 2 ^ n = M := ⟨_, rfl⟩
    rw [hM] at h32 hp0
    have hiX : i < xs.length := by omega
    obtain ⟨hge, hgl⟩ := gnE g hiX
    refine s74_callW (by simp) ?_
    simp only [s74]
    refine aws_cut fun N3 hN3 => ?_
    by_cases hgB : best ≤ B.length
    · have hge2 : (best : Int) ≤ (B.length : Int) := by omega
      simp (config := {maxSteps := 2000000}) only [s74, ↓aw_region, ↓aw_skip, ↓aw_seq, ↓aw_block, ↓aw_exit, ↓aw_ret, ↓sops_nil, ↓sops_go, ↓dops_nil, ↓dopsX_nil, ↓dopsR_nil, ↓vdn, vup, extr_20, extr_21, extr_30, extr_31, extr_32, List.map_cons, List.map_nil, cond_true, cond_false, aop, aThen, aBlock, argEnv, ev, sput, sputO, binK, binI, unK, builtinK, pickK, Nat.reduceBEq, Nat.reduceAdd, Int.reduceBEq, Int.reduceBNe, Int.reduceLT, aPost, resK, tup, tyf, hsv.int.len, iL_len, List.length_map, load1 hb shp_3, ge_iff_le, hge2]
      exact ⟨best, hb, Ext.refl _ _, .skip fun w hw => by have := hw.ge; omega⟩
    have hge2 : ¬ (best : Int) ≤ (B.length : Int) := by omega
    simp (config := {maxSteps := 2000000}) only [s74, ↓aw_region, ↓aw_skip, ↓aw_seq, ↓aw_block, ↓aw_exit, ↓aw_ret, ↓sops_nil, ↓sops_go, ↓dops_nil, ↓dopsX_nil, ↓dopsR_nil, ↓vdn, vup, extr_20, extr_21, extr_30, extr_31, extr_32, List.map_cons, List.map_nil, cond_true, cond_false, aop, aThen, aBlock, argEnv, ev, sput, sputO, binK, binI, unK, builtinK, pickK, Nat.reduceBEq, Nat.reduceAdd, Int.reduceBEq, Int.reduceBNe, Int.reduceLT, aPost, resK, tup, tyf, hsv.int.len, iL_len, List.length_map, load1 hb shp_3, ge_iff_le, hge2]
    refine hN3 [(0, vint i), (1, sv), (2, pt bb), (3, pt bg), (4, pt bx), (5, pt bf)] _ _ ?_ (by simp (config := {maxSteps := 2000000}) only [↓aw_region, ↓aw_skip, ↓aw_seq, ↓aw_block, ↓aw_exit, ↓aw_ret, ↓sops_nil, ↓sops_go, ↓dops_nil, ↓dopsX_nil, ↓dopsR_nil, ↓vdn, vup, extr_20, extr_21, extr_30, extr_31, extr_32, List.map_cons, List.map_nil, cond_true, cond_false, aop, aThen, aBlock, argEnv, ev, sput, sputO, binK, binI, unK, builtinK, pickK, Nat.reduceBEq, Nat.reduceAdd, Int.reduceBEq, Int.reduceBNe, Int.reduceLT, aPost, resK, tup, tyf])
    clear hN3
    try clear N3
    have hii : ((i : Int) == (xs.length : Int)) = false := by rw [beq_eq_false_iff_ne]; omega
    refine aws_cut fun N4 hN4 => ?_
    simp (config := {maxSteps := 2000000}) only [s74, ↓aw_region, ↓aw_skip, ↓aw_seq, ↓aw_block, ↓aw_exit, ↓aw_ret, ↓sops_nil, ↓sops_go, ↓dops_nil, ↓dopsX_nil, ↓dopsR_nil, ↓vdn, vup, extr_20, extr_21, extr_30, extr_31, extr_32, List.map_cons, List.map_nil, cond_true, cond_false, aop, aThen, aBlock, argEnv, ev, sput, sputO, binK, binI, unK, builtinK, pickK, Nat.reduceBEq, Nat.reduceAdd, Int.reduceBEq, Int.reduceBNe, Int.reduceLT, aPost, resK, tup, tyf, load1 fh.g shp_22, hg.len, hii]
    refine hN4 [(0, vint i), (1, sv), (2, pt bb), (3, pt bg), (4, pt bx), (5, pt bf)] _ _ ?_ (by simp (config := {maxSteps := 2000000}) only [↓aw_region, ↓aw_skip, ↓aw_seq, ↓aw_block, ↓aw_exit, ↓aw_ret, ↓sops_nil, ↓sops_go, ↓dops_nil, ↓dopsX_nil, ↓dopsR_nil, ↓vdn, vup, extr_20, extr_21, extr_30, extr_31, extr_32, List.map_cons, List.map_nil, cond_true, cond_false, aop, aThen, aBlock, argEnv, ev, sput, sputO, binK, binI, unK, builtinK, pickK, Nat.reduceBEq, Nat.reduceAdd, Int.reduceBEq, Int.reduceBNe, Int.reduceLT, aPost, resK, tup, tyf])
    clear hN4
    try clear N4
    have hmk : (((M - 1 + 1 : Nat) : Int)) = ((M : Nat) : Int) := by omega
    refine aws_cut fun N5 hN5 => ?_
    simp (config := {maxSteps := 2000000}) only [s74, ↓aw_region, ↓aw_skip, ↓aw_seq, ↓aw_block, ↓aw_exit, ↓aw_ret, ↓sops_nil, ↓sops_go, ↓dops_nil, ↓dopsX_nil, ↓dopsR_nil, ↓vdn, vup, extr_20, extr_21, extr_30, extr_31, extr_32, List.map_cons, List.map_nil, cond_true, cond_false, aop, aThen, aBlock, argEnv, ev, sput, sputO, binK, binI, unK, builtinK, pickK, Nat.reduceBEq, Nat.reduceAdd, Int.reduceBEq, Int.reduceBNe, Int.reduceLT, aPost, resK, tup, tyf, callK, List.nil_append, List.append_nil, List.toList_toArray, List.cons_append, load1 fh.x shp_56]
    refine (all_call hg (by omega) (show 2 ^ xs.length = M by rw [hn]; exact hM)).mono ?_
    rintro _ h ⟨rfl, rfl⟩
    simp (config := {maxSteps := 2000000}) only [s74, ↓aw_region, ↓aw_skip, ↓aw_seq, ↓aw_block, ↓aw_exit, ↓aw_ret, ↓sops_nil, ↓sops_go, ↓dops_nil, ↓dopsX_nil, ↓dopsR_nil, ↓vdn, vup, extr_20, extr_21, extr_30, extr_31, extr_32, List.map_cons, List.map_nil, cond_true, cond_false, aop, aThen, aBlock, argEnv, ev, sput, sputO, binK, binI, unK, builtinK, pickK, Nat.reduceBEq, Nat.reduceAdd, Int.reduceBEq, Int.reduceBNe, Int.reduceLT, aPost, resK, tup, tyf, add1 (show M - 1 < 9223372036854775807 by omega), hmk]
    refine hN5 [(0, vint i), (1, sv), (2, pt bb), (3, pt bg), (4, pt bx), (5, pt bf), (21, vint M), (22, .int .i64 0)] _ _ ?_ (by simp (config := {maxSteps := 2000000}) only [↓aw_region, ↓aw_skip, ↓aw_seq, ↓aw_block, ↓aw_exit, ↓aw_ret, ↓sops_nil, ↓sops_go, ↓dops_nil, ↓dopsX_nil, ↓dopsR_nil, ↓vdn, vup, extr_20, extr_21, extr_30, extr_31, extr_32, List.map_cons, List.map_nil, cond_true, cond_false, aop, aThen, aBlock, argEnv, ev, sput, sputO, binK, binI, unK, builtinK, pickK, Nat.reduceBEq, Nat.reduceAdd, Int.reduceBEq, Int.reduceBNe, Int.reduceLT, aPost, resK, tup, tyf])
    clear hN5
    try clear N5
    refine aws_block ?_
    refine aws_hide fun Q hQ => ?_
    refine aw_loopW (γ := Nat × Heap × Nat) (fun s => s.1 ≤ M ∧ Ext (fun i => i = bb) h s.2.1 ∧ s.2.1[bb]? = some (.cells [vint s.2.2] 3 false) ∧ Rn.IsMin best (fun w => ∃ r, r < s.1 ∧ Rn.okRow (gn xs) n i r ∧ Rn.Rk (gn xs) n k (i + 1) (R ++ [r]) w) s.2.2)
      (fun s => ([(0, vint i), (1, sv), (2, pt bb), (3, pt bg), (4, pt bx), (5, pt bf), (21, vint M), (22, vint s.1)], s.2.1)) (fun s => M - s.1) (0, h, best) ⟨Nat.zero_le _, Ext.refl _ _, hb, (Rn.IsMin.start best).congr fun w => ⟨False.elim, fun ⟨r, hr, _⟩ => by omega⟩⟩ (by simp (config := {maxSteps := 2000000}) only [↓aw_region, ↓aw_skip, ↓aw_seq, ↓aw_block, ↓aw_exit, ↓aw_ret, ↓sops_nil, ↓sops_go, ↓dops_nil, ↓dopsX_nil, ↓dopsR_nil, ↓vdn, vup, extr_20, extr_21, extr_30, extr_31, extr_32, List.map_cons, List.map_nil, cond_true, cond_false, aop, aThen, aBlock, argEnv, ev, sput, sputO, binK, binI, unK, builtinK, pickK, Nat.reduceBEq, Nat.reduceAdd, Int.reduceBEq, Int.reduceBNe, Int.reduceLT, aPost, resK, tup, tyf, Int.natCast_zero]) rfl ?_
    rintro ⟨r, hp, bst⟩ ⟨hr, hE, hbp, hmin⟩
    simp only at hr hE hbp hmin
    refine aws_hide fun Q2 hQ2 => ?_
    simp only [l74_0]
    by_cases hrn : (r : Int) < M
    · have hr' : r < M := by omega
      have hrM : r < 2 ^ n := by rw [hM]; exact hr'
      have fhp := fh.ext hE
      have hgp := intSl_but hg hgb hE
      have hsvp := spSl_but hsv hsb hE
      refine aws_cut fun N6 hN6 => ?_
      simp (config := {maxSteps := 2000000}) only [s74, ↓aw_region, ↓aw_skip, ↓aw_seq, ↓aw_block, ↓aw_exit, ↓aw_ret, ↓sops_nil, ↓sops_go, ↓dops_nil, ↓dopsX_nil, ↓dopsR_nil, ↓vdn, vup, extr_20, extr_21, extr_30, extr_31, extr_32, List.map_cons, List.map_nil, cond_true, cond_false, aop, aThen, aBlock, argEnv, ev, sput, sputO, binK, binI, unK, builtinK, pickK, Nat.reduceBEq, Nat.reduceAdd, Int.reduceBEq, Int.reduceBNe, Int.reduceLT, aPost, resK, tup, tyf, hrn]
      refine hN6 [(0, vint i), (1, sv), (2, pt bb), (3, pt bg), (4, pt bx), (5, pt bf), (21, vint M), (22, vint r), (23, .bool true)] _ _ ?_ (by simp (config := {maxSteps := 2000000}) only [↓aw_region, ↓aw_skip, ↓aw_seq, ↓aw_block, ↓aw_exit, ↓aw_ret, ↓sops_nil, ↓sops_go, ↓dops_nil, ↓dopsX_nil, ↓dopsR_nil, ↓vdn, vup, extr_20, extr_21, extr_30, extr_31, extr_32, List.map_cons, List.map_nil, cond_true, cond_false, aop, aThen, aBlock, argEnv, ev, sput, sputO, binK, binI, unK, builtinK, pickK, Nat.reduceBEq, Nat.reduceAdd, Int.reduceBEq, Int.reduceBNe, Int.reduceLT, aPost, resK, tup, tyf])
      clear hN6
      try clear N6
      refine aws_cut fun N7 hN7 => ?_
      simp (config := {maxSteps := 2000000}) only [s74, ↓aw_region, ↓aw_skip, ↓aw_seq, ↓aw_block, ↓aw_exit, ↓aw_ret, ↓sops_nil, ↓sops_go, ↓dops_nil, ↓dopsX_nil, ↓dopsR_nil, ↓vdn, vup, extr_20, extr_21, extr_30, extr_31, extr_32, List.map_cons, List.map_nil, cond_true, cond_false, aop, aThen, aBlock, argEnv, ev, sput, sputO, binK, binI, unK, builtinK, pickK, Nat.reduceBEq, Nat.reduceAdd, Int.reduceBEq, Int.reduceBNe, Int.reduceLT, aPost, resK, tup, tyf]
      refine hN7 [(0, vint i), (1, sv), (2, pt bb), (3, pt bg), (4, pt bx), (5, pt bf), (21, vint M), (22, vint r)] _ _ ?_ (by simp (config := {maxSteps := 2000000}) only [↓aw_region, ↓aw_skip, ↓aw_seq, ↓aw_block, ↓aw_exit, ↓aw_ret, ↓sops_nil, ↓sops_go, ↓dops_nil, ↓dopsX_nil, ↓dopsR_nil, ↓vdn, vup, extr_20, extr_21, extr_30, extr_31, extr_32, List.map_cons, List.map_nil, cond_true, cond_false, aop, aThen, aBlock, argEnv, ev, sput, sputO, binK, binI, unK, builtinK, pickK, Nat.reduceBEq, Nat.reduceAdd, Int.reduceBEq, Int.reduceBNe, Int.reduceLT, aPost, resK, tup, tyf])
      clear hN7
      try clear N7
      refine aws_cutW fun K hK => ?_
      have fin : ∀ (hq : Heap) (b2 : Nat), Ext (fun i => i = bb) h hq → hq[bb]? = some (.cells [vint b2] 3 false) → Rn.IsMin best (fun w => ∃ r', r' < r + 1 ∧ Rn.okRow (gn xs) n i r' ∧ Rn.Rk (gn xs) n k (i + 1) (R ++ [r']) w) b2 → ∀ e, ELe e [(0, vint i), (1, sv), (2, pt bb), (3, pt bg), (4, pt bx), (5, pt bf), (21, vint M), (22, vint r)] → K e hq := by
        intro hq b2 hE2 hb2 hm2 e he
        refine hK [(0, vint i), (1, sv), (2, pt bb), (3, pt bg), (4, pt bx), (5, pt bf), (21, vint M), (22, vint r)] _ _ ?_ he
        refine aw_aws ?_
        simp (config := {maxSteps := 2000000}) only [s74, ↓aw_region, ↓aw_skip, ↓aw_seq, ↓aw_block, ↓aw_exit, ↓aw_ret, ↓sops_nil, ↓sops_go, ↓dops_nil, ↓dopsX_nil, ↓dopsR_nil, ↓vdn, vup, extr_20, extr_21, extr_30, extr_31, extr_32, List.map_cons, List.map_nil, cond_true, cond_false, aop, aThen, aBlock, argEnv, ev, sput, sputO, binK, binI, unK, builtinK, pickK, Nat.reduceBEq, Nat.reduceAdd, Int.reduceBEq, Int.reduceBNe, Int.reduceLT, aPost, resK, tup, tyf, add1 (show r < 9223372036854775807 by omega)]
        exact hQ2 _ _ _ ⟨(r + 1, hq, b2), ⟨by simp only; omega, hE2, hb2, hm2⟩, by simp only; omega, by simp (config := {maxSteps := 2000000}) only [↓aw_region, ↓aw_skip, ↓aw_seq, ↓aw_block, ↓aw_exit, ↓aw_ret, ↓sops_nil, ↓sops_go, ↓dops_nil, ↓dopsX_nil, ↓dopsR_nil, ↓vdn, vup, extr_20, extr_21, extr_30, extr_31, extr_32, List.map_cons, List.map_nil, cond_true, cond_false, aop, aThen, aBlock, argEnv, ev, sput, sputO, binK, binI, unK, builtinK, pickK, Nat.reduceBEq, Nat.reduceAdd, Int.reduceBEq, Int.reduceBNe, Int.reduceLT, aPost, resK, tup, tyf], rfl⟩
      clear hK
      refine aws_block ?_
      refine aws_cut fun N8 hN8 => ?_
      simp (config := {maxSteps := 2000000}) only [s74, ↓aw_region, ↓aw_skip, ↓aw_seq, ↓aw_block, ↓aw_exit, ↓aw_ret, ↓sops_nil, ↓sops_go, ↓dops_nil, ↓dopsX_nil, ↓dopsR_nil, ↓vdn, vup, extr_20, extr_21, extr_30, extr_31, extr_32, List.map_cons, List.map_nil, cond_true, cond_false, aop, aThen, aBlock, argEnv, ev, sput, sputO, binK, binI, unK, builtinK, pickK, Nat.reduceBEq, Nat.reduceAdd, Int.reduceBEq, Int.reduceBNe, Int.reduceLT, aPost, resK, tup, tyf]
      refine hN8 [(0, vint i), (1, sv), (2, pt bb), (3, pt bg), (4, pt bx), (5, pt bf), (8, vint r), (21, vint M), (22, vint r)] _ _ ?_ (by simp (config := {maxSteps := 2000000}) only [↓aw_region, ↓aw_skip, ↓aw_seq, ↓aw_block, ↓aw_exit, ↓aw_ret, ↓sops_nil, ↓sops_go, ↓dops_nil, ↓dopsX_nil, ↓dopsR_nil, ↓vdn, vup, extr_20, extr_21, extr_30, extr_31, extr_32, List.map_cons, List.map_nil, cond_true, cond_false, aop, aThen, aBlock, argEnv, ev, sput, sputO, binK, binI, unK, builtinK, pickK, Nat.reduceBEq, Nat.reduceAdd, Int.reduceBEq, Int.reduceBNe, Int.reduceLT, aPost, resK, tup, tyf])
      clear hN8
      try clear N8
      refine aws_cut fun N9 hN9 => ?_
      have go : ∀ e, ELe e [(0, vint i), (1, sv), (2, pt bb), (3, pt bg), (4, pt bx), (5, pt bf), (8, vint r), (21, vint M), (22, vint r), (41, .bool (r.testBit i && (less (less r (2 ^ i)) (gn xs i) == 0)))] → N9 e hp := by
        intro e he
        refine hN9 [(0, vint i), (1, sv), (2, pt bb), (3, pt bg), (4, pt bx), (5, pt bf), (8, vint r), (21, vint M), (22, vint r), (41, .bool (r.testBit i && (less (less r (2 ^ i)) (gn xs i) == 0)))] _ _ ?_ he
        refine aw_aws ?_
        cases hok : (r.testBit i && (less (less r (2 ^ i)) (gn xs i) == 0)) with
        | false =>
          have hno : ¬ Rn.okRow (gn xs) n i r := fun h => by rw [okRow_iff hrM, hok] at h; cases h
          simp (config := {maxSteps := 2000000}) only [s74, ↓aw_region, ↓aw_skip, ↓aw_seq, ↓aw_block, ↓aw_exit, ↓aw_ret, ↓sops_nil, ↓sops_go, ↓dops_nil, ↓dopsX_nil, ↓dopsR_nil, ↓vdn, vup, extr_20, extr_21, extr_30, extr_31, extr_32, List.map_cons, List.map_nil, cond_true, cond_false, aop, aThen, aBlock, argEnv, ev, sput, sputO, binK, binI, unK, builtinK, pickK, Nat.reduceBEq, Nat.reduceAdd, Int.reduceBEq, Int.reduceBNe, Int.reduceLT, aPost, resK, tup, tyf]
          refine fin hp bst hE hbp (hmin.congr fun w => ?_) _ (by simp (config := {maxSteps := 2000000}) only [↓aw_region, ↓aw_skip, ↓aw_seq, ↓aw_block, ↓aw_exit, ↓aw_ret, ↓sops_nil, ↓sops_go, ↓dops_nil, ↓dopsX_nil, ↓dopsR_nil, ↓vdn, vup, extr_20, extr_21, extr_30, extr_31, extr_32, List.map_cons, List.map_nil, cond_true, cond_false, aop, aThen, aBlock, argEnv, ev, sput, sputO, binK, binI, unK, builtinK, pickK, Nat.reduceBEq, Nat.reduceAdd, Int.reduceBEq, Int.reduceBNe, Int.reduceLT, aPost, resK, tup, tyf])
          constructor
          · rintro ⟨r', h1, h2⟩; exact ⟨r', by omega, h2⟩
          · rintro ⟨r', h1, h2⟩
            refine ⟨r', ?_, h2⟩
            by_cases e : r' = r
            · subst e; exact absurd h2.1 hno
            · omega
        | true =>
          have hyes : Rn.okRow (gn xs) n i r := (okRow_iff hrM).2 hok
          simp (config := {maxSteps := 2000000}) only [s74, ↓aw_region, ↓aw_skip, ↓aw_seq, ↓aw_block, ↓aw_exit, ↓aw_ret, ↓sops_nil, ↓sops_go, ↓dops_nil, ↓dopsX_nil, ↓dopsR_nil, ↓vdn, vup, extr_20, extr_21, extr_30, extr_31, extr_32, List.map_cons, List.map_nil, cond_true, cond_false, aop, aThen, aBlock, argEnv, ev, sput, sputO, binK, binI, unK, builtinK, pickK, Nat.reduceBEq, Nat.reduceAdd, Int.reduceBEq, Int.reduceBNe, Int.reduceLT, aPost, resK, tup, tyf]
          refine aw_drawR (fun hq => hq[bf]? = some (.cells [.func (.func 74) #[] #[pt bb, pt bg, pt bx, pt bf]] 75 false)) [(0, 5), (5, 4), (6, 4)] (by kernel_rfl) (by kernel_rfl) (by kernel_rfl) (by kernel_rfl) fhp.f ?_
          simp (config := {maxSteps := 2000000}) only [s74, ↓aw_region, ↓aw_skip, ↓aw_seq, ↓aw_block, ↓aw_exit, ↓aw_ret, ↓sops_nil, ↓sops_go, ↓dops_nil, ↓dopsX_nil, ↓dopsR_nil, ↓vdn, vup, extr_20, extr_21, extr_30, extr_31, extr_32, List.map_cons, List.map_nil, cond_true, cond_false, aop, aThen, aBlock, argEnv, ev, sput, sputO, binK, binI, unK, builtinK, pickK, Nat.reduceBEq, Nat.reduceAdd, Int.reduceBEq, Int.reduceBNe, Int.reduceLT, aPost, resK, tup, tyf, Nat.reduceLT, Bool.false_or, Bool.true_or]
          refine ⟨.func (.func 74) #[] #[pt bb, pt bg, pt bx, pt bf], fun hq hhq => by simp only [load1 hhq shp_75], ?_⟩
          simp (config := {maxSteps := 2000000}) only [s74, ↓aw_region, ↓aw_skip, ↓aw_seq, ↓aw_block, ↓aw_exit, ↓aw_ret, ↓sops_nil, ↓sops_go, ↓dops_nil, ↓dopsX_nil, ↓dopsR_nil, ↓vdn, vup, extr_20, extr_21, extr_30, extr_31, extr_32, List.map_cons, List.map_nil, cond_true, cond_false, aop, aThen, aBlock, argEnv, ev, sput, sputO, binK, binI, unK, builtinK, pickK, Nat.reduceBEq, Nat.reduceAdd, Int.reduceBEq, Int.reduceBNe, Int.reduceLT, aPost, resK, tup, tyf, Nat.reduceLT, Bool.false_or, Bool.true_or, add1 (show i < 9223372036854775807 by omega), callK, List.nil_append, List.append_nil, List.toList_toArray, List.cons_append]
          refine (spanned_call hsvp h5 hB hl hrM).mono ?_
          rintro u h1 ⟨hE1, huv, C, hC, hCb, hCl, hCS⟩
          have hE1b : Ext (fun i => i = bb) hp h1 := hE1.mono fun i h => h.elim
          have fh1 := fhp.ext hE1b
          have hg1 := IntSl_ext hgp hE1
          have hb1 : h1[bb]? = some (.cells [vint bst] 3 false) := (hE1.2 _ (get_lt hbp) id).trans hbp
          have hub : blkOf u ≠ some bb := by
            intro hu
            rcases huv with rfl | huv
            · exact hsb hu
            · have := huv _ hu
              have := get_lt hbp
              omega
          refine ⟨fh1.f, ?_⟩
          try simp (config := {maxSteps := 2000000}) only [s74, ↓aw_region, ↓aw_skip, ↓aw_seq, ↓aw_block, ↓aw_exit, ↓aw_ret, ↓sops_nil, ↓sops_go, ↓dops_nil, ↓dopsX_nil, ↓dopsR_nil, ↓vdn, vup, extr_20, extr_21, extr_30, extr_31, extr_32, List.map_cons, List.map_nil, cond_true, cond_false, aop, aThen, aBlock, argEnv, ev, sput, sputO, binK, binI, unK, builtinK, pickK, Nat.reduceBEq, Nat.reduceAdd, Int.reduceBEq, Int.reduceBNe, Int.reduceLT, aPost, resK, tup, tyf, Nat.reduceLT, Bool.false_or, Bool.true_or, callK, List.nil_append, List.append_nil, List.toList_toArray, List.cons_append]
          have hSC : ∀ y, Rn.S C y = Rn.S (R ++ [r]) y := fun y => (hCS y).trans (Rn.S_app hS r y)
          refine (ih (i + 1) (by omega) fh1 hg1 hb1 hC hub hCb hCl hSC (by have := hmin.2.1; omega)).mono ?_
          rintro _ h2 ⟨b2, hb2, hE2, hm2⟩
          refine ⟨(fh1.ext hE2).f, ?_⟩
          try simp (config := {maxSteps := 2000000}) only [s74, ↓aw_region, ↓aw_skip, ↓aw_seq, ↓aw_block, ↓aw_exit, ↓aw_ret, ↓sops_nil, ↓sops_go, ↓dops_nil, ↓dopsX_nil, ↓dopsR_nil, ↓vdn, vup, extr_20, extr_21, extr_30, extr_31, extr_32, List.map_cons, List.map_nil, cond_true, cond_false, aop, aThen, aBlock, argEnv, ev, sput, sputO, binK, binI, unK, builtinK, pickK, Nat.reduceBEq, Nat.reduceAdd, Int.reduceBEq, Int.reduceBNe, Int.reduceLT, aPost, resK, tup, tyf, Nat.reduceLT, Bool.false_or, Bool.true_or]
          refine fin h2 b2 ((hE.trans hE1b).trans hE2) hb2 ((hmin.next hm2).congr fun w => ?_) _ (by simp (config := {maxSteps := 2000000}) only [↓aw_region, ↓aw_skip, ↓aw_seq, ↓aw_block, ↓aw_exit, ↓aw_ret, ↓sops_nil, ↓sops_go, ↓dops_nil, ↓dopsX_nil, ↓dopsR_nil, ↓vdn, vup, extr_20, extr_21, extr_30, extr_31, extr_32, List.map_cons, List.map_nil, cond_true, cond_false, aop, aThen, aBlock, argEnv, ev, sput, sputO, binK, binI, unK, builtinK, pickK, Nat.reduceBEq, Nat.reduceAdd, Int.reduceBEq, Int.reduceBNe, Int.reduceLT, aPost, resK, tup, tyf])
          constructor
          · rintro (⟨r', h1, h2⟩ | h)
            · exact ⟨r', by omega, h2⟩
            · exact ⟨r, by omega, hyes, h⟩
          · rintro ⟨r', h1, h2⟩
            by_cases e : r' = r
            · subst e; exact .inr h2.2
            · exact .inl ⟨r', by omega, h2⟩
      refine aw_drawX [] (by kernel_rfl) (by kernel_rfl) (by kernel_rfl) (by kernel_rfl) ?_
      have hz : ∀ z : Nat, (((z : Nat) : Int) == 0) = (z == 0) := fun z => beqN (b := 0)
      have i62 : i ≤ 62 := by omega
      have l1 : less r (2 ^ i) < 9223372036854775808 := by have := Sr.less_le r (2 ^ i); omega
      have p2 : 2 ^ i < 9223372036854775808 := by
        have : 2 ^ i ≤ 2 ^ 5 := Nat.pow_le_pow_right (by decide) (by omega)
        omega
      cases hbi : r.testBit i with
      | false =>
        simp (config := {maxSteps := 2000000}) only [s74, ↓aw_region, ↓aw_skip, ↓aw_seq, ↓aw_block, ↓aw_exit, ↓aw_ret, ↓sops_nil, ↓sops_go, ↓dops_nil, ↓dopsX_nil, ↓dopsR_nil, ↓vdn, vup, extr_20, extr_21, extr_30, extr_31, extr_32, List.map_cons, List.map_nil, cond_true, cond_false, aop, aThen, aBlock, argEnv, ev, sput, sputO, binK, binI, unK, builtinK, pickK, Nat.reduceBEq, Nat.reduceAdd, Int.reduceBEq, Int.reduceBNe, Int.reduceLT, aPost, resK, tup, tyf, hnn, testV (show r < 9223372036854775808 by omega), hbi, beq1, Bool.false_eq_true, if_false]
        exact go _ (by simp (config := {maxSteps := 2000000}) only [↓aw_region, ↓aw_skip, ↓aw_seq, ↓aw_block, ↓aw_exit, ↓aw_ret, ↓sops_nil, ↓sops_go, ↓dops_nil, ↓dopsX_nil, ↓dopsR_nil, ↓vdn, vup, extr_20, extr_21, extr_30, extr_31, extr_32, List.map_cons, List.map_nil, cond_true, cond_false, aop, aThen, aBlock, argEnv, ev, sput, sputO, binK, binI, unK, builtinK, pickK, Nat.reduceBEq, Nat.reduceAdd, Int.reduceBEq, Int.reduceBNe, Int.reduceLT, aPost, resK, tup, tyf, hbi, Bool.false_and])
      | true =>
        simp (config := {maxSteps := 2000000}) only [s74, ↓aw_region, ↓aw_skip, ↓aw_seq, ↓aw_block, ↓aw_exit, ↓aw_ret, ↓sops_nil, ↓sops_go, ↓dops_nil, ↓dopsX_nil, ↓dopsR_nil, ↓vdn, vup, extr_20, extr_21, extr_30, extr_31, extr_32, List.map_cons, List.map_nil, cond_true, cond_false, aop, aThen, aBlock, argEnv, ev, sput, sputO, binK, binI, unK, builtinK, pickK, Nat.reduceBEq, Nat.reduceAdd, Int.reduceBEq, Int.reduceBNe, Int.reduceLT, aPost, resK, tup, tyf, hnn, testV (show r < 9223372036854775808 by omega), hbi, beq1, if_true, shlI1 i62, bitsV_andNot (show r < 9223372036854775808 by omega) p2, load1 fhp.g shp_22, hgp.idx el_22 esz_3 hiX, hgp.load shp_3 hiX, hge, bitsV_andNot l1 (show gn xs i < 9223372036854775808 by omega), hz]
        exact go _ (by simp (config := {maxSteps := 2000000}) only [↓aw_region, ↓aw_skip, ↓aw_seq, ↓aw_block, ↓aw_exit, ↓aw_ret, ↓sops_nil, ↓sops_go, ↓dops_nil, ↓dopsX_nil, ↓dopsR_nil, ↓vdn, vup, extr_20, extr_21, extr_30, extr_31, extr_32, List.map_cons, List.map_nil, cond_true, cond_false, aop, aThen, aBlock, argEnv, ev, sput, sputO, binK, binI, unK, builtinK, pickK, Nat.reduceBEq, Nat.reduceAdd, Int.reduceBEq, Int.reduceBNe, Int.reduceLT, aPost, resK, tup, tyf, hbi, Bool.true_and])
    · obtain rfl : r = M := by omega
      refine aws_cut fun K hK => ?_
      simp (config := {maxSteps := 2000000}) only [s74, ↓aw_region, ↓aw_skip, ↓aw_seq, ↓aw_block, ↓aw_exit, ↓aw_ret, ↓sops_nil, ↓sops_go, ↓dops_nil, ↓dopsX_nil, ↓dopsR_nil, ↓vdn, vup, extr_20, extr_21, extr_30, extr_31, extr_32, List.map_cons, List.map_nil, cond_true, cond_false, aop, aThen, aBlock, argEnv, ev, sput, sputO, binK, binI, unK, builtinK, pickK, Nat.reduceBEq, Nat.reduceAdd, Int.reduceBEq, Int.reduceBNe, Int.reduceLT, aPost, resK, tup, tyf, Int.lt_irrefl]
      refine hK [(23, .bool false)] _ _ ?_ (by simp (config := {maxSteps := 2000000}) only [↓aw_region, ↓aw_skip, ↓aw_seq, ↓aw_block, ↓aw_exit, ↓aw_ret, ↓sops_nil, ↓sops_go, ↓dops_nil, ↓dopsX_nil, ↓dopsR_nil, ↓vdn, vup, extr_20, extr_21, extr_30, extr_31, extr_32, List.map_cons, List.map_nil, cond_true, cond_false, aop, aThen, aBlock, argEnv, ev, sput, sputO, binK, binI, unK, builtinK, pickK, Nat.reduceBEq, Nat.reduceAdd, Int.reduceBEq, Int.reduceBNe, Int.reduceLT, aPost, resK, tup, tyf])
      clear hK
      try clear K
      refine aw_aws ?_
      simp (config := {maxSteps := 2000000}) only [s74, ↓aw_region, ↓aw_skip, ↓aw_seq, ↓aw_block, ↓aw_exit, ↓aw_ret, ↓sops_nil, ↓sops_go, ↓dops_nil, ↓dopsX_nil, ↓dopsR_nil, ↓vdn, vup, extr_20, extr_21, extr_30, extr_31, extr_32, List.map_cons, List.map_nil, cond_true, cond_false, aop, aThen, aBlock, argEnv, ev, sput, sputO, binK, binI, unK, builtinK, pickK, Nat.reduceBEq, Nat.reduceAdd, Int.reduceBEq, Int.reduceBNe, Int.reduceLT, aPost, resK, tup, tyf]
      refine hQ2 _ _ _ (hQ _ _ _ ?_)
      simp (config := {maxSteps := 2000000}) only [s74, ↓aw_region, ↓aw_skip, ↓aw_seq, ↓aw_block, ↓aw_exit, ↓aw_ret, ↓sops_nil, ↓sops_go, ↓dops_nil, ↓dopsX_nil, ↓dopsR_nil, ↓vdn, vup, extr_20, extr_21, extr_30, extr_31, extr_32, List.map_cons, List.map_nil, cond_true, cond_false, aop, aThen, aBlock, argEnv, ev, sput, sputO, binK, binI, unK, builtinK, pickK, Nat.reduceBEq, Nat.reduceAdd, Int.reduceBEq, Int.reduceBNe, Int.reduceLT, aPost, resK, tup, tyf, if_true]
      refine ⟨bst, hbp, hE, hmin.congr fun w => ?_⟩
      rw [Rn.Rk.succ]
      constructor
      · rintro ⟨r', _, h2⟩; exact ⟨r', h2⟩
      · rintro ⟨r', h2⟩; exact ⟨r', by have := h2.1.1; rw [hM] at this; exact this, h2⟩
end Go.Proofs.Tryd.Am
