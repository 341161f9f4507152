/-
  sure: the law SureLight.
-/
import Derived.Test.YtaagkbbphgdcdaaDoorPk10
set_option linter.all false
namespace Go.Proofs.Tryd.Am
open Go.Am Sr
set_option maxRecDepth 100000
set_option maxHeartbeats 4000000

theorem take_min {α : Type} (l : List α) (k : Nat) : l.take (min l.length k) = l.take k := by
  by_cases h : l.length ≤ k
  · rw [Nat.min_eq_left h, List.take_length, List.take_of_length_le h]
  · rw [Nat.min_eq_right (by omega)]
theorem min9 (n : Nat) : (if (9 : Int) < n then 9 else (n : Int)) = ((min n 9 : Nat) : Int) := by split <;> omega
theorem cloneF_call [Tabs prog] {h : Zh} {v : Value} {ps : List (Int × Int)} (hv : PairSl h v ps) (hl : ps.length < 1099511627776) : ACall prog 39 [v] h fun r h' => PairSl h' r ps ∧ Ext (fun _ => False) h h' := by
  refine s39_call (by simp) ?_
  have hv' := hv
  rcases hv with ⟨rfl, rfl⟩ | ⟨b, o, sp, cap, c, e, ro, rfl, hc, hb, hx⟩
  · simp (maxSteps := 2000000) only [s39, ↓Za, ↓Zi, ↓Zs, ↓Zb, ↓Zc, ↓vdn, vup, cond_true, cond_false, aop, Zf, Zr, ev, sput, Ze, Zw, Nat.reduceBEq, Zo, Xh, tup, tyf, Option.isSome_some]
    exact ⟨.inl ⟨rfl, rfl⟩, Ext.refl _ _⟩
  · simp (maxSteps := 2000000) only [s39, ↓Za, ↓Zm, ↓Zi, ↓Zs, ↓Zb, ↓Zc, ↓vdn, vup, List.map_cons, List.map_nil, cond_true, cond_false, aop, Zf, Zr, ev, sput, Ze, Zw, Zj, Nat.reduceBEq, Zo, Xh, tup, tyf, Option.isSome_some]
    simp only [Yf, el_50, zero_44, esz_44, reps, fillL, mkb, Xc]
    refine And.intro rfl (And.intro (by decide) (And.intro (Nat.zero_le _) ?_))
    refine (hv'.grow [.ints [] 44 false]).copy app_50_50 hl (by rw [List.getElem?_append_right (Nat.le_refl _)]; simp) ?_
    intro r g hr
    exact ⟨hr, by rw [List.append_assoc]; exact Ext.app _ _ _⟩
theorem clone_det [Tabs prog] {h : Zh} {v : Value} {xs : List Int} (hv : IntSl h v xs) (hx : xs ≠ []) (hl : xs.length < 1099511627776) : ADet prog 26 [v] h (.slice (some ⟨h.length + 1, 0, some 0⟩) xs.length xs.length) (h ++ [.ints [] 3 false] ++ [.ints xs 3 false]) := by
  refine s26_call (by simp) ?_
  have hv' := hv
  rcases hv with ⟨rfl, rfl⟩ | ⟨b, o, sp, cap, c, e, ro, rfl, hc, hb, _⟩
  · exact absurd rfl hx
  · simp (maxSteps := 2000000) only [s26, ↓Za, ↓Zm, ↓Zi, ↓Zs, ↓Zb, ↓Zc, ↓vdn, vup, List.map_cons, List.map_nil, cond_true, cond_false, aop, Zf, Zr, ev, sput, Ze, Zw, Zj, Nat.reduceBEq, Zo, Xh, tup, tyf, Option.isSome_some]
    simp only [Yf, Xu, zero_3, Xe, reps, fillL, mkb, Xc]
    refine And.intro rfl (And.intro Nat.zero_lt_one (And.intro (Nat.zero_le _) ?_))
    refine (hv'.grow [.ints [] 3 false]).copyOwn hx app_22_22 hl (by rw [List.getElem?_append_right (Nat.le_refl _)]; simp) ?_
    exact ⟨by simp, rfl⟩
theorem list_det [Tabs prog] {h : Zh} {v : Value} {xs : List Int} (hv : IntSl h v xs) (hx : xs ≠ []) (hl : xs.length ≤ 80) : ADet prog 18 [v] h (.slice (some ⟨h.length + 1, 0, some 0⟩) xs.length xs.length) (h ++ [.ints [] 3 false] ++ [.ints xs 3 false]) := by
  refine s18_call (by simp) ?_
  simp (maxSteps := 2000000) only [s18, ↓Za, ↓Zi, ↓Zs, ↓Zb, ↓Zc, vup, List.map_cons, List.map_nil, cond_true, cond_false, aop, Zf, Zr, ev, sput, Ze, Zj, Nat.reduceBEq, Zo, Xh, tup, tyf, hv.len, mmK, Bool.false_eq_true, if_false, gt_iff_lt, min80, Option.map_none, Option.map_some]
  refine hv.pre Xu Xe (Nat.min_le_left _ _) ?_
  intro v' hv'
  rw [Nat.min_eq_left hl, List.take_length] at hv'
  simp (maxSteps := 2000000) only [Yt, List.nil_append, List.append_nil]
  exact clone_det hv' hx (by omega)
theorem bldF1 {x : Int} {K : Value → Prop} : Vc prog 44 [(1, Zd x)] K = K (.agg #[Zd 0, Zd x]) := by
  simp [Vc, zero_44, fillL, pl_44_1, Wl, cellsOf, Yb]
theorem fO0 {b o : Nat} {K : Value → Prop} : Xf prog 44 (.pointer (some ⟨b, o, none⟩)) 0 K = K (.pointer (some ⟨b, o, none⟩)) := by
  simp [Xf, fld_44_0, Xe]
def tabF (n : Nat) (f : Nat → Int × Int) : List (Int × Int) := (List.range n).map f
theorem tabF_len (n : Nat) (f : Nat → Int × Int) : (tabF n f).length = n := by simp [tabF]
theorem tabF_get {n : Nat} {f : Nat → Int × Int} {i : Nat} (h : i < n) : (tabF n f).getD i (0, 0) = f i := by
  rw [tabF, List.getD, List.getElem?_map, List.getElem?_range h]; rfl
theorem tabF_set {n : Nat} {f g : Nat → Int × Int} {i : Nat} {y : Int × Int} (h : ∀ j, j < n → g j = if j = i then y else f j) : (tabF n f).set i y = tabF n g := by
  refine List.ext_getElem (by simp [tabF]) fun j h1 h2 => ?_
  rw [List.getElem_set]
  rw [tabF_len] at h2
  simp only [tabF, List.getElem_map, List.getElem_range]
  rw [h j h2]
  by_cases e : j = i
  · rw [if_pos e, if_pos e.symm]
  · rw [if_neg e, if_neg fun h => e h.symm]
theorem tabF_congr {n : Nat} {f g : Nat → Int × Int} (h : ∀ j, j < n → f j = g j) : tabF n f = tabF n g := List.map_congr_left fun j hj => h j (List.mem_range.1 hj)
theorem flatP_set1 : ∀ (ps : List (Int × Int)) (i : Nat) (x : Int), i < ps.length → (Yg ps).set (i * 2) x = Yg (ps.set i (x, (ps.getD i (0, 0)).2))
  | [], i, x, h => by simp at h
  | (a, b) :: ps, 0, x, h => by simp [Yg]
  | (a, b) :: ps, i + 1, x, h => by
    have ih := flatP_set1 ps i x (by simpa using h)
    rw [show (i + 1) * 2 = i * 2 + 1 + 1 by omega]
    show (a :: b :: Yg ps).set (i * 2 + 1 + 1) x = a :: b :: Yg (ps.set i (x, (ps.getD i (0, 0)).2))
    rw [List.set_cons_succ, List.set_cons_succ, ih]
theorem tab_storeF {hp : Zh} {b n i : Nat} {f g : Nat → Int × Int} {x y : Int} (hb : hp[b]? = some (.cells ((Yg (tabF n f)).map Zd) 44 false)) (hi : i < n) (hg : ∀ j, j < n → g j = if j = i then (x, y) else f j) {K : Zh → Prop} :
    Xk prog hp 44 (.pointer (some ⟨b, i * 2, none⟩)) (.agg #[Zd x, Zd y]) K = K (hp.set b (.cells ((Yg (tabF n g)).map Zd) 44 false)) := by
  rw [storePC hb shp_44 (by rw [tabF_len]; exact hi), tabF_set hg]
theorem tab_store1 {hp : Zh} {b n i : Nat} {f g : Nat → Int × Int} {x : Int} (hb : hp[b]? = some (.cells ((Yg (tabF n f)).map Zd) 44 false)) (hi : i < n) (hg : ∀ j, j < n → g j = if j = i then (x, (f i).2) else f j) {K : Zh → Prop} :
    Xk prog hp 3 (.pointer (some ⟨b, i * 2, none⟩)) (Zd x) K = K (hp.set b (.cells ((Yg (tabF n g)).map Zd) 44 false)) := by
  rw [storeC hb Xm rfl (by rw [List.length_map, Xz, tabF_len]; omega), ← List.map_set, flatP_set1 _ _ _ (by rw [tabF_len]; exact hi), tabF_get hi, tabF_set hg]
/-! ### A code's words alone -/
def ownF (c : List Nat) (j : Nat) : Int × Int := if j ∈ c then (1, 1) else (0, 1)
theorem own_isW (c : List Nat) (j : Nat) : isW (ownF c j) = true := by
  rw [ownF]; split <;> decide
theorem own_wq (c : List Nat) (j : Nat) : wq (ownF c j) = if j ∈ c then 1 else 0 := by
  rw [ownF]; split <;> decide +kernel
theorem own_light {xs : List Int} (g : Gs xs) {c : List Nat} (hc : c = codeL (Wg xs 1)) : lightV xs (tabF xs.length (ownF c)) = .tuple #[.bool true, .int .i64 0] := by
  have hk : wn xs 1 ≤ 64 := by rw [wn_one]; have := g.2.1; omega
  have hcc := codeL_code g hk
  have hmem : ∀ j, j ∈ c → j ∈ ((codeL (Wg xs 1)).map Int.ofNat).map Int.toNat := fun j hj => by
    rw [hc] at hj
    exact List.mem_map.2 ⟨(j : Int), List.mem_map.2 ⟨j, hj, rfl⟩, by simp⟩
  have hok : okL xs (tabF xs.length (ownF c)) = true := by
    rw [okL, Va.2 g, tabF_len, decide_eq_true rfl, Bool.true_and, Bool.true_and, allW, List.all_eq_true]
    intro p hp
    obtain ⟨j, _, rfl⟩ := List.mem_map.1 hp
    exact own_isW c j
  have hl : lightB xs (tabF xs.length (ownF c)) = true := by
    rw [light_iff]
    intro s hs
    have hs3 := ((mem_clq g).1 hs).2.2
    have e : Bq.dot (Bq.bitQ s) (wf (tabF xs.length (ownF c))) xs.length = Bq.sumTo (fun i => if (s.testBit i && decide (i ∈ c)) = true then (1 : Rat) else 0) xs.length := Bq.sumTo_congr fun i hi => by
      rw [wf, tabF_get hi, own_wq, Bq.bitQ]
      by_cases hm : i ∈ c <;> cases s.testBit i <;> simp [hm]
    rw [e, one_place fun i j hi hj a b => Classical.byContradiction fun hne => ?_]
    · split <;> decide
    · rw [Bool.and_eq_true, decide_eq_true_eq] at a b
      have h1 := code_cf g hcc (hmem i a.2) (hmem j b.2) hne
      rw [cf_one hi hj, nq, hs3 i hi a.1 j (Ne.symm hne) b.1, Bool.or_true] at h1
      cases h1
  rw [lightV, if_pos hok, hl]
/-! ### The sum, as the law makes it -/
def Xl (ps : List (Int × Int)) : Nat → Int × Int
  | 0 => (0, 1)
  | i + 1 => ((Xl ps i).1 * (ps.getD i (0, 0)).2 + (ps.getD i (0, 0)).1 * (Xl ps i).2, (Xl ps i).2 * (ps.getD i (0, 0)).2)
theorem sumAB_ok {ps : List (Int × Int)} (ha : allW ps = true) : ∀ {i : Nat}, i ≤ ps.length → 1 ≤ (Xl ps i).2 ∧ (Xl ps i).2.natAbs ≤ 60 ^ i ∧ 0 ≤ (Xl ps i).1 ∧ (Xl ps i).1 ≤ i * (Xl ps i).2 ∧ (((Xl ps i).1 : Int) : Rat) = Bq.sumTo (wf ps) i * (((Xl ps i).2 : Int) : Rat)
  | 0, _ => by
    rw [Xl]; refine ⟨by decide, by decide, by decide, by simp, ?_⟩
    rw [Bq.sumTo, Rat.zero_mul]; rfl
  | i + 1, h => by
    obtain ⟨h1, h2, h3, h4, h5⟩ := sumAB_ok ha (i := i) (by omega)
    have hW := wf_isW ha (i := i) (by omega)
    obtain ⟨w1, w2, w3, w4, _⟩ := isW_iff.1 hW
    obtain ⟨e1, e2⟩ := isW_parts hW
    obtain ⟨A, hA⟩ : ∃ A, A = (Xl ps i).1 := ⟨_, rfl⟩
    obtain ⟨D, hD⟩ : ∃ D, D = (Xl ps i).2 := ⟨_, rfl⟩
    obtain ⟨x, hx⟩ : ∃ x, x = (ps.getD i (0, 0)).1 := ⟨_, rfl⟩
    obtain ⟨y, hy⟩ : ∃ y, y = (ps.getD i (0, 0)).2 := ⟨_, rfl⟩
    rw [Xl]
    rw [← hA, ← hD] at h5 ⊢
    rw [← hD] at h1 h2
    rw [← hA] at h3
    rw [← hA, ← hD] at h4
    rw [← hx, ← hy] at w4 ⊢
    rw [← hy] at w1 w2 e2
    rw [← hx] at w3 e1
    have hDy : 1 ≤ D * y := by have := Int.mul_le_mul h1 w1 (by decide) (by omega); omega
    refine ⟨hDy, ?_, ?_, ?_, ?_⟩
    · rw [Int.natAbs_mul, Nat.pow_succ]; exact Nat.mul_le_mul h2 (by omega)
    · have a := Int.mul_nonneg h3 (show 0 ≤ y by omega)
      have b := Int.mul_nonneg w3 (show 0 ≤ D by omega)
      show 0 ≤ A * y + x * D
      omega
    · have a : A * y ≤ (i * D) * y := Int.mul_le_mul_of_nonneg_right h4 (by omega)
      have b : x * D ≤ y * D := Int.mul_le_mul_of_nonneg_right w4 (by omega)
      have e : ((i + 1 : Nat) : Int) * (D * y) = i * D * y + y * D := by rw [Int.natCast_add]; grind
      show A * y + x * D ≤ ((i + 1 : Nat) : Int) * (D * y)
      rw [e]; omega
    · have ex : ((x : Int) : Rat) = wf ps i * ((y : Int) : Rat) := by
        have := num_eq (wf ps i)
        rw [wf] at this ⊢
        rw [e1, e2] at this; exact this
      show ((A * y + x * D : Int) : Rat) = Bq.sumTo (wf ps) (i + 1) * ((D * y : Int) : Rat)
      rw [Rat.intCast_add, Rat.intCast_mul, Rat.intCast_mul, Rat.intCast_mul, h5, ex, Bq.sumTo]; grind
theorem sumAB_le {xs : List Int} {ps : List (Int × Int)} {q : Rat} (hq : WQ xs q) (ha : allW ps = true) (hl : ps.length = xs.length) (hL : lightB xs ps = true) : (Xl ps ps.length).1 * (q.den : Int) ≤ q.num * (Xl ps ps.length).2 := by
  obtain ⟨h1, _, _, _, h5⟩ := sumAB_ok ha (i := ps.length) (Nat.le_refl _)
  have hs := hq.1.le (wf ps) ⟨fun i hi => wf_nn ha (by omega), light_iff.1 hL⟩
  rw [← hl] at hs
  have hB : (0 : Rat) ≤ (((Xl ps ps.length).2 : Int) : Rat) := Rat.intCast_nonneg.2 (by omega)
  have h6 := Rat.mul_le_mul_of_nonneg_right hs hB
  rw [← h5] at h6
  have hd : (0 : Rat) ≤ (((q.den : Nat) : Int) : Rat) := Rat.intCast_nonneg.2 (by omega)
  have h7 := Rat.mul_le_mul_of_nonneg_right h6 hd
  have e1 : q * (((Xl ps ps.length).2 : Int) : Rat) * (((q.den : Nat) : Int) : Rat) = ((q.num * (Xl ps ps.length).2 : Int) : Rat) := by
    rw [Rat.intCast_mul, num_eq q]; grind
  rw [e1, ← Rat.intCast_mul] at h7
  exact Rat.intCast_le_intCast.1 h7

theorem s10_callW [Tabs Tryd.prog] {args : List Value} {h : Zh} {Q : Value → Zh → Prop} (hsz : args.length ≤ 166) (hk : AWS Tryd.prog 166 s10 (Zo Tryd.prog [.tmp 4] Q) (Zr 0 args) h) : ACall Tryd.prog 10 args h Q :=
  Xg Tryd.func10 rfl (enters_of Tryd.func10 (by kernel_rfl) rfl) rfl rfl (by decide) s10_strip s10_ok hsz hk
theorem law_light [BitTab prog 0] {h : Zh} {v w : Value} {xs : List Int} {ps : List (Int × Int)} (hv : IntSl h v xs) (hl : xs.length < 9223372036854775808) (hx : ∀ x ∈ xs, -9223372036854775808 ≤ x ∧ x < 9223372036854775808)
    (hw : PairSl h w ps) (hwl : ps.length < 9223372036854775808) : ACall prog 10 [v, w] h fun r _ => r = .bool true := by
  have e00 : ((0 : Int) == 0) = true := rfl
  have e22 : ((2 : Int) == 2) = true := rfl
  have e20 : ((2 : Int) == 0) = false := rfl
  have n00 : ((0 : Int) != 0) = false := rfl
  have n20 : ((2 : Int) != 0) = true := rfl
  refine s10_callW (by simp) ?_
  simp only [s10]
  refine Zg fun N1 hN1 => ?_
  simp (maxSteps := 2000000) only [↓Za, ↓Zb, ↓Zc, vup, cond_false, aop, Zf, Zr, ev, sput, Ze, Nat.reduceBEq, Nat.reduceAdd]
  refine hN1 [(0, v), (1, w), (4, .bool false)] _ _ ?_ (by simp (maxSteps := 2000000) only [vup, cond_true, cond_false, Nat.reduceBEq])
  clear hN1
  try clear N1
  refine Zg fun N2 hN2 => ?_
  simp (maxSteps := 2000000) only [↓Za, ↓Zb, ↓Zc, vup, List.map_cons, List.map_nil, cond_true, cond_false, aop, Zf, ev, sput, Ze, Nat.reduceBEq, Yt, List.nil_append, List.append_nil]
  refine (list_call hv hl).mono ?_
  rintro l1 _ ⟨hl1, g1, rfl⟩
  refine (weigh_call hl1 (take80_len xs) (take80_rng hx)).mono ?_
  rintro r1 h1 ⟨hE1, hr1⟩
  obtain ⟨px, py, e1, rfl, hf1⟩ := weighR_form (weighR_take hr1 (grs_take xs) grs_same)
  simp (maxSteps := 2000000) only [extr_20, extr_21, tyf, Wd, Xd, newF]
  have hE01 := ((Ext.app (fun _ => False) h g1).trans hE1).trans (Ext.app _ _ [Blk.cells [Zd px, Zd py] 44 false])
  have c5 := Yq h1 (Blk.cells [Zd px, Zd py] 44 false)
  generalize h1 ++ [Blk.cells [Zd px, Zd py] 44 false] = H1 at hE01 c5 ⊢
  generalize h1.length = b5 at c5 ⊢
  refine hN2 [(0, v), (1, w), (4, .bool false), (5, .pointer (some ⟨b5, 0, none⟩)), (6, .int .i64 e1)] _ _ ?_ (by simp (maxSteps := 2000000) only [vup, cond_true, cond_false, Nat.reduceBEq])
  clear hN2
  try clear N2
  have hv1 := Xn hv hE01
  have hw1 := hw.ext hE01
  refine Zn fun A hA => ?_
  rcases hf1 with ⟨hgx, rfl⟩ | ⟨hg, rfl, q, rfl, rfl, hq⟩
  · skip
    refine Zg fun N3 hN3 => ?_
    simp (maxSteps := 2000000) only [↓Za, ↓Zb, ↓Zc, ↓vdn, vup, cond_true, cond_false, aop, Zf, ev, sput, Ze, Zw, Zz, Nat.reduceBEq, n20]
    refine hN3 [(0, v), (1, w), (4, .bool false), (5, .pointer (some ⟨b5, 0, none⟩)), (6, .int .i64 2), (33, .bool true)] _ _ ?_ (by simp (maxSteps := 2000000) only [vup, cond_true, cond_false, Nat.reduceBEq])
    clear hN3
    try clear N3
    refine Yo rfl ?_
    refine Zl ?_
    simp (maxSteps := 2000000) only [↓Za, ↓Zi, ↓Zs, ↓Zb, ↓Zc, ↓vdn, vup, List.map_nil, cond_true, cond_false, aop, Zf, ev, sput, Ze, Zw, Zz, Nat.reduceBEq, Zo, Xh, tup, e22, Yt, List.append_nil]
    refine awk fun g _ => ?_
    trivial
  have g := Va.1 hg
  have h6 := g.2.1
  have h1n := g.1
  refine Zg fun N4 hN4 => ?_
  simp (maxSteps := 2000000) only [↓Za, ↓Zb, ↓Zc, ↓vdn, vup, List.map_cons, List.map_nil, cond_true, cond_false, aop, Zf, ev, sput, Ze, Zw, Zz, unK, Nat.reduceBEq, Yt, List.nil_append, List.append_nil, n00]
  refine (rgraph_call hv1 hl hx).mono ?_
  rintro _ H1 ⟨rfl, rfl⟩
  simp (maxSteps := 2000000) only [vup, hg]
  refine hN4 [(0, v), (1, w), (4, .bool false), (5, .pointer (some ⟨b5, 0, none⟩)), (6, .int .i64 0), (33, .bool false)] _ _ ?_ (by simp (maxSteps := 2000000) only [vup, cond_true, cond_false, Nat.reduceBEq])
  clear hN4
  try clear N4
  refine Yl rfl ?_
  refine Zl ?_
  simp (maxSteps := 2000000) only [↓Zm, Zf]
  refine hA [(0, v), (1, w), (4, .bool false), (5, .pointer (some ⟨b5, 0, none⟩))] _ _ ?_ (by simp (maxSteps := 2000000) only [vup, cond_true, cond_false, Nat.reduceBEq])
  clear hA
  try clear A
  refine Zg fun N5 hN5 => ?_
  simp (maxSteps := 2000000) only [↓Za, ↓Zb, ↓Zc, vup, List.map_cons, List.map_nil, cond_true, cond_false, aop, Zf, ev, sput, Ze, Nat.reduceBEq, Yt, List.nil_append, List.append_nil]
  refine (list_call hv1 hl).mono ?_
  rintro l2 _ ⟨hl2, g2, rfl⟩
  refine (code_call (k := 1) hl2 (take80_len xs) (take80_rng hx)).mono ?_
  rintro r2 h2 ⟨hE2, hr2⟩
  obtain ⟨w1, rfl, hc1⟩ := code1_ok hg (codeR_take hr2)
  simp (maxSteps := 2000000) only [extr_20, extr_21]
  refine hN5 [(0, v), (1, w), (4, .bool false), (5, .pointer (some ⟨b5, 0, none⟩)), (7, w1), (8, .int .i64 0)] _ _ ?_ (by simp (maxSteps := 2000000) only [vup, cond_true, cond_false, Nat.reduceBEq])
  clear hN5
  try clear N5
  have hE12 := (Ext.app (fun _ => False) H1 g2).trans hE2
  have hv2 := Xn hv1 hE12
  have hw2 := hw1.ext hE12
  have d5 := (hE12.2 _ (Yr c5) id).trans c5
  have sp := hq.small g
  have f1 := small_call (h := h2) sp.1 sp.2 hq.2.2
  simp only [qV, frV] at f1
  refine Zn fun A hA => ?_
  refine Zg fun N6 hN6 => ?_
  simp (maxSteps := 2000000) only [↓Za, ↓Zb, ↓Zc, ↓vdn, vup, List.map_cons, List.map_nil, cond_true, cond_false, aop, Zf, ev, sput, Ze, Zw, Zz, unK, Nat.reduceBEq, Yt, List.nil_append, List.append_nil, n00, loadF d5]
  refine (f1).mono ?_
  rintro _ h2 ⟨rfl, rfl⟩
  simp (maxSteps := 2000000) only [vup]
  refine hN6 [(0, v), (1, w), (4, .bool false), (5, .pointer (some ⟨b5, 0, none⟩)), (7, w1), (8, .int .i64 0), (51, .bool false)] _ _ ?_ (by simp (maxSteps := 2000000) only [vup, cond_true, cond_false, Nat.reduceBEq])
  clear hN6
  try clear N6
  refine Yl rfl ?_
  refine Zl ?_
  simp (maxSteps := 2000000) only [↓Zm, Zf]
  refine hA [(0, v), (1, w), (4, .bool false), (5, .pointer (some ⟨b5, 0, none⟩)), (7, w1)] _ _ ?_ (by simp (maxSteps := 2000000) only [vup, cond_true, cond_false, Nat.reduceBEq])
  clear hA
  try clear A
  obtain ⟨n, hn⟩ : ∃ n, n = xs.length := ⟨_, rfl⟩
  have hvl : lenK v = fun K => K (Zd (n : Nat)) := by funext K; rw [hv2.len, hn]
  obtain ⟨c, hc⟩ : ∃ c, c = codeL (Wg xs 1) := ⟨_, rfl⟩
  have hk1 : wn xs 1 ≤ 64 := by rw [wn_one]; omega
  have hci := hc1.int
  rw [← hc] at hci
  have hcl : (c.map Int.ofNat).length = c.length := List.length_map ..
  have hcn : ∀ k, k < c.length → c.getD k 0 < n ∧ (c.map Int.ofNat).getD k 0 = ((c.getD k 0 : Nat) : Int) := fun k hk => by
    have e : (c.map Int.ofNat).getD k 0 = ((c.getD k 0 : Nat) : Int) := by
      rw [List.getD, List.getElem?_map, List.getD, List.getElem?_eq_getElem hk]; rfl
    refine ⟨?_, e⟩
    have h3 := (code1_iff.1 (codeL_code g hk1)).1 ((c.map Int.ofNat).getD k 0) (by
      rw [hc, List.getD, List.getElem?_eq_getElem (by rw [List.length_map, ← hc]; exact hk)]; exact List.getElem_mem _)
    rw [e] at h3; omega
  have hc64 : c.length ≤ 64 := by
    have := A_le (Wg xs 1) (2 ^ (Wg xs 1).length - 1)
    rw [hc, codeL_len (nearL_gr g hk1)]; exact this
  -- the table
  have hrep : List.replicate n ((0 : Int), (0 : Int)) = tabF n fun j => if j < 0 then (0, 1) else (0, 0) := by
    refine List.ext_getElem (by simp [tabF]) fun j h1 h2 => ?_
    simp [tabF]
  refine Zg fun N7 hN7 => ?_
  simp (maxSteps := 2000000) only [↓Za, ↓Zb, ↓Zc, vup, List.map_cons, List.map_nil, cond_true, cond_false, aop, Zf, ev, sput, Ze, Zj, Nat.reduceBEq, tyf, hvl, makeP el_50 zero_44 info_44 rfl (show n ≤ 1099511627776 by omega), hrep]
  obtain ⟨b9, hb9⟩ : ∃ b, b = h2.length := ⟨_, rfl⟩
  rw [← hb9]
  refine hN7 [(0, v), (1, w), (4, .bool false), (5, .pointer (some ⟨b5, 0, none⟩)), (7, w1), (9, .slice (some ⟨b9, 0, none⟩) n n)] _ _ ?_ (by simp (maxSteps := 2000000) only [vup, cond_true, cond_false, Nat.reduceBEq])
  clear hN7
  try clear N7
  obtain ⟨T, hT⟩ : ∃ T : (Nat → Int × Int) → Zh, T = fun f => h2 ++ [Blk.cells ((Yg (tabF n f)).map Zd) 44 false] := ⟨_, rfl⟩
  have hTf : ∀ f, h2 ++ [Blk.cells ((Yg (tabF n f)).map Zd) 44 false] = T f := fun f => by rw [hT]
  have hTg : ∀ f, (T f)[b9]? = some (.cells ((Yg (tabF n f)).map Zd) 44 false) := fun f => by rw [hT, hb9]; exact Yq _ _
  have hTs : ∀ f f', (T f).set b9 (.cells ((Yg (tabF n f')).map Zd) 44 false) = T f' := fun f f' => by rw [hT, hb9]; exact set_new _ _ _
  have hTE : ∀ f, Ext (fun _ => False) h2 (T f) := fun f => by rw [hT]; exact Ext.app _ _ _
  have hTp : ∀ f, PairSl (T f) (.slice (some ⟨b9, 0, none⟩) n n) (tabF n f) := fun f => by
    have := pairSl_cells (hTg f)
    rwa [tabF_len] at this
  have hTl : ∀ {K : Value → Prop}, lenK (.slice (some ⟨b9, 0, none⟩) n n) K = K (Zd (n : Nat)) := fun {K} => rfl
  have hTi : ∀ f i, i < n → ∀ {K : Value → Prop}, Yz prog 50 (.slice (some ⟨b9, 0, none⟩) n n) (Zd (i : Nat)) K = K (.pointer (some ⟨b9, i * 2, none⟩)) := fun f i hi {K} => by
    rw [(hTp f).idx el_50 esz_44 (by rw [tabF_len]; exact hi), elemP_pair]
  rw [hTf]
  refine Zn fun Z hZ => ?_
  refine Zg fun N8 hN8 => ?_
  simp (maxSteps := 2000000) only [↓Za, ↓Zb, ↓Zc, vup, List.map_cons, List.map_nil, cond_true, cond_false, aop, Zf, ev, sput, Ze, Zj, Nat.reduceBEq, tyf, hTl]
  refine hN8 [(0, v), (1, w), (4, .bool false), (5, .pointer (some ⟨b5, 0, none⟩)), (7, w1), (9, .slice (some ⟨b9, 0, none⟩) n n), (55, .slice (some ⟨b9, 0, none⟩) n n), (56, Zd (n : Nat)), (57, .int .i64 0)] _ _ ?_ (by simp (maxSteps := 2000000) only [vup, cond_true, cond_false, Nat.reduceBEq])
  clear hN8
  try clear N8
  refine Zt ?_
  refine Zp fun Q hQ => ?_
  refine Yx (γ := Nat) (fun i => i ≤ n) (fun i => ([(0, v), (1, w), (4, .bool false), (5, .pointer (some ⟨b5, 0, none⟩)), (7, w1), (9, .slice (some ⟨b9, 0, none⟩) n n), (55, .slice (some ⟨b9, 0, none⟩) n n), (56, Zd (n : Nat)), (57, Zd (i : Nat))], T fun j => if j < i then (0, 1) else (0, 0))) (fun i => n - i) 0 (Nat.zero_le _) (by simp (maxSteps := 2000000) only [vup, cond_true, cond_false, Nat.reduceBEq, Int.natCast_zero]) rfl ?_
  rintro i hi
  refine Zp fun Q2 hQ2 => ?_
  simp only [l10_0]
  by_cases hin : (i : Int) < n
  · have hi' : i < n := by omega
    have hst : ∀ {K : Zh → Prop}, Xk prog (T fun j => if j < i then (0, 1) else (0, 0)) 44 (.pointer (some ⟨b9, i * 2, none⟩)) (.agg #[Zd 0, Zd 1]) K = K (T fun j => if j < i + 1 then (0, 1) else (0, 0)) := fun {K} => by
      rw [tab_storeF (hTg _) hi' (g := fun j => if j < i + 1 then (0, 1) else (0, 0)) fun j hj => ?_, hTs]
      by_cases e : j = i
      · rw [if_pos (show j < i + 1 by omega), if_pos e]
      · rw [if_neg e]
        by_cases e2 : j < i
        · rw [if_pos (show j < i + 1 by omega), if_pos e2]
        · rw [if_neg (show ¬ j < i + 1 by omega), if_neg e2]
    refine Zg fun N9 hN9 => ?_
    simp (maxSteps := 2000000) only [↓Za, ↓Zb, ↓Zc, vup, cond_true, cond_false, aop, Zf, ev, sput, Ze, Zw, Zz, Nat.reduceBEq, hin]
    refine hN9 [(0, v), (1, w), (4, .bool false), (5, .pointer (some ⟨b5, 0, none⟩)), (7, w1), (9, .slice (some ⟨b9, 0, none⟩) n n), (55, .slice (some ⟨b9, 0, none⟩) n n), (56, Zd (n : Nat)), (57, Zd (i : Nat)), (58, .bool true)] _ _ ?_ (by simp (maxSteps := 2000000) only [vup, cond_true, cond_false, Nat.reduceBEq])
    clear hN9
    try clear N9
    refine Zg fun N10 hN10 => ?_
    simp (maxSteps := 2000000) only [↓Zm, ↓vdn, vup, cond_true, cond_false, Zf, ev, Nat.reduceBEq]
    refine hN10 [(0, v), (1, w), (4, .bool false), (5, .pointer (some ⟨b5, 0, none⟩)), (7, w1), (9, .slice (some ⟨b9, 0, none⟩) n n), (55, .slice (some ⟨b9, 0, none⟩) n n), (56, Zd (n : Nat)), (57, Zd (i : Nat))] _ _ ?_ (by simp (maxSteps := 2000000) only [vup, cond_true, cond_false, Nat.reduceBEq])
    clear hN10
    try clear N10
    refine Zn fun B hB => ?_
    refine Zt ?_
    refine Zg fun N11 hN11 => ?_
    simp (maxSteps := 2000000) only [↓Za, ↓Zb, ↓Zc, vup, cond_true, cond_false, aop, Zf, ev, sput, Ze, Nat.reduceBEq]
    refine hN11 [(0, v), (1, w), (4, .bool false), (5, .pointer (some ⟨b5, 0, none⟩)), (7, w1), (9, .slice (some ⟨b9, 0, none⟩) n n), (10, Zd (i : Nat)), (55, .slice (some ⟨b9, 0, none⟩) n n), (56, Zd (n : Nat)), (57, Zd (i : Nat))] _ _ ?_ (by simp (maxSteps := 2000000) only [vup, cond_true, cond_false, Nat.reduceBEq])
    clear hN11
    try clear N11
    refine Zl ?_
    simp (maxSteps := 2000000) only [↓Za, ↓Zb, ↓Zc, vup, List.map_cons, List.map_nil, cond_true, cond_false, aop, Zf, Zk, ev, sput, Ze, Nat.reduceBEq, bldF1, hTi (fun j => if j < i then (0, 1) else (0, 0)) i hi', hst]
    refine hB [(0, v), (1, w), (4, .bool false), (5, .pointer (some ⟨b5, 0, none⟩)), (7, w1), (9, .slice (some ⟨b9, 0, none⟩) n n), (55, .slice (some ⟨b9, 0, none⟩) n n), (56, Zd (n : Nat)), (57, Zd (i : Nat))] _ _ ?_ (by simp (maxSteps := 2000000) only [vup, cond_true, cond_false, Nat.reduceBEq])
    clear hB
    try clear B
    refine Zl ?_
    simp (maxSteps := 2000000) only [↓Za, ↓Zb, ↓Zc, vup, cond_true, cond_false, aop, ev, sput, Ze, Zw, Zz, Nat.reduceBEq, add1 (show i < 9223372036854775807 by omega)]
    exact hQ2 _ _ _ ⟨i + 1, hi', by omega, by simp (maxSteps := 2000000) only [vup, cond_true, cond_false, Nat.reduceBEq], rfl⟩
  obtain rfl : n = i := by omega
  refine Zg fun N12 hN12 => ?_
  simp (maxSteps := 2000000) only [↓Za, ↓Zb, ↓Zc, vup, cond_true, cond_false, aop, Zf, ev, sput, Ze, Zw, Zz, Nat.reduceBEq, hin]
  refine hN12 [(0, v), (1, w), (4, .bool false), (5, .pointer (some ⟨b5, 0, none⟩)), (7, w1), (9, .slice (some ⟨b9, 0, none⟩) n n), (55, .slice (some ⟨b9, 0, none⟩) n n), (56, Zd (n : Nat)), (57, Zd (n : Nat)), (58, .bool false)] _ _ ?_ (by simp (maxSteps := 2000000) only [vup, cond_true, cond_false, Nat.reduceBEq])
  clear hN12
  try clear N12
  refine Zg fun N13 hN13 => ?_
  simp (maxSteps := 2000000) only [↓Yk, ↓vdn, vup, cond_true, cond_false, Zf, ev, Nat.reduceBEq]
  refine hQ2 _ _ _ (hQ _ _ _ ?_)
  simp (maxSteps := 2000000) only [Zf, Zk, Zo, if_true]
  refine hZ [(0, v), (1, w), (4, .bool false), (5, .pointer (some ⟨b5, 0, none⟩)), (7, w1), (9, .slice (some ⟨b9, 0, none⟩) n n)] _ _ ?_ (by simp (maxSteps := 2000000) only [vup, cond_true, cond_false, Nat.reduceBEq])
  clear hZ
  try clear Z
  clear hQ hQ2
  have hT0 : (T fun j => if j < n then (0, 1) else (0, 0)) = T (ownF []) := by
    rw [← hTf, ← hTf, tabF_congr (g := ownF []) fun j hj => ?_]
    rw [if_pos hj, ownF, if_neg (by simp)]
  rw [hT0]
  refine Zn fun Z hZ => ?_
  refine Zg fun N14 hN14 => ?_
  simp (maxSteps := 2000000) only [↓Za, ↓Zb, ↓Zc, vup, List.map_cons, List.map_nil, cond_true, cond_false, aop, Zf, ev, sput, Ze, Zj, Nat.reduceBEq, tyf, hci.len, hcl]
  refine hN14 [(0, v), (1, w), (4, .bool false), (5, .pointer (some ⟨b5, 0, none⟩)), (7, w1), (9, .slice (some ⟨b9, 0, none⟩) n n), (65, w1), (66, Zd c.length), (67, .int .i64 0)] _ _ ?_ (by simp (maxSteps := 2000000) only [vup, cond_true, cond_false, Nat.reduceBEq])
  clear hN14
  try clear N14
  refine Zt ?_
  refine Zp fun Q hQ => ?_
  refine Yx (γ := Nat) (fun k => k ≤ c.length) (fun k => ([(0, v), (1, w), (4, .bool false), (5, .pointer (some ⟨b5, 0, none⟩)), (7, w1), (9, .slice (some ⟨b9, 0, none⟩) n n), (65, w1), (66, Zd c.length), (67, Zd (k : Nat))], T (ownF (c.take k)))) (fun k => c.length - k) 0 (Nat.zero_le _) (by simp (maxSteps := 2000000) only [vup, cond_true, cond_false, Nat.reduceBEq, Int.natCast_zero]) rfl ?_
  rintro k hk
  refine Zp fun Q2 hQ2 => ?_
  simp only [l10_1]
  by_cases hkn : (k : Int) < c.length
  · have hk' : k < c.length := by omega
    have hkC : k < (c.map Int.ofNat).length := by rw [hcl]; exact hk'
    obtain ⟨hz, hze⟩ := hcn k hk'
    obtain ⟨z, hzd⟩ : ∃ z, z = c.getD k 0 := ⟨_, rfl⟩
    rw [← hzd] at hz hze
    have hciT : IntSl (T (ownF (c.take k))) w1 (c.map Int.ofNat) := Xn hci (hTE _)
    have hz0 : ¬ (z : Int) < 0 := by omega
    have hzn : ¬ (n : Int) ≤ (z : Int) := by omega
    have hst : ∀ {K : Zh → Prop}, Xk prog (T (ownF (c.take k))) 3 (.pointer (some ⟨b9, z * 2, none⟩)) (.int .i64 1) K = K (T (ownF (c.take (k + 1)))) := fun {K} => by
      rw [tab_store1 (hTg _) hz (g := ownF (c.take (k + 1))) fun j hj => ?_, hTs]
      have hm : j ∈ c.take (k + 1) ↔ j ∈ c.take k ∨ j = z := by
        rw [take_snoc (d := 0) hk', List.mem_append, List.mem_singleton, ← hzd]
      by_cases e : j = z
      · rw [if_pos e, ownF, if_pos (hm.2 (.inr e)), ownF]
        split <;> rfl
      · rw [if_neg e, ownF, ownF]
        by_cases e2 : j ∈ c.take k
        · rw [if_pos e2, if_pos (hm.2 (.inl e2))]
        · rw [if_neg e2, if_neg fun h => (hm.1 h).elim e2 e]
    refine Zg fun N15 hN15 => ?_
    simp (maxSteps := 2000000) only [↓Za, ↓Zb, ↓Zc, vup, cond_true, cond_false, aop, Zf, ev, sput, Ze, Zw, Zz, Nat.reduceBEq, hkn]
    refine hN15 [(0, v), (1, w), (4, .bool false), (5, .pointer (some ⟨b5, 0, none⟩)), (7, w1), (9, .slice (some ⟨b9, 0, none⟩) n n), (65, w1), (66, Zd c.length), (67, Zd (k : Nat)), (68, .bool true)] _ _ ?_ (by simp (maxSteps := 2000000) only [vup, cond_true, cond_false, Nat.reduceBEq])
    clear hN15
    try clear N15
    refine Zg fun N16 hN16 => ?_
    simp (maxSteps := 2000000) only [↓Zm, ↓vdn, vup, cond_true, cond_false, Zf, ev, Nat.reduceBEq]
    refine hN16 [(0, v), (1, w), (4, .bool false), (5, .pointer (some ⟨b5, 0, none⟩)), (7, w1), (9, .slice (some ⟨b9, 0, none⟩) n n), (65, w1), (66, Zd c.length), (67, Zd (k : Nat))] _ _ ?_ (by simp (maxSteps := 2000000) only [vup, cond_true, cond_false, Nat.reduceBEq])
    clear hN16
    try clear N16
    refine Zn fun B hB => ?_
    refine Zt ?_
    refine Zg fun N17 hN17 => ?_
    simp (maxSteps := 2000000) only [↓Za, ↓Zb, ↓Zc, vup, cond_true, cond_false, aop, Zf, ev, sput, Ze, Nat.reduceBEq, hciT.idx Xu Xe hkC, hciT.load Xm hkC, hze]
    refine hN17 [(0, v), (1, w), (4, .bool false), (5, .pointer (some ⟨b5, 0, none⟩)), (7, w1), (9, .slice (some ⟨b9, 0, none⟩) n n), (12, Zd (z : Nat)), (65, w1), (66, Zd c.length), (67, Zd (k : Nat))] _ _ ?_ (by simp (maxSteps := 2000000) only [vup, cond_true, cond_false, Nat.reduceBEq])
    clear hN17
    try clear N17
    refine Zn fun D hD => ?_
    refine Zg fun N18 hN18 => ?_
    simp (maxSteps := 2000000) only [↓Za, ↓Zb, ↓Zc, ↓vdn, vup, List.map_cons, List.map_nil, cond_true, cond_false, aop, Zf, ev, sput, Ze, Zw, Zz, Zj, Nat.reduceBEq, tyf, hz0, hvl, hzn]
    refine hN18 [(0, v), (1, w), (4, .bool false), (5, .pointer (some ⟨b5, 0, none⟩)), (7, w1), (9, .slice (some ⟨b9, 0, none⟩) n n), (12, Zd (z : Nat)), (65, w1), (66, Zd c.length), (67, Zd (k : Nat)), (78, .bool false)] _ _ ?_ (by simp (maxSteps := 2000000) only [vup, cond_true, cond_false, Nat.reduceBEq])
    clear hN18
    try clear N18
    refine Yl rfl ?_
    refine Zl ?_
    simp (maxSteps := 2000000) only [↓Zm, Zf]
    refine hD [(0, v), (1, w), (4, .bool false), (5, .pointer (some ⟨b5, 0, none⟩)), (7, w1), (9, .slice (some ⟨b9, 0, none⟩) n n), (12, Zd (z : Nat)), (65, w1), (66, Zd c.length), (67, Zd (k : Nat))] _ _ ?_ (by simp (maxSteps := 2000000) only [vup, cond_true, cond_false, Nat.reduceBEq])
    clear hD
    try clear D
    refine Zl ?_
    simp (maxSteps := 2000000) only [↓Za, ↓Zb, ↓Zc, vup, cond_true, cond_false, aop, Zf, Zk, ev, sput, Ze, Nat.reduceBEq, hTi (ownF (c.take k)) z hz, fO0, hst]
    refine hB [(0, v), (1, w), (4, .bool false), (5, .pointer (some ⟨b5, 0, none⟩)), (7, w1), (9, .slice (some ⟨b9, 0, none⟩) n n), (65, w1), (66, Zd c.length), (67, Zd (k : Nat))] _ _ ?_ (by simp (maxSteps := 2000000) only [vup, cond_true, cond_false, Nat.reduceBEq])
    clear hB
    try clear B
    refine Zl ?_
    simp (maxSteps := 2000000) only [↓Za, ↓Zb, ↓Zc, vup, cond_true, cond_false, aop, ev, sput, Ze, Zw, Zz, Nat.reduceBEq, add1 (show k < 9223372036854775807 by omega)]
    exact hQ2 _ _ _ ⟨k + 1, hk', by omega, by simp (maxSteps := 2000000) only [vup, cond_true, cond_false, Nat.reduceBEq], rfl⟩
  obtain rfl : k = c.length := by omega
  refine Zg fun N19 hN19 => ?_
  simp (maxSteps := 2000000) only [↓Za, ↓Zb, ↓Zc, vup, cond_true, cond_false, aop, Zf, ev, sput, Ze, Zw, Zz, Nat.reduceBEq, hkn]
  refine hN19 [(0, v), (1, w), (4, .bool false), (5, .pointer (some ⟨b5, 0, none⟩)), (7, w1), (9, .slice (some ⟨b9, 0, none⟩) n n), (65, w1), (66, Zd c.length), (67, Zd c.length), (68, .bool false)] _ _ ?_ (by simp (maxSteps := 2000000) only [vup, cond_true, cond_false, Nat.reduceBEq])
  clear hN19
  try clear N19
  refine Zg fun N20 hN20 => ?_
  simp (maxSteps := 2000000) only [↓Yk, ↓vdn, vup, cond_true, cond_false, Zf, ev, Nat.reduceBEq]
  refine hQ2 _ _ _ (hQ _ _ _ ?_)
  simp (maxSteps := 2000000) only [Zf, Zk, Zo, if_true]
  refine hZ [(0, v), (1, w), (4, .bool false), (5, .pointer (some ⟨b5, 0, none⟩)), (7, w1), (9, .slice (some ⟨b9, 0, none⟩) n n)] _ _ ?_ (by simp (maxSteps := 2000000) only [vup, cond_true, cond_false, Nat.reduceBEq])
  clear hZ
  try clear Z
  clear hQ hQ2
  rw [List.take_length]
  have hE2T := hTE (ownF c)
  have hPT := hTp (ownF c)
  have hvT := Xn hv2 hE2T
  have hwT := hw2.ext hE2T
  have d5 := (hE2T.2 _ (Yr d5) id).trans d5
  generalize T (ownF c) = HT at hE2T hPT hvT hwT d5 ⊢
  clear hTf hTg hTs hTE hTp hT0
  refine Zn fun A hA => ?_
  refine Zg fun N21 hN21 => ?_
  simp (maxSteps := 2000000) only [↓Za, ↓Zb, ↓Zc, vup, List.map_cons, List.map_nil, cond_true, cond_false, aop, Zf, ev, sput, Ze, Nat.reduceBEq, Yt, List.nil_append, List.append_nil]
  refine (list_call hvT hl).mono ?_
  rintro l3 _ ⟨hl3, g3, rfl⟩
  rw [grs_same hg] at hl3
  refine (light_call hl3 hl hx (hPT.grow g3) (by rw [tabF_len]; omega)).mono ?_
  rintro r4 h4 ⟨hE4, hr4⟩
  rw [hn, own_light g hc] at hr4
  subst hr4
  simp (maxSteps := 2000000) only [extr_20, extr_21]
  refine hN21 [(0, v), (1, w), (4, .bool false), (5, .pointer (some ⟨b5, 0, none⟩)), (7, w1), (9, .slice (some ⟨b9, 0, none⟩) n n), (13, .bool true), (14, .int .i64 0)] _ _ ?_ (by simp (maxSteps := 2000000) only [vup, cond_true, cond_false, Nat.reduceBEq])
  clear hN21
  try clear N21
  have hE34 := (Ext.app (fun _ => False) HT g3).trans hE4
  have hv4 := Xn hvT hE34
  have hw4 := hwT.ext hE34
  have d5 := (hE34.2 _ (Yr d5) id).trans d5
  refine Zg fun N22 hN22 => ?_
  simp (maxSteps := 2000000) only [↓Za, ↓Zb, ↓Zc, ↓vdn, vup, cond_true, cond_false, aop, Zf, ev, sput, Ze, Zw, Zz, unK, Nat.reduceBEq, n00]
  refine hN22 [(0, v), (1, w), (4, .bool false), (5, .pointer (some ⟨b5, 0, none⟩)), (7, w1), (9, .slice (some ⟨b9, 0, none⟩) n n), (13, .bool true), (14, .int .i64 0), (96, .bool false)] _ _ ?_ (by simp (maxSteps := 2000000) only [vup, cond_true, cond_false, Nat.reduceBEq])
  clear hN22
  try clear N22
  refine Yl rfl ?_
  refine Zl ?_
  simp (maxSteps := 2000000) only [↓Zm, Zf]
  refine hA [(0, v), (1, w), (4, .bool false), (5, .pointer (some ⟨b5, 0, none⟩))] _ _ ?_ (by simp (maxSteps := 2000000) only [vup, cond_true, cond_false, Nat.reduceBEq])
  clear hA
  try clear A
  refine Zg fun N23 hN23 => ?_
  refine Xp [(7, 4), (8, 4)] (by kernel_rfl) (by kernel_rfl) (by kernel_rfl) (by kernel_rfl) ?_
  have hne : xs ≠ [] := fun hc => by rw [hc] at h1n; simp at h1n
  simp (maxSteps := 2000000) only [↓Yp, ↓vdn, vup, List.map_cons, List.map_nil, cond_true, cond_false, aop, Zf, ev, sput, Ze, Zj, Nat.reduceBEq, Nat.reduceAdd, tyf, Yt, List.nil_append, List.append_nil]
  refine ⟨_, _, list_det hv4 hne (by omega), ?_⟩
  have hv5 : IntSl (h4 ++ [Blk.ints [] 3 false] ++ [Blk.ints xs 3 false]) (.slice (some ⟨h4.length + 1, 0, some 0⟩) xs.length xs.length) xs := fresh_rsi.1.int
  have hE45 : Ext (fun _ => False) h4 (h4 ++ [Blk.ints [] 3 false] ++ [Blk.ints xs 3 false]) := (Ext.app _ _ _).trans (Ext.app _ _ _)
  generalize h4 ++ [Blk.ints [] 3 false] ++ [Blk.ints xs 3 false] = H5 at hv5 hE45 ⊢
  generalize Value.slice (some ⟨h4.length + 1, 0, some 0⟩) xs.length xs.length = l5 at hv5 ⊢
  have hw5 := hw4.ext hE45
  simp (maxSteps := 2000000) only [vup, cond_true, cond_false, ev, Nat.reduceBEq, hw5.len, mmK, Bool.false_eq_true, if_false, gt_iff_lt, min9, Option.map_none, Option.map_some]
  refine hw5.pre el_50 esz_44 (Nat.min_le_left _ _) fun w6 hw6 => ?_
  rw [take_min] at hw6
  refine (cloneF_call hw6 (by rw [List.length_take]; omega)).mono ?_
  rintro w7 H7 ⟨hw7, hE57⟩
  refine (light_call (Xn hv5 hE57) hl hx hw7 (by rw [List.length_take]; omega)).mono ?_
  rintro r8 H8 ⟨hE78, rfl⟩
  have hE48 := (hE45.trans hE57).trans hE78
  have hv8 := Xn hv4 hE48
  have hw8 := hw4.ext hE48
  have d5 := (hE48.2 _ (Yr d5) id).trans d5
  have hok9 : okL xs (ps.take 9) = true → ps.take 9 = ps := fun h => by
    rw [okL, Bool.and_eq_true, Bool.and_eq_true, decide_eq_true_eq] at h
    have := h.2.1
    rw [List.length_take] at this
    exact List.take_of_length_le (by omega)
  cases hok : okL xs (ps.take 9) with
  | false =>
    rw [lightV, hok, if_neg (by decide)]
    simp (maxSteps := 2000000) only [extr_20, extr_21]
    refine hN23 [(0, v), (1, w), (4, .bool false), (5, .pointer (some ⟨b5, 0, none⟩)), (15, .bool false), (16, .int .i64 2)] _ _ ?_ (by simp (maxSteps := 2000000) only [vup, cond_true, cond_false, Nat.reduceBEq])
    clear hN23
    try clear N23
    refine Zn fun A hA => ?_
    refine Zg fun N24 hN24 => ?_
    simp (maxSteps := 2000000) only [↓Za, ↓Zb, ↓Zc, ↓vdn, vup, cond_true, cond_false, aop, Zf, ev, sput, Ze, Zw, Zz, Nat.reduceBEq, n20]
    refine hN24 [(0, v), (1, w), (4, .bool false), (5, .pointer (some ⟨b5, 0, none⟩)), (15, .bool false), (16, .int .i64 2), (120, .bool true)] _ _ ?_ (by simp (maxSteps := 2000000) only [vup, cond_true, cond_false, Nat.reduceBEq])
    clear hN24
    try clear N24
    refine Yo rfl ?_
    refine Zl ?_
    simp (maxSteps := 2000000) only [↓Za, ↓Zi, ↓Zs, ↓Zb, ↓Zc, ↓vdn, vup, List.map_nil, cond_true, cond_false, aop, Zf, ev, sput, Ze, Zw, Zz, Nat.reduceBEq, Zo, Xh, tup, e20, e22, Yt, List.append_nil]
    refine awk fun g _ => ?_
    trivial
  | true =>
    have hps := hok9 hok
    rw [hps] at hok ⊢
    rw [lightV, if_pos hok]
    rw [okL, Bool.and_eq_true, Bool.and_eq_true, decide_eq_true_eq] at hok
    have hlen := hok.2.1
    have ha := hok.2.2
    cases hL : lightB xs ps with
    | false =>
      simp (maxSteps := 2000000) only [extr_20, extr_21]
      refine hN23 [(0, v), (1, w), (4, .bool false), (5, .pointer (some ⟨b5, 0, none⟩)), (15, .bool false), (16, .int .i64 0)] _ _ ?_ (by simp (maxSteps := 2000000) only [vup, cond_true, cond_false, Nat.reduceBEq])
      clear hN23
      try clear N23
      refine Zn fun A hA => ?_
      refine Zg fun N25 hN25 => ?_
      simp (maxSteps := 2000000) only [↓Za, ↓Zb, ↓Zc, ↓vdn, vup, cond_true, cond_false, aop, Zf, ev, sput, Ze, Zw, Zz, unK, Nat.reduceBEq, n00]
      refine hN25 [(0, v), (1, w), (4, .bool false), (5, .pointer (some ⟨b5, 0, none⟩)), (15, .bool false), (16, .int .i64 0), (120, .bool true)] _ _ ?_ (by simp (maxSteps := 2000000) only [vup, cond_true, cond_false, Nat.reduceBEq])
      clear hN25
      try clear N25
      refine Yo rfl ?_
      refine Zl ?_
      simp (maxSteps := 2000000) only [↓Za, ↓Zi, ↓Zs, ↓Zb, ↓Zc, ↓vdn, vup, List.map_nil, cond_true, cond_false, aop, Zf, ev, sput, Ze, Zw, Zz, unK, Nat.reduceBEq, Zo, Xh, tup, e00, Yt, List.append_nil]
      refine awk fun g _ => ?_
      trivial
    | true =>
      simp (maxSteps := 2000000) only [extr_20, extr_21]
      refine hN23 [(0, v), (1, w), (4, .bool false), (5, .pointer (some ⟨b5, 0, none⟩)), (15, .bool true), (16, .int .i64 0)] _ _ ?_ (by simp (maxSteps := 2000000) only [vup, cond_true, cond_false, Nat.reduceBEq])
      clear hN23
      try clear N23
      refine Zn fun A hA => ?_
      refine Zg fun N26 hN26 => ?_
      simp (maxSteps := 2000000) only [↓Za, ↓Zb, ↓Zc, ↓vdn, vup, List.map_cons, List.map_nil, cond_true, cond_false, aop, Zf, ev, sput, Ze, Zw, Zz, unK, Nat.reduceBEq, n00, Yt, List.nil_append, List.append_nil]
      refine (wts_call hv8 hw8 hwl).mono ?_
      rintro _ H9 ⟨hE9, rfl⟩
      have hwt : (decide (ps.length = xs.length) && allW ps) = true := by rw [ha, decide_eq_true hlen]; rfl
      simp (maxSteps := 2000000) only [vup, hwt]
      refine hN26 [(0, v), (1, w), (4, .bool false), (5, .pointer (some ⟨b5, 0, none⟩)), (15, .bool true), (16, .int .i64 0), (120, .bool false)] _ _ ?_ (by simp (maxSteps := 2000000) only [vup, cond_true, cond_false, Nat.reduceBEq])
      clear hN26
      try clear N26
      refine Yl rfl ?_
      refine Zl ?_
      simp (maxSteps := 2000000) only [↓Zm, Zf]
      refine hA [(0, v), (1, w), (4, .bool false), (5, .pointer (some ⟨b5, 0, none⟩))] _ _ ?_ (by simp (maxSteps := 2000000) only [vup, cond_true, cond_false, Nat.reduceBEq])
      clear hA
      try clear A
      have hw9 := hw8.ext hE9
      have d5 := (hE9.2 _ (Yr d5) id).trans d5
      refine Zg fun N27 hN27 => ?_
      simp (maxSteps := 2000000) only [↓Za, ↓Zb, ↓Zc, vup, cond_false, aop, Zf, ev, sput, Ze, Nat.reduceBEq]
      refine hN27 [(0, v), (1, w), (4, .bool false), (5, .pointer (some ⟨b5, 0, none⟩)), (17, .int .i64 0), (18, .int .i64 1)] _ _ ?_ (by simp (maxSteps := 2000000) only [vup, cond_true, cond_false, Nat.reduceBEq])
      clear hN27
      try clear N27
      refine Zn fun Z hZ => ?_
      refine Zg fun N28 hN28 => ?_
      simp (maxSteps := 2000000) only [↓Za, ↓Zb, ↓Zc, vup, List.map_cons, List.map_nil, cond_true, cond_false, aop, Zf, ev, sput, Ze, Zj, Nat.reduceBEq, tyf, hw9.len]
      refine hN28 [(0, v), (1, w), (4, .bool false), (5, .pointer (some ⟨b5, 0, none⟩)), (17, .int .i64 0), (18, .int .i64 1), (134, w), (135, Zd ps.length), (136, .int .i64 0)] _ _ ?_ (by simp (maxSteps := 2000000) only [vup, cond_true, cond_false, Nat.reduceBEq])
      clear hN28
      try clear N28
      refine Zt ?_
      refine Zp fun Q hQ => ?_
      refine Yx (γ := Nat × Zh) (fun t => t.1 ≤ ps.length ∧ Ext (fun _ => False) H9 t.2) (fun t => ([(0, v), (1, w), (4, .bool false), (5, .pointer (some ⟨b5, 0, none⟩)), (17, Zd (Xl ps t.1).1), (18, Zd (Xl ps t.1).2), (134, w), (135, Zd ps.length), (136, Zd (t.1 : Nat))], t.2)) (fun t => ps.length - t.1) (0, H9) ⟨Nat.zero_le _, Ext.refl _ _⟩ (by simp (maxSteps := 2000000) only [vup, cond_true, cond_false, Nat.reduceBEq, Int.natCast_zero, Xl]) rfl ?_
      rintro ⟨i, G⟩ ⟨hi, hEG⟩
      simp only at hi hEG
      refine Zp fun Q2 hQ2 => ?_
      simp only [l10_2]
      obtain ⟨s1, s2, s3, s4, _⟩ := sumAB_ok ha hi
      have hp6 : 60 ^ i ≤ 60 ^ 6 := Nat.pow_le_pow_right (by decide) (by omega)
      have hp6' : (60 : Nat) ^ 6 = 46656000000 := by decide
      have hB : (Xl ps i).2.natAbs ≤ 46656000000 := by omega
      have hA : (Xl ps i).1.natAbs ≤ 6 * 46656000000 := by
        have : (i : Int) * (Xl ps i).2 ≤ 6 * 46656000000 := Int.mul_le_mul (by omega) (by omega) (by omega) (by omega)
        omega
      by_cases hin : (i : Int) < ps.length
      · have hi' : i < ps.length := by omega
        have hwG := hw9.ext hEG
        obtain ⟨⟨x, y⟩, hp⟩ : ∃ p, ps.getD i (0, 0) = p := ⟨_, rfl⟩
        have hW := wf_isW ha hi'
        rw [hp] at hW
        obtain ⟨k1, k2, k3, k4, _⟩ := isW_iff.1 hW
        simp only at k1 k2 k3 k4
        have hnx : Xl ps (i + 1) = ((Xl ps i).1 * y + x * (Xl ps i).2, (Xl ps i).2 * y) := by rw [Xl, hp]
        have m1 := mulB hA (b := y) (B := 60) (by omega) (by decide)
        have m2 := mulB (a := x) (A := 60) (by omega) hB (by decide)
        have m3 : addV .i64 ((Xl ps i).1 * y) (x * (Xl ps i).2) = (Xl ps (i + 1)).1 := by
          rw [hnx]; exact addV_id (by have := m1.2; have := m2.2; omega) (by have := m1.2; have := m2.2; omega)
        have m4 : mulV .i64 (Xl ps i).2 y = (Xl ps (i + 1)).2 := by
          rw [hnx]; exact (mulB hB (b := y) (B := 60) (by omega) (by decide)).1
        refine Zg fun N29 hN29 => ?_
        simp (maxSteps := 2000000) only [↓Za, ↓Zb, ↓Zc, vup, cond_true, cond_false, aop, Zf, ev, sput, Ze, Zw, Zz, Nat.reduceBEq, hin]
        refine hN29 [(0, v), (1, w), (4, .bool false), (5, .pointer (some ⟨b5, 0, none⟩)), (17, Zd (Xl ps i).1), (18, Zd (Xl ps i).2), (134, w), (135, Zd ps.length), (136, Zd (i : Nat)), (137, .bool true)] _ _ ?_ (by simp (maxSteps := 2000000) only [vup, cond_true, cond_false, Nat.reduceBEq])
        clear hN29
        try clear N29
        refine Zg fun N30 hN30 => ?_
        simp (maxSteps := 2000000) only [↓Zm, ↓vdn, vup, cond_true, cond_false, Zf, ev, Nat.reduceBEq]
        refine hN30 [(0, v), (1, w), (4, .bool false), (5, .pointer (some ⟨b5, 0, none⟩)), (17, Zd (Xl ps i).1), (18, Zd (Xl ps i).2), (134, w), (135, Zd ps.length), (136, Zd (i : Nat))] _ _ ?_ (by simp (maxSteps := 2000000) only [vup, cond_true, cond_false, Nat.reduceBEq])
        clear hN30
        try clear N30
        refine Zn fun B hB => ?_
        refine Zt ?_
        refine Zg fun N31 hN31 => ?_
        simp (maxSteps := 2000000) only [↓Za, ↓Zb, ↓Zc, vup, cond_true, cond_false, aop, Zf, ev, sput, Ze, Nat.reduceBEq, tyf, hwG.idx el_50 esz_44 hi', hwG.load shp_44 hi', hp, Wd, Xd, newF]
        have c20 := Yq G (fC x y)
        have hE20 : Ext (fun _ => False) G (G ++ [fC x y]) := Ext.app _ _ _
        generalize G ++ [fC x y] = F at c20 hE20 ⊢
        generalize G.length = b20 at c20 ⊢
        refine hN31 [(0, v), (1, w), (4, .bool false), (5, .pointer (some ⟨b5, 0, none⟩)), (17, Zd (Xl ps i).1), (18, Zd (Xl ps i).2), (20, .pointer (some ⟨b20, 0, none⟩)), (134, w), (135, Zd ps.length), (136, Zd (i : Nat))] _ _ ?_ (by simp (maxSteps := 2000000) only [vup, cond_true, cond_false, Nat.reduceBEq])
        clear hN31
        try clear N31
        refine Zl ?_
        refine Xp [] (by kernel_rfl) (by kernel_rfl) (by kernel_rfl) (by kernel_rfl) ?_
        simp (maxSteps := 2000000) only [↓Yp, ↓vdn, vup, cond_true, cond_false, aop, Zf, Zk, ev, sput, Ze, Zw, Zz, Nat.reduceBEq, Nat.reduceAdd, tyf, fA0, fA1, loadF0 c20, Wn c20, m1.1, m2.1, m3, m4]
        refine hB [(0, v), (1, w), (4, .bool false), (5, .pointer (some ⟨b5, 0, none⟩)), (17, Zd (Xl ps (i + 1)).1), (18, Zd (Xl ps (i + 1)).2), (134, w), (135, Zd ps.length), (136, Zd (i : Nat))] _ _ ?_ (by simp (maxSteps := 2000000) only [vup, cond_true, cond_false, Nat.reduceBEq])
        clear hB
        try clear B
        refine Zl ?_
        simp (maxSteps := 2000000) only [↓Za, ↓Zb, ↓Zc, vup, cond_true, cond_false, aop, ev, sput, Ze, Zw, Zz, Nat.reduceBEq, add1 (show i < 9223372036854775807 by omega)]
        exact hQ2 _ _ _ ⟨(i + 1, F), ⟨hi', hEG.trans hE20⟩, by simp only; omega, by simp (maxSteps := 2000000) only [vup, cond_true, cond_false, Nat.reduceBEq], rfl⟩
      obtain rfl : i = ps.length := by omega
      refine Zg fun N32 hN32 => ?_
      simp (maxSteps := 2000000) only [↓Za, ↓Zb, ↓Zc, vup, cond_true, cond_false, aop, Zf, ev, sput, Ze, Zw, Zz, Nat.reduceBEq, hin]
      refine hN32 [(0, v), (1, w), (4, .bool false), (5, .pointer (some ⟨b5, 0, none⟩)), (17, Zd (Xl ps ps.length).1), (18, Zd (Xl ps ps.length).2), (134, w), (135, Zd ps.length), (136, Zd ps.length), (137, .bool false)] _ _ ?_ (by simp (maxSteps := 2000000) only [vup, cond_true, cond_false, Nat.reduceBEq])
      clear hN32
      try clear N32
      refine Zg fun N33 hN33 => ?_
      simp (maxSteps := 2000000) only [↓Yk, ↓vdn, vup, cond_true, cond_false, Zf, ev, Nat.reduceBEq]
      refine hQ2 _ _ _ (hQ _ _ _ ?_)
      simp (maxSteps := 2000000) only [Zf, Zk, Zo, if_true]
      refine hZ [(0, v), (1, w), (4, .bool false), (5, .pointer (some ⟨b5, 0, none⟩)), (17, Zd (Xl ps ps.length).1), (18, Zd (Xl ps ps.length).2)] _ _ ?_ (by simp (maxSteps := 2000000) only [vup, cond_true, cond_false, Nat.reduceBEq])
      clear hZ
      try clear Z
      clear hQ hQ2
      have d5 := (hEG.2 _ (Yr d5) id).trans d5
      have m1 := mulB hA (b := (q.den : Int)) (B := 720) (by have := hq.2.2; omega) (by decide)
      have m2 := mulB (a := q.num) (A := 4320) hq.2.1 hB (by decide)
      have hfin := sumAB_le hq ha hlen hL
      refine Zg fun N34 hN34 => ?_
      simp (maxSteps := 2000000) only [↓Za, ↓Zb, ↓Zc, ↓vdn, vup, List.map_nil, cond_true, cond_false, aop, Zf, ev, sput, Ze, Zw, Zz, Nat.reduceBEq, tyf, fA0, fA1, loadF0 d5, Wn d5, m1.1, m2.1, hfin, Yt, List.append_nil]
      refine awk fun g _ => ?_
      refine hN34 [(0, v), (1, w), (4, .bool true), (5, .pointer (some ⟨b5, 0, none⟩)), (17, Zd (Xl ps ps.length).1), (18, Zd (Xl ps ps.length).2)] _ _ ?_ (by simp (maxSteps := 2000000) only [vup, cond_true, cond_false, Nat.reduceBEq])
      clear hN34
      try clear N34
      refine Zl ?_
      simp (maxSteps := 2000000) only [↓Zs, vup, cond_true, cond_false, Nat.reduceBEq, Zo, Xh, tup]
end Go.Proofs.Tryd.Am
