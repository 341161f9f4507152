/-
  bets: equations solved.
  bets: bets that are valid, in the program.
  bets: the corners.
-/
import Derived.Test.YtcmindinomacbaaPk9
import Derived.Test.YtcmindinomacbaaPk8
set_option linter.all false
namespace Go.Proofs.Try.Am
open Go.Am Bq
set_option maxRecDepth 100000
set_option maxHeartbeats 1000000

theorem findP_fst (m a : Nat) (T : Ww) (ha : a ≤ m) : match findP m a T with | none => fstI (m - a) (fun i => decide (T (a + i) a ≠ 0)) = -1 | some p => a ≤ p ∧ p < m ∧ fstI (m - a) (fun i => decide (T (a + i) a ≠ 0)) = ((p - a : Nat) : Int) := by
  cases hf : findP m a T with
  | none =>
    simp only
    rw [fstI, find_none]
    intro i hi
    rw [findP, List.find?_eq_none] at hf
    have := hf (a + i) (List.mem_range.2 (by omega))
    simpa using this
  | some p =>
    obtain ⟨h1, h2, h3, h4⟩ := findP_some hf
    simp only
    refine ⟨h2, h1, ?_⟩
    rw [fstI, find_spec (k := p - a) (by omega) (by simp only [show a + (p - a) = p by omega]; simpa using h3) (fun i hi => by simpa using h4 (a + i) (by omega) (by omega))]

/-- A row divided, the first places. -/
def normTo (a c : Nat) (T : Ww) : Ww := fun i d => if i = a ∧ d < c then T a d / T a a else T i d
theorem normTo_zero (a : Nat) (T : Ww) : normTo a 0 T = T := by funext i d; simp [normTo]
theorem normTo_at (a c : Nat) (T : Ww) : normTo a c T a c = T a c := by simp [normTo]
theorem normTo_succ (a c : Nat) (T : Ww) : upd (normTo a c T) a c (T a c / T a a) = normTo a (c + 1) T := by
  funext i d
  simp only [upd, normTo]
  by_cases h1 : i = a
  · subst h1
    by_cases h2 : d = c
    · subst h2; simp
    · by_cases h3 : d < c
      · simp [h2, h3, show d < c + 1 by omega]
      · simp [h2, h3, show ¬ d < c + 1 by omega]
  · simp [h1]
theorem normTo_all {a k i d : Nat} (T : Ww) (hd : d ≤ k) : normTo a (k + 1) T i d = normT a T i d := by
  simp only [normTo, normT]
  by_cases h1 : i = a
  · simp [h1, show d < k + 1 by omega]
  · simp [h1]
/-- Rows cleared, the first ones; the next one in part. -/
def Xi (a r : Nat) (T : Ww) : Ww := fun i d => if i < r ∧ i ≠ a then T i d - T i a * T a d else T i d
def elimTo (a i c : Nat) (T : Ww) : Ww := fun i' d => if i' = i ∧ d < c then T i d - T i a * T a d else T i' d
theorem elimRows_zero (a : Nat) (T : Ww) : Xi a 0 T = T := by funext i d; simp [Xi]
theorem elimTo_zero (a i : Nat) (T : Ww) : elimTo a i 0 T = T := by funext i' d; simp [elimTo]
theorem elimTo_at (a i c : Nat) (T : Ww) : elimTo a i c T i c = T i c := by simp [elimTo]
theorem elimTo_other {a i c i' : Nat} (T : Ww) (h : i' ≠ i) (d : Nat) : elimTo a i c T i' d = T i' d := by simp [elimTo, h]
theorem elimTo_succ (a i c : Nat) (T : Ww) : upd (elimTo a i c T) i c (T i c - T i a * T a c) = elimTo a i (c + 1) T := by
  funext i' d
  simp only [upd, elimTo]
  by_cases h1 : i' = i
  · subst h1
    by_cases h2 : d = c
    · subst h2; simp
    · by_cases h3 : d < c
      · simp [h2, h3, show d < c + 1 by omega]
      · simp [h2, h3, show ¬ d < c + 1 by omega]
  · simp [h1]
theorem elimRows_row (a r : Nat) (T : Ww) : Xi a r T r = T r ∧ Xi a r T a = T a := by
  constructor <;> (funext d; simp [Xi])
theorem elimRows_next {a r k : Nat} (T : Ww) (h : r ≠ a) {i d : Nat} (hd : d ≤ k) : elimTo a r (k + 1) (Xi a r T) i d = Xi a (r + 1) T i d := by
  obtain ⟨e1, e2⟩ := elimRows_row a r T
  simp only [elimTo, e1, e2]
  by_cases h1 : i = r
  · subst h1; simp [Xi, h, show d < k + 1 by omega]
  · simp only [h1, false_and, if_false, Xi]
    by_cases h2 : i < r
    · simp [h2, show i < r + 1 by omega]
    · simp [h2, show ¬ i < r + 1 by omega]
theorem elimRows_skip {a r : Nat} (T : Ww) (h : r = a ∨ T r a = 0) (i d : Nat) : Xi a r T i d = Xi a (r + 1) T i d := by
  simp only [Xi]
  by_cases h1 : i = r
  · subst h1
    rcases h with h | h
    · simp [h]
    · by_cases h3 : i = a
      · simp [h3]
      · simp only [Nat.lt_irrefl, false_and, if_false, show i < i + 1 by omega, true_and, ne_eq, h3, not_false_eq_true, if_true, h]
        grind
  · by_cases h2 : i < r
    · simp [h2, show i < r + 1 by omega]
    · simp [h2, show ¬ i < r + 1 by omega]
theorem elimRows_all {a m i d : Nat} (T : Ww) (hi : i < m) : Xi a m T i d = elimT a T i d := by
  simp only [Xi, elimT]
  by_cases h : i = a
  · simp [h]
  · simp [h, hi]

/-- What is taken away fits. -/
theorem clear_fits [Tabs prog] {D0 D1 : Nat} {x0 x1 x2 : Int} {p f r : Rat} (h0 : Rp D0 x0 p) (h1 : Rp D0 x1 f) (h2 : Rp D1 x2 r) (hD0 : D0 ≤ 1073741824) (hD1 : D1 ≤ 1073741824) (b0 : x0.natAbs ≤ 1073741824) (b1 : x1.natAbs ≤ 1073741824) (b2 : x2.natAbs ≤ 1073741824) (h : Zh) :
    Yv prog 72 [qV f, qV r] h (qV (f * r)) ∧ Yv prog 71 [qV p, Zd (-1), qV (f * r)] h (qV (p - f * r)) := by
  have hDD : D0 * D1 ≤ 1152921504606846976 := Nat.le_trans (Nat.mul_le_mul hD0 hD1) (by decide)
  have hxx : (x1 * x2).natAbs ≤ 1152921504606846976 := by rw [Int.natAbs_mul]; exact Nat.le_trans (Nat.mul_le_mul b1 b2) (by decide)
  have hm := h1.mul h2
  have hx0 : (x0 * (D1 : Int)).natAbs ≤ 1152921504606846976 := by rw [Int.natAbs_mul, Int.natAbs_natCast]; exact Nat.le_trans (Nat.mul_le_mul b0 hD1) (by decide)
  have f1 : Fits f := ⟨by have := h1.le; omega, by have := h1.den_le; omega⟩
  have f2 : Fits r := ⟨by have := h2.le; omega, by have := h2.den_le; omega⟩
  have f3 : Fits (f * r) := ⟨by have := hm.le; omega, by have := hm.den_le; omega⟩
  refine ⟨times_call f1 f2 f3, ?_⟩
  have := plus_call (h := h) (k := -1) (h0.up D1 h2.pos) hm (by omega) (by omega)
  rwa [show p + ((-1 : Int) : Rat) * (f * r) = p - f * r by rw [show (((-1 : Int)) : Rat) = -1 from rfl]; grind] at this
theorem tame_fits {m k : Nat} {T : Ww} (h : Tame m k T) {i c : Nat} (hi : i < m) (hc : c ≤ k) : Fits (T i c) := by
  obtain ⟨D, h1, h2, h3⟩ := h
  obtain ⟨x, g1, g2⟩ := h3 i c hi hc
  exact ⟨by have := g1.le; omega, by have := g1.den_le; omega⟩

/-- What a solution may touch. -/
def Tch (B m : Nat) (bk : Nat → Nat) (b : Nat) : Prop := b = B ∨ ∃ i, i < m ∧ b = bk i
theorem Ext.fresh {S : Nat → Prop} {h h1 h2 : Zh} (hE : Ext S h h1) (hn : Ext (fun b => h.length ≤ b ∨ S b) h1 h2) : Ext S h h2 := by
  refine ⟨Nat.le_trans hE.1 hn.1, fun i hi hs => ?_⟩
  rw [hn.2 i (Nat.lt_of_lt_of_le hi hE.1) (by rintro (h3 | h3); omega; exact hs h3)]
  exact hE.2 i hi hs

set_option maxHeartbeats 4000000
/-- The rows from one on, or none. -/
theorem Mat.tail2 {h : Zh} {B m k C : Nat} {w : Nat → Value} {bk : Nat → Nat} {T : Ww} (M : Mat h B m k w bk T) {a : Nat} (ha : a ≤ m) (hm1 : 1 ≤ m) (hC : m ≤ C) {K : Value → Prop}
    (hk : ∀ v, (∀ K : Value → Prop, lenK v K = K (Zd ((m - a : Nat) : Int))) → (∀ i, i < m - a → ∀ K : Value → Prop, Yx prog 103 v (Zd (i : Nat)) K = K (Vf v 1 i)) → (∀ i, i < m - a → ∀ K : Value → Prop, Xm prog h 47 (Vf v 1 i) K = K (w (a + i))) → K v) :
    Yz prog 103 (.slice (some ⟨B, 0, some 0⟩) m C) (some (Zd (a : Nat))) none none K := by
  rcases Nat.lt_or_ge a m with h1 | h1
  · refine M.tail h1 hC fun v hv => ?_
    have hlen : ((List.range (m - a)).map fun i => w (a + i)).length = m - a := by simp
    refine hk v (fun K => by rw [hv.len, hlen]) (fun i hi K => hv.idx el_103 esz_47 (by rw [hlen]; exact hi) K) fun i hi K => ?_
    rw [hv.load shp_47 (by rw [hlen]; exact hi)]
    simp [List.getD, hi]
  · obtain rfl : a = m := by omega
    have key : K void := hk void (fun K => by rw [Nat.sub_self]; rfl) (fun i hi => by omega) (fun i hi => by omega)
    simp only [Yz, el_103, esz_47, bnd]
    exact ⟨by omega, by omega, by omega, fun h0 => by simp at h0, fun _ => .inr ⟨by omega, .inr ⟨trivial, key⟩⟩⟩
theorem s87_callW [Tabs Try.prog] {args : List Value} {h : Zh} {Q : Value → Zh → Prop} (hsz : args.length ≤ 176) (hk : AWS Try.prog 176 s87 (Zr Try.prog [.tmp 4, .tmp 5] Q) (Zt 0 args) h) : ACall Try.prog 87 args h Q :=
  Ym Try.func87 rfl (enters_of Try.func87 (by kernel_rfl) rfl) rfl rfl (by decide) s87_strip s87_ok hsz hk
theorem solve_call [Tabs prog] {h : Zh} {B m k C : Nat} {w0 : Nat → Value} {bk0 : Nat → Nat} {T0 : Ww} (M0 : Mat h B m k w0 bk0 T0) (hC : m ≤ C) (hm1 : 1 ≤ m) (hm : m ≤ 100) (hk1 : 1 ≤ k) (hk : k ≤ 100)
    (htame : ∀ j S, j ≤ k → Wm m T0 j = some S → Tame m k S) :
    ACall prog 87 [.slice (some ⟨B, 0, some 0⟩) m C, Zd (k : Nat)] h fun r h' => Ext (Tch B m bk0) h h' ∧ ∃ x ok, r = .tuple #[x, .bool ok] ∧
      (match solveT m k T0 with | none => ok = false ∧ x = .slice none 0 0 | some xs => ok = true ∧ OwnP 26 h' x (xs.map ofQ) ∧ ∀ b, Yg x = some b → h.length ≤ b) := by
  refine s87_callW (by simp) ?_
  simp only [s87]
  refine Ze fun N1 hN1 => ?_
  simp (maxSteps := 2000000) only [↓Za, ↓Zb, ↓Zc, vup, cond_false, aop, Zg, Zt, ev, sput, Zf, Nat.reduceBEq, Nat.reduceAdd]
  refine hN1 [(0, .slice (some ⟨B, 0, some 0⟩) m C), (1, Zd (k : Nat)), (4, .slice none 0 0), (5, .bool false)] _ _ ?_ (by simp (maxSteps := 2000000) only [vup, cond_true, cond_false, Nat.reduceBEq])
  clear hN1
  try clear N1
  refine Ze fun N2 hN2 => ?_
  simp (maxSteps := 2000000) only [↓Za, ↓Zb, ↓Zc, vup, cond_false, aop, Zg, ev, sput, Zf, Nat.reduceBEq]
  refine hN2 [(0, .slice (some ⟨B, 0, some 0⟩) m C), (1, Zd (k : Nat)), (4, .slice none 0 0), (5, .bool false), (6, .int .i64 0)] _ _ ?_ (by simp (maxSteps := 2000000) only [vup, cond_true, cond_false, Nat.reduceBEq])
  clear hN2
  try clear N2
  refine Zk fun Z hZ => ?_
  refine Ze fun N3 hN3 => ?_
  simp (maxSteps := 2000000) only [↓Za, ↓Zb, ↓Zc, vup, cond_true, cond_false, aop, Zg, ev, sput, Zf, Nat.reduceBEq]
  refine hN3 [(0, .slice (some ⟨B, 0, some 0⟩) m C), (1, Zd (k : Nat)), (4, .slice none 0 0), (5, .bool false), (6, .int .i64 0), (18, Zd (k : Nat)), (19, .int .i64 0)] _ _ ?_ (by simp (maxSteps := 2000000) only [vup, cond_true, cond_false, Nat.reduceBEq])
  clear hN3
  try clear N3
  refine Zl ?_
  refine Zm fun Q hQ => ?_
  refine Yh (γ := Nat × Zh × (Nat → Value) × (Nat → Nat) × Ww) (fun s => s.1 ≤ k ∧ s.1 ≤ m ∧ (s.1 < k → s.1 < m) ∧ Wm m T0 s.1 = some s.2.2.2.2 ∧ Mat s.2.1 B m k s.2.2.1 s.2.2.2.1 s.2.2.2.2 ∧ Ext (Tch B m bk0) h s.2.1 ∧ ∀ i, i < m → Tch B m bk0 (s.2.2.2.1 i))
    (fun s => ([(0, .slice (some ⟨B, 0, some 0⟩) m C), (1, Zd (k : Nat)), (4, .slice none 0 0), (5, .bool false), (6, Zd (s.1 : Nat)), (18, Zd (k : Nat)), (19, Zd (s.1 : Nat))], s.2.1)) (fun s => k - s.1) (0, h, w0, bk0, T0) ⟨Nat.zero_le _, Nat.zero_le _, fun _ => hm1, rfl, M0, Ext.refl _ _, fun i hi => .inr ⟨i, hi, rfl⟩⟩ (by simp (maxSteps := 2000000) only [vup, cond_true, cond_false, Nat.reduceBEq, Int.natCast_zero]) rfl ?_
  rintro ⟨j, hp, w, bk, T⟩ ⟨hj, hjm, hjkm, hrun, M, hE, hS⟩
  simp only at hj hjm hjkm hrun M hE hS
  refine Zm fun Q2 hQ2 => ?_
  simp only [l87_3]
  by_cases hin : (j : Int) < k
  · have hjk : j < k := by omega
    have hjm' : j < m := hjkm hjk
    have hBh : h.length ≤ hp.length := hE.1
    refine Ze fun N4 hN4 => ?_
    simp (maxSteps := 2000000) only [↓Za, ↓Zb, ↓Zc, vup, cond_true, cond_false, aop, Zg, ev, sput, Zf, Zz, Ya, Nat.reduceBEq, hin]
    refine hN4 [(0, .slice (some ⟨B, 0, some 0⟩) m C), (1, Zd (k : Nat)), (4, .slice none 0 0), (5, .bool false), (6, Zd (j : Nat)), (18, Zd (k : Nat)), (19, Zd (j : Nat)), (20, .bool true)] _ _ ?_ (by simp (maxSteps := 2000000) only [vup, cond_true, cond_false, Nat.reduceBEq])
    clear hN4
    try clear N4
    refine Ze fun N5 hN5 => ?_
    simp (maxSteps := 2000000) only [↓Zo, ↓vdn, vup, cond_true, cond_false, Zg, ev, Nat.reduceBEq]
    refine hN5 [(0, .slice (some ⟨B, 0, some 0⟩) m C), (1, Zd (k : Nat)), (4, .slice none 0 0), (5, .bool false), (6, Zd (j : Nat)), (18, Zd (k : Nat)), (19, Zd (j : Nat))] _ _ ?_ (by simp (maxSteps := 2000000) only [vup, cond_true, cond_false, Nat.reduceBEq])
    clear hN5
    try clear N5
    refine Zk fun Y hY => ?_
    refine Zl ?_
    -- the column's number
    obtain ⟨H1, hH1⟩ : ∃ H1, H1 = hp ++ [Blk.cells [Zd (j : Nat)] 3 false] := ⟨_, rfl⟩
    have b7 : H1[hp.length]? = some (.cells [Zd (j : Nat)] 3 false) := by rw [hH1]; exact Zy _ _
    have M1 : Mat H1 B m k w bk T := by rw [hH1]; exact M.ext (Ext.app _ _ _)
    have hE1 : Ext (Tch B m bk0) h H1 := by rw [hH1]; exact hE.trans (Ext.app _ _ _)
    have hH1l : H1.length = hp.length + 1 := by rw [hH1]; simp
    refine Ze fun N6 hN6 => ?_
    simp (maxSteps := 2000000) only [↓Za, ↓Zb, ↓Zc, vup, cond_true, cond_false, aop, Zg, ev, sput, Zf, Nat.reduceBEq, tyf, Xe, Yr, store1 (v' := Zd (j : Nat)) (Zy hp (.cells [.int .i64 0] 3 false)) Xl rfl, Xn]
    rw [← hH1]
    refine hN6 [(0, .slice (some ⟨B, 0, some 0⟩) m C), (1, Zd (k : Nat)), (4, .slice none 0 0), (5, .bool false), (6, Zd (j : Nat)), (7, .pointer (some ⟨hp.length, 0, none⟩)), (18, Zd (k : Nat)), (19, Zd (j : Nat))] _ _ ?_ (by simp (maxSteps := 2000000) only [vup, cond_true, cond_false, Nat.reduceBEq])
    clear hN6
    try clear N6
    -- the first row with a number there
    have hfst := findP_fst m j T hjm
    refine Ze fun N7 hN7 => ?_
    simp (maxSteps := 2000000) only [↓Za, ↓Zb, ↓Zc, vup, List.map_cons, List.map_nil, cond_true, cond_false, aop, Zg, ev, sput, Zf, Nat.reduceBEq, Option.map_some, Option.map_none]
    refine M1.tail hjm' hC fun v hv => ?_
    have ix := idxRow_call (F := fun i => decide (T (j + i) j ≠ 0)) (g := 112) (cap := #[.pointer (some ⟨hp.length, 0, none⟩)]) hv (by simp; omega) (fun i hi => by
      simp only [List.length_map, List.length_range] at hi
      have e : ((List.range (m - j)).map fun i => w (j + i)).getD i undef = w (j + i) := by simp [List.getD, hi]
      rw [e]
      exact nonzero_call M1 b7 (by omega) (by omega))
    rw [List.length_map, List.length_range] at ix
    simp (maxSteps := 2000000) only [vup, List.map_cons, List.map_nil, cond_true, cond_false, ev, Nat.reduceBEq, Yk, List.nil_append, List.append_nil, List.map_toArray]
    refine (ix).mono ?_
    rintro _ H1 ⟨rfl, rfl⟩
    refine hN7 [(0, .slice (some ⟨B, 0, some 0⟩) m C), (1, Zd (k : Nat)), (4, .slice none 0 0), (5, .bool false), (6, Zd (j : Nat)), (7, .pointer (some ⟨hp.length, 0, none⟩)), (8, Zd (fstI (m - j) fun i => decide (T (j + i) j ≠ 0))), (18, Zd (k : Nat)), (19, Zd (j : Nat))] _ _ ?_ (by simp (maxSteps := 2000000) only [vup, cond_true, cond_false, Nat.reduceBEq])
    clear hN7
    try clear N7
    cases hf : findP m j T with
    | none =>
      rw [hf] at hfst
      simp only at hfst
      refine Zj ?_
      simp (maxSteps := 2000000) only [↓Za, ↓Zs, ↓Zx, ↓Zb, ↓Zc, ↓vdn, vup, cond_true, cond_false, aop, Zg, Zn, ev, sput, Zf, Zz, Ya, Nat.reduceBEq, Int.reduceLT, hfst]
      refine hQ2 _ _ _ (hQ _ _ _ ?_)
      simp (maxSteps := 2000000) only [vup, cond_true, cond_false, Zg, Zn, Nat.reduceBEq, Zr, Xo, tup]
      have hs : solveT m k T0 = none := by
        have : ∀ d, Wm m T0 (j + 1 + d) = none := by
          intro d
          induction d with
          | zero =>
            show (Wm m T0 j).bind (Vj m j) = none
            rw [hrun]
            show Vj m j T = none
            rw [Vj, hf]; rfl
          | succ d ih => rw [← Nat.add_assoc, Wm, ih]; rfl
        rw [solveT, show k = j + 1 + (k - (j + 1)) by omega, this]; rfl
      rw [hs]
      exact ⟨hE1, _, _, rfl, rfl, rfl⟩
    | some p =>
      rw [hf] at hfst
      simp only at hfst
      obtain ⟨hap, hpm, hfst⟩ := hfst
      rw [hfst]
      have hpj : ¬ ((p - j : Nat) : Int) < 0 := by omega
      refine Ze fun N8 hN8 => ?_
      simp (maxSteps := 2000000) only [↓Za, ↓Zo, ↓Zs, ↓Zb, ↓Zc, ↓vdn, vup, cond_true, cond_false, aop, Zg, ev, sput, Zf, Zz, Ya, Nat.reduceBEq, hpj]
      refine hN8 [(0, .slice (some ⟨B, 0, some 0⟩) m C), (1, Zd (k : Nat)), (4, .slice none 0 0), (5, .bool false), (6, Zd (j : Nat)), (7, .pointer (some ⟨hp.length, 0, none⟩)), (8, Zd (p - j : Nat)), (18, Zd (k : Nat)), (19, Zd (j : Nat))] _ _ ?_ (by simp (maxSteps := 2000000) only [vup, cond_true, cond_false, Nat.reduceBEq])
      clear hN8
      try clear N8
      -- two rows change places
      obtain ⟨h1, H2, st1, st2, M2, hE2, hk2⟩ := M1.swap hjm' hpm
      have hb7 : hp.length ≠ B := by have := M.blt; omega
      have b7 : H2[hp.length]? = some (.cells [Zd (j : Nat)] 3 false) := by rw [hk2 _ hb7]; exact b7
      have hlen2 := Yj b7
      have hE2 : Ext (Tch B m bk0) h H2 := hE1.trans (hE2.mono fun b hb => .inl hb)
      have hS2 : ∀ i, i < m → Tch B m bk0 (swp j p bk i) := fun i hi => by
        simp only [swp]; split
        · exact hS p hpm
        · split
          · exact hS j hjm'
          · exact hS i hi
      have ajp : addV .i64 (j : Int) ((p - j : Nat) : Int) = (p : Int) := by rw [addN (by omega)]; omega
      refine Ze fun N9 hN9 => ?_
      simp only [q87_8]
      refine Yo [] (by kernel_rfl) (by kernel_rfl) (by kernel_rfl) (by kernel_rfl) ?_
      simp (maxSteps := 2000000) only [↓Zp, ↓vdn, vup, cond_true, cond_false, aop, Zg, ev, sput, Zf, Zz, Ya, Nat.reduceBEq, Nat.reduceAdd, ajp, Mat.idx j hjm', Mat.idx p hpm, M1.loadRow hpm, M1.loadRow hjm', st1, st2]
      refine hN9 [(0, .slice (some ⟨B, 0, some 0⟩) m C), (1, Zd (k : Nat)), (4, .slice none 0 0), (5, .bool false), (6, Zd (j : Nat)), (7, .pointer (some ⟨hp.length, 0, none⟩)), (18, Zd (k : Nat)), (19, Zd (j : Nat))] _ _ ?_ (by simp (maxSteps := 2000000) only [vup, cond_true, cond_false, Nat.reduceBEq])
      clear hN9
      try clear N9
      have hTp : T p j ≠ 0 := (findP_some hf).2.2.1
      have hnext : Wm m T0 (j + 1) = some (elimT j (normT j (swapT j p T))) := by
        show (Wm m T0 j).bind (Vj m j) = _
        rw [hrun]
        show Vj m j T = _
        rw [Vj, hf]; rfl
      have tame0 := htame j T hj hrun
      have tame1 := htame (j + 1) _ hjk hnext
      have hU0 : swapT j p T j j ≠ 0 := by simp only [swapT, if_true]; exact hTp
      have tameU : Tame m k (swapT j p T) := by
        obtain ⟨D, g1, g2, g3⟩ := tame0
        refine ⟨D, g1, g2, fun i c hi hc => ?_⟩
        simp only [swapT]
        split
        · exact g3 p c hpm hc
        · split
          · exact g3 j c hjm' hc
          · exact g3 i c hi hc
      clear hk2 st1 st2 h1 M1 M hE hE1 hS ix
      obtain ⟨w', hw'⟩ : ∃ w', w' = swp j p w := ⟨_, rfl⟩
      obtain ⟨bk', hbk'⟩ : ∃ w', w' = swp j p bk := ⟨_, rfl⟩
      obtain ⟨U, hU⟩ : ∃ U, U = swapT j p T := ⟨_, rfl⟩
      rw [← hw', ← hbk', ← hU] at M2
      rw [← hbk'] at hS2
      rw [← hU] at hnext tame1 hU0 tameU
      clear hw' hbk' hU
      -- what it is divided by
      obtain ⟨H3, hH3⟩ : ∃ H3, H3 = H2 ++ [fC (U j j).num (U j j).den] := ⟨_, rfl⟩
      have b9 : H3[H2.length]? = some (fC (U j j).num (U j j).den) := by rw [hH3]; exact Zy _ _
      have M3 : Mat H3 B m k w' bk' U := by rw [hH3]; exact M2.ext (Ext.app _ _ _)
      have hE3 : Ext (Tch B m bk0) h H3 := by rw [hH3]; exact hE2.trans (Ext.app _ _ _)
      have b7 : H3[hp.length]? = some (.cells [Zd (j : Nat)] 3 false) := by rw [hH3]; exact Xg b7 _
      refine Ze fun N10 hN10 => ?_
      simp only [q87_9]
      refine aw_drawE (fun _ => True) [] 7 9 [3, 4, 6] (by kernel_rfl) (by kernel_rfl) (by kernel_rfl) (by kernel_rfl) (by kernel_rfl) (by rfl) trivial ?_
      have b7' : H2[hp.length]? = some (.cells [Zd (j : Nat)] 3 false) := by
        rw [hH3, List.getElem?_append_left hlen2] at b7; exact b7
      simp (maxSteps := 2000000) only [↓dopsR_nil, ↓vdn, vup, cond_true, cond_false, aop, Zg, ev, sput, Zf, Nat.reduceBEq, Nat.reduceAdd, tyf, Mat.idx j hjm', M2.loadRow hjm', load1 b7' Xl, M2.idxR hjm' (show j ≤ k by omega), M2.loadE hjm' (show j ≤ k by omega), Xe, Yr]
      simp only [qV, frV, Xk (Zy H2 z0) rfl, Xn]
      rw [← hH3]
      refine hN10 [(0, .slice (some ⟨B, 0, some 0⟩) m C), (1, Zd (k : Nat)), (4, .slice none 0 0), (5, .bool false), (6, Zd (j : Nat)), (7, .pointer (some ⟨hp.length, 0, none⟩)), (9, .pointer (some ⟨H2.length, 0, none⟩)), (18, Zd (k : Nat)), (19, Zd (j : Nat))] _ _ ?_ (by simp (maxSteps := 2000000) only [vup, cond_true, cond_false, Nat.reduceBEq])
      clear hN10
      try clear N10
      obtain ⟨D1, d1, d2, d3⟩ := tame1
      have hT1 : ∀ i c, elimT j (normT j U) i c = if i = j then U j c / U j j else U i c - U i j * (U j c / U j j) := fun i c => by
        simp only [elimT, normT]
        by_cases h : i = j
        · simp [h]
        · simp [h]
      have tame1 : Tame m k (elimT j (normT j U)) := ⟨D1, d1, d2, d3⟩
      have hlen3 : H2.length < H3.length := by rw [hH3]; simp
      -- the row is divided
      refine Zk fun X hX => ?_
      refine Ze fun N11 hN11 => ?_
      simp (maxSteps := 2000000) only [↓Za, ↓Zb, ↓Zc, vup, List.map_cons, List.map_nil, cond_true, cond_false, aop, Zg, ev, sput, Zf, Zi, Nat.reduceBEq, tyf, Mat.idx j hjm', M3.loadRow hjm', M3.lenR hjm']
      refine hN11 [(0, .slice (some ⟨B, 0, some 0⟩) m C), (1, Zd (k : Nat)), (4, .slice none 0 0), (5, .bool false), (6, Zd (j : Nat)), (7, .pointer (some ⟨hp.length, 0, none⟩)), (9, .pointer (some ⟨H2.length, 0, none⟩)), (18, Zd (k : Nat)), (19, Zd (j : Nat)), (58, Zd ((k + 1 : Nat) : Int)), (59, .int .i64 0)] _ _ ?_ (by simp (maxSteps := 2000000) only [vup, cond_true, cond_false, Nat.reduceBEq])
      clear hN11
      try clear N11
      refine Zl ?_
      refine Zm fun Qa hQa => ?_
      refine Yh (γ := Nat × Zh) (fun s => s.1 ≤ k + 1 ∧ Mat s.2 B m k w' bk' (normTo j s.1 U) ∧ Ext (Tch B m bk0) h s.2 ∧ s.2[hp.length]? = some (.cells [Zd (j : Nat)] 3 false) ∧ s.2[H2.length]? = some (fC (U j j).num (U j j).den))
        (fun s => ([(0, .slice (some ⟨B, 0, some 0⟩) m C), (1, Zd (k : Nat)), (4, .slice none 0 0), (5, .bool false), (6, Zd (j : Nat)), (7, .pointer (some ⟨hp.length, 0, none⟩)), (9, .pointer (some ⟨H2.length, 0, none⟩)), (18, Zd (k : Nat)), (19, Zd (j : Nat)), (58, Zd ((k + 1 : Nat) : Int)), (59, Zd (s.1 : Nat))], s.2)) (fun s => k + 1 - s.1) (0, H3) ⟨Nat.zero_le _, by simp only; rw [normTo_zero]; exact M3, hE3, b7, b9⟩ (by simp (maxSteps := 2000000) only [vup, cond_true, cond_false, Nat.reduceBEq, Int.natCast_zero]) rfl ?_
      rintro ⟨c, G⟩ ⟨hc, MG, hEG, g7, g9⟩
      simp only at hc MG hEG g7 g9
      refine Zm fun Qb hQb => ?_
      simp only [l87_0]
      by_cases hcin : (c : Int) < ((k + 1 : Nat) : Int)
      · have hc' : c ≤ k := by omega
        have ov : Yv prog 94 [qV (U j c), qV (U j j)] G (qV (U j c / U j j)) := by
          refine over_call (tame_fits tameU hjm' hc') (tame_fits tameU hjm' (by omega)) hU0 ?_
          have := tame_fits tame1 hjm' hc'
          rw [hT1, if_pos rfl] at this
          exact this
        obtain ⟨G', st, MG', hEG', hk'⟩ := MG.storeE hjm' hc' (U j c / U j j)
        rw [normTo_succ] at MG'
        refine Ze fun N12 hN12 => ?_
        simp (maxSteps := 2000000) only [↓Za, ↓Zb, ↓Zc, vup, cond_true, cond_false, aop, Zg, ev, sput, Zf, Zz, Ya, Nat.reduceBEq, hcin]
        refine hN12 [(0, .slice (some ⟨B, 0, some 0⟩) m C), (1, Zd (k : Nat)), (4, .slice none 0 0), (5, .bool false), (6, Zd (j : Nat)), (7, .pointer (some ⟨hp.length, 0, none⟩)), (9, .pointer (some ⟨H2.length, 0, none⟩)), (18, Zd (k : Nat)), (19, Zd (j : Nat)), (58, Zd ((k + 1 : Nat) : Int)), (59, Zd (c : Nat)), (60, .bool true)] _ _ ?_ (by simp (maxSteps := 2000000) only [vup, cond_true, cond_false, Nat.reduceBEq])
        clear hN12
        try clear N12
        refine Ze fun N13 hN13 => ?_
        simp (maxSteps := 2000000) only [↓Zo, ↓vdn, vup, cond_true, cond_false, Zg, ev, Nat.reduceBEq]
        refine hN13 [(0, .slice (some ⟨B, 0, some 0⟩) m C), (1, Zd (k : Nat)), (4, .slice none 0 0), (5, .bool false), (6, Zd (j : Nat)), (7, .pointer (some ⟨hp.length, 0, none⟩)), (9, .pointer (some ⟨H2.length, 0, none⟩)), (18, Zd (k : Nat)), (19, Zd (j : Nat)), (58, Zd ((k + 1 : Nat) : Int)), (59, Zd (c : Nat))] _ _ ?_ (by simp (maxSteps := 2000000) only [vup, cond_true, cond_false, Nat.reduceBEq])
        clear hN13
        try clear N13
        refine Zk fun W hW => ?_
        refine Zl ?_
        refine Ze fun N14 hN14 => ?_
        simp (maxSteps := 2000000) only [↓Za, ↓Zb, ↓Zc, vup, cond_true, cond_false, aop, Zg, ev, sput, Zf, Nat.reduceBEq]
        refine hN14 [(0, .slice (some ⟨B, 0, some 0⟩) m C), (1, Zd (k : Nat)), (4, .slice none 0 0), (5, .bool false), (6, Zd (j : Nat)), (7, .pointer (some ⟨hp.length, 0, none⟩)), (9, .pointer (some ⟨H2.length, 0, none⟩)), (10, Zd (c : Nat)), (18, Zd (k : Nat)), (19, Zd (j : Nat)), (58, Zd ((k + 1 : Nat) : Int)), (59, Zd (c : Nat))] _ _ ?_ (by simp (maxSteps := 2000000) only [vup, cond_true, cond_false, Nat.reduceBEq])
        clear hN14
        try clear N14
        refine Zj ?_
        simp only [q87_13]
        refine Yo [(13, 1)] (by kernel_rfl) (by kernel_rfl) (by kernel_rfl) (by kernel_rfl) ?_
        simp (maxSteps := 2000000) only [↓Zp, ↓vdn, vup, List.map_cons, List.map_nil, cond_true, cond_false, aop, Zg, Zn, ev, sput, Zf, Nat.reduceBEq, Nat.reduceAdd, Mat.idx j hjm', MG.loadRow hjm', MG.idxR hjm' hc', MG.loadE hjm' hc', normTo_at, Ws g9, Yk, List.nil_append, List.append_nil]
        refine ⟨_, _, ov, rfl, ?_⟩
        simp (maxSteps := 2000000) only [st]
        refine hW [(0, .slice (some ⟨B, 0, some 0⟩) m C), (1, Zd (k : Nat)), (4, .slice none 0 0), (5, .bool false), (6, Zd (j : Nat)), (7, .pointer (some ⟨hp.length, 0, none⟩)), (9, .pointer (some ⟨H2.length, 0, none⟩)), (18, Zd (k : Nat)), (19, Zd (j : Nat)), (58, Zd ((k + 1 : Nat) : Int)), (59, Zd (c : Nat))] _ _ ?_ (by simp (maxSteps := 2000000) only [vup, cond_true, cond_false, Nat.reduceBEq])
        clear hW
        try clear W
        refine Zj ?_
        simp (maxSteps := 2000000) only [↓Za, ↓Zb, ↓Zc, vup, cond_true, cond_false, aop, ev, sput, Zf, Zz, Ya, Nat.reduceBEq, add1 (show c < 9223372036854775807 by omega)]
        have hbj : bk' j < G.length := MG.lt hjm'
        have n7 : hp.length ≠ bk' j := fun he => by
          obtain ⟨cc, xs, e1, e2, e3⟩ := MG.row j hjm'
          rw [← he, g7] at e3; cases e3
        have n9 : H2.length ≠ bk' j := fun he => by
          obtain ⟨cc, xs, e1, e2, e3⟩ := MG.row j hjm'
          rw [← he, g9] at e3; cases e3
        refine hQb _ _ _ ⟨(c + 1, G'), ⟨by simp only; omega, MG', hEG.trans (hEG'.mono fun b hb => by rw [hb]; exact hS2 j hjm'), by simp only; rw [hk' _ n7]; exact g7, by simp only; rw [hk' _ n9]; exact g9⟩, by simp only; omega, by simp (maxSteps := 2000000) only [vup, cond_true, cond_false, Nat.reduceBEq], rfl⟩
      obtain rfl : c = k + 1 := by omega
      refine Ze fun N15 hN15 => ?_
      simp (maxSteps := 2000000) only [↓Za, ↓Zb, ↓Zc, vup, cond_true, cond_false, aop, Zg, ev, sput, Zf, Zz, Ya, Nat.reduceBEq, hcin]
      refine hN15 [(0, .slice (some ⟨B, 0, some 0⟩) m C), (1, Zd (k : Nat)), (4, .slice none 0 0), (5, .bool false), (6, Zd (j : Nat)), (7, .pointer (some ⟨hp.length, 0, none⟩)), (9, .pointer (some ⟨H2.length, 0, none⟩)), (18, Zd (k : Nat)), (19, Zd (j : Nat)), (58, Zd ((k + 1 : Nat) : Int)), (59, Zd ((k + 1 : Nat) : Int)), (60, .bool false)] _ _ ?_ (by simp (maxSteps := 2000000) only [vup, cond_true, cond_false, Nat.reduceBEq])
      clear hN15
      try clear N15
      refine Ze fun N16 hN16 => ?_
      simp (maxSteps := 2000000) only [↓Yn, ↓vdn, vup, cond_true, cond_false, Zg, ev, Nat.reduceBEq]
      refine hQb _ _ _ (hQa _ _ _ ?_)
      simp (maxSteps := 2000000) only [Zg, Zn, if_true]
      refine hX [(0, .slice (some ⟨B, 0, some 0⟩) m C), (1, Zd (k : Nat)), (4, .slice none 0 0), (5, .bool false), (6, Zd (j : Nat)), (7, .pointer (some ⟨hp.length, 0, none⟩)), (18, Zd (k : Nat)), (19, Zd (j : Nat)), (60, .bool false)] _ _ ?_ (by simp (maxSteps := 2000000) only [vup, cond_true, cond_false, Nat.reduceBEq])
      clear hX
      try clear X
      have MV : Mat G B m k w' bk' (normT j U) := MG.congr fun i d hi hd => normTo_all U hd
      clear MG g9 b9 b7 M3 M2 hE2 b7' hlen3
      obtain ⟨V, hV⟩ : ∃ V, V = normT j U := ⟨_, rfl⟩
      rw [← hV] at MV hnext tame1 d3
      have hVj : ∀ c, elimT j V j c = V j c := fun c => by simp [elimT]
      have hVi : ∀ i, i ≠ j → V i = U i := fun i hi => by rw [hV]; funext d; simp [normT, hi]
      -- the other rows are cleared
      refine Zk fun X hX => ?_
      refine Ze fun N17 hN17 => ?_
      simp (maxSteps := 2000000) only [↓Za, ↓Zb, ↓Zc, vup, List.map_cons, List.map_nil, cond_true, cond_false, aop, Zg, ev, sput, Zf, Zi, Nat.reduceBEq, tyf, lenK]
      refine hN17 [(0, .slice (some ⟨B, 0, some 0⟩) m C), (1, Zd (k : Nat)), (4, .slice none 0 0), (5, .bool false), (6, Zd (j : Nat)), (7, .pointer (some ⟨hp.length, 0, none⟩)), (18, Zd (k : Nat)), (19, Zd (j : Nat)), (60, .bool false), (78, .slice (some ⟨B, 0, some 0⟩) m C), (79, Zd (m : Nat)), (80, .int .i64 0)] _ _ ?_ (by simp (maxSteps := 2000000) only [vup, cond_true, cond_false, Nat.reduceBEq])
      clear hN17
      try clear N17
      refine Zl ?_
      refine Zm fun Qa hQa => ?_
      refine Yh (γ := Nat × Zh) (fun s => s.1 ≤ m ∧ Mat s.2 B m k w' bk' (Xi j s.1 V) ∧ Ext (Tch B m bk0) h s.2 ∧ s.2[hp.length]? = some (.cells [Zd (j : Nat)] 3 false))
        (fun s => ([(0, .slice (some ⟨B, 0, some 0⟩) m C), (1, Zd (k : Nat)), (4, .slice none 0 0), (5, .bool false), (6, Zd (j : Nat)), (7, .pointer (some ⟨hp.length, 0, none⟩)), (18, Zd (k : Nat)), (19, Zd (j : Nat)), (60, .bool false), (78, .slice (some ⟨B, 0, some 0⟩) m C), (79, Zd (m : Nat)), (80, Zd (s.1 : Nat))], s.2)) (fun s => m - s.1) (0, G) ⟨Nat.zero_le _, by simp only; rw [elimRows_zero]; exact MV, hEG, g7⟩ (by simp (maxSteps := 2000000) only [vup, cond_true, cond_false, Nat.reduceBEq, Int.natCast_zero]) rfl ?_
      rintro ⟨r, G1⟩ ⟨hr, MR, hER, r7⟩
      simp only at hr MR hER r7
      refine Zm fun Qb hQb => ?_
      simp only [l87_2]
      by_cases hrin : (r : Int) < (m : Int)
      · have hr' : r < m := by omega
        obtain ⟨er1, er2⟩ := elimRows_row j r V
        refine Ze fun N18 hN18 => ?_
        simp (maxSteps := 2000000) only [↓Za, ↓Zb, ↓Zc, vup, cond_true, cond_false, aop, Zg, ev, sput, Zf, Zz, Ya, Nat.reduceBEq, hrin]
        refine hN18 [(0, .slice (some ⟨B, 0, some 0⟩) m C), (1, Zd (k : Nat)), (4, .slice none 0 0), (5, .bool false), (6, Zd (j : Nat)), (7, .pointer (some ⟨hp.length, 0, none⟩)), (18, Zd (k : Nat)), (19, Zd (j : Nat)), (60, .bool false), (78, .slice (some ⟨B, 0, some 0⟩) m C), (79, Zd (m : Nat)), (80, Zd (r : Nat)), (81, .bool true)] _ _ ?_ (by simp (maxSteps := 2000000) only [vup, cond_true, cond_false, Nat.reduceBEq])
        clear hN18
        try clear N18
        refine Ze fun N19 hN19 => ?_
        simp (maxSteps := 2000000) only [↓Zo, ↓vdn, vup, cond_true, cond_false, Zg, ev, Nat.reduceBEq]
        refine hN19 [(0, .slice (some ⟨B, 0, some 0⟩) m C), (1, Zd (k : Nat)), (4, .slice none 0 0), (5, .bool false), (6, Zd (j : Nat)), (7, .pointer (some ⟨hp.length, 0, none⟩)), (18, Zd (k : Nat)), (19, Zd (j : Nat)), (60, .bool false), (78, .slice (some ⟨B, 0, some 0⟩) m C), (79, Zd (m : Nat)), (80, Zd (r : Nat))] _ _ ?_ (by simp (maxSteps := 2000000) only [vup, cond_true, cond_false, Nat.reduceBEq])
        clear hN19
        try clear N19
        refine Zk fun W hW => ?_
        refine Zl ?_
        refine Ze fun N20 hN20 => ?_
        simp (maxSteps := 2000000) only [↓Za, ↓Zb, ↓Zc, vup, cond_true, cond_false, aop, Zg, ev, sput, Zf, Nat.reduceBEq]
        refine hN20 [(0, .slice (some ⟨B, 0, some 0⟩) m C), (1, Zd (k : Nat)), (4, .slice none 0 0), (5, .bool false), (6, Zd (j : Nat)), (7, .pointer (some ⟨hp.length, 0, none⟩)), (11, Zd (r : Nat)), (18, Zd (k : Nat)), (19, Zd (j : Nat)), (60, .bool false), (78, .slice (some ⟨B, 0, some 0⟩) m C), (79, Zd (m : Nat)), (80, Zd (r : Nat))] _ _ ?_ (by simp (maxSteps := 2000000) only [vup, cond_true, cond_false, Nat.reduceBEq])
        clear hN20
        try clear N20
        refine Ze fun N21 hN21 => ?_
        simp only [q87_18]
        refine aw_drawE (fun _ => True) [] 7 12 [3, 4, 6] (by kernel_rfl) (by kernel_rfl) (by kernel_rfl) (by kernel_rfl) (by kernel_rfl) (by rfl) trivial ?_
        simp (maxSteps := 2000000) only [↓dopsR_nil, ↓vdn, vup, cond_true, cond_false, aop, Zg, ev, sput, Zf, Nat.reduceBEq, Nat.reduceAdd, tyf, Mat.idx r hr', MR.loadRow hr', load1 r7 Xl, MR.idxR hr' (show j ≤ k by omega), MR.loadE hr' (show j ≤ k by omega), er1, Xe, Yr]
        simp only [qV, frV, Xk (Zy G1 z0) rfl, Xn]
        obtain ⟨G2, hG2⟩ : ∃ G2, G2 = G1 ++ [fC (V r j).num (V r j).den] := ⟨_, rfl⟩
        have b12 : G2[G1.length]? = some (fC (V r j).num (V r j).den) := by rw [hG2]; exact Zy _ _
        have M2 : Mat G2 B m k w' bk' (Xi j r V) := by rw [hG2]; exact MR.ext (Ext.app _ _ _)
        have hE2 : Ext (Tch B m bk0) h G2 := by rw [hG2]; exact hER.trans (Ext.app _ _ _)
        have b7 : G2[hp.length]? = some (.cells [Zd (j : Nat)] 3 false) := by rw [hG2]; exact Xg r7 _
        rw [← hG2]
        refine hN21 [(0, .slice (some ⟨B, 0, some 0⟩) m C), (1, Zd (k : Nat)), (4, .slice none 0 0), (5, .bool false), (6, Zd (j : Nat)), (7, .pointer (some ⟨hp.length, 0, none⟩)), (11, Zd (r : Nat)), (12, .pointer (some ⟨G1.length, 0, none⟩)), (18, Zd (k : Nat)), (19, Zd (j : Nat)), (60, .bool false), (78, .slice (some ⟨B, 0, some 0⟩) m C), (79, Zd (m : Nat)), (80, Zd (r : Nat))] _ _ ?_ (by simp (maxSteps := 2000000) only [vup, cond_true, cond_false, Nat.reduceBEq])
        clear hN21
        try clear N21
        have fin : ∀ e H, Mat H B m k w' bk' (Xi j (r + 1) V) → Ext (Tch B m bk0) h H → H[hp.length]? = some (.cells [Zd (j : Nat)] 3 false) → ELe e [(0, .slice (some ⟨B, 0, some 0⟩) m C), (1, Zd (k : Nat)), (4, .slice none 0 0), (5, .bool false), (6, Zd (j : Nat)), (7, .pointer (some ⟨hp.length, 0, none⟩)), (18, Zd (k : Nat)), (19, Zd (j : Nat)), (60, .bool false), (78, .slice (some ⟨B, 0, some 0⟩) m C), (79, Zd (m : Nat)), (80, Zd (r : Nat))] → W e H := by
          intro e H f1 f2 f3 he
          refine hW _ _ _ ?_ he
          refine Zj ?_
          simp (maxSteps := 2000000) only [↓Za, ↓Zb, ↓Zc, vup, cond_true, cond_false, aop, ev, sput, Zf, Zz, Ya, Nat.reduceBEq, add1 (show r < 9223372036854775807 by omega)]
          exact hQb _ _ _ ⟨(r + 1, H), ⟨hr', f1, f2, f3⟩, by simp only; omega, by simp (maxSteps := 2000000) only [vup, cond_true, cond_false, Nat.reduceBEq], rfl⟩
        by_cases hrj : r = j
        · have hne : (((r : Nat) : Int) != ((j : Nat) : Int)) = false := by simp [hrj]
          refine Ze fun N22 hN22 => ?_
          simp (maxSteps := 2000000) only [↓Za, ↓Zb, ↓Zc, ↓vdn, vup, cond_true, cond_false, aop, Zg, ev, sput, Zf, Zz, Ya, Nat.reduceBEq, hne]
          refine hN22 [(0, .slice (some ⟨B, 0, some 0⟩) m C), (1, Zd (k : Nat)), (4, .slice none 0 0), (5, .bool false), (6, Zd (j : Nat)), (7, .pointer (some ⟨hp.length, 0, none⟩)), (11, Zd (r : Nat)), (12, .pointer (some ⟨G1.length, 0, none⟩)), (18, Zd (k : Nat)), (19, Zd (j : Nat)), (60, .bool false), (78, .slice (some ⟨B, 0, some 0⟩) m C), (79, Zd (m : Nat)), (80, Zd (r : Nat)), (97, .bool false)] _ _ ?_ (by simp (maxSteps := 2000000) only [vup, cond_true, cond_false, Nat.reduceBEq])
          clear hN22
          try clear N22
          refine Zj ?_
          simp (maxSteps := 2000000) only [↓Zo, ↓vdn, vup, cond_true, cond_false, Zg, Zn, ev, Nat.reduceBEq]
          exact fin _ _ (M2.congr fun i d _ _ => elimRows_skip V (.inl hrj) i d) hE2 b7 (by simp (maxSteps := 2000000) only [vup, cond_true, cond_false, Nat.reduceBEq])
        have hne : (((r : Nat) : Int) != ((j : Nat) : Int)) = true := by
          have : ¬ ((r : Nat) : Int) = ((j : Nat) : Int) := by omega
          simpa [bne] using this
        by_cases hf0 : V r j = 0
        · have hnz : ((V r j).num != 0) = false := by simp [hf0]
          refine Ze fun N23 hN23 => ?_
          simp (maxSteps := 2000000) only [↓Za, ↓Zb, ↓Zc, ↓vdn, vup, cond_true, cond_false, aop, Zg, ev, sput, Zf, Zz, Ya, Nat.reduceBEq, tyf, hne, fA0, Wk b12, hnz]
          refine hN23 [(0, .slice (some ⟨B, 0, some 0⟩) m C), (1, Zd (k : Nat)), (4, .slice none 0 0), (5, .bool false), (6, Zd (j : Nat)), (7, .pointer (some ⟨hp.length, 0, none⟩)), (11, Zd (r : Nat)), (12, .pointer (some ⟨G1.length, 0, none⟩)), (18, Zd (k : Nat)), (19, Zd (j : Nat)), (60, .bool false), (78, .slice (some ⟨B, 0, some 0⟩) m C), (79, Zd (m : Nat)), (80, Zd (r : Nat)), (97, .bool false)] _ _ ?_ (by simp (maxSteps := 2000000) only [vup, cond_true, cond_false, Nat.reduceBEq])
          clear hN23
          try clear N23
          refine Zj ?_
          simp (maxSteps := 2000000) only [↓Zo, ↓vdn, vup, cond_true, cond_false, Zg, Zn, ev, Nat.reduceBEq]
          exact fin _ _ (M2.congr fun i d _ _ => elimRows_skip V (.inr hf0) i d) hE2 b7 (by simp (maxSteps := 2000000) only [vup, cond_true, cond_false, Nat.reduceBEq])
        have hnz : ((V r j).num != 0) = true := by
          have : ¬ (V r j).num = 0 := fun hc => hf0 (Rat.num_eq_zero.1 hc)
          simpa [bne] using this
        refine Ze fun N24 hN24 => ?_
        simp (maxSteps := 2000000) only [↓Za, ↓Zb, ↓Zc, ↓vdn, vup, cond_true, cond_false, aop, Zg, ev, sput, Zf, Zz, Ya, Nat.reduceBEq, tyf, hne, fA0, Wk b12, hnz]
        refine hN24 [(0, .slice (some ⟨B, 0, some 0⟩) m C), (1, Zd (k : Nat)), (4, .slice none 0 0), (5, .bool false), (6, Zd (j : Nat)), (7, .pointer (some ⟨hp.length, 0, none⟩)), (11, Zd (r : Nat)), (12, .pointer (some ⟨G1.length, 0, none⟩)), (18, Zd (k : Nat)), (19, Zd (j : Nat)), (60, .bool false), (78, .slice (some ⟨B, 0, some 0⟩) m C), (79, Zd (m : Nat)), (80, Zd (r : Nat)), (97, .bool true)] _ _ ?_ (by simp (maxSteps := 2000000) only [vup, cond_true, cond_false, Nat.reduceBEq])
        clear hN24
        try clear N24
        refine Wf rfl ?_
        obtain ⟨D0, z1, z2, z3⟩ := tameU
        obtain ⟨x1, y1, y2⟩ := z3 r j hr' (by omega)
        rw [← hVi r hrj] at y1
        refine Ze fun N25 hN25 => ?_
        simp (maxSteps := 2000000) only [↓Za, ↓Zb, ↓Zc, vup, List.map_cons, List.map_nil, cond_true, cond_false, aop, Zg, ev, sput, Zf, Zi, Nat.reduceBEq, tyf, Mat.idx r hr', M2.loadRow hr', M2.lenR hr']
        refine hN25 [(0, .slice (some ⟨B, 0, some 0⟩) m C), (1, Zd (k : Nat)), (4, .slice none 0 0), (5, .bool false), (6, Zd (j : Nat)), (7, .pointer (some ⟨hp.length, 0, none⟩)), (11, Zd (r : Nat)), (12, .pointer (some ⟨G1.length, 0, none⟩)), (18, Zd (k : Nat)), (19, Zd (j : Nat)), (60, .bool false), (78, .slice (some ⟨B, 0, some 0⟩) m C), (79, Zd (m : Nat)), (80, Zd (r : Nat)), (102, Zd ((k + 1 : Nat) : Int)), (103, .int .i64 0)] _ _ ?_ (by simp (maxSteps := 2000000) only [vup, cond_true, cond_false, Nat.reduceBEq])
        clear hN25
        try clear N25
        refine Zl ?_
        refine Zm fun Qc hQc => ?_
        refine Yh (γ := Nat × Zh) (fun s => s.1 ≤ k + 1 ∧ Mat s.2 B m k w' bk' (elimTo j r s.1 (Xi j r V)) ∧ Ext (Tch B m bk0) h s.2 ∧ s.2[hp.length]? = some (.cells [Zd (j : Nat)] 3 false) ∧ s.2[G1.length]? = some (fC (V r j).num (V r j).den))
          (fun s => ([(0, .slice (some ⟨B, 0, some 0⟩) m C), (1, Zd (k : Nat)), (4, .slice none 0 0), (5, .bool false), (6, Zd (j : Nat)), (7, .pointer (some ⟨hp.length, 0, none⟩)), (11, Zd (r : Nat)), (12, .pointer (some ⟨G1.length, 0, none⟩)), (18, Zd (k : Nat)), (19, Zd (j : Nat)), (60, .bool false), (78, .slice (some ⟨B, 0, some 0⟩) m C), (79, Zd (m : Nat)), (80, Zd (r : Nat)), (102, Zd ((k + 1 : Nat) : Int)), (103, Zd (s.1 : Nat))], s.2)) (fun s => k + 1 - s.1) (0, G2) ⟨Nat.zero_le _, by simp only; rw [elimTo_zero]; exact M2, hE2, b7, b12⟩ (by simp (maxSteps := 2000000) only [vup, cond_true, cond_false, Nat.reduceBEq, Int.natCast_zero]) rfl ?_
        rintro ⟨c, G⟩ ⟨hc, MG, hEG, g7, g12⟩
        simp only at hc MG hEG g7 g12
        refine Zm fun Qd hQd => ?_
        simp only [l87_1]
        by_cases hcin : (c : Int) < ((k + 1 : Nat) : Int)
        · have hc' : c ≤ k := by omega
          obtain ⟨x0, y3, y4⟩ := z3 r c hr' hc'
          obtain ⟨x2, y5, y6⟩ := d3 j c hjm' hc'
          rw [hVj] at y5
          rw [← hVi r hrj] at y3
          obtain ⟨cl1, cl2⟩ := clear_fits y3 y1 y5 z2 d2 y4 y2 y6 G
          have e1 : elimTo j r c (Xi j r V) r c = V r c := by rw [elimTo_at, er1]
          have e2 : elimTo j r c (Xi j r V) j c = V j c := by rw [elimTo_other _ (Ne.symm hrj), er2]
          obtain ⟨G', st, MG', hEG', hk'⟩ := MG.storeE hr' hc' (V r c - V r j * V j c)
          have e3 := elimTo_succ j r c (Xi j r V)
          rw [er1, er2] at e3
          rw [e3] at MG'
          refine Ze fun N26 hN26 => ?_
          simp (maxSteps := 2000000) only [↓Za, ↓Zb, ↓Zc, vup, cond_true, cond_false, aop, Zg, ev, sput, Zf, Zz, Ya, Nat.reduceBEq, hcin]
          refine hN26 [(0, .slice (some ⟨B, 0, some 0⟩) m C), (1, Zd (k : Nat)), (4, .slice none 0 0), (5, .bool false), (6, Zd (j : Nat)), (7, .pointer (some ⟨hp.length, 0, none⟩)), (11, Zd (r : Nat)), (12, .pointer (some ⟨G1.length, 0, none⟩)), (18, Zd (k : Nat)), (19, Zd (j : Nat)), (60, .bool false), (78, .slice (some ⟨B, 0, some 0⟩) m C), (79, Zd (m : Nat)), (80, Zd (r : Nat)), (102, Zd ((k + 1 : Nat) : Int)), (103, Zd (c : Nat)), (104, .bool true)] _ _ ?_ (by simp (maxSteps := 2000000) only [vup, cond_true, cond_false, Nat.reduceBEq])
          clear hN26
          try clear N26
          refine Ze fun N27 hN27 => ?_
          simp (maxSteps := 2000000) only [↓Zo, ↓vdn, vup, cond_true, cond_false, Zg, ev, Nat.reduceBEq]
          refine hN27 [(0, .slice (some ⟨B, 0, some 0⟩) m C), (1, Zd (k : Nat)), (4, .slice none 0 0), (5, .bool false), (6, Zd (j : Nat)), (7, .pointer (some ⟨hp.length, 0, none⟩)), (11, Zd (r : Nat)), (12, .pointer (some ⟨G1.length, 0, none⟩)), (18, Zd (k : Nat)), (19, Zd (j : Nat)), (60, .bool false), (78, .slice (some ⟨B, 0, some 0⟩) m C), (79, Zd (m : Nat)), (80, Zd (r : Nat)), (102, Zd ((k + 1 : Nat) : Int)), (103, Zd (c : Nat))] _ _ ?_ (by simp (maxSteps := 2000000) only [vup, cond_true, cond_false, Nat.reduceBEq])
          clear hN27
          try clear N27
          refine Zk fun U hU => ?_
          refine Zl ?_
          refine Ze fun N28 hN28 => ?_
          simp (maxSteps := 2000000) only [↓Za, ↓Zb, ↓Zc, vup, cond_true, cond_false, aop, Zg, ev, sput, Zf, Nat.reduceBEq]
          refine hN28 [(0, .slice (some ⟨B, 0, some 0⟩) m C), (1, Zd (k : Nat)), (4, .slice none 0 0), (5, .bool false), (6, Zd (j : Nat)), (7, .pointer (some ⟨hp.length, 0, none⟩)), (11, Zd (r : Nat)), (12, .pointer (some ⟨G1.length, 0, none⟩)), (13, Zd (c : Nat)), (18, Zd (k : Nat)), (19, Zd (j : Nat)), (60, .bool false), (78, .slice (some ⟨B, 0, some 0⟩) m C), (79, Zd (m : Nat)), (80, Zd (r : Nat)), (102, Zd ((k + 1 : Nat) : Int)), (103, Zd (c : Nat))] _ _ ?_ (by simp (maxSteps := 2000000) only [vup, cond_true, cond_false, Nat.reduceBEq])
          clear hN28
          try clear N28
          refine Zj ?_
          simp only [q87_23]
          refine Yo [(20, 1), (21, 1)] (by kernel_rfl) (by kernel_rfl) (by kernel_rfl) (by kernel_rfl) ?_
          simp (maxSteps := 2000000) only [↓Zp, ↓vdn, vup, List.map_cons, List.map_nil, cond_true, cond_false, aop, Zg, Zn, ev, sput, Zf, Nat.reduceBEq, Nat.reduceAdd, Mat.idx r hr', MG.loadRow hr', MG.idxR hr' hc', MG.loadE hr' hc', e1, Ws g12, Mat.idx j hjm', MG.loadRow hjm', MG.idxR hjm' hc', MG.loadE hjm' hc', e2, Yk, List.nil_append, List.append_nil]
          refine ⟨_, _, cl1, rfl, _, _, cl2, rfl, ?_⟩
          simp (maxSteps := 2000000) only [st]
          refine hU [(0, .slice (some ⟨B, 0, some 0⟩) m C), (1, Zd (k : Nat)), (4, .slice none 0 0), (5, .bool false), (6, Zd (j : Nat)), (7, .pointer (some ⟨hp.length, 0, none⟩)), (11, Zd (r : Nat)), (12, .pointer (some ⟨G1.length, 0, none⟩)), (18, Zd (k : Nat)), (19, Zd (j : Nat)), (60, .bool false), (78, .slice (some ⟨B, 0, some 0⟩) m C), (79, Zd (m : Nat)), (80, Zd (r : Nat)), (102, Zd ((k + 1 : Nat) : Int)), (103, Zd (c : Nat))] _ _ ?_ (by simp (maxSteps := 2000000) only [vup, cond_true, cond_false, Nat.reduceBEq])
          clear hU
          try clear U
          refine Zj ?_
          simp (maxSteps := 2000000) only [↓Za, ↓Zb, ↓Zc, vup, cond_true, cond_false, aop, ev, sput, Zf, Zz, Ya, Nat.reduceBEq, add1 (show c < 9223372036854775807 by omega)]
          have n7 : hp.length ≠ bk' r := fun he => by
            obtain ⟨cc, xs, e1, e2, e3⟩ := MG.row r hr'
            rw [← he, g7] at e3; cases e3
          have n12 : G1.length ≠ bk' r := fun he => by
            obtain ⟨cc, xs, e1, e2, e3⟩ := MG.row r hr'
            rw [← he, g12] at e3; cases e3
          refine hQd _ _ _ ⟨(c + 1, G'), ⟨by simp only; omega, MG', hEG.trans (hEG'.mono fun b hb => by rw [hb]; exact hS2 r hr'), by simp only; rw [hk' _ n7]; exact g7, by simp only; rw [hk' _ n12]; exact g12⟩, by simp only; omega, by simp (maxSteps := 2000000) only [vup, cond_true, cond_false, Nat.reduceBEq], rfl⟩
        obtain rfl : c = k + 1 := by omega
        refine Ze fun N29 hN29 => ?_
        simp (maxSteps := 2000000) only [↓Za, ↓Zb, ↓Zc, vup, cond_true, cond_false, aop, Zg, ev, sput, Zf, Zz, Ya, Nat.reduceBEq, hcin]
        refine hN29 [(0, .slice (some ⟨B, 0, some 0⟩) m C), (1, Zd (k : Nat)), (4, .slice none 0 0), (5, .bool false), (6, Zd (j : Nat)), (7, .pointer (some ⟨hp.length, 0, none⟩)), (11, Zd (r : Nat)), (12, .pointer (some ⟨G1.length, 0, none⟩)), (18, Zd (k : Nat)), (19, Zd (j : Nat)), (60, .bool false), (78, .slice (some ⟨B, 0, some 0⟩) m C), (79, Zd (m : Nat)), (80, Zd (r : Nat)), (102, Zd ((k + 1 : Nat) : Int)), (103, Zd ((k + 1 : Nat) : Int)), (104, .bool false)] _ _ ?_ (by simp (maxSteps := 2000000) only [vup, cond_true, cond_false, Nat.reduceBEq])
        clear hN29
        try clear N29
        refine Ze fun N30 hN30 => ?_
        simp (maxSteps := 2000000) only [↓Yn, ↓vdn, vup, cond_true, cond_false, Zg, ev, Nat.reduceBEq]
        refine hQd _ _ _ (hQc _ _ _ ?_)
        simp (maxSteps := 2000000) only [Zg, Zn, if_true]
        exact fin _ _ (MG.congr fun i d _ hd => elimRows_next V hrj hd) hEG g7 (by simp (maxSteps := 2000000) only [vup, cond_true, cond_false, Nat.reduceBEq])
      have hrm : m = r := by omega
      subst hrm
      refine Ze fun N31 hN31 => ?_
      simp (maxSteps := 2000000) only [↓Za, ↓Zb, ↓Zc, vup, cond_true, cond_false, aop, Zg, ev, sput, Zf, Zz, Ya, Nat.reduceBEq, hrin]
      refine hN31 [(0, .slice (some ⟨B, 0, some 0⟩) m C), (1, Zd (k : Nat)), (4, .slice none 0 0), (5, .bool false), (6, Zd (j : Nat)), (7, .pointer (some ⟨hp.length, 0, none⟩)), (18, Zd (k : Nat)), (19, Zd (j : Nat)), (60, .bool false), (78, .slice (some ⟨B, 0, some 0⟩) m C), (79, Zd (m : Nat)), (80, Zd (m : Nat)), (81, .bool false)] _ _ ?_ (by simp (maxSteps := 2000000) only [vup, cond_true, cond_false, Nat.reduceBEq])
      clear hN31
      try clear N31
      refine Ze fun N32 hN32 => ?_
      simp (maxSteps := 2000000) only [↓Yn, ↓vdn, vup, cond_true, cond_false, Zg, ev, Nat.reduceBEq]
      refine hQb _ _ _ (hQa _ _ _ ?_)
      simp (maxSteps := 2000000) only [Zg, Zn, if_true]
      refine hX [(0, .slice (some ⟨B, 0, some 0⟩) m C), (1, Zd (k : Nat)), (4, .slice none 0 0), (5, .bool false), (6, Zd (j : Nat)), (7, .pointer (some ⟨hp.length, 0, none⟩)), (18, Zd (k : Nat)), (19, Zd (j : Nat)), (81, .bool false)] _ _ ?_ (by simp (maxSteps := 2000000) only [vup, cond_true, cond_false, Nat.reduceBEq])
      clear hX
      try clear X
      have MT : Mat G1 B m k w' bk' (elimT j V) := MR.congr fun i d hi _ => elimRows_all V hi
      refine Ze fun N33 hN33 => ?_
      simp (maxSteps := 2000000) only [↓Za, ↓Zb, ↓Zc, vup, cond_true, cond_false, aop, Zg, ev, sput, Zf, Zz, Ya, Nat.reduceBEq, add1 (show j < 9223372036854775807 by omega)]
      refine hN33 [(0, .slice (some ⟨B, 0, some 0⟩) m C), (1, Zd (k : Nat)), (4, .slice none 0 0), (5, .bool false), (6, Zd ((j + 1 : Nat) : Int)), (7, .pointer (some ⟨hp.length, 0, none⟩)), (18, Zd (k : Nat)), (19, Zd (j : Nat)), (81, .bool false)] _ _ ?_ (by simp (maxSteps := 2000000) only [vup, cond_true, cond_false, Nat.reduceBEq])
      clear hN33
      try clear N33
      have goOn : (j + 1 < k → j + 1 < m) → ∀ e, ELe e [(0, .slice (some ⟨B, 0, some 0⟩) m C), (1, Zd (k : Nat)), (4, .slice none 0 0), (5, .bool false), (6, Zd ((j + 1 : Nat) : Int)), (18, Zd (k : Nat)), (19, Zd (j : Nat)), (81, .bool false)] → Y e G1 := by
        intro hlt e he
        refine hY _ _ _ ?_ he
        refine Zj ?_
        simp (maxSteps := 2000000) only [↓Za, ↓Zb, ↓Zc, vup, cond_true, cond_false, aop, ev, sput, Zf, Zz, Ya, Nat.reduceBEq, add1 (show j < 9223372036854775807 by omega)]
        exact hQ2 _ _ _ ⟨(j + 1, G1, w', bk', elimT j V), ⟨hjk, hjm', hlt, hnext, MT, hER, hS2⟩, by simp only; omega, by simp (maxSteps := 2000000) only [vup, cond_true, cond_false, Nat.reduceBEq], rfl⟩
      by_cases hjm2 : j + 1 = m
      · have h1 : (((j + 1 : Nat) : Int) == ((m : Nat) : Int)) = true := by simp [hjm2]
        by_cases hjk2 : j + 1 < k
        · have h2 : (((j + 1 : Nat) : Int) < ((k : Nat) : Int)) := by omega
          refine Ze fun N34 hN34 => ?_
          simp (maxSteps := 2000000) only [↓Za, ↓Zb, ↓Zc, ↓vdn, vup, List.map_cons, List.map_nil, cond_true, cond_false, aop, Zg, ev, sput, Zf, Zz, Ya, Zi, Nat.reduceBEq, tyf, lenK, h1, load1 r7 Xl, add1 (show j < 9223372036854775807 by omega), h2]
          refine hN34 [(0, .slice (some ⟨B, 0, some 0⟩) m C), (1, Zd (k : Nat)), (4, .slice none 0 0), (5, .bool false), (6, Zd ((j + 1 : Nat) : Int)), (7, .pointer (some ⟨hp.length, 0, none⟩)), (18, Zd (k : Nat)), (19, Zd (j : Nat)), (81, .bool false), (142, .bool true)] _ _ ?_ (by simp (maxSteps := 2000000) only [vup, cond_true, cond_false, Nat.reduceBEq])
          clear hN34
          try clear N34
          refine Zj ?_
          simp (maxSteps := 2000000) only [↓Za, ↓Zs, ↓Zx, ↓Zb, ↓Zc, ↓vdn, vup, cond_true, cond_false, aop, Zg, Zn, ev, sput, Zf, Nat.reduceBEq]
          refine hQ2 _ _ _ (hQ _ _ _ ?_)
          simp (maxSteps := 2000000) only [vup, cond_true, cond_false, Zg, Zn, Nat.reduceBEq, Zr, Xo, tup]
          have hs : solveT m k T0 = none := by
            have hfn : findP m (j + 1) (elimT j V) = none := by
              rw [findP]
              refine find_none fun i hi => ?_
              simp; omega
            have : ∀ d, Wm m T0 (j + 2 + d) = none := by
              intro d
              induction d with
              | zero =>
                show (Wm m T0 (j + 1)).bind (Vj m (j + 1)) = none
                rw [hnext]
                show Vj m (j + 1) _ = none
                rw [Vj, hfn]; rfl
              | succ d ih => rw [← Nat.add_assoc, Wm, ih]; rfl
            rw [solveT, show k = j + 2 + (k - (j + 2)) by omega, this]; rfl
          rw [hs]
          exact ⟨hER, _, _, rfl, rfl, rfl⟩
        · have h2 : ¬ (((j + 1 : Nat) : Int) < ((k : Nat) : Int)) := by omega
          refine Ze fun N35 hN35 => ?_
          simp (maxSteps := 2000000) only [↓Za, ↓Zb, ↓Zc, ↓vdn, vup, List.map_cons, List.map_nil, cond_true, cond_false, aop, Zg, ev, sput, Zf, Zz, Ya, Zi, Nat.reduceBEq, tyf, lenK, h1, load1 r7 Xl, add1 (show j < 9223372036854775807 by omega), h2]
          refine hN35 [(0, .slice (some ⟨B, 0, some 0⟩) m C), (1, Zd (k : Nat)), (4, .slice none 0 0), (5, .bool false), (6, Zd ((j + 1 : Nat) : Int)), (7, .pointer (some ⟨hp.length, 0, none⟩)), (18, Zd (k : Nat)), (19, Zd (j : Nat)), (81, .bool false), (142, .bool false)] _ _ ?_ (by simp (maxSteps := 2000000) only [vup, cond_true, cond_false, Nat.reduceBEq])
          clear hN35
          try clear N35
          refine Zj ?_
          simp (maxSteps := 2000000) only [↓Zo, ↓vdn, vup, cond_true, cond_false, Zg, Zn, ev, Nat.reduceBEq]
          exact goOn (fun h => absurd h hjk2) _ (by simp (maxSteps := 2000000) only [vup, cond_true, cond_false, Nat.reduceBEq])
      · have h1 : (((j + 1 : Nat) : Int) == ((m : Nat) : Int)) = false := by
          have : ¬ ((j + 1 : Nat) : Int) = ((m : Nat) : Int) := by omega
          simpa using this
        refine Ze fun N36 hN36 => ?_
        simp (maxSteps := 2000000) only [↓Za, ↓Zb, ↓Zc, ↓vdn, vup, List.map_cons, List.map_nil, cond_true, cond_false, aop, Zg, ev, sput, Zf, Zz, Ya, Zi, Nat.reduceBEq, tyf, lenK, h1]
        refine hN36 [(0, .slice (some ⟨B, 0, some 0⟩) m C), (1, Zd (k : Nat)), (4, .slice none 0 0), (5, .bool false), (6, Zd ((j + 1 : Nat) : Int)), (7, .pointer (some ⟨hp.length, 0, none⟩)), (18, Zd (k : Nat)), (19, Zd (j : Nat)), (81, .bool false), (142, .bool false)] _ _ ?_ (by simp (maxSteps := 2000000) only [vup, cond_true, cond_false, Nat.reduceBEq])
        clear hN36
        try clear N36
        refine Zj ?_
        simp (maxSteps := 2000000) only [↓Zo, ↓vdn, vup, cond_true, cond_false, Zg, Zn, ev, Nat.reduceBEq]
        exact goOn (fun h => by omega) _ (by simp (maxSteps := 2000000) only [vup, cond_true, cond_false, Nat.reduceBEq])
  · have hjk : k = j := by omega
    subst hjk
    have hEl := hE.1
    refine Ze fun N37 hN37 => ?_
    simp (maxSteps := 2000000) only [↓Za, ↓Zb, ↓Zc, vup, cond_true, cond_false, aop, Zg, ev, sput, Zf, Zz, Ya, Nat.reduceBEq, hin]
    refine hN37 [(0, .slice (some ⟨B, 0, some 0⟩) m C), (1, Zd (k : Nat)), (4, .slice none 0 0), (5, .bool false), (6, Zd (k : Nat)), (18, Zd (k : Nat)), (19, Zd (k : Nat)), (20, .bool false)] _ _ ?_ (by simp (maxSteps := 2000000) only [vup, cond_true, cond_false, Nat.reduceBEq])
    clear hN37
    try clear N37
    refine Ze fun N38 hN38 => ?_
    simp (maxSteps := 2000000) only [↓Yn, ↓vdn, vup, cond_true, cond_false, Zg, ev, Nat.reduceBEq]
    refine hQ2 _ _ _ (hQ _ _ _ ?_)
    simp (maxSteps := 2000000) only [Zg, Zn, Zr, if_true]
    refine hZ [(0, .slice (some ⟨B, 0, some 0⟩) m C), (1, Zd (k : Nat)), (4, .slice none 0 0), (5, .bool false), (6, Zd (k : Nat)), (20, .bool false)] _ _ ?_ (by simp (maxSteps := 2000000) only [vup, cond_true, cond_false, Nat.reduceBEq])
    clear hZ
    try clear Z
    have hrest : ∀ S, Wm m T0 k = some S → solveT m k T0 = if restT m k S then none else some ((List.range k).map fun i => S i k) := fun S hS => by rw [solveT, hS]; rfl
    have hsol := hrest T hrun
    -- what is left
    refine Zk fun Y hY => ?_
    refine Ze fun N39 hN39 => ?_
    simp (maxSteps := 2000000) only [↓Za, ↓Zb, ↓Zc, vup, List.map_cons, List.map_nil, cond_true, cond_false, aop, Zg, ev, sput, Zf, Zi, Nat.reduceBEq, tyf, Option.map_some, Option.map_none]
    refine M.tail2 hjm hm1 hC fun v hlen hidx hload => ?_
    simp (maxSteps := 2000000) only [hlen]
    refine hN39 [(0, .slice (some ⟨B, 0, some 0⟩) m C), (1, Zd (k : Nat)), (4, .slice none 0 0), (5, .bool false), (6, Zd (k : Nat)), (20, .bool false), (146, v), (147, Zd ((m - k : Nat) : Int)), (148, .int .i64 0)] _ _ ?_ (by simp (maxSteps := 2000000) only [vup, cond_true, cond_false, Nat.reduceBEq])
    clear hN39
    try clear N39
    refine Zl ?_
    refine Zm fun Qa hQa => ?_
    refine Yh (γ := Nat) (fun r => r ≤ m - k ∧ ∀ i, i < r → T (k + i) k = 0)
      (fun r => ([(0, .slice (some ⟨B, 0, some 0⟩) m C), (1, Zd (k : Nat)), (4, .slice none 0 0), (5, .bool false), (6, Zd (k : Nat)), (20, .bool false), (146, v), (147, Zd ((m - k : Nat) : Int)), (148, Zd (r : Nat))], hp)) (fun r => m - k - r) 0 ⟨Nat.zero_le _, fun i hi => by omega⟩ (by simp (maxSteps := 2000000) only [vup, cond_true, cond_false, Nat.reduceBEq, Int.natCast_zero]) rfl ?_
    rintro r ⟨hr, hzero⟩
    refine Zm fun Qb hQb => ?_
    simp only [l87_4]
    by_cases hrin : (r : Int) < ((m - k : Nat) : Int)
    · have hr' : r < m - k := by omega
      refine Ze fun N40 hN40 => ?_
      simp (maxSteps := 2000000) only [↓Za, ↓Zb, ↓Zc, vup, cond_true, cond_false, aop, Zg, ev, sput, Zf, Zz, Ya, Nat.reduceBEq, hrin]
      refine hN40 [(0, .slice (some ⟨B, 0, some 0⟩) m C), (1, Zd (k : Nat)), (4, .slice none 0 0), (5, .bool false), (6, Zd (k : Nat)), (20, .bool false), (146, v), (147, Zd ((m - k : Nat) : Int)), (148, Zd (r : Nat)), (149, .bool true)] _ _ ?_ (by simp (maxSteps := 2000000) only [vup, cond_true, cond_false, Nat.reduceBEq])
      clear hN40
      try clear N40
      refine Ze fun N41 hN41 => ?_
      simp (maxSteps := 2000000) only [↓Zo, ↓vdn, vup, cond_true, cond_false, Zg, ev, Nat.reduceBEq]
      refine hN41 [(0, .slice (some ⟨B, 0, some 0⟩) m C), (1, Zd (k : Nat)), (4, .slice none 0 0), (5, .bool false), (6, Zd (k : Nat)), (20, .bool false), (146, v), (147, Zd ((m - k : Nat) : Int)), (148, Zd (r : Nat))] _ _ ?_ (by simp (maxSteps := 2000000) only [vup, cond_true, cond_false, Nat.reduceBEq])
      clear hN41
      try clear N41
      refine Zk fun W hW => ?_
      refine Zl ?_
      refine Ze fun N42 hN42 => ?_
      simp (maxSteps := 2000000) only [↓Za, ↓Zb, ↓Zc, vup, cond_true, cond_false, aop, Zg, ev, sput, Zf, Nat.reduceBEq, hidx r hr', hload r hr']
      refine hN42 [(0, .slice (some ⟨B, 0, some 0⟩) m C), (1, Zd (k : Nat)), (4, .slice none 0 0), (5, .bool false), (6, Zd (k : Nat)), (15, w (k + r)), (20, .bool false), (146, v), (147, Zd ((m - k : Nat) : Int)), (148, Zd (r : Nat))] _ _ ?_ (by simp (maxSteps := 2000000) only [vup, cond_true, cond_false, Nat.reduceBEq])
      clear hN42
      try clear N42
      refine Zj ?_
      by_cases hnz : T (k + r) k = 0
      · have hn : ((T (k + r) k).num != 0) = false := by simp [hnz]
        simp (maxSteps := 2000000) only [↓Za, ↓Zo, ↓Zs, ↓Zx, ↓Zb, ↓Zc, ↓vdn, vup, cond_true, cond_false, aop, Zg, Zn, ev, sput, Zf, Zz, Ya, Nat.reduceBEq, tyf, M.idxR (show k + r < m by omega) (Nat.le_refl k), fA0o, M.loadN (show k + r < m by omega) (Nat.le_refl k), hn]
        refine hW [(0, .slice (some ⟨B, 0, some 0⟩) m C), (1, Zd (k : Nat)), (4, .slice none 0 0), (5, .bool false), (6, Zd (k : Nat)), (20, .bool false), (146, v), (147, Zd ((m - k : Nat) : Int)), (148, Zd (r : Nat))] _ _ ?_ (by simp (maxSteps := 2000000) only [vup, cond_true, cond_false, Nat.reduceBEq])
        clear hW
        try clear W
        refine Zj ?_
        simp (maxSteps := 2000000) only [↓Za, ↓Zb, ↓Zc, vup, cond_true, cond_false, aop, ev, sput, Zf, Zz, Ya, Nat.reduceBEq, add1 (show r < 9223372036854775807 by omega)]
        refine hQb _ _ _ ⟨r + 1, ⟨hr', fun i hi => ?_⟩, by omega, by simp (maxSteps := 2000000) only [vup, cond_true, cond_false, Nat.reduceBEq], rfl⟩
        rcases Nat.lt_or_ge i r with h1 | h1
        · exact hzero i h1
        · rw [show i = r by omega]; exact hnz
      · have hn : ((T (k + r) k).num != 0) = true := by
          have : ¬ (T (k + r) k).num = 0 := fun hc => hnz (Rat.num_eq_zero.1 hc)
          simpa [bne] using this
        simp (maxSteps := 2000000) only [↓Za, ↓Zo, ↓Zs, ↓Zx, ↓Zb, ↓Zc, ↓vdn, vup, cond_true, cond_false, aop, Zg, Zn, ev, sput, Zf, Zz, Ya, Nat.reduceBEq, tyf, M.idxR (show k + r < m by omega) (Nat.le_refl k), fA0o, M.loadN (show k + r < m by omega) (Nat.le_refl k), hn]
        refine hQb _ _ _ (hQa _ _ _ ?_)
        simp (maxSteps := 2000000) only [vup, cond_true, cond_false, Zg, Zn, Nat.reduceBEq, Zr, Xo, tup]
        have hrt : restT m k T = true := by
          rw [restT, List.any_eq_true]
          exact ⟨k + r, List.mem_range.2 (by omega), by simp [hnz]⟩
        rw [hsol, hrt]
        exact ⟨hE, _, _, rfl, rfl, rfl⟩
    have hrm : r = m - k := by omega
    have hrt : restT m k T = false := by
      rw [restT, List.any_eq_false]
      intro i hi
      have hi' := List.mem_range.1 hi
      simp only [Bool.and_eq_true, decide_eq_true_eq, not_and, Decidable.not_not]
      intro hki
      have := hzero (i - k) (by omega)
      rwa [show k + (i - k) = i by omega] at this
    rw [hrt, if_neg (by decide)] at hsol
    refine Ze fun N43 hN43 => ?_
    simp (maxSteps := 2000000) only [↓Za, ↓Zb, ↓Zc, vup, cond_true, cond_false, aop, Zg, ev, sput, Zf, Zz, Ya, Nat.reduceBEq, hrin]
    refine hN43 [(0, .slice (some ⟨B, 0, some 0⟩) m C), (1, Zd (k : Nat)), (4, .slice none 0 0), (5, .bool false), (6, Zd (k : Nat)), (20, .bool false), (146, v), (147, Zd ((m - k : Nat) : Int)), (148, Zd (r : Nat)), (149, .bool false)] _ _ ?_ (by simp (maxSteps := 2000000) only [vup, cond_true, cond_false, Nat.reduceBEq])
    clear hN43
    try clear N43
    refine Ze fun N44 hN44 => ?_
    simp (maxSteps := 2000000) only [↓Yn, ↓vdn, vup, cond_true, cond_false, Zg, ev, Nat.reduceBEq]
    refine hQb _ _ _ (hQa _ _ _ ?_)
    simp (maxSteps := 2000000) only [Zg, Zn, Zr, if_true]
    refine hY [(0, .slice (some ⟨B, 0, some 0⟩) m C), (1, Zd (k : Nat)), (4, .slice none 0 0), (5, .bool false), (6, Zd (k : Nat)), (20, .bool false), (149, .bool false)] _ _ ?_ (by simp (maxSteps := 2000000) only [vup, cond_true, cond_false, Nat.reduceBEq])
    clear hY
    try clear Y
    -- the solution
    have hsl : ∀ K : Value → Prop, K (.slice (some ⟨B, 0, some 0⟩) k C) → Yz prog 103 (.slice (some ⟨B, 0, some 0⟩) m C) none (some (Zd (k : Nat))) none K := fun K hK => by
      simp only [Yz, el_103, esz_47, bnd]
      exact ⟨by omega, by omega, by omega, fun h0 => by simp at h0, fun _ => .inl ⟨rfl, by simpa using hK⟩⟩
    refine Zk fun Y hY => ?_
    refine Ze fun N45 hN45 => ?_
    simp (maxSteps := 2000000) only [↓Za, ↓Zb, ↓Zc, vup, List.map_cons, List.map_nil, cond_true, cond_false, aop, Zg, ev, sput, Zf, Zi, Nat.reduceBEq, tyf, Option.map_some, Option.map_none]
    refine hsl _ ?_
    simp (maxSteps := 2000000) only [lenK]
    refine hN45 [(0, .slice (some ⟨B, 0, some 0⟩) m C), (1, Zd (k : Nat)), (4, .slice none 0 0), (5, .bool false), (6, Zd (k : Nat)), (20, .bool false), (149, .bool false), (161, .slice (some ⟨B, 0, some 0⟩) k C), (162, Zd (k : Nat)), (163, .int .i64 0)] _ _ ?_ (by simp (maxSteps := 2000000) only [vup, cond_true, cond_false, Nat.reduceBEq])
    clear hN45
    try clear N45
    refine Zl ?_
    refine Zm fun Qa hQa => ?_
    refine Yh (γ := Nat × Value × Zh) (fun s => s.1 ≤ k ∧ OwnP 26 s.2.2 s.2.1 ((List.range s.1).map fun i => ofQ (T i k)) ∧ Ext (fun _ => False) hp s.2.2 ∧ ∀ b, Yg s.2.1 = some b → hp.length ≤ b)
      (fun s => ([(0, .slice (some ⟨B, 0, some 0⟩) m C), (1, Zd (k : Nat)), (4, s.2.1), (5, .bool false), (6, Zd (k : Nat)), (20, .bool false), (149, .bool false), (161, .slice (some ⟨B, 0, some 0⟩) k C), (162, Zd (k : Nat)), (163, Zd (s.1 : Nat))], s.2.2)) (fun s => k - s.1) (0, .slice none 0 0, hp) ⟨Nat.zero_le _, .inl ⟨rfl, rfl⟩, Ext.refl _ _, fun b hb => by cases hb⟩ (by simp (maxSteps := 2000000) only [vup, cond_true, cond_false, Nat.reduceBEq, Int.natCast_zero]) rfl ?_
    rintro ⟨r, x, G⟩ ⟨hr, ho, hEG, hbx⟩
    simp only at hr ho hEG hbx
    refine Zm fun Qb hQb => ?_
    simp only [l87_5]
    by_cases hrin : (r : Int) < (k : Int)
    · have hr' : r < k := by omega
      have MG := M.ext hEG
      refine Ze fun N46 hN46 => ?_
      simp (maxSteps := 2000000) only [↓Za, ↓Zb, ↓Zc, vup, cond_true, cond_false, aop, Zg, ev, sput, Zf, Zz, Ya, Nat.reduceBEq, hrin]
      refine hN46 [(0, .slice (some ⟨B, 0, some 0⟩) m C), (1, Zd (k : Nat)), (4, x), (5, .bool false), (6, Zd (k : Nat)), (20, .bool false), (149, .bool false), (161, .slice (some ⟨B, 0, some 0⟩) k C), (162, Zd (k : Nat)), (163, Zd (r : Nat)), (164, .bool true)] _ _ ?_ (by simp (maxSteps := 2000000) only [vup, cond_true, cond_false, Nat.reduceBEq])
      clear hN46
      try clear N46
      refine Ze fun N47 hN47 => ?_
      simp (maxSteps := 2000000) only [↓Zo, ↓vdn, vup, cond_true, cond_false, Zg, ev, Nat.reduceBEq]
      refine hN47 [(0, .slice (some ⟨B, 0, some 0⟩) m C), (1, Zd (k : Nat)), (4, x), (5, .bool false), (6, Zd (k : Nat)), (20, .bool false), (149, .bool false), (161, .slice (some ⟨B, 0, some 0⟩) k C), (162, Zd (k : Nat)), (163, Zd (r : Nat))] _ _ ?_ (by simp (maxSteps := 2000000) only [vup, cond_true, cond_false, Nat.reduceBEq])
      clear hN47
      try clear N47
      refine Zk fun W hW => ?_
      refine Zl ?_
      refine Ze fun N48 hN48 => ?_
      simp (maxSteps := 2000000) only [↓Za, ↓Zb, ↓Zc, vup, cond_true, cond_false, aop, Zg, ev, sput, Zf, Nat.reduceBEq, Mat.idx r hr', MG.loadRow (show r < m by omega)]
      refine hN48 [(0, .slice (some ⟨B, 0, some 0⟩) m C), (1, Zd (k : Nat)), (4, x), (5, .bool false), (6, Zd (k : Nat)), (17, w r), (20, .bool false), (149, .bool false), (161, .slice (some ⟨B, 0, some 0⟩) k C), (162, Zd (k : Nat)), (163, Zd (r : Nat))] _ _ ?_ (by simp (maxSteps := 2000000) only [vup, cond_true, cond_false, Nat.reduceBEq])
      clear hN48
      try clear N48
      refine Zj ?_
      simp (maxSteps := 2000000) only [↓Za, ↓Zb, ↓Zc, vup, List.map_cons, List.map_nil, cond_true, cond_false, aop, Zg, Zn, ev, sput, Zf, Zi, Nat.reduceBEq, MG.idxR (show r < m by omega) (Nat.le_refl k), MG.loadE (show r < m by omega) (Nat.le_refl k), qV, frV, litF]
      refine OwnP.append (x := (T r k).num) (y := (T r k).den) (ho.ext (Ext.app _ _ _)) app_47_47 (by simp; omega) (Zy _ _) ?_
      intro x' G' ho' hE' hb'
      have hnx : ((List.range r).map fun i => ofQ (T i k)) ++ [((T r k).num, ((T r k).den : Int))] = (List.range (r + 1)).map fun i => ofQ (T i k) := by
        rw [List.range_succ, List.map_append]; rfl
      rw [hnx] at ho'
      refine hW [(0, .slice (some ⟨B, 0, some 0⟩) m C), (1, Zd (k : Nat)), (4, x'), (5, .bool false), (6, Zd (k : Nat)), (20, .bool false), (149, .bool false), (161, .slice (some ⟨B, 0, some 0⟩) k C), (162, Zd (k : Nat)), (163, Zd (r : Nat))] _ _ ?_ (by simp (maxSteps := 2000000) only [vup, cond_true, cond_false, Nat.reduceBEq])
      clear hW
      try clear W
      refine Zj ?_
      simp (maxSteps := 2000000) only [↓Za, ↓Zb, ↓Zc, vup, cond_true, cond_false, aop, ev, sput, Zf, Zz, Ya, Nat.reduceBEq, add1 (show r < 9223372036854775807 by omega)]
      refine hQb _ _ _ ⟨(r + 1, x', G'), ⟨hr', ho', ?_, fun b hb0 => ?_⟩, by simp only; omega, by simp (maxSteps := 2000000) only [vup, cond_true, cond_false, Nat.reduceBEq], rfl⟩
      · have hl' := hE'.1
        have l1 := hEG.1
        rw [List.length_append, List.length_singleton] at hl'
        refine ⟨by simp only; omega, fun q hq _ => ?_⟩
        simp only
        rw [hE'.2 q (by rw [List.length_append]; omega) (fun hb0 => by have := hbx q hb0; omega), List.getElem?_append_left (by omega)]
        exact hEG.2 q hq id
      · simp only at hb0
        rcases hb' with hb' | ⟨b', hb1, hb2⟩
        · exact hbx b (hb' ▸ hb0)
        · rw [hb1] at hb0; cases hb0
          rw [List.length_append] at hb2
          have := hEG.1; omega
    have hrk : k = r := by omega
    subst hrk
    refine Ze fun N49 hN49 => ?_
    simp (maxSteps := 2000000) only [↓Za, ↓Zb, ↓Zc, vup, cond_true, cond_false, aop, Zg, ev, sput, Zf, Zz, Ya, Nat.reduceBEq, hrin]
    refine hN49 [(0, .slice (some ⟨B, 0, some 0⟩) m C), (1, Zd (k : Nat)), (4, x), (5, .bool false), (6, Zd (k : Nat)), (20, .bool false), (149, .bool false), (161, .slice (some ⟨B, 0, some 0⟩) k C), (162, Zd (k : Nat)), (163, Zd (k : Nat)), (164, .bool false)] _ _ ?_ (by simp (maxSteps := 2000000) only [vup, cond_true, cond_false, Nat.reduceBEq])
    clear hN49
    try clear N49
    refine Ze fun N50 hN50 => ?_
    simp (maxSteps := 2000000) only [↓Yn, ↓vdn, vup, cond_true, cond_false, Zg, ev, Nat.reduceBEq]
    refine hQb _ _ _ (hQa _ _ _ ?_)
    simp (maxSteps := 2000000) only [Zg, Zn, Zr, if_true]
    refine hY [(0, .slice (some ⟨B, 0, some 0⟩) m C), (1, Zd (k : Nat)), (4, x), (5, .bool false), (6, Zd (k : Nat)), (20, .bool false), (149, .bool false), (164, .bool false)] _ _ ?_ (by simp (maxSteps := 2000000) only [vup, cond_true, cond_false, Nat.reduceBEq])
    clear hY
    try clear Y
    refine Zj ?_
    simp (maxSteps := 2000000) only [↓Za, ↓Zs, ↓Zx, ↓Zb, ↓Zc, vup, cond_true, cond_false, aop, Zg, ev, sput, Zf, Nat.reduceBEq, Zr, Xo, tup]
    refine ⟨hE.trans (hEG.mono fun b hb => hb.elim), x, true, rfl, ?_⟩
    rw [hsol]
    refine ⟨rfl, ?_, fun b hb => by have := hbx b hb; omega⟩
    rw [List.map_map]; exact ho
end Go.Proofs.Try.Am

namespace Go.Proofs.Try.Am
open Go.Am Bq
set_option maxRecDepth 100000
set_option maxHeartbeats 1000000

abbrev bB (x y : Int) : Blk := .cells [Zd x, Zd y] 92 false
abbrev zB : Blk := .cells [.int .i64 0, .int .i64 0] 92 false
theorem storeBt {h : Zh} {b : Nat} {x y : Int} {e : TypeId} {c : List Value} {K : Zh → Prop} (hb : h[b]? = some (.cells c e false)) (hc : c.length = 2) : Xf prog h 92 (.pointer (some ⟨b, 0, none⟩)) (.agg #[Zd x, Zd y]) K = K (h.set b (.cells [Zd x, Zd y] e false)) :=
  storeA (vs := [Zd x, Zd y]) hb (by rw [shp_92]; rfl) rfl (by rw [hc]; rfl)
theorem bA0 {b : Nat} {K : Value → Prop} : Yu prog 92 (.pointer (some ⟨b, 0, none⟩)) 0 K = K (.pointer (some ⟨b, 0, none⟩)) := fldA fld_92_0 Xt
theorem bA1 {b : Nat} {K : Value → Prop} : Yu prog 92 (.pointer (some ⟨b, 0, none⟩)) 1 K = K (.pointer (some ⟨b, 1, none⟩)) := fldA fld_92_1 Xt
theorem tA0 {b : Nat} {K : Value → Prop} : Yu prog 86 (.pointer (some ⟨b, 0, none⟩)) 0 K = K (.pointer (some ⟨b, 0, none⟩)) := fldA fld_86_0 Xt
theorem tA1 {b : Nat} {K : Value → Prop} : Yu prog 86 (.pointer (some ⟨b, 0, none⟩)) 1 K = K (.pointer (some ⟨b, 1, none⟩)) := fldA fld_86_1 esz_30
theorem boxB {h : Zh} {x y : Int} {K : Value → Zh → Prop} : boxK prog h 92 (.agg #[Zd x, Zd y]) K = K (Yr h) (h ++ [bB x y]) := by
  simp [boxK, esz_92, Yr, cellsOf]
theorem boxT {h : Zh} {n : Int} {v : Value} {K : Value → Zh → Prop} : boxK prog h 86 (.agg #[Zd n, v]) K = K (Yr h) (h ++ [.cells [Zd n, v] 86 false]) := by
  simp [boxK, esz_86, Yr, cellsOf]
theorem loadT0 {h : Zh} {b : Nat} {n : Int} {v : Value} {K : Value → Prop} (hb : h[b]? = some (.cells [Zd n, v] 86 false)) : Xm prog h 3 (.pointer (some ⟨b, 0, none⟩)) K = K (Zd n) := loadC hb Xl rfl
theorem loadT1 {h : Zh} {b : Nat} {n : Int} {v : Value} {K : Value → Prop} (hb : h[b]? = some (.cells [Zd n, v] 86 false)) : Xm prog h 30 (.pointer (some ⟨b, 1, none⟩)) K = K v := loadC hb shp_30 rfl
theorem loadB0 {h : Zh} {b : Nat} {x y : Int} {K : Value → Prop} (hb : h[b]? = some (bB x y)) : Xm prog h 3 (.pointer (some ⟨b, 0, none⟩)) K = K (Zd x) := loadC hb Xl rfl
theorem loadB1 {h : Zh} {b : Nat} {x y : Int} {K : Value → Prop} (hb : h[b]? = some (bB x y)) : Xm prog h 3 (.pointer (some ⟨b, 1, none⟩)) K = K (Zd y) := loadC hb Xl rfl

theorem s115_callW [Tabs Try.prog] {args : List Value} {h : Zh} {Q : Value → Zh → Prop} (hsz : args.length ≤ 19) (hk : AWS Try.prog 19 s115 (Zr Try.prog [.tmp 4] Q) (Zt 0 args) h) : ACall Try.prog 115 args h Q :=
  Ym Try.func115 rfl (enters_of Try.func115 (by kernel_rfl) rfl) rfl rfl (by decide) s115_strip s115_ok hsz hk
theorem idxB_call [Tabs prog] {h : Zh} {v : Value} {ps : List (Int × Int)} {g : FuncId} {cap : Array Value} {f : Int × Int → Bool} (hv : PairSl h v ps) (hl : ps.length < 9223372036854775808)
    (hc : ∀ h', Ext (fun _ => False) h h' → ∀ p ∈ ps, Yv prog g ([.agg #[Zd p.1, Zd p.2]] ++ cap.toList) h' (.bool (f p))) : ACall prog 115 [v, .func (.func g) #[] cap] h fun r h' => h' = h ∧ ∃ i : Int, r = Zd i ∧ decide (0 ≤ i) = ps.any f := by
  refine s115_callW (by simp) ?_
  simp only [s115]
  refine Ze fun N1 hN1 => ?_
  simp (maxSteps := 2000000) only [↓Za, ↓Zb, ↓Zc, vup, cond_false, aop, Zg, Zt, ev, sput, Zf, Nat.reduceBEq, Nat.reduceAdd]
  refine hN1 [(0, v), (1, .func (.func g) #[] cap), (4, .int .i64 0)] _ _ ?_ (by simp (maxSteps := 2000000) only [vup, cond_true, cond_false, Nat.reduceBEq])
  clear hN1
  try clear N1
  refine Zk fun Z hZ => ?_
  refine Ze fun N2 hN2 => ?_
  simp (maxSteps := 2000000) only [↓Za, ↓Zb, ↓Zc, vup, List.map_cons, List.map_nil, cond_true, cond_false, aop, Zg, ev, sput, Zf, Zi, Nat.reduceBEq, tyf, hv.len]
  refine hN2 [(0, v), (1, .func (.func g) #[] cap), (4, .int .i64 0), (6, v), (7, Zd ps.length), (8, .int .i64 0)] _ _ ?_ (by simp (maxSteps := 2000000) only [vup, cond_true, cond_false, Nat.reduceBEq])
  clear hN2
  try clear N2
  refine Zl ?_
  refine Zm fun Q hQ => ?_
  refine Yh (γ := Nat) (fun k => k ≤ ps.length ∧ ∀ p ∈ ps.take k, f p = false)
    (fun k => ([(0, v), (1, .func (.func g) #[] cap), (4, .int .i64 0), (6, v), (7, Zd ps.length), (8, Zd (k : Nat))], h)) (fun k => ps.length - k) 0 ⟨Nat.zero_le _, by simp⟩ (by simp (maxSteps := 2000000) only [vup, cond_true, cond_false, Nat.reduceBEq, Int.natCast_zero]) rfl ?_
  rintro k ⟨hk, hall⟩
  refine Zm fun Q2 hQ2 => ?_
  simp only [l115_0]
  by_cases hin : (k : Int) < ps.length
  · have hk' : k < ps.length := by omega
    obtain ⟨⟨x, y⟩, hxy⟩ : ∃ p, ps.getD k (0, 0) = p := ⟨_, rfl⟩
    have hmem : (x, y) ∈ ps := hxy ▸ Xv hk'
    refine Ze fun N3 hN3 => ?_
    simp (maxSteps := 2000000) only [↓Za, ↓Zb, ↓Zc, vup, cond_true, cond_false, aop, Zg, ev, sput, Zf, Zz, Ya, Nat.reduceBEq, hin]
    refine hN3 [(0, v), (1, .func (.func g) #[] cap), (4, .int .i64 0), (6, v), (7, Zd ps.length), (8, Zd (k : Nat)), (9, .bool true)] _ _ ?_ (by simp (maxSteps := 2000000) only [vup, cond_true, cond_false, Nat.reduceBEq])
    clear hN3
    try clear N3
    refine Ze fun N4 hN4 => ?_
    simp (maxSteps := 2000000) only [↓Zo, ↓vdn, vup, cond_true, cond_false, Zg, ev, Nat.reduceBEq]
    refine hN4 [(0, v), (1, .func (.func g) #[] cap), (4, .int .i64 0), (6, v), (7, Zd ps.length), (8, Zd (k : Nat))] _ _ ?_ (by simp (maxSteps := 2000000) only [vup, cond_true, cond_false, Nat.reduceBEq])
    clear hN4
    try clear N4
    refine Zk fun B hB => ?_
    refine Zl ?_
    refine Ze fun N5 hN5 => ?_
    simp (maxSteps := 2000000) only [↓Za, ↓Zb, ↓Zc, vup, cond_true, cond_false, aop, Zg, ev, sput, Zf, Nat.reduceBEq]
    refine hN5 [(0, v), (1, .func (.func g) #[] cap), (4, .int .i64 0), (5, Zd (k : Nat)), (6, v), (7, Zd ps.length), (8, Zd (k : Nat))] _ _ ?_ (by simp (maxSteps := 2000000) only [vup, cond_true, cond_false, Nat.reduceBEq])
    clear hN5
    try clear N5
    refine Ze fun N6 hN6 => ?_
    simp (maxSteps := 2000000) only [↓Za, ↓Zb, ↓Zc, vup, List.map_cons, List.map_nil, cond_true, cond_false, aop, Zg, ev, sput, Zf, Nat.reduceBEq, hv.idx el_30 esz_92 hk', hv.load shp_92 hk', hxy, Yk, List.nil_append]
    refine (show Yv prog g ([.agg #[Zd x, Zd y]] ++ cap.toList) h (.bool (f (x, y))) from hc h (Ext.refl _ _) _ hmem).mono ?_
    rintro _ h ⟨rfl, rfl⟩
    refine hN6 [(0, v), (1, .func (.func g) #[] cap), (4, .int .i64 0), (5, Zd (k : Nat)), (6, v), (7, Zd ps.length), (8, Zd (k : Nat)), (16, .bool (f (x, y)))] _ _ ?_ (by simp (maxSteps := 2000000) only [vup, cond_true, cond_false, Nat.reduceBEq])
    clear hN6
    try clear N6
    refine Zj ?_
    cases hf : f (x, y) with
    | true =>
      simp (maxSteps := 2000000) only [↓Za, ↓Zs, ↓Zx, ↓Zb, ↓Zc, ↓vdn, vup, cond_true, cond_false, aop, Zg, Zn, ev, sput, Zf, Nat.reduceBEq]
      refine hQ2 _ _ _ (hQ _ _ _ ?_)
      simp (maxSteps := 2000000) only [vup, cond_true, cond_false, Zg, Zn, Nat.reduceBEq, Zr, Xo, tup]
      exact ⟨_, rfl, by rw [show ps.any f = true from List.any_eq_true.2 ⟨_, hmem, hf⟩]; simp⟩
    | false =>
      simp (maxSteps := 2000000) only [↓Zo, ↓vdn, vup, cond_true, cond_false, Zg, Zn, ev, Nat.reduceBEq]
      refine hB [(0, v), (1, .func (.func g) #[] cap), (4, .int .i64 0), (6, v), (7, Zd ps.length), (8, Zd (k : Nat))] _ _ ?_ (by simp (maxSteps := 2000000) only [vup, cond_true, cond_false, Nat.reduceBEq])
      clear hB
      try clear B
      refine Zj ?_
      simp (maxSteps := 2000000) only [↓Za, ↓Zb, ↓Zc, vup, cond_true, cond_false, aop, ev, sput, Zf, Zz, Ya, Nat.reduceBEq, add1 (show k < 9223372036854775807 by omega)]
      refine hQ2 _ _ _ ⟨k + 1, ⟨hk', fun p hp => ?_⟩, by omega, by simp (maxSteps := 2000000) only [vup, cond_true, cond_false, Nat.reduceBEq], rfl⟩
      rw [take_snoc (d := ((0, 0) : Int × Int)) hk', hxy] at hp
      rcases List.mem_append.1 hp with h3 | h3
      · exact hall p h3
      · simp at h3; subst h3; exact hf
  · obtain rfl : k = ps.length := by omega
    refine Ze fun N7 hN7 => ?_
    simp (maxSteps := 2000000) only [↓Za, ↓Zb, ↓Zc, vup, cond_true, cond_false, aop, Zg, ev, sput, Zf, Zz, Ya, Nat.reduceBEq, hin]
    refine hN7 [(0, v), (1, .func (.func g) #[] cap), (4, .int .i64 0), (6, v), (7, Zd ps.length), (8, Zd ps.length), (9, .bool false)] _ _ ?_ (by simp (maxSteps := 2000000) only [vup, cond_true, cond_false, Nat.reduceBEq])
    clear hN7
    try clear N7
    refine Ze fun N8 hN8 => ?_
    simp (maxSteps := 2000000) only [↓Yn, ↓vdn, vup, cond_true, cond_false, Zg, ev, Nat.reduceBEq]
    refine hQ2 _ _ _ (hQ _ _ _ ?_)
    simp (maxSteps := 2000000) only [Zg, Zn, Zr, if_true]
    refine hZ [(0, v), (1, .func (.func g) #[] cap), (4, .int .i64 0), (6, v), (7, Zd ps.length), (8, Zd ps.length), (9, .bool false)] _ _ ?_ (by simp (maxSteps := 2000000) only [vup, cond_true, cond_false, Nat.reduceBEq])
    clear hZ
    try clear Z
    refine Zj ?_
    simp (maxSteps := 2000000) only [↓Za, ↓Zs, ↓Zx, ↓Zb, ↓Zc, vup, cond_true, cond_false, aop, Zg, ev, sput, Zf, Nat.reduceBEq, Zr, Xo, tup]
    rw [List.take_length] at hall
    exact ⟨_, rfl, by rw [show ps.any f = false from List.any_eq_false.2 fun p hp => by simp [hall p hp]]; decide⟩

theorem s98_callW [Tabs Try.prog] {args : List Value} {h : Zh} {Q : Value → Zh → Prop} (hsz : args.length ≤ 9) (hk : AWS Try.prog 9 s98 (Zr Try.prog [.tmp 4] Q) (Zt 0 args) h) : ACall Try.prog 98 args h Q :=
  Ym Try.func98 rfl (enters_of Try.func98 (by kernel_rfl) rfl) rfl rfl (by decide) s98_strip s98_ok hsz hk
theorem hasB_call [Tabs prog] {h : Zh} {v : Value} {ps : List (Int × Int)} {g : FuncId} {cap : Array Value} {f : Int × Int → Bool} (hv : PairSl h v ps) (hl : ps.length < 9223372036854775808)
    (hc : ∀ h', Ext (fun _ => False) h h' → ∀ p ∈ ps, Yv prog g ([.agg #[Zd p.1, Zd p.2]] ++ cap.toList) h' (.bool (f p))) : Yv prog 98 [v, .func (.func g) #[] cap] h (.bool (ps.any f)) := by
  refine s98_callW (by simp) ?_
  refine Zj ?_
  simp (maxSteps := 2000000) only [s98, ↓Za, ↓Zs, ↓Zx, ↓Zb, ↓Zc, vup, List.map_cons, List.map_nil, cond_true, cond_false, aop, Zg, Zt, ev, sput, Zf, Zz, Ya, Nat.reduceBEq, Nat.reduceAdd, Zr, Xo, tup, tyf, Yk, List.nil_append, List.append_nil]
  refine (idxB_call hv hl hc).mono ?_
  rintro _ h1 ⟨rfl, i, rfl, hi⟩
  simp (maxSteps := 2000000) only [vup, hi]

theorem s99_callW [Tabs Try.prog] {args : List Value} {h : Zh} {Q : Value → Zh → Prop} (hsz : args.length ≤ 9) (hk : AWS Try.prog 9 s99 (Zr Try.prog [.tmp 3] Q) (Zt 0 args) h) : ACall Try.prog 99 args h Q :=
  Ym Try.func99 rfl (enters_of Try.func99 (by kernel_rfl) rfl) rfl rfl (by decide) s99_strip s99_ok hsz hk
theorem sameB_call [Tabs prog] {h : Zh} {b : Nat} {x y e c : Int} (hb : h[b]? = some (bB e c)) : Yv prog 99 [.agg #[Zd x, Zd y], .pointer (some ⟨b, 0, none⟩)] h (.bool (x == e)) := by
  refine ACall.forget (Low.bool _) ?_
  refine s99_callW (by simp) ?_
  refine Zj ?_
  simp (maxSteps := 2000000) only [s99, ↓Za, ↓Zs, ↓Zx, ↓Zb, ↓Zc, vup, cond_true, cond_false, aop, Zg, Zt, ev, sput, Zf, Zz, Ya, Nat.reduceBEq, Nat.reduceAdd, Zr, Xo, tup, tyf, boxB, Yr, bA0, loadB0 (Zy h _), loadB0 (Xg hb _)]
  exact Ext.app _ _ _

/-- A bet on n worlds. -/
def okB (n : Nat) (p : Int × Int) : Bool := decide (0 ≤ p.1) && (decide (p.1 < 2 ^ n) && (decide (0 ≤ p.2) && decide (p.2 ≤ 12)))
/-- Each is a bet, none ahead is on the same event. -/
def validTo (n : Nat) (l : List (Int × Int)) (k : Nat) : Bool := (List.range k).all fun i => okB n (l.getD i (0, 0)) && !(l.take i).any fun x => x.1 == (l.getD i (0, 0)).1
def Vm (n : Int) (l : List (Int × Int)) : Bool := decide (2 ≤ n) && (decide (n ≤ 5) && (decide (1 ≤ l.length) && (decide (l.length ≤ 6) && validTo n.toNat l l.length)))
theorem validTo_succ (n : Nat) (l : List (Int × Int)) (k : Nat) : validTo n l (k + 1) = (validTo n l k && (okB n (l.getD k (0, 0)) && !(l.take k).any fun x => x.1 == (l.getD k (0, 0)).1)) := by
  rw [validTo, List.range_succ, List.all_append]; simp [validTo]
theorem validTo_false {n : Nat} {l : List (Int × Int)} {k : Nat} (hk : k < l.length) (h : (okB n (l.getD k (0, 0)) && !(l.take k).any fun x => x.1 == (l.getD k (0, 0)).1) = false) : validTo n l l.length = false := by
  rw [validTo, List.all_eq_false]
  exact ⟨k, List.mem_range.2 hk, by simp only [h]; decide⟩

set_option maxHeartbeats 2000000
theorem s58_callW [Tabs Try.prog] {args : List Value} {h : Zh} {Q : Value → Zh → Prop} (hsz : args.length ≤ 61) (hk : AWS Try.prog 61 s58 (Zr Try.prog [.tmp 2] Q) (Zt 0 args) h) : ACall Try.prog 58 args h Q :=
  Ym Try.func58 rfl (enters_of Try.func58 (by kernel_rfl) rfl) rfl rfl (by decide) s58_strip s58_ok hsz hk
theorem valid_call [Tabs prog] {h : Zh} {n : Int} {v : Value} {l : List (Int × Int)} (hv : PairSl h v l) (hl : l.length < 9223372036854775808) : Yv prog 58 [.agg #[Zd n, v]] h (.bool (Vm n l)) := by
  obtain ⟨H, hH⟩ : ∃ H, H = h ++ [Blk.cells [Zd n, v] 86 false] := ⟨_, rfl⟩
  have hE : Ext (fun _ => False) h H := by rw [hH]; exact Ext.app _ _ _
  have b1 : H[h.length]? = some (.cells [Zd n, v] 86 false) := by rw [hH]; exact Zy _ _
  have hvH := hv.ext hE
  refine ACall.forget (Low.bool _) ?_
  refine s58_callW (by simp) ?_
  simp only [s58]
  refine Ze fun N9 hN9 => ?_
  simp (maxSteps := 2000000) only [↓Za, ↓Zb, ↓Zc, vup, cond_true, cond_false, aop, Zg, Zt, ev, sput, Zf, Nat.reduceBEq, boxT, Yr]
  rw [← hH]
  refine hN9 [(1, .pointer (some ⟨h.length, 0, none⟩)), (2, .bool false)] _ _ ?_ (by simp (maxSteps := 2000000) only [vup, cond_true, cond_false, Nat.reduceBEq])
  clear hN9
  try clear N9
  by_cases h1 : n < 2
  · refine Zj ?_
    simp (maxSteps := 2000000) only [↓Za, ↓Zs, ↓Zx, ↓Zb, ↓Zc, ↓vdn, vup, cond_true, cond_false, aop, Zg, ev, sput, Zf, Zz, Ya, Nat.reduceBEq, Zr, Xo, tup, tyf, tA0, loadT0 b1, h1]
    rw [Vm, show decide (2 ≤ n) = false by simp; omega, Bool.false_and]
    exact ⟨rfl, hE⟩
  by_cases h2 : n > 5
  · refine Zj ?_
    simp (maxSteps := 2000000) only [↓Za, ↓Zs, ↓Zx, ↓Zb, ↓Zc, ↓vdn, vup, cond_true, cond_false, aop, Zg, ev, sput, Zf, Zz, Ya, Nat.reduceBEq, Zr, Xo, tup, tyf, tA0, loadT0 b1, h1, h2]
    rw [Vm, show decide (n ≤ 5) = false by simp; omega, Bool.false_and, Bool.and_false]
    exact ⟨rfl, hE⟩
  by_cases h3 : (l.length : Int) < 1
  · refine Zj ?_
    simp (maxSteps := 2000000) only [↓Za, ↓Zs, ↓Zx, ↓Zb, ↓Zc, ↓vdn, vup, List.map_cons, List.map_nil, cond_true, cond_false, aop, Zg, ev, sput, Zf, Zz, Ya, Zi, Nat.reduceBEq, Zr, Xo, tup, tyf, tA0, tA1, loadT0 b1, loadT1 b1, h1, h2, hvH.len, h3]
    rw [Vm, show decide (1 ≤ l.length) = false by rw [decide_eq_false_iff_not]; omega, Bool.false_and, Bool.and_false, Bool.and_false]
    exact ⟨rfl, hE⟩
  by_cases h4 : (l.length : Int) > 6
  · refine Zj ?_
    simp (maxSteps := 2000000) only [↓Za, ↓Zs, ↓Zx, ↓Zb, ↓Zc, ↓vdn, vup, List.map_cons, List.map_nil, cond_true, cond_false, aop, Zg, ev, sput, Zf, Zz, Ya, Zi, Nat.reduceBEq, Zr, Xo, tup, tyf, tA0, tA1, loadT0 b1, loadT1 b1, h1, h2, hvH.len, h3, h4]
    rw [Vm, show decide (l.length ≤ 6) = false by simp; omega, Bool.false_and, Bool.and_false, Bool.and_false, Bool.and_false]
    exact ⟨rfl, hE⟩
  obtain ⟨m, rfl⟩ : ∃ m : Nat, n = m := ⟨n.toNat, by omega⟩
  have hval : Vm m l = validTo m l l.length := by
    rw [Vm, show decide ((2 : Int) ≤ m) = true by simp; omega, show decide ((m : Int) ≤ 5) = true by simp; omega, show decide (1 ≤ l.length) = true by rw [decide_eq_true_eq]; omega, show decide (l.length ≤ 6) = true by simp; omega]
    simp
  rw [hval]
  have hpm : (2 : Nat) ^ m ≤ 2 ^ 5 := Nat.pow_le_pow_right (by decide) (by omega)
  refine Zk fun Y hY => ?_
  refine Ze fun N10 hN10 => ?_
  simp (maxSteps := 2000000) only [↓Za, ↓Zb, ↓Zc, ↓vdn, vup, List.map_cons, List.map_nil, cond_true, cond_false, aop, Zg, ev, sput, Zf, Zz, Ya, Zi, Nat.reduceBEq, tyf, tA0, tA1, loadT0 b1, loadT1 b1, h1, h2, hvH.len, h3, h4]
  refine hN10 [(1, .pointer (some ⟨h.length, 0, none⟩)), (2, .bool false), (24, .bool false)] _ _ ?_ (by simp (maxSteps := 2000000) only [vup, cond_true, cond_false, Nat.reduceBEq])
  clear hN10
  try clear N10
  refine Xa rfl ?_
  refine Zj ?_
  simp (maxSteps := 2000000) only [↓Zo, Zg]
  refine hY [(1, .pointer (some ⟨h.length, 0, none⟩)), (2, .bool false), (24, .bool false)] _ _ ?_ (by simp (maxSteps := 2000000) only [vup, cond_true, cond_false, Nat.reduceBEq])
  clear hY
  try clear Y
  refine Zk fun Z hZ => ?_
  refine Ze fun N11 hN11 => ?_
  simp (maxSteps := 2000000) only [↓Za, ↓Zb, ↓Zc, vup, List.map_cons, List.map_nil, cond_true, cond_false, aop, Zg, ev, sput, Zf, Zi, Nat.reduceBEq, tyf, tA1, loadT1 b1, hvH.len]
  refine hN11 [(1, .pointer (some ⟨h.length, 0, none⟩)), (2, .bool false), (24, .bool false), (26, v), (27, Zd l.length), (28, .int .i64 0)] _ _ ?_ (by simp (maxSteps := 2000000) only [vup, cond_true, cond_false, Nat.reduceBEq])
  clear hN11
  try clear N11
  refine Zl ?_
  refine Zm fun Q hQ => ?_
  refine Yh (γ := Nat × Zh) (fun s => s.1 ≤ l.length ∧ validTo m l s.1 = true ∧ Ext (fun _ => False) H s.2)
    (fun s => ([(1, .pointer (some ⟨h.length, 0, none⟩)), (2, .bool false), (24, .bool false), (26, v), (27, Zd l.length), (28, Zd (s.1 : Nat))], s.2)) (fun s => l.length - s.1) (0, H) ⟨Nat.zero_le _, rfl, Ext.refl _ _⟩ (by simp (maxSteps := 2000000) only [vup, cond_true, cond_false, Nat.reduceBEq, Int.natCast_zero]) rfl ?_
  rintro ⟨k, hp⟩ ⟨hk, hall, hEp⟩
  simp only at hk hall hEp
  refine Zm fun Q2 hQ2 => ?_
  simp only [l58_0]
  by_cases hin : (k : Int) < l.length
  · have hk' : k < l.length := by omega
    have hvp := hvH.ext hEp
    obtain ⟨⟨x, y⟩, hxy⟩ : ∃ p, l.getD k (0, 0) = p := ⟨_, rfl⟩
    have hmem : (x, y) ∈ l := hxy ▸ Xv hk'
    obtain ⟨G, hG⟩ : ∃ G, G = hp ++ [bB x y] := ⟨_, rfl⟩
    have c4 : G[hp.length]? = some (bB x y) := by rw [hG]; exact Zy _ _
    have hEG : Ext (fun _ => False) H G := by rw [hG]; exact hEp.trans (Ext.app _ _ _)
    have c1 : G[h.length]? = some (.cells [Zd (m : Int), v] 86 false) := (hEG.2 _ (Yj b1) id).trans b1
    have hvG := hvH.ext hEG
    have vfalse : (okB m (x, y) && !(l.take k).any fun z => z.1 == x) = false → validTo m l l.length = false := fun hf => validTo_false hk' (by rw [hxy]; exact hf)
    have ret0 : (okB m (x, y) && !(l.take k).any fun z => z.1 == x) = false → ∀ e, sget e 2 = .bool false → Q2 .ret e G := by
      intro hf e he
      refine hQ2 _ _ _ (hQ _ _ _ ?_)
      simp (maxSteps := 2000000) only [vup, Zg, Zn, Zr, Xo, tup, he, vfalse hf]
      exact hE.trans hEG
    have hsh : shlV .i64 1 (m : Int) = 2 ^ m := shl1 (by omega)
    refine Ze fun N12 hN12 => ?_
    simp (maxSteps := 2000000) only [↓Za, ↓Zb, ↓Zc, vup, cond_true, cond_false, aop, Zg, ev, sput, Zf, Zz, Ya, Nat.reduceBEq, hin]
    refine hN12 [(1, .pointer (some ⟨h.length, 0, none⟩)), (2, .bool false), (24, .bool false), (26, v), (27, Zd l.length), (28, Zd (k : Nat)), (29, .bool true)] _ _ ?_ (by simp (maxSteps := 2000000) only [vup, cond_true, cond_false, Nat.reduceBEq])
    clear hN12
    try clear N12
    refine Ze fun N13 hN13 => ?_
    simp (maxSteps := 2000000) only [↓Zo, ↓vdn, vup, cond_true, cond_false, Zg, ev, Nat.reduceBEq]
    refine hN13 [(1, .pointer (some ⟨h.length, 0, none⟩)), (2, .bool false), (24, .bool false), (26, v), (27, Zd l.length), (28, Zd (k : Nat))] _ _ ?_ (by simp (maxSteps := 2000000) only [vup, cond_true, cond_false, Nat.reduceBEq])
    clear hN13
    try clear N13
    refine Zk fun B hB => ?_
    refine Zl ?_
    refine Ze fun N14 hN14 => ?_
    simp (maxSteps := 2000000) only [↓Za, ↓Zb, ↓Zc, vup, cond_true, cond_false, aop, Zg, ev, sput, Zf, Nat.reduceBEq, tyf, hvp.idx el_30 esz_92 hk', hvp.load shp_92 hk', hxy, Xe, Yr, storeBt (Zy hp zB) rfl, Xn]
    rw [← hG]
    refine hN14 [(1, .pointer (some ⟨h.length, 0, none⟩)), (2, .bool false), (3, Zd (k : Nat)), (4, .pointer (some ⟨hp.length, 0, none⟩)), (24, .bool false), (26, v), (27, Zd l.length), (28, Zd (k : Nat))] _ _ ?_ (by simp (maxSteps := 2000000) only [vup, cond_true, cond_false, Nat.reduceBEq])
    clear hN14
    try clear N14
    refine Zk fun C hC => ?_
    refine Ze fun N15 hN15 => ?_
    simp only [q58_6]
    refine Yo [] (by kernel_rfl) (by kernel_rfl) (by kernel_rfl) (by kernel_rfl) ?_
    by_cases g1 : x < 0
    · simp (maxSteps := 2000000) only [↓Zp, ↓vdn, vup, cond_true, cond_false, aop, Zg, ev, sput, Zf, Zz, Ya, pickK, Nat.reduceBEq, Nat.reduceAdd, tyf, bA0, loadB0 c4, g1]
      refine hN15 [(1, .pointer (some ⟨h.length, 0, none⟩)), (2, .bool false), (3, Zd (k : Nat)), (4, .pointer (some ⟨hp.length, 0, none⟩)), (24, .bool false), (26, v), (27, Zd l.length), (28, Zd (k : Nat)), (53, .bool true)] _ _ ?_ (by simp (maxSteps := 2000000) only [vup, cond_true, cond_false, Nat.reduceBEq])
      clear hN15
      try clear N15
      refine Zj ?_
      simp (maxSteps := 2000000) only [↓Za, ↓Zs, ↓Zx, ↓Zb, ↓Zc, ↓vdn, vup, cond_true, cond_false, aop, Zg, Zn, ev, sput, Zf, Nat.reduceBEq]
      exact ret0 (by simp [okB]; omega) _ rfl
    by_cases g2 : x ≥ 2 ^ m
    · simp (maxSteps := 2000000) only [↓Zp, ↓vdn, vup, cond_true, cond_false, aop, Zg, ev, sput, Zf, Zz, Ya, pickK, Nat.reduceBEq, Nat.reduceAdd, tyf, bA0, loadB0 c4, g1, tA0, loadT0 c1, hsh, Int.natCast_nonneg, g2]
      refine hN15 [(1, .pointer (some ⟨h.length, 0, none⟩)), (2, .bool false), (3, Zd (k : Nat)), (4, .pointer (some ⟨hp.length, 0, none⟩)), (24, .bool false), (26, v), (27, Zd l.length), (28, Zd (k : Nat)), (53, .bool true)] _ _ ?_ (by simp (maxSteps := 2000000) only [vup, cond_true, cond_false, Nat.reduceBEq])
      clear hN15
      try clear N15
      refine Zj ?_
      simp (maxSteps := 2000000) only [↓Za, ↓Zs, ↓Zx, ↓Zb, ↓Zc, ↓vdn, vup, cond_true, cond_false, aop, Zg, Zn, ev, sput, Zf, Nat.reduceBEq]
      exact ret0 (by simp [okB]; omega) _ rfl
    by_cases g3 : y < 0
    · simp (maxSteps := 2000000) only [↓Zp, ↓vdn, vup, cond_true, cond_false, aop, Zg, ev, sput, Zf, Zz, Ya, pickK, Nat.reduceBEq, Nat.reduceAdd, tyf, bA0, bA1, loadB0 c4, loadB1 c4, g1, tA0, loadT0 c1, hsh, Int.natCast_nonneg, g2, g3]
      refine hN15 [(1, .pointer (some ⟨h.length, 0, none⟩)), (2, .bool false), (3, Zd (k : Nat)), (4, .pointer (some ⟨hp.length, 0, none⟩)), (24, .bool false), (26, v), (27, Zd l.length), (28, Zd (k : Nat)), (53, .bool true)] _ _ ?_ (by simp (maxSteps := 2000000) only [vup, cond_true, cond_false, Nat.reduceBEq])
      clear hN15
      try clear N15
      refine Zj ?_
      simp (maxSteps := 2000000) only [↓Za, ↓Zs, ↓Zx, ↓Zb, ↓Zc, ↓vdn, vup, cond_true, cond_false, aop, Zg, Zn, ev, sput, Zf, Nat.reduceBEq]
      exact ret0 (by simp [okB]; omega) _ rfl
    by_cases g4 : y > 12
    · simp (maxSteps := 2000000) only [↓Zp, ↓vdn, vup, cond_true, cond_false, aop, Zg, ev, sput, Zf, Zz, Ya, pickK, Nat.reduceBEq, Nat.reduceAdd, tyf, bA0, bA1, loadB0 c4, loadB1 c4, g1, tA0, loadT0 c1, hsh, Int.natCast_nonneg, g2, g3, g4]
      refine hN15 [(1, .pointer (some ⟨h.length, 0, none⟩)), (2, .bool false), (3, Zd (k : Nat)), (4, .pointer (some ⟨hp.length, 0, none⟩)), (24, .bool false), (26, v), (27, Zd l.length), (28, Zd (k : Nat)), (53, .bool true)] _ _ ?_ (by simp (maxSteps := 2000000) only [vup, cond_true, cond_false, Nat.reduceBEq])
      clear hN15
      try clear N15
      refine Zj ?_
      simp (maxSteps := 2000000) only [↓Za, ↓Zs, ↓Zx, ↓Zb, ↓Zc, ↓vdn, vup, cond_true, cond_false, aop, Zg, Zn, ev, sput, Zf, Nat.reduceBEq]
      exact ret0 (by simp [okB]; omega) _ rfl
    simp (maxSteps := 2000000) only [↓Zp, ↓vdn, vup, cond_true, cond_false, aop, Zg, ev, sput, Zf, Zz, Ya, pickK, Nat.reduceBEq, Nat.reduceAdd, tyf, bA0, bA1, loadB0 c4, loadB1 c4, g1, tA0, loadT0 c1, hsh, Int.natCast_nonneg, g2, g3, g4]
    refine hN15 [(1, .pointer (some ⟨h.length, 0, none⟩)), (2, .bool false), (3, Zd (k : Nat)), (4, .pointer (some ⟨hp.length, 0, none⟩)), (24, .bool false), (26, v), (27, Zd l.length), (28, Zd (k : Nat)), (53, .bool false)] _ _ ?_ (by simp (maxSteps := 2000000) only [vup, cond_true, cond_false, Nat.reduceBEq])
    clear hN15
    try clear N15
    refine Zj ?_
    simp (maxSteps := 2000000) only [↓Zo, ↓vdn, vup, cond_true, cond_false, Zg, ev, Nat.reduceBEq]
    refine hC [(1, .pointer (some ⟨h.length, 0, none⟩)), (2, .bool false), (3, Zd (k : Nat)), (4, .pointer (some ⟨hp.length, 0, none⟩)), (24, .bool false), (26, v), (27, Zd l.length), (28, Zd (k : Nat))] _ _ ?_ (by simp (maxSteps := 2000000) only [vup, cond_true, cond_false, Nat.reduceBEq])
    clear hC
    try clear C
    have hok : okB m (x, y) = true := by simp [okB]; omega
    refine Ze fun N16 hN16 => ?_
    simp (maxSteps := 2000000) only [↓Za, ↓Zb, ↓Zc, vup, List.map_cons, List.map_nil, cond_true, cond_false, aop, Zg, ev, sput, Zf, Nat.reduceBEq, tA1, loadT1 c1, Option.map_some, Option.map_none]
    refine hvG.pre el_30 esz_92 (show k ≤ l.length by omega) fun v' hv' => ?_
    have hs := hasB_call (g := 99) (cap := #[.pointer (some ⟨hp.length, 0, none⟩)]) (f := fun z => z.1 == x) hv' (by rw [List.length_take]; omega) (fun h' hx p _ => sameB_call ((hx.2 _ (Yj c4) id).trans c4))
    simp (maxSteps := 2000000) only [vup, List.map_cons, List.map_nil, cond_true, cond_false, ev, Nat.reduceBEq, Yk, List.nil_append, List.append_nil, List.map_toArray]
    refine (hs).mono ?_
    rintro _ G ⟨rfl, rfl⟩
    refine hN16 [(1, .pointer (some ⟨h.length, 0, none⟩)), (2, .bool false), (3, Zd (k : Nat)), (4, .pointer (some ⟨hp.length, 0, none⟩)), (24, .bool false), (26, v), (27, Zd l.length), (28, Zd (k : Nat)), (59, .bool ((l.take k).any fun z => z.1 == x))] _ _ ?_ (by simp (maxSteps := 2000000) only [vup, cond_true, cond_false, Nat.reduceBEq])
    clear hN16
    try clear N16
    refine Zj ?_
    cases hany : (l.take k).any fun z => z.1 == x with
    | true =>
      simp (maxSteps := 2000000) only [↓Za, ↓Zs, ↓Zx, ↓Zb, ↓Zc, ↓vdn, vup, cond_true, cond_false, aop, Zg, Zn, ev, sput, Zf, Nat.reduceBEq]
      exact ret0 (by rw [hany]; simp) _ rfl
    | false =>
      simp (maxSteps := 2000000) only [↓Zo, ↓vdn, vup, cond_true, cond_false, Zg, Zn, ev, Nat.reduceBEq]
      refine hB [(1, .pointer (some ⟨h.length, 0, none⟩)), (2, .bool false), (24, .bool false), (26, v), (27, Zd l.length), (28, Zd (k : Nat))] _ _ ?_ (by simp (maxSteps := 2000000) only [vup, cond_true, cond_false, Nat.reduceBEq])
      clear hB
      try clear B
      refine Zj ?_
      simp (maxSteps := 2000000) only [↓Za, ↓Zb, ↓Zc, vup, cond_true, cond_false, aop, ev, sput, Zf, Zz, Ya, Nat.reduceBEq, add1 (show k < 9223372036854775807 by omega)]
      refine hQ2 _ _ _ ⟨(k + 1, G), ⟨hk', ?_, hEG⟩, by simp only; omega, by simp (maxSteps := 2000000) only [vup, cond_true, cond_false, Nat.reduceBEq], rfl⟩
      simp only [validTo_succ, hall, hxy, hok, hany]; rfl
  · obtain rfl : k = l.length := by omega
    refine Ze fun N17 hN17 => ?_
    simp (maxSteps := 2000000) only [↓Za, ↓Zb, ↓Zc, vup, cond_true, cond_false, aop, Zg, ev, sput, Zf, Zz, Ya, Nat.reduceBEq, hin]
    refine hN17 [(1, .pointer (some ⟨h.length, 0, none⟩)), (2, .bool false), (24, .bool false), (26, v), (27, Zd l.length), (28, Zd l.length), (29, .bool false)] _ _ ?_ (by simp (maxSteps := 2000000) only [vup, cond_true, cond_false, Nat.reduceBEq])
    clear hN17
    try clear N17
    refine Ze fun N18 hN18 => ?_
    simp (maxSteps := 2000000) only [↓Yn, ↓vdn, vup, cond_true, cond_false, Zg, ev, Nat.reduceBEq]
    refine hQ2 _ _ _ (hQ _ _ _ ?_)
    simp (maxSteps := 2000000) only [Zg, Zn, Zr, if_true]
    refine hZ [(1, .pointer (some ⟨h.length, 0, none⟩)), (2, .bool false), (24, .bool false), (26, v), (27, Zd l.length), (28, Zd l.length), (29, .bool false)] _ _ ?_ (by simp (maxSteps := 2000000) only [vup, cond_true, cond_false, Nat.reduceBEq])
    clear hZ
    try clear Z
    refine Zj ?_
    simp (maxSteps := 2000000) only [↓Za, ↓Zs, ↓Zx, ↓Zb, ↓Zc, vup, cond_true, cond_false, aop, Zg, ev, sput, Zf, Nat.reduceBEq, Zr, Xo, tup, hall]
    exact hE.trans hEp
end Go.Proofs.Try.Am

namespace Go.Proofs.Try.Am
open Go.Am Bq
set_option maxRecDepth 100000
set_option maxHeartbeats 4000000

theorem rowC_sum {n : Nat} {l : List (Int × Int)} {ws : List Nat} : rowC (sysB n l ws) ws.length 0 = rowL (2 ^ n - 1) ws 1 := by
  apply List.ext_getElem?
  intro c
  simp only [rowC, rowL, List.getElem?_map, List.getElem?_append, List.length_map]
  by_cases h : c < ws.length
  · simp [h, show c < ws.length + 1 by omega, sysB, List.getD]
  · rw [if_neg h]
    by_cases h2 : c = ws.length
    · subst h2; simp [sysB]
    · rw [List.getElem?_eq_none (by simp; omega), List.getElem?_eq_none (by simp; omega)]; rfl
theorem rowC_bet {n : Nat} {l : List (Int × Int)} {ws : List Nat} (i : Nat) : rowC (sysB n l ws) ws.length (i + 1) = rowL (l.getD i (0, 0)).1.toNat ws (Rat.divInt (l.getD i (0, 0)).2 12) := by
  apply List.ext_getElem?
  intro c
  simp only [rowC, rowL, List.getElem?_map, List.getElem?_append, List.length_map]
  by_cases h : c < ws.length
  · simp [h, show c < ws.length + 1 by omega, sysB, List.getD]
  · rw [if_neg h]
    by_cases h2 : c = ws.length
    · subst h2; simp [sysB]
    · rw [List.getElem?_eq_none (by simp; omega), List.getElem?_eq_none (by simp; omega)]; rfl

/-- A slice of slices that was written down, or grew. -/
def QSl (e : TypeId) (h : Zh) (v : Value) (ws : List Value) : Prop := (∃ b, v = .slice (some ⟨b, 0, none⟩) ws.length ws.length ∧ h[b]? = some (.cells ws e false)) ∨ OwnV e h v ws
theorem QSl.app [Tabs prog] {e t : TypeId} {h : Zh} {v r : Value} {ws : List Value} {b2 : Nat} (ho : QSl e h v ws) (hne : ws ≠ []) (hT : appT prog t t = some (e, 1, 24)) (hb2 : h[b2]? = some (.cells [r] e false)) (hw : ∀ w ∈ ws ++ [r], notI w = true ∧ one w = true) (hn : ws.length ≤ 1000)
    {K : Value → Zh → Prop} (hk : ∀ v' h', OwnV e h' v' (ws ++ [r]) → Ext (fun i => Yg v = some i) h h' → (Yg v' = Yg v ∨ ∃ b, Yg v' = some b ∧ h.length ≤ b) → K v' h') :
    Xb prog h t t v (.slice (some ⟨b2, 0, none⟩) 1 1) K := by
  rcases ho with ⟨b, rfl, hb⟩ | ho
  · simp only [Xb, hT, elemsK, putK, Xh, hb2, hb]
    refine ⟨fun h0 => absurd h0 (by decide), fun _ => ⟨by simp, fun h0 => by omega, fun _ => ⟨by omega, by simp, ?_⟩⟩⟩
    have e1 : (([r] : List Value).drop 0).take (1 * 1) = [r] := rfl
    have e2 : (ws.drop 0).take (ws.length * 1) = ws := by simp
    rw [e1, e2, mkb_no (by simp) (fun w hw' => (hw w hw').1)]
    refine hk _ _ (.inr ⟨h.length, [], by simp, by simp, by rw [List.append_nil]; exact Zy _ _⟩) (Ext.app _ _ _) (.inr ⟨_, rfl, Nat.le_refl _⟩)
  · exact ho.app hT (us := [r]) (.inr ⟨b2, 0, none, 1, [r], e, false, rfl, Nat.le_refl _, by simp [view, hb2, Blk.view], rfl⟩) hw (by simp; omega) hk

theorem litV [Tabs prog] {h : Zh} {t e : TypeId} {p : Option Addr} {n c : Nat} (he : elemOf' prog t = some e) (hz : Wd prog e = some [.slice none 0 0]) (hs : esz prog e = some 1) {K : Value → Zh → Prop} :
    Yp prog h t 1 [(0, .slice p n c)] K = K (.slice (some ⟨h.length, 0, none⟩) 1 1) (h ++ [.cells [.slice p n c] e false]) := by
  simp only [Yp, he, hz, hs, reps, fillL, mkb, Wr, cellsOf, List.length_cons, List.length_nil, Nat.zero_add, Nat.zero_mul, Ye]
  refine propext ⟨fun h => ?_, fun h => ⟨trivial, by decide, by decide, ?_⟩⟩
  · simpa [Xc] using h.2.2.2
  · simpa [Xc] using h
/-- A belief as it lies there; some of them. -/
def BelAt (h : Zh) (w : Value) (b : List Rat) : Prop := ∃ bl, w = .slice (some ⟨bl, 0, none⟩) b.length b.length ∧ h[bl]? = some (.cells ((Yb (b.map ofQ)).map Zd) 26 false)
def CornSl (h : Zh) (v : Value) (cs : List (List Rat)) : Prop := ∃ ws, OwnV 90 h v ws ∧ Each (BelAt h) ws cs
theorem CornSl.ext {h h' : Zh} {v : Value} {cs : List (List Rat)} (c : CornSl h v cs) (hE : Ext (fun _ => False) h h') : CornSl h' v cs := by
  obtain ⟨ws, h1, h2⟩ := c
  exact ⟨ws, h1.ext hE, h2.imp fun w b ⟨bl, g1, g2⟩ => ⟨bl, g1, (hE.2 _ (Yj g2) id).trans g2⟩⟩
theorem valid_spec {n : Nat} {l : List (Int × Int)} (h : Vm n l = true) : 2 ≤ n ∧ n ≤ 5 ∧ 1 ≤ l.length ∧ l.length ≤ 6 ∧ ∀ i, i < l.length → okB n (l.getD i (0, 0)) = true := by
  simp only [Vm, Bool.and_eq_true, decide_eq_true_eq, Int.toNat_natCast] at h
  obtain ⟨h1, h2, h3, h4, h5⟩ := h
  refine ⟨by omega, by omega, h3, h4, fun i hi => ?_⟩
  rw [validTo, List.all_eq_true] at h5
  have := h5 i (List.mem_range.2 hi)
  rw [Bool.and_eq_true] at this
  exact this.1
/-- The block of a row. -/
def bkOf (v : Value) : Nat := (Yg v).getD 0
/-- Equations as they grow. -/
structure Rows (hp0 : Nat) (G : Zh) (q : Value) (ws : List Value) (k : Nat) (T : Ww) : Prop where
  sl : QSl 47 G q ws
  ne : ws ≠ []
  row : ∀ i, i < ws.length → OwnP 26 G (ws.getD i undef) (rowC T k i)
  inj : ∀ i j, i < ws.length → j < ws.length → Yg (ws.getD i undef) = Yg (ws.getD j undef) → i = j
  sep : ∀ i, i < ws.length → Yg (ws.getD i undef) ≠ Yg q
  old : (∀ b, Yg q = some b → hp0 ≤ b) ∧ ∀ i b, i < ws.length → Yg (ws.getD i undef) = some b → hp0 ≤ b
theorem Ve {e : TypeId} {h : Zh} {v : Value} {ps : List (Int × Int)} (ho : OwnP e h v ps) (hne : ps ≠ []) : ∃ b ys, v = .slice (some ⟨b, 0, some 0⟩) ps.length (ps.length + ys.length) ∧ h[b]? = some (.ints (Yb ps ++ Yb ys) e false) := by
  rcases ho with ⟨_, h1⟩ | ⟨b, ys, h1, h2⟩
  · exact absurd h1 hne
  · exact ⟨b, ys, h1, h2⟩
theorem rowC_ne {T : Ww} {k i : Nat} : rowC T k i ≠ [] := by
  intro h
  have := rowC_len T k i
  rw [h] at this; simp at this
theorem QSl.blk {e : TypeId} {h : Zh} {v : Value} {ws : List Value} (hq : QSl e h v ws) (hne : ws ≠ []) : ∃ b c, Yg v = some b ∧ h[b]? = some (.cells c e false) ∧ b < h.length := by
  rcases hq with ⟨b, rfl, hb⟩ | ho
  · exact ⟨b, ws, rfl, hb, Yj hb⟩
  · rcases ho with ⟨_, h1⟩ | ⟨b, ys, rfl, _, hb⟩
    · exact absurd h1 hne
    · exact ⟨b, _, rfl, hb, Yj hb⟩
theorem Rows.ext {hp0 : Nat} {G G' : Zh} {q : Value} {ws : List Value} {k : Nat} {T : Ww} (R : Rows hp0 G q ws k T) (hE : Ext (fun _ => False) G G') : Rows hp0 G' q ws k T where
  sl := by
    rcases R.sl with ⟨b, h1, h2⟩ | ho
    · exact .inl ⟨b, h1, (hE.2 _ (Yj h2) id).trans h2⟩
    · exact .inr (ho.ext hE)
  ne := R.ne
  row i hi := (R.row i hi).ext hE
  inj := R.inj
  sep := R.sep
  old := R.old
/-- One row more. -/
theorem Rows.more [Tabs prog] {hp0 : Nat} {G G2 : Zh} {q rv : Value} {ws : List Value} {k b2 : Nat} {T : Ww} (R : Rows hp0 G q ws k T) (hl : ws.length ≤ 1000) (h0 : hp0 ≤ G.length) (hE : Ext (fun _ => False) G G2) (hr : OwnP 26 G2 rv (rowC T k ws.length)) (hrb : ∀ b, Yg rv = some b → G.length ≤ b) (hb2 : G2[b2]? = some (.cells [rv] 47 false))
    {K : Value → Zh → Prop} (hk : ∀ q' h', OwnV 47 h' q' (ws ++ [rv]) → Rows hp0 h' q' (ws ++ [rv]) k T → Ext (fun b => hp0 ≤ b) G2 h' → Ext (fun i => Yg q = some i) G2 h' → K q' h') : Xb prog G2 103 103 q (.slice (some ⟨b2, 0, none⟩) 1 1) K := by
  have R2 := R.ext hE
  obtain ⟨bq, cq, hbq, hq1, hq2⟩ := R.sl.blk R.ne
  obtain ⟨br, yr, hr1, hr2⟩ := Ve hr rowC_ne
  have hbr : Yg rv = some br := by rw [hr1]; rfl
  have hbrl := hrb br hbr
  have hw : ∀ w ∈ ws ++ [rv], notI w = true ∧ one w = true := fun w hw => by
    rcases List.mem_append.1 hw with h1 | h1
    · obtain ⟨i, hi, rfl⟩ := List.mem_iff_getElem.1 h1
      obtain ⟨b, ys, e1, _⟩ := Ve (R.row i hi) rowC_ne
      rw [List.getD, List.getElem?_eq_getElem hi, Option.getD_some] at e1
      rw [e1]; exact ⟨rfl, rfl⟩
    · rw [List.mem_singleton.1 h1, hr1]; exact ⟨rfl, rfl⟩
  refine R2.sl.app R.ne app_103_103 hb2 hw hl fun q' h' ho hE' hb' => ?_
  have rowb : ∀ i, i < ws.length → ∃ b, Yg (ws.getD i undef) = some b ∧ b < G.length := fun i hi => by
    obtain ⟨b, ys, e1, e2⟩ := Ve (R.row i hi) rowC_ne
    exact ⟨b, by rw [e1]; rfl, Yj e2⟩
  have g1 : ∀ i, i < ws.length → (ws ++ [rv]).getD i undef = ws.getD i undef := fun i hi => by
    rw [List.getD, List.getElem?_append_left hi]; rfl
  have g2 : (ws ++ [rv]).getD ws.length undef = rv := by simp [List.getD]
  have hq'b : ∀ b, Yg q' = some b → b = bq ∨ G2.length ≤ b := fun b hb => by
    rcases hb' with h1 | ⟨b', h1, h2⟩
    · rw [h1, hbq] at hb; cases hb; exact .inl rfl
    · rw [h1] at hb; cases hb; exact .inr h2
  have keep : ∀ b, b ≠ bq → b < G2.length → h'[b]? = G2[b]? := fun b hb hl => hE'.2 b hl fun hc => hb (by rw [hbq] at hc; cases hc; rfl)
  refine hk q' h' ho ⟨.inr ho, by simp, fun i hi => ?_, fun i j hi hj he => ?_, fun i hi => ?_, ⟨fun b hb => ?_, fun i b hi hb => ?_⟩⟩ (hE'.mono fun b hb => R.old.1 b hb) hE'
  · rw [List.length_append, List.length_singleton] at hi
    rcases Nat.lt_or_ge i ws.length with h1 | h1
    · rw [g1 i h1]
      refine (R2.row i h1).same fun b hb => ?_
      obtain ⟨b', e1, e2⟩ := rowb i h1
      rw [e1] at hb; cases hb
      exact keep _ (fun hc => R.sep i h1 (by rw [e1, hbq, hc])) (by have := hE.1; omega)
    · rw [show i = ws.length by omega, g2]
      refine hr.same fun b hb => ?_
      rw [hbr] at hb; cases hb
      exact keep _ (by omega) (Yj hr2)
  · rw [List.length_append, List.length_singleton] at hi hj
    rcases Nat.lt_or_ge i ws.length with h1 | h1 <;> rcases Nat.lt_or_ge j ws.length with h2 | h2
    · rw [g1 i h1, g1 j h2] at he; exact R.inj i j h1 h2 he
    · rw [g1 i h1, show j = ws.length by omega, g2, hbr] at he
      obtain ⟨b', e1, e2⟩ := rowb i h1
      rw [e1] at he; cases he; omega
    · rw [g1 j h2, show i = ws.length by omega, g2, hbr] at he
      obtain ⟨b', e1, e2⟩ := rowb j h2
      rw [e1] at he; cases he; omega
    · omega
  · rw [List.length_append, List.length_singleton] at hi
    intro hc
    rcases Nat.lt_or_ge i ws.length with h1 | h1
    · rw [g1 i h1] at hc
      obtain ⟨b', e1, e2⟩ := rowb i h1
      rw [e1] at hc
      rcases hq'b b' hc.symm with h3 | h3
      · exact R.sep i h1 (by rw [e1, hbq, h3])
      · have := hE.1; omega
    · rw [show i = ws.length by omega, g2, hbr] at hc
      rcases hq'b br hc.symm with h3 | h3
      · omega
      · have := Yj hr2; omega
  · rcases hq'b b hb with h3 | h3
    · rw [h3]; exact R.old.1 _ hbq
    · have := hE.1; omega
  · rw [List.length_append, List.length_singleton] at hi
    rcases Nat.lt_or_ge i ws.length with h1 | h1
    · rw [g1 i h1] at hb; exact R.old.2 i b h1 hb
    · rw [show i = ws.length by omega, g2] at hb
      have := hrb b hb; omega
/-- Equations ready to be solved. -/
theorem Rows.mat {hp0 : Nat} {G : Zh} {q : Value} {ws : List Value} {k : Nat} {T : Ww} (R : Rows hp0 G q ws k T) (ho : OwnV 47 G q ws) : ∃ B C, q = .slice (some ⟨B, 0, some 0⟩) ws.length C ∧ ws.length ≤ C ∧ hp0 ≤ B ∧ Mat G B ws.length k (fun i => ws.getD i undef) (fun i => bkOf (ws.getD i undef)) T ∧ ∀ i, i < ws.length → hp0 ≤ bkOf (ws.getD i undef) := by
  rcases ho with ⟨_, h1⟩ | ⟨B, us, hq, _, hb⟩
  · exact absurd h1 R.ne
  · have hqb : Yg q = some B := by rw [hq]; rfl
    have rowb : ∀ i, i < ws.length → ∃ b ys, ws.getD i undef = .slice (some ⟨b, 0, some 0⟩) (k + 1) (k + 1 + ys.length) ∧ G[b]? = some (.ints (Yb (rowC T k i) ++ Yb ys) 26 false) := fun i hi => by
      obtain ⟨b, ys, e1, e2⟩ := Ve (R.row i hi) rowC_ne
      rw [rowC_len] at e1
      exact ⟨b, ys, e1, e2⟩
    have bk : ∀ i, i < ws.length → Yg (ws.getD i undef) = some (bkOf (ws.getD i undef)) := fun i hi => by
      obtain ⟨b, ys, e1, e2⟩ := rowb i hi
      rw [e1]; rfl
    refine ⟨B, _, hq, by omega, R.old.1 B hqb, ⟨⟨us, ?_⟩, fun i hi => ?_, fun i j hi hj he => ?_, fun i hi hc => ?_⟩, fun i hi => R.old.2 i _ hi (bk i hi)⟩
    · have : (List.range ws.length).map (fun i => ws.getD i undef) = ws := by
        apply List.ext_getElem (by simp)
        intro i h1 h2
        simp [List.getD, h2]
      rw [this]; exact hb
    · obtain ⟨b, ys, e1, e2⟩ := rowb i hi
      refine ⟨k + 1 + ys.length, Yb ys, e1.trans ?_, by omega, ?_⟩
      · rw [bkOf, e1]; rfl
      · rw [bkOf, e1]; exact e2
    · exact R.inj i j hi hj (by rw [bk i hi, bk j hj, he])
    · exact R.sep i hi (by rw [bk i hi, hqb, hc])
end Go.Proofs.Try.Am
