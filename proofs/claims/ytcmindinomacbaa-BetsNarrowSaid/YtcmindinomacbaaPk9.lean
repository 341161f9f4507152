/-
  bets: equations solved.
  bets: the corners.
  bets: the corners, found.
  Printed by gen.py: the code of some functions, without what no step looks at; held against the program's own by the kernel.
  Printed by gen.py: the code of some functions, without what no step looks at; held against the program's own by the kernel.
  bets: copies of slices; slices held against each other.
-/
import Derived.Test.YtcmindinomacbaaPk8
import Derived.Test.YtcmindinomacbaaPk7
import Derived.Test.YtcmindinomacbaaPk3
import Derived.Test.YtcmindinomacbaaProg
import Derived.KernelRfl
import Derived.Shelf.Abstract
import Derived.Test.YtcmindinomacbaaPk6
set_option linter.all false
namespace Go.Proofs.Try.Am
open Go.Am Bq
set_option maxRecDepth 100000
set_option maxHeartbeats 1000000

theorem findP_fst (m a : Nat) (T : Xx) (ha : a ≤ m) : match findP m a T with | none => fstI (m - a) (fun i => decide (T (a + i) a ≠ 0)) = -1 | some p => a ≤ p ∧ p < m ∧ fstI (m - a) (fun i => decide (T (a + i) a ≠ 0)) = ((p - a : Nat) : Int) := by
  cases hf : findP m a T with
  | none =>
    simp only
    rw [fstI, find_none]
    intro i hi
    rw [findP, List.find?_eq_none] at hf
    have := hf (a + i) (List.mem_range.2 (by omega))
    simpa using this
  | some p =>
    obtain ⟨h1, h2, h3, h4⟩ := findP_some hf
    simp only
    refine ⟨h2, h1, ?_⟩
    rw [fstI, find_spec (k := p - a) (by omega) (by simp only [show a + (p - a) = p by omega]; simpa using h3) (fun i hi => by simpa using h4 (a + i) (by omega) (by omega))]

/-- A row divided, the first places. -/
def normTo (a c : Nat) (T : Xx) : Xx := fun i d => if i = a ∧ d < c then T a d / T a a else T i d
theorem normTo_zero (a : Nat) (T : Xx) : normTo a 0 T = T := by funext i d; simp [normTo]
theorem normTo_at (a c : Nat) (T : Xx) : normTo a c T a c = T a c := by simp [normTo]
theorem normTo_succ (a c : Nat) (T : Xx) : upd (normTo a c T) a c (T a c / T a a) = normTo a (c + 1) T := by
  funext i d
  simp only [upd, normTo]
  by_cases h1 : i = a
  · subst h1
    by_cases h2 : d = c
    · subst h2; simp
    · by_cases h3 : d < c
      · simp [h2, h3, show d < c + 1 by omega]
      · simp [h2, h3, show ¬ d < c + 1 by omega]
  · simp [h1]
theorem normTo_all {a k i d : Nat} (T : Xx) (hd : d ≤ k) : normTo a (k + 1) T i d = normT a T i d := by
  simp only [normTo, normT]
  by_cases h1 : i = a
  · simp [h1, show d < k + 1 by omega]
  · simp [h1]
/-- Rows cleared, the first ones; the next one in part. -/
def Xq (a r : Nat) (T : Xx) : Xx := fun i d => if i < r ∧ i ≠ a then T i d - T i a * T a d else T i d
def elimTo (a i c : Nat) (T : Xx) : Xx := fun i' d => if i' = i ∧ d < c then T i d - T i a * T a d else T i' d
theorem elimRows_zero (a : Nat) (T : Xx) : Xq a 0 T = T := by funext i d; simp [Xq]
theorem elimTo_zero (a i : Nat) (T : Xx) : elimTo a i 0 T = T := by funext i' d; simp [elimTo]
theorem elimTo_at (a i c : Nat) (T : Xx) : elimTo a i c T i c = T i c := by simp [elimTo]
theorem elimTo_other {a i c i' : Nat} (T : Xx) (h : i' ≠ i) (d : Nat) : elimTo a i c T i' d = T i' d := by simp [elimTo, h]
theorem elimTo_succ (a i c : Nat) (T : Xx) : upd (elimTo a i c T) i c (T i c - T i a * T a c) = elimTo a i (c + 1) T := by
  funext i' d
  simp only [upd, elimTo]
  by_cases h1 : i' = i
  · subst h1
    by_cases h2 : d = c
    · subst h2; simp
    · by_cases h3 : d < c
      · simp [h2, h3, show d < c + 1 by omega]
      · simp [h2, h3, show ¬ d < c + 1 by omega]
  · simp [h1]
theorem elimRows_row (a r : Nat) (T : Xx) : Xq a r T r = T r ∧ Xq a r T a = T a := by
  constructor <;> (funext d; simp [Xq])
theorem elimRows_next {a r k : Nat} (T : Xx) (h : r ≠ a) {i d : Nat} (hd : d ≤ k) : elimTo a r (k + 1) (Xq a r T) i d = Xq a (r + 1) T i d := by
  obtain ⟨e1, e2⟩ := elimRows_row a r T
  simp only [elimTo, e1, e2]
  by_cases h1 : i = r
  · subst h1; simp [Xq, h, show d < k + 1 by omega]
  · simp only [h1, false_and, if_false, Xq]
    by_cases h2 : i < r
    · simp [h2, show i < r + 1 by omega]
    · simp [h2, show ¬ i < r + 1 by omega]
theorem elimRows_skip {a r : Nat} (T : Xx) (h : r = a ∨ T r a = 0) (i d : Nat) : Xq a r T i d = Xq a (r + 1) T i d := by
  simp only [Xq]
  by_cases h1 : i = r
  · subst h1
    rcases h with h | h
    · simp [h]
    · by_cases h3 : i = a
      · simp [h3]
      · simp only [Nat.lt_irrefl, false_and, if_false, show i < i + 1 by omega, true_and, ne_eq, h3, not_false_eq_true, if_true, h]
        grind
  · by_cases h2 : i < r
    · simp [h2, show i < r + 1 by omega]
    · simp [h2, show ¬ i < r + 1 by omega]
theorem elimRows_all {a m i d : Nat} (T : Xx) (hi : i < m) : Xq a m T i d = elimT a T i d := by
  simp only [Xq, elimT]
  by_cases h : i = a
  · simp [h]
  · simp [h, hi]

/-- What is taken away fits. -/
theorem clear_fits [Tabs prog] {D0 D1 : Nat} {x0 x1 x2 : Int} {p f r : Rat} (h0 : Rp D0 x0 p) (h1 : Rp D0 x1 f) (h2 : Rp D1 x2 r) (hD0 : D0 ≤ 1073741824) (hD1 : D1 ≤ 1073741824) (b0 : x0.natAbs ≤ 1073741824) (b1 : x1.natAbs ≤ 1073741824) (b2 : x2.natAbs ≤ 1073741824) (h : Zh) :
    Xc prog 72 [qV f, qV r] h (qV (f * r)) ∧ Xc prog 71 [qV p, Zd (-1), qV (f * r)] h (qV (p - f * r)) := by
  have hDD : D0 * D1 ≤ 1152921504606846976 := Nat.le_trans (Nat.mul_le_mul hD0 hD1) (by decide)
  have hxx : (x1 * x2).natAbs ≤ 1152921504606846976 := by rw [Int.natAbs_mul]; exact Nat.le_trans (Nat.mul_le_mul b1 b2) (by decide)
  have hm := h1.mul h2
  have hx0 : (x0 * (D1 : Int)).natAbs ≤ 1152921504606846976 := by rw [Int.natAbs_mul, Int.natAbs_natCast]; exact Nat.le_trans (Nat.mul_le_mul b0 hD1) (by decide)
  have f1 : Fits f := ⟨by have := h1.le; omega, by have := h1.den_le; omega⟩
  have f2 : Fits r := ⟨by have := h2.le; omega, by have := h2.den_le; omega⟩
  have f3 : Fits (f * r) := ⟨by have := hm.le; omega, by have := hm.den_le; omega⟩
  refine ⟨times_call f1 f2 f3, ?_⟩
  have := plus_call (h := h) (k := -1) (h0.up D1 h2.pos) hm (by omega) (by omega)
  rwa [show p + ((-1 : Int) : Rat) * (f * r) = p - f * r by rw [show (((-1 : Int)) : Rat) = -1 from rfl]; grind] at this
theorem tame_fits {m k : Nat} {T : Xx} (h : Tame m k T) {i c : Nat} (hi : i < m) (hc : c ≤ k) : Fits (T i c) := by
  obtain ⟨D, h1, h2, h3⟩ := h
  obtain ⟨x, g1, g2⟩ := h3 i c hi hc
  exact ⟨by have := g1.le; omega, by have := g1.den_le; omega⟩

/-- What a solution may touch. -/
def Tch (B m : Nat) (bk : Nat → Nat) (b : Nat) : Prop := b = B ∨ ∃ i, i < m ∧ b = bk i
theorem Ext.fresh {S : Nat → Prop} {h h1 h2 : Zh} (hE : Ext S h h1) (hn : Ext (fun b => h.length ≤ b ∨ S b) h1 h2) : Ext S h h2 := by
  refine ⟨Nat.le_trans hE.1 hn.1, fun i hi hs => ?_⟩
  rw [hn.2 i (Nat.lt_of_lt_of_le hi hE.1) (by rintro (h3 | h3); omega; exact hs h3)]
  exact hE.2 i hi hs

set_option maxHeartbeats 4000000
/-- The rows from one on, or none. -/
theorem Mat.tail2 {h : Zh} {B m k C : Nat} {w : Nat → Value} {bk : Nat → Nat} {T : Xx} (M : Mat h B m k w bk T) {a : Nat} (ha : a ≤ m) (hm1 : 1 ≤ m) (hC : m ≤ C) {K : Value → Prop}
    (hk : ∀ v, (∀ K : Value → Prop, lenK v K = K (Zd ((m - a : Nat) : Int))) → (∀ i, i < m - a → ∀ K : Value → Prop, Xd prog 103 v (Zd (i : Nat)) K = K (Vv v 1 i)) → (∀ i, i < m - a → ∀ K : Value → Prop, Xu prog h 47 (Vv v 1 i) K = K (w (a + i))) → K v) :
    Xg prog 103 (.slice (some ⟨B, 0, some 0⟩) m C) (some (Zd (a : Nat))) none none K := by
  rcases Nat.lt_or_ge a m with h1 | h1
  · refine M.tail h1 hC fun v hv => ?_
    have hlen : ((List.range (m - a)).map fun i => w (a + i)).length = m - a := by simp
    refine hk v (fun K => by rw [hv.len, hlen]) (fun i hi K => hv.idx el_103 esz_47 (by rw [hlen]; exact hi) K) fun i hi K => ?_
    rw [hv.load shp_47 (by rw [hlen]; exact hi)]
    simp [List.getD, hi]
  · obtain rfl : a = m := by omega
    have key : K void := hk void (fun K => by rw [Nat.sub_self]; rfl) (fun i hi => by omega) (fun i hi => by omega)
    simp only [Xg, el_103, esz_47, bnd]
    exact ⟨by omega, by omega, by omega, fun h0 => by simp at h0, fun _ => .inr ⟨by omega, .inr ⟨trivial, key⟩⟩⟩
theorem s87_callW [Tabs Try.prog] {args : List Value} {h : Zh} {Q : Value → Zh → Prop} (hsz : args.length ≤ 176) (hk : AWS Try.prog 176 s87 (Zv Try.prog [.tmp 4, .tmp 5] Q) (Zo 0 args) h) : ACall Try.prog 87 args h Q :=
  Yr Try.func87 rfl (enters_of Try.func87 (by kernel_rfl) rfl) rfl rfl (by decide) s87_strip s87_ok hsz hk
theorem solve_call [Tabs prog] {h : Zh} {B m k C : Nat} {w0 : Nat → Value} {bk0 : Nat → Nat} {T0 : Xx} (M0 : Mat h B m k w0 bk0 T0) (hC : m ≤ C) (hm1 : 1 ≤ m) (hm : m ≤ 100) (hk1 : 1 ≤ k) (hk : k ≤ 100)
    (htame : ∀ j S, j ≤ k → Xk m T0 j = some S → Tame m k S) :
    ACall prog 87 [.slice (some ⟨B, 0, some 0⟩) m C, Zd (k : Nat)] h fun r h' => Ext (Tch B m bk0) h h' ∧ ∃ x ok, r = .tuple #[x, .bool ok] ∧
      (match Vf m k T0 with | none => ok = false ∧ x = .slice none 0 0 | some xs => ok = true ∧ OwnP 26 h' x (xs.map ofQ) ∧ ∀ b, Ym x = some b → h.length ≤ b) := by
  refine s87_callW (by simp) ?_
  simp only [s87]
  refine Ze fun N1 hN1 => ?_
  simp (maxSteps := 2000000) only [↓Za, ↓Zb, ↓Zc, vup, cond_false, aop, Zg, Zo, ev, sput, Zf, Nat.reduceBEq, Nat.reduceAdd]
  refine hN1 [(0, .slice (some ⟨B, 0, some 0⟩) m C), (1, Zd (k : Nat)), (4, .slice none 0 0), (5, .bool false)] _ _ ?_ (by simp (maxSteps := 2000000) only [vup, cond_true, cond_false, Nat.reduceBEq])
  clear hN1
  try clear N1
  refine Ze fun N2 hN2 => ?_
  simp (maxSteps := 2000000) only [↓Za, ↓Zb, ↓Zc, vup, cond_false, aop, Zg, ev, sput, Zf, Nat.reduceBEq]
  refine hN2 [(0, .slice (some ⟨B, 0, some 0⟩) m C), (1, Zd (k : Nat)), (4, .slice none 0 0), (5, .bool false), (6, .int .i64 0)] _ _ ?_ (by simp (maxSteps := 2000000) only [vup, cond_true, cond_false, Nat.reduceBEq])
  clear hN2
  try clear N2
  refine Zn fun Z hZ => ?_
  refine Ze fun N3 hN3 => ?_
  simp (maxSteps := 2000000) only [↓Za, ↓Zb, ↓Zc, vup, cond_true, cond_false, aop, Zg, ev, sput, Zf, Nat.reduceBEq]
  refine hN3 [(0, .slice (some ⟨B, 0, some 0⟩) m C), (1, Zd (k : Nat)), (4, .slice none 0 0), (5, .bool false), (6, .int .i64 0), (18, Zd (k : Nat)), (19, .int .i64 0)] _ _ ?_ (by simp (maxSteps := 2000000) only [vup, cond_true, cond_false, Nat.reduceBEq])
  clear hN3
  try clear N3
  refine Zp ?_
  refine Ya fun Q hQ => ?_
  refine Xb (γ := Nat × Zh × (Nat → Value) × (Nat → Nat) × Xx) (fun s => s.1 ≤ k ∧ s.1 ≤ m ∧ (s.1 < k → s.1 < m) ∧ Xk m T0 s.1 = some s.2.2.2.2 ∧ Mat s.2.1 B m k s.2.2.1 s.2.2.2.1 s.2.2.2.2 ∧ Ext (Tch B m bk0) h s.2.1 ∧ ∀ i, i < m → Tch B m bk0 (s.2.2.2.1 i))
    (fun s => ([(0, .slice (some ⟨B, 0, some 0⟩) m C), (1, Zd (k : Nat)), (4, .slice none 0 0), (5, .bool false), (6, Zd (s.1 : Nat)), (18, Zd (k : Nat)), (19, Zd (s.1 : Nat))], s.2.1)) (fun s => k - s.1) (0, h, w0, bk0, T0) ⟨Nat.zero_le _, Nat.zero_le _, fun _ => hm1, rfl, M0, Ext.refl _ _, fun i hi => .inr ⟨i, hi, rfl⟩⟩ (by simp (maxSteps := 2000000) only [vup, cond_true, cond_false, Nat.reduceBEq, Int.natCast_zero]) rfl ?_
  rintro ⟨j, hp, w, bk, T⟩ ⟨hj, hjm, hjkm, hrun, M, hE, hS⟩
  simp only at hj hjm hjkm hrun M hE hS
  refine Ya fun Q2 hQ2 => ?_
  simp only [l87_3]
  by_cases hin : (j : Int) < k
  · have hjk : j < k := by omega
    have hjm' : j < m := hjkm hjk
    have hBh : h.length ≤ hp.length := hE.1
    refine Ze fun N4 hN4 => ?_
    simp (maxSteps := 2000000) only [↓Za, ↓Zb, ↓Zc, vup, cond_true, cond_false, aop, Zg, ev, sput, Zf, Yi, Yo, Nat.reduceBEq, hin]
    refine hN4 [(0, .slice (some ⟨B, 0, some 0⟩) m C), (1, Zd (k : Nat)), (4, .slice none 0 0), (5, .bool false), (6, Zd (j : Nat)), (18, Zd (k : Nat)), (19, Zd (j : Nat)), (20, .bool true)] _ _ ?_ (by simp (maxSteps := 2000000) only [vup, cond_true, cond_false, Nat.reduceBEq])
    clear hN4
    try clear N4
    refine Ze fun N5 hN5 => ?_
    simp (maxSteps := 2000000) only [↓Zw, ↓vdn, vup, cond_true, cond_false, Zg, ev, Nat.reduceBEq]
    refine hN5 [(0, .slice (some ⟨B, 0, some 0⟩) m C), (1, Zd (k : Nat)), (4, .slice none 0 0), (5, .bool false), (6, Zd (j : Nat)), (18, Zd (k : Nat)), (19, Zd (j : Nat))] _ _ ?_ (by simp (maxSteps := 2000000) only [vup, cond_true, cond_false, Nat.reduceBEq])
    clear hN5
    try clear N5
    refine Zn fun Y hY => ?_
    refine Zp ?_
    -- the column's number
    obtain ⟨H1, hH1⟩ : ∃ H1, H1 = hp ++ [Blk.cells [Zd (j : Nat)] 3 false] := ⟨_, rfl⟩
    have b7 : H1[hp.length]? = some (.cells [Zd (j : Nat)] 3 false) := by rw [hH1]; exact Zz _ _
    have M1 : Mat H1 B m k w bk T := by rw [hH1]; exact M.ext (Ext.app _ _ _)
    have hE1 : Ext (Tch B m bk0) h H1 := by rw [hH1]; exact hE.trans (Ext.app _ _ _)
    have hH1l : H1.length = hp.length + 1 := by rw [hH1]; simp
    refine Ze fun N6 hN6 => ?_
    simp (maxSteps := 2000000) only [↓Za, ↓Zb, ↓Zc, vup, cond_true, cond_false, aop, Zg, ev, sput, Zf, Nat.reduceBEq, tyf, Xl, Yn, store1 (v' := Zd (j : Nat)) (Zz hp (.cells [.int .i64 0] 3 false)) shp_3 rfl, Xy]
    rw [← hH1]
    refine hN6 [(0, .slice (some ⟨B, 0, some 0⟩) m C), (1, Zd (k : Nat)), (4, .slice none 0 0), (5, .bool false), (6, Zd (j : Nat)), (7, .pointer (some ⟨hp.length, 0, none⟩)), (18, Zd (k : Nat)), (19, Zd (j : Nat))] _ _ ?_ (by simp (maxSteps := 2000000) only [vup, cond_true, cond_false, Nat.reduceBEq])
    clear hN6
    try clear N6
    -- the first row with a number there
    have hfst := findP_fst m j T hjm
    refine Ze fun N7 hN7 => ?_
    simp (maxSteps := 2000000) only [↓Za, ↓Zb, ↓Zc, vup, List.map_cons, List.map_nil, cond_true, cond_false, aop, Zg, ev, sput, Zf, Nat.reduceBEq, Option.map_some, Option.map_none]
    refine M1.tail hjm' hC fun v hv => ?_
    have ix := idxRow_call (F := fun i => decide (T (j + i) j ≠ 0)) (g := 112) (cap := #[.pointer (some ⟨hp.length, 0, none⟩)]) hv (by simp; omega) (fun i hi => by
      simp only [List.length_map, List.length_range] at hi
      have e : ((List.range (m - j)).map fun i => w (j + i)).getD i undef = w (j + i) := by simp [List.getD, hi]
      rw [e]
      exact nonzero_call M1 b7 (by omega) (by omega))
    rw [List.length_map, List.length_range] at ix
    simp (maxSteps := 2000000) only [vup, List.map_cons, List.map_nil, cond_true, cond_false, ev, Nat.reduceBEq, Yt, List.nil_append, List.append_nil, List.map_toArray]
    refine (ix).mono ?_
    rintro _ H1 ⟨rfl, rfl⟩
    refine hN7 [(0, .slice (some ⟨B, 0, some 0⟩) m C), (1, Zd (k : Nat)), (4, .slice none 0 0), (5, .bool false), (6, Zd (j : Nat)), (7, .pointer (some ⟨hp.length, 0, none⟩)), (8, Zd (fstI (m - j) fun i => decide (T (j + i) j ≠ 0))), (18, Zd (k : Nat)), (19, Zd (j : Nat))] _ _ ?_ (by simp (maxSteps := 2000000) only [vup, cond_true, cond_false, Nat.reduceBEq])
    clear hN7
    try clear N7
    cases hf : findP m j T with
    | none =>
      rw [hf] at hfst
      simp only at hfst
      refine Zi ?_
      simp (maxSteps := 2000000) only [↓Za, ↓Zt, ↓Zy, ↓Zb, ↓Zc, ↓vdn, vup, cond_true, cond_false, aop, Zg, Zs, ev, sput, Zf, Yi, Yo, Nat.reduceBEq, Int.reduceLT, hfst]
      refine hQ2 _ _ _ (hQ _ _ _ ?_)
      simp (maxSteps := 2000000) only [vup, cond_true, cond_false, Zg, Zs, Nat.reduceBEq, Zv, Xw, tup]
      have hs : Vf m k T0 = none := by
        have : ∀ d, Xk m T0 (j + 1 + d) = none := by
          intro d
          induction d with
          | zero =>
            show (Xk m T0 j).bind (Ww m j) = none
            rw [hrun]
            show Ww m j T = none
            rw [Ww, hf]; rfl
          | succ d ih => rw [← Nat.add_assoc, Xk, ih]; rfl
        rw [Vf, show k = j + 1 + (k - (j + 1)) by omega, this]; rfl
      rw [hs]
      exact ⟨hE1, _, _, rfl, rfl, rfl⟩
    | some p =>
      rw [hf] at hfst
      simp only at hfst
      obtain ⟨hap, hpm, hfst⟩ := hfst
      rw [hfst]
      have hpj : ¬ ((p - j : Nat) : Int) < 0 := by omega
      refine Ze fun N8 hN8 => ?_
      simp (maxSteps := 2000000) only [↓Za, ↓Zw, ↓Zt, ↓Zb, ↓Zc, ↓vdn, vup, cond_true, cond_false, aop, Zg, ev, sput, Zf, Yi, Yo, Nat.reduceBEq, hpj]
      refine hN8 [(0, .slice (some ⟨B, 0, some 0⟩) m C), (1, Zd (k : Nat)), (4, .slice none 0 0), (5, .bool false), (6, Zd (j : Nat)), (7, .pointer (some ⟨hp.length, 0, none⟩)), (8, Zd (p - j : Nat)), (18, Zd (k : Nat)), (19, Zd (j : Nat))] _ _ ?_ (by simp (maxSteps := 2000000) only [vup, cond_true, cond_false, Nat.reduceBEq])
      clear hN8
      try clear N8
      -- two rows change places
      obtain ⟨h1, H2, st1, st2, M2, hE2, hk2⟩ := M1.swap hjm' hpm
      have hb7 : hp.length ≠ B := by have := M.blt; omega
      have b7 : H2[hp.length]? = some (.cells [Zd (j : Nat)] 3 false) := by rw [hk2 _ hb7]; exact b7
      have hlen2 := Yl b7
      have hE2 : Ext (Tch B m bk0) h H2 := hE1.trans (hE2.mono fun b hb => .inl hb)
      have hS2 : ∀ i, i < m → Tch B m bk0 (swp j p bk i) := fun i hi => by
        simp only [swp]; split
        · exact hS p hpm
        · split
          · exact hS j hjm'
          · exact hS i hi
      have ajp : addV .i64 (j : Int) ((p - j : Nat) : Int) = (p : Int) := by rw [addN (by omega)]; omega
      refine Ze fun N9 hN9 => ?_
      simp only [q87_8]
      refine Xj [] (by kernel_rfl) (by kernel_rfl) (by kernel_rfl) (by kernel_rfl) ?_
      simp (maxSteps := 2000000) only [↓Yh, ↓vdn, vup, cond_true, cond_false, aop, Zg, ev, sput, Zf, Yi, Yo, Nat.reduceBEq, Nat.reduceAdd, ajp, Mat.idx j hjm', Mat.idx p hpm, M1.loadRow hpm, M1.loadRow hjm', st1, st2]
      refine hN9 [(0, .slice (some ⟨B, 0, some 0⟩) m C), (1, Zd (k : Nat)), (4, .slice none 0 0), (5, .bool false), (6, Zd (j : Nat)), (7, .pointer (some ⟨hp.length, 0, none⟩)), (18, Zd (k : Nat)), (19, Zd (j : Nat))] _ _ ?_ (by simp (maxSteps := 2000000) only [vup, cond_true, cond_false, Nat.reduceBEq])
      clear hN9
      try clear N9
      have hTp : T p j ≠ 0 := (findP_some hf).2.2.1
      have hnext : Xk m T0 (j + 1) = some (elimT j (normT j (Vm j p T))) := by
        show (Xk m T0 j).bind (Ww m j) = _
        rw [hrun]
        show Ww m j T = _
        rw [Ww, hf]; rfl
      have tame0 := htame j T hj hrun
      have tame1 := htame (j + 1) _ hjk hnext
      have hU0 : Vm j p T j j ≠ 0 := by simp only [Vm, if_true]; exact hTp
      have tameU : Tame m k (Vm j p T) := by
        obtain ⟨D, g1, g2, g3⟩ := tame0
        refine ⟨D, g1, g2, fun i c hi hc => ?_⟩
        simp only [Vm]
        split
        · exact g3 p c hpm hc
        · split
          · exact g3 j c hjm' hc
          · exact g3 i c hi hc
      clear hk2 st1 st2 h1 M1 M hE hE1 hS ix
      obtain ⟨w', hw'⟩ : ∃ w', w' = swp j p w := ⟨_, rfl⟩
      obtain ⟨bk', hbk'⟩ : ∃ w', w' = swp j p bk := ⟨_, rfl⟩
      obtain ⟨U, hU⟩ : ∃ U, U = Vm j p T := ⟨_, rfl⟩
      rw [← hw', ← hbk', ← hU] at M2
      rw [← hbk'] at hS2
      rw [← hU] at hnext tame1 hU0 tameU
      clear hw' hbk' hU
      -- what it is divided by
      obtain ⟨H3, hH3⟩ : ∃ H3, H3 = H2 ++ [fC (U j j).num (U j j).den] := ⟨_, rfl⟩
      have b9 : H3[H2.length]? = some (fC (U j j).num (U j j).den) := by rw [hH3]; exact Zz _ _
      have M3 : Mat H3 B m k w' bk' U := by rw [hH3]; exact M2.ext (Ext.app _ _ _)
      have hE3 : Ext (Tch B m bk0) h H3 := by rw [hH3]; exact hE2.trans (Ext.app _ _ _)
      have b7 : H3[hp.length]? = some (.cells [Zd (j : Nat)] 3 false) := by rw [hH3]; exact Xr b7 _
      refine Ze fun N10 hN10 => ?_
      simp only [q87_9]
      refine aw_drawE (fun _ => True) [] 7 9 [3, 4, 6] (by kernel_rfl) (by kernel_rfl) (by kernel_rfl) (by kernel_rfl) (by kernel_rfl) (by rfl) trivial ?_
      have b7' : H2[hp.length]? = some (.cells [Zd (j : Nat)] 3 false) := by
        rw [hH3, List.getElem?_append_left hlen2] at b7; exact b7
      simp (maxSteps := 2000000) only [↓dopsR_nil, ↓vdn, vup, cond_true, cond_false, aop, Zg, ev, sput, Zf, Nat.reduceBEq, Nat.reduceAdd, tyf, Mat.idx j hjm', M2.loadRow hjm', load1 b7' shp_3, M2.idxR hjm' (show j ≤ k by omega), M2.loadE hjm' (show j ≤ k by omega), Xl, Yn]
      simp only [qV, frV, Xz (Zz H2 z0) rfl, Xy]
      rw [← hH3]
      refine hN10 [(0, .slice (some ⟨B, 0, some 0⟩) m C), (1, Zd (k : Nat)), (4, .slice none 0 0), (5, .bool false), (6, Zd (j : Nat)), (7, .pointer (some ⟨hp.length, 0, none⟩)), (9, .pointer (some ⟨H2.length, 0, none⟩)), (18, Zd (k : Nat)), (19, Zd (j : Nat))] _ _ ?_ (by simp (maxSteps := 2000000) only [vup, cond_true, cond_false, Nat.reduceBEq])
      clear hN10
      try clear N10
      obtain ⟨D1, d1, d2, d3⟩ := tame1
      have hT1 : ∀ i c, elimT j (normT j U) i c = if i = j then U j c / U j j else U i c - U i j * (U j c / U j j) := fun i c => by
        simp only [elimT, normT]
        by_cases h : i = j
        · simp [h]
        · simp [h]
      have tame1 : Tame m k (elimT j (normT j U)) := ⟨D1, d1, d2, d3⟩
      have hlen3 : H2.length < H3.length := by rw [hH3]; simp
      -- the row is divided
      refine Zn fun X hX => ?_
      refine Ze fun N11 hN11 => ?_
      simp (maxSteps := 2000000) only [↓Za, ↓Zb, ↓Zc, vup, List.map_cons, List.map_nil, cond_true, cond_false, aop, Zg, ev, sput, Zf, Zl, Nat.reduceBEq, tyf, Mat.idx j hjm', M3.loadRow hjm', M3.lenR hjm']
      refine hN11 [(0, .slice (some ⟨B, 0, some 0⟩) m C), (1, Zd (k : Nat)), (4, .slice none 0 0), (5, .bool false), (6, Zd (j : Nat)), (7, .pointer (some ⟨hp.length, 0, none⟩)), (9, .pointer (some ⟨H2.length, 0, none⟩)), (18, Zd (k : Nat)), (19, Zd (j : Nat)), (58, Zd ((k + 1 : Nat) : Int)), (59, .int .i64 0)] _ _ ?_ (by simp (maxSteps := 2000000) only [vup, cond_true, cond_false, Nat.reduceBEq])
      clear hN11
      try clear N11
      refine Zp ?_
      refine Ya fun Qa hQa => ?_
      refine Xb (γ := Nat × Zh) (fun s => s.1 ≤ k + 1 ∧ Mat s.2 B m k w' bk' (normTo j s.1 U) ∧ Ext (Tch B m bk0) h s.2 ∧ s.2[hp.length]? = some (.cells [Zd (j : Nat)] 3 false) ∧ s.2[H2.length]? = some (fC (U j j).num (U j j).den))
        (fun s => ([(0, .slice (some ⟨B, 0, some 0⟩) m C), (1, Zd (k : Nat)), (4, .slice none 0 0), (5, .bool false), (6, Zd (j : Nat)), (7, .pointer (some ⟨hp.length, 0, none⟩)), (9, .pointer (some ⟨H2.length, 0, none⟩)), (18, Zd (k : Nat)), (19, Zd (j : Nat)), (58, Zd ((k + 1 : Nat) : Int)), (59, Zd (s.1 : Nat))], s.2)) (fun s => k + 1 - s.1) (0, H3) ⟨Nat.zero_le _, by simp only; rw [normTo_zero]; exact M3, hE3, b7, b9⟩ (by simp (maxSteps := 2000000) only [vup, cond_true, cond_false, Nat.reduceBEq, Int.natCast_zero]) rfl ?_
      rintro ⟨c, G⟩ ⟨hc, MG, hEG, g7, g9⟩
      simp only at hc MG hEG g7 g9
      refine Ya fun Qb hQb => ?_
      simp only [l87_0]
      by_cases hcin : (c : Int) < ((k + 1 : Nat) : Int)
      · have hc' : c ≤ k := by omega
        have ov : Xc prog 94 [qV (U j c), qV (U j j)] G (qV (U j c / U j j)) := by
          refine over_call (tame_fits tameU hjm' hc') (tame_fits tameU hjm' (by omega)) hU0 ?_
          have := tame_fits tame1 hjm' hc'
          rw [hT1, if_pos rfl] at this
          exact this
        obtain ⟨G', st, MG', hEG', hk'⟩ := MG.storeE hjm' hc' (U j c / U j j)
        rw [normTo_succ] at MG'
        refine Ze fun N12 hN12 => ?_
        simp (maxSteps := 2000000) only [↓Za, ↓Zb, ↓Zc, vup, cond_true, cond_false, aop, Zg, ev, sput, Zf, Yi, Yo, Nat.reduceBEq, hcin]
        refine hN12 [(0, .slice (some ⟨B, 0, some 0⟩) m C), (1, Zd (k : Nat)), (4, .slice none 0 0), (5, .bool false), (6, Zd (j : Nat)), (7, .pointer (some ⟨hp.length, 0, none⟩)), (9, .pointer (some ⟨H2.length, 0, none⟩)), (18, Zd (k : Nat)), (19, Zd (j : Nat)), (58, Zd ((k + 1 : Nat) : Int)), (59, Zd (c : Nat)), (60, .bool true)] _ _ ?_ (by simp (maxSteps := 2000000) only [vup, cond_true, cond_false, Nat.reduceBEq])
        clear hN12
        try clear N12
        refine Ze fun N13 hN13 => ?_
        simp (maxSteps := 2000000) only [↓Zw, ↓vdn, vup, cond_true, cond_false, Zg, ev, Nat.reduceBEq]
        refine hN13 [(0, .slice (some ⟨B, 0, some 0⟩) m C), (1, Zd (k : Nat)), (4, .slice none 0 0), (5, .bool false), (6, Zd (j : Nat)), (7, .pointer (some ⟨hp.length, 0, none⟩)), (9, .pointer (some ⟨H2.length, 0, none⟩)), (18, Zd (k : Nat)), (19, Zd (j : Nat)), (58, Zd ((k + 1 : Nat) : Int)), (59, Zd (c : Nat))] _ _ ?_ (by simp (maxSteps := 2000000) only [vup, cond_true, cond_false, Nat.reduceBEq])
        clear hN13
        try clear N13
        refine Zn fun W hW => ?_
        refine Zp ?_
        refine Ze fun N14 hN14 => ?_
        simp (maxSteps := 2000000) only [↓Za, ↓Zb, ↓Zc, vup, cond_true, cond_false, aop, Zg, ev, sput, Zf, Nat.reduceBEq]
        refine hN14 [(0, .slice (some ⟨B, 0, some 0⟩) m C), (1, Zd (k : Nat)), (4, .slice none 0 0), (5, .bool false), (6, Zd (j : Nat)), (7, .pointer (some ⟨hp.length, 0, none⟩)), (9, .pointer (some ⟨H2.length, 0, none⟩)), (10, Zd (c : Nat)), (18, Zd (k : Nat)), (19, Zd (j : Nat)), (58, Zd ((k + 1 : Nat) : Int)), (59, Zd (c : Nat))] _ _ ?_ (by simp (maxSteps := 2000000) only [vup, cond_true, cond_false, Nat.reduceBEq])
        clear hN14
        try clear N14
        refine Zi ?_
        simp only [q87_13]
        refine Xj [(13, 1)] (by kernel_rfl) (by kernel_rfl) (by kernel_rfl) (by kernel_rfl) ?_
        simp (maxSteps := 2000000) only [↓Yh, ↓vdn, vup, List.map_cons, List.map_nil, cond_true, cond_false, aop, Zg, Zs, ev, sput, Zf, Nat.reduceBEq, Nat.reduceAdd, Mat.idx j hjm', MG.loadRow hjm', MG.idxR hjm' hc', MG.loadE hjm' hc', normTo_at, Wi g9, Yt, List.nil_append, List.append_nil]
        refine ⟨_, _, ov, rfl, ?_⟩
        simp (maxSteps := 2000000) only [st]
        refine hW [(0, .slice (some ⟨B, 0, some 0⟩) m C), (1, Zd (k : Nat)), (4, .slice none 0 0), (5, .bool false), (6, Zd (j : Nat)), (7, .pointer (some ⟨hp.length, 0, none⟩)), (9, .pointer (some ⟨H2.length, 0, none⟩)), (18, Zd (k : Nat)), (19, Zd (j : Nat)), (58, Zd ((k + 1 : Nat) : Int)), (59, Zd (c : Nat))] _ _ ?_ (by simp (maxSteps := 2000000) only [vup, cond_true, cond_false, Nat.reduceBEq])
        clear hW
        try clear W
        refine Zi ?_
        simp (maxSteps := 2000000) only [↓Za, ↓Zb, ↓Zc, vup, cond_true, cond_false, aop, ev, sput, Zf, Yi, Yo, Nat.reduceBEq, add1 (show c < 9223372036854775807 by omega)]
        have hbj : bk' j < G.length := MG.lt hjm'
        have n7 : hp.length ≠ bk' j := fun he => by
          obtain ⟨cc, xs, e1, e2, e3⟩ := MG.row j hjm'
          rw [← he, g7] at e3; cases e3
        have n9 : H2.length ≠ bk' j := fun he => by
          obtain ⟨cc, xs, e1, e2, e3⟩ := MG.row j hjm'
          rw [← he, g9] at e3; cases e3
        refine hQb _ _ _ ⟨(c + 1, G'), ⟨by simp only; omega, MG', hEG.trans (hEG'.mono fun b hb => by rw [hb]; exact hS2 j hjm'), by simp only; rw [hk' _ n7]; exact g7, by simp only; rw [hk' _ n9]; exact g9⟩, by simp only; omega, by simp (maxSteps := 2000000) only [vup, cond_true, cond_false, Nat.reduceBEq], rfl⟩
      obtain rfl : c = k + 1 := by omega
      refine Ze fun N15 hN15 => ?_
      simp (maxSteps := 2000000) only [↓Za, ↓Zb, ↓Zc, vup, cond_true, cond_false, aop, Zg, ev, sput, Zf, Yi, Yo, Nat.reduceBEq, hcin]
      refine hN15 [(0, .slice (some ⟨B, 0, some 0⟩) m C), (1, Zd (k : Nat)), (4, .slice none 0 0), (5, .bool false), (6, Zd (j : Nat)), (7, .pointer (some ⟨hp.length, 0, none⟩)), (9, .pointer (some ⟨H2.length, 0, none⟩)), (18, Zd (k : Nat)), (19, Zd (j : Nat)), (58, Zd ((k + 1 : Nat) : Int)), (59, Zd ((k + 1 : Nat) : Int)), (60, .bool false)] _ _ ?_ (by simp (maxSteps := 2000000) only [vup, cond_true, cond_false, Nat.reduceBEq])
      clear hN15
      try clear N15
      refine Ze fun N16 hN16 => ?_
      simp (maxSteps := 2000000) only [↓Xh, ↓vdn, vup, cond_true, cond_false, Zg, ev, Nat.reduceBEq]
      refine hQb _ _ _ (hQa _ _ _ ?_)
      simp (maxSteps := 2000000) only [Zg, Zs, if_true]
      refine hX [(0, .slice (some ⟨B, 0, some 0⟩) m C), (1, Zd (k : Nat)), (4, .slice none 0 0), (5, .bool false), (6, Zd (j : Nat)), (7, .pointer (some ⟨hp.length, 0, none⟩)), (18, Zd (k : Nat)), (19, Zd (j : Nat)), (60, .bool false)] _ _ ?_ (by simp (maxSteps := 2000000) only [vup, cond_true, cond_false, Nat.reduceBEq])
      clear hX
      try clear X
      have MV : Mat G B m k w' bk' (normT j U) := MG.congr fun i d hi hd => normTo_all U hd
      clear MG g9 b9 b7 M3 M2 hE2 b7' hlen3
      obtain ⟨V, hV⟩ : ∃ V, V = normT j U := ⟨_, rfl⟩
      rw [← hV] at MV hnext tame1 d3
      have hVj : ∀ c, elimT j V j c = V j c := fun c => by simp [elimT]
      have hVi : ∀ i, i ≠ j → V i = U i := fun i hi => by rw [hV]; funext d; simp [normT, hi]
      -- the other rows are cleared
      refine Zn fun X hX => ?_
      refine Ze fun N17 hN17 => ?_
      simp (maxSteps := 2000000) only [↓Za, ↓Zb, ↓Zc, vup, List.map_cons, List.map_nil, cond_true, cond_false, aop, Zg, ev, sput, Zf, Zl, Nat.reduceBEq, tyf, lenK]
      refine hN17 [(0, .slice (some ⟨B, 0, some 0⟩) m C), (1, Zd (k : Nat)), (4, .slice none 0 0), (5, .bool false), (6, Zd (j : Nat)), (7, .pointer (some ⟨hp.length, 0, none⟩)), (18, Zd (k : Nat)), (19, Zd (j : Nat)), (60, .bool false), (78, .slice (some ⟨B, 0, some 0⟩) m C), (79, Zd (m : Nat)), (80, .int .i64 0)] _ _ ?_ (by simp (maxSteps := 2000000) only [vup, cond_true, cond_false, Nat.reduceBEq])
      clear hN17
      try clear N17
      refine Zp ?_
      refine Ya fun Qa hQa => ?_
      refine Xb (γ := Nat × Zh) (fun s => s.1 ≤ m ∧ Mat s.2 B m k w' bk' (Xq j s.1 V) ∧ Ext (Tch B m bk0) h s.2 ∧ s.2[hp.length]? = some (.cells [Zd (j : Nat)] 3 false))
        (fun s => ([(0, .slice (some ⟨B, 0, some 0⟩) m C), (1, Zd (k : Nat)), (4, .slice none 0 0), (5, .bool false), (6, Zd (j : Nat)), (7, .pointer (some ⟨hp.length, 0, none⟩)), (18, Zd (k : Nat)), (19, Zd (j : Nat)), (60, .bool false), (78, .slice (some ⟨B, 0, some 0⟩) m C), (79, Zd (m : Nat)), (80, Zd (s.1 : Nat))], s.2)) (fun s => m - s.1) (0, G) ⟨Nat.zero_le _, by simp only; rw [elimRows_zero]; exact MV, hEG, g7⟩ (by simp (maxSteps := 2000000) only [vup, cond_true, cond_false, Nat.reduceBEq, Int.natCast_zero]) rfl ?_
      rintro ⟨r, G1⟩ ⟨hr, MR, hER, r7⟩
      simp only at hr MR hER r7
      refine Ya fun Qb hQb => ?_
      simp only [l87_2]
      by_cases hrin : (r : Int) < (m : Int)
      · have hr' : r < m := by omega
        obtain ⟨er1, er2⟩ := elimRows_row j r V
        refine Ze fun N18 hN18 => ?_
        simp (maxSteps := 2000000) only [↓Za, ↓Zb, ↓Zc, vup, cond_true, cond_false, aop, Zg, ev, sput, Zf, Yi, Yo, Nat.reduceBEq, hrin]
        refine hN18 [(0, .slice (some ⟨B, 0, some 0⟩) m C), (1, Zd (k : Nat)), (4, .slice none 0 0), (5, .bool false), (6, Zd (j : Nat)), (7, .pointer (some ⟨hp.length, 0, none⟩)), (18, Zd (k : Nat)), (19, Zd (j : Nat)), (60, .bool false), (78, .slice (some ⟨B, 0, some 0⟩) m C), (79, Zd (m : Nat)), (80, Zd (r : Nat)), (81, .bool true)] _ _ ?_ (by simp (maxSteps := 2000000) only [vup, cond_true, cond_false, Nat.reduceBEq])
        clear hN18
        try clear N18
        refine Ze fun N19 hN19 => ?_
        simp (maxSteps := 2000000) only [↓Zw, ↓vdn, vup, cond_true, cond_false, Zg, ev, Nat.reduceBEq]
        refine hN19 [(0, .slice (some ⟨B, 0, some 0⟩) m C), (1, Zd (k : Nat)), (4, .slice none 0 0), (5, .bool false), (6, Zd (j : Nat)), (7, .pointer (some ⟨hp.length, 0, none⟩)), (18, Zd (k : Nat)), (19, Zd (j : Nat)), (60, .bool false), (78, .slice (some ⟨B, 0, some 0⟩) m C), (79, Zd (m : Nat)), (80, Zd (r : Nat))] _ _ ?_ (by simp (maxSteps := 2000000) only [vup, cond_true, cond_false, Nat.reduceBEq])
        clear hN19
        try clear N19
        refine Zn fun W hW => ?_
        refine Zp ?_
        refine Ze fun N20 hN20 => ?_
        simp (maxSteps := 2000000) only [↓Za, ↓Zb, ↓Zc, vup, cond_true, cond_false, aop, Zg, ev, sput, Zf, Nat.reduceBEq]
        refine hN20 [(0, .slice (some ⟨B, 0, some 0⟩) m C), (1, Zd (k : Nat)), (4, .slice none 0 0), (5, .bool false), (6, Zd (j : Nat)), (7, .pointer (some ⟨hp.length, 0, none⟩)), (11, Zd (r : Nat)), (18, Zd (k : Nat)), (19, Zd (j : Nat)), (60, .bool false), (78, .slice (some ⟨B, 0, some 0⟩) m C), (79, Zd (m : Nat)), (80, Zd (r : Nat))] _ _ ?_ (by simp (maxSteps := 2000000) only [vup, cond_true, cond_false, Nat.reduceBEq])
        clear hN20
        try clear N20
        refine Ze fun N21 hN21 => ?_
        simp only [q87_18]
        refine aw_drawE (fun _ => True) [] 7 12 [3, 4, 6] (by kernel_rfl) (by kernel_rfl) (by kernel_rfl) (by kernel_rfl) (by kernel_rfl) (by rfl) trivial ?_
        simp (maxSteps := 2000000) only [↓dopsR_nil, ↓vdn, vup, cond_true, cond_false, aop, Zg, ev, sput, Zf, Nat.reduceBEq, Nat.reduceAdd, tyf, Mat.idx r hr', MR.loadRow hr', load1 r7 shp_3, MR.idxR hr' (show j ≤ k by omega), MR.loadE hr' (show j ≤ k by omega), er1, Xl, Yn]
        simp only [qV, frV, Xz (Zz G1 z0) rfl, Xy]
        obtain ⟨G2, hG2⟩ : ∃ G2, G2 = G1 ++ [fC (V r j).num (V r j).den] := ⟨_, rfl⟩
        have b12 : G2[G1.length]? = some (fC (V r j).num (V r j).den) := by rw [hG2]; exact Zz _ _
        have M2 : Mat G2 B m k w' bk' (Xq j r V) := by rw [hG2]; exact MR.ext (Ext.app _ _ _)
        have hE2 : Ext (Tch B m bk0) h G2 := by rw [hG2]; exact hER.trans (Ext.app _ _ _)
        have b7 : G2[hp.length]? = some (.cells [Zd (j : Nat)] 3 false) := by rw [hG2]; exact Xr r7 _
        rw [← hG2]
        refine hN21 [(0, .slice (some ⟨B, 0, some 0⟩) m C), (1, Zd (k : Nat)), (4, .slice none 0 0), (5, .bool false), (6, Zd (j : Nat)), (7, .pointer (some ⟨hp.length, 0, none⟩)), (11, Zd (r : Nat)), (12, .pointer (some ⟨G1.length, 0, none⟩)), (18, Zd (k : Nat)), (19, Zd (j : Nat)), (60, .bool false), (78, .slice (some ⟨B, 0, some 0⟩) m C), (79, Zd (m : Nat)), (80, Zd (r : Nat))] _ _ ?_ (by simp (maxSteps := 2000000) only [vup, cond_true, cond_false, Nat.reduceBEq])
        clear hN21
        try clear N21
        have fin : ∀ e H, Mat H B m k w' bk' (Xq j (r + 1) V) → Ext (Tch B m bk0) h H → H[hp.length]? = some (.cells [Zd (j : Nat)] 3 false) → ELe e [(0, .slice (some ⟨B, 0, some 0⟩) m C), (1, Zd (k : Nat)), (4, .slice none 0 0), (5, .bool false), (6, Zd (j : Nat)), (7, .pointer (some ⟨hp.length, 0, none⟩)), (18, Zd (k : Nat)), (19, Zd (j : Nat)), (60, .bool false), (78, .slice (some ⟨B, 0, some 0⟩) m C), (79, Zd (m : Nat)), (80, Zd (r : Nat))] → W e H := by
          intro e H f1 f2 f3 he
          refine hW _ _ _ ?_ he
          refine Zi ?_
          simp (maxSteps := 2000000) only [↓Za, ↓Zb, ↓Zc, vup, cond_true, cond_false, aop, ev, sput, Zf, Yi, Yo, Nat.reduceBEq, add1 (show r < 9223372036854775807 by omega)]
          exact hQb _ _ _ ⟨(r + 1, H), ⟨hr', f1, f2, f3⟩, by simp only; omega, by simp (maxSteps := 2000000) only [vup, cond_true, cond_false, Nat.reduceBEq], rfl⟩
        by_cases hrj : r = j
        · have hne : (((r : Nat) : Int) != ((j : Nat) : Int)) = false := by simp [hrj]
          refine Ze fun N22 hN22 => ?_
          simp (maxSteps := 2000000) only [↓Za, ↓Zb, ↓Zc, ↓vdn, vup, cond_true, cond_false, aop, Zg, ev, sput, Zf, Yi, Yo, Nat.reduceBEq, hne]
          refine hN22 [(0, .slice (some ⟨B, 0, some 0⟩) m C), (1, Zd (k : Nat)), (4, .slice none 0 0), (5, .bool false), (6, Zd (j : Nat)), (7, .pointer (some ⟨hp.length, 0, none⟩)), (11, Zd (r : Nat)), (12, .pointer (some ⟨G1.length, 0, none⟩)), (18, Zd (k : Nat)), (19, Zd (j : Nat)), (60, .bool false), (78, .slice (some ⟨B, 0, some 0⟩) m C), (79, Zd (m : Nat)), (80, Zd (r : Nat)), (97, .bool false)] _ _ ?_ (by simp (maxSteps := 2000000) only [vup, cond_true, cond_false, Nat.reduceBEq])
          clear hN22
          try clear N22
          refine Zi ?_
          simp (maxSteps := 2000000) only [↓Zw, ↓vdn, vup, cond_true, cond_false, Zg, Zs, ev, Nat.reduceBEq]
          exact fin _ _ (M2.congr fun i d _ _ => elimRows_skip V (.inl hrj) i d) hE2 b7 (by simp (maxSteps := 2000000) only [vup, cond_true, cond_false, Nat.reduceBEq])
        have hne : (((r : Nat) : Int) != ((j : Nat) : Int)) = true := by
          have : ¬ ((r : Nat) : Int) = ((j : Nat) : Int) := by omega
          simpa [bne] using this
        by_cases hf0 : V r j = 0
        · have hnz : ((V r j).num != 0) = false := by simp [hf0]
          refine Ze fun N23 hN23 => ?_
          simp (maxSteps := 2000000) only [↓Za, ↓Zb, ↓Zc, ↓vdn, vup, cond_true, cond_false, aop, Zg, ev, sput, Zf, Yi, Yo, Nat.reduceBEq, tyf, hne, fA0, Wh b12, hnz]
          refine hN23 [(0, .slice (some ⟨B, 0, some 0⟩) m C), (1, Zd (k : Nat)), (4, .slice none 0 0), (5, .bool false), (6, Zd (j : Nat)), (7, .pointer (some ⟨hp.length, 0, none⟩)), (11, Zd (r : Nat)), (12, .pointer (some ⟨G1.length, 0, none⟩)), (18, Zd (k : Nat)), (19, Zd (j : Nat)), (60, .bool false), (78, .slice (some ⟨B, 0, some 0⟩) m C), (79, Zd (m : Nat)), (80, Zd (r : Nat)), (97, .bool false)] _ _ ?_ (by simp (maxSteps := 2000000) only [vup, cond_true, cond_false, Nat.reduceBEq])
          clear hN23
          try clear N23
          refine Zi ?_
          simp (maxSteps := 2000000) only [↓Zw, ↓vdn, vup, cond_true, cond_false, Zg, Zs, ev, Nat.reduceBEq]
          exact fin _ _ (M2.congr fun i d _ _ => elimRows_skip V (.inr hf0) i d) hE2 b7 (by simp (maxSteps := 2000000) only [vup, cond_true, cond_false, Nat.reduceBEq])
        have hnz : ((V r j).num != 0) = true := by
          have : ¬ (V r j).num = 0 := fun hc => hf0 (Rat.num_eq_zero.1 hc)
          simpa [bne] using this
        refine Ze fun N24 hN24 => ?_
        simp (maxSteps := 2000000) only [↓Za, ↓Zb, ↓Zc, ↓vdn, vup, cond_true, cond_false, aop, Zg, ev, sput, Zf, Yi, Yo, Nat.reduceBEq, tyf, hne, fA0, Wh b12, hnz]
        refine hN24 [(0, .slice (some ⟨B, 0, some 0⟩) m C), (1, Zd (k : Nat)), (4, .slice none 0 0), (5, .bool false), (6, Zd (j : Nat)), (7, .pointer (some ⟨hp.length, 0, none⟩)), (11, Zd (r : Nat)), (12, .pointer (some ⟨G1.length, 0, none⟩)), (18, Zd (k : Nat)), (19, Zd (j : Nat)), (60, .bool false), (78, .slice (some ⟨B, 0, some 0⟩) m C), (79, Zd (m : Nat)), (80, Zd (r : Nat)), (97, .bool true)] _ _ ?_ (by simp (maxSteps := 2000000) only [vup, cond_true, cond_false, Nat.reduceBEq])
        clear hN24
        try clear N24
        refine Wd rfl ?_
        obtain ⟨D0, z1, z2, z3⟩ := tameU
        obtain ⟨x1, y1, y2⟩ := z3 r j hr' (by omega)
        rw [← hVi r hrj] at y1
        refine Ze fun N25 hN25 => ?_
        simp (maxSteps := 2000000) only [↓Za, ↓Zb, ↓Zc, vup, List.map_cons, List.map_nil, cond_true, cond_false, aop, Zg, ev, sput, Zf, Zl, Nat.reduceBEq, tyf, Mat.idx r hr', M2.loadRow hr', M2.lenR hr']
        refine hN25 [(0, .slice (some ⟨B, 0, some 0⟩) m C), (1, Zd (k : Nat)), (4, .slice none 0 0), (5, .bool false), (6, Zd (j : Nat)), (7, .pointer (some ⟨hp.length, 0, none⟩)), (11, Zd (r : Nat)), (12, .pointer (some ⟨G1.length, 0, none⟩)), (18, Zd (k : Nat)), (19, Zd (j : Nat)), (60, .bool false), (78, .slice (some ⟨B, 0, some 0⟩) m C), (79, Zd (m : Nat)), (80, Zd (r : Nat)), (102, Zd ((k + 1 : Nat) : Int)), (103, .int .i64 0)] _ _ ?_ (by simp (maxSteps := 2000000) only [vup, cond_true, cond_false, Nat.reduceBEq])
        clear hN25
        try clear N25
        refine Zp ?_
        refine Ya fun Qc hQc => ?_
        refine Xb (γ := Nat × Zh) (fun s => s.1 ≤ k + 1 ∧ Mat s.2 B m k w' bk' (elimTo j r s.1 (Xq j r V)) ∧ Ext (Tch B m bk0) h s.2 ∧ s.2[hp.length]? = some (.cells [Zd (j : Nat)] 3 false) ∧ s.2[G1.length]? = some (fC (V r j).num (V r j).den))
          (fun s => ([(0, .slice (some ⟨B, 0, some 0⟩) m C), (1, Zd (k : Nat)), (4, .slice none 0 0), (5, .bool false), (6, Zd (j : Nat)), (7, .pointer (some ⟨hp.length, 0, none⟩)), (11, Zd (r : Nat)), (12, .pointer (some ⟨G1.length, 0, none⟩)), (18, Zd (k : Nat)), (19, Zd (j : Nat)), (60, .bool false), (78, .slice (some ⟨B, 0, some 0⟩) m C), (79, Zd (m : Nat)), (80, Zd (r : Nat)), (102, Zd ((k + 1 : Nat) : Int)), (103, Zd (s.1 : Nat))], s.2)) (fun s => k + 1 - s.1) (0, G2) ⟨Nat.zero_le _, by simp only; rw [elimTo_zero]; exact M2, hE2, b7, b12⟩ (by simp (maxSteps := 2000000) only [vup, cond_true, cond_false, Nat.reduceBEq, Int.natCast_zero]) rfl ?_
        rintro ⟨c, G⟩ ⟨hc, MG, hEG, g7, g12⟩
        simp only at hc MG hEG g7 g12
        refine Ya fun Qd hQd => ?_
        simp only [l87_1]
        by_cases hcin : (c : Int) < ((k + 1 : Nat) : Int)
        · have hc' : c ≤ k := by omega
          obtain ⟨x0, y3, y4⟩ := z3 r c hr' hc'
          obtain ⟨x2, y5, y6⟩ := d3 j c hjm' hc'
          rw [hVj] at y5
          rw [← hVi r hrj] at y3
          obtain ⟨cl1, cl2⟩ := clear_fits y3 y1 y5 z2 d2 y4 y2 y6 G
          have e1 : elimTo j r c (Xq j r V) r c = V r c := by rw [elimTo_at, er1]
          have e2 : elimTo j r c (Xq j r V) j c = V j c := by rw [elimTo_other _ (Ne.symm hrj), er2]
          obtain ⟨G', st, MG', hEG', hk'⟩ := MG.storeE hr' hc' (V r c - V r j * V j c)
          have e3 := elimTo_succ j r c (Xq j r V)
          rw [er1, er2] at e3
          rw [e3] at MG'
          refine Ze fun N26 hN26 => ?_
          simp (maxSteps := 2000000) only [↓Za, ↓Zb, ↓Zc, vup, cond_true, cond_false, aop, Zg, ev, sput, Zf, Yi, Yo, Nat.reduceBEq, hcin]
          refine hN26 [(0, .slice (some ⟨B, 0, some 0⟩) m C), (1, Zd (k : Nat)), (4, .slice none 0 0), (5, .bool false), (6, Zd (j : Nat)), (7, .pointer (some ⟨hp.length, 0, none⟩)), (11, Zd (r : Nat)), (12, .pointer (some ⟨G1.length, 0, none⟩)), (18, Zd (k : Nat)), (19, Zd (j : Nat)), (60, .bool false), (78, .slice (some ⟨B, 0, some 0⟩) m C), (79, Zd (m : Nat)), (80, Zd (r : Nat)), (102, Zd ((k + 1 : Nat) : Int)), (103, Zd (c : Nat)), (104, .bool true)] _ _ ?_ (by simp (maxSteps := 2000000) only [vup, cond_true, cond_false, Nat.reduceBEq])
          clear hN26
          try clear N26
          refine Ze fun N27 hN27 => ?_
          simp (maxSteps := 2000000) only [↓Zw, ↓vdn, vup, cond_true, cond_false, Zg, ev, Nat.reduceBEq]
          refine hN27 [(0, .slice (some ⟨B, 0, some 0⟩) m C), (1, Zd (k : Nat)), (4, .slice none 0 0), (5, .bool false), (6, Zd (j : Nat)), (7, .pointer (some ⟨hp.length, 0, none⟩)), (11, Zd (r : Nat)), (12, .pointer (some ⟨G1.length, 0, none⟩)), (18, Zd (k : Nat)), (19, Zd (j : Nat)), (60, .bool false), (78, .slice (some ⟨B, 0, some 0⟩) m C), (79, Zd (m : Nat)), (80, Zd (r : Nat)), (102, Zd ((k + 1 : Nat) : Int)), (103, Zd (c : Nat))] _ _ ?_ (by simp (maxSteps := 2000000) only [vup, cond_true, cond_false, Nat.reduceBEq])
          clear hN27
          try clear N27
          refine Zn fun U hU => ?_
          refine Zp ?_
          refine Ze fun N28 hN28 => ?_
          simp (maxSteps := 2000000) only [↓Za, ↓Zb, ↓Zc, vup, cond_true, cond_false, aop, Zg, ev, sput, Zf, Nat.reduceBEq]
          refine hN28 [(0, .slice (some ⟨B, 0, some 0⟩) m C), (1, Zd (k : Nat)), (4, .slice none 0 0), (5, .bool false), (6, Zd (j : Nat)), (7, .pointer (some ⟨hp.length, 0, none⟩)), (11, Zd (r : Nat)), (12, .pointer (some ⟨G1.length, 0, none⟩)), (13, Zd (c : Nat)), (18, Zd (k : Nat)), (19, Zd (j : Nat)), (60, .bool false), (78, .slice (some ⟨B, 0, some 0⟩) m C), (79, Zd (m : Nat)), (80, Zd (r : Nat)), (102, Zd ((k + 1 : Nat) : Int)), (103, Zd (c : Nat))] _ _ ?_ (by simp (maxSteps := 2000000) only [vup, cond_true, cond_false, Nat.reduceBEq])
          clear hN28
          try clear N28
          refine Zi ?_
          simp only [q87_23]
          refine Xj [(20, 1), (21, 1)] (by kernel_rfl) (by kernel_rfl) (by kernel_rfl) (by kernel_rfl) ?_
          simp (maxSteps := 2000000) only [↓Yh, ↓vdn, vup, List.map_cons, List.map_nil, cond_true, cond_false, aop, Zg, Zs, ev, sput, Zf, Nat.reduceBEq, Nat.reduceAdd, Mat.idx r hr', MG.loadRow hr', MG.idxR hr' hc', MG.loadE hr' hc', e1, Wi g12, Mat.idx j hjm', MG.loadRow hjm', MG.idxR hjm' hc', MG.loadE hjm' hc', e2, Yt, List.nil_append, List.append_nil]
          refine ⟨_, _, cl1, rfl, _, _, cl2, rfl, ?_⟩
          simp (maxSteps := 2000000) only [st]
          refine hU [(0, .slice (some ⟨B, 0, some 0⟩) m C), (1, Zd (k : Nat)), (4, .slice none 0 0), (5, .bool false), (6, Zd (j : Nat)), (7, .pointer (some ⟨hp.length, 0, none⟩)), (11, Zd (r : Nat)), (12, .pointer (some ⟨G1.length, 0, none⟩)), (18, Zd (k : Nat)), (19, Zd (j : Nat)), (60, .bool false), (78, .slice (some ⟨B, 0, some 0⟩) m C), (79, Zd (m : Nat)), (80, Zd (r : Nat)), (102, Zd ((k + 1 : Nat) : Int)), (103, Zd (c : Nat))] _ _ ?_ (by simp (maxSteps := 2000000) only [vup, cond_true, cond_false, Nat.reduceBEq])
          clear hU
          try clear U
          refine Zi ?_
          simp (maxSteps := 2000000) only [↓Za, ↓Zb, ↓Zc, vup, cond_true, cond_false, aop, ev, sput, Zf, Yi, Yo, Nat.reduceBEq, add1 (show c < 9223372036854775807 by omega)]
          have n7 : hp.length ≠ bk' r := fun he => by
            obtain ⟨cc, xs, e1, e2, e3⟩ := MG.row r hr'
            rw [← he, g7] at e3; cases e3
          have n12 : G1.length ≠ bk' r := fun he => by
            obtain ⟨cc, xs, e1, e2, e3⟩ := MG.row r hr'
            rw [← he, g12] at e3; cases e3
          refine hQd _ _ _ ⟨(c + 1, G'), ⟨by simp only; omega, MG', hEG.trans (hEG'.mono fun b hb => by rw [hb]; exact hS2 r hr'), by simp only; rw [hk' _ n7]; exact g7, by simp only; rw [hk' _ n12]; exact g12⟩, by simp only; omega, by simp (maxSteps := 2000000) only [vup, cond_true, cond_false, Nat.reduceBEq], rfl⟩
        obtain rfl : c = k + 1 := by omega
        refine Ze fun N29 hN29 => ?_
        simp (maxSteps := 2000000) only [↓Za, ↓Zb, ↓Zc, vup, cond_true, cond_false, aop, Zg, ev, sput, Zf, Yi, Yo, Nat.reduceBEq, hcin]
        refine hN29 [(0, .slice (some ⟨B, 0, some 0⟩) m C), (1, Zd (k : Nat)), (4, .slice none 0 0), (5, .bool false), (6, Zd (j : Nat)), (7, .pointer (some ⟨hp.length, 0, none⟩)), (11, Zd (r : Nat)), (12, .pointer (some ⟨G1.length, 0, none⟩)), (18, Zd (k : Nat)), (19, Zd (j : Nat)), (60, .bool false), (78, .slice (some ⟨B, 0, some 0⟩) m C), (79, Zd (m : Nat)), (80, Zd (r : Nat)), (102, Zd ((k + 1 : Nat) : Int)), (103, Zd ((k + 1 : Nat) : Int)), (104, .bool false)] _ _ ?_ (by simp (maxSteps := 2000000) only [vup, cond_true, cond_false, Nat.reduceBEq])
        clear hN29
        try clear N29
        refine Ze fun N30 hN30 => ?_
        simp (maxSteps := 2000000) only [↓Xh, ↓vdn, vup, cond_true, cond_false, Zg, ev, Nat.reduceBEq]
        refine hQd _ _ _ (hQc _ _ _ ?_)
        simp (maxSteps := 2000000) only [Zg, Zs, if_true]
        exact fin _ _ (MG.congr fun i d _ hd => elimRows_next V hrj hd) hEG g7 (by simp (maxSteps := 2000000) only [vup, cond_true, cond_false, Nat.reduceBEq])
      have hrm : m = r := by omega
      subst hrm
      refine Ze fun N31 hN31 => ?_
      simp (maxSteps := 2000000) only [↓Za, ↓Zb, ↓Zc, vup, cond_true, cond_false, aop, Zg, ev, sput, Zf, Yi, Yo, Nat.reduceBEq, hrin]
      refine hN31 [(0, .slice (some ⟨B, 0, some 0⟩) m C), (1, Zd (k : Nat)), (4, .slice none 0 0), (5, .bool false), (6, Zd (j : Nat)), (7, .pointer (some ⟨hp.length, 0, none⟩)), (18, Zd (k : Nat)), (19, Zd (j : Nat)), (60, .bool false), (78, .slice (some ⟨B, 0, some 0⟩) m C), (79, Zd (m : Nat)), (80, Zd (m : Nat)), (81, .bool false)] _ _ ?_ (by simp (maxSteps := 2000000) only [vup, cond_true, cond_false, Nat.reduceBEq])
      clear hN31
      try clear N31
      refine Ze fun N32 hN32 => ?_
      simp (maxSteps := 2000000) only [↓Xh, ↓vdn, vup, cond_true, cond_false, Zg, ev, Nat.reduceBEq]
      refine hQb _ _ _ (hQa _ _ _ ?_)
      simp (maxSteps := 2000000) only [Zg, Zs, if_true]
      refine hX [(0, .slice (some ⟨B, 0, some 0⟩) m C), (1, Zd (k : Nat)), (4, .slice none 0 0), (5, .bool false), (6, Zd (j : Nat)), (7, .pointer (some ⟨hp.length, 0, none⟩)), (18, Zd (k : Nat)), (19, Zd (j : Nat)), (81, .bool false)] _ _ ?_ (by simp (maxSteps := 2000000) only [vup, cond_true, cond_false, Nat.reduceBEq])
      clear hX
      try clear X
      have MT : Mat G1 B m k w' bk' (elimT j V) := MR.congr fun i d hi _ => elimRows_all V hi
      refine Ze fun N33 hN33 => ?_
      simp (maxSteps := 2000000) only [↓Za, ↓Zb, ↓Zc, vup, cond_true, cond_false, aop, Zg, ev, sput, Zf, Yi, Yo, Nat.reduceBEq, add1 (show j < 9223372036854775807 by omega)]
      refine hN33 [(0, .slice (some ⟨B, 0, some 0⟩) m C), (1, Zd (k : Nat)), (4, .slice none 0 0), (5, .bool false), (6, Zd ((j + 1 : Nat) : Int)), (7, .pointer (some ⟨hp.length, 0, none⟩)), (18, Zd (k : Nat)), (19, Zd (j : Nat)), (81, .bool false)] _ _ ?_ (by simp (maxSteps := 2000000) only [vup, cond_true, cond_false, Nat.reduceBEq])
      clear hN33
      try clear N33
      have goOn : (j + 1 < k → j + 1 < m) → ∀ e, ELe e [(0, .slice (some ⟨B, 0, some 0⟩) m C), (1, Zd (k : Nat)), (4, .slice none 0 0), (5, .bool false), (6, Zd ((j + 1 : Nat) : Int)), (18, Zd (k : Nat)), (19, Zd (j : Nat)), (81, .bool false)] → Y e G1 := by
        intro hlt e he
        refine hY _ _ _ ?_ he
        refine Zi ?_
        simp (maxSteps := 2000000) only [↓Za, ↓Zb, ↓Zc, vup, cond_true, cond_false, aop, ev, sput, Zf, Yi, Yo, Nat.reduceBEq, add1 (show j < 9223372036854775807 by omega)]
        exact hQ2 _ _ _ ⟨(j + 1, G1, w', bk', elimT j V), ⟨hjk, hjm', hlt, hnext, MT, hER, hS2⟩, by simp only; omega, by simp (maxSteps := 2000000) only [vup, cond_true, cond_false, Nat.reduceBEq], rfl⟩
      by_cases hjm2 : j + 1 = m
      · have h1 : (((j + 1 : Nat) : Int) == ((m : Nat) : Int)) = true := by simp [hjm2]
        by_cases hjk2 : j + 1 < k
        · have h2 : (((j + 1 : Nat) : Int) < ((k : Nat) : Int)) := by omega
          refine Ze fun N34 hN34 => ?_
          simp (maxSteps := 2000000) only [↓Za, ↓Zb, ↓Zc, ↓vdn, vup, List.map_cons, List.map_nil, cond_true, cond_false, aop, Zg, ev, sput, Zf, Yi, Yo, Zl, Nat.reduceBEq, tyf, lenK, h1, load1 r7 shp_3, add1 (show j < 9223372036854775807 by omega), h2]
          refine hN34 [(0, .slice (some ⟨B, 0, some 0⟩) m C), (1, Zd (k : Nat)), (4, .slice none 0 0), (5, .bool false), (6, Zd ((j + 1 : Nat) : Int)), (7, .pointer (some ⟨hp.length, 0, none⟩)), (18, Zd (k : Nat)), (19, Zd (j : Nat)), (81, .bool false), (142, .bool true)] _ _ ?_ (by simp (maxSteps := 2000000) only [vup, cond_true, cond_false, Nat.reduceBEq])
          clear hN34
          try clear N34
          refine Zi ?_
          simp (maxSteps := 2000000) only [↓Za, ↓Zt, ↓Zy, ↓Zb, ↓Zc, ↓vdn, vup, cond_true, cond_false, aop, Zg, Zs, ev, sput, Zf, Nat.reduceBEq]
          refine hQ2 _ _ _ (hQ _ _ _ ?_)
          simp (maxSteps := 2000000) only [vup, cond_true, cond_false, Zg, Zs, Nat.reduceBEq, Zv, Xw, tup]
          have hs : Vf m k T0 = none := by
            have hfn : findP m (j + 1) (elimT j V) = none := by
              rw [findP]
              refine find_none fun i hi => ?_
              simp; omega
            have : ∀ d, Xk m T0 (j + 2 + d) = none := by
              intro d
              induction d with
              | zero =>
                show (Xk m T0 (j + 1)).bind (Ww m (j + 1)) = none
                rw [hnext]
                show Ww m (j + 1) _ = none
                rw [Ww, hfn]; rfl
              | succ d ih => rw [← Nat.add_assoc, Xk, ih]; rfl
            rw [Vf, show k = j + 2 + (k - (j + 2)) by omega, this]; rfl
          rw [hs]
          exact ⟨hER, _, _, rfl, rfl, rfl⟩
        · have h2 : ¬ (((j + 1 : Nat) : Int) < ((k : Nat) : Int)) := by omega
          refine Ze fun N35 hN35 => ?_
          simp (maxSteps := 2000000) only [↓Za, ↓Zb, ↓Zc, ↓vdn, vup, List.map_cons, List.map_nil, cond_true, cond_false, aop, Zg, ev, sput, Zf, Yi, Yo, Zl, Nat.reduceBEq, tyf, lenK, h1, load1 r7 shp_3, add1 (show j < 9223372036854775807 by omega), h2]
          refine hN35 [(0, .slice (some ⟨B, 0, some 0⟩) m C), (1, Zd (k : Nat)), (4, .slice none 0 0), (5, .bool false), (6, Zd ((j + 1 : Nat) : Int)), (7, .pointer (some ⟨hp.length, 0, none⟩)), (18, Zd (k : Nat)), (19, Zd (j : Nat)), (81, .bool false), (142, .bool false)] _ _ ?_ (by simp (maxSteps := 2000000) only [vup, cond_true, cond_false, Nat.reduceBEq])
          clear hN35
          try clear N35
          refine Zi ?_
          simp (maxSteps := 2000000) only [↓Zw, ↓vdn, vup, cond_true, cond_false, Zg, Zs, ev, Nat.reduceBEq]
          exact goOn (fun h => absurd h hjk2) _ (by simp (maxSteps := 2000000) only [vup, cond_true, cond_false, Nat.reduceBEq])
      · have h1 : (((j + 1 : Nat) : Int) == ((m : Nat) : Int)) = false := by
          have : ¬ ((j + 1 : Nat) : Int) = ((m : Nat) : Int) := by omega
          simpa using this
        refine Ze fun N36 hN36 => ?_
        simp (maxSteps := 2000000) only [↓Za, ↓Zb, ↓Zc, ↓vdn, vup, List.map_cons, List.map_nil, cond_true, cond_false, aop, Zg, ev, sput, Zf, Yi, Yo, Zl, Nat.reduceBEq, tyf, lenK, h1]
        refine hN36 [(0, .slice (some ⟨B, 0, some 0⟩) m C), (1, Zd (k : Nat)), (4, .slice none 0 0), (5, .bool false), (6, Zd ((j + 1 : Nat) : Int)), (7, .pointer (some ⟨hp.length, 0, none⟩)), (18, Zd (k : Nat)), (19, Zd (j : Nat)), (81, .bool false), (142, .bool false)] _ _ ?_ (by simp (maxSteps := 2000000) only [vup, cond_true, cond_false, Nat.reduceBEq])
        clear hN36
        try clear N36
        refine Zi ?_
        simp (maxSteps := 2000000) only [↓Zw, ↓vdn, vup, cond_true, cond_false, Zg, Zs, ev, Nat.reduceBEq]
        exact goOn (fun h => by omega) _ (by simp (maxSteps := 2000000) only [vup, cond_true, cond_false, Nat.reduceBEq])
  · have hjk : k = j := by omega
    subst hjk
    have hEl := hE.1
    refine Ze fun N37 hN37 => ?_
    simp (maxSteps := 2000000) only [↓Za, ↓Zb, ↓Zc, vup, cond_true, cond_false, aop, Zg, ev, sput, Zf, Yi, Yo, Nat.reduceBEq, hin]
    refine hN37 [(0, .slice (some ⟨B, 0, some 0⟩) m C), (1, Zd (k : Nat)), (4, .slice none 0 0), (5, .bool false), (6, Zd (k : Nat)), (18, Zd (k : Nat)), (19, Zd (k : Nat)), (20, .bool false)] _ _ ?_ (by simp (maxSteps := 2000000) only [vup, cond_true, cond_false, Nat.reduceBEq])
    clear hN37
    try clear N37
    refine Ze fun N38 hN38 => ?_
    simp (maxSteps := 2000000) only [↓Xh, ↓vdn, vup, cond_true, cond_false, Zg, ev, Nat.reduceBEq]
    refine hQ2 _ _ _ (hQ _ _ _ ?_)
    simp (maxSteps := 2000000) only [Zg, Zs, Zv, if_true]
    refine hZ [(0, .slice (some ⟨B, 0, some 0⟩) m C), (1, Zd (k : Nat)), (4, .slice none 0 0), (5, .bool false), (6, Zd (k : Nat)), (20, .bool false)] _ _ ?_ (by simp (maxSteps := 2000000) only [vup, cond_true, cond_false, Nat.reduceBEq])
    clear hZ
    try clear Z
    have hrest : ∀ S, Xk m T0 k = some S → Vf m k T0 = if restT m k S then none else some ((List.range k).map fun i => S i k) := fun S hS => by rw [Vf, hS]; rfl
    have hsol := hrest T hrun
    -- what is left
    refine Zn fun Y hY => ?_
    refine Ze fun N39 hN39 => ?_
    simp (maxSteps := 2000000) only [↓Za, ↓Zb, ↓Zc, vup, List.map_cons, List.map_nil, cond_true, cond_false, aop, Zg, ev, sput, Zf, Zl, Nat.reduceBEq, tyf, Option.map_some, Option.map_none]
    refine M.tail2 hjm hm1 hC fun v hlen hidx hload => ?_
    simp (maxSteps := 2000000) only [hlen]
    refine hN39 [(0, .slice (some ⟨B, 0, some 0⟩) m C), (1, Zd (k : Nat)), (4, .slice none 0 0), (5, .bool false), (6, Zd (k : Nat)), (20, .bool false), (146, v), (147, Zd ((m - k : Nat) : Int)), (148, .int .i64 0)] _ _ ?_ (by simp (maxSteps := 2000000) only [vup, cond_true, cond_false, Nat.reduceBEq])
    clear hN39
    try clear N39
    refine Zp ?_
    refine Ya fun Qa hQa => ?_
    refine Xb (γ := Nat) (fun r => r ≤ m - k ∧ ∀ i, i < r → T (k + i) k = 0)
      (fun r => ([(0, .slice (some ⟨B, 0, some 0⟩) m C), (1, Zd (k : Nat)), (4, .slice none 0 0), (5, .bool false), (6, Zd (k : Nat)), (20, .bool false), (146, v), (147, Zd ((m - k : Nat) : Int)), (148, Zd (r : Nat))], hp)) (fun r => m - k - r) 0 ⟨Nat.zero_le _, fun i hi => by omega⟩ (by simp (maxSteps := 2000000) only [vup, cond_true, cond_false, Nat.reduceBEq, Int.natCast_zero]) rfl ?_
    rintro r ⟨hr, hzero⟩
    refine Ya fun Qb hQb => ?_
    simp only [l87_4]
    by_cases hrin : (r : Int) < ((m - k : Nat) : Int)
    · have hr' : r < m - k := by omega
      refine Ze fun N40 hN40 => ?_
      simp (maxSteps := 2000000) only [↓Za, ↓Zb, ↓Zc, vup, cond_true, cond_false, aop, Zg, ev, sput, Zf, Yi, Yo, Nat.reduceBEq, hrin]
      refine hN40 [(0, .slice (some ⟨B, 0, some 0⟩) m C), (1, Zd (k : Nat)), (4, .slice none 0 0), (5, .bool false), (6, Zd (k : Nat)), (20, .bool false), (146, v), (147, Zd ((m - k : Nat) : Int)), (148, Zd (r : Nat)), (149, .bool true)] _ _ ?_ (by simp (maxSteps := 2000000) only [vup, cond_true, cond_false, Nat.reduceBEq])
      clear hN40
      try clear N40
      refine Ze fun N41 hN41 => ?_
      simp (maxSteps := 2000000) only [↓Zw, ↓vdn, vup, cond_true, cond_false, Zg, ev, Nat.reduceBEq]
      refine hN41 [(0, .slice (some ⟨B, 0, some 0⟩) m C), (1, Zd (k : Nat)), (4, .slice none 0 0), (5, .bool false), (6, Zd (k : Nat)), (20, .bool false), (146, v), (147, Zd ((m - k : Nat) : Int)), (148, Zd (r : Nat))] _ _ ?_ (by simp (maxSteps := 2000000) only [vup, cond_true, cond_false, Nat.reduceBEq])
      clear hN41
      try clear N41
      refine Zn fun W hW => ?_
      refine Zp ?_
      refine Ze fun N42 hN42 => ?_
      simp (maxSteps := 2000000) only [↓Za, ↓Zb, ↓Zc, vup, cond_true, cond_false, aop, Zg, ev, sput, Zf, Nat.reduceBEq, hidx r hr', hload r hr']
      refine hN42 [(0, .slice (some ⟨B, 0, some 0⟩) m C), (1, Zd (k : Nat)), (4, .slice none 0 0), (5, .bool false), (6, Zd (k : Nat)), (15, w (k + r)), (20, .bool false), (146, v), (147, Zd ((m - k : Nat) : Int)), (148, Zd (r : Nat))] _ _ ?_ (by simp (maxSteps := 2000000) only [vup, cond_true, cond_false, Nat.reduceBEq])
      clear hN42
      try clear N42
      refine Zi ?_
      by_cases hnz : T (k + r) k = 0
      · have hn : ((T (k + r) k).num != 0) = false := by simp [hnz]
        simp (maxSteps := 2000000) only [↓Za, ↓Zw, ↓Zt, ↓Zy, ↓Zb, ↓Zc, ↓vdn, vup, cond_true, cond_false, aop, Zg, Zs, ev, sput, Zf, Yi, Yo, Nat.reduceBEq, tyf, M.idxR (show k + r < m by omega) (Nat.le_refl k), fA0o, M.loadN (show k + r < m by omega) (Nat.le_refl k), hn]
        refine hW [(0, .slice (some ⟨B, 0, some 0⟩) m C), (1, Zd (k : Nat)), (4, .slice none 0 0), (5, .bool false), (6, Zd (k : Nat)), (20, .bool false), (146, v), (147, Zd ((m - k : Nat) : Int)), (148, Zd (r : Nat))] _ _ ?_ (by simp (maxSteps := 2000000) only [vup, cond_true, cond_false, Nat.reduceBEq])
        clear hW
        try clear W
        refine Zi ?_
        simp (maxSteps := 2000000) only [↓Za, ↓Zb, ↓Zc, vup, cond_true, cond_false, aop, ev, sput, Zf, Yi, Yo, Nat.reduceBEq, add1 (show r < 9223372036854775807 by omega)]
        refine hQb _ _ _ ⟨r + 1, ⟨hr', fun i hi => ?_⟩, by omega, by simp (maxSteps := 2000000) only [vup, cond_true, cond_false, Nat.reduceBEq], rfl⟩
        rcases Nat.lt_or_ge i r with h1 | h1
        · exact hzero i h1
        · rw [show i = r by omega]; exact hnz
      · have hn : ((T (k + r) k).num != 0) = true := by
          have : ¬ (T (k + r) k).num = 0 := fun hc => hnz (Rat.num_eq_zero.1 hc)
          simpa [bne] using this
        simp (maxSteps := 2000000) only [↓Za, ↓Zw, ↓Zt, ↓Zy, ↓Zb, ↓Zc, ↓vdn, vup, cond_true, cond_false, aop, Zg, Zs, ev, sput, Zf, Yi, Yo, Nat.reduceBEq, tyf, M.idxR (show k + r < m by omega) (Nat.le_refl k), fA0o, M.loadN (show k + r < m by omega) (Nat.le_refl k), hn]
        refine hQb _ _ _ (hQa _ _ _ ?_)
        simp (maxSteps := 2000000) only [vup, cond_true, cond_false, Zg, Zs, Nat.reduceBEq, Zv, Xw, tup]
        have hrt : restT m k T = true := by
          rw [restT, List.any_eq_true]
          exact ⟨k + r, List.mem_range.2 (by omega), by simp [hnz]⟩
        rw [hsol, hrt]
        exact ⟨hE, _, _, rfl, rfl, rfl⟩
    have hrm : r = m - k := by omega
    have hrt : restT m k T = false := by
      rw [restT, List.any_eq_false]
      intro i hi
      have hi' := List.mem_range.1 hi
      simp only [Bool.and_eq_true, decide_eq_true_eq, not_and, Decidable.not_not]
      intro hki
      have := hzero (i - k) (by omega)
      rwa [show k + (i - k) = i by omega] at this
    rw [hrt, if_neg (by decide)] at hsol
    refine Ze fun N43 hN43 => ?_
    simp (maxSteps := 2000000) only [↓Za, ↓Zb, ↓Zc, vup, cond_true, cond_false, aop, Zg, ev, sput, Zf, Yi, Yo, Nat.reduceBEq, hrin]
    refine hN43 [(0, .slice (some ⟨B, 0, some 0⟩) m C), (1, Zd (k : Nat)), (4, .slice none 0 0), (5, .bool false), (6, Zd (k : Nat)), (20, .bool false), (146, v), (147, Zd ((m - k : Nat) : Int)), (148, Zd (r : Nat)), (149, .bool false)] _ _ ?_ (by simp (maxSteps := 2000000) only [vup, cond_true, cond_false, Nat.reduceBEq])
    clear hN43
    try clear N43
    refine Ze fun N44 hN44 => ?_
    simp (maxSteps := 2000000) only [↓Xh, ↓vdn, vup, cond_true, cond_false, Zg, ev, Nat.reduceBEq]
    refine hQb _ _ _ (hQa _ _ _ ?_)
    simp (maxSteps := 2000000) only [Zg, Zs, Zv, if_true]
    refine hY [(0, .slice (some ⟨B, 0, some 0⟩) m C), (1, Zd (k : Nat)), (4, .slice none 0 0), (5, .bool false), (6, Zd (k : Nat)), (20, .bool false), (149, .bool false)] _ _ ?_ (by simp (maxSteps := 2000000) only [vup, cond_true, cond_false, Nat.reduceBEq])
    clear hY
    try clear Y
    -- the solution
    have hsl : ∀ K : Value → Prop, K (.slice (some ⟨B, 0, some 0⟩) k C) → Xg prog 103 (.slice (some ⟨B, 0, some 0⟩) m C) none (some (Zd (k : Nat))) none K := fun K hK => by
      simp only [Xg, el_103, esz_47, bnd]
      exact ⟨by omega, by omega, by omega, fun h0 => by simp at h0, fun _ => .inl ⟨rfl, by simpa using hK⟩⟩
    refine Zn fun Y hY => ?_
    refine Ze fun N45 hN45 => ?_
    simp (maxSteps := 2000000) only [↓Za, ↓Zb, ↓Zc, vup, List.map_cons, List.map_nil, cond_true, cond_false, aop, Zg, ev, sput, Zf, Zl, Nat.reduceBEq, tyf, Option.map_some, Option.map_none]
    refine hsl _ ?_
    simp (maxSteps := 2000000) only [lenK]
    refine hN45 [(0, .slice (some ⟨B, 0, some 0⟩) m C), (1, Zd (k : Nat)), (4, .slice none 0 0), (5, .bool false), (6, Zd (k : Nat)), (20, .bool false), (149, .bool false), (161, .slice (some ⟨B, 0, some 0⟩) k C), (162, Zd (k : Nat)), (163, .int .i64 0)] _ _ ?_ (by simp (maxSteps := 2000000) only [vup, cond_true, cond_false, Nat.reduceBEq])
    clear hN45
    try clear N45
    refine Zp ?_
    refine Ya fun Qa hQa => ?_
    refine Xb (γ := Nat × Value × Zh) (fun s => s.1 ≤ k ∧ OwnP 26 s.2.2 s.2.1 ((List.range s.1).map fun i => ofQ (T i k)) ∧ Ext (fun _ => False) hp s.2.2 ∧ ∀ b, Ym s.2.1 = some b → hp.length ≤ b)
      (fun s => ([(0, .slice (some ⟨B, 0, some 0⟩) m C), (1, Zd (k : Nat)), (4, s.2.1), (5, .bool false), (6, Zd (k : Nat)), (20, .bool false), (149, .bool false), (161, .slice (some ⟨B, 0, some 0⟩) k C), (162, Zd (k : Nat)), (163, Zd (s.1 : Nat))], s.2.2)) (fun s => k - s.1) (0, .slice none 0 0, hp) ⟨Nat.zero_le _, .inl ⟨rfl, rfl⟩, Ext.refl _ _, fun b hb => by cases hb⟩ (by simp (maxSteps := 2000000) only [vup, cond_true, cond_false, Nat.reduceBEq, Int.natCast_zero]) rfl ?_
    rintro ⟨r, x, G⟩ ⟨hr, ho, hEG, hbx⟩
    simp only at hr ho hEG hbx
    refine Ya fun Qb hQb => ?_
    simp only [l87_5]
    by_cases hrin : (r : Int) < (k : Int)
    · have hr' : r < k := by omega
      have MG := M.ext hEG
      refine Ze fun N46 hN46 => ?_
      simp (maxSteps := 2000000) only [↓Za, ↓Zb, ↓Zc, vup, cond_true, cond_false, aop, Zg, ev, sput, Zf, Yi, Yo, Nat.reduceBEq, hrin]
      refine hN46 [(0, .slice (some ⟨B, 0, some 0⟩) m C), (1, Zd (k : Nat)), (4, x), (5, .bool false), (6, Zd (k : Nat)), (20, .bool false), (149, .bool false), (161, .slice (some ⟨B, 0, some 0⟩) k C), (162, Zd (k : Nat)), (163, Zd (r : Nat)), (164, .bool true)] _ _ ?_ (by simp (maxSteps := 2000000) only [vup, cond_true, cond_false, Nat.reduceBEq])
      clear hN46
      try clear N46
      refine Ze fun N47 hN47 => ?_
      simp (maxSteps := 2000000) only [↓Zw, ↓vdn, vup, cond_true, cond_false, Zg, ev, Nat.reduceBEq]
      refine hN47 [(0, .slice (some ⟨B, 0, some 0⟩) m C), (1, Zd (k : Nat)), (4, x), (5, .bool false), (6, Zd (k : Nat)), (20, .bool false), (149, .bool false), (161, .slice (some ⟨B, 0, some 0⟩) k C), (162, Zd (k : Nat)), (163, Zd (r : Nat))] _ _ ?_ (by simp (maxSteps := 2000000) only [vup, cond_true, cond_false, Nat.reduceBEq])
      clear hN47
      try clear N47
      refine Zn fun W hW => ?_
      refine Zp ?_
      refine Ze fun N48 hN48 => ?_
      simp (maxSteps := 2000000) only [↓Za, ↓Zb, ↓Zc, vup, cond_true, cond_false, aop, Zg, ev, sput, Zf, Nat.reduceBEq, Mat.idx r hr', MG.loadRow (show r < m by omega)]
      refine hN48 [(0, .slice (some ⟨B, 0, some 0⟩) m C), (1, Zd (k : Nat)), (4, x), (5, .bool false), (6, Zd (k : Nat)), (17, w r), (20, .bool false), (149, .bool false), (161, .slice (some ⟨B, 0, some 0⟩) k C), (162, Zd (k : Nat)), (163, Zd (r : Nat))] _ _ ?_ (by simp (maxSteps := 2000000) only [vup, cond_true, cond_false, Nat.reduceBEq])
      clear hN48
      try clear N48
      refine Zi ?_
      simp (maxSteps := 2000000) only [↓Za, ↓Zb, ↓Zc, vup, List.map_cons, List.map_nil, cond_true, cond_false, aop, Zg, Zs, ev, sput, Zf, Zl, Nat.reduceBEq, MG.idxR (show r < m by omega) (Nat.le_refl k), MG.loadE (show r < m by omega) (Nat.le_refl k), qV, frV, litF]
      refine OwnP.append (x := (T r k).num) (y := (T r k).den) (ho.ext (Ext.app _ _ _)) app_47_47 (by simp; omega) (Zz _ _) ?_
      intro x' G' ho' hE' hb'
      have hnx : ((List.range r).map fun i => ofQ (T i k)) ++ [((T r k).num, ((T r k).den : Int))] = (List.range (r + 1)).map fun i => ofQ (T i k) := by
        rw [List.range_succ, List.map_append]; rfl
      rw [hnx] at ho'
      refine hW [(0, .slice (some ⟨B, 0, some 0⟩) m C), (1, Zd (k : Nat)), (4, x'), (5, .bool false), (6, Zd (k : Nat)), (20, .bool false), (149, .bool false), (161, .slice (some ⟨B, 0, some 0⟩) k C), (162, Zd (k : Nat)), (163, Zd (r : Nat))] _ _ ?_ (by simp (maxSteps := 2000000) only [vup, cond_true, cond_false, Nat.reduceBEq])
      clear hW
      try clear W
      refine Zi ?_
      simp (maxSteps := 2000000) only [↓Za, ↓Zb, ↓Zc, vup, cond_true, cond_false, aop, ev, sput, Zf, Yi, Yo, Nat.reduceBEq, add1 (show r < 9223372036854775807 by omega)]
      refine hQb _ _ _ ⟨(r + 1, x', G'), ⟨hr', ho', ?_, fun b hb0 => ?_⟩, by simp only; omega, by simp (maxSteps := 2000000) only [vup, cond_true, cond_false, Nat.reduceBEq], rfl⟩
      · have hl' := hE'.1
        have l1 := hEG.1
        rw [List.length_append, List.length_singleton] at hl'
        refine ⟨by simp only; omega, fun q hq _ => ?_⟩
        simp only
        rw [hE'.2 q (by rw [List.length_append]; omega) (fun hb0 => by have := hbx q hb0; omega), List.getElem?_append_left (by omega)]
        exact hEG.2 q hq id
      · simp only at hb0
        rcases hb' with hb' | ⟨b', hb1, hb2⟩
        · exact hbx b (hb' ▸ hb0)
        · rw [hb1] at hb0; cases hb0
          rw [List.length_append] at hb2
          have := hEG.1; omega
    have hrk : k = r := by omega
    subst hrk
    refine Ze fun N49 hN49 => ?_
    simp (maxSteps := 2000000) only [↓Za, ↓Zb, ↓Zc, vup, cond_true, cond_false, aop, Zg, ev, sput, Zf, Yi, Yo, Nat.reduceBEq, hrin]
    refine hN49 [(0, .slice (some ⟨B, 0, some 0⟩) m C), (1, Zd (k : Nat)), (4, x), (5, .bool false), (6, Zd (k : Nat)), (20, .bool false), (149, .bool false), (161, .slice (some ⟨B, 0, some 0⟩) k C), (162, Zd (k : Nat)), (163, Zd (k : Nat)), (164, .bool false)] _ _ ?_ (by simp (maxSteps := 2000000) only [vup, cond_true, cond_false, Nat.reduceBEq])
    clear hN49
    try clear N49
    refine Ze fun N50 hN50 => ?_
    simp (maxSteps := 2000000) only [↓Xh, ↓vdn, vup, cond_true, cond_false, Zg, ev, Nat.reduceBEq]
    refine hQb _ _ _ (hQa _ _ _ ?_)
    simp (maxSteps := 2000000) only [Zg, Zs, Zv, if_true]
    refine hY [(0, .slice (some ⟨B, 0, some 0⟩) m C), (1, Zd (k : Nat)), (4, x), (5, .bool false), (6, Zd (k : Nat)), (20, .bool false), (149, .bool false), (164, .bool false)] _ _ ?_ (by simp (maxSteps := 2000000) only [vup, cond_true, cond_false, Nat.reduceBEq])
    clear hY
    try clear Y
    refine Zi ?_
    simp (maxSteps := 2000000) only [↓Za, ↓Zt, ↓Zy, ↓Zb, ↓Zc, vup, cond_true, cond_false, aop, Zg, ev, sput, Zf, Nat.reduceBEq, Zv, Xw, tup]
    refine ⟨hE.trans (hEG.mono fun b hb => hb.elim), x, true, rfl, ?_⟩
    rw [hsol]
    refine ⟨rfl, ?_, fun b hb => by have := hbx b hb; omega⟩
    rw [List.map_map]; exact ho
end Go.Proofs.Try.Am

namespace Go.Proofs.Try.Am
open Go.Am Bq
set_option maxRecDepth 100000
set_option maxHeartbeats 4000000

theorem rowC_sum {n : Nat} {l : List (Int × Int)} {ws : List Nat} : rowC (sysB n l ws) ws.length 0 = rowL (2 ^ n - 1) ws 1 := by
  apply List.ext_getElem?
  intro c
  simp only [rowC, rowL, List.getElem?_map, List.getElem?_append, List.length_map]
  by_cases h : c < ws.length
  · simp [h, show c < ws.length + 1 by omega, sysB, List.getD]
  · rw [if_neg h]
    by_cases h2 : c = ws.length
    · subst h2; simp [sysB]
    · rw [List.getElem?_eq_none (by simp; omega), List.getElem?_eq_none (by simp; omega)]; rfl
theorem rowC_bet {n : Nat} {l : List (Int × Int)} {ws : List Nat} (i : Nat) : rowC (sysB n l ws) ws.length (i + 1) = rowL (l.getD i (0, 0)).1.toNat ws (Rat.divInt (l.getD i (0, 0)).2 12) := by
  apply List.ext_getElem?
  intro c
  simp only [rowC, rowL, List.getElem?_map, List.getElem?_append, List.length_map]
  by_cases h : c < ws.length
  · simp [h, show c < ws.length + 1 by omega, sysB, List.getD]
  · rw [if_neg h]
    by_cases h2 : c = ws.length
    · subst h2; simp [sysB]
    · rw [List.getElem?_eq_none (by simp; omega), List.getElem?_eq_none (by simp; omega)]; rfl

/-- A slice of slices that was written down, or grew. -/
def QSl (e : TypeId) (h : Zh) (v : Value) (ws : List Value) : Prop := (∃ b, v = .slice (some ⟨b, 0, none⟩) ws.length ws.length ∧ h[b]? = some (.cells ws e false)) ∨ OwnV e h v ws
theorem QSl.app [Tabs prog] {e t : TypeId} {h : Zh} {v r : Value} {ws : List Value} {b2 : Nat} (ho : QSl e h v ws) (hne : ws ≠ []) (hT : appT prog t t = some (e, 1, 24)) (hb2 : h[b2]? = some (.cells [r] e false)) (hw : ∀ w ∈ ws ++ [r], notI w = true ∧ one w = true) (hn : ws.length ≤ 1000)
    {K : Value → Zh → Prop} (hk : ∀ v' h', OwnV e h' v' (ws ++ [r]) → Ext (fun i => Ym v = some i) h h' → (Ym v' = Ym v ∨ ∃ b, Ym v' = some b ∧ h.length ≤ b) → K v' h') :
    Yy prog h t t v (.slice (some ⟨b2, 0, none⟩) 1 1) K := by
  rcases ho with ⟨b, rfl, hb⟩ | ho
  · simp only [Yy, hT, Vy, putK, Xm, hb2, hb]
    refine ⟨fun h0 => absurd h0 (by decide), fun _ => ⟨by simp, fun h0 => by omega, fun _ => ⟨by omega, by simp, ?_⟩⟩⟩
    have e1 : (([r] : List Value).drop 0).take (1 * 1) = [r] := rfl
    have e2 : (ws.drop 0).take (ws.length * 1) = ws := by simp
    rw [e1, e2, mkb_no (by simp) (fun w hw' => (hw w hw').1)]
    refine hk _ _ (.inr ⟨h.length, [], by simp, by simp, by rw [List.append_nil]; exact Zz _ _⟩) (Ext.app _ _ _) (.inr ⟨_, rfl, Nat.le_refl _⟩)
  · exact ho.app hT (us := [r]) (.inr ⟨b2, 0, none, 1, [r], e, false, rfl, Nat.le_refl _, by simp [view, hb2, Blk.view], rfl⟩) hw (by simp; omega) hk

theorem litV [Tabs prog] {h : Zh} {t e : TypeId} {p : Option Addr} {n c : Nat} (he : elemOf' prog t = some e) (hz : Wf prog e = some [.slice none 0 0]) (hs : esz prog e = some 1) {K : Value → Zh → Prop} :
    Yq prog h t 1 [(0, .slice p n c)] K = K (.slice (some ⟨h.length, 0, none⟩) 1 1) (h ++ [.cells [.slice p n c] e false]) := by
  simp only [Yq, he, hz, hs, reps, fillL, mkb, Wy, cellsOf, List.length_cons, List.length_nil, Nat.zero_add, Nat.zero_mul, Yg]
  refine propext ⟨fun h => ?_, fun h => ⟨trivial, by decide, by decide, ?_⟩⟩
  · simpa [Xa] using h.2.2.2
  · simpa [Xa] using h
/-- A belief as it lies there; some of them. -/
def BelAt (h : Zh) (w : Value) (b : List Rat) : Prop := ∃ bl, w = .slice (some ⟨bl, 0, none⟩) b.length b.length ∧ h[bl]? = some (.cells ((Yb (b.map ofQ)).map Zd) 26 false)
def CornSl (h : Zh) (v : Value) (cs : List (List Rat)) : Prop := ∃ ws, OwnV 90 h v ws ∧ Each (BelAt h) ws cs
theorem CornSl.ext {h h' : Zh} {v : Value} {cs : List (List Rat)} (c : CornSl h v cs) (hE : Ext (fun _ => False) h h') : CornSl h' v cs := by
  obtain ⟨ws, h1, h2⟩ := c
  exact ⟨ws, h1.ext hE, h2.imp fun w b ⟨bl, g1, g2⟩ => ⟨bl, g1, (hE.2 _ (Yl g2) id).trans g2⟩⟩
theorem Vh {n : Nat} {l : List (Int × Int)} (h : Yx n l = true) : 2 ≤ n ∧ n ≤ 5 ∧ 1 ≤ l.length ∧ l.length ≤ 6 ∧ ∀ i, i < l.length → okB n (l.getD i (0, 0)) = true := by
  simp only [Yx, Bool.and_eq_true, decide_eq_true_eq, Int.toNat_natCast] at h
  obtain ⟨h1, h2, h3, h4, h5⟩ := h
  refine ⟨by omega, by omega, h3, h4, fun i hi => ?_⟩
  rw [Vk, List.all_eq_true] at h5
  have := h5 i (List.mem_range.2 hi)
  rw [Bool.and_eq_true] at this
  exact this.1
/-- The block of a row. -/
def bkOf (v : Value) : Nat := (Ym v).getD 0
/-- Equations as they grow. -/
structure Rows (hp0 : Nat) (G : Zh) (q : Value) (ws : List Value) (k : Nat) (T : Xx) : Prop where
  sl : QSl 47 G q ws
  ne : ws ≠ []
  row : ∀ i, i < ws.length → OwnP 26 G (ws.getD i undef) (rowC T k i)
  inj : ∀ i j, i < ws.length → j < ws.length → Ym (ws.getD i undef) = Ym (ws.getD j undef) → i = j
  sep : ∀ i, i < ws.length → Ym (ws.getD i undef) ≠ Ym q
  old : (∀ b, Ym q = some b → hp0 ≤ b) ∧ ∀ i b, i < ws.length → Ym (ws.getD i undef) = some b → hp0 ≤ b
theorem Wg {e : TypeId} {h : Zh} {v : Value} {ps : List (Int × Int)} (ho : OwnP e h v ps) (hne : ps ≠ []) : ∃ b ys, v = .slice (some ⟨b, 0, some 0⟩) ps.length (ps.length + ys.length) ∧ h[b]? = some (.ints (Yb ps ++ Yb ys) e false) := by
  rcases ho with ⟨_, h1⟩ | ⟨b, ys, h1, h2⟩
  · exact absurd h1 hne
  · exact ⟨b, ys, h1, h2⟩
theorem rowC_ne {T : Xx} {k i : Nat} : rowC T k i ≠ [] := by
  intro h
  have := rowC_len T k i
  rw [h] at this; simp at this
theorem QSl.blk {e : TypeId} {h : Zh} {v : Value} {ws : List Value} (hq : QSl e h v ws) (hne : ws ≠ []) : ∃ b c, Ym v = some b ∧ h[b]? = some (.cells c e false) ∧ b < h.length := by
  rcases hq with ⟨b, rfl, hb⟩ | ho
  · exact ⟨b, ws, rfl, hb, Yl hb⟩
  · rcases ho with ⟨_, h1⟩ | ⟨b, ys, rfl, _, hb⟩
    · exact absurd h1 hne
    · exact ⟨b, _, rfl, hb, Yl hb⟩
theorem Rows.ext {hp0 : Nat} {G G' : Zh} {q : Value} {ws : List Value} {k : Nat} {T : Xx} (R : Rows hp0 G q ws k T) (hE : Ext (fun _ => False) G G') : Rows hp0 G' q ws k T where
  sl := by
    rcases R.sl with ⟨b, h1, h2⟩ | ho
    · exact .inl ⟨b, h1, (hE.2 _ (Yl h2) id).trans h2⟩
    · exact .inr (ho.ext hE)
  ne := R.ne
  row i hi := (R.row i hi).ext hE
  inj := R.inj
  sep := R.sep
  old := R.old
/-- One row more. -/
theorem Rows.more [Tabs prog] {hp0 : Nat} {G G2 : Zh} {q rv : Value} {ws : List Value} {k b2 : Nat} {T : Xx} (R : Rows hp0 G q ws k T) (hl : ws.length ≤ 1000) (h0 : hp0 ≤ G.length) (hE : Ext (fun _ => False) G G2) (hr : OwnP 26 G2 rv (rowC T k ws.length)) (hrb : ∀ b, Ym rv = some b → G.length ≤ b) (hb2 : G2[b2]? = some (.cells [rv] 47 false))
    {K : Value → Zh → Prop} (hk : ∀ q' h', OwnV 47 h' q' (ws ++ [rv]) → Rows hp0 h' q' (ws ++ [rv]) k T → Ext (fun b => hp0 ≤ b) G2 h' → Ext (fun i => Ym q = some i) G2 h' → K q' h') : Yy prog G2 103 103 q (.slice (some ⟨b2, 0, none⟩) 1 1) K := by
  have R2 := R.ext hE
  obtain ⟨bq, cq, hbq, hq1, hq2⟩ := R.sl.blk R.ne
  obtain ⟨br, yr, hr1, hr2⟩ := Wg hr rowC_ne
  have hbr : Ym rv = some br := by rw [hr1]; rfl
  have hbrl := hrb br hbr
  have hw : ∀ w ∈ ws ++ [rv], notI w = true ∧ one w = true := fun w hw => by
    rcases List.mem_append.1 hw with h1 | h1
    · obtain ⟨i, hi, rfl⟩ := List.mem_iff_getElem.1 h1
      obtain ⟨b, ys, e1, _⟩ := Wg (R.row i hi) rowC_ne
      rw [List.getD, List.getElem?_eq_getElem hi, Option.getD_some] at e1
      rw [e1]; exact ⟨rfl, rfl⟩
    · rw [List.mem_singleton.1 h1, hr1]; exact ⟨rfl, rfl⟩
  refine R2.sl.app R.ne app_103_103 hb2 hw hl fun q' h' ho hE' hb' => ?_
  have rowb : ∀ i, i < ws.length → ∃ b, Ym (ws.getD i undef) = some b ∧ b < G.length := fun i hi => by
    obtain ⟨b, ys, e1, e2⟩ := Wg (R.row i hi) rowC_ne
    exact ⟨b, by rw [e1]; rfl, Yl e2⟩
  have g1 : ∀ i, i < ws.length → (ws ++ [rv]).getD i undef = ws.getD i undef := fun i hi => by
    rw [List.getD, List.getElem?_append_left hi]; rfl
  have g2 : (ws ++ [rv]).getD ws.length undef = rv := by simp [List.getD]
  have hq'b : ∀ b, Ym q' = some b → b = bq ∨ G2.length ≤ b := fun b hb => by
    rcases hb' with h1 | ⟨b', h1, h2⟩
    · rw [h1, hbq] at hb; cases hb; exact .inl rfl
    · rw [h1] at hb; cases hb; exact .inr h2
  have keep : ∀ b, b ≠ bq → b < G2.length → h'[b]? = G2[b]? := fun b hb hl => hE'.2 b hl fun hc => hb (by rw [hbq] at hc; cases hc; rfl)
  refine hk q' h' ho ⟨.inr ho, by simp, fun i hi => ?_, fun i j hi hj he => ?_, fun i hi => ?_, ⟨fun b hb => ?_, fun i b hi hb => ?_⟩⟩ (hE'.mono fun b hb => R.old.1 b hb) hE'
  · rw [List.length_append, List.length_singleton] at hi
    rcases Nat.lt_or_ge i ws.length with h1 | h1
    · rw [g1 i h1]
      refine (R2.row i h1).same fun b hb => ?_
      obtain ⟨b', e1, e2⟩ := rowb i h1
      rw [e1] at hb; cases hb
      exact keep _ (fun hc => R.sep i h1 (by rw [e1, hbq, hc])) (by have := hE.1; omega)
    · rw [show i = ws.length by omega, g2]
      refine hr.same fun b hb => ?_
      rw [hbr] at hb; cases hb
      exact keep _ (by omega) (Yl hr2)
  · rw [List.length_append, List.length_singleton] at hi hj
    rcases Nat.lt_or_ge i ws.length with h1 | h1 <;> rcases Nat.lt_or_ge j ws.length with h2 | h2
    · rw [g1 i h1, g1 j h2] at he; exact R.inj i j h1 h2 he
    · rw [g1 i h1, show j = ws.length by omega, g2, hbr] at he
      obtain ⟨b', e1, e2⟩ := rowb i h1
      rw [e1] at he; cases he; omega
    · rw [g1 j h2, show i = ws.length by omega, g2, hbr] at he
      obtain ⟨b', e1, e2⟩ := rowb j h2
      rw [e1] at he; cases he; omega
    · omega
  · rw [List.length_append, List.length_singleton] at hi
    intro hc
    rcases Nat.lt_or_ge i ws.length with h1 | h1
    · rw [g1 i h1] at hc
      obtain ⟨b', e1, e2⟩ := rowb i h1
      rw [e1] at hc
      rcases hq'b b' hc.symm with h3 | h3
      · exact R.sep i h1 (by rw [e1, hbq, h3])
      · have := hE.1; omega
    · rw [show i = ws.length by omega, g2, hbr] at hc
      rcases hq'b br hc.symm with h3 | h3
      · omega
      · have := Yl hr2; omega
  · rcases hq'b b hb with h3 | h3
    · rw [h3]; exact R.old.1 _ hbq
    · have := hE.1; omega
  · rw [List.length_append, List.length_singleton] at hi
    rcases Nat.lt_or_ge i ws.length with h1 | h1
    · rw [g1 i h1] at hb; exact R.old.2 i b h1 hb
    · rw [show i = ws.length by omega, g2] at hb
      have := hrb b hb; omega
/-- Equations ready to be solved. -/
theorem Rows.mat {hp0 : Nat} {G : Zh} {q : Value} {ws : List Value} {k : Nat} {T : Xx} (R : Rows hp0 G q ws k T) (ho : OwnV 47 G q ws) : ∃ B C, q = .slice (some ⟨B, 0, some 0⟩) ws.length C ∧ ws.length ≤ C ∧ hp0 ≤ B ∧ Mat G B ws.length k (fun i => ws.getD i undef) (fun i => bkOf (ws.getD i undef)) T ∧ ∀ i, i < ws.length → hp0 ≤ bkOf (ws.getD i undef) := by
  rcases ho with ⟨_, h1⟩ | ⟨B, us, hq, _, hb⟩
  · exact absurd h1 R.ne
  · have hqb : Ym q = some B := by rw [hq]; rfl
    have rowb : ∀ i, i < ws.length → ∃ b ys, ws.getD i undef = .slice (some ⟨b, 0, some 0⟩) (k + 1) (k + 1 + ys.length) ∧ G[b]? = some (.ints (Yb (rowC T k i) ++ Yb ys) 26 false) := fun i hi => by
      obtain ⟨b, ys, e1, e2⟩ := Wg (R.row i hi) rowC_ne
      rw [rowC_len] at e1
      exact ⟨b, ys, e1, e2⟩
    have bk : ∀ i, i < ws.length → Ym (ws.getD i undef) = some (bkOf (ws.getD i undef)) := fun i hi => by
      obtain ⟨b, ys, e1, e2⟩ := rowb i hi
      rw [e1]; rfl
    refine ⟨B, _, hq, by omega, R.old.1 B hqb, ⟨⟨us, ?_⟩, fun i hi => ?_, fun i j hi hj he => ?_, fun i hi hc => ?_⟩, fun i hi => R.old.2 i _ hi (bk i hi)⟩
    · have : (List.range ws.length).map (fun i => ws.getD i undef) = ws := by
        apply List.ext_getElem (by simp)
        intro i h1 h2
        simp [List.getD, h2]
      rw [this]; exact hb
    · obtain ⟨b, ys, e1, e2⟩ := rowb i hi
      refine ⟨k + 1 + ys.length, Yb ys, e1.trans ?_, by omega, ?_⟩
      · rw [bkOf, e1]; rfl
      · rw [bkOf, e1]; exact e2
    · exact R.inj i j hi hj (by rw [bk i hi, bk j hj, he])
    · exact R.sep i hi (by rw [bk i hi, hqb, hc])
end Go.Proofs.Try.Am

namespace Go.Proofs.Try.Am
open Go.Am Bq
set_option maxRecDepth 100000
set_option maxHeartbeats 4000000

theorem loopEnd {a b : Nat} (h1 : ¬ (a : Int) < b) (h2 : a ≤ b) : b = a := by omega
theorem castI_snoc (L : List Nat) (k : Nat) : castI (L ++ [k]) = castI L ++ [(k : Int)] := by simp [castI]

theorem s60_callW [Tabs Try.prog] {args : List Value} {h : Zh} {Q : Value → Zh → Prop} (hsz : args.length ≤ 103) (hk : AWS Try.prog 103 s60 (Zv Try.prog [.tmp 2] Q) (Zo 0 args) h) : ACall Try.prog 60 args h Q :=
  Yr Try.func60 rfl (enters_of Try.func60 (by kernel_rfl) rfl) rfl rfl (by decide) s60_strip s60_ok hsz hk
theorem corners_call [Tabs prog] {h : Zh} {n : Nat} {v : Value} {l : List (Int × Int)} (hv : PairSl h v l) (hval : Yx n l = true) (htame : TameAll n l) :
    ACall prog 60 [.agg #[Zd (n : Nat), v]] h fun r h' => Ext (fun _ => False) h h' ∧ CornSl h' r (Ye n l) ∧ ∀ b, Ym r = some b → h.length ≤ b := by
  obtain ⟨hn2, hn5, hl1, hl6, hok⟩ := Vh hval
  have hpn : (2 : Nat) ^ n ≤ 2 ^ 5 := Nat.pow_le_pow_right (by decide) hn5
  have hp32 : (2 : Nat) ^ n ≤ 32 := hpn
  have hpp := Nat.two_pow_pos n
  have hsh : shlV .i64 1 (n : Int) = ((2 ^ n : Nat) : Int) := by rw [shl1 (by omega), pow_cast]
  have hsub : subV .i64 ((2 ^ n : Nat) : Int) 1 = ((2 ^ n - 1 : Nat) : Int) := by rw [subN (by omega)]; omega
  obtain ⟨H, hH⟩ : ∃ H, H = h ++ [Blk.cells [Zd (n : Nat), v] 86 false] := ⟨_, rfl⟩
  have hE : Ext (fun _ => False) h H := by rw [hH]; exact Ext.app _ _ _
  have t1 : H[h.length]? = some (.cells [Zd (n : Nat), v] 86 false) := by rw [hH]; exact Zz _ _
  refine s60_callW (by simp) ?_
  simp only [s60]
  refine Ze fun N1 hN1 => ?_
  simp (maxSteps := 2000000) only [↓Za, ↓Zb, ↓Zc, vup, cond_true, cond_false, aop, Zg, Zo, ev, sput, Zf, Nat.reduceBEq, boxT, Yn]
  rw [← hH]
  refine hN1 [(1, .pointer (some ⟨h.length, 0, none⟩)), (2, .slice none 0 0)] _ _ ?_ (by simp (maxSteps := 2000000) only [vup, cond_true, cond_false, Nat.reduceBEq])
  clear hN1
  try clear N1
  refine Ze fun N2 hN2 => ?_
  simp (maxSteps := 2000000) only [↓Za, ↓Zb, ↓Zc, vup, cond_false, aop, Zg, ev, sput, Zf, Nat.reduceBEq]
  refine hN2 [(1, .pointer (some ⟨h.length, 0, none⟩)), (2, .slice none 0 0), (3, .slice none 0 0)] _ _ ?_ (by simp (maxSteps := 2000000) only [vup, cond_true, cond_false, Nat.reduceBEq])
  clear hN2
  try clear N2
  refine Zn fun Z hZ => ?_
  refine Ze fun N3 hN3 => ?_
  simp (maxSteps := 2000000) only [↓Za, ↓Zb, ↓Zc, vup, cond_false, aop, Zg, ev, sput, Zf, Nat.reduceBEq]
  refine hN3 [(1, .pointer (some ⟨h.length, 0, none⟩)), (2, .slice none 0 0), (3, .slice none 0 0), (4, .int .i64 1)] _ _ ?_ (by simp (maxSteps := 2000000) only [vup, cond_true, cond_false, Nat.reduceBEq])
  clear hN3
  try clear N3
  refine Zp ?_
  refine Ya fun Q hQ => ?_
  refine Xb (γ := Nat × Value × Zh) (fun s => 1 ≤ s.1 ∧ s.1 ≤ 2 ^ n ∧ CornSl s.2.2 s.2.1 (Wp n l (s.1 - 1)) ∧ Ext (fun _ => False) H s.2.2 ∧ ∀ b, Ym s.2.1 = some b → H.length ≤ b)
    (fun s => ([(1, .pointer (some ⟨h.length, 0, none⟩)), (2, .slice none 0 0), (3, s.2.1), (4, Zd (s.1 : Nat))], s.2.2)) (fun s => 2 ^ n - s.1) (1, .slice none 0 0, H) ⟨Nat.le_refl _, hpp, ⟨[], .inl ⟨rfl, rfl⟩, trivial⟩, Ext.refl _ _, fun b hb => by cases hb⟩ (by simp (maxSteps := 2000000) only [vup, cond_true, cond_false, Nat.reduceBEq, Int.natCast_one]) rfl ?_
  rintro ⟨s, out, hp⟩ ⟨hs1, hs, hcs, hEp, hbo⟩
  simp only at hs1 hs hcs hEp hbo
  refine Ya fun Q2 hQ2 => ?_
  simp only [l60_3]
  have t1p : hp[h.length]? = some (.cells [Zd (n : Nat), v] 86 false) := (hEp.2 _ (Yl t1) id).trans t1
  have hHl : h.length < H.length := Yl t1
  by_cases hin : (s : Int) < ((2 ^ n : Nat) : Int)
  · have hs' : s < 2 ^ n := by omega
    refine Ze fun N4 hN4 => ?_
    simp (maxSteps := 2000000) only [↓Za, ↓Zw, ↓Zt, ↓Zb, ↓Zc, ↓vdn, vup, cond_true, cond_false, aop, Zg, ev, sput, Zf, Yi, Yo, Nat.reduceBEq, tyf, tA0, Vw t1p, Int.natCast_nonneg, hsh, hin]
    refine hN4 [(1, .pointer (some ⟨h.length, 0, none⟩)), (2, .slice none 0 0), (3, out), (4, Zd (s : Nat))] _ _ ?_ (by simp (maxSteps := 2000000) only [vup, cond_true, cond_false, Nat.reduceBEq])
    clear hN4
    try clear N4
    refine Zn fun Y hY => ?_
    refine Zp ?_
    -- the worlds' box
    obtain ⟨H1, hH1⟩ : ∃ H1, H1 = hp ++ [Blk.cells [.slice none 0 0] 38 false] := ⟨_, rfl⟩
    have b5 : H1[hp.length]? = some (.cells [.slice none 0 0] 38 false) := by rw [hH1]; exact Zz _ _
    have hE1 : Ext (fun _ => False) hp H1 := by rw [hH1]; exact Ext.app _ _ _
    have hH1l : H1.length = hp.length + 1 := by rw [hH1]; simp
    refine Ze fun N5 hN5 => ?_
    simp (maxSteps := 2000000) only [↓Za, ↓Zb, ↓Zc, vup, cond_false, aop, Zg, sput, Zf, Nat.reduceBEq, tyf, Xl, Yn]
    rw [← hH1]
    refine hN5 [(1, .pointer (some ⟨h.length, 0, none⟩)), (2, .slice none 0 0), (3, out), (4, Zd (s : Nat)), (5, .pointer (some ⟨hp.length, 0, none⟩))] _ _ ?_ (by simp (maxSteps := 2000000) only [vup, cond_true, cond_false, Nat.reduceBEq])
    clear hN5
    try clear N5
    -- the worlds
    refine Zn fun X hX => ?_
    refine Ze fun N6 hN6 => ?_
    simp (maxSteps := 2000000) only [↓Za, ↓Zb, ↓Zc, vup, cond_true, cond_false, aop, Zg, ev, sput, Zf, Nat.reduceBEq, tA0, Vw ((hE1.2 _ (Yl t1p) id).trans t1p)]
    refine hN6 [(1, .pointer (some ⟨h.length, 0, none⟩)), (2, .slice none 0 0), (3, out), (4, Zd (s : Nat)), (5, .pointer (some ⟨hp.length, 0, none⟩)), (24, Zd (n : Nat)), (25, .int .i64 0)] _ _ ?_ (by simp (maxSteps := 2000000) only [vup, cond_true, cond_false, Nat.reduceBEq])
    clear hN6
    try clear N6
    refine Zp ?_
    refine Ya fun Qa hQa => ?_
    refine Xb (γ := Nat × Value × Zh) (fun g => g.1 ≤ n ∧ g.2.2[hp.length]? = some (.cells [g.2.1] 38 false) ∧ OwnSl 3 g.2.2 g.2.1 (castI (Yf s g.1)) ∧ Ext (fun _ => False) hp g.2.2 ∧ (∀ b, Ym g.2.1 = some b → hp.length < b))
      (fun g => ([(1, .pointer (some ⟨h.length, 0, none⟩)), (2, .slice none 0 0), (3, out), (4, Zd (s : Nat)), (5, .pointer (some ⟨hp.length, 0, none⟩)), (24, Zd (n : Nat)), (25, Zd (g.1 : Nat))], g.2.2)) (fun g => n - g.1) (0, .slice none 0 0, H1) ⟨Nat.zero_le _, b5, .inl ⟨rfl, rfl⟩, hE1, fun b hb => by cases hb⟩ (by simp (maxSteps := 2000000) only [vup, cond_true, cond_false, Nat.reduceBEq, Int.natCast_zero]) rfl ?_
    rintro ⟨k, wv, G⟩ ⟨hk, g5, how, hEG, hbw⟩
    simp only at hk g5 how hEG hbw
    refine Ya fun Qb hQb => ?_
    simp only [l60_0]
    by_cases hkin : (k : Int) < n
    · have hk' : k < n := by omega
      have ht := testV (y := k) (show s < 9223372036854775808 by omega)
      have hnx := Wm s k
      refine Ze fun N7 hN7 => ?_
      simp (maxSteps := 2000000) only [↓Za, ↓Zb, ↓Zc, vup, cond_true, cond_false, aop, Zg, ev, sput, Zf, Yi, Yo, Nat.reduceBEq, hkin]
      refine hN7 [(1, .pointer (some ⟨h.length, 0, none⟩)), (2, .slice none 0 0), (3, out), (4, Zd (s : Nat)), (5, .pointer (some ⟨hp.length, 0, none⟩)), (24, Zd (n : Nat)), (25, Zd (k : Nat)), (26, .bool true)] _ _ ?_ (by simp (maxSteps := 2000000) only [vup, cond_true, cond_false, Nat.reduceBEq])
      clear hN7
      try clear N7
      refine Ze fun N8 hN8 => ?_
      simp (maxSteps := 2000000) only [↓Zw, ↓vdn, vup, cond_true, cond_false, Zg, ev, Nat.reduceBEq]
      refine hN8 [(1, .pointer (some ⟨h.length, 0, none⟩)), (2, .slice none 0 0), (3, out), (4, Zd (s : Nat)), (5, .pointer (some ⟨hp.length, 0, none⟩)), (24, Zd (n : Nat)), (25, Zd (k : Nat))] _ _ ?_ (by simp (maxSteps := 2000000) only [vup, cond_true, cond_false, Nat.reduceBEq])
      clear hN8
      try clear N8
      refine Zn fun B hB => ?_
      refine Zp ?_
      refine Ze fun N9 hN9 => ?_
      simp (maxSteps := 2000000) only [↓Za, ↓Zb, ↓Zc, vup, cond_true, cond_false, aop, Zg, ev, sput, Zf, Nat.reduceBEq]
      refine hN9 [(1, .pointer (some ⟨h.length, 0, none⟩)), (2, .slice none 0 0), (3, out), (4, Zd (s : Nat)), (5, .pointer (some ⟨hp.length, 0, none⟩)), (6, Zd (k : Nat)), (24, Zd (n : Nat)), (25, Zd (k : Nat))] _ _ ?_ (by simp (maxSteps := 2000000) only [vup, cond_true, cond_false, Nat.reduceBEq])
      clear hN9
      try clear N9
      refine Ze fun N10 hN10 => ?_
      simp (maxSteps := 2000000) only [↓Za, ↓Zb, ↓Zc, vup, cond_true, cond_false, aop, Zg, ev, sput, Zf, Yi, Yo, Nat.reduceBEq, ht, beq1, Int.natCast_nonneg]
      refine hN10 [(1, .pointer (some ⟨h.length, 0, none⟩)), (2, .slice none 0 0), (3, out), (4, Zd (s : Nat)), (5, .pointer (some ⟨hp.length, 0, none⟩)), (6, Zd (k : Nat)), (24, Zd (n : Nat)), (25, Zd (k : Nat)), (32, .bool (s.testBit k))] _ _ ?_ (by simp (maxSteps := 2000000) only [vup, cond_true, cond_false, Nat.reduceBEq])
      clear hN10
      try clear N10
      cases hbit : s.testBit k with
      | false =>
        rw [hbit, if_neg (by decide), List.append_nil] at hnx
        refine Xi rfl ?_
        refine Zi ?_
        simp (maxSteps := 2000000) only [↓Zw, Zg, Zs]
        refine hB [(1, .pointer (some ⟨h.length, 0, none⟩)), (2, .slice none 0 0), (3, out), (4, Zd (s : Nat)), (5, .pointer (some ⟨hp.length, 0, none⟩)), (24, Zd (n : Nat)), (25, Zd (k : Nat))] _ _ ?_ (by simp (maxSteps := 2000000) only [vup, cond_true, cond_false, Nat.reduceBEq])
        clear hB
        try clear B
        refine Zi ?_
        simp (maxSteps := 2000000) only [↓Za, ↓Zb, ↓Zc, vup, cond_true, cond_false, aop, ev, sput, Zf, Yi, Yo, Nat.reduceBEq, add1 (show k < 9223372036854775807 by omega)]
        exact hQb _ _ _ ⟨(k + 1, wv, G), ⟨hk', g5, by simp only; rw [hnx]; exact how, hEG, hbw⟩, by simp only; omega, by simp (maxSteps := 2000000) only [vup, cond_true, cond_false, Nat.reduceBEq], rfl⟩
      | true =>
        rw [hbit, if_pos rfl] at hnx
        refine Wd rfl ?_
        refine Zi ?_
        simp (maxSteps := 2000000) only [↓Za, ↓Zb, ↓Zc, vup, List.map_cons, List.map_nil, cond_true, cond_false, aop, Zg, Zs, ev, sput, Zf, Zl, Nat.reduceBEq, load1 g5 shp_38, litI1]
        have hwl := worldsTo_le s k
        refine OwnSl.append (x := (k : Int)) (how.ext (S := fun _ => False) (Ext.app _ _ _) (fun _ _ => id)) app_38_38 (by rw [castI_len]; omega) (Zz _ _) ?_
        intro wv' G' ho' hE' hb'
        rw [← castI_snoc, ← hnx] at ho'
        have g5' : G'[hp.length]? = some (.cells [wv] 38 false) := by
          rw [hE'.2 _ (by rw [List.length_append]; have := Yl g5; omega) (fun hc => by have := hbw _ hc; omega)]
          exact Xr g5 _
        have hone : one wv' = true := ho'.notI.2
        have hE2 : Ext (fun _ => False) hp G' := ext_app hEG (H' := G ++ [Blk.ints [(k : Int)] 3 false]) (by simp) (fun q hq => List.getElem?_append_left (by have := hEG.1; omega)) (fun b hb => by have := hbw b hb; omega) hE'
        have hbw' : ∀ b, Ym wv' = some b → hp.length < b := fun b hb => by
          rcases hb' with h1 | ⟨b', h1, h2⟩
          · exact hbw b (h1 ▸ hb)
          · rw [h1] at hb; cases hb
            rw [List.length_append] at h2
            have := Yl g5; omega
        simp (maxSteps := 2000000) only [store1 g5' shp_38 hone]
        refine hB [(1, .pointer (some ⟨h.length, 0, none⟩)), (2, .slice none 0 0), (3, out), (4, Zd (s : Nat)), (5, .pointer (some ⟨hp.length, 0, none⟩)), (24, Zd (n : Nat)), (25, Zd (k : Nat))] _ _ ?_ (by simp (maxSteps := 2000000) only [vup, cond_true, cond_false, Nat.reduceBEq])
        clear hB
        try clear B
        refine Zi ?_
        simp (maxSteps := 2000000) only [↓Za, ↓Zb, ↓Zc, vup, cond_true, cond_false, aop, ev, sput, Zf, Yi, Yo, Nat.reduceBEq, add1 (show k < 9223372036854775807 by omega)]
        refine hQb _ _ _ ⟨(k + 1, wv', G'.set hp.length (.cells [wv'] 38 false)), ⟨hk', Wc (Yl g5') _, ?_, hE2.set_ge (Nat.le_refl _) _, hbw'⟩, by simp only; omega, by simp (maxSteps := 2000000) only [vup, cond_true, cond_false, Nat.reduceBEq], rfl⟩
        exact ho'.ext (S := fun b => b = hp.length) (Ext.set _ rfl) (fun b hb hc => by have := hbw' b hb; omega)
    have hkn := loopEnd hkin hk
    subst hkn
    refine Ze fun N11 hN11 => ?_
    simp (maxSteps := 2000000) only [↓Za, ↓Zb, ↓Zc, vup, cond_true, cond_false, aop, Zg, ev, sput, Zf, Yi, Yo, Nat.reduceBEq, hkin]
    refine hN11 [(1, .pointer (some ⟨h.length, 0, none⟩)), (2, .slice none 0 0), (3, out), (4, Zd (s : Nat)), (5, .pointer (some ⟨hp.length, 0, none⟩)), (24, Zd (n : Nat)), (25, Zd (n : Nat)), (26, .bool false)] _ _ ?_ (by simp (maxSteps := 2000000) only [vup, cond_true, cond_false, Nat.reduceBEq])
    clear hN11
    try clear N11
    refine Ze fun N12 hN12 => ?_
    simp (maxSteps := 2000000) only [↓Xh, ↓vdn, vup, cond_true, cond_false, Zg, ev, Nat.reduceBEq]
    refine hQb _ _ _ (hQa _ _ _ ?_)
    simp (maxSteps := 2000000) only [Zg, Zs, if_true]
    refine hX [(1, .pointer (some ⟨h.length, 0, none⟩)), (2, .slice none 0 0), (3, out), (4, Zd (s : Nat)), (5, .pointer (some ⟨hp.length, 0, none⟩)), (26, .bool false)] _ _ ?_ (by simp (maxSteps := 2000000) only [vup, cond_true, cond_false, Nat.reduceBEq])
    clear hX
    try clear X
    obtain ⟨W, hW⟩ : ∃ W, W = Yf s n := ⟨_, rfl⟩
    have hWN : Yk n s = W := hW.symm
    have hWl : W.length ≤ n := by rw [hW]; exact worldsTo_le s n
    have hW1 : 1 ≤ W.length := by rw [← hWN]; exact worldsN_pos hs1 hs'
    have hWlt : ∀ w ∈ W, w < n := fun w hw => (worldsTo_lt (by rw [← hW]; exact hw)).1
    have htm := htame s hs1 hs'
    rw [hWN] at htm
    rw [← hW] at how
    obtain ⟨T, hT⟩ : ∃ T, T = sysB n l W := ⟨_, rfl⟩
    have hcorner : Vi n l s = (Vf (l.length + 1) W.length T).bind fun x => if x.any (fun q => decide (q < 0)) then none else some (Xv n W x W.length) := by rw [Vi, hWN, hT]
    rw [← hT] at htm
    clear hW hQa hQb
    refine Ze fun N13 hN13 => ?_
    simp (maxSteps := 2000000) only [↓Za, ↓Zb, ↓Zc, vup, List.map_cons, List.map_nil, cond_true, cond_false, aop, Zg, ev, sput, Zf, Nat.reduceBEq, List.map_toArray]
    refine hN13 [(1, .pointer (some ⟨h.length, 0, none⟩)), (2, .slice none 0 0), (3, out), (4, Zd (s : Nat)), (5, .pointer (some ⟨hp.length, 0, none⟩)), (7, .func (.func 100) #[] #[.pointer (some ⟨hp.length, 0, none⟩)]), (26, .bool false)] _ _ ?_ (by simp (maxSteps := 2000000) only [vup, cond_true, cond_false, Nat.reduceBEq])
    clear hN13
    try clear N13
    -- the first row
    have hpG : hp.length < G.length := Yl g5
    have t1G : G[h.length]? = some (.cells [Zd (n : Nat), v] 86 false) := (hEG.2 _ (Yl t1p) id).trans t1p
    refine Ze fun N14 hN14 => ?_
    simp only [q60_13]
    refine Xj [(5, 1), (6, 4)] (by kernel_rfl) (by kernel_rfl) (by kernel_rfl) (by kernel_rfl) ?_
    simp (maxSteps := 2000000) only [↓Yh, ↓vdn, vup, List.map_cons, List.map_nil, cond_true, cond_false, aop, Zg, ev, sput, Zf, Yi, Yo, Nat.reduceBEq, Nat.reduceAdd, tyf, tA0, Vw t1G, Int.natCast_nonneg, hsh, hsub, Yt, List.nil_append, List.append_nil, List.cons_append]
    refine ⟨_, _, (show Xc prog 70 [Zd 1] G (qV ((1 : Int) : Rat)) from whole_call), rfl, ?_⟩
    refine (row_call (q := ((1 : Int) : Rat)) g5 how.int (by omega) (show 2 ^ n - 1 < 9223372036854775808 by omega)).mono ?_
    rintro r0 G1 ⟨x1, x2, x3⟩
    have x2' : OwnP 26 G1 r0 (rowC T W.length 0) := by rw [hT, rowC_sum]; exact x2
    obtain ⟨bb, yy, hr0, -⟩ := Wg x2' rowC_ne
    have lit0 : ∀ K : Value → Zh → Prop, Yq prog G1 103 1 [(0, r0)] K = K (.slice (some ⟨G1.length, 0, none⟩) 1 1) (G1 ++ [.cells [r0] 47 false]) := fun K => by rw [hr0]; exact litV el_103 zero_47 esz_47
    simp (maxSteps := 2000000) only [lit0]
    refine hN14 [(1, .pointer (some ⟨h.length, 0, none⟩)), (2, .slice none 0 0), (3, out), (4, Zd (s : Nat)), (5, .pointer (some ⟨hp.length, 0, none⟩)), (7, .func (.func 100) #[] #[.pointer (some ⟨hp.length, 0, none⟩)]), (8, .slice (some ⟨G1.length, 0, none⟩) 1 1), (26, .bool false)] _ _ ?_ (by simp (maxSteps := 2000000) only [vup, cond_true, cond_false, Nat.reduceBEq])
    clear hN14
    try clear N14
    have hbr0 : Ym r0 = some bb := by rw [hr0]; rfl
    have hbb := x3 bb hbr0
    have R0 : Rows hp.length (G1 ++ [.cells [r0] 47 false]) (.slice (some ⟨G1.length, 0, none⟩) 1 1) [r0] W.length T := by
      obtain ⟨b2, y2, e1, e2⟩ := Wg x2' rowC_ne
      have hbl : bb < G1.length := by rw [e1] at hbr0; cases hbr0; exact Yl e2
      refine ⟨.inl ⟨_, rfl, Zz _ _⟩, by simp, fun i hi => ?_, fun i j hi hj _ => ?_, fun i hi hc => ?_, ⟨fun b hb => ?_, fun i b hi hb => ?_⟩⟩
      · obtain rfl : i = 0 := by simpa using hi
        exact x2'.ext (Ext.app _ _ _)
      · simp at hi hj; omega
      · obtain rfl : i = 0 := by simpa using hi
        simp only [List.getD, List.getElem?_cons_zero, Option.getD_some, hbr0] at hc
        cases hc; omega
      · cases hb; have := x1.1; omega
      · obtain rfl : i = 0 := by simpa using hi
        simp only [List.getD, List.getElem?_cons_zero, Option.getD_some, hbr0] at hb
        cases hb; omega
    have how0 : OwnSl 3 (G1 ++ [.cells [r0] 47 false]) wv (castI W) := how.ext (S := fun _ => False) (x1.trans (Ext.app _ _ _)) (fun _ _ => id)
    have g50 : (G1 ++ [Blk.cells [r0] 47 false])[hp.length]? = some (.cells [wv] 38 false) := Xr ((x1.2 _ hpG id).trans g5) _
    have hE0 : Ext (fun _ => False) hp (G1 ++ [.cells [r0] 47 false]) := hEG.trans (x1.trans (Ext.app _ _ _))
    clear x1 x2 x2' x3 lit0 g5 how hEG t1G b5 hE1 hH1 hH1l H1
    have tI : ∀ G : Zh, Ext (fun _ => False) hp G → G[h.length]? = some (.cells [Zd (n : Nat), v] 86 false) ∧ PairSl G v l := fun G hx => ⟨(hx.2 _ (Yl t1p) id).trans t1p, hv.ext (hE.trans (hEp.trans hx))⟩
    -- a row for each bet
    refine Zn fun X hX => ?_
    refine Ze fun N15 hN15 => ?_
    simp (maxSteps := 2000000) only [↓Za, ↓Zb, ↓Zc, vup, List.map_cons, List.map_nil, cond_true, cond_false, aop, Zg, ev, sput, Zf, Zl, Nat.reduceBEq, tyf, tA1, loadT1 (tI _ hE0).1, hv.len]
    refine hN15 [(1, .pointer (some ⟨h.length, 0, none⟩)), (2, .slice none 0 0), (3, out), (4, Zd (s : Nat)), (5, .pointer (some ⟨hp.length, 0, none⟩)), (7, .func (.func 100) #[] #[.pointer (some ⟨hp.length, 0, none⟩)]), (8, .slice (some ⟨G1.length, 0, none⟩) 1 1), (26, .bool false), (48, v), (49, Zd l.length), (50, .int .i64 0)] _ _ ?_ (by simp (maxSteps := 2000000) only [vup, cond_true, cond_false, Nat.reduceBEq])
    clear hN15
    try clear N15
    refine Zp ?_
    refine Ya fun Qa hQa => ?_
    refine Xb (γ := Nat × Value × List Value × Zh) (fun g => g.1 ≤ l.length ∧ g.2.2.1.length = g.1 + 1 ∧ Rows hp.length g.2.2.2 g.2.1 g.2.2.1 W.length T ∧ (1 ≤ g.1 → OwnV 47 g.2.2.2 g.2.1 g.2.2.1) ∧ Ext (fun _ => False) hp g.2.2.2 ∧ g.2.2.2[hp.length]? = some (.cells [wv] 38 false) ∧ OwnSl 3 g.2.2.2 wv (castI W))
      (fun g => ([(1, .pointer (some ⟨h.length, 0, none⟩)), (2, .slice none 0 0), (3, out), (4, Zd (s : Nat)), (5, .pointer (some ⟨hp.length, 0, none⟩)), (7, .func (.func 100) #[] #[.pointer (some ⟨hp.length, 0, none⟩)]), (8, g.2.1), (26, .bool false), (48, v), (49, Zd l.length), (50, Zd (g.1 : Nat))], g.2.2.2)) (fun g => l.length - g.1) (0, .slice (some ⟨G1.length, 0, none⟩) 1 1, [r0], G1 ++ [.cells [r0] 47 false]) ⟨Nat.zero_le _, rfl, R0, fun h0 => absurd h0 (by simp), hE0, g50, how0⟩ (by simp (maxSteps := 2000000) only [vup, cond_true, cond_false, Nat.reduceBEq, Int.natCast_zero]) rfl ?_
    rintro ⟨i, q, ws, G⟩ ⟨hi, hwsl, R, hOwn, hEG, g5, how⟩
    simp only at hi hwsl R hOwn hEG g5 how
    refine Ya fun Qb hQb => ?_
    simp only [l60_1]
    have sepq : Ym q ≠ some hp.length ∧ ∀ b, Ym wv = some b → Ym q ≠ some b := by
      obtain ⟨bq, cq, e1, e2, e3⟩ := R.sl.blk R.ne
      refine ⟨fun hc => ?_, fun b hb hc => ?_⟩
      · rw [e1] at hc; cases hc
        rw [g5] at e2; cases e2
      · rw [e1] at hc; cases hc
        obtain ⟨ys, e4⟩ := how.ints hb
        rw [e4] at e2; cases e2
    by_cases hiin : (i : Int) < l.length
    · have hi' : i < l.length := by omega
      obtain ⟨tG, hvG⟩ := tI G hEG
      obtain ⟨⟨x, y⟩, hxy⟩ : ∃ p, l.getD i (0, 0) = p := ⟨_, rfl⟩
      have hb := hok i hi'
      rw [hxy] at hb
      simp only [okB, Bool.and_eq_true, decide_eq_true_eq] at hb
      obtain ⟨e, he⟩ : ∃ e : Nat, x = e := ⟨x.toNat, by omega⟩
      subst he
      have hee : e < 2 ^ n := by
        have := hb.2.1
        exact_mod_cast this
      refine Ze fun N16 hN16 => ?_
      simp (maxSteps := 2000000) only [↓Za, ↓Zb, ↓Zc, vup, cond_true, cond_false, aop, Zg, ev, sput, Zf, Yi, Yo, Nat.reduceBEq, hiin]
      refine hN16 [(1, .pointer (some ⟨h.length, 0, none⟩)), (2, .slice none 0 0), (3, out), (4, Zd (s : Nat)), (5, .pointer (some ⟨hp.length, 0, none⟩)), (7, .func (.func 100) #[] #[.pointer (some ⟨hp.length, 0, none⟩)]), (8, q), (26, .bool false), (48, v), (49, Zd l.length), (50, Zd (i : Nat)), (51, .bool true)] _ _ ?_ (by simp (maxSteps := 2000000) only [vup, cond_true, cond_false, Nat.reduceBEq])
      clear hN16
      try clear N16
      refine Ze fun N17 hN17 => ?_
      simp (maxSteps := 2000000) only [↓Zw, ↓vdn, vup, cond_true, cond_false, Zg, ev, Nat.reduceBEq]
      refine hN17 [(1, .pointer (some ⟨h.length, 0, none⟩)), (2, .slice none 0 0), (3, out), (4, Zd (s : Nat)), (5, .pointer (some ⟨hp.length, 0, none⟩)), (7, .func (.func 100) #[] #[.pointer (some ⟨hp.length, 0, none⟩)]), (8, q), (26, .bool false), (48, v), (49, Zd l.length), (50, Zd (i : Nat))] _ _ ?_ (by simp (maxSteps := 2000000) only [vup, cond_true, cond_false, Nat.reduceBEq])
      clear hN17
      try clear N17
      refine Zn fun B hB => ?_
      refine Zp ?_
      obtain ⟨G2, hG2⟩ : ∃ G2, G2 = G ++ [bB e y] := ⟨_, rfl⟩
      have c10 : G2[G.length]? = some (bB e y) := by rw [hG2]; exact Zz _ _
      have hE2 : Ext (fun _ => False) G G2 := by rw [hG2]; exact Ext.app _ _ _
      have hG2l : G2.length = G.length + 1 := by rw [hG2]; simp
      refine Ze fun N18 hN18 => ?_
      simp (maxSteps := 2000000) only [↓Za, ↓Zb, ↓Zc, vup, cond_true, cond_false, aop, Zg, ev, sput, Zf, Nat.reduceBEq, tyf, hvG.idx el_30 esz_92 hi', hvG.load shp_92 hi', hxy, Xl, Yn, storeBt (Zz G zB) rfl, Xy]
      rw [← hG2]
      refine hN18 [(1, .pointer (some ⟨h.length, 0, none⟩)), (2, .slice none 0 0), (3, out), (4, Zd (s : Nat)), (5, .pointer (some ⟨hp.length, 0, none⟩)), (7, .func (.func 100) #[] #[.pointer (some ⟨hp.length, 0, none⟩)]), (8, q), (10, .pointer (some ⟨G.length, 0, none⟩)), (26, .bool false), (48, v), (49, Zd l.length), (50, Zd (i : Nat))] _ _ ?_ (by simp (maxSteps := 2000000) only [vup, cond_true, cond_false, Nat.reduceBEq])
      clear hN18
      try clear N18
      refine Zi ?_
      simp only [q60_17]
      refine Xj [(6, 1), (7, 4)] (by kernel_rfl) (by kernel_rfl) (by kernel_rfl) (by kernel_rfl) ?_
      simp (maxSteps := 2000000) only [↓Yh, ↓vdn, vup, List.map_cons, List.map_nil, cond_true, cond_false, aop, Zg, Zs, ev, sput, Zf, Zl, Nat.reduceBEq, Nat.reduceAdd, bA0, bA1, loadB0 c10, loadB1 c10, Yt, List.nil_append, List.append_nil, List.cons_append]
      refine ⟨_, _, (show Xc prog 64 [Zd y, Zd 12] G2 (qV (Rat.divInt y 12)) from frac_call (by decide) (by omega) (by decide)), rfl, ?_⟩
      refine (row_call (q := Rat.divInt y 12) ((hE2.2 _ (Yl g5) id).trans g5) (how.ext (S := fun _ => False) hE2 (fun _ _ => id)).int (by omega) (show e < 9223372036854775808 by omega)).mono ?_
      rintro rv G3 ⟨x1, x2, x3⟩
      have x2' : OwnP 26 G3 rv (rowC T W.length ws.length) := by
        rw [hwsl, hT, rowC_bet, hxy]; exact x2
      obtain ⟨bb, yy, hrv, -⟩ := Wg x2' rowC_ne
      have lit0 : ∀ K : Value → Zh → Prop, Yq prog G3 103 1 [(0, rv)] K = K (.slice (some ⟨G3.length, 0, none⟩) 1 1) (G3 ++ [.cells [rv] 47 false]) := fun K => by rw [hrv]; exact litV el_103 zero_47 esz_47
      simp (maxSteps := 2000000) only [lit0]
      have hE34 : Ext (fun _ => False) G (G3 ++ [.cells [rv] 47 false]) := hE2.trans (x1.trans (Ext.app _ _ _))
      refine R.more (by omega) (by have := hEG.1; omega) hE34 (x2'.ext (Ext.app _ _ _)) (fun b hb => by have := x3 b hb; omega) (Zz _ _) fun q' h' ho' R' hEa hEb => ?_
      have keep : ∀ b, b < G.length → Ym q ≠ some b → h'[b]? = G[b]? := fun b hb hne => by
        rw [hEb.2 b (by have := hE34.1; omega) hne]; exact hE34.2 b hb id
      have hEh : Ext (fun _ => False) hp h' := by
        refine ⟨by have := hEG.1; have := hE34.1; have := hEa.1; omega, fun z hz _ => ?_⟩
        rw [hEa.2 z (by have := hEG.1; have := hE34.1; omega) (by omega), hE34.2 z (by have := hEG.1; omega) id]
        exact hEG.2 z hz id
      have g5' : h'[hp.length]? = some (.cells [wv] 38 false) := by rw [keep _ (Yl g5) sepq.1]; exact g5
      have how' : OwnSl 3 h' wv (castI W) := how.same fun b hb => keep b (how.lt hb) (sepq.2 b hb)
      refine hB [(1, .pointer (some ⟨h.length, 0, none⟩)), (2, .slice none 0 0), (3, out), (4, Zd (s : Nat)), (5, .pointer (some ⟨hp.length, 0, none⟩)), (7, .func (.func 100) #[] #[.pointer (some ⟨hp.length, 0, none⟩)]), (8, q'), (26, .bool false), (48, v), (49, Zd l.length), (50, Zd (i : Nat))] _ _ ?_ (by simp (maxSteps := 2000000) only [vup, cond_true, cond_false, Nat.reduceBEq])
      clear hB
      try clear B
      refine Zi ?_
      simp (maxSteps := 2000000) only [↓Za, ↓Zb, ↓Zc, vup, cond_true, cond_false, aop, ev, sput, Zf, Yi, Yo, Nat.reduceBEq, add1 (show i < 9223372036854775807 by omega)]
      exact hQb _ _ _ ⟨(i + 1, q', ws ++ [rv], h'), ⟨hi', by simp [hwsl], R', fun _ => ho', hEh, g5', how'⟩, by simp only; omega, by simp (maxSteps := 2000000) only [vup, cond_true, cond_false, Nat.reduceBEq], rfl⟩
    have hil := loopEnd hiin hi
    subst hil
    refine Ze fun N19 hN19 => ?_
    simp (maxSteps := 2000000) only [↓Za, ↓Zb, ↓Zc, vup, cond_true, cond_false, aop, Zg, ev, sput, Zf, Yi, Yo, Nat.reduceBEq, hiin]
    refine hN19 [(1, .pointer (some ⟨h.length, 0, none⟩)), (2, .slice none 0 0), (3, out), (4, Zd (s : Nat)), (5, .pointer (some ⟨hp.length, 0, none⟩)), (7, .func (.func 100) #[] #[.pointer (some ⟨hp.length, 0, none⟩)]), (8, q), (26, .bool false), (48, v), (49, Zd l.length), (50, Zd (l.length : Nat)), (51, .bool false)] _ _ ?_ (by simp (maxSteps := 2000000) only [vup, cond_true, cond_false, Nat.reduceBEq])
    clear hN19
    try clear N19
    refine Ze fun N20 hN20 => ?_
    simp (maxSteps := 2000000) only [↓Xh, ↓vdn, vup, cond_true, cond_false, Zg, ev, Nat.reduceBEq]
    refine hQb _ _ _ (hQa _ _ _ ?_)
    simp (maxSteps := 2000000) only [Zg, Zs, if_true]
    refine hX [(1, .pointer (some ⟨h.length, 0, none⟩)), (2, .slice none 0 0), (3, out), (4, Zd (s : Nat)), (5, .pointer (some ⟨hp.length, 0, none⟩)), (7, .func (.func 100) #[] #[.pointer (some ⟨hp.length, 0, none⟩)]), (8, q), (26, .bool false), (51, .bool false)] _ _ ?_ (by simp (maxSteps := 2000000) only [vup, cond_true, cond_false, Nat.reduceBEq])
    clear hX
    try clear X
    have ho := hOwn hl1
    obtain ⟨B, C, hqe, hBC, hBp, M, hbkp⟩ := R.mat ho
    rw [hwsl] at hqe hBC M hbkp
    -- it is solved
    have hli : (castI W).length = W.length := castI_len W
    have hsolve := solve_call M hBC (by omega) (by omega) hW1 (by omega) htm
    refine Ze fun N21 hN21 => ?_
    simp (maxSteps := 2000000) only [↓Za, ↓Zb, ↓Zc, vup, List.map_cons, List.map_nil, cond_true, cond_false, aop, Zg, ev, sput, Zf, Zl, Nat.reduceBEq, tyf, load1 g5 shp_38, how.int.len, hli, hqe, Yt, List.nil_append, List.append_nil]
    refine hsolve.mono ?_
    rintro r G' ⟨hEs, x, ok, rfl, hres⟩
    simp (maxSteps := 2000000) only [extr_20, extr_21]
    refine hN21 [(1, .pointer (some ⟨h.length, 0, none⟩)), (2, .slice none 0 0), (3, out), (4, Zd (s : Nat)), (5, .pointer (some ⟨hp.length, 0, none⟩)), (7, .func (.func 100) #[] #[.pointer (some ⟨hp.length, 0, none⟩)]), (11, x), (12, .bool ok), (26, .bool false), (51, .bool false)] _ _ ?_ (by simp (maxSteps := 2000000) only [vup, cond_true, cond_false, Nat.reduceBEq])
    clear hN21
    try clear N21
    have hBk : ∀ b, Tch B (l.length + 1) (fun i => bkOf (ws.getD i undef)) b → hp.length ≤ b ∧ b ≠ hp.length ∧ ∀ b', Ym wv = some b' → b ≠ b' := fun b hb => by
      rcases hb with rfl | ⟨j, hj, rfl⟩
      · obtain ⟨us, e2⟩ := M.outer
        refine ⟨hBp, fun hc => ?_, fun b' hb' hc => ?_⟩
        · rw [← hc, e2] at g5
          exact absurd (Blk.cells.inj (Option.some.inj g5)).2.1 (by decide)
        · obtain ⟨ys, e4⟩ := how.ints hb'
          rw [← hc, e2] at e4; cases e4
      · obtain ⟨cc, xs, e1, e3, e2⟩ := M.row j hj
        refine ⟨hbkp j hj, fun hc => ?_, fun b' hb' hc => ?_⟩
        · have e2' : G[bkOf (ws.getD j undef)]? = _ := e2
          have hc' : bkOf (ws.getD j undef) = hp.length := hc
          rw [hc', g5] at e2'; cases e2'
        · obtain ⟨ys, e4⟩ := how.ints hb'
          have e2' : G[bkOf (ws.getD j undef)]? = _ := e2
          have hc' : bkOf (ws.getD j undef) = b' := hc
          rw [hc', e4] at e2'; cases e2'
    have hEG' : Ext (fun _ => False) hp G' := by
      refine ⟨by have := hEG.1; have := hEs.1; omega, fun z hz _ => ?_⟩
      rw [hEs.2 z (by have := hEG.1; omega) (fun hc => by have := (hBk z hc).1; omega)]
      exact hEG.2 z hz id
    have g5' : G'[hp.length]? = some (.cells [wv] 38 false) := by
      rw [hEs.2 _ (Yl g5) (fun hc => (hBk _ hc).2.1 rfl)]; exact g5
    have how' : OwnSl 3 G' wv (castI W) := how.same fun b hb => hEs.2 b (how.lt hb) (fun hc => (hBk _ hc).2.2 b hb rfl)
    have hlen' : G.length ≤ G'.length := hEs.1
    clear hQa hQb M R hOwn sepq ho hsolve hBk hEs hqe g50 how0 hE0 R0 hlen'
    -- the next set
    have goOn : ∀ e out' G2, CornSl G2 out' (Wp n l s) → Ext (fun _ => False) H G2 → (∀ b, Ym out' = some b → H.length ≤ b) → ELe e [(1, .pointer (some ⟨h.length, 0, none⟩)), (2, .slice none 0 0), (3, out'), (4, Zd (s : Nat)), (26, .bool false), (51, .bool false)] → Y e G2 := by
      intro e out' G2 c1 c2 c3 he
      refine hY _ _ _ ?_ he
      refine Zi ?_
      have ea : addV .i64 (s : Int) 1 = ((s + 1 : Nat) : Int) := add1 (by omega)
      simp (maxSteps := 2000000) only [↓Za, ↓Zb, ↓Zc, vup, cond_true, cond_false, aop, ev, sput, Zf, Yi, Yo, Nat.reduceBEq, ea]
      exact hQ2 _ _ _ ⟨(s + 1, out', G2), ⟨by simp only; omega, by simp only; omega, by simpa using c1, c2, c3⟩, by simp only; omega, by simp (maxSteps := 2000000) only [vup, cond_true, cond_false, Nat.reduceBEq], rfl⟩
    have hcsucc : Wp n l s = Wp n l (s - 1) ++ (Vi n l s).toList := by
      obtain ⟨s', rfl⟩ : ∃ s', s = s' + 1 := ⟨s - 1, by omega⟩
      rw [Wp]; simp
    have skip : Vi n l s = none → ∀ e, ELe e [(1, .pointer (some ⟨h.length, 0, none⟩)), (2, .slice none 0 0), (3, out), (4, Zd (s : Nat)), (26, .bool false), (51, .bool false)] → Y e G' := fun h0 e he => goOn e out G' (by rw [hcsucc, h0]; simpa using hcs.ext hEG') (hEp.trans hEG') hbo he
    cases hsol : Vf (l.length + 1) W.length T with
    | none =>
      rw [hsol] at hres hcorner
      simp only at hres
      obtain ⟨rfl, rfl⟩ := hres
      refine Zi ?_
      simp (maxSteps := 2000000) only [↓Za, ↓Zt, ↓Xh, ↓Zb, ↓Zc, ↓vdn, vup, cond_true, cond_false, aop, Zg, Zs, ev, sput, Zf, unK, Nat.reduceBEq]
      exact skip hcorner _ (by simp (maxSteps := 2000000) only [vup, cond_true, cond_false, Nat.reduceBEq])
    | some xs =>
      rw [hsol, Option.bind_some] at hcorner
      rw [hsol] at hres
      simp only at hres
      obtain ⟨rfl, hox, hbx⟩ := hres
      have hxl : xs.length = W.length := solveT_len hsol
      have hany : ((xs.map ofQ).any fun p => decide (p.1 < 0)) = xs.any fun q => decide (q < 0) := by
        rw [List.any_map]
        congr 1
        funext q
        refine decide_eq_decide.2 ?_
        show q.num < 0 ↔ q < 0
        rw [← Rat.not_le, ← Rat.num_nonneg]; omega
      have hneg := hasF_call (g := 102) (cap := #[]) (f := fun p => decide (p.1 < 0)) hox.pair (by simp; omega) (fun h' hx p hp => neg_call)
      rw [hany] at hneg
      refine Zn fun X hX => ?_
      refine Ze fun N22 hN22 => ?_
      simp (maxSteps := 2000000) only [↓Za, ↓Zb, ↓Zc, ↓vdn, vup, List.map_cons, List.map_nil, cond_true, cond_false, aop, Zg, ev, sput, Zf, unK, Nat.reduceBEq, Yt, List.nil_append, List.append_nil]
      refine hneg.mono ?_
      rintro _ G' ⟨rfl, rfl⟩
      refine hN22 [(1, .pointer (some ⟨h.length, 0, none⟩)), (2, .slice none 0 0), (3, out), (4, Zd (s : Nat)), (5, .pointer (some ⟨hp.length, 0, none⟩)), (7, .func (.func 100) #[] #[.pointer (some ⟨hp.length, 0, none⟩)]), (11, x), (12, .bool true), (26, .bool false), (51, .bool false), (77, .bool (xs.any fun q => decide (q < 0)))] _ _ ?_ (by simp (maxSteps := 2000000) only [vup, cond_true, cond_false, Nat.reduceBEq])
      clear hN22
      try clear N22
      cases hn : xs.any fun q => decide (q < 0) with
      | true =>
        rw [hn, if_pos rfl] at hcorner
        refine Wd rfl ?_
        refine Zi ?_
        simp (maxSteps := 2000000) only [↓Xh, Zg, Zs]
        exact skip hcorner _ (by simp (maxSteps := 2000000) only [vup, cond_true, cond_false, Nat.reduceBEq])
      | false =>
        rw [hn, if_neg (by decide)] at hcorner
        refine Xi rfl ?_
        refine Zi ?_
        simp (maxSteps := 2000000) only [↓Zw, Zg]
        refine hX [(1, .pointer (some ⟨h.length, 0, none⟩)), (2, .slice none 0 0), (3, out), (4, Zd (s : Nat)), (5, .pointer (some ⟨hp.length, 0, none⟩)), (7, .func (.func 100) #[] #[.pointer (some ⟨hp.length, 0, none⟩)]), (11, x), (26, .bool false), (51, .bool false)] _ _ ?_ (by simp (maxSteps := 2000000) only [vup, cond_true, cond_false, Nat.reduceBEq])
        clear hX
        try clear X
        obtain ⟨tG, -⟩ := tI G' hEG'
        -- the belief
        obtain ⟨F, hF⟩ : ∃ F : Nat → Zh, F = fun k => G' ++ [.ints [0, 1] 26 false] ++ [.cells ((Yb ((Xv n W xs k).map ofQ)).map Zd) 26 false] := ⟨_, rfl⟩
        have hF0 : ∀ k, (F k)[G'.length + 1]? = some (.cells ((Yb ((Xv n W xs k).map ofQ)).map Zd) 26 false) := fun k => by rw [hF]; exact b2_1 ..
        have hFE : ∀ k, Ext (fun _ => False) G' (F k) := fun k => by rw [hF]; exact e2 ..
        have hFs : ∀ k, (F k).set (G'.length + 1) (.cells ((Yb ((Xv n W xs (k + 1)).map ofQ)).map Zd) 26 false) = F (k + 1) := fun k => by
          simp only [hF]
          rw [show G'.length + 1 = (G' ++ [Blk.ints [0, 1] 26 false]).length by simp, Xy]
        have hFl : ∀ k, (F k).length = G'.length + 2 := fun k => by rw [hF]; simp
        have hF1 : G' ++ [.ints [0, 1] 26 false] ++ [.cells ((Yb (List.replicate n ((0 : Int), (1 : Int)))).map Zd) 26 false] = F 0 := by
          rw [hF]; simp only [Xv, List.map_replicate]; rfl
        have rep := repeat_call (h := G' ++ [.ints [0, 1] 26 false]) (b0 := G'.length) (x := 0) (y := 1) (Zz _ _) (show 1 ≤ n by omega) (show n < 6 by omega)
        rw [hF1, List.length_append, List.length_singleton] at rep
        have q0 : qV ((0 : Int) : Rat) = .agg #[Zd 0, Zd 1] := rfl
        refine Ze fun N23 hN23 => ?_
        simp only [q60_21]
        refine aw_drawR (fun z => z[h.length]? = some (Blk.cells [Zd (n : Nat), v] 86 false)) [(0, 1), (3, 5)] (by kernel_rfl) (by kernel_rfl) (by kernel_rfl) (by kernel_rfl) tG ?_
        simp (maxSteps := 2000000) only [↓dopsR_nil, ↓vdn, vup, List.map_cons, List.map_nil, cond_true, cond_false, aop, Zg, ev, sput, Zf, Nat.reduceBEq, Nat.reduceAdd, Yt, List.nil_append, List.append_nil]
        refine ⟨_, _, (show Xc prog 70 [Zd 0] G' (qV ((0 : Int) : Rat)) from whole_call), rfl, ?_⟩
        simp (maxSteps := 2000000) only [q0, litF, tA0]
        refine ⟨Xr tG _, Zd (n : Nat), fun z hz => by simp only [Vw hz], _, _, rep, (hFE 0).2 _ (Yl tG) id |>.trans tG, ?_⟩
        refine hN23 [(1, .pointer (some ⟨h.length, 0, none⟩)), (2, .slice none 0 0), (3, out), (4, Zd (s : Nat)), (5, .pointer (some ⟨hp.length, 0, none⟩)), (7, .func (.func 100) #[] #[.pointer (some ⟨hp.length, 0, none⟩)]), (11, x), (13, .slice (some ⟨G'.length + 1, 0, none⟩) n n), (26, .bool false), (51, .bool false)] _ _ ?_ (by simp (maxSteps := 2000000) only [vup, cond_true, cond_false, Nat.reduceBEq])
        clear hN23
        try clear N23
        have g5F : ∀ k, (F k)[hp.length]? = some (.cells [wv] 38 false) := fun k => ((hFE k).2 _ (Yl g5') id).trans g5'
        have howF : ∀ k, OwnSl 3 (F k) wv (castI W) := fun k => how'.ext (S := fun _ => False) (hFE k) (fun _ _ => id)
        refine Zn fun U hU => ?_
        refine Ze fun N24 hN24 => ?_
        simp (maxSteps := 2000000) only [↓Za, ↓Zb, ↓Zc, vup, List.map_cons, List.map_nil, cond_true, cond_false, aop, Zg, ev, sput, Zf, Zl, Nat.reduceBEq, tyf, load1 (g5F 0) shp_38, (howF 0).int.len, hli]
        refine hN24 [(1, .pointer (some ⟨h.length, 0, none⟩)), (2, .slice none 0 0), (3, out), (4, Zd (s : Nat)), (5, .pointer (some ⟨hp.length, 0, none⟩)), (7, .func (.func 100) #[] #[.pointer (some ⟨hp.length, 0, none⟩)]), (11, x), (13, .slice (some ⟨G'.length + 1, 0, none⟩) n n), (26, .bool false), (51, .bool false), (83, wv), (84, Zd (W.length : Nat)), (85, .int .i64 0)] _ _ ?_ (by simp (maxSteps := 2000000) only [vup, cond_true, cond_false, Nat.reduceBEq])
        clear hN24
        try clear N24
        refine Zp ?_
        refine Ya fun Qa hQa => ?_
        refine Xb (γ := Nat) (fun k => k ≤ W.length) (fun k => ([(1, .pointer (some ⟨h.length, 0, none⟩)), (2, .slice none 0 0), (3, out), (4, Zd (s : Nat)), (5, .pointer (some ⟨hp.length, 0, none⟩)), (7, .func (.func 100) #[] #[.pointer (some ⟨hp.length, 0, none⟩)]), (11, x), (13, .slice (some ⟨G'.length + 1, 0, none⟩) n n), (26, .bool false), (51, .bool false), (83, wv), (84, Zd (W.length : Nat)), (85, Zd (k : Nat))], F k)) (fun k => W.length - k) 0 (Nat.zero_le _) (by simp (maxSteps := 2000000) only [vup, cond_true, cond_false, Nat.reduceBEq, Int.natCast_zero]) rfl ?_
        rintro k hk
        refine Ya fun Qb hQb => ?_
        simp only [l60_2]
        by_cases hkin : (k : Int) < W.length
        · have hk' : k < W.length := by omega
          have hkc : k < (castI W).length := by omega
          have hw : W.getD k 0 < n := hWlt _ (by rw [List.getD, List.getElem?_eq_getElem hk']; exact List.getElem_mem hk')
          have hxF := (hox.ext (hFE k)).pair
          have hkx : k < (xs.map ofQ).length := by rw [List.length_map]; omega
          have hgx : (xs.map ofQ).getD k (0, 0) = ofQ (xs.getD k 0) := by
            rw [List.getD, List.getElem?_map, List.getElem?_eq_getElem (show k < xs.length by omega), List.getD, List.getElem?_eq_getElem (show k < xs.length by omega)]; rfl
          have hslen : ((Xv n W xs k).map ofQ).length = n := by rw [List.length_map, Vx]
          have pF := pairSl_cells (hF0 k)
          rw [hslen] at pF
          have hidx : ∀ K : Value → Prop, Xd prog 90 (.slice (some ⟨G'.length + 1, 0, none⟩) n n) (Zd (W.getD k 0 : Nat)) K = K (.pointer (some ⟨G'.length + 1, W.getD k 0 * 2, none⟩)) := fun K => by
            rw [pF.idx el_90 Vg (by rw [hslen]; exact hw), elemP_pair]
          have hst : ∀ K : Zh → Prop, Xn prog (F k) 26 (.pointer (some ⟨G'.length + 1, W.getD k 0 * 2, none⟩)) (.agg #[Zd (xs.getD k 0).num, Zd ((xs.getD k 0).den : Int)]) K = K (F (k + 1)) := fun K => by
            rw [storePC (hF0 k) shp_26 (by rw [hslen]; exact hw), ← hFs k, Xv, List.map_set]; rfl
          refine Ze fun N25 hN25 => ?_
          simp (maxSteps := 2000000) only [↓Za, ↓Zb, ↓Zc, vup, cond_true, cond_false, aop, Zg, ev, sput, Zf, Yi, Yo, Nat.reduceBEq, hkin]
          refine hN25 [(1, .pointer (some ⟨h.length, 0, none⟩)), (2, .slice none 0 0), (3, out), (4, Zd (s : Nat)), (5, .pointer (some ⟨hp.length, 0, none⟩)), (7, .func (.func 100) #[] #[.pointer (some ⟨hp.length, 0, none⟩)]), (11, x), (13, .slice (some ⟨G'.length + 1, 0, none⟩) n n), (26, .bool false), (51, .bool false), (83, wv), (84, Zd (W.length : Nat)), (85, Zd (k : Nat)), (86, .bool true)] _ _ ?_ (by simp (maxSteps := 2000000) only [vup, cond_true, cond_false, Nat.reduceBEq])
          clear hN25
          try clear N25
          refine Ze fun N26 hN26 => ?_
          simp (maxSteps := 2000000) only [↓Zw, ↓vdn, vup, cond_true, cond_false, Zg, ev, Nat.reduceBEq]
          refine hN26 [(1, .pointer (some ⟨h.length, 0, none⟩)), (2, .slice none 0 0), (3, out), (4, Zd (s : Nat)), (5, .pointer (some ⟨hp.length, 0, none⟩)), (7, .func (.func 100) #[] #[.pointer (some ⟨hp.length, 0, none⟩)]), (11, x), (13, .slice (some ⟨G'.length + 1, 0, none⟩) n n), (26, .bool false), (51, .bool false), (83, wv), (84, Zd (W.length : Nat)), (85, Zd (k : Nat))] _ _ ?_ (by simp (maxSteps := 2000000) only [vup, cond_true, cond_false, Nat.reduceBEq])
          clear hN26
          try clear N26
          refine Zn fun B hB => ?_
          refine Zp ?_
          refine Ze fun N27 hN27 => ?_
          simp (maxSteps := 2000000) only [↓Za, ↓Zb, ↓Zc, vup, cond_true, cond_false, aop, Zg, ev, sput, Zf, Nat.reduceBEq, (howF k).int.idx el_38 esz_3 hkc, (howF k).int.load shp_3 hkc, castI_getD]
          refine hN27 [(1, .pointer (some ⟨h.length, 0, none⟩)), (2, .slice none 0 0), (3, out), (4, Zd (s : Nat)), (5, .pointer (some ⟨hp.length, 0, none⟩)), (7, .func (.func 100) #[] #[.pointer (some ⟨hp.length, 0, none⟩)]), (11, x), (13, .slice (some ⟨G'.length + 1, 0, none⟩) n n), (14, Zd (k : Nat)), (15, Zd (W.getD k 0 : Nat)), (26, .bool false), (51, .bool false), (83, wv), (84, Zd (W.length : Nat)), (85, Zd (k : Nat))] _ _ ?_ (by simp (maxSteps := 2000000) only [vup, cond_true, cond_false, Nat.reduceBEq])
          clear hN27
          try clear N27
          refine Zi ?_
          simp (maxSteps := 2000000) only [↓Za, ↓Zb, ↓Zc, vup, cond_true, cond_false, aop, Zg, Zs, ev, sput, Zf, Nat.reduceBEq, hxF.idx el_47 Vg hkx, hxF.load shp_26 hkx, hgx, hidx, ofQ, hst]
          refine hB [(1, .pointer (some ⟨h.length, 0, none⟩)), (2, .slice none 0 0), (3, out), (4, Zd (s : Nat)), (5, .pointer (some ⟨hp.length, 0, none⟩)), (7, .func (.func 100) #[] #[.pointer (some ⟨hp.length, 0, none⟩)]), (11, x), (13, .slice (some ⟨G'.length + 1, 0, none⟩) n n), (26, .bool false), (51, .bool false), (83, wv), (84, Zd (W.length : Nat)), (85, Zd (k : Nat))] _ _ ?_ (by simp (maxSteps := 2000000) only [vup, cond_true, cond_false, Nat.reduceBEq])
          clear hB
          try clear B
          refine Zi ?_
          simp (maxSteps := 2000000) only [↓Za, ↓Zb, ↓Zc, vup, cond_true, cond_false, aop, ev, sput, Zf, Yi, Yo, Nat.reduceBEq, add1 (show k < 9223372036854775807 by omega)]
          exact hQb _ _ _ ⟨k + 1, hk', by omega, by simp (maxSteps := 2000000) only [vup, cond_true, cond_false, Nat.reduceBEq], rfl⟩
        have hkk := loopEnd hkin hk
        subst hkk
        refine Ze fun N28 hN28 => ?_
        simp (maxSteps := 2000000) only [↓Za, ↓Zb, ↓Zc, vup, cond_true, cond_false, aop, Zg, ev, sput, Zf, Yi, Yo, Nat.reduceBEq, hkin]
        refine hN28 [(1, .pointer (some ⟨h.length, 0, none⟩)), (2, .slice none 0 0), (3, out), (4, Zd (s : Nat)), (5, .pointer (some ⟨hp.length, 0, none⟩)), (7, .func (.func 100) #[] #[.pointer (some ⟨hp.length, 0, none⟩)]), (11, x), (13, .slice (some ⟨G'.length + 1, 0, none⟩) n n), (26, .bool false), (51, .bool false), (83, wv), (84, Zd (W.length : Nat)), (85, Zd (W.length : Nat)), (86, .bool false)] _ _ ?_ (by simp (maxSteps := 2000000) only [vup, cond_true, cond_false, Nat.reduceBEq])
        clear hN28
        try clear N28
        refine Ze fun N29 hN29 => ?_
        simp (maxSteps := 2000000) only [↓Xh, ↓vdn, vup, cond_true, cond_false, Zg, ev, Nat.reduceBEq]
        refine hQb _ _ _ (hQa _ _ _ ?_)
        simp (maxSteps := 2000000) only [Zg, Zs, if_true]
        refine hU [(1, .pointer (some ⟨h.length, 0, none⟩)), (2, .slice none 0 0), (3, out), (4, Zd (s : Nat)), (5, .pointer (some ⟨hp.length, 0, none⟩)), (7, .func (.func 100) #[] #[.pointer (some ⟨hp.length, 0, none⟩)]), (11, x), (13, .slice (some ⟨G'.length + 1, 0, none⟩) n n), (26, .bool false), (51, .bool false), (86, .bool false)] _ _ ?_ (by simp (maxSteps := 2000000) only [vup, cond_true, cond_false, Nat.reduceBEq])
        clear hU
        try clear U
        -- it is noted
        have hcF := (hcs.ext (hEG'.trans (hFE W.length)))
        obtain ⟨us, hou, heach⟩ := hcF
        have hlen3 := heach.len
        have hcl := cornersTo_len n l (s - 1)
        refine Zi ?_
        simp (maxSteps := 2000000) only [↓Za, ↓Zb, ↓Zc, vup, List.map_cons, List.map_nil, cond_true, cond_false, aop, Zg, Zs, ev, sput, Zf, Zl, Nat.reduceBEq, litV el_88 zero_90 esz_90]
        refine OwnV.app (us := [.slice (some ⟨G'.length + 1, 0, none⟩) n n]) (hou.ext (Ext.app _ _ _)) app_88_88 (.inr ⟨(F W.length).length, 0, none, 1, [.slice (some ⟨G'.length + 1, 0, none⟩) n n], 90, false, rfl, Nat.le_refl _, by simp [view, Blk.view], rfl⟩) (fun w hw => ?_) (by simp; omega) ?_
        · rcases List.mem_append.1 hw with h1 | h1
          · obtain ⟨b, bl, rfl, _⟩ := heach.mem w h1
            exact ⟨rfl, rfl⟩
          · rw [List.mem_singleton.1 h1]; exact ⟨rfl, rfl⟩
        · intro out' G3 ho3 hE3 hb3
          have hol : ∀ b, Ym out = some b → b < (F W.length).length := fun b hb => hou.lt hb
          have hHF := hEp.trans (hEG'.trans (hFE W.length))
          have hFk : Ext (fun _ => False) H G3 := ext_app hHF (H' := F W.length ++ [Blk.cells [.slice (some ⟨G'.length + 1, 0, none⟩) n n] 90 false]) (by simp) (fun z hz => List.getElem?_append_left (by have := hHF.1; omega)) hbo hE3
          have keep : ∀ bl c, (F W.length)[bl]? = some (Blk.cells c 26 false) → G3[bl]? = some (Blk.cells c 26 false) := fun bl c hbl => by
            have hlt := Yl hbl
            rw [hE3.2 bl (by rw [List.length_append]; omega) (fun hc => ?_), List.getElem?_append_left hlt, hbl]
            obtain ⟨c', hc'⟩ := hou.blk hc
            rw [hbl] at hc'
            exact absurd (Blk.cells.inj (Option.some.inj hc')).2.1 (by decide)
          refine goOn _ out' G3 ⟨us ++ [.slice (some ⟨G'.length + 1, 0, none⟩) n n], ho3, ?_⟩ hFk (fun b hb => ?_) (by simp (maxSteps := 2000000) only [vup, cond_true, cond_false, Nat.reduceBEq])
          · rw [hcsucc, hcorner]
            refine Each.app (heach.imp fun w b ⟨bl, q1, q2⟩ => ⟨bl, q1, keep bl _ q2⟩) ⟨⟨G'.length + 1, by rw [Vx], keep _ _ (hF0 _)⟩, trivial⟩
          · rcases hb3 with h1 | ⟨b', h1, h2⟩
            · exact hbo b (h1 ▸ hb)
            · rw [h1] at hb; cases hb
              rw [List.length_append] at h2
              have := hHF.1; omega
  · have hss := loopEnd hin hs
    subst hss
    refine Ze fun N30 hN30 => ?_
    simp (maxSteps := 2000000) only [↓Za, ↓Zt, ↓Xh, ↓Zb, ↓Zc, ↓vdn, vup, cond_true, cond_false, aop, Zg, ev, sput, Zf, Yi, Yo, Nat.reduceBEq, tyf, tA0, Vw t1p, Int.natCast_nonneg, hsh, hin]
    refine hQ2 _ _ _ (hQ _ _ _ ?_)
    simp (maxSteps := 2000000) only [Zg, Zs, Zv, if_true]
    refine hZ [(1, .pointer (some ⟨h.length, 0, none⟩)), (2, .slice none 0 0), (3, out), (4, Zd (2 ^ n : Nat))] _ _ ?_ (by simp (maxSteps := 2000000) only [vup, cond_true, cond_false, Nat.reduceBEq])
    clear hZ
    try clear Z
    refine Zi ?_
    simp (maxSteps := 2000000) only [↓Za, ↓Zt, ↓Zy, ↓Zb, ↓Zc, vup, cond_true, cond_false, aop, Zg, ev, sput, Zf, Nat.reduceBEq, Zv, Xw, tup]
    exact ⟨hE.trans hEp, hcs, fun b hb => by have := hbo b hb; omega⟩
end Go.Proofs.Try.Am

namespace Go.Proofs.Try.Am
open Go.Am
set_option maxRecDepth 100000
end Go.Proofs.Try.Am

namespace Go.Proofs.Try.Am
open Go.Am
set_option maxRecDepth 100000
/-! 17: planchet bets.Bounds -/
@[reducible] def q17_0 : SCode := .region [⟨some 6, .alloc 26, none⟩,
    ⟨some 7, .alloc 26, none⟩,
    ⟨some 8, .assign (.const (.int .i64 0)), none⟩]
@[reducible] def q17_1 : SCode := .region [⟨some 14, .move (.tmp 0), none⟩,
    ⟨some 15, .move (.tmp 1), none⟩,
    ⟨some 16, .build 86 #[(0, .tmp 14), (1, .tmp 15)], none⟩,
    ⟨some 9, .alloc 86, none⟩,
    ⟨none, .store 86 (.tmp 9) (.tmp 16), none⟩]
@[reducible] def q17_2 : SCode := .region [⟨some 17, .load 86 (.tmp 9), none⟩,
    ⟨some 18, .call { callee := .value (.func 58), args := #[.tmp 17], argTypes := #[86] }, none⟩,
    ⟨some 19, .unOp .not 4 (.tmp 18), none⟩,
    ⟨some 20, .move (.tmp 19), none⟩,
    ⟨some 21, .load 86 (.tmp 9), some (20, false)⟩,
    ⟨some 22, .move (.tmp 2), some (20, false)⟩,
    ⟨some 23, .call { callee := .value (.func 59), args := #[.tmp 21, .tmp 22], argTypes := #[86, 3] }, some (20, false)⟩,
    ⟨some 24, .unOp .not 4 (.tmp 23), some (20, false)⟩,
    ⟨some 25, .pick (.tmp 20) (.const (.bool true)) (.tmp 24), none⟩]
@[reducible] def q17_3 : SCode := .region [⟨some 26, .build 26 #[], none⟩,
    ⟨some 27, .build 26 #[], none⟩,
    ⟨none, .store 26 (.tmp 6) (.tmp 26), none⟩,
    ⟨none, .store 26 (.tmp 7) (.tmp 27), none⟩,
    ⟨some 8, .assign (.const (.int .i64 2)), none⟩]
@[reducible] def q17_4 : SCode := .region [⟨some 28, .load 86 (.tmp 9), none⟩,
    ⟨some 29, .call { callee := .value (.func 60), args := #[.tmp 28], argTypes := #[86] }, none⟩,
    ⟨some 10, .assign (.tmp 29), none⟩]
@[reducible] def q17_5 : SCode := .region [⟨some 30, .move (.tmp 10), none⟩,
    ⟨some 31, .call { callee := .builtin .len, args := #[.tmp 30], argTypes := #[88] }, none⟩,
    ⟨some 32, .binOp .eql 3 (.tmp 31) (.const (.int .i64 0)) 3, none⟩]
@[reducible] def q17_6 : SCode := .region [⟨some 33, .build 26 #[], none⟩,
    ⟨some 34, .build 26 #[], none⟩,
    ⟨none, .store 26 (.tmp 6) (.tmp 33), none⟩,
    ⟨none, .store 26 (.tmp 7) (.tmp 34), none⟩,
    ⟨some 8, .assign (.const (.int .i64 5)), none⟩]
def q17_7 : SCode := .draw [⟨some 35, .move (.tmp 10), none⟩,
    ⟨some 36, .indexAddr 88 (.tmp 35) (.const (.int .i64 0)), none⟩,
    ⟨some 37, .load 90 (.tmp 36), none⟩,
    ⟨some 38, .move (.tmp 2), none⟩,
    ⟨some 39, .call { callee := .value (.func 61), args := #[.tmp 37, .tmp 38], argTypes := #[90, 3] }, none⟩,
    ⟨some 40, .move (.tmp 10), none⟩,
    ⟨some 41, .indexAddr 88 (.tmp 40) (.const (.int .i64 0)), none⟩,
    ⟨some 42, .load 90 (.tmp 41), none⟩,
    ⟨some 43, .move (.tmp 2), none⟩,
    ⟨some 44, .call { callee := .value (.func 61), args := #[.tmp 42, .tmp 43], argTypes := #[90, 3] }, none⟩,
    ⟨none, .store 26 (.tmp 6) (.tmp 39), none⟩,
    ⟨none, .store 26 (.tmp 7) (.tmp 44), none⟩]
   [[], [0], [1], [], [2, 3], [], [5], [6], [], [7, 8, 4], [4, 9, 0, 1, 2, 3, 4], [9, 10, 0, 1, 2, 3, 4, 5, 6, 7, 8, 9, 10]]
@[reducible] def q17_8 : SCode := .region [⟨some 45, .move (.tmp 10), none⟩,
    ⟨some 46, .call { callee := .builtin .len, args := #[.tmp 45], argTypes := #[88] }, none⟩,
    ⟨some 47, .move (.const (.int .i64 0)), none⟩]
@[reducible] def q17_9 : SCode := .region [⟨some 48, .binOp .lss 3 (.tmp 47) (.tmp 46) 3, none⟩]
@[reducible] def q17_10 : SCode := .region [⟨some 49, .indexAddr 88 (.tmp 45) (.tmp 47), none⟩,
    ⟨some 50, .load 90 (.tmp 49), none⟩,
    ⟨some 12, .assign (.tmp 50), none⟩]
@[reducible] def q17_11 : SCode := .region [⟨some 51, .move (.tmp 12), none⟩,
    ⟨some 52, .move (.tmp 2), none⟩,
    ⟨some 53, .call { callee := .value (.func 61), args := #[.tmp 51, .tmp 52], argTypes := #[90, 3] }, none⟩,
    ⟨some 13, .alloc 26, none⟩,
    ⟨none, .store 26 (.tmp 13) (.tmp 53), none⟩]
@[reducible] def q17_12 : SCode := .region [⟨some 54, .load 26 (.tmp 13), none⟩,
    ⟨some 55, .load 26 (.tmp 6), none⟩,
    ⟨some 56, .call { callee := .value (.func 62), args := #[.tmp 54, .tmp 55], argTypes := #[26, 26] }, none⟩]
@[reducible] def q17_13 : SCode := .region [⟨some 57, .load 26 (.tmp 13), none⟩,
    ⟨none, .store 26 (.tmp 6) (.tmp 57), none⟩]
@[reducible] def q17_14 : SCode := .region [⟨some 58, .load 26 (.tmp 7), none⟩,
    ⟨some 59, .load 26 (.tmp 13), none⟩,
    ⟨some 60, .call { callee := .value (.func 62), args := #[.tmp 58, .tmp 59], argTypes := #[26, 26] }, none⟩]
@[reducible] def q17_15 : SCode := .region [⟨some 61, .load 26 (.tmp 13), none⟩,
    ⟨none, .store 26 (.tmp 7) (.tmp 61), none⟩]
@[reducible] def q17_16 : SCode := .region [⟨some 62, .binOp .add 3 (.tmp 47) (.const (.int .i64 1)) 3, none⟩,
    ⟨some 47, .move (.tmp 62), none⟩]
def l17_0 : SCode := (.seq q17_9 (.seq (.cond (.tmp 48) .skip (.exit 0)) (.seq (.block 1 (.seq q17_10 (.seq q17_11 (.seq q17_12 (.cond (.tmp 56) q17_13 (.seq q17_14 (.cond (.tmp 60) q17_15 .skip))))))) q17_16)))
def q17_17 : SCode := .draw [⟨some 63, .load 26 (.tmp 6), none⟩,
    ⟨some 64, .load 26 (.tmp 7), none⟩,
    ⟨none, .store 26 (.tmp 6) (.tmp 63), none⟩,
    ⟨none, .store 26 (.tmp 7) (.tmp 64), none⟩,
    ⟨some 8, .assign (.const (.int .i64 0)), none⟩]
   [[], [], [0, 0], [1, 2, 0, 1, 2], [3, 0, 1, 2, 3]]
def s17 : SCode := (.seq q17_0 (.seq q17_1 (.seq (.seq q17_2 (.cond (.tmp 25) (.seq q17_3 .ret) .skip)) (.seq q17_4 (.seq (.seq q17_5 (.cond (.tmp 32) (.seq q17_6 .ret) .skip)) (.seq q17_7 (.seq (.seq q17_8 (.block 0 (.loop l17_0))) (.seq q17_17 .ret))))))))
theorem s17_strip : Yc (Zx Try.f17) = s17 := by kernel_rfl
theorem s17_ok : Yp 65 (Zx Try.f17) = true := by kernel_rfl
end Go.Proofs.Try.Am

namespace Go.Proofs.Try.Am
open Go.Am
set_option maxRecDepth 100000
set_option maxHeartbeats 1000000

theorem cloneF_call [Tabs prog] {h : Zh} {v : Value} {ps : List (Int × Int)} (hv : PairSl h v ps) (hl : ps.length < 1099511627776) : ACall prog 57 [v] h fun r h' => PairSl h' r ps ∧ Ext (fun _ => False) h h' := by
  refine s57_call (by simp) ?_
  have hv' := hv
  rcases hv with ⟨rfl, rfl⟩ | ⟨b, o, sp, cap, c, e, ro, rfl, hc, hb, hx⟩
  · simp (maxSteps := 2000000) only [s57, ↓Za, ↓Zt, ↓Zy, ↓Zb, ↓Zc, ↓vdn, vup, cond_true, cond_false, aop, Zg, Zo, ev, sput, Zf, Yi, Nat.reduceBEq, Zv, Xw, tup, tyf, Option.isSome_some]
    exact ⟨.inl ⟨rfl, rfl⟩, Ext.refl _ _⟩
  · simp (maxSteps := 2000000) only [s57, ↓Za, ↓Zw, ↓Zt, ↓Zy, ↓Zb, ↓Zc, ↓vdn, vup, List.map_cons, List.map_nil, cond_true, cond_false, aop, Zg, Zo, ev, sput, Zf, Yi, Zl, Nat.reduceBEq, Zv, Xw, tup, tyf, Option.isSome_some]
    simp only [Yq, el_47, zero_26, Vg, reps, fillL, mkb, Xa]
    refine And.intro rfl (And.intro (by decide) (And.intro (Nat.zero_le _) ?_))
    refine (hv'.grow [.ints [] 26 false]).copy app_47_47 hl (by rw [List.getElem?_append_right (Nat.le_refl _)]; simp) ?_
    intro r g hr
    exact ⟨hr, by rw [List.append_assoc]; exact Ext.app _ _ _⟩
theorem min8 (n : Nat) : (if (8 : Int) < n then 8 else (n : Int)) = ((min n 8 : Nat) : Int) := by split <;> omega
theorem take_min {α : Type} (l : List α) (k : Nat) : l.take (min l.length k) = l.take k := by
  by_cases h : l.length ≤ k
  · rw [Nat.min_eq_left h, List.take_length, List.take_of_length_le h]
  · rw [Nat.min_eq_right (by omega)]
theorem fracs_call [Tabs prog] {h : Zh} {v : Value} {ps : List (Int × Int)} (hv : PairSl h v ps) : ACall prog 32 [v] h fun r h' => PairSl h' r (ps.take 8) ∧ Ext (fun _ => False) h h' := by
  refine s32_call (by simp) ?_
  simp (maxSteps := 2000000) only [s32, ↓Za, ↓Zt, ↓Zy, ↓Zb, ↓Zc, vup, List.map_cons, List.map_nil, cond_true, cond_false, aop, Zg, Zo, ev, sput, Zf, Zl, Nat.reduceBEq, Zv, Xw, tup, tyf, hv.len, mmK, Bool.false_eq_true, if_false, gt_iff_lt, min8, Option.map_none, Option.map_some]
  refine hv.pre el_47 Vg (Nat.min_le_left _ _) ?_
  intro v' hv'
  rw [take_min] at hv'
  simp (maxSteps := 2000000) only [Yt, List.nil_append, List.append_nil]
  exact cloneF_call hv' (by simp; omega)

theorem pairs_eq {xs ys : List (Int × Int)} (hl : xs.length = ys.length) (k : Nat) (hk : k ≤ xs.length) (h : ∀ i, i < k → xs.getD i (0, 0) = ys.getD i (0, 0)) (hk2 : k = xs.length) : xs = ys := by
  subst hk2
  apply List.ext_getElem hl
  intro i h1 h2
  have := h i h1
  rwa [List.getD, List.getD, List.getElem?_eq_getElem h1, List.getElem?_eq_getElem h2] at this

theorem s35_callW [Tabs Try.prog] {args : List Value} {h : Zh} {Q : Value → Zh → Prop} (hsz : args.length ≤ 26) (hk : AWS Try.prog 26 s35 (Zv Try.prog [.tmp 4] Q) (Zo 0 args) h) : ACall Try.prog 35 args h Q :=
  Yr Try.func35 rfl (enters_of Try.func35 (by kernel_rfl) rfl) rfl rfl (by decide) s35_strip s35_ok hsz hk
theorem equalF_call [Tabs prog] {h : Zh} {u v : Value} {xs ys : List (Int × Int)} (hu : PairSl h u xs) (hv : PairSl h v ys) (hl : xs.length < 9223372036854775808) : Xc prog 35 [u, v] h (.bool (decide (xs = ys))) := by
  refine s35_callW (by simp) ?_
  simp only [s35]
  refine Ze fun N1 hN1 => ?_
  simp (maxSteps := 2000000) only [↓Za, ↓Zb, ↓Zc, vup, cond_false, aop, Zg, Zo, ev, sput, Zf, Nat.reduceBEq, Nat.reduceAdd]
  refine hN1 [(0, u), (1, v), (4, .bool false)] _ _ ?_ (by simp (maxSteps := 2000000) only [vup, cond_true, cond_false, Nat.reduceBEq])
  clear hN1
  try clear N1
  by_cases hn : xs.length = ys.length
  · have hne : (((xs.length : Nat) : Int) != ((ys.length : Nat) : Int)) = false := by simp [hn]
    refine Ze fun N2 hN2 => ?_
    simp (maxSteps := 2000000) only [↓Za, ↓Zw, ↓Zt, ↓Zy, ↓Zb, ↓Zc, ↓vdn, vup, List.map_cons, List.map_nil, cond_true, cond_false, aop, Zg, ev, sput, Zf, Yi, Yo, Zl, Nat.reduceBEq, Zv, Xw, tup, tyf, hu.len, hv.len, hne]
    refine hN2 [(0, u), (1, v), (4, .bool false)] _ _ ?_ (by simp (maxSteps := 2000000) only [vup, cond_true, cond_false, Nat.reduceBEq])
    clear hN2
    try clear N2
    refine Zn fun Z hZ => ?_
    refine Ze fun N3 hN3 => ?_
    simp (maxSteps := 2000000) only [↓Za, ↓Zb, ↓Zc, vup, List.map_cons, List.map_nil, cond_true, cond_false, aop, Zg, ev, sput, Zf, Zl, Nat.reduceBEq, tyf, hu.len]
    refine hN3 [(0, u), (1, v), (4, .bool false), (11, u), (12, Zd xs.length), (13, .int .i64 0)] _ _ ?_ (by simp (maxSteps := 2000000) only [vup, cond_true, cond_false, Nat.reduceBEq])
    clear hN3
    try clear N3
    refine Zp ?_
    refine Ya fun Q hQ => ?_
    refine Xb (γ := Nat) (fun k => k ≤ xs.length ∧ ∀ i, i < k → xs.getD i (0, 0) = ys.getD i (0, 0))
      (fun k => ([(0, u), (1, v), (4, .bool false), (11, u), (12, Zd xs.length), (13, Zd (k : Nat))], h)) (fun k => xs.length - k) 0 ⟨Nat.zero_le _, fun i hi => by omega⟩ (by simp (maxSteps := 2000000) only [vup, cond_true, cond_false, Nat.reduceBEq, Int.natCast_zero]) rfl ?_
    rintro k ⟨hk, hall⟩
    refine Ya fun Q2 hQ2 => ?_
    simp only [l35_0]
    by_cases hin : (k : Int) < xs.length
    · have hk' : k < xs.length := by omega
      have hky : k < ys.length := by omega
      refine Ze fun N4 hN4 => ?_
      simp (maxSteps := 2000000) only [↓Za, ↓Zb, ↓Zc, vup, cond_true, cond_false, aop, Zg, ev, sput, Zf, Yi, Yo, Nat.reduceBEq, hin]
      refine hN4 [(0, u), (1, v), (4, .bool false), (11, u), (12, Zd xs.length), (13, Zd (k : Nat)), (14, .bool true)] _ _ ?_ (by simp (maxSteps := 2000000) only [vup, cond_true, cond_false, Nat.reduceBEq])
      clear hN4
      try clear N4
      refine Ze fun N5 hN5 => ?_
      simp (maxSteps := 2000000) only [↓Zw, ↓vdn, vup, cond_true, cond_false, Zg, ev, Nat.reduceBEq]
      refine hN5 [(0, u), (1, v), (4, .bool false), (11, u), (12, Zd xs.length), (13, Zd (k : Nat))] _ _ ?_ (by simp (maxSteps := 2000000) only [vup, cond_true, cond_false, Nat.reduceBEq])
      clear hN5
      try clear N5
      refine Zn fun B hB => ?_
      refine Zp ?_
      refine Ze fun N6 hN6 => ?_
      simp (maxSteps := 2000000) only [↓Za, ↓Zb, ↓Zc, vup, cond_true, cond_false, aop, Zg, ev, sput, Zf, Nat.reduceBEq]
      refine hN6 [(0, u), (1, v), (4, .bool false), (5, Zd (k : Nat)), (11, u), (12, Zd xs.length), (13, Zd (k : Nat))] _ _ ?_ (by simp (maxSteps := 2000000) only [vup, cond_true, cond_false, Nat.reduceBEq])
      clear hN6
      try clear N6
      obtain ⟨⟨x, y⟩, hxy⟩ : ∃ p, xs.getD k (0, 0) = p := ⟨_, rfl⟩
      obtain ⟨⟨z, w⟩, hzw⟩ : ∃ p, ys.getD k (0, 0) = p := ⟨_, rfl⟩
      refine Zi ?_
      simp only [q35_6]
      refine aw_cut fun D hD => ?_
      refine Xj [] (by kernel_rfl) (by kernel_rfl) (by kernel_rfl) (by kernel_rfl) ?_
      simp (maxSteps := 2000000) only [↓Yh, ↓vdn, vup, cond_true, cond_false, aop, Zg, ev, sput, Zf, Yi, Yo, Nat.reduceBEq, Nat.reduceAdd, hu.idx el_47 Vg hk', hu.load shp_26 hk', hv.idx el_47 Vg hky, hv.load shp_26 hky, hxy, hzw, Xa, Option.map_some, List.length_cons, List.length_nil, Nat.zero_add, eqF]
      refine hD _ _ ?_
      by_cases he : x = z ∧ y = w
      · obtain ⟨rfl, rfl⟩ := he
        have hb : (([x, y] : List Int) != [x, y]) = false := by simp
        simp (maxSteps := 2000000) only [↓Zw, ↓vdn, vup, cond_true, cond_false, Zg, Zs, ev, Nat.reduceBEq, hb]
        refine hB [(0, u), (1, v), (4, .bool false), (11, u), (12, Zd xs.length), (13, Zd (k : Nat))] _ _ ?_ (by simp (maxSteps := 2000000) only [vup, cond_true, cond_false, Nat.reduceBEq])
        clear hB
        try clear B
        refine Zi ?_
        simp (maxSteps := 2000000) only [↓Za, ↓Zb, ↓Zc, vup, cond_true, cond_false, aop, ev, sput, Zf, Yi, Yo, Nat.reduceBEq, add1 (show k < 9223372036854775807 by omega)]
        refine hQ2 _ _ _ ⟨k + 1, ⟨hk', fun i hi => ?_⟩, by omega, by simp (maxSteps := 2000000) only [vup, cond_true, cond_false, Nat.reduceBEq], rfl⟩
        rcases Nat.lt_or_ge i k with h1 | h1
        · exact hall i h1
        · rw [show i = k by omega, hxy, hzw]
      · have hb : (([x, y] : List Int) != [z, w]) = true := by
          simp only [bne, Bool.not_eq_true', beq_eq_false_iff_ne, ne_eq, List.cons.injEq, and_true]
          exact he
        simp (maxSteps := 2000000) only [↓Za, ↓Zt, ↓Zy, ↓Zb, ↓Zc, ↓vdn, vup, cond_true, cond_false, aop, Zg, Zs, ev, sput, Zf, Nat.reduceBEq, hb]
        refine hQ2 _ _ _ (hQ _ _ _ ?_)
        have hd : decide (xs = ys) = false := by
          rw [decide_eq_false_iff_not]
          rintro rfl
          rw [hxy] at hzw
          exact he (Prod.mk.inj hzw)
        simp (maxSteps := 2000000) only [vup, cond_true, cond_false, Zg, Zs, Nat.reduceBEq, Zv, Xw, tup, hd]
    · obtain rfl : k = xs.length := by omega
      refine Ze fun N7 hN7 => ?_
      simp (maxSteps := 2000000) only [↓Za, ↓Zb, ↓Zc, vup, cond_true, cond_false, aop, Zg, ev, sput, Zf, Yi, Yo, Nat.reduceBEq, hin]
      refine hN7 [(0, u), (1, v), (4, .bool false), (11, u), (12, Zd xs.length), (13, Zd xs.length), (14, .bool false)] _ _ ?_ (by simp (maxSteps := 2000000) only [vup, cond_true, cond_false, Nat.reduceBEq])
      clear hN7
      try clear N7
      refine Ze fun N8 hN8 => ?_
      simp (maxSteps := 2000000) only [↓Xh, ↓vdn, vup, cond_true, cond_false, Zg, ev, Nat.reduceBEq]
      refine hQ2 _ _ _ (hQ _ _ _ ?_)
      simp (maxSteps := 2000000) only [Zg, Zs, Zv, if_true]
      refine hZ [(0, u), (1, v), (4, .bool false), (11, u), (12, Zd xs.length), (13, Zd xs.length), (14, .bool false)] _ _ ?_ (by simp (maxSteps := 2000000) only [vup, cond_true, cond_false, Nat.reduceBEq])
      clear hZ
      try clear Z
      refine Zi ?_
      have hd : decide (xs = ys) = true := by
        rw [decide_eq_true_eq]; exact pairs_eq hn _ (Nat.le_refl _) hall rfl
      simp (maxSteps := 2000000) only [↓Za, ↓Zt, ↓Zy, ↓Zb, ↓Zc, vup, cond_true, cond_false, aop, Zg, ev, sput, Zf, Nat.reduceBEq, Zv, Xw, tup, hd]
  · have hne : (((xs.length : Nat) : Int) != ((ys.length : Nat) : Int)) = true := by
      have : ¬ ((xs.length : Nat) : Int) = ((ys.length : Nat) : Int) := by omega
      simpa [bne] using this
    refine Zi ?_
    have hd : decide (xs = ys) = false := by
      rw [decide_eq_false_iff_not]
      rintro rfl; exact hn rfl
    simp (maxSteps := 2000000) only [↓Za, ↓Zw, ↓Zt, ↓aw_block, ↓Zy, ↓Zb, ↓Zc, ↓vdn, vup, List.map_cons, List.map_nil, cond_true, cond_false, aop, Zg, ev, sput, Zf, Yi, Yo, Zl, Nat.reduceBEq, Zv, Xw, tup, tyf, hu.len, hv.len, hne, hd]
end Go.Proofs.Try.Am
