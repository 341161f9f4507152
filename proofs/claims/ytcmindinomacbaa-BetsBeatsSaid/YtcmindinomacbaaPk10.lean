/-
  bets: the reference's elimination.
  bets: the reference's corner.
-/
import Derived.Test.YtcmindinomacbaaPk9
import Derived.Test.YtcmindinomacbaaPk5
set_option linter.all false
namespace Go.Proofs.Try.Am
open Go.Am Bq
set_option maxRecDepth 100000
set_option maxHeartbeats 4000000

def Sml (m k : Nat) (S : Xw) : Prop := ∀ i c, i < m → c ≤ k → (S i c).num.natAbs ≤ 8640 ∧ (S i c).den ≤ 720
theorem sy_sml {m k : Nat} {T S : Xw} (s : Sy m k T) (hk : k ≤ 5) {j : Nat} (hj : j ≤ k) (hr : Yw m T j = some S) : Sml m k S := fun i c hi hc => by
  obtain ⟨D, h1, h2, h3⟩ := s.parts hk hj hr
  obtain ⟨x, h4, h5⟩ := h3 i c hi hc
  exact ⟨Nat.le_trans h4.le h5, Nat.le_trans h4.den_le h2⟩
theorem mul_le3 {a b c d : Nat} (h1 : a ≤ b) (h2 : c ≤ d) (h3 : b * d < 9223372036854775808) : a * c < 9223372036854775808 := Nat.lt_of_le_of_lt (Nat.mul_le_mul h1 h2) h3
theorem rclear_call [Tabs prog] {h : Zh} {p f r : Rat} (hp : p.num.natAbs ≤ 8640 ∧ p.den ≤ 720) (hf : f.num.natAbs ≤ 8640 ∧ f.den ≤ 720) (hr : r.num.natAbs ≤ 8640 ∧ r.den ≤ 720) :
    Xp prog 66 [Zc (-1)] h (qV (((-1 : Int)) : Rat)) ∧ Xp prog 97 [qV f, qV r] h (qV (f * r)) ∧ Xp prog 97 [qV (((-1 : Int)) : Rat), qV (f * r)] h (qV ((((-1 : Int)) : Rat) * (f * r))) ∧ Xp prog 67 [qV p, qV ((((-1 : Int)) : Rat) * (f * r))] h (qV (p - f * r)) := by
  have m1 := (Rp.own f).mul (Rp.own r)
  have n1 : (f * r).num.natAbs ≤ 74649600 := Nat.le_trans m1.le (by rw [Int.natAbs_mul]; exact Nat.mul_le_mul hf.1 hr.1)
  have d1 : (f * r).den ≤ 518400 := Nat.le_trans m1.den_le (Nat.mul_le_mul hf.2 hr.2)
  have m2 := (show Rp 1 (-1) (((-1 : Int)) : Rat) from ⟨by decide, by decide +kernel⟩).mul (Rp.own (f * r))
  have n2 : ((((-1 : Int)) : Rat) * (f * r)).num.natAbs ≤ 74649600 := Nat.le_trans m2.le (by omega)
  have d2 : ((((-1 : Int)) : Rat) * (f * r)).den ≤ 518400 := Nat.le_trans m2.den_le (by omega)
  refine ⟨rwhole_call, rtimes_call (by rw [Int.natAbs_mul]; exact mul_le3 hf.1 hr.1 (by decide)) (mul_le3 hf.2 hr.2 (by decide)), rtimes_call (by rw [show (((-1 : Int)) : Rat).num = -1 from rfl]; omega) (by rw [show (((-1 : Int)) : Rat).den = 1 from rfl]; omega), ?_⟩
  have e : p - f * r = p + (((-1 : Int)) : Rat) * (f * r) := by rw [show (((-1 : Int)) : Rat) = -1 from rfl]; grind
  rw [e]
  refine rplus_call ?_ (mul_le3 hp.2 d2 (by decide))
  rw [Int.natAbs_mul, Int.natAbs_mul, Int.natAbs_natCast, Int.natAbs_natCast]
  have a1 := Nat.mul_le_mul hp.1 d2
  have a2 := Nat.mul_le_mul n2 hp.2
  omega

abbrev tE104 : SCode := .seq q104_26 (.block 6 (.loop l104_7))
theorem relim_call [Tabs prog] {G : Zh} {n B m k C : Nat} {w0 : Nat → Value} {bk0 : Nat → Nat} {T0 : Xw} {v wv sv : Value} (M0 : Mat G B m k w0 bk0 T0) (hC : m ≤ C) (hm1 : 1 ≤ m) (hm : m ≤ 100) (hk1 : 1 ≤ k) (hk : k ≤ 5) (hsy : Sy m k T0)
    {rest : SCode} {Q : Exit → Env → Zh → Prop}
    (hno : Xl m k T0 = none → ∀ e G', Ext (Tch B m bk0) G G' → sget e 6 = .slice none 0 0 → sget e 7 = .bool false → Q .ret e G')
    (hyes : ∀ S w bk G', Yw m T0 k = some S → Mat G' B m k w bk S → Ext (Tch B m bk0) G G' → (∀ i, i < m → Tch B m bk0 (bk i)) → AWS prog 264 rest Q [(0, Zc (n : Nat)), (1, v), (2, sv), (6, .slice none 0 0), (7, .bool false), (8, wv), (10, .slice (some ⟨B, 0, some 0⟩) m C), (15, Zc (k : Nat))] G') :
    AWS prog 264 (.seq tE104 rest) Q [(0, Zc (n : Nat)), (1, v), (2, sv), (6, .slice none 0 0), (7, .bool false), (8, wv), (10, .slice (some ⟨B, 0, some 0⟩) m C), (15, Zc (k : Nat))] G := by
  refine Zl fun Z hZ => ?_
  refine Ze fun N1 hN1 => ?_
  simp (maxSteps := 2000000) only [↓Za, ↓Zb, ↓Zd, vup, cond_true, cond_false, aop, Zf, ev, sput, Zg, Nat.reduceBEq]
  refine hN1 [(0, Zc (n : Nat)), (1, v), (2, sv), (6, .slice none 0 0), (7, .bool false), (8, wv), (10, .slice (some ⟨B, 0, some 0⟩) m C), (15, Zc (k : Nat)), (104, Zc (k : Nat)), (105, .int .i64 0)] _ _ ?_ (by simp (maxSteps := 2000000) only [vup, cond_true, cond_false, Nat.reduceBEq])
  clear hN1
  try clear N1
  refine Zm ?_
  refine Zo fun Q1 hQ1 => ?_
  refine Yi (γ := Nat × Zh × (Nat → Value) × (Nat → Nat) × Xw) (fun s => s.1 ≤ k ∧ Yw m T0 s.1 = some s.2.2.2.2 ∧ Mat s.2.1 B m k s.2.2.1 s.2.2.2.1 s.2.2.2.2 ∧ Ext (Tch B m bk0) G s.2.1 ∧ ∀ i, i < m → Tch B m bk0 (s.2.2.2.1 i))
    (fun s => ([(0, Zc (n : Nat)), (1, v), (2, sv), (6, .slice none 0 0), (7, .bool false), (8, wv), (10, .slice (some ⟨B, 0, some 0⟩) m C), (15, Zc (k : Nat)), (104, Zc (k : Nat)), (105, Zc (s.1 : Nat))], s.2.1)) (fun s => k - s.1) (0, G, w0, bk0, T0) ⟨Nat.zero_le _, rfl, M0, Ext.refl _ _, fun i hi => .inr ⟨i, hi, rfl⟩⟩ (by simp (maxSteps := 2000000) only [vup, cond_true, cond_false, Nat.reduceBEq, Int.natCast_zero]) rfl ?_
  rintro ⟨j, hp, w, bk, T⟩ ⟨hj, hrun, M, hE, hS⟩
  simp only at hj hrun M hE hS
  refine Zo fun Q2 hQ2 => ?_
  simp only [l104_7]
  by_cases hin : (j : Int) < k
  · have hjk : j < k := by omega
    have hjm : j ≤ m := by
      obtain ⟨π, g⟩ := elim_gi hrun
      exact g.jm
    have idxJ : ∀ {i : Nat} {K : Value → Prop}, i < m → Xa prog 94 (.slice (some ⟨B, 0, some 0⟩) m C) (Zc (i : Nat)) K = K (.pointer (some ⟨B, i, none⟩)) := fun {i K} hi => Mat.idxN i hi
    refine Ze fun N2 hN2 => ?_
    simp (maxSteps := 2000000) only [↓Za, ↓Zb, ↓Zd, vup, cond_true, cond_false, aop, Zf, ev, sput, Zg, Yb, Ye, Nat.reduceBEq, hin]
    refine hN2 [(0, Zc (n : Nat)), (1, v), (2, sv), (6, .slice none 0 0), (7, .bool false), (8, wv), (10, .slice (some ⟨B, 0, some 0⟩) m C), (15, Zc (k : Nat)), (104, Zc (k : Nat)), (105, Zc (j : Nat)), (106, .bool true)] _ _ ?_ (by simp (maxSteps := 2000000) only [vup, cond_true, cond_false, Nat.reduceBEq])
    clear hN2
    try clear N2
    refine Ze fun N3 hN3 => ?_
    simp (maxSteps := 2000000) only [↓Zr, ↓vdn, vup, cond_true, cond_false, Zf, ev, Nat.reduceBEq]
    refine hN3 [(0, Zc (n : Nat)), (1, v), (2, sv), (6, .slice none 0 0), (7, .bool false), (8, wv), (10, .slice (some ⟨B, 0, some 0⟩) m C), (15, Zc (k : Nat)), (104, Zc (k : Nat)), (105, Zc (j : Nat))] _ _ ?_ (by simp (maxSteps := 2000000) only [vup, cond_true, cond_false, Nat.reduceBEq])
    clear hN3
    try clear N3
    refine Zl fun Y hY => ?_
    refine Zm ?_
    refine Ze fun N4 hN4 => ?_
    simp (maxSteps := 2000000) only [↓Za, ↓Zb, ↓Zd, vup, cond_true, cond_false, aop, Zf, ev, sput, Zg, Nat.reduceBEq]
    refine hN4 [(0, Zc (n : Nat)), (1, v), (2, sv), (6, .slice none 0 0), (7, .bool false), (8, wv), (10, .slice (some ⟨B, 0, some 0⟩) m C), (15, Zc (k : Nat)), (16, Zc (j : Nat)), (104, Zc (k : Nat)), (105, Zc (j : Nat))] _ _ ?_ (by simp (maxSteps := 2000000) only [vup, cond_true, cond_false, Nat.reduceBEq])
    clear hN4
    try clear N4
    refine Ze fun N5 hN5 => ?_
    simp (maxSteps := 2000000) only [↓Za, ↓Zb, ↓Zd, vup, cond_true, cond_false, aop, Zf, ev, sput, Zg, Nat.reduceBEq]
    refine hN5 [(0, Zc (n : Nat)), (1, v), (2, sv), (6, .slice none 0 0), (7, .bool false), (8, wv), (10, .slice (some ⟨B, 0, some 0⟩) m C), (15, Zc (k : Nat)), (16, Zc (j : Nat)), (17, Zc (j : Nat)), (104, Zc (k : Nat)), (105, Zc (j : Nat))] _ _ ?_ (by simp (maxSteps := 2000000) only [vup, cond_true, cond_false, Nat.reduceBEq])
    clear hN5
    try clear N5
    refine Zl fun X hX => ?_
    -- behind the search
    have none0 : Xl m k T0 = none → ∀ e G', Ext (Tch B m bk0) G G' → sget e 6 = .slice none 0 0 → sget e 7 = .bool false → Q2 .ret e G' := fun h0 e G' g1 g2 g3 => by
      refine hQ2 _ _ _ (hQ1 _ _ _ ?_)
      simp (maxSteps := 2000000) only [Zf, Zp]
      exact hno h0 e G' g1 g2 g3
    have cont : ∀ p, j ≤ p → p ≤ m → (∀ i, j ≤ i → i < p → T i j = 0) → (p < m → T p j ≠ 0) → ∀ e, ELe e [(0, Zc (n : Nat)), (1, v), (2, sv), (6, .slice none 0 0), (7, .bool false), (8, wv), (10, .slice (some ⟨B, 0, some 0⟩) m C), (15, Zc (k : Nat)), (16, Zc (j : Nat)), (17, Zc (p : Nat)), (104, Zc (k : Nat)), (105, Zc (j : Nat))] → X e hp := by
      intro p hjp hpm hz hnz e he
      refine hX _ _ _ ?_ he
      by_cases hpe : p = m
      · -- none
        obtain rfl : m = p := hpe.symm
        have hf : findP m j T = none := findP_none fun i h1 h2 => hz i h1 h2
        have hs : Xl m k T0 = none := by
          have : ∀ d, Yw m T0 (j + 1 + d) = none := by
            intro d
            induction d with
            | zero =>
              show (Yw m T0 j).bind (Wd m j) = none
              rw [hrun]
              show Wd m j T = none
              rw [Wd, hf]; rfl
            | succ d ih => rw [← Nat.add_assoc, Yw, ih]; rfl
          rw [Xl, show k = j + 1 + (k - (j + 1)) by omega, this]; rfl
        have heq : (((m : Nat) : Int) == ((m : Nat) : Int)) = true := by simp
        refine Zl fun D hD => ?_
        refine Ze fun N6 hN6 => ?_
        simp (maxSteps := 2000000) only [↓Za, ↓Zb, ↓Zd, vup, List.map_cons, List.map_nil, cond_true, cond_false, aop, Zf, ev, sput, Zg, Yb, Ye, Zk, Nat.reduceBEq, tyf, lenK, heq]
        refine hN6 [(0, Zc (n : Nat)), (1, v), (2, sv), (6, .slice none 0 0), (7, .bool false), (8, wv), (10, .slice (some ⟨B, 0, some 0⟩) m C), (15, Zc (k : Nat)), (16, Zc (j : Nat)), (17, Zc (m : Nat)), (104, Zc (k : Nat)), (105, Zc (j : Nat)), (129, .bool true)] _ _ ?_ (by simp (maxSteps := 2000000) only [vup, cond_true, cond_false, Nat.reduceBEq])
        clear hN6
        try clear N6
        refine Yu rfl ?_
        refine Zi ?_
        simp (maxSteps := 2000000) only [↓Za, ↓Zu, ↓Zx, ↓Zb, ↓Zd, vup, cond_true, cond_false, aop, Zf, Zp, ev, sput, Zg, Nat.reduceBEq]
        exact none0 hs _ _ hE rfl rfl
      have hpm' : p < m := by omega
      have hjm' : j < m := by omega
      have hf : findP m j T = some p := findP_at hjp hpm' (hnz hpm') hz
      have hne : (((p : Nat) : Int) == ((m : Nat) : Int)) = false := by rw [beq_eq_false_iff_ne]; omega
      refine Zl fun D hD => ?_
      refine Ze fun N7 hN7 => ?_
      simp (maxSteps := 2000000) only [↓Za, ↓Zb, ↓Zd, vup, List.map_cons, List.map_nil, cond_true, cond_false, aop, Zf, ev, sput, Zg, Yb, Ye, Zk, Nat.reduceBEq, tyf, lenK, hne]
      refine hN7 [(0, Zc (n : Nat)), (1, v), (2, sv), (6, .slice none 0 0), (7, .bool false), (8, wv), (10, .slice (some ⟨B, 0, some 0⟩) m C), (15, Zc (k : Nat)), (16, Zc (j : Nat)), (17, Zc (p : Nat)), (104, Zc (k : Nat)), (105, Zc (j : Nat)), (129, .bool false)] _ _ ?_ (by simp (maxSteps := 2000000) only [vup, cond_true, cond_false, Nat.reduceBEq])
      clear hN7
      try clear N7
      refine Yf rfl ?_
      refine Zi ?_
      simp (maxSteps := 2000000) only [↓Zr, Zf]
      refine hD [(0, Zc (n : Nat)), (1, v), (2, sv), (6, .slice none 0 0), (7, .bool false), (8, wv), (10, .slice (some ⟨B, 0, some 0⟩) m C), (15, Zc (k : Nat)), (16, Zc (j : Nat)), (17, Zc (p : Nat)), (104, Zc (k : Nat)), (105, Zc (j : Nat))] _ _ ?_ (by simp (maxSteps := 2000000) only [vup, cond_true, cond_false, Nat.reduceBEq])
      clear hD
      try clear D
      -- two rows change places
      obtain ⟨h1, H2, st1, st2, M2, hE2, hk2⟩ := M.swap hpm' hjm'
      have hE2 : Ext (Tch B m bk0) G H2 := hE.trans (hE2.mono fun b hb => .inl hb)
      have hS2 : ∀ i, i < m → Tch B m bk0 (swp p j bk i) := fun i hi => by
        simp only [swp]; split
        · exact hS j hjm'
        · split
          · exact hS p hpm'
          · exact hS i hi
      have hTp : T p j ≠ 0 := hnz hpm'
      have hnext : Yw m T0 (j + 1) = some (Vp j (Uf j (Wu j p T))) := by
        show (Yw m T0 j).bind (Wd m j) = _
        rw [hrun]
        show Wd m j T = _
        rw [Wd, hf]; rfl
      have s0 := sy_sml hsy hk hj hrun
      have s1 := sy_sml hsy hk (show j + 1 ≤ k by omega) hnext
      rw [swapT_comm] at hnext s1
      have hU0 : Wu p j T j j ≠ 0 := by rw [swapT_comm]; simp only [Wu, if_true]; exact hTp
      have sU : Sml m k (Wu p j T) := fun i c hi hc => by
        simp only [Wu]
        split
        · exact s0 j c hjm' hc
        · split
          · exact s0 p c hpm' hc
          · exact s0 i c hi hc
      have M1 : ∀ K : Value → Prop, Xj prog h1 47 (.pointer (some ⟨B, j, none⟩)) K = Xj prog h1 47 (.pointer (some ⟨B, j, none⟩)) K := fun K => rfl
      refine Ze fun N8 hN8 => ?_
      simp (maxSteps := 2000000) only [↓Za, ↓Zb, ↓Zd, vup, cond_true, cond_false, aop, Zf, ev, sput, Zg, Nat.reduceBEq, idxJ hpm', M.loadRow hpm']
      refine hN8 [(0, Zc (n : Nat)), (1, v), (2, sv), (6, .slice none 0 0), (7, .bool false), (8, wv), (10, .slice (some ⟨B, 0, some 0⟩) m C), (15, Zc (k : Nat)), (16, Zc (j : Nat)), (17, Zc (p : Nat)), (18, w p), (104, Zc (k : Nat)), (105, Zc (j : Nat))] _ _ ?_ (by simp (maxSteps := 2000000) only [vup, cond_true, cond_false, Nat.reduceBEq])
      clear hN8
      try clear N8
      refine Ze fun N9 hN9 => ?_
      simp (maxSteps := 2000000) only [↓Za, ↓Zb, ↓Zd, vup, cond_true, cond_false, aop, Zf, ev, sput, Zg, Nat.reduceBEq, idxJ hpm', idxJ hjm', M.loadRow hjm', st1]
      refine hN9 [(0, Zc (n : Nat)), (1, v), (2, sv), (6, .slice none 0 0), (7, .bool false), (8, wv), (10, .slice (some ⟨B, 0, some 0⟩) m C), (15, Zc (k : Nat)), (16, Zc (j : Nat)), (17, Zc (p : Nat)), (18, w p), (104, Zc (k : Nat)), (105, Zc (j : Nat))] _ _ ?_ (by simp (maxSteps := 2000000) only [vup, cond_true, cond_false, Nat.reduceBEq])
      clear hN9
      try clear N9
      refine Ze fun N10 hN10 => ?_
      simp (maxSteps := 2000000) only [↓Za, ↓Zb, ↓Zd, vup, cond_true, cond_false, aop, Zf, ev, sput, Zg, Nat.reduceBEq, idxJ hjm', st2]
      have hwj : swp p j w j = w p := by simp only [swp]; by_cases h : j = p <;> simp [h]
      obtain ⟨w', hw'⟩ : ∃ w', w' = swp p j w := ⟨_, rfl⟩
      obtain ⟨bk', hbk'⟩ : ∃ w', w' = swp p j bk := ⟨_, rfl⟩
      obtain ⟨U, hU⟩ : ∃ U, U = Wu p j T := ⟨_, rfl⟩
      rw [← hw', ← hbk', ← hU] at M2
      rw [← hbk'] at hS2
      rw [← hU] at hnext s1 hU0 sU
      rw [← hw'] at hwj
      rw [← hwj]
      refine hN10 [(0, Zc (n : Nat)), (1, v), (2, sv), (6, .slice none 0 0), (7, .bool false), (8, wv), (10, .slice (some ⟨B, 0, some 0⟩) m C), (15, Zc (k : Nat)), (16, Zc (j : Nat)), (17, Zc (p : Nat)), (18, w' j), (104, Zc (k : Nat)), (105, Zc (j : Nat))] _ _ ?_ (by simp (maxSteps := 2000000) only [vup, cond_true, cond_false, Nat.reduceBEq])
      clear hN10
      try clear N10
      clear hk2 st1 st2 h1 M1 s0 hw' hbk' hU hwj
      -- what it is divided by
      obtain ⟨H3, hH3⟩ : ∃ H3, H3 = H2 ++ [fC (U j j).num (U j j).den] := ⟨_, rfl⟩
      have b19 : H3[H2.length]? = some (fC (U j j).num (U j j).den) := by rw [hH3]; exact Zz _ _
      have M3 : Mat H3 B m k w' bk' U := by rw [hH3]; exact M2.ext (Ext.app _ _ _)
      have hE3 : Ext (Tch B m bk0) G H3 := by rw [hH3]; exact hE2.trans (Ext.app _ _ _)
      refine Ze fun N11 hN11 => ?_
      simp (maxSteps := 2000000) only [↓Za, ↓Zb, ↓Zd, vup, cond_true, cond_false, aop, Zf, ev, sput, Zg, Nat.reduceBEq, tyf, M2.idxR hjm' (show j ≤ k by omega), M2.loadE hjm' (show j ≤ k by omega), Xo, Yn]
      simp only [qV, frV, Vr (Zz H2 z0) rfl, Wi]
      rw [← hH3]
      refine hN11 [(0, Zc (n : Nat)), (1, v), (2, sv), (6, .slice none 0 0), (7, .bool false), (8, wv), (10, .slice (some ⟨B, 0, some 0⟩) m C), (15, Zc (k : Nat)), (16, Zc (j : Nat)), (17, Zc (p : Nat)), (18, w' j), (19, .pointer (some ⟨H2.length, 0, none⟩)), (104, Zc (k : Nat)), (105, Zc (j : Nat))] _ _ ?_ (by simp (maxSteps := 2000000) only [vup, cond_true, cond_false, Nat.reduceBEq])
      clear hN11
      try clear N11
      have hT1 : ∀ i c, Vp j (Uf j U) i c = if i = j then U j c / U j j else U i c - U i j * (U j c / U j j) := fun i c => by
        simp only [Vp, Uf]
        by_cases h : i = j
        · simp [h]
        · simp [h]
      have hlen3 : H2.length < H3.length := by rw [hH3]; simp
      -- the row is divided
      refine Zl fun V hV => ?_
      refine Ze fun N12 hN12 => ?_
      simp (maxSteps := 2000000) only [↓Za, ↓Zb, ↓Zd, vup, List.map_cons, List.map_nil, cond_true, cond_false, aop, Zf, ev, sput, Zg, Zk, Nat.reduceBEq, tyf, M3.lenR hjm']
      refine hN12 [(0, Zc (n : Nat)), (1, v), (2, sv), (6, .slice none 0 0), (7, .bool false), (8, wv), (10, .slice (some ⟨B, 0, some 0⟩) m C), (15, Zc (k : Nat)), (16, Zc (j : Nat)), (17, Zc (p : Nat)), (18, w' j), (19, .pointer (some ⟨H2.length, 0, none⟩)), (104, Zc (k : Nat)), (105, Zc (j : Nat)), (149, w' j), (150, Zc ((k + 1 : Nat) : Int)), (151, .int .i64 0)] _ _ ?_ (by simp (maxSteps := 2000000) only [vup, cond_true, cond_false, Nat.reduceBEq])
      clear hN12
      try clear N12
      refine Zm ?_
      refine Zo fun Qa hQa => ?_
      refine Yi (γ := Nat × Zh) (fun s => s.1 ≤ k + 1 ∧ Mat s.2 B m k w' bk' (normTo j s.1 U) ∧ Ext (Tch B m bk0) G s.2 ∧ s.2[H2.length]? = some (fC (U j j).num (U j j).den))
        (fun s => ([(0, Zc (n : Nat)), (1, v), (2, sv), (6, .slice none 0 0), (7, .bool false), (8, wv), (10, .slice (some ⟨B, 0, some 0⟩) m C), (15, Zc (k : Nat)), (16, Zc (j : Nat)), (17, Zc (p : Nat)), (18, w' j), (19, .pointer (some ⟨H2.length, 0, none⟩)), (104, Zc (k : Nat)), (105, Zc (j : Nat)), (149, w' j), (150, Zc ((k + 1 : Nat) : Int)), (151, Zc (s.1 : Nat))], s.2)) (fun s => k + 1 - s.1) (0, H3) ⟨Nat.zero_le _, by simp only; rw [normTo_zero]; exact M3, hE3, b19⟩ (by simp (maxSteps := 2000000) only [vup, cond_true, cond_false, Nat.reduceBEq, Int.natCast_zero]) rfl ?_
      rintro ⟨c, F⟩ ⟨hc, MG, hEG, g19⟩
      simp only at hc MG hEG g19
      refine Zo fun Qb hQb => ?_
      simp only [l104_4]
      by_cases hcin : (c : Int) < ((k + 1 : Nat) : Int)
      · have hc' : c ≤ k := by omega
        have u1 := sU j c hjm' hc'
        have u2 := sU j j hjm' (by omega)
        have ov : Xp prog 96 [qV (U j c), qV (U j j)] F (qV (U j c / U j j)) := by
          refine rover_call hU0 ?_ ?_
          · rw [Int.natAbs_mul, Int.natAbs_natCast]; exact mul_le3 u1.1 u2.2 (by decide)
          · rw [Int.natAbs_mul, Int.natAbs_natCast]; exact mul_le3 u1.2 u2.1 (by decide)
        obtain ⟨F', st, MG', hEG', hk'⟩ := MG.storeE hjm' hc' (U j c / U j j)
        rw [normTo_succ] at MG'
        refine Ze fun N13 hN13 => ?_
        simp (maxSteps := 2000000) only [↓Za, ↓Zb, ↓Zd, vup, cond_true, cond_false, aop, Zf, ev, sput, Zg, Yb, Ye, Nat.reduceBEq, hcin]
        refine hN13 [(0, Zc (n : Nat)), (1, v), (2, sv), (6, .slice none 0 0), (7, .bool false), (8, wv), (10, .slice (some ⟨B, 0, some 0⟩) m C), (15, Zc (k : Nat)), (16, Zc (j : Nat)), (17, Zc (p : Nat)), (18, w' j), (19, .pointer (some ⟨H2.length, 0, none⟩)), (104, Zc (k : Nat)), (105, Zc (j : Nat)), (149, w' j), (150, Zc ((k + 1 : Nat) : Int)), (151, Zc (c : Nat)), (152, .bool true)] _ _ ?_ (by simp (maxSteps := 2000000) only [vup, cond_true, cond_false, Nat.reduceBEq])
        clear hN13
        try clear N13
        refine Ze fun N14 hN14 => ?_
        simp (maxSteps := 2000000) only [↓Zr, ↓vdn, vup, cond_true, cond_false, Zf, ev, Nat.reduceBEq]
        refine hN14 [(0, Zc (n : Nat)), (1, v), (2, sv), (6, .slice none 0 0), (7, .bool false), (8, wv), (10, .slice (some ⟨B, 0, some 0⟩) m C), (15, Zc (k : Nat)), (16, Zc (j : Nat)), (17, Zc (p : Nat)), (18, w' j), (19, .pointer (some ⟨H2.length, 0, none⟩)), (104, Zc (k : Nat)), (105, Zc (j : Nat)), (149, w' j), (150, Zc ((k + 1 : Nat) : Int)), (151, Zc (c : Nat))] _ _ ?_ (by simp (maxSteps := 2000000) only [vup, cond_true, cond_false, Nat.reduceBEq])
        clear hN14
        try clear N14
        refine Zl fun W hW => ?_
        refine Zm ?_
        refine Ze fun N15 hN15 => ?_
        simp (maxSteps := 2000000) only [↓Za, ↓Zb, ↓Zd, vup, cond_true, cond_false, aop, Zf, ev, sput, Zg, Nat.reduceBEq]
        refine hN15 [(0, Zc (n : Nat)), (1, v), (2, sv), (6, .slice none 0 0), (7, .bool false), (8, wv), (10, .slice (some ⟨B, 0, some 0⟩) m C), (15, Zc (k : Nat)), (16, Zc (j : Nat)), (17, Zc (p : Nat)), (18, w' j), (19, .pointer (some ⟨H2.length, 0, none⟩)), (20, Zc (c : Nat)), (104, Zc (k : Nat)), (105, Zc (j : Nat)), (149, w' j), (150, Zc ((k + 1 : Nat) : Int)), (151, Zc (c : Nat))] _ _ ?_ (by simp (maxSteps := 2000000) only [vup, cond_true, cond_false, Nat.reduceBEq])
        clear hN15
        try clear N15
        refine Zi ?_
        simp only [q104_41]
        refine Xx [(7, 1)] (by kernel_rfl) (by kernel_rfl) (by kernel_rfl) (by kernel_rfl) ?_
        simp (maxSteps := 2000000) only [↓Yt, ↓vdn, vup, List.map_cons, List.map_nil, cond_true, cond_false, aop, Zf, Zp, ev, sput, Zg, Nat.reduceBEq, Nat.reduceAdd, MG.idxR hjm' hc', MG.loadE hjm' hc', normTo_at, loadF g19, Yy, List.nil_append, List.append_nil]
        refine ⟨_, _, ov, rfl, ?_⟩
        simp (maxSteps := 2000000) only [st]
        refine hW [(0, Zc (n : Nat)), (1, v), (2, sv), (6, .slice none 0 0), (7, .bool false), (8, wv), (10, .slice (some ⟨B, 0, some 0⟩) m C), (15, Zc (k : Nat)), (16, Zc (j : Nat)), (17, Zc (p : Nat)), (18, w' j), (19, .pointer (some ⟨H2.length, 0, none⟩)), (104, Zc (k : Nat)), (105, Zc (j : Nat)), (149, w' j), (150, Zc ((k + 1 : Nat) : Int)), (151, Zc (c : Nat))] _ _ ?_ (by simp (maxSteps := 2000000) only [vup, cond_true, cond_false, Nat.reduceBEq])
        clear hW
        try clear W
        refine Zi ?_
        simp (maxSteps := 2000000) only [↓Za, ↓Zb, ↓Zd, vup, cond_true, cond_false, aop, ev, sput, Zg, Yb, Ye, Nat.reduceBEq, Vt (show c < 9223372036854775807 by omega)]
        have n19 : H2.length ≠ bk' j := fun he => by
          obtain ⟨cc, xs, e1, e2, e3⟩ := MG.row j hjm'
          rw [← he, g19] at e3; cases e3
        refine hQb _ _ _ ⟨(c + 1, F'), ⟨by simp only; omega, MG', hEG.trans (hEG'.mono fun b hb => by rw [hb]; exact hS2 j hjm'), by simp only; rw [hk' _ n19]; exact g19⟩, by simp only; omega, by simp (maxSteps := 2000000) only [vup, cond_true, cond_false, Nat.reduceBEq], rfl⟩
      obtain rfl : c = k + 1 := by omega
      refine Ze fun N16 hN16 => ?_
      simp (maxSteps := 2000000) only [↓Za, ↓Zb, ↓Zd, vup, cond_true, cond_false, aop, Zf, ev, sput, Zg, Yb, Ye, Nat.reduceBEq, hcin]
      refine hN16 [(0, Zc (n : Nat)), (1, v), (2, sv), (6, .slice none 0 0), (7, .bool false), (8, wv), (10, .slice (some ⟨B, 0, some 0⟩) m C), (15, Zc (k : Nat)), (16, Zc (j : Nat)), (17, Zc (p : Nat)), (18, w' j), (19, .pointer (some ⟨H2.length, 0, none⟩)), (104, Zc (k : Nat)), (105, Zc (j : Nat)), (149, w' j), (150, Zc ((k + 1 : Nat) : Int)), (151, Zc ((k + 1 : Nat) : Int)), (152, .bool false)] _ _ ?_ (by simp (maxSteps := 2000000) only [vup, cond_true, cond_false, Nat.reduceBEq])
      clear hN16
      try clear N16
      refine Ze fun N17 hN17 => ?_
      simp (maxSteps := 2000000) only [↓Ym, ↓vdn, vup, cond_true, cond_false, Zf, ev, Nat.reduceBEq]
      refine hQb _ _ _ (hQa _ _ _ ?_)
      simp (maxSteps := 2000000) only [Zf, Zp, if_true]
      refine hV [(0, Zc (n : Nat)), (1, v), (2, sv), (6, .slice none 0 0), (7, .bool false), (8, wv), (10, .slice (some ⟨B, 0, some 0⟩) m C), (15, Zc (k : Nat)), (16, Zc (j : Nat)), (18, w' j), (104, Zc (k : Nat)), (105, Zc (j : Nat)), (152, .bool false)] _ _ ?_ (by simp (maxSteps := 2000000) only [vup, cond_true, cond_false, Nat.reduceBEq])
      clear hV
      try clear V
      have MV : Mat F B m k w' bk' (Uf j U) := MG.congr fun i d hi hd => normTo_all U hd
      clear MG g19 b19 M3 M2 hE2 hlen3
      obtain ⟨V, hV⟩ : ∃ V, V = Uf j U := ⟨_, rfl⟩
      rw [← hV] at MV hnext s1
      have hVj : ∀ c, Vp j V j c = V j c := fun c => by simp [Vp]
      have hVi : ∀ i, i ≠ j → V i = U i := fun i hi => by rw [hV]; funext d; simp [Uf, hi]
      -- the other rows are cleared
      refine Ze fun N18 hN18 => ?_
      simp (maxSteps := 2000000) only [↓Za, ↓Zb, ↓Zd, vup, List.map_cons, List.map_nil, cond_true, cond_false, aop, Zf, ev, sput, Zg, Zk, Nat.reduceBEq, tyf, lenK]
      refine hN18 [(0, Zc (n : Nat)), (1, v), (2, sv), (6, .slice none 0 0), (7, .bool false), (8, wv), (10, .slice (some ⟨B, 0, some 0⟩) m C), (15, Zc (k : Nat)), (16, Zc (j : Nat)), (18, w' j), (104, Zc (k : Nat)), (105, Zc (j : Nat)), (152, .bool false), (164, .slice (some ⟨B, 0, some 0⟩) m C), (165, Zc (m : Nat)), (166, .int .i64 0)] _ _ ?_ (by simp (maxSteps := 2000000) only [vup, cond_true, cond_false, Nat.reduceBEq])
      clear hN18
      try clear N18
      refine Zm ?_
      refine Zo fun Qa hQa => ?_
      refine Yi (γ := Nat × Zh) (fun s => s.1 ≤ m ∧ Mat s.2 B m k w' bk' (Xe j s.1 V) ∧ Ext (Tch B m bk0) G s.2)
        (fun s => ([(0, Zc (n : Nat)), (1, v), (2, sv), (6, .slice none 0 0), (7, .bool false), (8, wv), (10, .slice (some ⟨B, 0, some 0⟩) m C), (15, Zc (k : Nat)), (16, Zc (j : Nat)), (18, w' j), (104, Zc (k : Nat)), (105, Zc (j : Nat)), (152, .bool false), (164, .slice (some ⟨B, 0, some 0⟩) m C), (165, Zc (m : Nat)), (166, Zc (s.1 : Nat))], s.2)) (fun s => m - s.1) (0, F) ⟨Nat.zero_le _, by simp only; rw [elimRows_zero]; exact MV, hEG⟩ (by simp (maxSteps := 2000000) only [vup, cond_true, cond_false, Nat.reduceBEq, Int.natCast_zero]) rfl ?_
      rintro ⟨r, G1⟩ ⟨hr, MR, hER⟩
      simp only at hr MR hER
      refine Zo fun Qb hQb => ?_
      simp only [l104_6]
      by_cases hrin : (r : Int) < (m : Int)
      · have hr' : r < m := by omega
        obtain ⟨er1, er2⟩ := elimRows_row j r V
        refine Ze fun N19 hN19 => ?_
        simp (maxSteps := 2000000) only [↓Za, ↓Zb, ↓Zd, vup, cond_true, cond_false, aop, Zf, ev, sput, Zg, Yb, Ye, Nat.reduceBEq, hrin]
        refine hN19 [(0, Zc (n : Nat)), (1, v), (2, sv), (6, .slice none 0 0), (7, .bool false), (8, wv), (10, .slice (some ⟨B, 0, some 0⟩) m C), (15, Zc (k : Nat)), (16, Zc (j : Nat)), (18, w' j), (104, Zc (k : Nat)), (105, Zc (j : Nat)), (152, .bool false), (164, .slice (some ⟨B, 0, some 0⟩) m C), (165, Zc (m : Nat)), (166, Zc (r : Nat)), (167, .bool true)] _ _ ?_ (by simp (maxSteps := 2000000) only [vup, cond_true, cond_false, Nat.reduceBEq])
        clear hN19
        try clear N19
        refine Ze fun N20 hN20 => ?_
        simp (maxSteps := 2000000) only [↓Zr, ↓vdn, vup, cond_true, cond_false, Zf, ev, Nat.reduceBEq]
        refine hN20 [(0, Zc (n : Nat)), (1, v), (2, sv), (6, .slice none 0 0), (7, .bool false), (8, wv), (10, .slice (some ⟨B, 0, some 0⟩) m C), (15, Zc (k : Nat)), (16, Zc (j : Nat)), (18, w' j), (104, Zc (k : Nat)), (105, Zc (j : Nat)), (152, .bool false), (164, .slice (some ⟨B, 0, some 0⟩) m C), (165, Zc (m : Nat)), (166, Zc (r : Nat))] _ _ ?_ (by simp (maxSteps := 2000000) only [vup, cond_true, cond_false, Nat.reduceBEq])
        clear hN20
        try clear N20
        refine Zl fun W hW => ?_
        refine Zm ?_
        refine Ze fun N21 hN21 => ?_
        simp (maxSteps := 2000000) only [↓Za, ↓Zb, ↓Zd, vup, cond_true, cond_false, aop, Zf, ev, sput, Zg, Nat.reduceBEq]
        refine hN21 [(0, Zc (n : Nat)), (1, v), (2, sv), (6, .slice none 0 0), (7, .bool false), (8, wv), (10, .slice (some ⟨B, 0, some 0⟩) m C), (15, Zc (k : Nat)), (16, Zc (j : Nat)), (18, w' j), (21, Zc (r : Nat)), (104, Zc (k : Nat)), (105, Zc (j : Nat)), (152, .bool false), (164, .slice (some ⟨B, 0, some 0⟩) m C), (165, Zc (m : Nat)), (166, Zc (r : Nat))] _ _ ?_ (by simp (maxSteps := 2000000) only [vup, cond_true, cond_false, Nat.reduceBEq])
        clear hN21
        try clear N21
        obtain ⟨G2, hG2⟩ : ∃ G2, G2 = G1 ++ [fC (V r j).num (V r j).den] := ⟨_, rfl⟩
        have b22 : G2[G1.length]? = some (fC (V r j).num (V r j).den) := by rw [hG2]; exact Zz _ _
        have M2 : Mat G2 B m k w' bk' (Xe j r V) := by rw [hG2]; exact MR.ext (Ext.app _ _ _)
        have hE2 : Ext (Tch B m bk0) G G2 := by rw [hG2]; exact hER.trans (Ext.app _ _ _)
        refine Ze fun N22 hN22 => ?_
        simp (maxSteps := 2000000) only [↓Za, ↓Zb, ↓Zd, vup, cond_true, cond_false, aop, Zf, ev, sput, Zg, Nat.reduceBEq, tyf, idxJ hr', MR.loadRow hr', MR.idxR hr' (show j ≤ k by omega), MR.loadE hr' (show j ≤ k by omega), er1, Xo, Yn]
        simp only [qV, frV, Vr (Zz G1 z0) rfl, Wi]
        rw [← hG2]
        refine hN22 [(0, Zc (n : Nat)), (1, v), (2, sv), (6, .slice none 0 0), (7, .bool false), (8, wv), (10, .slice (some ⟨B, 0, some 0⟩) m C), (15, Zc (k : Nat)), (16, Zc (j : Nat)), (18, w' j), (21, Zc (r : Nat)), (22, .pointer (some ⟨G1.length, 0, none⟩)), (104, Zc (k : Nat)), (105, Zc (j : Nat)), (152, .bool false), (164, .slice (some ⟨B, 0, some 0⟩) m C), (165, Zc (m : Nat)), (166, Zc (r : Nat))] _ _ ?_ (by simp (maxSteps := 2000000) only [vup, cond_true, cond_false, Nat.reduceBEq])
        clear hN22
        try clear N22
        have fin : ∀ e H, Mat H B m k w' bk' (Xe j (r + 1) V) → Ext (Tch B m bk0) G H → ELe e [(0, Zc (n : Nat)), (1, v), (2, sv), (6, .slice none 0 0), (7, .bool false), (8, wv), (10, .slice (some ⟨B, 0, some 0⟩) m C), (15, Zc (k : Nat)), (16, Zc (j : Nat)), (18, w' j), (104, Zc (k : Nat)), (105, Zc (j : Nat)), (152, .bool false), (164, .slice (some ⟨B, 0, some 0⟩) m C), (165, Zc (m : Nat)), (166, Zc (r : Nat))] → W e H := by
          intro e H f1 f2 he
          refine hW _ _ _ ?_ he
          refine Zi ?_
          simp (maxSteps := 2000000) only [↓Za, ↓Zb, ↓Zd, vup, cond_true, cond_false, aop, ev, sput, Zg, Yb, Ye, Nat.reduceBEq, Vt (show r < 9223372036854775807 by omega)]
          exact hQb _ _ _ ⟨(r + 1, H), ⟨hr', f1, f2⟩, by simp only; omega, by simp (maxSteps := 2000000) only [vup, cond_true, cond_false, Nat.reduceBEq], rfl⟩
        refine Ze fun N23 hN23 => ?_
        simp (maxSteps := 2000000) only [↓Za, ↓Zb, ↓Zd, vup, List.map_cons, List.map_nil, cond_true, cond_false, aop, Zf, ev, sput, Zg, Zk, Nat.reduceBEq, tyf, M2.lenR hjm']
        refine hN23 [(0, Zc (n : Nat)), (1, v), (2, sv), (6, .slice none 0 0), (7, .bool false), (8, wv), (10, .slice (some ⟨B, 0, some 0⟩) m C), (15, Zc (k : Nat)), (16, Zc (j : Nat)), (18, w' j), (21, Zc (r : Nat)), (22, .pointer (some ⟨G1.length, 0, none⟩)), (104, Zc (k : Nat)), (105, Zc (j : Nat)), (152, .bool false), (164, .slice (some ⟨B, 0, some 0⟩) m C), (165, Zc (m : Nat)), (166, Zc (r : Nat)), (176, w' j), (177, Zc ((k + 1 : Nat) : Int)), (178, .int .i64 0)] _ _ ?_ (by simp (maxSteps := 2000000) only [vup, cond_true, cond_false, Nat.reduceBEq])
        clear hN23
        try clear N23
        refine Zm ?_
        by_cases hrj : r = j
        · have hne : (((r : Nat) : Int) != ((j : Nat) : Int)) = false := by simp [hrj]
          refine Zo fun Qc hQc => ?_
          refine Yi (γ := Nat) (fun c => c ≤ k + 1) (fun c => ([(0, Zc (n : Nat)), (1, v), (2, sv), (6, .slice none 0 0), (7, .bool false), (8, wv), (10, .slice (some ⟨B, 0, some 0⟩) m C), (15, Zc (k : Nat)), (16, Zc (j : Nat)), (18, w' j), (21, Zc (r : Nat)), (22, .pointer (some ⟨G1.length, 0, none⟩)), (104, Zc (k : Nat)), (105, Zc (j : Nat)), (152, .bool false), (164, .slice (some ⟨B, 0, some 0⟩) m C), (165, Zc (m : Nat)), (166, Zc (r : Nat)), (176, w' j), (177, Zc ((k + 1 : Nat) : Int)), (178, Zc (c : Nat))], G2)) (fun c => k + 1 - c) 0 (Nat.zero_le _) (by simp (maxSteps := 2000000) only [vup, cond_true, cond_false, Nat.reduceBEq, Int.natCast_zero]) rfl ?_
          rintro c hc
          refine Zo fun Qd hQd => ?_
          simp only [l104_5]
          by_cases hcin : (c : Int) < ((k + 1 : Nat) : Int)
          · have hc' : c ≤ k := by omega
            refine Ze fun N24 hN24 => ?_
            simp (maxSteps := 2000000) only [↓Za, ↓Zb, ↓Zd, vup, cond_true, cond_false, aop, Zf, ev, sput, Zg, Yb, Ye, Nat.reduceBEq, hcin]
            refine hN24 [(0, Zc (n : Nat)), (1, v), (2, sv), (6, .slice none 0 0), (7, .bool false), (8, wv), (10, .slice (some ⟨B, 0, some 0⟩) m C), (15, Zc (k : Nat)), (16, Zc (j : Nat)), (18, w' j), (21, Zc (r : Nat)), (22, .pointer (some ⟨G1.length, 0, none⟩)), (104, Zc (k : Nat)), (105, Zc (j : Nat)), (152, .bool false), (164, .slice (some ⟨B, 0, some 0⟩) m C), (165, Zc (m : Nat)), (166, Zc (r : Nat)), (176, w' j), (177, Zc ((k + 1 : Nat) : Int)), (178, Zc (c : Nat)), (179, .bool true)] _ _ ?_ (by simp (maxSteps := 2000000) only [vup, cond_true, cond_false, Nat.reduceBEq])
            clear hN24
            try clear N24
            refine Ze fun N25 hN25 => ?_
            simp (maxSteps := 2000000) only [↓Zr, ↓vdn, vup, cond_true, cond_false, Zf, ev, Nat.reduceBEq]
            refine hN25 [(0, Zc (n : Nat)), (1, v), (2, sv), (6, .slice none 0 0), (7, .bool false), (8, wv), (10, .slice (some ⟨B, 0, some 0⟩) m C), (15, Zc (k : Nat)), (16, Zc (j : Nat)), (18, w' j), (21, Zc (r : Nat)), (22, .pointer (some ⟨G1.length, 0, none⟩)), (104, Zc (k : Nat)), (105, Zc (j : Nat)), (152, .bool false), (164, .slice (some ⟨B, 0, some 0⟩) m C), (165, Zc (m : Nat)), (166, Zc (r : Nat)), (176, w' j), (177, Zc ((k + 1 : Nat) : Int)), (178, Zc (c : Nat))] _ _ ?_ (by simp (maxSteps := 2000000) only [vup, cond_true, cond_false, Nat.reduceBEq])
            clear hN25
            try clear N25
            refine Zl fun D hD => ?_
            refine Zm ?_
            refine Ze fun N26 hN26 => ?_
            simp (maxSteps := 2000000) only [↓Za, ↓Zb, ↓Zd, vup, cond_true, cond_false, aop, Zf, ev, sput, Zg, Nat.reduceBEq]
            refine hN26 [(0, Zc (n : Nat)), (1, v), (2, sv), (6, .slice none 0 0), (7, .bool false), (8, wv), (10, .slice (some ⟨B, 0, some 0⟩) m C), (15, Zc (k : Nat)), (16, Zc (j : Nat)), (18, w' j), (21, Zc (r : Nat)), (22, .pointer (some ⟨G1.length, 0, none⟩)), (23, Zc (c : Nat)), (104, Zc (k : Nat)), (105, Zc (j : Nat)), (152, .bool false), (164, .slice (some ⟨B, 0, some 0⟩) m C), (165, Zc (m : Nat)), (166, Zc (r : Nat)), (176, w' j), (177, Zc ((k + 1 : Nat) : Int)), (178, Zc (c : Nat))] _ _ ?_ (by simp (maxSteps := 2000000) only [vup, cond_true, cond_false, Nat.reduceBEq])
            clear hN26
            try clear N26
            refine Ze fun N27 hN27 => ?_
            simp (maxSteps := 2000000) only [↓Za, ↓Zb, ↓Zd, vup, cond_true, cond_false, aop, Zf, ev, sput, Zg, Yb, Ye, Nat.reduceBEq, hne]
            refine hN27 [(0, Zc (n : Nat)), (1, v), (2, sv), (6, .slice none 0 0), (7, .bool false), (8, wv), (10, .slice (some ⟨B, 0, some 0⟩) m C), (15, Zc (k : Nat)), (16, Zc (j : Nat)), (18, w' j), (21, Zc (r : Nat)), (22, .pointer (some ⟨G1.length, 0, none⟩)), (23, Zc (c : Nat)), (104, Zc (k : Nat)), (105, Zc (j : Nat)), (152, .bool false), (164, .slice (some ⟨B, 0, some 0⟩) m C), (165, Zc (m : Nat)), (166, Zc (r : Nat)), (176, w' j), (177, Zc ((k + 1 : Nat) : Int)), (178, Zc (c : Nat)), (183, .bool false)] _ _ ?_ (by simp (maxSteps := 2000000) only [vup, cond_true, cond_false, Nat.reduceBEq])
            clear hN27
            try clear N27
            refine Yf rfl ?_
            refine Zi ?_
            simp (maxSteps := 2000000) only [↓Zr, Zf, Zp]
            refine hD [(0, Zc (n : Nat)), (1, v), (2, sv), (6, .slice none 0 0), (7, .bool false), (8, wv), (10, .slice (some ⟨B, 0, some 0⟩) m C), (15, Zc (k : Nat)), (16, Zc (j : Nat)), (18, w' j), (21, Zc (r : Nat)), (22, .pointer (some ⟨G1.length, 0, none⟩)), (104, Zc (k : Nat)), (105, Zc (j : Nat)), (152, .bool false), (164, .slice (some ⟨B, 0, some 0⟩) m C), (165, Zc (m : Nat)), (166, Zc (r : Nat)), (176, w' j), (177, Zc ((k + 1 : Nat) : Int)), (178, Zc (c : Nat))] _ _ ?_ (by simp (maxSteps := 2000000) only [vup, cond_true, cond_false, Nat.reduceBEq])
            clear hD
            try clear D
            refine Zi ?_
            simp (maxSteps := 2000000) only [↓Za, ↓Zb, ↓Zd, vup, cond_true, cond_false, aop, ev, sput, Zg, Yb, Ye, Nat.reduceBEq, Vt (show c < 9223372036854775807 by omega)]
            exact hQd _ _ _ ⟨c + 1, by omega, by omega, by simp (maxSteps := 2000000) only [vup, cond_true, cond_false, Nat.reduceBEq], rfl⟩
          obtain rfl : c = k + 1 := by omega
          refine Ze fun N28 hN28 => ?_
          simp (maxSteps := 2000000) only [↓Za, ↓Zb, ↓Zd, vup, cond_true, cond_false, aop, Zf, ev, sput, Zg, Yb, Ye, Nat.reduceBEq, hcin]
          refine hN28 [(0, Zc (n : Nat)), (1, v), (2, sv), (6, .slice none 0 0), (7, .bool false), (8, wv), (10, .slice (some ⟨B, 0, some 0⟩) m C), (15, Zc (k : Nat)), (16, Zc (j : Nat)), (18, w' j), (21, Zc (r : Nat)), (22, .pointer (some ⟨G1.length, 0, none⟩)), (104, Zc (k : Nat)), (105, Zc (j : Nat)), (152, .bool false), (164, .slice (some ⟨B, 0, some 0⟩) m C), (165, Zc (m : Nat)), (166, Zc (r : Nat)), (176, w' j), (177, Zc ((k + 1 : Nat) : Int)), (178, Zc ((k + 1 : Nat) : Int)), (179, .bool false)] _ _ ?_ (by simp (maxSteps := 2000000) only [vup, cond_true, cond_false, Nat.reduceBEq])
          clear hN28
          try clear N28
          refine Ze fun N29 hN29 => ?_
          simp (maxSteps := 2000000) only [↓Ym, ↓vdn, vup, cond_true, cond_false, Zf, ev, Nat.reduceBEq]
          refine hQd _ _ _ (hQc _ _ _ ?_)
          simp (maxSteps := 2000000) only [Zf, Zp, if_true]
          exact fin _ _ (M2.congr fun i d _ _ => elimRows_skip V (.inl hrj) i d) hE2 (by simp (maxSteps := 2000000) only [vup, cond_true, cond_false, Nat.reduceBEq])
        · have hne : (((r : Nat) : Int) != ((j : Nat) : Int)) = true := by
            have : ¬ ((r : Nat) : Int) = ((j : Nat) : Int) := by omega
            simpa [bne] using this
          refine Zo fun Qc hQc => ?_
          refine Yi (γ := Nat × Zh) (fun s => s.1 ≤ k + 1 ∧ Mat s.2 B m k w' bk' (Uc j r s.1 (Xe j r V)) ∧ Ext (Tch B m bk0) G s.2 ∧ s.2[G1.length]? = some (fC (V r j).num (V r j).den))
            (fun s => ([(0, Zc (n : Nat)), (1, v), (2, sv), (6, .slice none 0 0), (7, .bool false), (8, wv), (10, .slice (some ⟨B, 0, some 0⟩) m C), (15, Zc (k : Nat)), (16, Zc (j : Nat)), (18, w' j), (21, Zc (r : Nat)), (22, .pointer (some ⟨G1.length, 0, none⟩)), (104, Zc (k : Nat)), (105, Zc (j : Nat)), (152, .bool false), (164, .slice (some ⟨B, 0, some 0⟩) m C), (165, Zc (m : Nat)), (166, Zc (r : Nat)), (176, w' j), (177, Zc ((k + 1 : Nat) : Int)), (178, Zc (s.1 : Nat))], s.2)) (fun s => k + 1 - s.1) (0, G2) ⟨Nat.zero_le _, by simp only; rw [elimTo_zero]; exact M2, hE2, b22⟩ (by simp (maxSteps := 2000000) only [vup, cond_true, cond_false, Nat.reduceBEq, Int.natCast_zero]) rfl ?_
          rintro ⟨c, F⟩ ⟨hc, MG, hEG, g22⟩
          simp only at hc MG hEG g22
          refine Zo fun Qd hQd => ?_
          simp only [l104_5]
          by_cases hcin : (c : Int) < ((k + 1 : Nat) : Int)
          · have hc' : c ≤ k := by omega
            have ep : Uc j r c (Xe j r V) r c = U r c := by rw [elimTo_at, er1, hVi r hrj]
            have ej : Uc j r c (Xe j r V) j c = V j c := by rw [elimTo_other _ (Ne.symm hrj), er2]
            have u1 := sU r c hr' hc'
            have u2 := sU r j hr' (by omega)
            have u3 := s1 j c hjm' hc'
            rw [hVj] at u3
            have hVrj : V r j = U r j := by rw [hVi r hrj]
            obtain ⟨c1, c2, c3, c4⟩ := rclear_call (h := F) u1 u2 u3
            obtain ⟨F', st, MG', hEG', hk'⟩ := MG.storeE hr' hc' (U r c - U r j * V j c)
            have e1 : Xe j r V r c - Xe j r V r j * Xe j r V j c = U r c - U r j * V j c := by rw [er1, er2, hVi r hrj]
            rw [← e1, elimTo_succ] at MG'
            rw [hVrj] at g22
            refine Ze fun N30 hN30 => ?_
            simp (maxSteps := 2000000) only [↓Za, ↓Zb, ↓Zd, vup, cond_true, cond_false, aop, Zf, ev, sput, Zg, Yb, Ye, Nat.reduceBEq, hcin]
            refine hN30 [(0, Zc (n : Nat)), (1, v), (2, sv), (6, .slice none 0 0), (7, .bool false), (8, wv), (10, .slice (some ⟨B, 0, some 0⟩) m C), (15, Zc (k : Nat)), (16, Zc (j : Nat)), (18, w' j), (21, Zc (r : Nat)), (22, .pointer (some ⟨G1.length, 0, none⟩)), (104, Zc (k : Nat)), (105, Zc (j : Nat)), (152, .bool false), (164, .slice (some ⟨B, 0, some 0⟩) m C), (165, Zc (m : Nat)), (166, Zc (r : Nat)), (176, w' j), (177, Zc ((k + 1 : Nat) : Int)), (178, Zc (c : Nat)), (179, .bool true)] _ _ ?_ (by simp (maxSteps := 2000000) only [vup, cond_true, cond_false, Nat.reduceBEq])
            clear hN30
            try clear N30
            refine Ze fun N31 hN31 => ?_
            simp (maxSteps := 2000000) only [↓Zr, ↓vdn, vup, cond_true, cond_false, Zf, ev, Nat.reduceBEq]
            refine hN31 [(0, Zc (n : Nat)), (1, v), (2, sv), (6, .slice none 0 0), (7, .bool false), (8, wv), (10, .slice (some ⟨B, 0, some 0⟩) m C), (15, Zc (k : Nat)), (16, Zc (j : Nat)), (18, w' j), (21, Zc (r : Nat)), (22, .pointer (some ⟨G1.length, 0, none⟩)), (104, Zc (k : Nat)), (105, Zc (j : Nat)), (152, .bool false), (164, .slice (some ⟨B, 0, some 0⟩) m C), (165, Zc (m : Nat)), (166, Zc (r : Nat)), (176, w' j), (177, Zc ((k + 1 : Nat) : Int)), (178, Zc (c : Nat))] _ _ ?_ (by simp (maxSteps := 2000000) only [vup, cond_true, cond_false, Nat.reduceBEq])
            clear hN31
            try clear N31
            refine Zl fun D hD => ?_
            refine Zm ?_
            refine Ze fun N32 hN32 => ?_
            simp (maxSteps := 2000000) only [↓Za, ↓Zb, ↓Zd, vup, cond_true, cond_false, aop, Zf, ev, sput, Zg, Nat.reduceBEq]
            refine hN32 [(0, Zc (n : Nat)), (1, v), (2, sv), (6, .slice none 0 0), (7, .bool false), (8, wv), (10, .slice (some ⟨B, 0, some 0⟩) m C), (15, Zc (k : Nat)), (16, Zc (j : Nat)), (18, w' j), (21, Zc (r : Nat)), (22, .pointer (some ⟨G1.length, 0, none⟩)), (23, Zc (c : Nat)), (104, Zc (k : Nat)), (105, Zc (j : Nat)), (152, .bool false), (164, .slice (some ⟨B, 0, some 0⟩) m C), (165, Zc (m : Nat)), (166, Zc (r : Nat)), (176, w' j), (177, Zc ((k + 1 : Nat) : Int)), (178, Zc (c : Nat))] _ _ ?_ (by simp (maxSteps := 2000000) only [vup, cond_true, cond_false, Nat.reduceBEq])
            clear hN32
            try clear N32
            refine Ze fun N33 hN33 => ?_
            simp (maxSteps := 2000000) only [↓Za, ↓Zb, ↓Zd, vup, cond_true, cond_false, aop, Zf, ev, sput, Zg, Yb, Ye, Nat.reduceBEq, hne]
            refine hN33 [(0, Zc (n : Nat)), (1, v), (2, sv), (6, .slice none 0 0), (7, .bool false), (8, wv), (10, .slice (some ⟨B, 0, some 0⟩) m C), (15, Zc (k : Nat)), (16, Zc (j : Nat)), (18, w' j), (21, Zc (r : Nat)), (22, .pointer (some ⟨G1.length, 0, none⟩)), (23, Zc (c : Nat)), (104, Zc (k : Nat)), (105, Zc (j : Nat)), (152, .bool false), (164, .slice (some ⟨B, 0, some 0⟩) m C), (165, Zc (m : Nat)), (166, Zc (r : Nat)), (176, w' j), (177, Zc ((k + 1 : Nat) : Int)), (178, Zc (c : Nat)), (183, .bool true)] _ _ ?_ (by simp (maxSteps := 2000000) only [vup, cond_true, cond_false, Nat.reduceBEq])
            clear hN33
            try clear N33
            refine Yu rfl ?_
            refine Zi ?_
            simp only [q104_51]
            refine Xx [(12, 1), (18, 1), (19, 1), (20, 1)] (by kernel_rfl) (by kernel_rfl) (by kernel_rfl) (by kernel_rfl) ?_
            refine dops_cut 13 rfl fun N1 hN1 => ?_
            simp (maxSteps := 2000000) only [↓Yt, ↓vdn, vup, List.map_cons, List.map_nil, cond_true, cond_false, aop, ev, sput, Zg, Nat.reduceBEq, Nat.reduceAdd, List.take_succ_cons, List.take_zero, idxJ hr', MG.loadRow hr', MG.idxR hr' hc', MG.loadE hr' hc', ep, Yy, List.nil_append, List.append_nil]
            refine ⟨_, _, c1, rfl, ?_⟩
            refine hN1 _ _ ?_
            clear hN1 N1
            refine dops_cut 6 rfl fun N1 hN1 => ?_
            simp (maxSteps := 2000000) only [↓Yt, ↓vdn, vup, List.map_cons, List.map_nil, cond_true, cond_false, aop, ev, sput, Zg, Nat.reduceBEq, Nat.reduceAdd, List.drop_succ_cons, List.drop_zero, List.take_succ_cons, List.take_zero, loadF g22, MG.idxR hjm' hc', MG.loadE hjm' hc', ej, Yy, List.nil_append, List.append_nil]
            refine ⟨_, _, c2, rfl, ?_⟩
            refine hN1 _ _ ?_
            clear hN1 N1
            refine dops_cut 1 rfl fun N1 hN1 => ?_
            simp (maxSteps := 2000000) only [↓Yt, ↓vdn, vup, List.map_cons, List.map_nil, cond_true, cond_false, ev, sput, Zg, Nat.reduceBEq, Nat.reduceAdd, List.drop_succ_cons, List.drop_zero, List.take_succ_cons, List.take_zero, Yy, List.nil_append, List.append_nil]
            refine ⟨_, _, c3, rfl, ?_⟩
            refine hN1 _ _ ?_
            clear hN1 N1
            refine dops_cut 1 rfl fun N1 hN1 => ?_
            simp (maxSteps := 2000000) only [↓Yt, ↓vdn, vup, List.map_cons, List.map_nil, cond_true, cond_false, ev, sput, Zg, Nat.reduceBEq, Nat.reduceAdd, List.drop_succ_cons, List.drop_zero, List.take_succ_cons, List.take_zero, Yy, List.nil_append, List.append_nil]
            refine ⟨_, _, c4, rfl, ?_⟩
            refine hN1 _ _ ?_
            clear hN1 N1
            simp (maxSteps := 2000000) only [↓Yt, ↓vdn, vup, cond_true, cond_false, aop, Zf, Zp, ev, sput, Zg, Nat.reduceBEq, Nat.reduceAdd, List.drop_succ_cons, List.drop_zero, MG.idxR hr' hc', st]
            refine hD [(0, Zc (n : Nat)), (1, v), (2, sv), (6, .slice none 0 0), (7, .bool false), (8, wv), (10, .slice (some ⟨B, 0, some 0⟩) m C), (15, Zc (k : Nat)), (16, Zc (j : Nat)), (18, w' j), (21, Zc (r : Nat)), (22, .pointer (some ⟨G1.length, 0, none⟩)), (104, Zc (k : Nat)), (105, Zc (j : Nat)), (152, .bool false), (164, .slice (some ⟨B, 0, some 0⟩) m C), (165, Zc (m : Nat)), (166, Zc (r : Nat)), (176, w' j), (177, Zc ((k + 1 : Nat) : Int)), (178, Zc (c : Nat))] _ _ ?_ (by simp (maxSteps := 2000000) only [vup, cond_true, cond_false, Nat.reduceBEq])
            clear hD
            try clear D
            refine Zi ?_
            simp (maxSteps := 2000000) only [↓Za, ↓Zb, ↓Zd, vup, cond_true, cond_false, aop, ev, sput, Zg, Yb, Ye, Nat.reduceBEq, Vt (show c < 9223372036854775807 by omega)]
            have n22 : G1.length ≠ bk' r := fun he => by
              obtain ⟨cc, xs, e1, e2, e3⟩ := MG.row r hr'
              rw [← he, g22] at e3; cases e3
            refine hQd _ _ _ ⟨(c + 1, F'), ⟨by simp only; omega, MG', hEG.trans (hEG'.mono fun b hb => by rw [hb]; exact hS2 r hr'), by simp only; rw [hk' _ n22, hVrj]; exact g22⟩, by simp only; omega, by simp (maxSteps := 2000000) only [vup, cond_true, cond_false, Nat.reduceBEq], rfl⟩
          obtain rfl : c = k + 1 := by omega
          refine Ze fun N34 hN34 => ?_
          simp (maxSteps := 2000000) only [↓Za, ↓Zb, ↓Zd, vup, cond_true, cond_false, aop, Zf, ev, sput, Zg, Yb, Ye, Nat.reduceBEq, hcin]
          refine hN34 [(0, Zc (n : Nat)), (1, v), (2, sv), (6, .slice none 0 0), (7, .bool false), (8, wv), (10, .slice (some ⟨B, 0, some 0⟩) m C), (15, Zc (k : Nat)), (16, Zc (j : Nat)), (18, w' j), (21, Zc (r : Nat)), (22, .pointer (some ⟨G1.length, 0, none⟩)), (104, Zc (k : Nat)), (105, Zc (j : Nat)), (152, .bool false), (164, .slice (some ⟨B, 0, some 0⟩) m C), (165, Zc (m : Nat)), (166, Zc (r : Nat)), (176, w' j), (177, Zc ((k + 1 : Nat) : Int)), (178, Zc ((k + 1 : Nat) : Int)), (179, .bool false)] _ _ ?_ (by simp (maxSteps := 2000000) only [vup, cond_true, cond_false, Nat.reduceBEq])
          clear hN34
          try clear N34
          refine Ze fun N35 hN35 => ?_
          simp (maxSteps := 2000000) only [↓Ym, ↓vdn, vup, cond_true, cond_false, Zf, ev, Nat.reduceBEq]
          refine hQd _ _ _ (hQc _ _ _ ?_)
          simp (maxSteps := 2000000) only [Zf, Zp, if_true]
          exact fin _ _ (MG.congr fun i d _ hd => elimRows_next V hrj hd) hEG (by simp (maxSteps := 2000000) only [vup, cond_true, cond_false, Nat.reduceBEq])
      obtain rfl : m = r := by omega
      refine Ze fun N36 hN36 => ?_
      simp (maxSteps := 2000000) only [↓Za, ↓Zb, ↓Zd, vup, cond_true, cond_false, aop, Zf, ev, sput, Zg, Yb, Ye, Nat.reduceBEq, hrin]
      refine hN36 [(0, Zc (n : Nat)), (1, v), (2, sv), (6, .slice none 0 0), (7, .bool false), (8, wv), (10, .slice (some ⟨B, 0, some 0⟩) m C), (15, Zc (k : Nat)), (16, Zc (j : Nat)), (18, w' j), (104, Zc (k : Nat)), (105, Zc (j : Nat)), (152, .bool false), (164, .slice (some ⟨B, 0, some 0⟩) m C), (165, Zc (m : Nat)), (166, Zc (m : Nat)), (167, .bool false)] _ _ ?_ (by simp (maxSteps := 2000000) only [vup, cond_true, cond_false, Nat.reduceBEq])
      clear hN36
      try clear N36
      refine Ze fun N37 hN37 => ?_
      simp (maxSteps := 2000000) only [↓Ym, ↓vdn, vup, cond_true, cond_false, Zf, ev, Nat.reduceBEq]
      refine hQb _ _ _ (hQa _ _ _ ?_)
      simp (maxSteps := 2000000) only [Zf, Zp, if_true]
      refine hY [(0, Zc (n : Nat)), (1, v), (2, sv), (6, .slice none 0 0), (7, .bool false), (8, wv), (10, .slice (some ⟨B, 0, some 0⟩) m C), (15, Zc (k : Nat)), (104, Zc (k : Nat)), (105, Zc (j : Nat)), (152, .bool false), (167, .bool false)] _ _ ?_ (by simp (maxSteps := 2000000) only [vup, cond_true, cond_false, Nat.reduceBEq])
      clear hY
      try clear Y
      refine Zi ?_
      simp (maxSteps := 2000000) only [↓Za, ↓Zb, ↓Zd, vup, cond_true, cond_false, aop, ev, sput, Zg, Yb, Ye, Nat.reduceBEq, Vt (show j < 9223372036854775807 by omega)]
      exact hQ2 _ _ _ ⟨(j + 1, G1, w', bk', Vp j V), ⟨by simp only; omega, hnext, MR.congr fun i d hi _ => elimRows_all V hi, hER, hS2⟩, by simp only; omega, by simp (maxSteps := 2000000) only [vup, cond_true, cond_false, Nat.reduceBEq], rfl⟩
    -- the search
    refine Zm ?_
    refine Zo fun Qa hQa => ?_
    refine Yi (γ := Nat) (fun p => j ≤ p ∧ p ≤ m ∧ ∀ i, j ≤ i → i < p → T i j = 0) (fun p => ([(0, Zc (n : Nat)), (1, v), (2, sv), (6, .slice none 0 0), (7, .bool false), (8, wv), (10, .slice (some ⟨B, 0, some 0⟩) m C), (15, Zc (k : Nat)), (16, Zc (j : Nat)), (17, Zc (p : Nat)), (104, Zc (k : Nat)), (105, Zc (j : Nat))], hp)) (fun p => m - p) j ⟨Nat.le_refl _, hjm, fun i h1 h2 => by omega⟩ (by simp (maxSteps := 2000000) only [vup, cond_true, cond_false, Nat.reduceBEq]) rfl ?_
    rintro p ⟨hjp, hpm, hz⟩
    refine Zo fun Qb hQb => ?_
    simp only [l104_3]
    by_cases hpin : (p : Int) < (m : Int)
    · have hpm' : p < m := by omega
      have hbe : ((T p j).num == 0) = decide (T p j = 0) := by
        rw [Bool.eq_iff_iff]
        simp [Rat.num_eq_zero]
      by_cases h0 : T p j = 0
      · have hb1 : ((T p j).num == 0) = true := by rw [hbe]; simpa using h0
        refine Zl fun D hD => ?_
        refine Ze fun N38 hN38 => ?_
        simp (maxSteps := 2000000) only [↓Za, ↓Zb, ↓Zd, ↓vdn, vup, List.map_cons, List.map_nil, cond_true, cond_false, aop, Zf, ev, sput, Zg, Yb, Ye, Zk, Nat.reduceBEq, tyf, lenK, hpin, idxJ hpm', M.loadRow hpm', M.idxR hpm' (show j ≤ k by omega), fA0o, M.loadN hpm' (show j ≤ k by omega), hb1]
        refine hN38 [(0, Zc (n : Nat)), (1, v), (2, sv), (6, .slice none 0 0), (7, .bool false), (8, wv), (10, .slice (some ⟨B, 0, some 0⟩) m C), (15, Zc (k : Nat)), (16, Zc (j : Nat)), (17, Zc (p : Nat)), (104, Zc (k : Nat)), (105, Zc (j : Nat)), (123, .bool true)] _ _ ?_ (by simp (maxSteps := 2000000) only [vup, cond_true, cond_false, Nat.reduceBEq])
        clear hN38
        try clear N38
        refine Yu rfl ?_
        refine Zi ?_
        simp (maxSteps := 2000000) only [↓Zr, Zf]
        refine hD [(0, Zc (n : Nat)), (1, v), (2, sv), (6, .slice none 0 0), (7, .bool false), (8, wv), (10, .slice (some ⟨B, 0, some 0⟩) m C), (15, Zc (k : Nat)), (16, Zc (j : Nat)), (17, Zc (p : Nat)), (104, Zc (k : Nat)), (105, Zc (j : Nat))] _ _ ?_ (by simp (maxSteps := 2000000) only [vup, cond_true, cond_false, Nat.reduceBEq])
        clear hD
        try clear D
        refine Zm ?_
        refine Zi ?_
        simp (maxSteps := 2000000) only [↓Za, ↓Zb, ↓Zd, vup, cond_true, cond_false, aop, Zp, ev, sput, Zg, Yb, Ye, Nat.reduceBEq, Vt (show p < 9223372036854775807 by omega)]
        refine hQb _ _ _ ⟨p + 1, ⟨by omega, by omega, fun i h1 h2 => ?_⟩, by omega, by simp (maxSteps := 2000000) only [vup, cond_true, cond_false, Nat.reduceBEq], rfl⟩
        rcases Nat.lt_or_ge i p with h3 | h3
        · exact hz i h1 h3
        · rw [show i = p by omega]; exact h0
      · have hb1 : ((T p j).num == 0) = false := by rw [hbe]; simpa using h0
        refine Zl fun D hD => ?_
        refine Ze fun N39 hN39 => ?_
        simp (maxSteps := 2000000) only [↓Za, ↓Zb, ↓Zd, ↓vdn, vup, List.map_cons, List.map_nil, cond_true, cond_false, aop, Zf, ev, sput, Zg, Yb, Ye, Zk, Nat.reduceBEq, tyf, lenK, hpin, idxJ hpm', M.loadRow hpm', M.idxR hpm' (show j ≤ k by omega), fA0o, M.loadN hpm' (show j ≤ k by omega), hb1]
        refine hN39 [(0, Zc (n : Nat)), (1, v), (2, sv), (6, .slice none 0 0), (7, .bool false), (8, wv), (10, .slice (some ⟨B, 0, some 0⟩) m C), (15, Zc (k : Nat)), (16, Zc (j : Nat)), (17, Zc (p : Nat)), (104, Zc (k : Nat)), (105, Zc (j : Nat)), (123, .bool false)] _ _ ?_ (by simp (maxSteps := 2000000) only [vup, cond_true, cond_false, Nat.reduceBEq])
        clear hN39
        try clear N39
        refine Yf rfl ?_
        refine Zi ?_
        simp (maxSteps := 2000000) only [↓Ym, Zf]
        refine hQb _ _ _ (hQa _ _ _ ?_)
        simp (maxSteps := 2000000) only [Zf, Zp, if_true]
        exact cont p hjp hpm hz (fun _ => h0) _ (by simp (maxSteps := 2000000) only [vup, cond_true, cond_false, Nat.reduceBEq])
    · obtain rfl : m = p := by omega
      refine Zl fun D hD => ?_
      refine Ze fun N40 hN40 => ?_
      simp (maxSteps := 2000000) only [↓Za, ↓Zb, ↓Zd, ↓vdn, vup, List.map_cons, List.map_nil, cond_true, cond_false, aop, Zf, ev, sput, Zg, Yb, Ye, Zk, Nat.reduceBEq, tyf, lenK, hpin]
      refine hN40 [(0, Zc (n : Nat)), (1, v), (2, sv), (6, .slice none 0 0), (7, .bool false), (8, wv), (10, .slice (some ⟨B, 0, some 0⟩) m C), (15, Zc (k : Nat)), (16, Zc (j : Nat)), (17, Zc (m : Nat)), (104, Zc (k : Nat)), (105, Zc (j : Nat)), (123, .bool false)] _ _ ?_ (by simp (maxSteps := 2000000) only [vup, cond_true, cond_false, Nat.reduceBEq])
      clear hN40
      try clear N40
      refine Yf rfl ?_
      refine Zi ?_
      simp (maxSteps := 2000000) only [↓Ym, Zf]
      refine hQb _ _ _ (hQa _ _ _ ?_)
      simp (maxSteps := 2000000) only [Zf, Zp, if_true]
      exact cont m hjp hpm hz (fun h => absurd h (Nat.lt_irrefl _)) _ (by simp (maxSteps := 2000000) only [vup, cond_true, cond_false, Nat.reduceBEq])
  · obtain rfl : k = j := by omega
    refine Ze fun N41 hN41 => ?_
    simp (maxSteps := 2000000) only [↓Za, ↓Zb, ↓Zd, vup, cond_true, cond_false, aop, Zf, ev, sput, Zg, Yb, Ye, Nat.reduceBEq, hin]
    refine hN41 [(0, Zc (n : Nat)), (1, v), (2, sv), (6, .slice none 0 0), (7, .bool false), (8, wv), (10, .slice (some ⟨B, 0, some 0⟩) m C), (15, Zc (k : Nat)), (104, Zc (k : Nat)), (105, Zc (k : Nat)), (106, .bool false)] _ _ ?_ (by simp (maxSteps := 2000000) only [vup, cond_true, cond_false, Nat.reduceBEq])
    clear hN41
    try clear N41
    refine Ze fun N42 hN42 => ?_
    simp (maxSteps := 2000000) only [↓Ym, ↓vdn, vup, cond_true, cond_false, Zf, ev, Nat.reduceBEq]
    refine hQ2 _ _ _ (hQ1 _ _ _ ?_)
    simp (maxSteps := 2000000) only [Zf, Zp, if_true]
    refine hZ _ _ _ (hyes T w bk hp hrun M hE hS) ?_
    simp (maxSteps := 2000000) only [vup, cond_true, cond_false, Nat.reduceBEq]
end Go.Proofs.Try.Am

namespace Go.Proofs.Try.Am
open Go.Am Bq
set_option maxRecDepth 100000
set_option maxHeartbeats 4000000

theorem cts_of {n : Nat} {l : List (Int × Int)} (h : Xg n l = true) : Cts l := fun i hi => by
  have := (Wg h).2.2.2.2 i hi
  simp only [okB, Bool.and_eq_true, decide_eq_true_eq] at this
  exact this.2.2
theorem rest_none {m k : Nat} {T0 S : Xw} {i : Nat} (hr : Yw m T0 k = some S) (hi : k + i < m) (h0 : S (k + i) k ≠ 0) : Xl m k T0 = none := by
  rw [Xl, hr, Option.bind_some, if_pos]
  rw [restT, List.any_eq_true]
  exact ⟨k + i, List.mem_range.2 hi, by simp [h0]⟩
theorem rest_some {m k : Nat} {T0 S : Xw} (hr : Yw m T0 k = some S) (h0 : ∀ i, i < m - k → S (k + i) k = 0) : Xl m k T0 = some ((List.range k).map fun i => S i k) := by
  rw [Xl, hr, Option.bind_some, if_neg]
  rw [restT, List.any_eq_true]
  rintro ⟨i, hi, h1⟩
  simp only [Bool.and_eq_true, decide_eq_true_eq] at h1
  rw [List.mem_range] at hi
  have := h0 (i - k) (by omega)
  rw [show k + (i - k) = i by omega] at this
  exact h1.2 this

theorem fA1r {b o : Nat} {K : Value → Prop} : Yh prog 24 (.pointer (some ⟨b, o, none⟩)) 1 K = K (.pointer (some ⟨b, o + 1, none⟩)) := by
  simp [Yh, fld_24_1, Vi]
theorem fA0r {b o : Nat} {K : Value → Prop} : Yh prog 24 (.pointer (some ⟨b, o, none⟩)) 0 K = K (.pointer (some ⟨b, o, none⟩)) := by
  simp [Yh, fld_24_0, Vi]
theorem pairFldsR {h : Zh} {v : Value} {ps : List (Int × Int)} {i : Nat} (hv : PairSl h v ps) (hi : i < ps.length) : ∃ p0 p1 : Value, (∀ K : Value → Prop, Xa prog 22 v (Zc (i : Nat)) K = K p0) ∧ (∀ K : Value → Prop, Yh prog 24 p0 0 K = K p0) ∧ (∀ K : Value → Prop, Yh prog 24 p0 1 K = K p1) ∧
    (∀ K : Value → Prop, Xj prog h 3 p0 K = K (Zc (ps.getD i (0, 0)).1)) ∧ (∀ K : Value → Prop, Xj prog h 3 p1 K = K (Zc (ps.getD i (0, 0)).2)) := by
  have hidx := fun K => hv.idx el_22 esz_24 (k := .i64) hi K
  rcases hv with ⟨rfl, rfl⟩ | ⟨b, o, sp, cap, c, e', ro, rfl, _, hvw, hc⟩
  · simp at hi
  · obtain ⟨h1, h2⟩ := hc i hi
    refine ⟨.pointer (some ⟨b, o + i * 2, none⟩), .pointer (some ⟨b, o + i * 2 + 1, none⟩), hidx, fun K => fA0r, fun K => fA1r, fun K => ?_, fun K => ?_⟩
    · simp only [Xj, Wk]; exact view_cell hvw h1
    · simp only [Xj, Wk]; exact view_cell hvw h2

theorem s104_callW [Tabs Try.prog] {args : List Value} {h : Zh} {Q : Value → Zh → Prop} (hsz : args.length ≤ 264) (hk : AWS Try.prog 264 s104 (Zs Try.prog [.tmp 6, .tmp 7] Q) (Zt 0 args) h) : ACall Try.prog 104 args h Q :=
  Ys Try.func104 rfl (enters_of Try.func104 (by kernel_rfl) rfl) rfl rfl (by decide) s104_strip s104_ok hsz hk
theorem rcorner_call [Tabs prog] {h : Zh} {n s : Nat} {v : Value} {l : List (Int × Int)} (hv : PairSl h v l) (hval : Xg n l = true) (hs1 : 1 ≤ s) (hs : s < 2 ^ n) :
    ACall prog 104 [Zc (n : Nat), v, Zc (s : Nat)] h fun r h' => Ext (fun _ => False) h h' ∧ ∃ x ok, r = .tuple #[x, .bool ok] ∧ (match Wq n l s with | none => ok = false ∧ x = .slice none 0 0 | some b => ok = true ∧ BelAt h' x b ∧ ∀ bl, Yj x = some bl → h.length ≤ bl) := by
  obtain ⟨hn2, hn5, hl1, hl6, hok⟩ := Wg hval
  have hcts := cts_of hval
  have hp32 : (2 : Nat) ^ n ≤ 2 ^ 5 := Nat.pow_le_pow_right (by decide) hn5
  refine s104_callW (by simp) ?_
  simp only [s104]
  refine Ze fun N1 hN1 => ?_
  simp (maxSteps := 2000000) only [↓Za, ↓Zb, ↓Zd, vup, cond_false, aop, Zf, Zt, ev, sput, Zg, Nat.reduceBEq, Nat.reduceAdd]
  refine hN1 [(0, Zc (n : Nat)), (1, v), (2, Zc (s : Nat)), (6, .slice none 0 0), (7, .bool false)] _ _ ?_ (by simp (maxSteps := 2000000) only [vup, cond_true, cond_false, Nat.reduceBEq])
  clear hN1
  try clear N1
  refine Ze fun N2 hN2 => ?_
  simp (maxSteps := 2000000) only [↓Za, ↓Zb, ↓Zd, vup, cond_false, aop, Zf, ev, sput, Zg, Nat.reduceBEq]
  refine hN2 [(0, Zc (n : Nat)), (1, v), (2, Zc (s : Nat)), (6, .slice none 0 0), (7, .bool false), (8, .slice none 0 0)] _ _ ?_ (by simp (maxSteps := 2000000) only [vup, cond_true, cond_false, Nat.reduceBEq])
  clear hN2
  try clear N2
  -- the worlds
  refine Zl fun X hX => ?_
  refine Ze fun N3 hN3 => ?_
  simp (maxSteps := 2000000) only [↓Za, ↓Zb, ↓Zd, vup, cond_true, cond_false, aop, Zf, ev, sput, Zg, Nat.reduceBEq]
  refine hN3 [(0, Zc (n : Nat)), (1, v), (2, Zc (s : Nat)), (6, .slice none 0 0), (7, .bool false), (8, .slice none 0 0), (30, Zc (n : Nat)), (31, .int .i64 0)] _ _ ?_ (by simp (maxSteps := 2000000) only [vup, cond_true, cond_false, Nat.reduceBEq])
  clear hN3
  try clear N3
  refine Zm ?_
  refine Zo fun Qa hQa => ?_
  refine Yi (γ := Nat × Value × Zh) (fun g => g.1 ≤ n ∧ OwnSl 3 g.2.2 g.2.1 (Wh (Zj s g.1)) ∧ Ext (fun _ => False) h g.2.2 ∧ (∀ b, Yj g.2.1 = some b → h.length ≤ b))
    (fun g => ([(0, Zc (n : Nat)), (1, v), (2, Zc (s : Nat)), (6, .slice none 0 0), (7, .bool false), (8, g.2.1), (30, Zc (n : Nat)), (31, Zc (g.1 : Nat))], g.2.2)) (fun g => n - g.1) (0, .slice none 0 0, h) ⟨Nat.zero_le _, .inl ⟨rfl, rfl⟩, Ext.refl _ _, fun b hb => by cases hb⟩ (by simp (maxSteps := 2000000) only [vup, cond_true, cond_false, Nat.reduceBEq, Int.natCast_zero]) rfl ?_
  rintro ⟨k, wv, G⟩ ⟨hk, how, hEG, hbw⟩
  simp only at hk how hEG hbw
  refine Zo fun Qb hQb => ?_
  simp only [l104_0]
  by_cases hkin : (k : Int) < n
  · have hk' : k < n := by omega
    have ht := testV (y := k) (show s < 9223372036854775808 by omega)
    have hnx := Xy s k
    refine Ze fun N4 hN4 => ?_
    simp (maxSteps := 2000000) only [↓Za, ↓Zb, ↓Zd, vup, cond_true, cond_false, aop, Zf, ev, sput, Zg, Yb, Ye, Nat.reduceBEq, hkin]
    refine hN4 [(0, Zc (n : Nat)), (1, v), (2, Zc (s : Nat)), (6, .slice none 0 0), (7, .bool false), (8, wv), (30, Zc (n : Nat)), (31, Zc (k : Nat)), (32, .bool true)] _ _ ?_ (by simp (maxSteps := 2000000) only [vup, cond_true, cond_false, Nat.reduceBEq])
    clear hN4
    try clear N4
    refine Ze fun N5 hN5 => ?_
    simp (maxSteps := 2000000) only [↓Zr, ↓vdn, vup, cond_true, cond_false, Zf, ev, Nat.reduceBEq]
    refine hN5 [(0, Zc (n : Nat)), (1, v), (2, Zc (s : Nat)), (6, .slice none 0 0), (7, .bool false), (8, wv), (30, Zc (n : Nat)), (31, Zc (k : Nat))] _ _ ?_ (by simp (maxSteps := 2000000) only [vup, cond_true, cond_false, Nat.reduceBEq])
    clear hN5
    try clear N5
    refine Zl fun B hB => ?_
    refine Zm ?_
    refine Ze fun N6 hN6 => ?_
    simp (maxSteps := 2000000) only [↓Za, ↓Zb, ↓Zd, vup, cond_true, cond_false, aop, Zf, ev, sput, Zg, Nat.reduceBEq]
    refine hN6 [(0, Zc (n : Nat)), (1, v), (2, Zc (s : Nat)), (6, .slice none 0 0), (7, .bool false), (8, wv), (9, Zc (k : Nat)), (30, Zc (n : Nat)), (31, Zc (k : Nat))] _ _ ?_ (by simp (maxSteps := 2000000) only [vup, cond_true, cond_false, Nat.reduceBEq])
    clear hN6
    try clear N6
    refine Ze fun N7 hN7 => ?_
    simp (maxSteps := 2000000) only [↓Za, ↓Zb, ↓Zd, vup, cond_true, cond_false, aop, Zf, ev, sput, Zg, Yb, Ye, Nat.reduceBEq, ht, beq1, Int.natCast_nonneg]
    refine hN7 [(0, Zc (n : Nat)), (1, v), (2, Zc (s : Nat)), (6, .slice none 0 0), (7, .bool false), (8, wv), (9, Zc (k : Nat)), (30, Zc (n : Nat)), (31, Zc (k : Nat)), (38, .bool (s.testBit k))] _ _ ?_ (by simp (maxSteps := 2000000) only [vup, cond_true, cond_false, Nat.reduceBEq])
    clear hN7
    try clear N7
    cases hbit : s.testBit k with
    | false =>
      rw [hbit, if_neg (by decide), List.append_nil] at hnx
      refine Yf rfl ?_
      refine Zi ?_
      simp (maxSteps := 2000000) only [↓Zr, Zf, Zp]
      refine hB [(0, Zc (n : Nat)), (1, v), (2, Zc (s : Nat)), (6, .slice none 0 0), (7, .bool false), (8, wv), (30, Zc (n : Nat)), (31, Zc (k : Nat))] _ _ ?_ (by simp (maxSteps := 2000000) only [vup, cond_true, cond_false, Nat.reduceBEq])
      clear hB
      try clear B
      refine Zi ?_
      simp (maxSteps := 2000000) only [↓Za, ↓Zb, ↓Zd, vup, cond_true, cond_false, aop, ev, sput, Zg, Yb, Ye, Nat.reduceBEq, Vt (show k < 9223372036854775807 by omega)]
      exact hQb _ _ _ ⟨(k + 1, wv, G), ⟨hk', by simp only; rw [hnx]; exact how, hEG, hbw⟩, by simp only; omega, by simp (maxSteps := 2000000) only [vup, cond_true, cond_false, Nat.reduceBEq], rfl⟩
    | true =>
      rw [hbit, if_pos rfl] at hnx
      refine Yu rfl ?_
      refine Zi ?_
      simp (maxSteps := 2000000) only [↓Za, ↓Zb, ↓Zd, vup, List.map_cons, List.map_nil, cond_true, cond_false, aop, Zf, Zp, ev, sput, Zg, Zk, Nat.reduceBEq, litI1]
      have hwl := Va s k
      refine OwnSl.append (x := (k : Int)) (how.ext (S := fun _ => False) (Ext.app _ _ _) (fun _ _ => id)) app_38_38 (by rw [Vh]; omega) (Zz _ _) ?_
      intro wv' G' ho' hE' hb'
      rw [← castI_snoc, ← hnx] at ho'
      obtain ⟨hEn, hbn⟩ := oExt (H' := G) hEG hbw _ hE' hb'
      refine hB [(0, Zc (n : Nat)), (1, v), (2, Zc (s : Nat)), (6, .slice none 0 0), (7, .bool false), (8, wv'), (30, Zc (n : Nat)), (31, Zc (k : Nat))] _ _ ?_ (by simp (maxSteps := 2000000) only [vup, cond_true, cond_false, Nat.reduceBEq])
      clear hB
      try clear B
      refine Zi ?_
      simp (maxSteps := 2000000) only [↓Za, ↓Zb, ↓Zd, vup, cond_true, cond_false, aop, ev, sput, Zg, Yb, Ye, Nat.reduceBEq, Vt (show k < 9223372036854775807 by omega)]
      exact hQb _ _ _ ⟨(k + 1, wv', G'), ⟨hk', ho', hEn, hbn⟩, by simp only; omega, by simp (maxSteps := 2000000) only [vup, cond_true, cond_false, Nat.reduceBEq], rfl⟩
  have hkn := Vx hkin hk
  subst hkn
  refine Ze fun N8 hN8 => ?_
  simp (maxSteps := 2000000) only [↓Za, ↓Zb, ↓Zd, vup, cond_true, cond_false, aop, Zf, ev, sput, Zg, Yb, Ye, Nat.reduceBEq, hkin]
  refine hN8 [(0, Zc (n : Nat)), (1, v), (2, Zc (s : Nat)), (6, .slice none 0 0), (7, .bool false), (8, wv), (30, Zc (n : Nat)), (31, Zc (n : Nat)), (32, .bool false)] _ _ ?_ (by simp (maxSteps := 2000000) only [vup, cond_true, cond_false, Nat.reduceBEq])
  clear hN8
  try clear N8
  refine Ze fun N9 hN9 => ?_
  simp (maxSteps := 2000000) only [↓Ym, ↓vdn, vup, cond_true, cond_false, Zf, ev, Nat.reduceBEq]
  refine hQb _ _ _ (hQa _ _ _ ?_)
  simp (maxSteps := 2000000) only [Zf, Zp, Zs, if_true]
  refine hX [(0, Zc (n : Nat)), (1, v), (2, Zc (s : Nat)), (6, .slice none 0 0), (7, .bool false), (8, wv)] _ _ ?_ (by simp (maxSteps := 2000000) only [vup, cond_true, cond_false, Nat.reduceBEq])
  clear hX
  try clear X
  clear hQa hQb
  obtain ⟨W, hW⟩ : ∃ W, W = Zj s n := ⟨_, rfl⟩
  have hWN : Yr n s = W := hW.symm
  have hWl : W.length ≤ n := by rw [hW]; exact Va s n
  have hW1 : 1 ≤ W.length := by rw [← hWN]; exact worldsN_pos hs1 hs
  have hWlt : ∀ w ∈ W, w < n := fun w hw => (worldsTo_lt (by rw [← hW]; exact hw)).1
  have hsy := sysR_sy (n := n) hcts W
  have hcorner : Wq n l s = (Xl (l.length + 1) W.length (sysR n l W)).bind fun x => if x.any (fun q => decide (q < 0)) then none else some (Xm n W x W.length) := by rw [Wq, hWN, solve_R]
  rw [← hW] at how
  have hli : (Wh W).length = W.length := Vh W
  obtain ⟨T, hT⟩ : ∃ T, T = sysR n l W := ⟨_, rfl⟩
  rw [← hT] at hsy hcorner
  clear hW
  refine Ze fun N10 hN10 => ?_
  simp (maxSteps := 2000000) only [↓Za, ↓Zb, ↓Zd, vup, cond_false, aop, Zf, ev, sput, Zg, Nat.reduceBEq]
  refine hN10 [(0, Zc (n : Nat)), (1, v), (2, Zc (s : Nat)), (6, .slice none 0 0), (7, .bool false), (8, wv), (10, .slice none 0 0)] _ _ ?_ (by simp (maxSteps := 2000000) only [vup, cond_true, cond_false, Nat.reduceBEq])
  clear hN10
  try clear N10
  -- the rows
  have al : addV .i64 ((l.length : Nat) : Int) 1 = ((l.length + 1 : Nat) : Int) := Vt (by omega)
  refine Zl fun X hX => ?_
  refine Ze fun N11 hN11 => ?_
  simp (maxSteps := 2000000) only [↓Za, ↓Zb, ↓Zd, vup, List.map_cons, List.map_nil, cond_true, cond_false, aop, Zf, ev, sput, Zg, Yb, Ye, Zk, Nat.reduceBEq, tyf, hv.len, al]
  refine hN11 [(0, Zc (n : Nat)), (1, v), (2, Zc (s : Nat)), (6, .slice none 0 0), (7, .bool false), (8, wv), (10, .slice none 0 0), (44, v), (45, Zc (l.length : Nat)), (46, Zc (l.length + 1 : Nat)), (47, .int .i64 0)] _ _ ?_ (by simp (maxSteps := 2000000) only [vup, cond_true, cond_false, Nat.reduceBEq])
  clear hN11
  try clear N11
  refine Zm ?_
  refine Zo fun Qa hQa => ?_
  refine Yi (γ := Nat × Value × List Value × Zh) (fun g => g.1 ≤ l.length + 1 ∧ g.2.2.1.length = g.1 ∧ RowsN G.length g.2.2.2 g.2.1 g.2.2.1 W.length T ∧ Ext (fun _ => False) G g.2.2.2)
    (fun g => ([(0, Zc (n : Nat)), (1, v), (2, Zc (s : Nat)), (6, .slice none 0 0), (7, .bool false), (8, wv), (10, g.2.1), (44, v), (45, Zc (l.length : Nat)), (46, Zc (l.length + 1 : Nat)), (47, Zc (g.1 : Nat))], g.2.2.2)) (fun g => l.length + 1 - g.1) (0, .slice none 0 0, [], G) ⟨Nat.zero_le _, rfl, .inl ⟨rfl, rfl⟩, Ext.refl _ _⟩ (by simp (maxSteps := 2000000) only [vup, cond_true, cond_false, Nat.reduceBEq, Int.natCast_zero]) rfl ?_
  rintro ⟨i, q, ws, H⟩ ⟨hi, hwsl, R, hEH⟩
  simp only at hi hwsl R hEH
  refine Zo fun Qb hQb => ?_
  simp only [l104_2]
  by_cases hiin : (i : Int) < ((l.length + 1 : Nat) : Int)
  · have hi' : i < l.length + 1 := by omega
    obtain ⟨⟨x, y⟩, hxy⟩ : ∃ p, l.getD i (0, 0) = p := ⟨_, rfl⟩
    have hTw : ∀ c, c < W.length → T i c = if i = l.length then 1 else bitQ x.toNat (W.getD c 0) := fun c hc => by
      rw [hT]
      simp only [sysR, sysB]
      by_cases h1 : i = l.length
      · simp only [h1, if_true, hc]
        rw [bitQ_all (hWlt _ (by rw [List.getD, List.getElem?_eq_getElem hc]; exact List.getElem_mem hc))]
      · simp only [h1, if_false, hc, if_true, Nat.add_sub_cancel, hxy]
        rw [if_neg (by omega)]
    have hTr : T i W.length = if i = l.length then 1 else Rat.divInt y 12 := by
      rw [hT]
      simp only [sysR, sysB]
      by_cases h1 : i = l.length
      · simp only [h1, if_true, Nat.lt_irrefl, if_false]
      · simp only [h1, if_false, Nat.lt_irrefl, Nat.add_sub_cancel, hxy]
        rw [if_neg (by omega)]
    have hsn : ∀ c, c ≤ W.length → (rowC T W.length i).take c ++ [((T i c).num, ((T i c).den : Int))] = (rowC T W.length i).take (c + 1) := fun c hc => by
      rw [take_snoc (d := ((0, 0) : Int × Int)) (show c < (rowC T W.length i).length by rw [Ub]; omega), rowC_get T hc]; rfl
    refine Ze fun N12 hN12 => ?_
    simp (maxSteps := 2000000) only [↓Za, ↓Zb, ↓Zd, vup, cond_true, cond_false, aop, Zf, ev, sput, Zg, Yb, Ye, Nat.reduceBEq, hiin]
    refine hN12 [(0, Zc (n : Nat)), (1, v), (2, Zc (s : Nat)), (6, .slice none 0 0), (7, .bool false), (8, wv), (10, q), (44, v), (45, Zc (l.length : Nat)), (46, Zc (l.length + 1 : Nat)), (47, Zc (i : Nat)), (48, .bool true)] _ _ ?_ (by simp (maxSteps := 2000000) only [vup, cond_true, cond_false, Nat.reduceBEq])
    clear hN12
    try clear N12
    refine Ze fun N13 hN13 => ?_
    simp (maxSteps := 2000000) only [↓Zr, ↓vdn, vup, cond_true, cond_false, Zf, ev, Nat.reduceBEq]
    refine hN13 [(0, Zc (n : Nat)), (1, v), (2, Zc (s : Nat)), (6, .slice none 0 0), (7, .bool false), (8, wv), (10, q), (44, v), (45, Zc (l.length : Nat)), (46, Zc (l.length + 1 : Nat)), (47, Zc (i : Nat))] _ _ ?_ (by simp (maxSteps := 2000000) only [vup, cond_true, cond_false, Nat.reduceBEq])
    clear hN13
    try clear N13
    refine Zl fun B hB => ?_
    refine Zm ?_
    refine Ze fun N14 hN14 => ?_
    simp (maxSteps := 2000000) only [↓Za, ↓Zb, ↓Zd, vup, cond_true, cond_false, aop, Zf, ev, sput, Zg, Nat.reduceBEq]
    refine hN14 [(0, Zc (n : Nat)), (1, v), (2, Zc (s : Nat)), (6, .slice none 0 0), (7, .bool false), (8, wv), (10, q), (11, Zc (i : Nat)), (44, v), (45, Zc (l.length : Nat)), (46, Zc (l.length + 1 : Nat)), (47, Zc (i : Nat))] _ _ ?_ (by simp (maxSteps := 2000000) only [vup, cond_true, cond_false, Nat.reduceBEq])
    clear hN14
    try clear N14
    refine Ze fun N15 hN15 => ?_
    simp (maxSteps := 2000000) only [↓Za, ↓Zb, ↓Zd, vup, cond_false, aop, Zf, ev, sput, Zg, Nat.reduceBEq]
    refine hN15 [(0, Zc (n : Nat)), (1, v), (2, Zc (s : Nat)), (6, .slice none 0 0), (7, .bool false), (8, wv), (10, q), (11, Zc (i : Nat)), (12, .slice none 0 0), (44, v), (45, Zc (l.length : Nat)), (46, Zc (l.length + 1 : Nat)), (47, Zc (i : Nat))] _ _ ?_ (by simp (maxSteps := 2000000) only [vup, cond_true, cond_false, Nat.reduceBEq])
    clear hN15
    try clear N15
    refine Zl fun C hC => ?_
    refine Ze fun N16 hN16 => ?_
    simp (maxSteps := 2000000) only [↓Za, ↓Zb, ↓Zd, vup, List.map_cons, List.map_nil, cond_true, cond_false, aop, Zf, ev, sput, Zg, Zk, Nat.reduceBEq, tyf, how.int.len, hli]
    refine hN16 [(0, Zc (n : Nat)), (1, v), (2, Zc (s : Nat)), (6, .slice none 0 0), (7, .bool false), (8, wv), (10, q), (11, Zc (i : Nat)), (12, .slice none 0 0), (44, v), (45, Zc (l.length : Nat)), (46, Zc (l.length + 1 : Nat)), (47, Zc (i : Nat)), (50, wv), (51, Zc (W.length : Nat)), (52, .int .i64 0)] _ _ ?_ (by simp (maxSteps := 2000000) only [vup, cond_true, cond_false, Nat.reduceBEq])
    clear hN16
    try clear N16
    refine Zm ?_
    refine Zo fun Qc hQc => ?_
    refine Yi (γ := Nat × Value × Zh) (fun g => g.1 ≤ W.length ∧ OwnP 26 g.2.2 g.2.1 ((rowC T W.length i).take g.1) ∧ Ext (fun _ => False) H g.2.2 ∧ ∀ b, Yj g.2.1 = some b → H.length ≤ b)
      (fun g => ([(0, Zc (n : Nat)), (1, v), (2, Zc (s : Nat)), (6, .slice none 0 0), (7, .bool false), (8, wv), (10, q), (11, Zc (i : Nat)), (12, g.2.1), (44, v), (45, Zc (l.length : Nat)), (46, Zc (l.length + 1 : Nat)), (47, Zc (i : Nat)), (50, wv), (51, Zc (W.length : Nat)), (52, Zc (g.1 : Nat))], g.2.2)) (fun g => W.length - g.1) (0, .slice none 0 0, H) ⟨Nat.zero_le _, .inl ⟨rfl, by simp⟩, Ext.refl _ _, fun b hb => by cases hb⟩ (by simp (maxSteps := 2000000) only [vup, cond_true, cond_false, Nat.reduceBEq, Int.natCast_zero]) rfl ?_
    rintro ⟨c, rv, F⟩ ⟨hc, ho, hEF, hbr⟩
    simp only at hc ho hEF hbr
    refine Zo fun Qd hQd => ?_
    simp only [l104_1]
    have hvF := hv.ext (hEG.trans (hEH.trans hEF))
    by_cases hcin : (c : Int) < W.length
    · have hc' : c < W.length := by omega
      have hcc : c < (Wh W).length := by omega
      have howF := iExt how.int (hEH.trans hEF)
      have hw : W.getD c 0 < n := hWlt _ (by rw [List.getD, List.getElem?_eq_getElem hc']; exact List.getElem_mem hc')
      have hTc := hTw c hc'
      have hsc := hsn c hc
      obtain ⟨w, hwe⟩ : ∃ w, W.getD c 0 = w := ⟨_, rfl⟩
      rw [hwe] at hw hTc
      refine Ze fun N17 hN17 => ?_
      simp (maxSteps := 2000000) only [↓Za, ↓Zb, ↓Zd, vup, cond_true, cond_false, aop, Zf, ev, sput, Zg, Yb, Ye, Nat.reduceBEq, hcin]
      refine hN17 [(0, Zc (n : Nat)), (1, v), (2, Zc (s : Nat)), (6, .slice none 0 0), (7, .bool false), (8, wv), (10, q), (11, Zc (i : Nat)), (12, rv), (44, v), (45, Zc (l.length : Nat)), (46, Zc (l.length + 1 : Nat)), (47, Zc (i : Nat)), (50, wv), (51, Zc (W.length : Nat)), (52, Zc (c : Nat)), (53, .bool true)] _ _ ?_ (by simp (maxSteps := 2000000) only [vup, cond_true, cond_false, Nat.reduceBEq])
      clear hN17
      try clear N17
      refine Ze fun N18 hN18 => ?_
      simp (maxSteps := 2000000) only [↓Zr, ↓vdn, vup, cond_true, cond_false, Zf, ev, Nat.reduceBEq]
      refine hN18 [(0, Zc (n : Nat)), (1, v), (2, Zc (s : Nat)), (6, .slice none 0 0), (7, .bool false), (8, wv), (10, q), (11, Zc (i : Nat)), (12, rv), (44, v), (45, Zc (l.length : Nat)), (46, Zc (l.length + 1 : Nat)), (47, Zc (i : Nat)), (50, wv), (51, Zc (W.length : Nat)), (52, Zc (c : Nat))] _ _ ?_ (by simp (maxSteps := 2000000) only [vup, cond_true, cond_false, Nat.reduceBEq])
      clear hN18
      try clear N18
      refine Zl fun D hD => ?_
      refine Zm ?_
      refine Ze fun N19 hN19 => ?_
      simp (maxSteps := 2000000) only [↓Za, ↓Zb, ↓Zd, vup, cond_true, cond_false, aop, Zf, ev, sput, Zg, Nat.reduceBEq, howF.idx el_38 Vi hcc, howF.load Wk hcc, castI_getD, hwe]
      refine hN19 [(0, Zc (n : Nat)), (1, v), (2, Zc (s : Nat)), (6, .slice none 0 0), (7, .bool false), (8, wv), (10, q), (11, Zc (i : Nat)), (12, rv), (14, Zc (w : Nat)), (44, v), (45, Zc (l.length : Nat)), (46, Zc (l.length + 1 : Nat)), (47, Zc (i : Nat)), (50, wv), (51, Zc (W.length : Nat)), (52, Zc (c : Nat))] _ _ ?_ (by simp (maxSteps := 2000000) only [vup, cond_true, cond_false, Nat.reduceBEq])
      clear hN19
      try clear N19
      have done : ∀ (z : Int), T i c = (z : Rat) → ∀ K : Value → Zh → Prop, (∀ rv' F', OwnP 26 F' rv' ((rowC T W.length i).take (c + 1)) → Ext (fun _ => False) H F' → (∀ b, Yj rv' = some b → H.length ≤ b) → K rv' F') → Xi prog (F ++ [.ints [z, 1] 26 false]) 47 47 rv (.slice (some ⟨F.length, 0, none⟩) 1 1) K := by
        intro z hz K hK
        refine OwnP.append (x := z) (y := 1) (ho.ext (Ext.app _ _ _)) Ue (by simp; rw [Ub]; omega) (Zz _ _) ?_
        intro rv' F' ho' hE' hb'
        have e0 : (z, (1 : Int)) = ((T i c).num, ((T i c).den : Int)) := by rw [hz]; rfl
        rw [e0, hsc] at ho'
        obtain ⟨hEn, hbn⟩ := oExt (H' := F) hEF hbr _ hE' hb'
        exact hK rv' F' ho' hEn hbn
      have fin : ∀ rv' F', OwnP 26 F' rv' ((rowC T W.length i).take (c + 1)) → Ext (fun _ => False) H F' → (∀ b, Yj rv' = some b → H.length ≤ b) → ∀ e, ELe e [(0, Zc (n : Nat)), (1, v), (2, Zc (s : Nat)), (6, .slice none 0 0), (7, .bool false), (8, wv), (10, q), (11, Zc (i : Nat)), (12, rv'), (44, v), (45, Zc (l.length : Nat)), (46, Zc (l.length + 1 : Nat)), (47, Zc (i : Nat)), (50, wv), (51, Zc (W.length : Nat)), (52, Zc (c : Nat))] → D e F' := by
        intro rv' F' f1 f2 f3 e he
        refine hD _ _ _ ?_ he
        refine Zi ?_
        simp (maxSteps := 2000000) only [↓Za, ↓Zb, ↓Zd, vup, cond_true, cond_false, aop, ev, sput, Zg, Yb, Ye, Nat.reduceBEq, Vt (show c < 9223372036854775807 by omega)]
        exact hQd _ _ _ ⟨(c + 1, rv', F'), ⟨by simp only; omega, f1, f2, f3⟩, by simp only; omega, by simp (maxSteps := 2000000) only [vup, cond_true, cond_false, Nat.reduceBEq], rfl⟩
      have w1 : Xp prog 66 [Zc 1] F (qV (((1 : Int)) : Rat)) := rwhole_call
      have w0 : Xp prog 66 [Zc 0] F (qV (((0 : Int)) : Rat)) := rwhole_call
      have q1 : qV (((1 : Int)) : Rat) = .agg #[Zc 1, Zc 1] := rfl
      have q0 : qV (((0 : Int)) : Rat) = .agg #[Zc 0, Zc 1] := rfl
      by_cases hil : i = l.length
      · rw [if_pos hil] at hTc
        have heq : (((i : Nat) : Int) == ((l.length : Nat) : Int)) = true := by simp [hil]
        refine Ze fun N20 hN20 => ?_
        simp (maxSteps := 2000000) only [↓Za, ↓Zb, ↓Zd, ↓vdn, vup, List.map_cons, List.map_nil, cond_true, cond_false, aop, Zf, ev, sput, Zg, Yb, Ye, Zk, Nat.reduceBEq, tyf, hvF.len, heq]
        refine hN20 [(0, Zc (n : Nat)), (1, v), (2, Zc (s : Nat)), (6, .slice none 0 0), (7, .bool false), (8, wv), (10, q), (11, Zc (i : Nat)), (12, rv), (14, Zc (w : Nat)), (44, v), (45, Zc (l.length : Nat)), (46, Zc (l.length + 1 : Nat)), (47, Zc (i : Nat)), (50, wv), (51, Zc (W.length : Nat)), (52, Zc (c : Nat)), (70, .bool true)] _ _ ?_ (by simp (maxSteps := 2000000) only [vup, cond_true, cond_false, Nat.reduceBEq])
        clear hN20
        try clear N20
        refine Yu rfl ?_
        refine Zi ?_
        simp (maxSteps := 2000000) only [↓Za, ↓Zb, ↓Zd, vup, List.map_cons, List.map_nil, cond_true, cond_false, aop, Zf, Zp, ev, sput, Zg, Zk, Nat.reduceBEq, Yy, List.nil_append, List.append_nil]
        refine (w1).mono ?_
        rintro _ F ⟨rfl, rfl⟩
        simp (maxSteps := 2000000) only [q1, litF]
        refine done 1 hTc _ fun rv' F' f1 f2 f3 => ?_
        exact fin rv' F' f1 f2 f3 _ (by simp (maxSteps := 2000000) only [vup, cond_true, cond_false, Nat.reduceBEq])
      · rw [if_neg hil] at hTc
        have heq : (((i : Nat) : Int) == ((l.length : Nat) : Int)) = false := by rw [beq_eq_false_iff_ne]; omega
        have hil' : i < l.length := by omega
        have hb := hok i hil'
        rw [hxy] at hb
        simp only [okB, Bool.and_eq_true, decide_eq_true_eq] at hb
        obtain ⟨e, he⟩ : ∃ e : Nat, x = e := ⟨x.toNat, by omega⟩
        have he2 : (e : Int) < 2 ^ n := he ▸ hb.2.1
        have hee : e < 2 ^ n := by exact_mod_cast he2
        have ht := testV (y := w) (show e < 9223372036854775808 by omega)
        rw [he, Int.toNat_natCast, bitQ] at hTc
        obtain ⟨_, _, i0, i1, i2, i3, i4⟩ := pairFldsR hvF hil'
        rw [hxy, he] at i3
        cases hbit : e.testBit w with
        | true =>
          rw [hbit, if_pos rfl] at hTc ht
          refine Ze fun N21 hN21 => ?_
          simp (maxSteps := 2000000) only [↓Za, ↓Zb, ↓Zd, ↓vdn, vup, List.map_cons, List.map_nil, cond_true, cond_false, aop, Zf, ev, sput, Zg, Yb, Ye, Zk, Nat.reduceBEq, Int.reduceBEq, tyf, hvF.len, heq, i0, i1, i3, ht, Int.natCast_nonneg]
          refine hN21 [(0, Zc (n : Nat)), (1, v), (2, Zc (s : Nat)), (6, .slice none 0 0), (7, .bool false), (8, wv), (10, q), (11, Zc (i : Nat)), (12, rv), (14, Zc (w : Nat)), (44, v), (45, Zc (l.length : Nat)), (46, Zc (l.length + 1 : Nat)), (47, Zc (i : Nat)), (50, wv), (51, Zc (W.length : Nat)), (52, Zc (c : Nat)), (70, .bool true)] _ _ ?_ (by simp (maxSteps := 2000000) only [vup, cond_true, cond_false, Nat.reduceBEq])
          clear hN21
          try clear N21
          refine Yu rfl ?_
          refine Zi ?_
          simp (maxSteps := 2000000) only [↓Za, ↓Zb, ↓Zd, vup, List.map_cons, List.map_nil, cond_true, cond_false, aop, Zf, Zp, ev, sput, Zg, Zk, Nat.reduceBEq, Yy, List.nil_append, List.append_nil]
          refine (w1).mono ?_
          rintro _ F ⟨rfl, rfl⟩
          simp (maxSteps := 2000000) only [q1, litF]
          refine done 1 hTc _ fun rv' F' f1 f2 f3 => ?_
          exact fin rv' F' f1 f2 f3 _ (by simp (maxSteps := 2000000) only [vup, cond_true, cond_false, Nat.reduceBEq])
        | false =>
          rw [hbit, if_neg (by simp)] at hTc ht
          refine Ze fun N22 hN22 => ?_
          simp (maxSteps := 2000000) only [↓Za, ↓Zb, ↓Zd, ↓vdn, vup, List.map_cons, List.map_nil, cond_true, cond_false, aop, Zf, ev, sput, Zg, Yb, Ye, Zk, Nat.reduceBEq, Int.reduceBEq, tyf, hvF.len, heq, i0, i1, i3, ht, Int.natCast_nonneg]
          refine hN22 [(0, Zc (n : Nat)), (1, v), (2, Zc (s : Nat)), (6, .slice none 0 0), (7, .bool false), (8, wv), (10, q), (11, Zc (i : Nat)), (12, rv), (14, Zc (w : Nat)), (44, v), (45, Zc (l.length : Nat)), (46, Zc (l.length + 1 : Nat)), (47, Zc (i : Nat)), (50, wv), (51, Zc (W.length : Nat)), (52, Zc (c : Nat)), (70, .bool false)] _ _ ?_ (by simp (maxSteps := 2000000) only [vup, cond_true, cond_false, Nat.reduceBEq])
          clear hN22
          try clear N22
          refine Yf rfl ?_
          refine Zi ?_
          simp (maxSteps := 2000000) only [↓Za, ↓Zb, ↓Zd, vup, List.map_cons, List.map_nil, cond_true, cond_false, aop, Zf, Zp, ev, sput, Zg, Zk, Nat.reduceBEq, Yy, List.nil_append, List.append_nil]
          refine (w0).mono ?_
          rintro _ F ⟨rfl, rfl⟩
          simp (maxSteps := 2000000) only [q0, litF]
          refine done 0 hTc _ fun rv' F' f1 f2 f3 => ?_
          exact fin rv' F' f1 f2 f3 _ (by simp (maxSteps := 2000000) only [vup, cond_true, cond_false, Nat.reduceBEq])
    have hcc := Vx hcin hc
    subst hcc
    refine Ze fun N23 hN23 => ?_
    simp (maxSteps := 2000000) only [↓Za, ↓Zb, ↓Zd, vup, cond_true, cond_false, aop, Zf, ev, sput, Zg, Yb, Ye, Nat.reduceBEq, hcin]
    refine hN23 [(0, Zc (n : Nat)), (1, v), (2, Zc (s : Nat)), (6, .slice none 0 0), (7, .bool false), (8, wv), (10, q), (11, Zc (i : Nat)), (12, rv), (44, v), (45, Zc (l.length : Nat)), (46, Zc (l.length + 1 : Nat)), (47, Zc (i : Nat)), (50, wv), (51, Zc (W.length : Nat)), (52, Zc (W.length : Nat)), (53, .bool false)] _ _ ?_ (by simp (maxSteps := 2000000) only [vup, cond_true, cond_false, Nat.reduceBEq])
    clear hN23
    try clear N23
    refine Ze fun N24 hN24 => ?_
    simp (maxSteps := 2000000) only [↓Ym, ↓vdn, vup, cond_true, cond_false, Zf, ev, Nat.reduceBEq]
    refine hQd _ _ _ (hQc _ _ _ ?_)
    simp (maxSteps := 2000000) only [Zf, Zp, if_true]
    refine hC [(0, Zc (n : Nat)), (1, v), (2, Zc (s : Nat)), (6, .slice none 0 0), (7, .bool false), (8, wv), (10, q), (11, Zc (i : Nat)), (12, rv), (44, v), (45, Zc (l.length : Nat)), (46, Zc (l.length + 1 : Nat)), (47, Zc (i : Nat)), (53, .bool false)] _ _ ?_ (by simp (maxSteps := 2000000) only [vup, cond_true, cond_false, Nat.reduceBEq])
    clear hC
    try clear C
    have hsr := hsn W.length (Nat.le_refl _)
    have hfull : (rowC T W.length i).take (W.length + 1) = rowC T W.length i := List.take_of_length_le (by rw [Ub]; omega)
    rw [hfull] at hsr
    refine Zl fun E hE => ?_
    have put : ∀ rv' F', OwnP 26 F' rv' (rowC T W.length i) → Ext (fun _ => False) H F' → (∀ b, Yj rv' = some b → H.length ≤ b) → ∀ e, ELe e [(0, Zc (n : Nat)), (1, v), (2, Zc (s : Nat)), (6, .slice none 0 0), (7, .bool false), (8, wv), (10, q), (11, Zc (i : Nat)), (12, rv'), (44, v), (45, Zc (l.length : Nat)), (46, Zc (l.length + 1 : Nat)), (47, Zc (i : Nat)), (53, .bool false)] → E e F' := by
      intro rv' F' f1 f2 f3 e he
      refine hE _ _ _ ?_ he
      obtain ⟨bb, yy, hrv, -⟩ := Wb f1 Vm
      have lit0 : ∀ K : Value → Zh → Prop, Yq prog F' 94 1 [(0, rv')] K = K (.slice (some ⟨F'.length, 0, none⟩) 1 1) (F' ++ [.cells [rv'] 47 false]) := fun K => by rw [hrv]; exact litV el_94 zero_47 Um
      refine Zi ?_
      simp (maxSteps := 2000000) only [↓Za, ↓Zb, ↓Zd, vup, List.map_cons, List.map_nil, cond_true, cond_false, aop, Zf, Zp, ev, sput, Zg, Zk, Nat.reduceBEq, lit0]
      rw [← hwsl] at f1
      refine R.more (by omega) hEH.1 (f2.trans (Ext.app _ _ _)) (f1.ext (Ext.app _ _ _)) (fun b hb => f3 b hb) (Zz _ _) fun q' H' R' hEa hEb => ?_
      have hEn : Ext (fun _ => False) G H' := by
        have l1 := hEH.1
        have l2 := f2.1
        refine ⟨by have := hEa.1; rw [List.length_append] at this; omega, fun z hz _ => ?_⟩
        rw [hEa.2 z (by rw [List.length_append]; omega) (by omega), List.getElem?_append_left (by omega), f2.2 z (by omega) id]
        exact hEH.2 z hz id
      refine hB [(0, Zc (n : Nat)), (1, v), (2, Zc (s : Nat)), (6, .slice none 0 0), (7, .bool false), (8, wv), (10, q'), (44, v), (45, Zc (l.length : Nat)), (46, Zc (l.length + 1 : Nat)), (47, Zc (i : Nat)), (53, .bool false)] _ _ ?_ (by simp (maxSteps := 2000000) only [vup, cond_true, cond_false, Nat.reduceBEq])
      clear hB
      try clear B
      refine Zi ?_
      have ai : addV .i64 ((i : Nat) : Int) 1 = ((i + 1 : Nat) : Int) := Vt (by omega)
      simp (maxSteps := 2000000) only [↓Za, ↓Zb, ↓Zd, vup, cond_true, cond_false, aop, ev, sput, Zg, Yb, Ye, Nat.reduceBEq, ai]
      exact hQb _ _ _ ⟨(i + 1, q', ws ++ [rv'], H'), ⟨by simp only; omega, by simp [hwsl], R', hEn⟩, by simp only; omega, by simp (maxSteps := 2000000) only [vup, cond_true, cond_false, Nat.reduceBEq], rfl⟩
    have put1 : ∀ (z d : Int), T i W.length = Rat.divInt z d → z = (T i W.length).num → d = ((T i W.length).den : Int) → ∀ K : Value → Zh → Prop, (∀ rv' F', OwnP 26 F' rv' (rowC T W.length i) → Ext (fun _ => False) H F' → (∀ b, Yj rv' = some b → H.length ≤ b) → K rv' F') → Xi prog (F ++ [.ints [z, d] 26 false]) 47 47 rv (.slice (some ⟨F.length, 0, none⟩) 1 1) K := by
      intro z d _ hz hd K hK
      refine OwnP.append (x := z) (y := d) (ho.ext (Ext.app _ _ _)) Ue (by simp; rw [Ub]; omega) (Zz _ _) ?_
      intro rv' F' ho' hE' hb'
      rw [hz, hd, hsr] at ho'
      obtain ⟨hEn, hbn⟩ := oExt (H' := F) hEF hbr _ hE' hb'
      exact hK rv' F' ho' hEn hbn
    by_cases hil : i = l.length
    · rw [if_pos hil] at hTr
      have heq : (((i : Nat) : Int) == ((l.length : Nat) : Int)) = true := by simp [hil]
      have w1 : Xp prog 66 [Zc 1] F (qV (((1 : Int)) : Rat)) := rwhole_call
      have q1 : qV (((1 : Int)) : Rat) = .agg #[Zc 1, Zc 1] := rfl
      refine Ze fun N25 hN25 => ?_
      simp (maxSteps := 2000000) only [↓Za, ↓Zb, ↓Zd, vup, List.map_cons, List.map_nil, cond_true, cond_false, aop, Zf, ev, sput, Zg, Yb, Ye, Zk, Nat.reduceBEq, tyf, hvF.len, heq]
      refine hN25 [(0, Zc (n : Nat)), (1, v), (2, Zc (s : Nat)), (6, .slice none 0 0), (7, .bool false), (8, wv), (10, q), (11, Zc (i : Nat)), (12, rv), (44, v), (45, Zc (l.length : Nat)), (46, Zc (l.length + 1 : Nat)), (47, Zc (i : Nat)), (53, .bool false), (83, .bool true)] _ _ ?_ (by simp (maxSteps := 2000000) only [vup, cond_true, cond_false, Nat.reduceBEq])
      clear hN25
      try clear N25
      refine Yu rfl ?_
      refine Zi ?_
      simp (maxSteps := 2000000) only [↓Za, ↓Zb, ↓Zd, vup, List.map_cons, List.map_nil, cond_true, cond_false, aop, Zf, ev, sput, Zg, Zk, Nat.reduceBEq, Yy, List.nil_append, List.append_nil]
      refine (w1).mono ?_
      rintro _ F ⟨rfl, rfl⟩
      simp (maxSteps := 2000000) only [q1, litF]
      refine put1 1 1 (by rw [hTr]; decide +kernel) (by rw [hTr]; rfl) (by rw [hTr]; rfl) _ fun rv' F' f1 f2 f3 => ?_
      exact put rv' F' f1 f2 f3 _ (by simp (maxSteps := 2000000) only [vup, cond_true, cond_false, Nat.reduceBEq])
    · rw [if_neg hil] at hTr
      have heq : (((i : Nat) : Int) == ((l.length : Nat) : Int)) = false := by rw [beq_eq_false_iff_ne]; omega
      have hil' : i < l.length := by omega
      have hb := hok i hil'
      rw [hxy] at hb
      simp only [okB, Bool.and_eq_true, decide_eq_true_eq] at hb
      obtain ⟨_, _, i0, i1, i2, i3, i4⟩ := pairFldsR hvF hil'
      rw [hxy] at i4
      have fr := rfrac_call (h := F) (a := y) (b := 12) (by decide) (by omega) (by decide)
      rw [← hTr] at fr
      obtain ⟨t, ht⟩ : ∃ t, T i W.length = t := ⟨_, rfl⟩
      rw [ht] at fr put1
      refine Ze fun N26 hN26 => ?_
      simp (maxSteps := 2000000) only [↓Za, ↓Zb, ↓Zd, vup, List.map_cons, List.map_nil, cond_true, cond_false, aop, Zf, ev, sput, Zg, Yb, Ye, Zk, Nat.reduceBEq, tyf, hvF.len, heq]
      refine hN26 [(0, Zc (n : Nat)), (1, v), (2, Zc (s : Nat)), (6, .slice none 0 0), (7, .bool false), (8, wv), (10, q), (11, Zc (i : Nat)), (12, rv), (44, v), (45, Zc (l.length : Nat)), (46, Zc (l.length + 1 : Nat)), (47, Zc (i : Nat)), (53, .bool false), (83, .bool false)] _ _ ?_ (by simp (maxSteps := 2000000) only [vup, cond_true, cond_false, Nat.reduceBEq])
      clear hN26
      try clear N26
      refine Yf rfl ?_
      refine Zi ?_
      simp (maxSteps := 2000000) only [↓Za, ↓Zb, ↓Zd, vup, List.map_cons, List.map_nil, cond_true, cond_false, aop, Zf, ev, sput, Zg, Zk, Nat.reduceBEq, Yy, List.nil_append, List.append_nil, i0, i2, i4]
      refine (fr).mono ?_
      rintro _ F ⟨rfl, rfl⟩
      simp (maxSteps := 2000000) only [qV, frV, litF]
      refine put1 t.num t.den (Rat.num_divInt_den t).symm rfl rfl _ fun rv' F' f1 f2 f3 => ?_
      exact put rv' F' f1 f2 f3 _ (by simp (maxSteps := 2000000) only [vup, cond_true, cond_false, Nat.reduceBEq])
  have hii := Vx hiin hi
  subst hii
  refine Ze fun N27 hN27 => ?_
  simp (maxSteps := 2000000) only [↓Za, ↓Zb, ↓Zd, vup, cond_true, cond_false, aop, Zf, ev, sput, Zg, Yb, Ye, Nat.reduceBEq, hiin]
  refine hN27 [(0, Zc (n : Nat)), (1, v), (2, Zc (s : Nat)), (6, .slice none 0 0), (7, .bool false), (8, wv), (10, q), (44, v), (45, Zc (l.length : Nat)), (46, Zc (l.length + 1 : Nat)), (47, Zc (l.length + 1 : Nat)), (48, .bool false)] _ _ ?_ (by simp (maxSteps := 2000000) only [vup, cond_true, cond_false, Nat.reduceBEq])
  clear hN27
  try clear N27
  refine Ze fun N28 hN28 => ?_
  simp (maxSteps := 2000000) only [↓Ym, ↓vdn, vup, cond_true, cond_false, Zf, ev, Nat.reduceBEq]
  refine hQb _ _ _ (hQa _ _ _ ?_)
  simp (maxSteps := 2000000) only [Zf, Zp, Zs, if_true]
  refine hX [(0, Zc (n : Nat)), (1, v), (2, Zc (s : Nat)), (6, .slice none 0 0), (7, .bool false), (8, wv), (10, q)] _ _ ?_ (by simp (maxSteps := 2000000) only [vup, cond_true, cond_false, Nat.reduceBEq])
  clear hX
  try clear X
  clear hQa hQb
  rcases R with ⟨rfl, _⟩ | ⟨R, hO⟩
  · simp at hwsl
  obtain ⟨B, C, hqe, hBC, hBp, M, hbkp⟩ := R.mat hO
  rw [hwsl] at hqe hBC M hbkp
  subst hqe
  have howH := iExt how.int hEH
  refine Ze fun N29 hN29 => ?_
  simp (maxSteps := 2000000) only [↓Za, ↓Zb, ↓Zd, vup, List.map_cons, List.map_nil, cond_true, cond_false, aop, Zf, ev, sput, Zg, Zk, Nat.reduceBEq, tyf, howH.len, hli]
  refine hN29 [(0, Zc (n : Nat)), (1, v), (2, Zc (s : Nat)), (6, .slice none 0 0), (7, .bool false), (8, wv), (10, .slice (some ⟨B, 0, some 0⟩) (l.length + 1) C), (15, Zc (W.length : Nat))] _ _ ?_ (by simp (maxSteps := 2000000) only [vup, cond_true, cond_false, Nat.reduceBEq])
  clear hN29
  try clear N29
  -- what elimination leaves of the heap
  have hbase : Ext (fun _ => False) h H := hEG.trans hEH
  have hkeep : ∀ G', Ext (Tch B (l.length + 1) fun i => bkOf (ws.getD i undef)) H G' → Ext (fun _ => False) h G' ∧ IntSl G' wv (Wh W) := fun G' hEs => by
    have l1 := hEG.1
    have hBk : ∀ b, Tch B (l.length + 1) (fun i => bkOf (ws.getD i undef)) b → G.length ≤ b := fun b hb => by
      rcases hb with rfl | ⟨j, hj, rfl⟩
      · exact hBp
      · exact hbkp j hj
    refine ⟨⟨by have := hbase.1; have := hEs.1; omega, fun z hz _ => ?_⟩, howH.same fun b hb => ?_⟩
    · rw [hEs.2 z (by have := hbase.1; omega) (fun hc => by have := hBk z hc; omega)]
      exact hbase.2 z hz id
    · have hlt : b < G.length := how.int.lt hb
      exact hEs.2 b (howH.lt hb) (fun hc => by have := hBk b hc; omega)
  refine relim_call M hBC (by omega) (by omega) hW1 (by omega) hsy (fun h0 e G' e1 e2 e3 => ?_) fun S w bk G' hrun MS e1 e2 => ?_
  · rw [hcorner, h0, Option.bind_none]
    simp (maxSteps := 2000000) only [Zs, Wc, tup, e2, e3]
    exact ⟨(hkeep G' e1).1, _, _, rfl, rfl, rfl⟩
  obtain ⟨hE', how'⟩ := hkeep G' e1
  clear hkeep e1 e2 R hO M howH hbase
  have hkm : W.length ≤ l.length + 1 := by
    obtain ⟨π, g⟩ := elim_gi hrun
    exact g.jm
  have hs104 := sy_sml hsy (show W.length ≤ 5 by omega) (Nat.le_refl _) hrun
  obtain ⟨m, hm⟩ : ∃ m, l.length + 1 = m := ⟨_, rfl⟩
  rw [hm] at MS hkm hrun hs104 hcorner hBC ⊢
  have hm7 : m ≤ 7 := by omega
  have idxJ : ∀ {i : Nat} {K : Value → Prop}, i < m → Xa prog 94 (.slice (some ⟨B, 0, some 0⟩) m C) (Zc (i : Nat)) K = K (.pointer (some ⟨B, i, none⟩)) := fun {i K} hi => Mat.idxN i hi
  -- the rows below
  refine Zl fun X hX => ?_
  refine Ze fun N30 hN30 => ?_
  simp (maxSteps := 2000000) only [↓Za, ↓Zb, ↓Zd, vup, List.map_cons, List.map_nil, cond_true, cond_false, aop, Zf, ev, sput, Zg, Zk, Nat.reduceBEq, tyf, Option.map_some, Option.map_none]
  refine MS.tailN2 hkm (by omega) hBC fun v' hvl hvi hvld => ?_
  simp (maxSteps := 2000000) only [hvl]
  refine hN30 [(0, Zc (n : Nat)), (1, v), (2, Zc (s : Nat)), (6, .slice none 0 0), (7, .bool false), (8, wv), (10, .slice (some ⟨B, 0, some 0⟩) m C), (15, Zc (W.length : Nat)), (211, v'), (212, Zc (m - W.length : Nat)), (213, .int .i64 0)] _ _ ?_ (by simp (maxSteps := 2000000) only [vup, cond_true, cond_false, Nat.reduceBEq])
  clear hN30
  try clear N30
  refine Zm ?_
  refine Zo fun Qa hQa => ?_
  refine Yi (γ := Nat) (fun i => i ≤ m - W.length ∧ ∀ i', i' < i → S (W.length + i') W.length = 0)
    (fun i => ([(0, Zc (n : Nat)), (1, v), (2, Zc (s : Nat)), (6, .slice none 0 0), (7, .bool false), (8, wv), (10, .slice (some ⟨B, 0, some 0⟩) m C), (15, Zc (W.length : Nat)), (211, v'), (212, Zc (m - W.length : Nat)), (213, Zc (i : Nat))], G')) (fun i => m - W.length - i) 0 ⟨Nat.zero_le _, fun i hi => by omega⟩ (by simp (maxSteps := 2000000) only [vup, cond_true, cond_false, Nat.reduceBEq, Int.natCast_zero]) rfl ?_
  rintro i ⟨hi, hz⟩
  refine Zo fun Qb hQb => ?_
  simp only [l104_8]
  by_cases hiin : (i : Int) < ((m - W.length : Nat) : Int)
  · have hi' : i < m - W.length := by omega
    have him : W.length + i < m := by omega
    refine Ze fun N31 hN31 => ?_
    simp (maxSteps := 2000000) only [↓Za, ↓Zb, ↓Zd, vup, cond_true, cond_false, aop, Zf, ev, sput, Zg, Yb, Ye, Nat.reduceBEq, hiin]
    refine hN31 [(0, Zc (n : Nat)), (1, v), (2, Zc (s : Nat)), (6, .slice none 0 0), (7, .bool false), (8, wv), (10, .slice (some ⟨B, 0, some 0⟩) m C), (15, Zc (W.length : Nat)), (211, v'), (212, Zc (m - W.length : Nat)), (213, Zc (i : Nat)), (214, .bool true)] _ _ ?_ (by simp (maxSteps := 2000000) only [vup, cond_true, cond_false, Nat.reduceBEq])
    clear hN31
    try clear N31
    refine Ze fun N32 hN32 => ?_
    simp (maxSteps := 2000000) only [↓Zr, ↓vdn, vup, cond_true, cond_false, Zf, ev, Nat.reduceBEq]
    refine hN32 [(0, Zc (n : Nat)), (1, v), (2, Zc (s : Nat)), (6, .slice none 0 0), (7, .bool false), (8, wv), (10, .slice (some ⟨B, 0, some 0⟩) m C), (15, Zc (W.length : Nat)), (211, v'), (212, Zc (m - W.length : Nat)), (213, Zc (i : Nat))] _ _ ?_ (by simp (maxSteps := 2000000) only [vup, cond_true, cond_false, Nat.reduceBEq])
    clear hN32
    try clear N32
    refine Zl fun U hU => ?_
    refine Zm ?_
    refine Ze fun N33 hN33 => ?_
    simp (maxSteps := 2000000) only [↓Za, ↓Zb, ↓Zd, vup, cond_true, cond_false, aop, Zf, ev, sput, Zg, Nat.reduceBEq, hvi i hi', hvld i hi']
    refine hN33 [(0, Zc (n : Nat)), (1, v), (2, Zc (s : Nat)), (6, .slice none 0 0), (7, .bool false), (8, wv), (10, .slice (some ⟨B, 0, some 0⟩) m C), (15, Zc (W.length : Nat)), (25, w (W.length + i)), (211, v'), (212, Zc (m - W.length : Nat)), (213, Zc (i : Nat))] _ _ ?_ (by simp (maxSteps := 2000000) only [vup, cond_true, cond_false, Nat.reduceBEq])
    clear hN33
    try clear N33
    have hbe : ((S (W.length + i) W.length).num != 0) = decide (S (W.length + i) W.length ≠ 0) := by
      rw [Bool.eq_iff_iff]
      simp [Rat.num_eq_zero]
    refine Ze fun N34 hN34 => ?_
    simp (maxSteps := 2000000) only [↓Za, ↓Zb, ↓Zd, vup, cond_true, cond_false, aop, Zf, ev, sput, Zg, Yb, Ye, Nat.reduceBEq, tyf, MS.idxR him (Nat.le_refl _), fA0o, MS.loadN him (Nat.le_refl _), hbe]
    refine hN34 [(0, Zc (n : Nat)), (1, v), (2, Zc (s : Nat)), (6, .slice none 0 0), (7, .bool false), (8, wv), (10, .slice (some ⟨B, 0, some 0⟩) m C), (15, Zc (W.length : Nat)), (25, w (W.length + i)), (211, v'), (212, Zc (m - W.length : Nat)), (213, Zc (i : Nat)), (222, .bool (decide (S (W.length + i) W.length ≠ 0)))] _ _ ?_ (by simp (maxSteps := 2000000) only [vup, cond_true, cond_false, Nat.reduceBEq])
    clear hN34
    try clear N34
    by_cases h0 : S (W.length + i) W.length = 0
    · have hd : decide (S (W.length + i) W.length ≠ 0) = false := by simpa using h0
      rw [hd]
      refine Yf rfl ?_
      refine Zi ?_
      simp (maxSteps := 2000000) only [↓Zr, Zf, Zp]
      refine hU [(0, Zc (n : Nat)), (1, v), (2, Zc (s : Nat)), (6, .slice none 0 0), (7, .bool false), (8, wv), (10, .slice (some ⟨B, 0, some 0⟩) m C), (15, Zc (W.length : Nat)), (211, v'), (212, Zc (m - W.length : Nat)), (213, Zc (i : Nat))] _ _ ?_ (by simp (maxSteps := 2000000) only [vup, cond_true, cond_false, Nat.reduceBEq])
      clear hU
      try clear U
      refine Zi ?_
      simp (maxSteps := 2000000) only [↓Za, ↓Zb, ↓Zd, vup, cond_true, cond_false, aop, ev, sput, Zg, Yb, Ye, Nat.reduceBEq, Vt (show i < 9223372036854775807 by omega)]
      refine hQb _ _ _ ⟨i + 1, ⟨by omega, fun i' h1 => ?_⟩, by omega, by simp (maxSteps := 2000000) only [vup, cond_true, cond_false, Nat.reduceBEq], rfl⟩
      rcases Nat.lt_or_ge i' i with h2 | h2
      · exact hz i' h2
      · rw [show i' = i by omega]; exact h0
    · have hd : decide (S (W.length + i) W.length ≠ 0) = true := by simpa using h0
      rw [hd]
      refine Yu rfl ?_
      refine Zi ?_
      simp (maxSteps := 2000000) only [↓Za, ↓Zu, ↓Zx, ↓Zb, ↓Zd, vup, cond_true, cond_false, aop, Zf, Zp, ev, sput, Zg, Nat.reduceBEq]
      refine hQb _ _ _ (hQa _ _ _ ?_)
      simp (maxSteps := 2000000) only [vup, cond_true, cond_false, Zf, Zp, Nat.reduceBEq, Zs, Wc, tup]
      rw [hcorner, rest_none hrun him h0, Option.bind_none]
      exact ⟨hE', _, _, rfl, rfl, rfl⟩
  have hii := Vx hiin hi
  subst hii
  refine Ze fun N35 hN35 => ?_
  simp (maxSteps := 2000000) only [↓Za, ↓Zb, ↓Zd, vup, cond_true, cond_false, aop, Zf, ev, sput, Zg, Yb, Ye, Nat.reduceBEq, hiin]
  refine hN35 [(0, Zc (n : Nat)), (1, v), (2, Zc (s : Nat)), (6, .slice none 0 0), (7, .bool false), (8, wv), (10, .slice (some ⟨B, 0, some 0⟩) m C), (15, Zc (W.length : Nat)), (211, v'), (212, Zc (m - W.length : Nat)), (213, Zc (m - W.length : Nat)), (214, .bool false)] _ _ ?_ (by simp (maxSteps := 2000000) only [vup, cond_true, cond_false, Nat.reduceBEq])
  clear hN35
  try clear N35
  refine Ze fun N36 hN36 => ?_
  simp (maxSteps := 2000000) only [↓Ym, ↓vdn, vup, cond_true, cond_false, Zf, ev, Nat.reduceBEq]
  refine hQb _ _ _ (hQa _ _ _ ?_)
  simp (maxSteps := 2000000) only [Zf, Zp, Zs, if_true]
  refine hX [(0, Zc (n : Nat)), (1, v), (2, Zc (s : Nat)), (6, .slice none 0 0), (7, .bool false), (8, wv), (10, .slice (some ⟨B, 0, some 0⟩) m C), (15, Zc (W.length : Nat)), (214, .bool false)] _ _ ?_ (by simp (maxSteps := 2000000) only [vup, cond_true, cond_false, Nat.reduceBEq])
  clear hX
  try clear X
  clear hQa hQb hvl hvi hvld
  rw [rest_some hrun hz, Option.bind_some] at hcorner
  obtain ⟨xs, hxs⟩ : ∃ xs, ((List.range W.length).map fun i => S i W.length) = xs := ⟨_, rfl⟩
  have hxl : xs.length = W.length := by rw [← hxs]; simp
  have hxg : ∀ c, c < W.length → xs.getD c 0 = S c W.length := fun c hc => by rw [← hxs, List.getD, List.getElem?_map, List.getElem?_range hc]; rfl
  rw [hxs] at hcorner
  clear hz
  -- the belief
  have hmk : ∀ {K : Value → Zh → Prop}, makeK prog G' 47 (Zc n) (Zc n) K = K (.slice (some ⟨G'.length, 0, none⟩) n n) (G' ++ [.cells ((Yd (List.replicate n (0, 0))).map Zc) 26 false]) := fun {K} => makeP el_47 zero_26 info_26 rfl (by omega)
  refine Ze fun N37 hN37 => ?_
  simp (maxSteps := 2000000) only [↓Za, ↓Zb, ↓Zd, vup, cond_true, cond_false, aop, Zf, ev, sput, Zg, Nat.reduceBEq, hmk]
  refine hN37 [(0, Zc (n : Nat)), (1, v), (2, Zc (s : Nat)), (6, .slice none 0 0), (7, .bool false), (8, wv), (10, .slice (some ⟨B, 0, some 0⟩) m C), (15, Zc (W.length : Nat)), (26, .slice (some ⟨G'.length, 0, none⟩) n n), (214, .bool false)] _ _ ?_ (by simp (maxSteps := 2000000) only [vup, cond_true, cond_false, Nat.reduceBEq])
  clear hN37
  try clear N37
  refine Zl fun X hX => ?_
  refine Ze fun N38 hN38 => ?_
  simp (maxSteps := 2000000) only [↓Za, ↓Zb, ↓Zd, vup, List.map_cons, List.map_nil, cond_true, cond_false, aop, Zf, ev, sput, Zg, Zk, Nat.reduceBEq, tyf, lenK]
  refine hN38 [(0, Zc (n : Nat)), (1, v), (2, Zc (s : Nat)), (6, .slice none 0 0), (7, .bool false), (8, wv), (10, .slice (some ⟨B, 0, some 0⟩) m C), (15, Zc (W.length : Nat)), (26, .slice (some ⟨G'.length, 0, none⟩) n n), (214, .bool false), (226, .slice (some ⟨G'.length, 0, none⟩) n n), (227, Zc (n : Nat)), (228, .int .i64 0)] _ _ ?_ (by simp (maxSteps := 2000000) only [vup, cond_true, cond_false, Nat.reduceBEq])
  clear hN38
  try clear N38
  refine Zm ?_
  refine Zo fun Qa hQa => ?_
  refine Yi (γ := Nat) (fun k => k ≤ n)
    (fun k => ([(0, Zc (n : Nat)), (1, v), (2, Zc (s : Nat)), (6, .slice none 0 0), (7, .bool false), (8, wv), (10, .slice (some ⟨B, 0, some 0⟩) m C), (15, Zc (W.length : Nat)), (26, .slice (some ⟨G'.length, 0, none⟩) n n), (214, .bool false), (226, .slice (some ⟨G'.length, 0, none⟩) n n), (227, Zc (n : Nat)), (228, Zc (k : Nat))], G' ++ [.cells ((Yd (List.replicate k ((0 : Int), (1 : Int)) ++ List.replicate (n - k) (0, 0))).map Zc) 26 false])) (fun k => n - k) 0 (Nat.zero_le _) (by simp (maxSteps := 2000000) only [vup, cond_true, cond_false, Nat.reduceBEq, Int.natCast_zero]) (by simp) ?_
  rintro k hk
  refine Zo fun Qb hQb => ?_
  simp only [l104_9]
  by_cases hkin : (k : Int) < n
  · have hk' : k < n := by omega
    obtain ⟨P, hP⟩ : ∃ P, P = List.replicate k ((0 : Int), (1 : Int)) ++ List.replicate (n - k) (0, 0) := ⟨_, rfl⟩
    have hPl : P.length = n := by rw [hP]; simp; omega
    have hset := set_replicate hk'
    rw [← hP] at hset ⊢
    have pS := pairSl_cells (e := 26) (ro := false) (Zz G' (.cells ((Yd P).map Zc) 26 false))
    rw [hPl] at pS
    refine Ze fun N39 hN39 => ?_
    simp (maxSteps := 2000000) only [↓Za, ↓Zb, ↓Zd, vup, cond_true, cond_false, aop, Zf, ev, sput, Zg, Yb, Ye, Nat.reduceBEq, hkin]
    refine hN39 [(0, Zc (n : Nat)), (1, v), (2, Zc (s : Nat)), (6, .slice none 0 0), (7, .bool false), (8, wv), (10, .slice (some ⟨B, 0, some 0⟩) m C), (15, Zc (W.length : Nat)), (26, .slice (some ⟨G'.length, 0, none⟩) n n), (214, .bool false), (226, .slice (some ⟨G'.length, 0, none⟩) n n), (227, Zc (n : Nat)), (228, Zc (k : Nat)), (229, .bool true)] _ _ ?_ (by simp (maxSteps := 2000000) only [vup, cond_true, cond_false, Nat.reduceBEq])
    clear hN39
    try clear N39
    refine Ze fun N40 hN40 => ?_
    simp (maxSteps := 2000000) only [↓Zr, ↓vdn, vup, cond_true, cond_false, Zf, ev, Nat.reduceBEq]
    refine hN40 [(0, Zc (n : Nat)), (1, v), (2, Zc (s : Nat)), (6, .slice none 0 0), (7, .bool false), (8, wv), (10, .slice (some ⟨B, 0, some 0⟩) m C), (15, Zc (W.length : Nat)), (26, .slice (some ⟨G'.length, 0, none⟩) n n), (214, .bool false), (226, .slice (some ⟨G'.length, 0, none⟩) n n), (227, Zc (n : Nat)), (228, Zc (k : Nat))] _ _ ?_ (by simp (maxSteps := 2000000) only [vup, cond_true, cond_false, Nat.reduceBEq])
    clear hN40
    try clear N40
    refine Zl fun U hU => ?_
    refine Zm ?_
    refine Ze fun N41 hN41 => ?_
    simp (maxSteps := 2000000) only [↓Za, ↓Zb, ↓Zd, vup, cond_true, cond_false, aop, Zf, ev, sput, Zg, Nat.reduceBEq]
    refine hN41 [(0, Zc (n : Nat)), (1, v), (2, Zc (s : Nat)), (6, .slice none 0 0), (7, .bool false), (8, wv), (10, .slice (some ⟨B, 0, some 0⟩) m C), (15, Zc (W.length : Nat)), (26, .slice (some ⟨G'.length, 0, none⟩) n n), (27, Zc (k : Nat)), (214, .bool false), (226, .slice (some ⟨G'.length, 0, none⟩) n n), (227, Zc (n : Nat)), (228, Zc (k : Nat))] _ _ ?_ (by simp (maxSteps := 2000000) only [vup, cond_true, cond_false, Nat.reduceBEq])
    clear hN41
    try clear N41
    refine Zi ?_
    have hnb : (G' ++ [Blk.cells ((Yd P).map Zc) 26 false])[G'.length]? = some (.cells ((Yd P).map Zc) 26 false) := Zz _ _
    have hst : ∀ {K : Zh → Prop}, Xs prog (G' ++ [Blk.cells ((Yd P).map Zc) 26 false]) 26 (.pointer (some ⟨G'.length, k * 2, none⟩)) (.agg #[Zc 0, Zc 1]) K = K (G' ++ [Blk.cells ((Yd (P.set k (0, 1))).map Zc) 26 false]) := fun {K} => by
      rw [storePC hnb shp_26 (by omega), Wi]
    have q0 : qV ((0 : Int) : Rat) = .agg #[Zc 0, Zc 1] := rfl
    simp (maxSteps := 2000000) only [↓Za, ↓Zb, ↓Zd, vup, List.map_cons, List.map_nil, cond_true, cond_false, aop, Zf, Zp, ev, sput, Zg, Nat.reduceBEq, Yy, List.nil_append, List.append_nil]
    refine ((show Xp prog 66 [.int .i64 0] (G' ++ [.cells ((Yd P).map Zc) 26 false]) (qV ((0 : Int) : Rat)) from rwhole_call)).mono ?_
    rintro _ H3 ⟨rfl, hH3⟩
    subst hH3
    simp (maxSteps := 2000000) only [pS.idx el_47 Vs (show k < P.length by omega), elemP_pair, q0, hst, hset]
    refine hU [(0, Zc (n : Nat)), (1, v), (2, Zc (s : Nat)), (6, .slice none 0 0), (7, .bool false), (8, wv), (10, .slice (some ⟨B, 0, some 0⟩) m C), (15, Zc (W.length : Nat)), (26, .slice (some ⟨G'.length, 0, none⟩) n n), (214, .bool false), (226, .slice (some ⟨G'.length, 0, none⟩) n n), (227, Zc (n : Nat)), (228, Zc (k : Nat))] _ _ ?_ (by simp (maxSteps := 2000000) only [vup, cond_true, cond_false, Nat.reduceBEq])
    clear hU
    try clear U
    refine Zi ?_
    simp (maxSteps := 2000000) only [↓Za, ↓Zb, ↓Zd, vup, cond_true, cond_false, aop, ev, sput, Zg, Yb, Ye, Nat.reduceBEq, Vt (show k < 9223372036854775807 by omega)]
    exact hQb _ _ _ ⟨k + 1, hk', by omega, by simp (maxSteps := 2000000) only [vup, cond_true, cond_false, Nat.reduceBEq], rfl⟩
  have hkk := Vx hkin hk
  subst hkk
  refine Ze fun N42 hN42 => ?_
  simp (maxSteps := 2000000) only [↓Za, ↓Zb, ↓Zd, vup, cond_true, cond_false, aop, Zf, ev, sput, Zg, Yb, Ye, Nat.reduceBEq, hkin]
  refine hN42 [(0, Zc (n : Nat)), (1, v), (2, Zc (s : Nat)), (6, .slice none 0 0), (7, .bool false), (8, wv), (10, .slice (some ⟨B, 0, some 0⟩) m C), (15, Zc (W.length : Nat)), (26, .slice (some ⟨G'.length, 0, none⟩) n n), (214, .bool false), (226, .slice (some ⟨G'.length, 0, none⟩) n n), (227, Zc (n : Nat)), (228, Zc (n : Nat)), (229, .bool false)] _ _ ?_ (by simp (maxSteps := 2000000) only [vup, cond_true, cond_false, Nat.reduceBEq])
  clear hN42
  try clear N42
  refine Ze fun N43 hN43 => ?_
  simp (maxSteps := 2000000) only [↓Ym, ↓vdn, vup, cond_true, cond_false, Zf, ev, Nat.reduceBEq]
  refine hQb _ _ _ (hQa _ _ _ ?_)
  simp (maxSteps := 2000000) only [Zf, Zp, Zs, if_true, Nat.sub_self, List.replicate_zero, List.append_nil]
  refine hX [(0, Zc (n : Nat)), (1, v), (2, Zc (s : Nat)), (6, .slice none 0 0), (7, .bool false), (8, wv), (10, .slice (some ⟨B, 0, some 0⟩) m C), (15, Zc (W.length : Nat)), (26, .slice (some ⟨G'.length, 0, none⟩) n n), (214, .bool false), (229, .bool false)] _ _ ?_ (by simp (maxSteps := 2000000) only [vup, cond_true, cond_false, Nat.reduceBEq])
  clear hX
  try clear X
  clear hQa hQb
  -- filled
  obtain ⟨F, hF⟩ : ∃ F : Nat → Zh, F = fun k => G' ++ [.cells ((Yd ((Xm n W xs k).map ofQ)).map Zc) 26 false] := ⟨_, rfl⟩
  have hF0 : ∀ k, (F k)[G'.length]? = some (.cells ((Yd ((Xm n W xs k).map ofQ)).map Zc) 26 false) := fun k => by rw [hF]; exact Zz _ _
  have hFE : ∀ k, Ext (fun _ => False) G' (F k) := fun k => by rw [hF]; exact Ext.app _ _ _
  have hFs : ∀ k, (F k).set G'.length (.cells ((Yd ((Xm n W xs (k + 1)).map ofQ)).map Zc) 26 false) = F (k + 1) := fun k => by
    simp only [hF]; rw [Wi]
  have hF1 : G' ++ [.cells ((Yd (List.replicate n ((0 : Int), (1 : Int)))).map Zc) 26 false] = F 0 := by
    rw [hF]; simp only [Xm, List.map_replicate]; rfl
  rw [hF1]
  have howF : ∀ k, IntSl (F k) wv (Wh W) := fun k => iExt how' (hFE k)
  have MF : ∀ k, Mat (F k) B m W.length w bk S := fun k => MS.ext (hFE k)
  refine Zl fun X hX => ?_
  refine Ze fun N44 hN44 => ?_
  simp (maxSteps := 2000000) only [↓Za, ↓Zb, ↓Zd, vup, List.map_cons, List.map_nil, cond_true, cond_false, aop, Zf, ev, sput, Zg, Zk, Nat.reduceBEq, tyf, (howF 0).len, hli]
  refine hN44 [(0, Zc (n : Nat)), (1, v), (2, Zc (s : Nat)), (6, .slice none 0 0), (7, .bool false), (8, wv), (10, .slice (some ⟨B, 0, some 0⟩) m C), (15, Zc (W.length : Nat)), (26, .slice (some ⟨G'.length, 0, none⟩) n n), (214, .bool false), (229, .bool false), (236, wv), (237, Zc (W.length : Nat)), (238, .int .i64 0)] _ _ ?_ (by simp (maxSteps := 2000000) only [vup, cond_true, cond_false, Nat.reduceBEq])
  clear hN44
  try clear N44
  refine Zm ?_
  refine Zo fun Qa hQa => ?_
  refine Yi (γ := Nat) (fun k => k ≤ W.length ∧ ∀ c, c < k → ¬ S c W.length < 0) (fun k => ([(0, Zc (n : Nat)), (1, v), (2, Zc (s : Nat)), (6, .slice none 0 0), (7, .bool false), (8, wv), (10, .slice (some ⟨B, 0, some 0⟩) m C), (15, Zc (W.length : Nat)), (26, .slice (some ⟨G'.length, 0, none⟩) n n), (214, .bool false), (229, .bool false), (236, wv), (237, Zc (W.length : Nat)), (238, Zc (k : Nat))], F k)) (fun k => W.length - k) 0 ⟨Nat.zero_le _, fun c hc => by omega⟩ (by simp (maxSteps := 2000000) only [vup, cond_true, cond_false, Nat.reduceBEq, Int.natCast_zero]) rfl ?_
  rintro k ⟨hk, hnn⟩
  refine Zo fun Qb hQb => ?_
  simp only [l104_10]
  by_cases hkin : (k : Int) < W.length
  · have hk' : k < W.length := by omega
    have hkc : k < (Wh W).length := by omega
    have hkm' : k < m := by omega
    have hw : W.getD k 0 < n := hWlt _ (by rw [List.getD, List.getElem?_eq_getElem hk']; exact List.getElem_mem hk')
    have hslen : ((Xm n W xs k).map ofQ).length = n := by rw [List.length_map, Vb]
    have pF := pairSl_cells (hF0 k)
    rw [hslen] at pF
    have hwS : W.getD k 0 < ((Xm n W xs k).map ofQ).length := by rw [hslen]; exact hw
    have hst : ∀ K : Zh → Prop, Xs prog (F k) 26 (.pointer (some ⟨G'.length, W.getD k 0 * 2, none⟩)) (qV (S k W.length)) K = K (F (k + 1)) := fun K => by
      rw [← hxg k hk']
      rw [qV, frV, storePC (hF0 k) shp_26 hwS, ← hFs k, Xm, List.map_set]; rfl
    have hneg : decide ((S k W.length).num < 0) = decide (S k W.length < 0) := by
      refine decide_eq_decide.2 ?_
      rw [← Rat.not_le, ← Rat.num_nonneg]; omega
    refine Ze fun N45 hN45 => ?_
    simp (maxSteps := 2000000) only [↓Za, ↓Zb, ↓Zd, vup, cond_true, cond_false, aop, Zf, ev, sput, Zg, Yb, Ye, Nat.reduceBEq, hkin]
    refine hN45 [(0, Zc (n : Nat)), (1, v), (2, Zc (s : Nat)), (6, .slice none 0 0), (7, .bool false), (8, wv), (10, .slice (some ⟨B, 0, some 0⟩) m C), (15, Zc (W.length : Nat)), (26, .slice (some ⟨G'.length, 0, none⟩) n n), (214, .bool false), (229, .bool false), (236, wv), (237, Zc (W.length : Nat)), (238, Zc (k : Nat)), (239, .bool true)] _ _ ?_ (by simp (maxSteps := 2000000) only [vup, cond_true, cond_false, Nat.reduceBEq])
    clear hN45
    try clear N45
    refine Ze fun N46 hN46 => ?_
    simp (maxSteps := 2000000) only [↓Zr, ↓vdn, vup, cond_true, cond_false, Zf, ev, Nat.reduceBEq]
    refine hN46 [(0, Zc (n : Nat)), (1, v), (2, Zc (s : Nat)), (6, .slice none 0 0), (7, .bool false), (8, wv), (10, .slice (some ⟨B, 0, some 0⟩) m C), (15, Zc (W.length : Nat)), (26, .slice (some ⟨G'.length, 0, none⟩) n n), (214, .bool false), (229, .bool false), (236, wv), (237, Zc (W.length : Nat)), (238, Zc (k : Nat))] _ _ ?_ (by simp (maxSteps := 2000000) only [vup, cond_true, cond_false, Nat.reduceBEq])
    clear hN46
    try clear N46
    refine Zl fun U hU => ?_
    refine Zm ?_
    refine Ze fun N47 hN47 => ?_
    simp (maxSteps := 2000000) only [↓Za, ↓Zb, ↓Zd, vup, cond_true, cond_false, aop, Zf, ev, sput, Zg, Nat.reduceBEq, (howF k).idx el_38 Vi hkc, (howF k).load Wk hkc, castI_getD]
    refine hN47 [(0, Zc (n : Nat)), (1, v), (2, Zc (s : Nat)), (6, .slice none 0 0), (7, .bool false), (8, wv), (10, .slice (some ⟨B, 0, some 0⟩) m C), (15, Zc (W.length : Nat)), (26, .slice (some ⟨G'.length, 0, none⟩) n n), (28, Zc (k : Nat)), (29, Zc (W.getD k 0 : Nat)), (214, .bool false), (229, .bool false), (236, wv), (237, Zc (W.length : Nat)), (238, Zc (k : Nat))] _ _ ?_ (by simp (maxSteps := 2000000) only [vup, cond_true, cond_false, Nat.reduceBEq])
    clear hN47
    try clear N47
    refine Zl fun D hD => ?_
    refine Ze fun N48 hN48 => ?_
    simp (maxSteps := 2000000) only [↓Za, ↓Zb, ↓Zd, vup, cond_true, cond_false, aop, Zf, ev, sput, Zg, Yb, Ye, Nat.reduceBEq, tyf, idxJ hkm', (MF k).loadRow hkm', (MF k).idxR hkm' (Nat.le_refl _), fA0o, (MF k).loadN hkm' (Nat.le_refl _), hneg]
    refine hN48 [(0, Zc (n : Nat)), (1, v), (2, Zc (s : Nat)), (6, .slice none 0 0), (7, .bool false), (8, wv), (10, .slice (some ⟨B, 0, some 0⟩) m C), (15, Zc (W.length : Nat)), (26, .slice (some ⟨G'.length, 0, none⟩) n n), (28, Zc (k : Nat)), (29, Zc (W.getD k 0 : Nat)), (214, .bool false), (229, .bool false), (236, wv), (237, Zc (W.length : Nat)), (238, Zc (k : Nat)), (251, .bool (decide (S k W.length < 0)))] _ _ ?_ (by simp (maxSteps := 2000000) only [vup, cond_true, cond_false, Nat.reduceBEq])
    clear hN48
    try clear N48
    by_cases h0 : S k W.length < 0
    · rw [decide_eq_true h0]
      refine Yu rfl ?_
      refine Zi ?_
      simp (maxSteps := 2000000) only [↓Za, ↓Zu, ↓Zx, ↓Zb, ↓Zd, vup, cond_true, cond_false, aop, Zf, Zp, ev, sput, Zg, Nat.reduceBEq]
      refine hQb _ _ _ (hQa _ _ _ ?_)
      simp (maxSteps := 2000000) only [vup, cond_true, cond_false, Zf, Zp, Nat.reduceBEq, Zs, Wc, tup]
      have : (xs.any fun q => decide (q < 0)) = true := by
        rw [List.any_eq_true]
        have hkx : k < xs.length := by omega
        refine ⟨xs[k], List.getElem_mem hkx, ?_⟩
        have := hxg k hk'
        rw [List.getD, List.getElem?_eq_getElem hkx, Option.getD_some] at this
        rw [this]; simpa using h0
      rw [hcorner, this, if_pos rfl]
      exact ⟨hE'.trans (hFE k), _, _, rfl, rfl, rfl⟩
    · rw [decide_eq_false h0]
      refine Yf rfl ?_
      refine Zi ?_
      simp (maxSteps := 2000000) only [↓Zr, Zf]
      refine hD [(0, Zc (n : Nat)), (1, v), (2, Zc (s : Nat)), (6, .slice none 0 0), (7, .bool false), (8, wv), (10, .slice (some ⟨B, 0, some 0⟩) m C), (15, Zc (W.length : Nat)), (26, .slice (some ⟨G'.length, 0, none⟩) n n), (28, Zc (k : Nat)), (29, Zc (W.getD k 0 : Nat)), (214, .bool false), (229, .bool false), (236, wv), (237, Zc (W.length : Nat)), (238, Zc (k : Nat))] _ _ ?_ (by simp (maxSteps := 2000000) only [vup, cond_true, cond_false, Nat.reduceBEq])
      clear hD
      try clear D
      refine Zi ?_
      simp (maxSteps := 2000000) only [↓Za, ↓Zb, ↓Zd, vup, cond_true, cond_false, aop, Zf, Zp, ev, sput, Zg, Nat.reduceBEq, idxJ hkm', (MF k).loadRow hkm', (MF k).idxR hkm' (Nat.le_refl _), (MF k).loadE hkm' (Nat.le_refl _), pF.idx el_47 Vs hwS, elemP_pair, hst]
      refine hU [(0, Zc (n : Nat)), (1, v), (2, Zc (s : Nat)), (6, .slice none 0 0), (7, .bool false), (8, wv), (10, .slice (some ⟨B, 0, some 0⟩) m C), (15, Zc (W.length : Nat)), (26, .slice (some ⟨G'.length, 0, none⟩) n n), (214, .bool false), (229, .bool false), (236, wv), (237, Zc (W.length : Nat)), (238, Zc (k : Nat))] _ _ ?_ (by simp (maxSteps := 2000000) only [vup, cond_true, cond_false, Nat.reduceBEq])
      clear hU
      try clear U
      refine Zi ?_
      simp (maxSteps := 2000000) only [↓Za, ↓Zb, ↓Zd, vup, cond_true, cond_false, aop, ev, sput, Zg, Yb, Ye, Nat.reduceBEq, Vt (show k < 9223372036854775807 by omega)]
      refine hQb _ _ _ ⟨k + 1, ⟨hk', fun c hc => ?_⟩, by omega, by simp (maxSteps := 2000000) only [vup, cond_true, cond_false, Nat.reduceBEq], rfl⟩
      rcases Nat.lt_or_ge c k with h2 | h2
      · exact hnn c h2
      · rw [show c = k by omega]; exact h0
  have hkk := Vx hkin hk
  subst hkk
  refine Ze fun N49 hN49 => ?_
  simp (maxSteps := 2000000) only [↓Za, ↓Zb, ↓Zd, vup, cond_true, cond_false, aop, Zf, ev, sput, Zg, Yb, Ye, Nat.reduceBEq, hkin]
  refine hN49 [(0, Zc (n : Nat)), (1, v), (2, Zc (s : Nat)), (6, .slice none 0 0), (7, .bool false), (8, wv), (10, .slice (some ⟨B, 0, some 0⟩) m C), (15, Zc (W.length : Nat)), (26, .slice (some ⟨G'.length, 0, none⟩) n n), (214, .bool false), (229, .bool false), (236, wv), (237, Zc (W.length : Nat)), (238, Zc (W.length : Nat)), (239, .bool false)] _ _ ?_ (by simp (maxSteps := 2000000) only [vup, cond_true, cond_false, Nat.reduceBEq])
  clear hN49
  try clear N49
  refine Ze fun N50 hN50 => ?_
  simp (maxSteps := 2000000) only [↓Ym, ↓vdn, vup, cond_true, cond_false, Zf, ev, Nat.reduceBEq]
  refine hQb _ _ _ (hQa _ _ _ ?_)
  simp (maxSteps := 2000000) only [Zf, Zp, Zs, if_true]
  refine hX [(0, Zc (n : Nat)), (1, v), (2, Zc (s : Nat)), (6, .slice none 0 0), (7, .bool false), (8, wv), (10, .slice (some ⟨B, 0, some 0⟩) m C), (15, Zc (W.length : Nat)), (26, .slice (some ⟨G'.length, 0, none⟩) n n), (214, .bool false), (229, .bool false), (239, .bool false)] _ _ ?_ (by simp (maxSteps := 2000000) only [vup, cond_true, cond_false, Nat.reduceBEq])
  clear hX
  try clear X
  have hany : (xs.any fun q => decide (q < 0)) = false := by
    rw [← Bool.not_eq_true, List.any_eq_true]
    rintro ⟨q, hq, hlt⟩
    obtain ⟨c, hc, rfl⟩ := List.getElem_of_mem hq
    have := hxg c (by omega)
    rw [List.getD, List.getElem?_eq_getElem hc, Option.getD_some] at this
    rw [this] at hlt
    exact hnn c (by omega) (by simpa using hlt)
  refine Zi ?_
  simp (maxSteps := 2000000) only [↓Za, ↓Zu, ↓Zx, ↓Zb, ↓Zd, vup, cond_true, cond_false, aop, Zf, ev, sput, Zg, Nat.reduceBEq, Zs, Wc, tup]
  rw [hcorner, hany, if_neg (by simp)]
  refine ⟨hE'.trans (hFE W.length), _, _, rfl, rfl, ⟨G'.length, by rw [Vb], hF0 _⟩, fun bl hbl => ?_⟩
  cases hbl
  exact hE'.1
end Go.Proofs.Try.Am
