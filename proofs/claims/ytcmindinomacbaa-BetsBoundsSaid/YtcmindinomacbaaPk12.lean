/-
  bets: law Bounds.
-/
import Derived.Test.YtcmindinomacbaaPk11
set_option linter.all false
namespace Go.Proofs.Try.Am
open Go.Am Bq
set_option maxRecDepth 100000
set_option maxHeartbeats 4000000

theorem s29_callW [Tabs Try.prog] {args : List Value} {h : Zh} {Q : Value → Zh → Prop} (hsz : args.length ≤ 26) (hk : AWS Try.prog 26 s29 (Zs Try.prog [.tmp 4] Q) (Zr 0 args) h) : ACall Try.prog 29 args h Q :=
  Ys Try.func29 rfl (enters_of Try.func29 (by kernel_rfl) rfl) rfl rfl (by decide) s29_strip s29_ok hsz hk
theorem equalI_call [Tabs prog] {h : Zh} {u v : Value} {xs ys : List Int} (hu : IntSl h u xs) (hv : IntSl h v ys) (hl : xs.length < 9223372036854775808) : Xi prog 29 [u, v] h (.bool (decide (xs = ys))) := by
  refine s29_callW (by simp) ?_
  simp only [s29]
  refine Ze fun N1 hN1 => ?_
  simp (maxSteps := 2000000) only [↓Za, ↓Zb, ↓Zd, vup, cond_false, aop, Zg, Zr, ev, sput, Zf, Nat.reduceBEq, Nat.reduceAdd]
  refine hN1 [(0, u), (1, v), (4, .bool false)] _ _ ?_ (by simp (maxSteps := 2000000) only [vup, cond_true, cond_false, Nat.reduceBEq])
  clear hN1
  try clear N1
  by_cases hn : xs.length = ys.length
  · have hne : (((xs.length : Nat) : Int) != ((ys.length : Nat) : Int)) = false := by simp [hn]
    refine Ze fun N2 hN2 => ?_
    simp (maxSteps := 2000000) only [↓Za, ↓Zo, ↓Zu, ↓Zz, ↓Zb, ↓Zd, ↓vdn, vup, List.map_cons, List.map_nil, cond_true, cond_false, aop, Zg, ev, sput, Zf, Yb, Ye, Zj, Nat.reduceBEq, Zs, Wd, tup, tyf, hu.len, hv.len, hne]
    refine hN2 [(0, u), (1, v), (4, .bool false)] _ _ ?_ (by simp (maxSteps := 2000000) only [vup, cond_true, cond_false, Nat.reduceBEq])
    clear hN2
    try clear N2
    refine Zk fun Z hZ => ?_
    refine Ze fun N3 hN3 => ?_
    simp (maxSteps := 2000000) only [↓Za, ↓Zb, ↓Zd, vup, List.map_cons, List.map_nil, cond_true, cond_false, aop, Zg, ev, sput, Zf, Zj, Nat.reduceBEq, tyf, hu.len]
    refine hN3 [(0, u), (1, v), (4, .bool false), (11, u), (12, Zc xs.length), (13, .int .i64 0)] _ _ ?_ (by simp (maxSteps := 2000000) only [vup, cond_true, cond_false, Nat.reduceBEq])
    clear hN3
    try clear N3
    refine Zl ?_
    refine Zn fun Q hQ => ?_
    refine Yk (γ := Nat) (fun k => k ≤ xs.length ∧ ∀ i, i < k → xs.getD i 0 = ys.getD i 0)
      (fun k => ([(0, u), (1, v), (4, .bool false), (11, u), (12, Zc xs.length), (13, Zc (k : Nat))], h)) (fun k => xs.length - k) 0 ⟨Nat.zero_le _, fun i hi => by omega⟩ (by simp (maxSteps := 2000000) only [vup, cond_true, cond_false, Nat.reduceBEq, Int.natCast_zero]) rfl ?_
    rintro k ⟨hk, hall⟩
    refine Zn fun Q2 hQ2 => ?_
    simp only [l29_0]
    by_cases hin : (k : Int) < xs.length
    · have hk' : k < xs.length := by omega
      have hky : k < ys.length := by omega
      refine Ze fun N4 hN4 => ?_
      simp (maxSteps := 2000000) only [↓Za, ↓Zb, ↓Zd, vup, cond_true, cond_false, aop, Zg, ev, sput, Zf, Yb, Ye, Nat.reduceBEq, hin]
      refine hN4 [(0, u), (1, v), (4, .bool false), (11, u), (12, Zc xs.length), (13, Zc (k : Nat)), (14, .bool true)] _ _ ?_ (by simp (maxSteps := 2000000) only [vup, cond_true, cond_false, Nat.reduceBEq])
      clear hN4
      try clear N4
      refine Ze fun N5 hN5 => ?_
      simp (maxSteps := 2000000) only [↓Zo, ↓vdn, vup, cond_true, cond_false, Zg, ev, Nat.reduceBEq]
      refine hN5 [(0, u), (1, v), (4, .bool false), (11, u), (12, Zc xs.length), (13, Zc (k : Nat))] _ _ ?_ (by simp (maxSteps := 2000000) only [vup, cond_true, cond_false, Nat.reduceBEq])
      clear hN5
      try clear N5
      refine Zk fun B hB => ?_
      refine Zl ?_
      refine Ze fun N6 hN6 => ?_
      simp (maxSteps := 2000000) only [↓Za, ↓Zb, ↓Zd, vup, cond_true, cond_false, aop, Zg, ev, sput, Zf, Nat.reduceBEq]
      refine hN6 [(0, u), (1, v), (4, .bool false), (5, Zc (k : Nat)), (11, u), (12, Zc xs.length), (13, Zc (k : Nat))] _ _ ?_ (by simp (maxSteps := 2000000) only [vup, cond_true, cond_false, Nat.reduceBEq])
      clear hN6
      try clear N6
      obtain ⟨a, ha⟩ : ∃ a, xs.getD k 0 = a := ⟨_, rfl⟩
      obtain ⟨b, hb⟩ : ∃ b, ys.getD k 0 = b := ⟨_, rfl⟩
      refine Ze fun N7 hN7 => ?_
      simp only [q29_6]
      refine Wc [] (by kernel_rfl) (by kernel_rfl) (by kernel_rfl) (by kernel_rfl) ?_
      simp (maxSteps := 2000000) only [↓Yz, ↓vdn, vup, cond_true, cond_false, aop, Zg, ev, sput, Zf, Yb, Ye, Nat.reduceBEq, Nat.reduceAdd, tyf, hu.idx el_38 esz_3 hk', hu.load shp_3 hk', hv.idx el_38 esz_3 hky, hv.load shp_3 hky, ha, hb]
      refine hN7 [(0, u), (1, v), (4, .bool false), (5, Zc (k : Nat)), (11, u), (12, Zc xs.length), (13, Zc (k : Nat)), (24, .bool (a != b))] _ _ ?_ (by simp (maxSteps := 2000000) only [vup, cond_true, cond_false, Nat.reduceBEq])
      clear hN7
      try clear N7
      cases hab : (a != b) with
      | true =>
        refine Yx rfl ?_
        refine Zi ?_
        simp (maxSteps := 2000000) only [↓Za, ↓Zu, ↓Zz, ↓Zb, ↓Zd, vup, cond_true, cond_false, aop, Zg, Zm, ev, sput, Zf, Nat.reduceBEq]
        refine hQ2 _ _ _ (hQ _ _ _ ?_)
        have hne2 : ¬ xs = ys := fun he => by
          rw [he, hb] at ha
          rw [ha] at hab
          simp at hab
        simp (maxSteps := 2000000) only [vup, cond_true, cond_false, Zg, Zm, Nat.reduceBEq, Zs, Wd, tup, decide_eq_false hne2]
      | false =>
        refine Yi rfl ?_
        refine Zi ?_
        simp (maxSteps := 2000000) only [↓Zo, Zg, Zm]
        refine hB [(0, u), (1, v), (4, .bool false), (11, u), (12, Zc xs.length), (13, Zc (k : Nat))] _ _ ?_ (by simp (maxSteps := 2000000) only [vup, cond_true, cond_false, Nat.reduceBEq])
        clear hB
        try clear B
        refine Zi ?_
        simp (maxSteps := 2000000) only [↓Za, ↓Zb, ↓Zd, vup, cond_true, cond_false, aop, ev, sput, Zf, Yb, Ye, Nat.reduceBEq, Vx (show k < 9223372036854775807 by omega)]
        refine hQ2 _ _ _ ⟨k + 1, ⟨hk', fun i hi => ?_⟩, by omega, by simp (maxSteps := 2000000) only [vup, cond_true, cond_false, Nat.reduceBEq], rfl⟩
        rcases Nat.lt_or_ge i k with h1 | h1
        · exact hall i h1
        · rw [show i = k by omega, ha, hb]
          rw [bne, Bool.not_eq_false', beq_iff_eq] at hab
          exact hab
    · obtain rfl : k = xs.length := by omega
      refine Ze fun N8 hN8 => ?_
      simp (maxSteps := 2000000) only [↓Za, ↓Zb, ↓Zd, vup, cond_true, cond_false, aop, Zg, ev, sput, Zf, Yb, Ye, Nat.reduceBEq, hin]
      refine hN8 [(0, u), (1, v), (4, .bool false), (11, u), (12, Zc xs.length), (13, Zc xs.length), (14, .bool false)] _ _ ?_ (by simp (maxSteps := 2000000) only [vup, cond_true, cond_false, Nat.reduceBEq])
      clear hN8
      try clear N8
      refine Ze fun N9 hN9 => ?_
      simp (maxSteps := 2000000) only [↓Yq, ↓vdn, vup, cond_true, cond_false, Zg, ev, Nat.reduceBEq]
      refine hQ2 _ _ _ (hQ _ _ _ ?_)
      simp (maxSteps := 2000000) only [Zg, Zm, Zs, if_true]
      refine hZ [(0, u), (1, v), (4, .bool false), (14, .bool false)] _ _ ?_ (by simp (maxSteps := 2000000) only [vup, cond_true, cond_false, Nat.reduceBEq])
      clear hZ
      try clear Z
      have heq : xs = ys := by
        apply List.ext_getElem hn
        intro i h1 h2
        have := hall i h1
        simpa [List.getD, h1, h2] using this
      refine Zi ?_
      simp (maxSteps := 2000000) only [↓Za, ↓Zu, ↓Zz, ↓Zb, ↓Zd, vup, cond_true, cond_false, aop, Zg, ev, sput, Zf, Nat.reduceBEq, Zs, Wd, tup, decide_eq_true heq]
  · have hne : (((xs.length : Nat) : Int) != ((ys.length : Nat) : Int)) = true := by
      have : ¬ ((xs.length : Nat) : Int) = ((ys.length : Nat) : Int) := by omega
      simpa [bne] using this
    have hne2 : ¬ xs = ys := fun he => hn (by rw [he])
    refine Zi ?_
    simp (maxSteps := 2000000) only [↓Za, ↓Zo, ↓Zu, ↓aw_block, ↓Zz, ↓Zb, ↓Zd, ↓vdn, vup, List.map_cons, List.map_nil, cond_true, cond_false, aop, Zg, ev, sput, Zf, Yb, Ye, Zj, Nat.reduceBEq, Zs, Wd, tup, tyf, hu.len, hv.len, hne, decide_eq_false hne2]

/-- A bet's event has the bet's price alone. -/
theorem bet_price {n : Nat} {l : List (Int × Int)} (hval : Xb n l = true) (hne : Yd n l ≠ []) {i : Nat} (hi : i < l.length) {e : Nat} {c : Int} (hxy : l.getD i (0, 0) = ((e : Int), c)) :
    loQ n e l = Rat.divInt c 12 ∧ hiQ n e l = Rat.divInt c 12 := by
  have hall : ∀ b ∈ Yd n l, cvq n e b = Rat.divInt c 12 := fun b hb => by
    have := (Vt hval hb).2.1.bet i hi
    rw [hxy, Int.toNat_natCast] at this
    exact this
  have h0 : cvq n e ((Yd n l).headD []) = Rat.divInt c 12 := by
    cases hc : Yd n l with
    | nil => exact absurd hc hne
    | cons b bs => exact hall b (by rw [hc]; simp)
  have hm : ∀ v ∈ (Yd n l).map (cvq n e), v = Rat.divInt c 12 := fun v hv => by
    obtain ⟨b, hb, rfl⟩ := List.mem_map.1 hv
    exact hall b hb
  constructor
  · rw [loQ, h0]
    rcases (minL_spec ((Yd n l).map (cvq n e)) (Rat.divInt c 12)).1 with g | g
    · exact g
    · exact hm _ g
  · rw [hiQ, h0]
    rcases (maxL_spec ((Yd n l).map (cvq n e)) (Rat.divInt c 12)).1 with g | g
    · exact g
    · exact hm _ g
theorem prTo_one : ∀ c : Nat, c < 13 → prTo (Rat.divInt (c : Int) 12) (Rat.divInt (c : Int) 12) 13 = [c] := by decide +kernel

theorem s30_callW [Tabs Try.prog] {args : List Value} {h : Zh} {Q : Value → Zh → Prop} (hsz : args.length ≤ 56) (hk : AWS Try.prog 56 s30 (Zs Try.prog [.tmp 6] Q) (Zr 0 args) h) : ACall Try.prog 30 args h Q :=
  Ys Try.func30 rfl (enters_of Try.func30 (by kernel_rfl) rfl) rfl rfl (by decide) s30_strip s30_ok hsz hk
theorem rprice_call [Tabs prog] {h : Zh} {n e : Nat} {v : Value} {l : List (Int × Int)} (hv : PairSl h v l) (hval : Xb n l = true) (he : e < 2 ^ n) (hne : Yd n l ≠ []) :
    ACall prog 30 [Zc (n : Nat), v, Zc (e : Nat)] h fun r h' => Ext (fun _ => False) h h' ∧ IntSl h' r (Wm (prTo (loQ n e l) (hiQ n e l) 13)) := by
  obtain ⟨hn2, hn5, hl1, hl6, hok⟩ := Wf hval
  refine s30_callW (by simp) ?_
  simp only [s30]
  refine Ze fun N10 hN10 => ?_
  simp (maxSteps := 2000000) only [↓Za, ↓Zb, ↓Zd, vup, cond_false, aop, Zg, Zr, ev, sput, Zf, Nat.reduceBEq, Nat.reduceAdd]
  refine hN10 [(0, Zc (n : Nat)), (1, v), (2, Zc (e : Nat)), (6, .slice none 0 0)] _ _ ?_ (by simp (maxSteps := 2000000) only [vup, cond_true, cond_false, Nat.reduceBEq])
  clear hN10
  try clear N10
  refine Zk fun Z hZ => ?_
  refine Ze fun N11 hN11 => ?_
  simp (maxSteps := 2000000) only [↓Za, ↓Zb, ↓Zd, vup, List.map_cons, List.map_nil, cond_true, cond_false, aop, Zg, ev, sput, Zf, Zj, Nat.reduceBEq, tyf, hv.len]
  refine hN11 [(0, Zc (n : Nat)), (1, v), (2, Zc (e : Nat)), (6, .slice none 0 0), (14, v), (15, Zc (l.length : Nat)), (16, .int .i64 0)] _ _ ?_ (by simp (maxSteps := 2000000) only [vup, cond_true, cond_false, Nat.reduceBEq])
  clear hN11
  try clear N11
  refine Zl ?_
  refine Zn fun Q hQ => ?_
  refine Yk (γ := Nat × Zh) (fun s => s.1 ≤ l.length ∧ Ext (fun _ => False) h s.2)
    (fun s => ([(0, Zc (n : Nat)), (1, v), (2, Zc (e : Nat)), (6, .slice none 0 0), (14, v), (15, Zc (l.length : Nat)), (16, Zc (s.1 : Nat))], s.2)) (fun s => l.length - s.1) (0, h) ⟨Nat.zero_le _, Ext.refl _ _⟩ (by simp (maxSteps := 2000000) only [vup, cond_true, cond_false, Nat.reduceBEq, Int.natCast_zero]) rfl ?_
  rintro ⟨k, hp⟩ ⟨hk, hEp⟩
  simp only at hk hEp
  refine Zn fun Q2 hQ2 => ?_
  simp only [l30_0]
  by_cases hin : (k : Int) < l.length
  · have hk' : k < l.length := by omega
    have hvp := hv.ext hEp
    obtain ⟨⟨x, y⟩, hxy⟩ : ∃ p, l.getD k (0, 0) = p := ⟨_, rfl⟩
    have hb := hok k hk'
    rw [hxy] at hb
    simp only [okB, Bool.and_eq_true, decide_eq_true_eq] at hb
    obtain ⟨G, hG⟩ : ∃ G, G = hp ++ [rB x y] := ⟨_, rfl⟩
    have c8 : G[hp.length]? = some (rB x y) := by rw [hG]; exact Zy _ _
    have hEG : Ext (fun _ => False) h G := by rw [hG]; exact hEp.trans (Ext.app _ _ _)
    refine Ze fun N12 hN12 => ?_
    simp (maxSteps := 2000000) only [↓Za, ↓Zb, ↓Zd, vup, cond_true, cond_false, aop, Zg, ev, sput, Zf, Yb, Ye, Nat.reduceBEq, hin]
    refine hN12 [(0, Zc (n : Nat)), (1, v), (2, Zc (e : Nat)), (6, .slice none 0 0), (14, v), (15, Zc (l.length : Nat)), (16, Zc (k : Nat)), (17, .bool true)] _ _ ?_ (by simp (maxSteps := 2000000) only [vup, cond_true, cond_false, Nat.reduceBEq])
    clear hN12
    try clear N12
    refine Ze fun N13 hN13 => ?_
    simp (maxSteps := 2000000) only [↓Zo, ↓vdn, vup, cond_true, cond_false, Zg, ev, Nat.reduceBEq]
    refine hN13 [(0, Zc (n : Nat)), (1, v), (2, Zc (e : Nat)), (6, .slice none 0 0), (14, v), (15, Zc (l.length : Nat)), (16, Zc (k : Nat))] _ _ ?_ (by simp (maxSteps := 2000000) only [vup, cond_true, cond_false, Nat.reduceBEq])
    clear hN13
    try clear N13
    refine Zk fun B hB => ?_
    refine Zl ?_
    refine Ze fun N14 hN14 => ?_
    simp (maxSteps := 2000000) only [↓Za, ↓Zb, ↓Zd, vup, cond_true, cond_false, aop, Zg, ev, sput, Zf, Nat.reduceBEq, tyf, hvp.idx el_22 esz_24 hk', hvp.load shp_24 hk', hxy, Xg, Yp, storeRt (Zy hp zR) rfl, Xm]
    rw [← hG]
    refine hN14 [(0, Zc (n : Nat)), (1, v), (2, Zc (e : Nat)), (6, .slice none 0 0), (8, .pointer (some ⟨hp.length, 0, none⟩)), (14, v), (15, Zc (l.length : Nat)), (16, Zc (k : Nat))] _ _ ?_ (by simp (maxSteps := 2000000) only [vup, cond_true, cond_false, Nat.reduceBEq])
    clear hN14
    try clear N14
    refine Ze fun N15 hN15 => ?_
    simp (maxSteps := 2000000) only [↓Za, ↓Zb, ↓Zd, vup, cond_true, cond_false, aop, Zg, ev, sput, Zf, Yb, Ye, Nat.reduceBEq, tyf, rA0, loadR0 c8]
    refine hN15 [(0, Zc (n : Nat)), (1, v), (2, Zc (e : Nat)), (6, .slice none 0 0), (8, .pointer (some ⟨hp.length, 0, none⟩)), (14, v), (15, Zc (l.length : Nat)), (16, Zc (k : Nat)), (23, .bool (x == (e : Int)))] _ _ ?_ (by simp (maxSteps := 2000000) only [vup, cond_true, cond_false, Nat.reduceBEq])
    clear hN15
    try clear N15
    cases hxe : (x == (e : Int)) with
    | true =>
      rw [beq_iff_eq] at hxe
      subst hxe
      obtain ⟨c, hc⟩ : ∃ c : Nat, y = c := ⟨y.toNat, by omega⟩
      subst hc
      obtain ⟨h1, h2⟩ := bet_price hval hne hk' hxy
      refine Yx rfl ?_
      refine Zi ?_
      simp (maxSteps := 2000000) only [↓Za, ↓Zu, ↓Zz, ↓Zb, ↓Zd, vup, List.map_cons, List.map_nil, cond_true, cond_false, aop, Zg, Zm, ev, sput, Zf, Nat.reduceBEq, rA1, loadR1 c8, litI1]
      refine hQ2 _ _ _ (hQ _ _ _ ?_)
      simp (maxSteps := 2000000) only [vup, cond_true, cond_false, Zg, Zm, Nat.reduceBEq, Zs, Wd, tup]
      rw [h1, h2, prTo_one c (by omega)]
      refine ⟨hEG.trans (Ext.app _ _ _), ?_⟩
      exact intSl_blk (Zy _ _)
    | false =>
      refine Yi rfl ?_
      refine Zi ?_
      simp (maxSteps := 2000000) only [↓Zo, Zg, Zm]
      refine hB [(0, Zc (n : Nat)), (1, v), (2, Zc (e : Nat)), (6, .slice none 0 0), (14, v), (15, Zc (l.length : Nat)), (16, Zc (k : Nat))] _ _ ?_ (by simp (maxSteps := 2000000) only [vup, cond_true, cond_false, Nat.reduceBEq])
      clear hB
      try clear B
      refine Zi ?_
      simp (maxSteps := 2000000) only [↓Za, ↓Zb, ↓Zd, vup, cond_true, cond_false, aop, ev, sput, Zf, Yb, Ye, Nat.reduceBEq, Vx (show k < 9223372036854775807 by omega)]
      exact hQ2 _ _ _ ⟨(k + 1, G), ⟨hk', hEG⟩, by simp only; omega, by simp (maxSteps := 2000000) only [vup, cond_true, cond_false, Nat.reduceBEq], rfl⟩
  · obtain rfl : k = l.length := by omega
    refine Ze fun N16 hN16 => ?_
    simp (maxSteps := 2000000) only [↓Za, ↓Zb, ↓Zd, vup, cond_true, cond_false, aop, Zg, ev, sput, Zf, Yb, Ye, Nat.reduceBEq, hin]
    refine hN16 [(0, Zc (n : Nat)), (1, v), (2, Zc (e : Nat)), (6, .slice none 0 0), (14, v), (15, Zc (l.length : Nat)), (16, Zc l.length), (17, .bool false)] _ _ ?_ (by simp (maxSteps := 2000000) only [vup, cond_true, cond_false, Nat.reduceBEq])
    clear hN16
    try clear N16
    refine Ze fun N17 hN17 => ?_
    simp (maxSteps := 2000000) only [↓Yq, ↓vdn, vup, cond_true, cond_false, Zg, ev, Nat.reduceBEq]
    refine hQ2 _ _ _ (hQ _ _ _ ?_)
    simp (maxSteps := 2000000) only [Zg, Zm, Zs, if_true]
    refine hZ [(0, Zc (n : Nat)), (1, v), (2, Zc (e : Nat)), (6, .slice none 0 0), (17, .bool false)] _ _ ?_ (by simp (maxSteps := 2000000) only [vup, cond_true, cond_false, Nat.reduceBEq])
    clear hZ
    try clear Z
    clear hQ hQ2
    have hvp := hv.ext hEp
    obtain ⟨sl, sh⟩ := bnd_sm (e := e) hval hne
    have rb := rbounds_call hvp hval he hne
    obtain ⟨lo, hlo⟩ : ∃ x, loQ n e l = x := ⟨_, rfl⟩
    obtain ⟨hi, hhi⟩ : ∃ x, hiQ n e l = x := ⟨_, rfl⟩
    rw [hlo, hhi] at rb
    rw [hlo] at sl ⊢
    rw [hhi] at sh ⊢
    refine Ze fun N18 hN18 => ?_
    simp (maxSteps := 2000000) only [↓Za, ↓Zb, ↓Zd, vup, List.map_cons, List.map_nil, cond_true, cond_false, aop, Zg, ev, sput, Zf, Nat.reduceBEq, Yn, List.nil_append, List.append_nil]
    refine (rb).mono ?_
    rintro _ H ⟨hEH, rfl⟩
    obtain ⟨G, hG⟩ : ∃ G, G = H ++ [fC lo.num lo.den] ++ [fC hi.num hi.den] := ⟨_, rfl⟩
    have hEG : Ext (fun _ => False) H G := by rw [hG]; exact e2 ..
    have b9 : G[H.length]? = some (fC lo.num lo.den) := by rw [hG]; exact b2_0 ..
    have b10 : G[H.length + 1]? = some (fC hi.num hi.den) := by rw [hG]; exact b2_1 ..
    have st9 : ∀ {K : Zh → Prop}, Xf prog (H ++ [z0] ++ [z0]) 26 (.pointer (some ⟨H.length, 0, none⟩)) (.agg #[Zc lo.num, Zc lo.den]) K = K (H ++ [fC lo.num lo.den] ++ [z0]) := fun {K} => by
      rw [Xk (b2_0 ..) rfl, List.set_append_left _ _ (by simp), Xm]
    have st10 : ∀ {K : Zh → Prop}, Xf prog (H ++ [fC lo.num lo.den] ++ [z0]) 26 (.pointer (some ⟨H.length + 1, 0, none⟩)) (.agg #[Zc hi.num, Zc hi.den]) K = K G := fun {K} => by
      have := Xm (H ++ [fC lo.num lo.den]) z0 (fC hi.num hi.den)
      simp only [List.length_append, List.length_singleton] at this
      rw [Xk (b2_1 ..) rfl, this, hG]
    simp (maxSteps := 2000000) only [extr_20, extr_21, tyf, qV, frV, Xg, Yp, List.length_append, List.length_singleton, st9, st10]
    refine hN18 [(0, Zc (n : Nat)), (1, v), (2, Zc (e : Nat)), (6, .slice none 0 0), (9, .pointer (some ⟨H.length, 0, none⟩)), (10, .pointer (some ⟨H.length + 1, 0, none⟩)), (17, .bool false)] _ _ ?_ (by simp (maxSteps := 2000000) only [vup, cond_true, cond_false, Nat.reduceBEq])
    clear hN18
    try clear N18
    refine Ze fun N19 hN19 => ?_
    simp (maxSteps := 2000000) only [↓Za, ↓Zb, ↓Zd, vup, cond_false, aop, Zg, ev, sput, Zf, Nat.reduceBEq]
    refine hN19 [(0, Zc (n : Nat)), (1, v), (2, Zc (e : Nat)), (6, .slice none 0 0), (9, .pointer (some ⟨H.length, 0, none⟩)), (10, .pointer (some ⟨H.length + 1, 0, none⟩)), (11, .slice none 0 0), (17, .bool false)] _ _ ?_ (by simp (maxSteps := 2000000) only [vup, cond_true, cond_false, Nat.reduceBEq])
    clear hN19
    try clear N19
    refine Zk fun Z hZ => ?_
    refine Ze fun N20 hN20 => ?_
    simp (maxSteps := 2000000) only [↓Za, ↓Zb, ↓Zd, vup, cond_false, aop, Zg, ev, sput, Zf, Nat.reduceBEq]
    refine hN20 [(0, Zc (n : Nat)), (1, v), (2, Zc (e : Nat)), (6, .slice none 0 0), (9, .pointer (some ⟨H.length, 0, none⟩)), (10, .pointer (some ⟨H.length + 1, 0, none⟩)), (11, .slice none 0 0), (17, .bool false), (35, .int .i64 0)] _ _ ?_ (by simp (maxSteps := 2000000) only [vup, cond_true, cond_false, Nat.reduceBEq])
    clear hN20
    try clear N20
    refine Zl ?_
    refine Zn fun Q hQ => ?_
    refine Yk (γ := Nat × Value × Zh) (fun s => s.1 ≤ 13 ∧ OwnSl 3 s.2.2 s.2.1 (Wm (prTo lo hi s.1)) ∧ Ext (fun _ => False) G s.2.2 ∧ ∀ b, Yh s.2.1 = some b → G.length ≤ b)
      (fun s => ([(0, Zc (n : Nat)), (1, v), (2, Zc (e : Nat)), (6, .slice none 0 0), (9, .pointer (some ⟨H.length, 0, none⟩)), (10, .pointer (some ⟨H.length + 1, 0, none⟩)), (11, s.2.1), (17, .bool false), (35, Zc (s.1 : Nat))], s.2.2)) (fun s => 13 - s.1) (0, .slice none 0 0, G) ⟨Nat.zero_le _, .inl ⟨rfl, rfl⟩, Ext.refl _ _, fun b hb => by cases hb⟩ (by simp (maxSteps := 2000000) only [vup, cond_true, cond_false, Nat.reduceBEq, Int.natCast_zero]) rfl ?_
    rintro ⟨c, x, F⟩ ⟨hc, ho, hEF, hbx⟩
    simp only at hc ho hEF hbx
    refine Zn fun Q2 hQ2 => ?_
    simp only [l30_1]
    by_cases hin : (c : Int) < 13
    · have hc' : c < 13 := by omega
      have sc := cent_sm c hc'
      have f8 := (hEF.2 _ (Yc b9) id).trans b9
      have f9 := (hEF.2 _ (Yc b10) id).trans b10
      have hps := prTo_succ lo hi c
      have fr := rfrac_call (h := F) (a := (c : Int)) (b := 12) (by decide) (by omega) (by decide)
      rw [prF] at hps
      obtain ⟨q, hq⟩ : ∃ q, Rat.divInt (c : Int) 12 = q := ⟨_, rfl⟩
      rw [hq] at sc hps fr
      obtain ⟨F2, hF2⟩ : ∃ F2, F2 = F ++ [fC q.num q.den] := ⟨_, rfl⟩
      have g13 : F2[F.length]? = some (fC q.num q.den) := by rw [hF2]; exact Zy _ _
      have g8 : F2[H.length]? = some (fC lo.num lo.den) := by rw [hF2]; exact Xr f8 _
      have g9 : F2[H.length + 1]? = some (fC hi.num hi.den) := by rw [hF2]; exact Xr f9 _
      have hE2 : Ext (fun _ => False) F F2 := by rw [hF2]; exact Ext.app _ _ _
      refine Ze fun N21 hN21 => ?_
      simp (maxSteps := 2000000) only [↓Za, ↓Zb, ↓Zd, vup, cond_true, cond_false, aop, Zg, ev, sput, Zf, Yb, Ye, Nat.reduceBEq, hin]
      refine hN21 [(0, Zc (n : Nat)), (1, v), (2, Zc (e : Nat)), (6, .slice none 0 0), (9, .pointer (some ⟨H.length, 0, none⟩)), (10, .pointer (some ⟨H.length + 1, 0, none⟩)), (11, x), (17, .bool false), (35, Zc (c : Nat)), (36, .bool true)] _ _ ?_ (by simp (maxSteps := 2000000) only [vup, cond_true, cond_false, Nat.reduceBEq])
      clear hN21
      try clear N21
      refine Ze fun N22 hN22 => ?_
      simp (maxSteps := 2000000) only [↓Zo, ↓vdn, vup, cond_true, cond_false, Zg, ev, Nat.reduceBEq]
      refine hN22 [(0, Zc (n : Nat)), (1, v), (2, Zc (e : Nat)), (6, .slice none 0 0), (9, .pointer (some ⟨H.length, 0, none⟩)), (10, .pointer (some ⟨H.length + 1, 0, none⟩)), (11, x), (17, .bool false), (35, Zc (c : Nat))] _ _ ?_ (by simp (maxSteps := 2000000) only [vup, cond_true, cond_false, Nat.reduceBEq])
      clear hN22
      try clear N22
      refine Zk fun B hB => ?_
      refine Zl ?_
      refine Ze fun N23 hN23 => ?_
      simp (maxSteps := 2000000) only [↓Za, ↓Zb, ↓Zd, vup, cond_true, cond_false, aop, Zg, ev, sput, Zf, Nat.reduceBEq]
      refine hN23 [(0, Zc (n : Nat)), (1, v), (2, Zc (e : Nat)), (6, .slice none 0 0), (9, .pointer (some ⟨H.length, 0, none⟩)), (10, .pointer (some ⟨H.length + 1, 0, none⟩)), (11, x), (12, Zc (c : Nat)), (17, .bool false), (35, Zc (c : Nat))] _ _ ?_ (by simp (maxSteps := 2000000) only [vup, cond_true, cond_false, Nat.reduceBEq])
      clear hN23
      try clear N23
      refine Ze fun N24 hN24 => ?_
      simp (maxSteps := 2000000) only [↓Za, ↓Zb, ↓Zd, vup, List.map_cons, List.map_nil, cond_true, cond_false, aop, Zg, ev, sput, Zf, Nat.reduceBEq, Yn, List.nil_append, List.append_nil]
      refine (fr).mono ?_
      rintro _ F ⟨rfl, rfl⟩
      simp (maxSteps := 2000000) only [tyf, qV, frV, Xg, Yp, Xk (Zy F z0) rfl, Xm]
      rw [← hF2]
      refine hN24 [(0, Zc (n : Nat)), (1, v), (2, Zc (e : Nat)), (6, .slice none 0 0), (9, .pointer (some ⟨H.length, 0, none⟩)), (10, .pointer (some ⟨H.length + 1, 0, none⟩)), (11, x), (12, Zc (c : Nat)), (13, .pointer (some ⟨F.length, 0, none⟩)), (17, .bool false), (35, Zc (c : Nat))] _ _ ?_ (by simp (maxSteps := 2000000) only [vup, cond_true, cond_false, Nat.reduceBEq])
      clear hN24
      try clear N24
      have fin : ∀ e' x' F', OwnSl 3 F' x' (Wm (prTo lo hi (c + 1))) → Ext (fun _ => False) G F' → (∀ b, Yh x' = some b → G.length ≤ b) → ELe e' [(0, Zc (n : Nat)), (1, v), (2, Zc (e : Nat)), (6, .slice none 0 0), (9, .pointer (some ⟨H.length, 0, none⟩)), (10, .pointer (some ⟨H.length + 1, 0, none⟩)), (11, x'), (17, .bool false), (35, Zc (c : Nat))] → B e' F' := by
        intro e' x' F' f1 f2 f3 he
        refine hB _ _ _ ?_ he
        refine Zi ?_
        simp (maxSteps := 2000000) only [↓Za, ↓Zb, ↓Zd, vup, cond_true, cond_false, aop, ev, sput, Zf, Yb, Ye, Nat.reduceBEq, Vx (show c < 9223372036854775807 by omega)]
        exact hQ2 _ _ _ ⟨(c + 1, x', F'), ⟨hc', f1, f2, f3⟩, by simp only; omega, by simp (maxSteps := 2000000) only [vup, cond_true, cond_false, Nat.reduceBEq], rfl⟩
      have l1 := SmQ.rless sc sl F2
      have l2 := SmQ.rless sh sc F2
      by_cases h1 : q < lo
      · rw [decide_eq_true h1] at hps l1
        simp only [Bool.not_true, Bool.false_and, Bool.false_eq_true, if_false, List.append_nil] at hps
        refine Ze fun N25 hN25 => ?_
        simp (maxSteps := 2000000) only [↓Za, ↓Zd, vup, List.map_cons, List.map_nil, cond_true, cond_false, aop, ev, sput, Zf, unK, Nat.reduceBEq, Yn, List.nil_append, List.append_nil, Xe g13, Xe g8]
        refine (l1).mono ?_
        rintro _ F2 ⟨rfl, rfl⟩
        simp (maxSteps := 2000000) only [↓Zb, ↓vdn, vup, cond_true, cond_false, Zg, ev, sput, Zf, Nat.reduceBEq]
        refine hN25 [(0, Zc (n : Nat)), (1, v), (2, Zc (e : Nat)), (6, .slice none 0 0), (9, .pointer (some ⟨H.length, 0, none⟩)), (10, .pointer (some ⟨H.length + 1, 0, none⟩)), (11, x), (12, Zc (c : Nat)), (13, .pointer (some ⟨F.length, 0, none⟩)), (17, .bool false), (35, Zc (c : Nat)), (49, .bool false)] _ _ ?_ (by simp (maxSteps := 2000000) only [vup, cond_true, cond_false, Nat.reduceBEq])
        clear hN25
        try clear N25
        refine Yi rfl ?_
        refine Zi ?_
        simp (maxSteps := 2000000) only [↓Zo, Zg, Zm]
        exact fin _ x F2 (by rw [hps]; exact ho.ext (S := fun _ => False) hE2 (fun _ _ => id)) (hEF.trans hE2) hbx (by simp (maxSteps := 2000000) only [vup, cond_true, cond_false, Nat.reduceBEq])
      rw [decide_eq_false h1] at hps l1
      by_cases h2 : hi < q
      · rw [decide_eq_true h2] at hps l2
        simp only [Bool.not_false, Bool.not_true, Bool.true_and, Bool.false_eq_true, if_false, List.append_nil] at hps
        refine Ze fun N26 hN26 => ?_
        simp (maxSteps := 2000000) only [↓Za, ↓Zd, vup, List.map_cons, List.map_nil, cond_true, cond_false, aop, ev, sput, Zf, unK, Nat.reduceBEq, Yn, List.nil_append, List.append_nil, Xe g13, Xe g8]
        refine (l1).mono ?_
        rintro _ F2 ⟨rfl, rfl⟩
        simp (maxSteps := 2000000) only [↓Zb, ↓Zd, ↓vdn, vup, List.map_cons, List.map_nil, cond_true, cond_false, aop, Zg, ev, sput, Zf, unK, Nat.reduceBEq, Xe g9, Xe g13, Yn, List.nil_append, List.append_nil]
        refine l2.mono ?_
        rintro _ F2 ⟨rfl, rfl⟩
        simp (maxSteps := 2000000) only [vup]
        refine hN26 [(0, Zc (n : Nat)), (1, v), (2, Zc (e : Nat)), (6, .slice none 0 0), (9, .pointer (some ⟨H.length, 0, none⟩)), (10, .pointer (some ⟨H.length + 1, 0, none⟩)), (11, x), (12, Zc (c : Nat)), (13, .pointer (some ⟨F.length, 0, none⟩)), (17, .bool false), (35, Zc (c : Nat)), (49, .bool false)] _ _ ?_ (by simp (maxSteps := 2000000) only [vup, cond_true, cond_false, Nat.reduceBEq])
        clear hN26
        try clear N26
        refine Yi rfl ?_
        refine Zi ?_
        simp (maxSteps := 2000000) only [↓Zo, Zg, Zm]
        exact fin _ x F2 (by rw [hps]; exact ho.ext (S := fun _ => False) hE2 (fun _ _ => id)) (hEF.trans hE2) hbx (by simp (maxSteps := 2000000) only [vup, cond_true, cond_false, Nat.reduceBEq])
      rw [decide_eq_false h2] at hps l2
      simp only [Bool.not_false, Bool.true_and, if_true] at hps
      refine Ze fun N27 hN27 => ?_
      simp (maxSteps := 2000000) only [↓Za, ↓Zd, vup, List.map_cons, List.map_nil, cond_true, cond_false, aop, ev, sput, Zf, unK, Nat.reduceBEq, Yn, List.nil_append, List.append_nil, Xe g13, Xe g8]
      refine (l1).mono ?_
      rintro _ F2 ⟨rfl, rfl⟩
      simp (maxSteps := 2000000) only [↓Zb, ↓Zd, ↓vdn, vup, List.map_cons, List.map_nil, cond_true, cond_false, aop, Zg, ev, sput, Zf, unK, Nat.reduceBEq, Xe g9, Xe g13, Yn, List.nil_append, List.append_nil]
      refine l2.mono ?_
      rintro _ F2 ⟨rfl, rfl⟩
      simp (maxSteps := 2000000) only [vup]
      refine hN27 [(0, Zc (n : Nat)), (1, v), (2, Zc (e : Nat)), (6, .slice none 0 0), (9, .pointer (some ⟨H.length, 0, none⟩)), (10, .pointer (some ⟨H.length + 1, 0, none⟩)), (11, x), (12, Zc (c : Nat)), (13, .pointer (some ⟨F.length, 0, none⟩)), (17, .bool false), (35, Zc (c : Nat)), (49, .bool true)] _ _ ?_ (by simp (maxSteps := 2000000) only [vup, cond_true, cond_false, Nat.reduceBEq])
      clear hN27
      try clear N27
      refine Yx rfl ?_
      refine Zi ?_
      simp (maxSteps := 2000000) only [↓Za, ↓Zb, ↓Zd, vup, List.map_cons, List.map_nil, cond_true, cond_false, aop, Zg, Zm, ev, sput, Zf, Zj, Nat.reduceBEq, litI1]
      have hpl := prTo_le lo hi c
      refine OwnSl.append (x := (c : Int)) ((ho.ext (S := fun _ => False) hE2 (fun _ _ => id)).ext (S := fun _ => False) (Ext.app _ _ _) (fun _ _ => id)) app_38_38 (by rw [Wx]; omega) (Zy _ _) ?_
      intro x' h' ho' hE' hb'
      rw [← castI_snoc, ← hps] at ho'
      obtain ⟨hEn, hbn⟩ := oExt (H' := F2) (hEF.trans hE2) hbx _ hE' hb'
      exact fin _ x' h' ho' hEn hbn (by simp (maxSteps := 2000000) only [vup, cond_true, cond_false, Nat.reduceBEq])
    · obtain rfl : c = 13 := by omega
      refine Ze fun N28 hN28 => ?_
      simp (maxSteps := 2000000) only [↓Za, ↓Zb, ↓Zd, vup, cond_true, cond_false, aop, Zg, ev, sput, Zf, Yb, Ye, Nat.reduceBEq, hin]
      refine hN28 [(0, Zc (n : Nat)), (1, v), (2, Zc (e : Nat)), (6, .slice none 0 0), (9, .pointer (some ⟨H.length, 0, none⟩)), (10, .pointer (some ⟨H.length + 1, 0, none⟩)), (11, x), (17, .bool false), (35, Zc (13 : Nat)), (36, .bool false)] _ _ ?_ (by simp (maxSteps := 2000000) only [vup, cond_true, cond_false, Nat.reduceBEq])
      clear hN28
      try clear N28
      refine Ze fun N29 hN29 => ?_
      simp (maxSteps := 2000000) only [↓Yq, ↓vdn, vup, cond_true, cond_false, Zg, ev, Nat.reduceBEq]
      refine hQ2 _ _ _ (hQ _ _ _ ?_)
      simp (maxSteps := 2000000) only [Zg, Zm, Zs, if_true]
      refine hZ [(0, Zc (n : Nat)), (1, v), (2, Zc (e : Nat)), (6, .slice none 0 0), (9, .pointer (some ⟨H.length, 0, none⟩)), (10, .pointer (some ⟨H.length + 1, 0, none⟩)), (11, x), (17, .bool false), (36, .bool false)] _ _ ?_ (by simp (maxSteps := 2000000) only [vup, cond_true, cond_false, Nat.reduceBEq])
      clear hZ
      try clear Z
      refine Zi ?_
      simp (maxSteps := 2000000) only [↓Za, ↓Zu, ↓Zz, ↓Zb, ↓Zd, vup, cond_true, cond_false, aop, Zg, ev, sput, Zf, Nat.reduceBEq, Zs, Wd, tup]
      exact ⟨(hEp.trans hEH).trans (hEG.trans hEF), ho.int⟩

theorem bndV_take (n e : Int) (l : List (Int × Int)) : bndV n e (l.take 9) = bndV n e l := by
  cases hval : Xb n l with
  | false => rw [bndV, bndV, valid_take, hval, if_neg (by simp), if_neg (by simp)]
  | true =>
    rw [List.take_of_length_le]
    simp only [Xb, Bool.and_eq_true, decide_eq_true_eq] at hval; omega
theorem priceIs_take (n e : Int) (l : List (Int × Int)) (h' : Zh) (x : Value) (f : Int) : PriceIs n e (l.take 9) h' x f ↔ PriceIs n e l h' x f := by
  cases hval : Xb n l with
  | false => rw [PriceIs, PriceIs, valid_take, hval, if_neg (by simp), if_neg (by simp)]
  | true =>
    rw [List.take_of_length_le]
    simp only [Xb, Bool.and_eq_true, decide_eq_true_eq] at hval; omega

theorem s4_callW [Tabs Try.prog] {args : List Value} {h : Zh} {Q : Value → Zh → Prop} (hsz : args.length ≤ 123) (hk : AWS Try.prog 123 s4 (Zs Try.prog [.tmp 6] Q) (Zr 0 args) h) : ACall Try.prog 4 args h Q :=
  Ys Try.func4 rfl (enters_of Try.func4 (by kernel_rfl) rfl) rfl rfl (by decide) s4_strip s4_ok hsz hk
theorem law_bounds [Tabs prog] {h : Zh} {v : Value} {l : List (Int × Int)} (n : Int) (hv : PairSl h v l) (hl : l.length < 9223372036854775808) (hxl : InR l) (e : Int) :
    ACall prog 4 [Zc n, v, Zc e] h fun r _ => r = .bool true := by
  refine s4_callW (by simp) ?_
  simp only [s4]
  refine Ze fun N30 hN30 => ?_
  simp (maxSteps := 2000000) only [↓Za, ↓Zb, ↓Zd, vup, cond_false, aop, Zg, Zr, ev, sput, Zf, Nat.reduceBEq, Nat.reduceAdd]
  refine hN30 [(0, Zc n), (1, v), (2, Zc e), (6, .bool false)] _ _ ?_ (by simp (maxSteps := 2000000) only [vup, cond_true, cond_false, Nat.reduceBEq])
  clear hN30
  try clear N30
  refine Ze fun N31 hN31 => ?_
  simp (maxSteps := 2000000) only [↓Za, ↓Zb, ↓Zd, vup, List.map_cons, List.map_nil, cond_true, cond_false, aop, Zg, ev, sput, Zf, Nat.reduceBEq, Yn, List.nil_append, List.append_nil]
  refine (of_copy hv hl).mono ?_
  rintro u1 h1 ⟨hu1, hE1⟩
  refine (progBounds_call (n := n) (e := e) hu1 (by rw [List.length_take]; omega)).mono ?_
  rintro _ H ⟨hE2, hr⟩
  rw [hr, bndV_take]
  have hEH := hE1.trans hE2
  have st7 : ∀ {a b : Int} {K : Zh → Prop}, Xf prog (H ++ [z0] ++ [z0]) 26 (.pointer (some ⟨H.length, 0, none⟩)) (.agg #[Zc a, Zc b]) K = K (H ++ [fC a b] ++ [z0]) := fun {a b K} => by
    rw [Xk (b2_0 ..) rfl, List.set_append_left _ _ (by simp), Xm]
  have st8 : ∀ {a b c d : Int} {K : Zh → Prop}, Xf prog (H ++ [fC a b] ++ [z0]) 26 (.pointer (some ⟨H.length + 1, 0, none⟩)) (.agg #[Zc c, Zc d]) K = K (H ++ [fC a b] ++ [fC c d]) := fun {a b c d K} => by
    have := Xm (H ++ [fC a b]) z0 (fC c d)
    simp only [List.length_append, List.length_singleton] at this
    rw [Xk (b2_1 ..) rfl, this]
  clear hr
  obtain ⟨a, b, c, d, f, hb⟩ : ∃ a b c d f : Int, bndV n e l = .tuple #[frV a b, frV c d, .int .i64 f] := by
    rw [bndV]
    split
    · split
      · exact ⟨0, 0, 0, 0, 5, rfl⟩
      · exact ⟨_, _, _, _, 0, rfl⟩
    · exact ⟨0, 0, 0, 0, 2, rfl⟩
  rw [hb]
  simp (maxSteps := 2000000) only [extr_30, extr_31, extr_32, tyf, frV, Xg, Yp, List.length_append, List.length_singleton]
  rw [st7, st8]
  obtain ⟨G, hG⟩ : ∃ G, G = H ++ [fC a b] ++ [fC c d] := ⟨_, rfl⟩
  have hEG : Ext (fun _ => False) H G := by rw [hG]; exact e2 ..
  have b7 : G[H.length]? = some (fC a b) := by rw [hG]; exact b2_0 ..
  have b8 : G[H.length + 1]? = some (fC c d) := by rw [hG]; exact b2_1 ..
  rw [← hG]
  refine hN31 [(0, Zc n), (1, v), (2, Zc e), (6, .bool false), (7, .pointer (some ⟨H.length, 0, none⟩)), (8, .pointer (some ⟨H.length + 1, 0, none⟩)), (9, .int .i64 f)] _ _ ?_ (by simp (maxSteps := 2000000) only [vup, cond_true, cond_false, Nat.reduceBEq])
  clear hN31
  try clear N31
  clear st7 st8
  have hvG := hv.ext (hEH.trans hEG)
  refine Ze fun N32 hN32 => ?_
  simp (maxSteps := 2000000) only [↓Za, ↓Zb, ↓Zd, vup, List.map_cons, List.map_nil, cond_true, cond_false, aop, Zg, ev, sput, Zf, Nat.reduceBEq, Yn, List.nil_append, List.append_nil]
  refine (of_copy hvG hl).mono ?_
  rintro u2 h3 ⟨hu2, hE3⟩
  refine (progPrice_call (n := n) (e := e) hu2 (by rw [List.length_take]; omega)).mono ?_
  rintro _ F ⟨hE4, p, g, rfl, hpr⟩
  rw [priceIs_take] at hpr
  have hGF := hE3.trans hE4
  have hvF := hvG.ext hGF
  have c7 := (hGF.2 _ (Yc b7) id).trans b7
  have c8 := (hGF.2 _ (Yc b8) id).trans b8
  simp (maxSteps := 2000000) only [extr_20, extr_21]
  refine hN32 [(0, Zc n), (1, v), (2, Zc e), (6, .bool false), (7, .pointer (some ⟨H.length, 0, none⟩)), (8, .pointer (some ⟨H.length + 1, 0, none⟩)), (9, .int .i64 f), (10, p), (11, .int .i64 g)] _ _ ?_ (by simp (maxSteps := 2000000) only [vup, cond_true, cond_false, Nat.reduceBEq])
  clear hN32
  try clear N32
  have l0 : (((0 : Nat) : Int) == 0) = true := rfl
  have e22 : ((2 : Int) == 2) = true := rfl
  have e55 : ((5 : Int) == 5) = true := rfl
  have z00 : ((0 : Int) == 0) = true := rfl
  have nn : Xi prog 26 [.agg #[Zc 0, Zc 0]] F (.bool true) := none_call
  by_cases hgood : Xb n l = true ∧ evB n e = true
  case neg =>
    rw [bndV, if_neg hgood] at hb
    rw [PriceIs, if_neg hgood] at hpr
    obtain ⟨rfl, rfl⟩ := hpr
    obtain ⟨rfl, rfl, rfl, rfl, rfl⟩ : 0 = a ∧ 0 = b ∧ 0 = c ∧ 0 = d ∧ 2 = f := by
      simp only [frV, Value.tuple.injEq, Array.mk.injEq, List.cons.injEq, Value.agg.injEq, Value.int.injEq, and_true, true_and] at hb
      obtain ⟨⟨h1, h2⟩, ⟨h3, h4⟩, h5⟩ := hb
      exact ⟨h1, h2, h3, h4, h5⟩
    refine Zk fun M hM => ?_
    refine Ze fun N33 hN33 => ?_
    have last : ∀ e', ELe e' [(0, Zc n), (1, v), (2, Zc e), (6, .bool false), (7, .pointer (some ⟨H.length, 0, none⟩)), (8, .pointer (some ⟨H.length + 1, 0, none⟩)), (9, .int .i64 2), (10, .slice none 0 0), (11, .int .i64 2), (40, .bool true)] → N33 e' F := by
      intro e' he
      refine hN33 _ _ _ ?_ he
      refine Yx rfl ?_
      refine Ze fun N34 hN34 => ?_
      simp only [q4_4]
      refine Wk 6 fun N1 hN1 => ?_
      simp (maxSteps := 2000000) only [↓Za, ↓Zd, vup, List.map_cons, List.map_nil, cond_true, cond_false, aop, ev, sput, Zf, Nat.reduceBEq, Yn, List.nil_append, List.append_nil, List.take_succ_cons, List.take_zero, Xe c7]
      refine (nn).mono ?_
      rintro _ F ⟨rfl, rfl⟩
      simp (maxSteps := 2000000) only [↓Zb, ↓Zd, ↓vdn, vup, List.map_cons, List.map_nil, cond_true, cond_false, aop, ev, sput, Zf, Nat.reduceBEq, Xe c8, Yn, List.nil_append, List.append_nil]
      refine (show Xi prog 26 [.agg #[Zc 0, Zc 0]] F (.bool true) from none_call).mono ?_
      rintro _ F ⟨rfl, rfl⟩
      refine hN1 _ _ ?_
      clear hN1 N1
      simp only [List.drop_succ_cons, List.drop_zero]
      refine Wk 5 fun N1 hN1 => ?_
      simp (maxSteps := 2000000) only [↓Za, ↓Zb, ↓Zd, ↓vdn, vup, List.map_cons, List.map_nil, cond_true, cond_false, aop, ev, sput, Zf, Yb, Ye, Zj, Nat.reduceBEq, tyf, List.take_succ_cons, List.take_zero, lenK, l0]
      refine hN1 _ _ ?_
      clear hN1 N1
      simp only [List.drop_succ_cons, List.drop_zero]
      refine Wk 4 fun N1 hN1 => ?_
      simp (maxSteps := 2000000) only [↓Za, ↓Zb, ↓Zd, ↓vdn, vup, cond_true, cond_false, aop, ev, sput, Zf, Yb, Ye, Nat.reduceBEq, List.take_succ_cons, List.take_zero, e22]
      refine hN1 _ _ ?_
      clear hN1 N1
      simp only [List.drop_succ_cons, List.drop_zero]
      refine Wk 4 fun N1 hN1 => ?_
      simp (maxSteps := 2000000) only [↓Za, ↓Zb, ↓Zd, ↓vdn, vup, cond_true, cond_false, aop, ev, sput, Zf, Yb, Ye, Nat.reduceBEq, List.take_succ_cons, List.take_zero, e22]
      refine hN1 _ _ ?_
      clear hN1 N1
      simp only [List.drop_succ_cons, List.drop_zero]
      simp (maxSteps := 2000000) only [↓Za, ↓Zb, ↓Zd, ↓vdn, vup, List.map_nil, cond_true, cond_false, aop, Zg, ev, sput, Zf, Nat.reduceBEq, Yn, List.append_nil]
      refine (awake_call).mono ?_
      rintro _ F ⟨rfl, hE9⟩
      refine hN34 [(0, Zc n), (1, v), (2, Zc e), (6, .bool true), (7, .pointer (some ⟨H.length, 0, none⟩)), (8, .pointer (some ⟨H.length + 1, 0, none⟩)), (9, .int .i64 2), (10, .slice none 0 0), (11, .int .i64 2), (40, .bool true)] _ _ ?_ (by simp (maxSteps := 2000000) only [vup, cond_true, cond_false, Nat.reduceBEq])
      clear hN34
      try clear N34
      refine Zi ?_
      simp (maxSteps := 2000000) only [↓Zz, vup, cond_true, cond_false, Zg, Nat.reduceBEq, Zs, Wd, tup]
    have rbc := rbets_call (h := F) (n := n) hvF hl
    simp (maxSteps := 2000000) only [↓Za, ↓Zd, vup, List.map_cons, List.map_nil, cond_true, cond_false, aop, ev, sput, Zf, unK, Nat.reduceBEq, Yn, List.nil_append, List.append_nil]
    refine (rbc).mono ?_
    rintro _ F ⟨rfl, rfl⟩
    cases hval : Xb n l with
    | false =>
      simp (maxSteps := 2000000) only [↓Zb, ↓vdn, vup, cond_true, cond_false, Zg, ev, sput, Zf, Nat.reduceBEq]
      exact last _ (by simp (maxSteps := 2000000) only [vup, cond_true, cond_false, Nat.reduceBEq])
    | true =>
      obtain ⟨k, hk⟩ : ∃ k : Nat, n = k := ⟨n.toNat, by simp only [Xb, Bool.and_eq_true, decide_eq_true_eq] at hval; omega⟩
      subst hk
      have hn5 := (Wf hval).2.1
      have evc := event_call (h := F) (n := k) (e := e) (by omega)
      have hev : (decide (0 ≤ e) && decide (e < 2 ^ k)) = false := by
        rw [← Bool.not_eq_true]
        intro hc
        exact hgood ⟨hval, by rw [evB, Int.toNat_natCast]; exact hc⟩
      rw [hev] at evc
      simp (maxSteps := 2000000) only [↓Zb, ↓Zd, ↓vdn, vup, List.map_cons, List.map_nil, cond_true, cond_false, aop, Zg, ev, sput, Zf, unK, Nat.reduceBEq, Yn, List.nil_append, List.append_nil]
      refine evc.mono ?_
      rintro _ F ⟨rfl, rfl⟩
      simp (maxSteps := 2000000) only [vup]
      exact last _ (by simp (maxSteps := 2000000) only [vup, cond_true, cond_false, Nat.reduceBEq])
  case pos =>
  obtain ⟨hval, hev⟩ := hgood
  obtain ⟨k, hk⟩ : ∃ k : Nat, n = k := ⟨n.toNat, by simp only [Xb, Bool.and_eq_true, decide_eq_true_eq] at hval; omega⟩
  obtain ⟨ee, hee⟩ : ∃ ee : Nat, e = ee := ⟨e.toNat, by simp only [evB, Bool.and_eq_true, decide_eq_true_eq] at hev; omega⟩
  subst hk
  subst hee
  have hn5 := (Wf hval).2.1
  have hev2 : (decide (0 ≤ ((ee : Nat) : Int)) && decide (((ee : Nat) : Int) < 2 ^ k)) = true := by rw [evB, Int.toNat_natCast] at hev; exact hev
  have hee2 : ee < 2 ^ k := by
    rw [Bool.and_eq_true, decide_eq_true_eq, decide_eq_true_eq] at hev2
    have := hev2.2
    exact_mod_cast this
  have evc := event_call (h := F) (n := k) (e := ((ee : Nat) : Int)) (by omega)
  rw [hev2] at evc
  have rbc := rbets_call (h := F) (n := ((k : Nat) : Int)) hvF hl
  rw [hval] at rbc
  have rsc := rsound_call (h := F) hvF hval
  rw [bndV, if_pos ⟨hval, hev⟩, Int.toNat_natCast, Int.toNat_natCast] at hb
  rw [PriceIs, if_pos ⟨hval, hev⟩, Int.toNat_natCast, Int.toNat_natCast] at hpr
  refine Zk fun M hM => ?_
  refine Ze fun N35 hN35 => ?_
  simp (maxSteps := 2000000) only [↓Za, ↓Zd, vup, List.map_cons, List.map_nil, cond_true, cond_false, aop, ev, sput, Zf, unK, Nat.reduceBEq, Yn, List.nil_append, List.append_nil]
  refine (rbc).mono ?_
  rintro _ F ⟨rfl, rfl⟩
  simp (maxSteps := 2000000) only [↓Zb, ↓Zd, ↓vdn, vup, List.map_cons, List.map_nil, cond_true, cond_false, aop, Zg, ev, sput, Zf, unK, Nat.reduceBEq, Yn, List.nil_append, List.append_nil]
  refine evc.mono ?_
  rintro _ F ⟨rfl, rfl⟩
  simp (maxSteps := 2000000) only [vup]
  refine hN35 [(0, Zc (k : Nat)), (1, v), (2, Zc (ee : Nat)), (6, .bool false), (7, .pointer (some ⟨H.length, 0, none⟩)), (8, .pointer (some ⟨H.length + 1, 0, none⟩)), (9, .int .i64 f), (10, p), (11, .int .i64 g), (40, .bool false)] _ _ ?_ (by simp (maxSteps := 2000000) only [vup, cond_true, cond_false, Nat.reduceBEq])
  clear hN35
  try clear N35
  refine Yi rfl ?_
  refine Zi ?_
  simp (maxSteps := 2000000) only [↓Zo, Zg]
  refine hM [(0, Zc (k : Nat)), (1, v), (2, Zc (ee : Nat)), (6, .bool false), (7, .pointer (some ⟨H.length, 0, none⟩)), (8, .pointer (some ⟨H.length + 1, 0, none⟩)), (9, .int .i64 f), (10, p), (11, .int .i64 g)] _ _ ?_ (by simp (maxSteps := 2000000) only [vup, cond_true, cond_false, Nat.reduceBEq])
  clear hM
  try clear M
  refine Zk fun M hM => ?_
  refine Ze fun N36 hN36 => ?_
  simp (maxSteps := 2000000) only [↓Za, ↓Zb, ↓Zd, vup, List.map_cons, List.map_nil, cond_true, cond_false, aop, Zg, ev, sput, Zf, unK, Nat.reduceBEq, Yn, List.nil_append, List.append_nil]
  refine (rsc).mono ?_
  rintro _ F ⟨rfl, rfl⟩
  by_cases hnil : Yd k l = []
  · rw [if_pos hnil] at hb hpr
    obtain ⟨rfl, rfl⟩ := hpr
    obtain ⟨rfl, rfl, rfl, rfl, rfl⟩ : 0 = a ∧ 0 = b ∧ 0 = c ∧ 0 = d ∧ 5 = f := by
      simp only [frV, Value.tuple.injEq, Array.mk.injEq, List.cons.injEq, Value.agg.injEq, Value.int.injEq, and_true, true_and] at hb
      obtain ⟨⟨h1, h2⟩, ⟨h3, h4⟩, h5⟩ := hb
      exact ⟨h1, h2, h3, h4, h5⟩
    have hem : (Yd k l).isEmpty = true := by rw [hnil]; rfl
    simp (maxSteps := 2000000) only [vup, hem]
    refine hN36 [(0, Zc (k : Nat)), (1, v), (2, Zc (ee : Nat)), (6, .bool false), (7, .pointer (some ⟨H.length, 0, none⟩)), (8, .pointer (some ⟨H.length + 1, 0, none⟩)), (9, .int .i64 5), (10, .slice none 0 0), (11, .int .i64 5), (66, .bool true)] _ _ ?_ (by simp (maxSteps := 2000000) only [vup, cond_true, cond_false, Nat.reduceBEq])
    clear hN36
    try clear N36
    refine Yx rfl ?_
    refine Ze fun N37 hN37 => ?_
    simp only [q4_6]
    refine Wk 6 fun N1 hN1 => ?_
    simp (maxSteps := 2000000) only [↓Za, ↓Zd, vup, List.map_cons, List.map_nil, cond_true, cond_false, aop, ev, sput, Zf, Nat.reduceBEq, Yn, List.nil_append, List.append_nil, List.take_succ_cons, List.take_zero, Xe c7]
    refine (nn).mono ?_
    rintro _ F ⟨rfl, rfl⟩
    simp (maxSteps := 2000000) only [↓Zb, ↓Zd, ↓vdn, vup, List.map_cons, List.map_nil, cond_true, cond_false, aop, ev, sput, Zf, Nat.reduceBEq, Xe c8, Yn, List.nil_append, List.append_nil]
    refine (show Xi prog 26 [.agg #[Zc 0, Zc 0]] F (.bool true) from none_call).mono ?_
    rintro _ F ⟨rfl, rfl⟩
    refine hN1 _ _ ?_
    clear hN1 N1
    simp only [List.drop_succ_cons, List.drop_zero]
    refine Wk 5 fun N1 hN1 => ?_
    simp (maxSteps := 2000000) only [↓Za, ↓Zb, ↓Zd, ↓vdn, vup, List.map_cons, List.map_nil, cond_true, cond_false, aop, ev, sput, Zf, Yb, Ye, Zj, Nat.reduceBEq, tyf, List.take_succ_cons, List.take_zero, lenK, l0]
    refine hN1 _ _ ?_
    clear hN1 N1
    simp only [List.drop_succ_cons, List.drop_zero]
    refine Wk 4 fun N1 hN1 => ?_
    simp (maxSteps := 2000000) only [↓Za, ↓Zb, ↓Zd, ↓vdn, vup, cond_true, cond_false, aop, ev, sput, Zf, Yb, Ye, Nat.reduceBEq, List.take_succ_cons, List.take_zero, e55]
    refine hN1 _ _ ?_
    clear hN1 N1
    simp only [List.drop_succ_cons, List.drop_zero]
    refine Wk 4 fun N1 hN1 => ?_
    simp (maxSteps := 2000000) only [↓Za, ↓Zb, ↓Zd, ↓vdn, vup, cond_true, cond_false, aop, ev, sput, Zf, Yb, Ye, Nat.reduceBEq, List.take_succ_cons, List.take_zero, e55]
    refine hN1 _ _ ?_
    clear hN1 N1
    simp only [List.drop_succ_cons, List.drop_zero]
    simp (maxSteps := 2000000) only [↓Za, ↓Zb, ↓Zd, ↓vdn, vup, List.map_nil, cond_true, cond_false, aop, Zg, ev, sput, Zf, Nat.reduceBEq, Yn, List.append_nil]
    refine (awake_call).mono ?_
    rintro _ F ⟨rfl, hE9⟩
    refine hN37 [(0, Zc (k : Nat)), (1, v), (2, Zc (ee : Nat)), (6, .bool true), (7, .pointer (some ⟨H.length, 0, none⟩)), (8, .pointer (some ⟨H.length + 1, 0, none⟩)), (9, .int .i64 5), (10, .slice none 0 0), (11, .int .i64 5), (66, .bool true)] _ _ ?_ (by simp (maxSteps := 2000000) only [vup, cond_true, cond_false, Nat.reduceBEq])
    clear hN37
    try clear N37
    refine Zi ?_
    simp (maxSteps := 2000000) only [↓Zz, vup, cond_true, cond_false, Zg, Nat.reduceBEq, Zs, Wd, tup]
  · rw [if_neg hnil] at hb hpr
    obtain ⟨hps, rfl⟩ := hpr
    have hem : (Yd k l).isEmpty = false := by cases hc : Yd k l; exact absurd hc hnil; rfl
    have rb := rbounds_call (h := F) hvF hval hee2 hnil
    have rp := fun G' (hx : Ext (fun _ => False) F G') => rprice_call (h := G') (hvF.ext hx) hval hee2 hnil
    obtain ⟨lo, hlo⟩ : ∃ x, loQ k ee l = x := ⟨_, rfl⟩
    obtain ⟨hi, hhi⟩ : ∃ x, hiQ k ee l = x := ⟨_, rfl⟩
    rw [hlo, hhi] at rb hb hps
    simp only [hlo, hhi] at rp
    obtain ⟨rfl, rfl, rfl, rfl, rfl⟩ : lo.num = a ∧ (lo.den : Int) = b ∧ hi.num = c ∧ (hi.den : Int) = d ∧ 0 = f := by
      simp only [qV, frV, Value.tuple.injEq, Array.mk.injEq, List.cons.injEq, Value.agg.injEq, Value.int.injEq, and_true, true_and] at hb
      obtain ⟨⟨h1, h2⟩, ⟨h3, h4⟩, h5⟩ := hb
      exact ⟨h1, h2, h3, h4, h5⟩
    simp (maxSteps := 2000000) only [vup, hem]
    refine hN36 [(0, Zc (k : Nat)), (1, v), (2, Zc (ee : Nat)), (6, .bool false), (7, .pointer (some ⟨H.length, 0, none⟩)), (8, .pointer (some ⟨H.length + 1, 0, none⟩)), (9, .int .i64 0), (10, p), (11, .int .i64 0), (66, .bool false)] _ _ ?_ (by simp (maxSteps := 2000000) only [vup, cond_true, cond_false, Nat.reduceBEq])
    clear hN36
    try clear N36
    refine Yi rfl ?_
    refine Zi ?_
    simp (maxSteps := 2000000) only [↓Zo, Zg]
    refine hM [(0, Zc (k : Nat)), (1, v), (2, Zc (ee : Nat)), (6, .bool false), (7, .pointer (some ⟨H.length, 0, none⟩)), (8, .pointer (some ⟨H.length + 1, 0, none⟩)), (9, .int .i64 0), (10, p), (11, .int .i64 0)] _ _ ?_ (by simp (maxSteps := 2000000) only [vup, cond_true, cond_false, Nat.reduceBEq])
    clear hM
    try clear M
    refine Ze fun N38 hN38 => ?_
    simp (maxSteps := 2000000) only [↓Za, ↓Zb, ↓Zd, vup, List.map_cons, List.map_nil, cond_true, cond_false, aop, Zg, ev, sput, Zf, Nat.reduceBEq, Yn, List.nil_append, List.append_nil]
    refine (rb).mono ?_
    rintro _ J ⟨hEJ, rfl⟩
    obtain ⟨L, hL⟩ : ∃ G, G = J ++ [fC lo.num lo.den] ++ [fC hi.num hi.den] := ⟨_, rfl⟩
    have hEL : Ext (fun _ => False) J L := by rw [hL]; exact e2 ..
    have b12 : L[J.length]? = some (fC lo.num lo.den) := by rw [hL]; exact b2_0 ..
    have b13 : L[J.length + 1]? = some (fC hi.num hi.den) := by rw [hL]; exact b2_1 ..
    have st12 : ∀ {K : Zh → Prop}, Xf prog (J ++ [z0] ++ [z0]) 26 (.pointer (some ⟨J.length, 0, none⟩)) (.agg #[Zc lo.num, Zc lo.den]) K = K (J ++ [fC lo.num lo.den] ++ [z0]) := fun {K} => by
      rw [Xk (b2_0 ..) rfl, List.set_append_left _ _ (by simp), Xm]
    have st13 : ∀ {K : Zh → Prop}, Xf prog (J ++ [fC lo.num lo.den] ++ [z0]) 26 (.pointer (some ⟨J.length + 1, 0, none⟩)) (.agg #[Zc hi.num, Zc hi.den]) K = K L := fun {K} => by
      have := Xm (J ++ [fC lo.num lo.den]) z0 (fC hi.num hi.den)
      simp only [List.length_append, List.length_singleton] at this
      rw [Xk (b2_1 ..) rfl, this, hL]
    simp (maxSteps := 2000000) only [extr_20, extr_21, tyf, qV, frV, Xg, Yp, List.length_append, List.length_singleton, st12, st13]
    refine hN38 [(0, Zc (k : Nat)), (1, v), (2, Zc (ee : Nat)), (6, .bool false), (7, .pointer (some ⟨H.length, 0, none⟩)), (8, .pointer (some ⟨H.length + 1, 0, none⟩)), (9, .int .i64 0), (10, p), (11, .int .i64 0), (12, .pointer (some ⟨J.length, 0, none⟩)), (13, .pointer (some ⟨J.length + 1, 0, none⟩))] _ _ ?_ (by simp (maxSteps := 2000000) only [vup, cond_true, cond_false, Nat.reduceBEq])
    clear hN38
    try clear N38
    have hFL := hEJ.trans hEL
    have d7 := (hFL.2 _ (Yc c7) id).trans c7
    have d8 := (hFL.2 _ (Yc c8) id).trans c8
    have qe1 : ([lo.num, (lo.den : Int)] == [lo.num, (lo.den : Int)]) = true := by simp
    have qe2 : ([hi.num, (hi.den : Int)] == [hi.num, (hi.den : Int)]) = true := by simp
    refine Ze fun N39 hN39 => ?_
    simp only [q4_8]
    refine Wk 8 fun N1 hN1 => ?_
    simp (maxSteps := 2000000) only [↓Za, ↓Zb, ↓Zd, ↓vdn, vup, cond_true, cond_false, aop, ev, sput, Zf, Yb, Ye, Nat.reduceBEq, Nat.reduceAdd, List.take_succ_cons, List.take_zero, Xe d7, Xe d8, Xe b12, Xe b13, Xq, Option.map_some, List.length_cons, List.length_nil, Nat.zero_add, eqF, qe1, qe2]
    refine hN1 _ _ ?_
    clear hN1 N1
    simp only [List.drop_succ_cons, List.drop_zero]
    refine Wk 4 fun N1 hN1 => ?_
    simp (maxSteps := 2000000) only [↓Za, ↓Zb, ↓Zd, ↓vdn, vup, cond_true, cond_false, aop, ev, sput, Zf, Yb, Ye, Nat.reduceBEq, List.take_succ_cons, List.take_zero, z00]
    refine hN1 _ _ ?_
    clear hN1 N1
    simp only [List.drop_succ_cons, List.drop_zero]
    refine Wk 8 fun N1 hN1 => ?_
    simp (maxSteps := 2000000) only [↓Za, ↓Zb, ↓Zd, ↓vdn, vup, List.map_cons, List.map_nil, cond_true, cond_false, aop, ev, sput, Zf, Nat.reduceBEq, Yn, List.nil_append, List.append_nil, List.take_succ_cons, List.take_zero]
    refine (rp L hFL).mono ?_
    rintro r2 L2 ⟨hEL2, hr2⟩
    have hps2 : IntSl L2 p _ := iExt hps (hFL.trans hEL2)
    have hpl := prTo_le lo hi 13
    refine (equalI_call hps2 hr2 (by rw [Wx]; omega)).mono ?_
    rintro _ L3 ⟨rfl, rfl⟩
    have hdd : decide (Wm (prTo lo hi 13) = Wm (prTo lo hi 13)) = true := by simp
    simp (maxSteps := 2000000) only [vup]
    refine hN1 _ _ ?_
    clear hN1 N1
    simp only [List.drop_succ_cons, List.drop_zero]
    refine Wk 4 fun N1 hN1 => ?_
    simp (maxSteps := 2000000) only [↓Za, ↓Zb, ↓Zd, ↓vdn, vup, cond_true, cond_false, aop, ev, sput, Zf, Yb, Ye, Nat.reduceBEq, List.take_succ_cons, List.take_zero, z00]
    refine hN1 _ _ ?_
    clear hN1 N1
    simp only [List.drop_succ_cons, List.drop_zero]
    simp (maxSteps := 2000000) only [↓Za, ↓Zb, ↓Zd, ↓vdn, vup, List.map_nil, cond_true, cond_false, aop, Zg, ev, sput, Zf, Nat.reduceBEq, Yn, List.append_nil]
    refine (awake_call).mono ?_
    rintro _ F ⟨rfl, hE9⟩
    refine hN39 [(0, Zc (k : Nat)), (1, v), (2, Zc (ee : Nat)), (6, .bool true), (7, .pointer (some ⟨H.length, 0, none⟩)), (8, .pointer (some ⟨H.length + 1, 0, none⟩)), (9, .int .i64 0), (10, p), (11, .int .i64 0), (12, .pointer (some ⟨J.length, 0, none⟩)), (13, .pointer (some ⟨J.length + 1, 0, none⟩))] _ _ ?_ (by simp (maxSteps := 2000000) only [vup, cond_true, cond_false, Nat.reduceBEq])
    clear hN39
    try clear N39
    refine Zi ?_
    simp (maxSteps := 2000000) only [↓Zz, vup, cond_true, cond_false, Nat.reduceBEq, Zs, Wd, tup]
end Go.Proofs.Try.Am
