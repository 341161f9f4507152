/-
  bets: bets that are valid, in the reference; bets copied.
  bets: equations as they lie in memory.
  bets: equations solved.
  bets: the corners.
-/
import Derived.Test.YtcmindinomacbaaPk7
import Derived.Test.YtcmindinomacbaaPk6
import Derived.Test.YtcmindinomacbaaPk5
set_option linter.all false
namespace Go.Proofs.Try.Am
open Go.Am Bq
set_option maxRecDepth 100000
set_option maxHeartbeats 4000000

abbrev rB (x y : Int) : Blk := .cells [Zd x, Zd y] 24 false
abbrev zR : Blk := .cells [.int .i64 0, .int .i64 0] 24 false
theorem storeRt {h : Zh} {b : Nat} {x y : Int} {e : TypeId} {c : List Value} {K : Zh → Prop} (hb : h[b]? = some (.cells c e false)) (hc : c.length = 2) : Xh prog h 24 (.pointer (some ⟨b, 0, none⟩)) (.agg #[Zd x, Zd y]) K = K (h.set b (.cells [Zd x, Zd y] e false)) :=
  storeA (vs := [Zd x, Zd y]) hb (by rw [shp_24]; rfl) rfl (by rw [hc]; rfl)
theorem rA0 {b : Nat} {K : Value → Prop} : Yy prog 24 (.pointer (some ⟨b, 0, none⟩)) 0 K = K (.pointer (some ⟨b, 0, none⟩)) := fldA fld_24_0 esz_3
theorem rA1 {b : Nat} {K : Value → Prop} : Yy prog 24 (.pointer (some ⟨b, 0, none⟩)) 1 K = K (.pointer (some ⟨b, 1, none⟩)) := fldA fld_24_1 esz_3
theorem loadR0 {h : Zh} {b : Nat} {x y : Int} {K : Value → Prop} (hb : h[b]? = some (rB x y)) : Xu prog h 3 (.pointer (some ⟨b, 0, none⟩)) K = K (Zd x) := loadC hb shp_3 rfl
theorem loadR1 {h : Zh} {b : Nat} {x y : Int} {K : Value → Prop} (hb : h[b]? = some (rB x y)) : Xu prog h 3 (.pointer (some ⟨b, 1, none⟩)) K = K (Zd y) := loadC hb shp_3 rfl

theorem s63_callW [Tabs Try.prog] {args : List Value} {h : Zh} {Q : Value → Zh → Prop} (hsz : args.length ≤ 9) (hk : AWS Try.prog 9 s63 (Zu Try.prog [.tmp 2] Q) (Zp 0 args) h) : ACall Try.prog 63 args h Q :=
  Yv Try.func63 rfl (enters_of Try.func63 (by kernel_rfl) rfl) rfl rfl (by decide) s63_strip s63_ok hsz hk
theorem worlds_call [Tabs prog] {h : Zh} {n : Int} : Xm prog 63 [Zd n] h (.bool (decide (2 ≤ n) && decide (n ≤ 5))) := by
  refine s63_callW (by simp) ?_
  refine Zi ?_
  by_cases h1 : n ≥ 2
  · have e1 : decide (2 ≤ n) = true := by simpa using h1
    by_cases h2 : n ≤ 5
    · simp (maxSteps := 2000000) only [s63, ↓Za, ↓Zw, ↓Zz, ↓Zb, ↓Zc, ↓vdn, vup, cond_true, cond_false, aop, Zg, Zp, ev, sput, Zf, Yk, Yl, Nat.reduceBEq, Zu, Xx, tup, h1, h2, Bool.true_and]
    · simp (maxSteps := 2000000) only [s63, ↓Za, ↓Zw, ↓Zz, ↓Zb, ↓Zc, ↓vdn, vup, cond_true, cond_false, aop, Zg, Zp, ev, sput, Zf, Yk, Yl, Nat.reduceBEq, Zu, Xx, tup, h1, h2, Bool.true_and]
  · have e1 : decide (2 ≤ n) = false := by simpa using h1
    simp (maxSteps := 2000000) only [s63, ↓Za, ↓Zw, ↓Zz, ↓Zb, ↓Zc, ↓vdn, vup, cond_true, cond_false, aop, Zg, Zp, ev, sput, Zf, Yk, Yl, Nat.reduceBEq, Zu, Xx, tup, h1, Bool.false_and]

theorem s25_callW [Tabs Try.prog] {args : List Value} {h : Zh} {Q : Value → Zh → Prop} (hsz : args.length ≤ 13) (hk : AWS Try.prog 13 s25 (Zu Try.prog [.tmp 4] Q) (Zp 0 args) h) : ACall Try.prog 25 args h Q :=
  Yv Try.func25 rfl (enters_of Try.func25 (by kernel_rfl) rfl) rfl rfl (by decide) s25_strip s25_ok hsz hk
theorem event_call [Tabs prog] {h : Zh} {n : Nat} {e : Int} (hn : n ≤ 62) : Xm prog 25 [Zd (n : Nat), Zd e] h (.bool (decide (0 ≤ e) && decide (e < 2 ^ n))) := by
  refine s25_callW (by simp) ?_
  refine Zi ?_
  have hsh : shlV .i64 1 (n : Int) = 2 ^ n := shl1 hn
  by_cases h1 : e ≥ 0
  · have e1 : decide (0 ≤ e) = true := by simpa using h1
    by_cases h2 : e < 2 ^ n
    · simp (maxSteps := 2000000) only [s25, ↓Za, ↓Zw, ↓Zz, ↓Zb, ↓Zc, ↓vdn, vup, cond_true, cond_false, aop, Zg, Zp, ev, sput, Zf, Yk, Yl, Nat.reduceBEq, Nat.reduceAdd, Zu, Xx, tup, h1, Int.natCast_nonneg, hsh, h2, Bool.true_and]
    · simp (maxSteps := 2000000) only [s25, ↓Za, ↓Zw, ↓Zz, ↓Zb, ↓Zc, ↓vdn, vup, cond_true, cond_false, aop, Zg, Zp, ev, sput, Zf, Yk, Yl, Nat.reduceBEq, Nat.reduceAdd, Zu, Xx, tup, h1, Int.natCast_nonneg, hsh, h2, Bool.true_and]
  · have e1 : decide (0 ≤ e) = false := by simpa using h1
    simp (maxSteps := 2000000) only [s25, ↓Za, ↓Zw, ↓Zz, ↓Zb, ↓Zc, ↓vdn, vup, cond_true, cond_false, aop, Zg, Zp, ev, sput, Zf, Yk, Yl, Nat.reduceBEq, Nat.reduceAdd, Zu, Xx, tup, h1, Bool.false_and]

theorem s20_callW [Tabs Try.prog] {args : List Value} {h : Zh} {Q : Value → Zh → Prop} (hsz : args.length ≤ 59) (hk : AWS Try.prog 59 s20 (Zu Try.prog [.tmp 4] Q) (Zp 0 args) h) : ACall Try.prog 20 args h Q :=
  Yv Try.func20 rfl (enters_of Try.func20 (by kernel_rfl) rfl) rfl rfl (by decide) s20_strip s20_ok hsz hk
theorem rbets_call [Tabs prog] {h : Zh} {n : Int} {v : Value} {l : List (Int × Int)} (hv : PairSl h v l) (hl : l.length < 9223372036854775808) : Xm prog 20 [Zd n, v] h (.bool (Yu n l)) := by
  refine ACall.forget (Low.bool _) ?_
  refine s20_callW (by simp) ?_
  simp only [s20]
  refine Ze fun N1 hN1 => ?_
  simp (maxSteps := 2000000) only [↓Za, ↓Zb, ↓Zc, vup, cond_false, aop, Zg, Zp, ev, sput, Zf, Nat.reduceBEq, Nat.reduceAdd]
  refine hN1 [(0, Zd n), (1, v), (4, .bool false)] _ _ ?_ (by simp (maxSteps := 2000000) only [vup, cond_true, cond_false, Nat.reduceBEq])
  clear hN1
  try clear N1
  refine Zl fun Y hY => ?_
  refine Ze fun N2 hN2 => ?_
  have bad : Yu n l = false → ∀ e, ELe e [(0, Zd n), (1, v), (4, .bool false), (21, .bool true)] → N2 e h := by
    intro hb e he
    refine hN2 _ _ _ ?_ he
    refine Xr rfl ?_
    refine Zi ?_
    simp (maxSteps := 2000000) only [↓Za, ↓Zw, ↓Zz, ↓Zb, ↓Zc, vup, cond_true, cond_false, aop, Zg, ev, sput, Zf, Nat.reduceBEq, Zu, Xx, tup]
    rw [hb]
    exact ⟨rfl, Ext.refl _ _⟩
  simp (maxSteps := 2000000) only [↓Za, ↓Zc, vup, List.map_cons, List.map_nil, cond_true, cond_false, aop, ev, sput, Zf, unK, Nat.reduceBEq, Yr, List.nil_append, List.append_nil]
  refine (worlds_call).mono ?_
  rintro _ h ⟨rfl, rfl⟩
  by_cases h1 : n < 2
  · have e1 : decide (2 ≤ n) = false := by simp; omega
    simp (maxSteps := 2000000) only [↓Zb, ↓Zc, ↓vdn, vup, cond_true, cond_false, aop, Zg, ev, sput, Zf, Nat.reduceBEq, e1, Bool.false_and]
    exact bad (by rw [Yu, e1, Bool.false_and]) _ (by simp (maxSteps := 2000000) only [vup, cond_true, cond_false, Nat.reduceBEq])
  have e1 : decide (2 ≤ n) = true := by simp; omega
  by_cases h2 : n > 5
  · have e2 : decide (n ≤ 5) = false := by simp; omega
    simp (maxSteps := 2000000) only [↓Zb, ↓Zc, ↓vdn, vup, cond_true, cond_false, aop, Zg, ev, sput, Zf, Nat.reduceBEq, e1, e2, Bool.true_and]
    exact bad (by rw [Yu, e2, Bool.false_and, Bool.and_false]) _ (by simp (maxSteps := 2000000) only [vup, cond_true, cond_false, Nat.reduceBEq])
  have e2 : decide (n ≤ 5) = true := by simp; omega
  by_cases h3 : (l.length : Int) < 1
  · simp (maxSteps := 2000000) only [↓Zb, ↓Zc, ↓vdn, vup, List.map_cons, List.map_nil, cond_true, cond_false, aop, Zg, ev, sput, Zf, Yk, Yl, Zk, Nat.reduceBEq, tyf, e1, e2, Bool.true_and, hv.len, h3]
    exact bad (by rw [Yu, show decide (1 ≤ l.length) = false by rw [decide_eq_false_iff_not]; omega, Bool.false_and, Bool.and_false, Bool.and_false]) _ (by simp (maxSteps := 2000000) only [vup, cond_true, cond_false, Nat.reduceBEq])
  by_cases h4 : (l.length : Int) > 6
  · simp (maxSteps := 2000000) only [↓Zb, ↓Zc, ↓vdn, vup, List.map_cons, List.map_nil, cond_true, cond_false, aop, Zg, ev, sput, Zf, Yk, Yl, Zk, Nat.reduceBEq, tyf, e1, e2, Bool.true_and, hv.len, h3, h4]
    exact bad (by rw [Yu, show decide (l.length ≤ 6) = false by simp; omega, Bool.false_and, Bool.and_false, Bool.and_false, Bool.and_false]) _ (by simp (maxSteps := 2000000) only [vup, cond_true, cond_false, Nat.reduceBEq])
  simp (maxSteps := 2000000) only [↓Zb, ↓Zc, ↓vdn, vup, List.map_cons, List.map_nil, cond_true, cond_false, aop, Zg, ev, sput, Zf, Yk, Yl, Zk, Nat.reduceBEq, tyf, e1, e2, Bool.true_and, hv.len, h3, h4]
  refine hN2 [(0, Zd n), (1, v), (4, .bool false), (21, .bool false)] _ _ ?_ (by simp (maxSteps := 2000000) only [vup, cond_true, cond_false, Nat.reduceBEq])
  clear hN2
  try clear N2
  refine Yz rfl ?_
  refine Zi ?_
  simp (maxSteps := 2000000) only [↓Zs, Zg]
  clear bad
  obtain ⟨m, rfl⟩ : ∃ m : Nat, n = m := ⟨n.toNat, by omega⟩
  have hval : Yu m l = Vc m l l.length := by
    rw [Yu, e1, e2, show decide (1 ≤ l.length) = true by rw [decide_eq_true_eq]; omega, show decide (l.length ≤ 6) = true by simp; omega]
    simp
  have hpm : (2 : Nat) ^ m ≤ 2 ^ 5 := Nat.pow_le_pow_right (by decide) (by omega)
  refine hY [(0, Zd (m : Nat)), (1, v), (4, .bool false)] _ _ ?_ (by simp (maxSteps := 2000000) only [vup, cond_true, cond_false, Nat.reduceBEq])
  clear hY
  try clear Y
  rw [hval]
  refine Zl fun Z hZ => ?_
  refine Ze fun N3 hN3 => ?_
  simp (maxSteps := 2000000) only [↓Za, ↓Zb, ↓Zc, vup, List.map_cons, List.map_nil, cond_true, cond_false, aop, Zg, ev, sput, Zf, Zk, Nat.reduceBEq, tyf, hv.len]
  refine hN3 [(0, Zd (m : Nat)), (1, v), (4, .bool false), (22, v), (23, Zd l.length), (24, .int .i64 0)] _ _ ?_ (by simp (maxSteps := 2000000) only [vup, cond_true, cond_false, Nat.reduceBEq])
  clear hN3
  try clear N3
  refine Zn ?_
  refine Zy fun Q hQ => ?_
  refine Xd (γ := Nat × Zh) (fun s => s.1 ≤ l.length ∧ Vc m l s.1 = true ∧ Ext (fun _ => False) h s.2)
    (fun s => ([(0, Zd (m : Nat)), (1, v), (4, .bool false), (22, v), (23, Zd l.length), (24, Zd (s.1 : Nat))], s.2)) (fun s => l.length - s.1) (0, h) ⟨Nat.zero_le _, rfl, Ext.refl _ _⟩ (by simp (maxSteps := 2000000) only [vup, cond_true, cond_false, Nat.reduceBEq, Int.natCast_zero]) rfl ?_
  rintro ⟨k, hp⟩ ⟨hk, hall, hEp⟩
  simp only at hk hall hEp
  refine Zy fun Q2 hQ2 => ?_
  simp only [l20_1]
  by_cases hin : (k : Int) < l.length
  · have hk' : k < l.length := by omega
    have hvp := hv.ext hEp
    obtain ⟨⟨x, y⟩, hxy⟩ : ∃ p, l.getD k (0, 0) = p := ⟨_, rfl⟩
    obtain ⟨G, hG⟩ : ∃ G, G = hp ++ [rB x y] := ⟨_, rfl⟩
    have c6 : G[hp.length]? = some (rB x y) := by rw [hG]; exact Yh _ _
    have hEG : Ext (fun _ => False) h G := by rw [hG]; exact hEp.trans (Ext.app _ _ _)
    have hvG := hv.ext hEG
    have vfalse : (okB m (x, y) && !(l.take k).any fun z => z.1 == x) = false → Vc m l l.length = false := fun hf => validTo_false hk' (by rw [hxy]; exact hf)
    have ret0 : (okB m (x, y) && !(l.take k).any fun z => z.1 == x) = false → ∀ e G', Ext (fun _ => False) h G' → sget e 4 = .bool false → Q2 .ret e G' := by
      intro hf e G' hG' he
      refine hQ2 _ _ _ (hQ _ _ _ ?_)
      simp (maxSteps := 2000000) only [vup, Zg, Zo, Zu, Xx, tup, he, vfalse hf]
      exact hG'
    refine Ze fun N4 hN4 => ?_
    simp (maxSteps := 2000000) only [↓Za, ↓Zb, ↓Zc, vup, cond_true, cond_false, aop, Zg, ev, sput, Zf, Yk, Yl, Nat.reduceBEq, hin]
    refine hN4 [(0, Zd (m : Nat)), (1, v), (4, .bool false), (22, v), (23, Zd l.length), (24, Zd (k : Nat)), (25, .bool true)] _ _ ?_ (by simp (maxSteps := 2000000) only [vup, cond_true, cond_false, Nat.reduceBEq])
    clear hN4
    try clear N4
    refine Ze fun N5 hN5 => ?_
    simp (maxSteps := 2000000) only [↓Zs, ↓vdn, vup, cond_true, cond_false, Zg, ev, Nat.reduceBEq]
    refine hN5 [(0, Zd (m : Nat)), (1, v), (4, .bool false), (22, v), (23, Zd l.length), (24, Zd (k : Nat))] _ _ ?_ (by simp (maxSteps := 2000000) only [vup, cond_true, cond_false, Nat.reduceBEq])
    clear hN5
    try clear N5
    refine Zl fun B hB => ?_
    refine Zn ?_
    refine Ze fun N6 hN6 => ?_
    simp (maxSteps := 2000000) only [↓Za, ↓Zb, ↓Zc, vup, cond_true, cond_false, aop, Zg, ev, sput, Zf, Nat.reduceBEq, tyf, hvp.idx el_22 esz_24 hk', hvp.load shp_24 hk', hxy, Xn, Yx, storeRt (Yh hp zR) rfl, Xy]
    rw [← hG]
    refine hN6 [(0, Zd (m : Nat)), (1, v), (4, .bool false), (5, Zd (k : Nat)), (6, .pointer (some ⟨hp.length, 0, none⟩)), (22, v), (23, Zd l.length), (24, Zd (k : Nat))] _ _ ?_ (by simp (maxSteps := 2000000) only [vup, cond_true, cond_false, Nat.reduceBEq])
    clear hN6
    try clear N6
    refine Zl fun C hC => ?_
    have evc := event_call (h := G) (n := m) (e := x) (by omega)
    refine Ze fun N7 hN7 => ?_
    simp (maxSteps := 2000000) only [↓Za, ↓Zc, vup, List.map_cons, List.map_nil, cond_true, cond_false, aop, ev, sput, Zf, unK, Nat.reduceBEq, Yr, List.nil_append, List.append_nil, rA0, loadR0 c6]
    refine (evc).mono ?_
    rintro _ G ⟨rfl, rfl⟩
    by_cases g1 : x < 0
    · have d1 : decide (0 ≤ x) = false := by simp; omega
      simp (maxSteps := 2000000) only [↓Zb, ↓Zc, ↓vdn, vup, cond_true, cond_false, aop, Zg, ev, sput, Zf, Nat.reduceBEq, d1, Bool.false_and]
      refine hN7 [(0, Zd (m : Nat)), (1, v), (4, .bool false), (5, Zd (k : Nat)), (6, .pointer (some ⟨hp.length, 0, none⟩)), (22, v), (23, Zd l.length), (24, Zd (k : Nat)), (43, .bool true)] _ _ ?_ (by simp (maxSteps := 2000000) only [vup, cond_true, cond_false, Nat.reduceBEq])
      clear hN7
      try clear N7
      refine Zi ?_
      simp (maxSteps := 2000000) only [↓Za, ↓Zw, ↓Zz, ↓Zb, ↓Zc, ↓vdn, vup, cond_true, cond_false, aop, Zg, Zo, ev, sput, Zf, Nat.reduceBEq]
      exact ret0 (by simp [okB]; omega) _ _ hEG rfl
    have d1 : decide (0 ≤ x) = true := by simp; omega
    by_cases g2 : x < 2 ^ m
    case neg =>
      have d2 : decide (x < 2 ^ m) = false := by simpa using g2
      simp (maxSteps := 2000000) only [↓Zb, ↓Zc, ↓vdn, vup, cond_true, cond_false, aop, Zg, ev, sput, Zf, Nat.reduceBEq, d1, d2, Bool.true_and]
      refine hN7 [(0, Zd (m : Nat)), (1, v), (4, .bool false), (5, Zd (k : Nat)), (6, .pointer (some ⟨hp.length, 0, none⟩)), (22, v), (23, Zd l.length), (24, Zd (k : Nat)), (43, .bool true)] _ _ ?_ (by simp (maxSteps := 2000000) only [vup, cond_true, cond_false, Nat.reduceBEq])
      clear hN7
      try clear N7
      refine Zi ?_
      simp (maxSteps := 2000000) only [↓Za, ↓Zw, ↓Zz, ↓Zb, ↓Zc, ↓vdn, vup, cond_true, cond_false, aop, Zg, Zo, ev, sput, Zf, Nat.reduceBEq]
      exact ret0 (by simp [okB]; omega) _ _ hEG rfl
    have d2 : decide (x < 2 ^ m) = true := by simpa using g2
    by_cases g3 : y < 0
    · simp (maxSteps := 2000000) only [↓Zb, ↓Zc, ↓vdn, vup, cond_true, cond_false, aop, Zg, ev, sput, Zf, Yk, Yl, Nat.reduceBEq, tyf, d1, d2, Bool.true_and, rA1, loadR1 c6, g3]
      refine hN7 [(0, Zd (m : Nat)), (1, v), (4, .bool false), (5, Zd (k : Nat)), (6, .pointer (some ⟨hp.length, 0, none⟩)), (22, v), (23, Zd l.length), (24, Zd (k : Nat)), (43, .bool true)] _ _ ?_ (by simp (maxSteps := 2000000) only [vup, cond_true, cond_false, Nat.reduceBEq])
      clear hN7
      try clear N7
      refine Zi ?_
      simp (maxSteps := 2000000) only [↓Za, ↓Zw, ↓Zz, ↓Zb, ↓Zc, ↓vdn, vup, cond_true, cond_false, aop, Zg, Zo, ev, sput, Zf, Nat.reduceBEq]
      exact ret0 (by simp [okB]; omega) _ _ hEG rfl
    by_cases g4 : y > 12
    · simp (maxSteps := 2000000) only [↓Zb, ↓Zc, ↓vdn, vup, cond_true, cond_false, aop, Zg, ev, sput, Zf, Yk, Yl, Nat.reduceBEq, tyf, d1, d2, Bool.true_and, rA1, loadR1 c6, g3, g4]
      refine hN7 [(0, Zd (m : Nat)), (1, v), (4, .bool false), (5, Zd (k : Nat)), (6, .pointer (some ⟨hp.length, 0, none⟩)), (22, v), (23, Zd l.length), (24, Zd (k : Nat)), (43, .bool true)] _ _ ?_ (by simp (maxSteps := 2000000) only [vup, cond_true, cond_false, Nat.reduceBEq])
      clear hN7
      try clear N7
      refine Zi ?_
      simp (maxSteps := 2000000) only [↓Za, ↓Zw, ↓Zz, ↓Zb, ↓Zc, ↓vdn, vup, cond_true, cond_false, aop, Zg, Zo, ev, sput, Zf, Nat.reduceBEq]
      exact ret0 (by simp [okB]; omega) _ _ hEG rfl
    simp (maxSteps := 2000000) only [↓Zb, ↓Zc, ↓vdn, vup, cond_true, cond_false, aop, Zg, ev, sput, Zf, Yk, Yl, Nat.reduceBEq, tyf, d1, d2, Bool.true_and, rA1, loadR1 c6, g3, g4]
    refine hN7 [(0, Zd (m : Nat)), (1, v), (4, .bool false), (5, Zd (k : Nat)), (6, .pointer (some ⟨hp.length, 0, none⟩)), (22, v), (23, Zd l.length), (24, Zd (k : Nat)), (43, .bool false)] _ _ ?_ (by simp (maxSteps := 2000000) only [vup, cond_true, cond_false, Nat.reduceBEq])
    clear hN7
    try clear N7
    refine Yz rfl ?_
    refine Zi ?_
    simp (maxSteps := 2000000) only [↓Zs, Zg]
    refine hC [(0, Zd (m : Nat)), (1, v), (4, .bool false), (5, Zd (k : Nat)), (6, .pointer (some ⟨hp.length, 0, none⟩)), (22, v), (23, Zd l.length), (24, Zd (k : Nat))] _ _ ?_ (by simp (maxSteps := 2000000) only [vup, cond_true, cond_false, Nat.reduceBEq])
    clear hC
    try clear C
    have hok : okB m (x, y) = true := by simp [okB]; omega
    refine Ze fun N8 hN8 => ?_
    simp (maxSteps := 2000000) only [↓Za, ↓Zb, ↓Zc, vup, List.map_cons, List.map_nil, cond_true, cond_false, aop, Zg, ev, sput, Zf, Zk, Nat.reduceBEq, tyf, Option.map_some, Option.map_none]
    refine hvG.pre el_22 esz_24 (show k ≤ l.length by omega) fun v' hv' => ?_
    have hlt : (l.take k).length = k := by rw [List.length_take]; omega
    have hvl : ∀ {K : Value → Prop}, lenK v' K = K (Zd (k : Nat)) := fun {K} => by rw [hv'.len, hlt]
    simp (maxSteps := 2000000) only [hvl]
    refine hN8 [(0, Zd (m : Nat)), (1, v), (4, .bool false), (5, Zd (k : Nat)), (6, .pointer (some ⟨hp.length, 0, none⟩)), (22, v), (23, Zd l.length), (24, Zd (k : Nat)), (46, v'), (47, Zd (k : Nat)), (48, .int .i64 0)] _ _ ?_ (by simp (maxSteps := 2000000) only [vup, cond_true, cond_false, Nat.reduceBEq])
    clear hN8
    try clear N8
    refine Zn ?_
    refine Zy fun Qa hQa => ?_
    refine Xd (γ := Nat × Zh) (fun s => s.1 ≤ k ∧ ((l.take s.1).any fun z => z.1 == x) = false ∧ Ext (fun _ => False) G s.2)
      (fun s => ([(0, Zd (m : Nat)), (1, v), (4, .bool false), (5, Zd (k : Nat)), (6, .pointer (some ⟨hp.length, 0, none⟩)), (22, v), (23, Zd l.length), (24, Zd (k : Nat)), (46, v'), (47, Zd (k : Nat)), (48, Zd (s.1 : Nat))], s.2)) (fun s => k - s.1) (0, G) ⟨Nat.zero_le _, rfl, Ext.refl _ _⟩ (by simp (maxSteps := 2000000) only [vup, cond_true, cond_false, Nat.reduceBEq, Int.natCast_zero]) rfl ?_
    rintro ⟨j, F⟩ ⟨hj, hno, hEF⟩
    simp only at hj hno hEF
    refine Zy fun Qb hQb => ?_
    simp only [l20_0]
    by_cases hjin : (j : Int) < k
    · have hj' : j < k := by omega
      have hjl : j < (l.take k).length := by omega
      obtain ⟨⟨x2, y2⟩, hxy2⟩ : ∃ p, l.getD j (0, 0) = p := ⟨_, rfl⟩
      have hgj : (l.take k).getD j (0, 0) = (x2, y2) := by rw [← hxy2, List.getD, List.getD, List.getElem?_take, if_pos hj']
      obtain ⟨F2, hF2⟩ : ∃ F2, F2 = F ++ [rB x2 y2] := ⟨_, rfl⟩
      have c8 : F2[F.length]? = some (rB x2 y2) := by rw [hF2]; exact Yh _ _
      have hEF2 : Ext (fun _ => False) G F2 := by rw [hF2]; exact hEF.trans (Ext.app _ _ _)
      have c6F : F2[hp.length]? = some (rB x y) := (hEF2.2 _ (Yn c6) id).trans c6
      have hvF := hv'.ext hEF
      have hts : (l.take (j + 1)).any (fun z => z.1 == x) = (x2 == x) := by
        rw [take_snoc (d := ((0, 0) : Int × Int)) (show j < l.length by omega), hxy2, List.any_append, hno]; simp
      refine Ze fun N9 hN9 => ?_
      simp (maxSteps := 2000000) only [↓Za, ↓Zb, ↓Zc, vup, cond_true, cond_false, aop, Zg, ev, sput, Zf, Yk, Yl, Nat.reduceBEq, hjin]
      refine hN9 [(0, Zd (m : Nat)), (1, v), (4, .bool false), (5, Zd (k : Nat)), (6, .pointer (some ⟨hp.length, 0, none⟩)), (22, v), (23, Zd l.length), (24, Zd (k : Nat)), (46, v'), (47, Zd (k : Nat)), (48, Zd (j : Nat)), (49, .bool true)] _ _ ?_ (by simp (maxSteps := 2000000) only [vup, cond_true, cond_false, Nat.reduceBEq])
      clear hN9
      try clear N9
      refine Ze fun N10 hN10 => ?_
      simp (maxSteps := 2000000) only [↓Zs, ↓vdn, vup, cond_true, cond_false, Zg, ev, Nat.reduceBEq]
      refine hN10 [(0, Zd (m : Nat)), (1, v), (4, .bool false), (5, Zd (k : Nat)), (6, .pointer (some ⟨hp.length, 0, none⟩)), (22, v), (23, Zd l.length), (24, Zd (k : Nat)), (46, v'), (47, Zd (k : Nat)), (48, Zd (j : Nat))] _ _ ?_ (by simp (maxSteps := 2000000) only [vup, cond_true, cond_false, Nat.reduceBEq])
      clear hN10
      try clear N10
      refine Zl fun D hD => ?_
      refine Zn ?_
      refine Ze fun N11 hN11 => ?_
      simp (maxSteps := 2000000) only [↓Za, ↓Zb, ↓Zc, vup, cond_true, cond_false, aop, Zg, ev, sput, Zf, Nat.reduceBEq, tyf, hvF.idx el_22 esz_24 hjl, hvF.load shp_24 hjl, hgj, Xn, Yx, storeRt (Yh F zR) rfl, Xy]
      rw [← hF2]
      refine hN11 [(0, Zd (m : Nat)), (1, v), (4, .bool false), (5, Zd (k : Nat)), (6, .pointer (some ⟨hp.length, 0, none⟩)), (8, .pointer (some ⟨F.length, 0, none⟩)), (22, v), (23, Zd l.length), (24, Zd (k : Nat)), (46, v'), (47, Zd (k : Nat)), (48, Zd (j : Nat))] _ _ ?_ (by simp (maxSteps := 2000000) only [vup, cond_true, cond_false, Nat.reduceBEq])
      clear hN11
      try clear N11
      refine Ze fun N12 hN12 => ?_
      simp (maxSteps := 2000000) only [↓Za, ↓Zb, ↓Zc, vup, cond_true, cond_false, aop, Zg, ev, sput, Zf, Yk, Yl, Nat.reduceBEq, tyf, rA0, loadR0 c6F, loadR0 c8]
      refine hN12 [(0, Zd (m : Nat)), (1, v), (4, .bool false), (5, Zd (k : Nat)), (6, .pointer (some ⟨hp.length, 0, none⟩)), (8, .pointer (some ⟨F.length, 0, none⟩)), (22, v), (23, Zd l.length), (24, Zd (k : Nat)), (46, v'), (47, Zd (k : Nat)), (48, Zd (j : Nat)), (56, .bool (x == x2))] _ _ ?_ (by simp (maxSteps := 2000000) only [vup, cond_true, cond_false, Nat.reduceBEq])
      clear hN12
      try clear N12
      cases hxx : (x == x2) with
      | true =>
        refine Zi ?_
        simp (maxSteps := 2000000) only [↓Za, ↓Zw, ↓Zz, ↓Zb, ↓Zc, ↓vdn, vup, cond_true, cond_false, aop, Zg, Zo, ev, sput, Zf, Nat.reduceBEq]
        refine hQb _ _ _ (hQa _ _ _ ?_)
        simp (maxSteps := 2000000) only [Zg, Zo]
        refine ret0 ?_ _ _ (hEG.trans hEF2) rfl
        have : ((l.take k).any fun z => z.1 == x) = true := by
          rw [List.any_eq_true]
          refine ⟨(x2, y2), hgj ▸ getD_mem hjl, ?_⟩
          rw [beq_iff_eq] at hxx
          simp [hxx]
        rw [this]; simp
      | false =>
        refine Zi ?_
        simp (maxSteps := 2000000) only [↓Zs, ↓vdn, vup, cond_true, cond_false, Zg, Zo, ev, Nat.reduceBEq]
        refine hD [(0, Zd (m : Nat)), (1, v), (4, .bool false), (5, Zd (k : Nat)), (6, .pointer (some ⟨hp.length, 0, none⟩)), (22, v), (23, Zd l.length), (24, Zd (k : Nat)), (46, v'), (47, Zd (k : Nat)), (48, Zd (j : Nat))] _ _ ?_ (by simp (maxSteps := 2000000) only [vup, cond_true, cond_false, Nat.reduceBEq])
        clear hD
        try clear D
        refine Zi ?_
        simp (maxSteps := 2000000) only [↓Za, ↓Zb, ↓Zc, vup, cond_true, cond_false, aop, ev, sput, Zf, Yk, Yl, Nat.reduceBEq, add1 (show j < 9223372036854775807 by omega)]
        refine hQb _ _ _ ⟨(j + 1, F2), ⟨hj', ?_, hEF2⟩, by simp only; omega, by simp (maxSteps := 2000000) only [vup, cond_true, cond_false, Nat.reduceBEq], rfl⟩
        simp only [hts]
        rw [beq_eq_false_iff_ne] at hxx ⊢
        exact fun h => hxx h.symm
    · obtain rfl : k = j := by omega
      refine Ze fun N13 hN13 => ?_
      simp (maxSteps := 2000000) only [↓Za, ↓Zb, ↓Zc, vup, cond_true, cond_false, aop, Zg, ev, sput, Zf, Yk, Yl, Nat.reduceBEq, hjin]
      refine hN13 [(0, Zd (m : Nat)), (1, v), (4, .bool false), (5, Zd (k : Nat)), (6, .pointer (some ⟨hp.length, 0, none⟩)), (22, v), (23, Zd l.length), (24, Zd (k : Nat)), (46, v'), (47, Zd (k : Nat)), (48, Zd (k : Nat)), (49, .bool false)] _ _ ?_ (by simp (maxSteps := 2000000) only [vup, cond_true, cond_false, Nat.reduceBEq])
      clear hN13
      try clear N13
      refine Ze fun N14 hN14 => ?_
      simp (maxSteps := 2000000) only [↓Xl, ↓vdn, vup, cond_true, cond_false, Zg, ev, Nat.reduceBEq]
      refine hQb _ _ _ (hQa _ _ _ ?_)
      simp (maxSteps := 2000000) only [Zg, Zo, if_true]
      refine hB [(0, Zd (m : Nat)), (1, v), (4, .bool false), (22, v), (23, Zd l.length), (24, Zd (k : Nat)), (49, .bool false)] _ _ ?_ (by simp (maxSteps := 2000000) only [vup, cond_true, cond_false, Nat.reduceBEq])
      clear hB
      try clear B
      refine Zi ?_
      simp (maxSteps := 2000000) only [↓Za, ↓Zb, ↓Zc, vup, cond_true, cond_false, aop, ev, sput, Zf, Yk, Yl, Nat.reduceBEq, add1 (show k < 9223372036854775807 by omega)]
      refine hQ2 _ _ _ ⟨(k + 1, F), ⟨hk', ?_, hEG.trans hEF⟩, by simp only; omega, by simp (maxSteps := 2000000) only [vup, cond_true, cond_false, Nat.reduceBEq], rfl⟩
      simp only [validTo_succ, hall, hxy, hok, hno]; rfl
  · obtain rfl : k = l.length := by omega
    refine Ze fun N15 hN15 => ?_
    simp (maxSteps := 2000000) only [↓Za, ↓Zb, ↓Zc, vup, cond_true, cond_false, aop, Zg, ev, sput, Zf, Yk, Yl, Nat.reduceBEq, hin]
    refine hN15 [(0, Zd (m : Nat)), (1, v), (4, .bool false), (22, v), (23, Zd l.length), (24, Zd l.length), (25, .bool false)] _ _ ?_ (by simp (maxSteps := 2000000) only [vup, cond_true, cond_false, Nat.reduceBEq])
    clear hN15
    try clear N15
    refine Ze fun N16 hN16 => ?_
    simp (maxSteps := 2000000) only [↓Xl, ↓vdn, vup, cond_true, cond_false, Zg, ev, Nat.reduceBEq]
    refine hQ2 _ _ _ (hQ _ _ _ ?_)
    simp (maxSteps := 2000000) only [Zg, Zo, Zu, if_true]
    refine hZ [(0, Zd (m : Nat)), (1, v), (4, .bool false), (22, v), (23, Zd l.length), (24, Zd l.length), (25, .bool false)] _ _ ?_ (by simp (maxSteps := 2000000) only [vup, cond_true, cond_false, Nat.reduceBEq])
    clear hZ
    try clear Z
    refine Zi ?_
    simp (maxSteps := 2000000) only [↓Za, ↓Zw, ↓Zz, ↓Zb, ↓Zc, vup, cond_true, cond_false, aop, Zg, ev, sput, Zf, Nat.reduceBEq, Zu, Xx, tup, hall]
    exact hEp

theorem s18_callW [Tabs Try.prog] {args : List Value} {h : Zh} {Q : Value → Zh → Prop} (hsz : args.length ≤ 25) (hk : AWS Try.prog 25 s18 (Zu Try.prog [.tmp 2] Q) (Zp 0 args) h) : ACall Try.prog 18 args h Q :=
  Yv Try.func18 rfl (enters_of Try.func18 (by kernel_rfl) rfl) rfl rfl (by decide) s18_strip s18_ok hsz hk
theorem of_own [Tabs prog] {h : Zh} {v : Value} {l : List (Int × Int)} (hv : PairSl h v l) (hl : l.length < 9223372036854775808) : ACall prog 18 [v] h fun r h' => OwnP 92 h' r (l.take 9) ∧ Ext (fun _ => False) h h' ∧ ∀ b, Yf r = some b → h.length ≤ b := by
  have bldB : ∀ {x y : Int} {K : Value → Prop}, Wx prog 92 [(0, Zd x), (1, Zd y)] K = K (.agg #[Zd x, Zd y]) := fun {x y K} => by
    simp [Wx, zero_92, fillL, pl_92_0, pl_92_1, Wd, cellsOf, Yc]
  have lit : ∀ {h : Zh} {x y : Int} {K : Value → Zh → Prop}, Yj prog h 30 1 [(0, .agg #[Zd x, Zd y])] K = K (.slice (some ⟨h.length, 0, none⟩) 1 1) (h ++ [.ints [x, y] 92 false]) := fun {h x y K} => by
    simp only [Yj, el_30, zero_92, esz_92, reps, fillL, mkb, Wd, cellsOf, List.length_cons, List.length_nil, Nat.zero_add, Nat.zero_mul, Yc]
    refine propext ⟨fun h => ?_, fun h => ⟨trivial, by decide, by decide, ?_⟩⟩
    · simpa [Xa] using h.2.2.2
    · simpa [Xa] using h
  refine s18_callW (by simp) ?_
  simp only [s18]
  refine Ze fun N17 hN17 => ?_
  simp (maxSteps := 2000000) only [↓Za, ↓Zb, ↓Zc, vup, cond_false, aop, Zg, Zp, ev, sput, Zf, Nat.reduceBEq]
  refine hN17 [(0, v), (2, .slice none 0 0)] _ _ ?_ (by simp (maxSteps := 2000000) only [vup, cond_true, cond_false, Nat.reduceBEq])
  clear hN17
  try clear N17
  refine Ze fun N18 hN18 => ?_
  simp (maxSteps := 2000000) only [↓Za, ↓Zb, ↓Zc, vup, cond_false, aop, Zg, ev, sput, Zf, Nat.reduceBEq]
  refine hN18 [(0, v), (2, .slice none 0 0), (3, .slice none 0 0)] _ _ ?_ (by simp (maxSteps := 2000000) only [vup, cond_true, cond_false, Nat.reduceBEq])
  clear hN18
  try clear N18
  refine Zl fun Z hZ => ?_
  refine Ze fun N19 hN19 => ?_
  simp (maxSteps := 2000000) only [↓Za, ↓Zb, ↓Zc, vup, List.map_cons, List.map_nil, cond_true, cond_false, aop, Zg, ev, sput, Zf, Zk, Nat.reduceBEq, tyf, hv.len]
  refine hN19 [(0, v), (2, .slice none 0 0), (3, .slice none 0 0), (6, v), (7, Zd l.length), (8, .int .i64 0)] _ _ ?_ (by simp (maxSteps := 2000000) only [vup, cond_true, cond_false, Nat.reduceBEq])
  clear hN19
  try clear N19
  refine Zn ?_
  refine Zy fun Q hQ => ?_
  refine Xd (γ := Nat × Value × Zh) (fun s => s.1 ≤ l.length ∧ OwnP 92 s.2.2 s.2.1 ((l.take 9).take s.1) ∧ Ext (fun _ => False) h s.2.2 ∧ ∀ b, Yf s.2.1 = some b → h.length ≤ b)
    (fun s => ([(0, v), (2, .slice none 0 0), (3, s.2.1), (6, v), (7, Zd l.length), (8, Zd (s.1 : Nat))], s.2.2)) (fun s => l.length - s.1) (0, .slice none 0 0, h) ⟨Nat.zero_le _, .inl ⟨rfl, by simp⟩, Ext.refl _ _, fun b hb => by cases hb⟩ (by simp (maxSteps := 2000000) only [vup, cond_true, cond_false, Nat.reduceBEq, Int.natCast_zero]) rfl ?_
  rintro ⟨k, x, H⟩ ⟨hk, ho, hE, hbx⟩
  simp only at hk ho hE hbx
  refine Zy fun Q2 hQ2 => ?_
  simp only [l18_0]
  by_cases hin : (k : Int) < l.length
  · have hk' : k < l.length := by omega
    have hvH := hv.ext hE
    obtain ⟨⟨a, b⟩, hab⟩ : ∃ p, l.getD k (0, 0) = p := ⟨_, rfl⟩
    obtain ⟨G, hG⟩ : ∃ G, G = H ++ [rB a b] := ⟨_, rfl⟩
    have c5 : G[H.length]? = some (rB a b) := by rw [hG]; exact Yh _ _
    have hEG : Ext (fun _ => False) H G := by rw [hG]; exact Ext.app _ _ _
    refine Ze fun N20 hN20 => ?_
    simp (maxSteps := 2000000) only [↓Za, ↓Zb, ↓Zc, vup, cond_true, cond_false, aop, Zg, ev, sput, Zf, Yk, Yl, Nat.reduceBEq, hin]
    refine hN20 [(0, v), (2, .slice none 0 0), (3, x), (6, v), (7, Zd l.length), (8, Zd (k : Nat)), (9, .bool true)] _ _ ?_ (by simp (maxSteps := 2000000) only [vup, cond_true, cond_false, Nat.reduceBEq])
    clear hN20
    try clear N20
    refine Ze fun N21 hN21 => ?_
    simp (maxSteps := 2000000) only [↓Zs, ↓vdn, vup, cond_true, cond_false, Zg, ev, Nat.reduceBEq]
    refine hN21 [(0, v), (2, .slice none 0 0), (3, x), (6, v), (7, Zd l.length), (8, Zd (k : Nat))] _ _ ?_ (by simp (maxSteps := 2000000) only [vup, cond_true, cond_false, Nat.reduceBEq])
    clear hN21
    try clear N21
    refine Zl fun B hB => ?_
    refine Zn ?_
    refine Ze fun N22 hN22 => ?_
    simp (maxSteps := 2000000) only [↓Za, ↓Zb, ↓Zc, vup, cond_true, cond_false, aop, Zg, ev, sput, Zf, Nat.reduceBEq, tyf, hvH.idx el_22 esz_24 hk', hvH.load shp_24 hk', hab, Xn, Yx, storeRt (Yh H zR) rfl, Xy]
    rw [← hG]
    refine hN22 [(0, v), (2, .slice none 0 0), (3, x), (4, Zd (k : Nat)), (5, .pointer (some ⟨H.length, 0, none⟩)), (6, v), (7, Zd l.length), (8, Zd (k : Nat))] _ _ ?_ (by simp (maxSteps := 2000000) only [vup, cond_true, cond_false, Nat.reduceBEq])
    clear hN22
    try clear N22
    by_cases h9 : (k : Int) < 9
    · refine Ze fun N23 hN23 => ?_
      simp (maxSteps := 2000000) only [↓Za, ↓Zb, ↓Zc, vup, cond_true, cond_false, aop, Zg, ev, sput, Zf, Yk, Yl, Nat.reduceBEq, h9]
      refine hN23 [(0, v), (2, .slice none 0 0), (3, x), (4, Zd (k : Nat)), (5, .pointer (some ⟨H.length, 0, none⟩)), (6, v), (7, Zd l.length), (8, Zd (k : Nat)), (14, .bool true)] _ _ ?_ (by simp (maxSteps := 2000000) only [vup, cond_true, cond_false, Nat.reduceBEq])
      clear hN23
      try clear N23
      refine Xr rfl ?_
      refine Zi ?_
      simp (maxSteps := 2000000) only [↓Za, ↓Zb, ↓Zc, vup, List.map_cons, List.map_nil, cond_true, cond_false, aop, Zg, Zo, ev, sput, Zf, Zk, Nat.reduceBEq, rA0, rA1, loadR0 c5, loadR1 c5, bldB, lit]
      refine OwnP.append (x := a) (y := b) ((ho.ext hEG).ext (Ext.app _ _ _)) app_30_30 (by simp; omega) (Yh _ _) ?_
      intro x' h' ho' hE' hb'
      have e1 : (l.take 9).take k ++ [(a, b)] = (l.take 9).take (k + 1) := by
        have hk9 : k < (l.take 9).length := by rw [List.length_take]; omega
        have hg : (l.take 9).getD k (0, 0) = (a, b) := by rw [← hab, List.getD, List.getD, List.getElem?_take, if_pos (by omega)]
        rw [take_snoc (d := ((0, 0) : Int × Int)) hk9, hg]
      rw [e1] at ho'
      have hEn := ext_app (hE.trans hEG) (H' := G ++ [Blk.ints [a, b] 92 false]) (by simp) (fun z hz => List.getElem?_append_left (by have := (hE.trans hEG).1; omega)) (fun b hb => hbx b hb) hE'
      refine hB [(0, v), (2, .slice none 0 0), (3, x'), (6, v), (7, Zd l.length), (8, Zd (k : Nat))] _ _ ?_ (by simp (maxSteps := 2000000) only [vup, cond_true, cond_false, Nat.reduceBEq])
      clear hB
      try clear B
      refine Zi ?_
      simp (maxSteps := 2000000) only [↓Za, ↓Zb, ↓Zc, vup, cond_true, cond_false, aop, ev, sput, Zf, Yk, Yl, Nat.reduceBEq, add1 (show k < 9223372036854775807 by omega)]
      refine hQ2 _ _ _ ⟨(k + 1, x', h'), ⟨hk', ho', hEn, fun b hb0 => ?_⟩, by simp only; omega, by simp (maxSteps := 2000000) only [vup, cond_true, cond_false, Nat.reduceBEq], rfl⟩
      simp only at hb0
      rcases hb' with hb' | ⟨b', hb1, hb2⟩
      · exact hbx b (hb' ▸ hb0)
      · rw [hb1] at hb0; cases hb0
        rw [List.length_append] at hb2
        have := (hE.trans hEG).1; omega
    · refine Ze fun N24 hN24 => ?_
      simp (maxSteps := 2000000) only [↓Za, ↓Zb, ↓Zc, vup, cond_true, cond_false, aop, Zg, ev, sput, Zf, Yk, Yl, Nat.reduceBEq, h9]
      refine hN24 [(0, v), (2, .slice none 0 0), (3, x), (4, Zd (k : Nat)), (5, .pointer (some ⟨H.length, 0, none⟩)), (6, v), (7, Zd l.length), (8, Zd (k : Nat)), (14, .bool false)] _ _ ?_ (by simp (maxSteps := 2000000) only [vup, cond_true, cond_false, Nat.reduceBEq])
      clear hN24
      try clear N24
      refine Yz rfl ?_
      refine Zi ?_
      simp (maxSteps := 2000000) only [↓Zs, Zg, Zo]
      refine hB [(0, v), (2, .slice none 0 0), (3, x), (6, v), (7, Zd l.length), (8, Zd (k : Nat))] _ _ ?_ (by simp (maxSteps := 2000000) only [vup, cond_true, cond_false, Nat.reduceBEq])
      clear hB
      try clear B
      refine Zi ?_
      simp (maxSteps := 2000000) only [↓Za, ↓Zb, ↓Zc, vup, cond_true, cond_false, aop, ev, sput, Zf, Yk, Yl, Nat.reduceBEq, add1 (show k < 9223372036854775807 by omega)]
      have e1 : (l.take 9).take (k + 1) = (l.take 9).take k := by
        rw [List.take_of_length_le (l := l.take 9) (by rw [List.length_take]; omega), List.take_of_length_le (l := l.take 9) (by rw [List.length_take]; omega)]
      refine hQ2 _ _ _ ⟨(k + 1, x, G), ⟨hk', by simp only; rw [e1]; exact ho.ext hEG, hE.trans hEG, hbx⟩, by simp only; omega, by simp (maxSteps := 2000000) only [vup, cond_true, cond_false, Nat.reduceBEq], rfl⟩
  · obtain rfl : k = l.length := by omega
    refine Ze fun N25 hN25 => ?_
    simp (maxSteps := 2000000) only [↓Za, ↓Zb, ↓Zc, vup, cond_true, cond_false, aop, Zg, ev, sput, Zf, Yk, Yl, Nat.reduceBEq, hin]
    refine hN25 [(0, v), (2, .slice none 0 0), (3, x), (6, v), (7, Zd l.length), (8, Zd l.length), (9, .bool false)] _ _ ?_ (by simp (maxSteps := 2000000) only [vup, cond_true, cond_false, Nat.reduceBEq])
    clear hN25
    try clear N25
    refine Ze fun N26 hN26 => ?_
    simp (maxSteps := 2000000) only [↓Xl, ↓vdn, vup, cond_true, cond_false, Zg, ev, Nat.reduceBEq]
    refine hQ2 _ _ _ (hQ _ _ _ ?_)
    simp (maxSteps := 2000000) only [Zg, Zo, Zu, if_true]
    refine hZ [(0, v), (2, .slice none 0 0), (3, x), (9, .bool false)] _ _ ?_ (by simp (maxSteps := 2000000) only [vup, cond_true, cond_false, Nat.reduceBEq])
    clear hZ
    try clear Z
    have e1 : (l.take 9).take l.length = l.take 9 := List.take_of_length_le (l := l.take 9) (by rw [List.length_take]; omega)
    rw [e1] at ho
    refine Zi ?_
    simp (maxSteps := 2000000) only [↓Za, ↓Zw, ↓Zz, ↓Zb, ↓Zc, vup, cond_true, cond_false, aop, Zg, ev, sput, Zf, Nat.reduceBEq, Zu, Xx, tup]
    exact ⟨ho, hE, hbx⟩
theorem of_copy [Tabs prog] {h : Zh} {v : Value} {l : List (Int × Int)} (hv : PairSl h v l) (hl : l.length < 9223372036854775808) : ACall prog 18 [v] h fun r h' => PairSl h' r (l.take 9) ∧ Ext (fun _ => False) h h' :=
  (of_own hv hl).mono fun _ _ h => ⟨h.1.pair, h.2.1⟩
end Go.Proofs.Try.Am

namespace Go.Proofs.Try.Am
open Go.Am Bq
set_option maxRecDepth 100000
set_option maxHeartbeats 1000000

/-- A row's fractions. -/
def rowC (T : Xv) (k i : Nat) : List (Int × Int) := (List.range (k + 1)).map fun c => ofQ (T i c)
theorem rowC_len (T : Xv) (k i : Nat) : (rowC T k i).length = k + 1 := by simp [rowC]
theorem rowC_get (T : Xv) {k i c : Nat} (hc : c ≤ k) : (rowC T k i).getD c (0, 0) = ofQ (T i c) := by
  simp [rowC, List.getD, show c < k + 1 by omega]
def upd (T : Xv) (i c : Nat) (x : Rat) : Xv := fun a d => if a = i ∧ d = c then x else T a d
theorem rowC_upd (T : Xv) {k i c : Nat} (hc : c ≤ k) (x : Rat) : (rowC T k i).set c (ofQ x) = rowC (upd T i c x) k i := by
  apply List.ext_getElem?
  intro d
  rw [List.getElem?_set, rowC_len]
  by_cases h : c = d
  · subst h
    rw [if_pos rfl, if_pos (by omega)]
    simp [rowC, show c < k + 1 by omega, upd]
  · rw [if_neg h]
    simp only [rowC, List.getElem?_map]
    by_cases hd : d < k + 1
    · simp [hd, upd, Ne.symm h]
    · rw [List.getElem?_eq_none (by simp; omega)]; rfl
theorem rowC_congr {T T' : Xv} {k i : Nat} (h : ∀ c, c ≤ k → T i c = T' i c) : rowC T k i = rowC T' k i :=
  List.map_congr_left fun c hc => by rw [h c (by have := List.mem_range.1 hc; omega)]
theorem rowC_other (T : Xv) {k i i' c : Nat} (hi : i' ≠ i) (x : Rat) : rowC (upd T i c x) k i' = rowC T k i' := rowC_congr fun d _ => by simp [upd, hi]

/-- Equations: the slice's block, the rows' blocks. -/
structure Mat (h : Zh) (B m k : Nat) (w : Nat → Value) (bk : Nat → Nat) (T : Xv) : Prop where
  outer : ∃ us, h[B]? = some (.cells ((List.range m).map w ++ us) 47 false)
  row : ∀ i, i < m → ∃ c xs, w i = .slice (some ⟨bk i, 0, some 0⟩) (k + 1) c ∧ k + 1 ≤ c ∧ h[bk i]? = some (.ints (Zx (rowC T k i) ++ xs) 26 false)
  inj : ∀ i j, i < m → j < m → bk i = bk j → i = j
  sep : ∀ i, i < m → bk i ≠ B
section
variable {h h' : Zh} {B m k C : Nat} {w : Nat → Value} {bk : Nat → Nat} {T T' : Xv}
theorem Mat.lt (M : Mat h B m k w bk T) {i : Nat} (hi : i < m) : bk i < h.length := by
  obtain ⟨c, xs, _, _, h3⟩ := M.row i hi; exact Yn h3
theorem Mat.blt (M : Mat h B m k w bk T) : B < h.length := by
  obtain ⟨us, h1⟩ := M.outer; exact Yn h1
theorem Mat.ext (M : Mat h B m k w bk T) (hE : Ext (fun _ => False) h h') : Mat h' B m k w bk T where
  outer := by
    obtain ⟨us, h1⟩ := M.outer
    exact ⟨us, (hE.2 _ (Yn h1) id).trans h1⟩
  row i hi := by
    obtain ⟨c, xs, h1, h2, h3⟩ := M.row i hi
    exact ⟨c, xs, h1, h2, (hE.2 _ (Yn h3) id).trans h3⟩
  inj := M.inj
  sep := M.sep
theorem Mat.congr (M : Mat h B m k w bk T) (hT : ∀ i c, i < m → c ≤ k → T i c = T' i c) : Mat h B m k w bk T' where
  outer := M.outer
  row i hi := by
    obtain ⟨c, xs, h1, h2, h3⟩ := M.row i hi
    exact ⟨c, xs, h1, h2, by rw [← rowC_congr fun c hc => hT i c hi hc]; exact h3⟩
  inj := M.inj
  sep := M.sep
theorem Mat.idx (i : Nat) (hi : i < m) {K : Value → Prop} : Xc prog 103 (.slice (some ⟨B, 0, some 0⟩) m C) (Zd (i : Nat)) K = K (.pointer (some ⟨B, i, none⟩)) := by
  simp only [Xc, el_103, esz_47, Int.natCast_nonneg, Int.toNat_natCast, Nat.mul_one, Nat.zero_add, true_and, Int.ofNat_lt.2 hi]
theorem Mat.loadRow (M : Mat h B m k w bk T) {i : Nat} (hi : i < m) {K : Value → Prop} : Xu prog h 47 (.pointer (some ⟨B, i, none⟩)) K = K (w i) := by
  obtain ⟨us, h1⟩ := M.outer
  refine loadC h1 shp_47 ?_
  rw [List.getElem?_append_left (by simpa using hi)]
  simp [hi]
theorem Mat.lenR (M : Mat h B m k w bk T) {i : Nat} (hi : i < m) {K : Value → Prop} : lenK (w i) K = K (Zd ((k + 1 : Nat) : Int)) := by
  obtain ⟨c, xs, h1, h2, h3⟩ := M.row i hi
  rw [h1]; rfl
theorem Mat.idxR (M : Mat h B m k w bk T) {i c : Nat} (hi : i < m) (hc : c ≤ k) {K : Value → Prop} : Xc prog 47 (w i) (Zd (c : Nat)) K = K (.pointer (some ⟨bk i, c * 2, none⟩)) := by
  obtain ⟨cc, xs, h1, h2, h3⟩ := M.row i hi
  rw [h1]
  simp only [Xc, el_47, esz_26, Int.natCast_nonneg, Int.toNat_natCast, Nat.zero_add, true_and, show ((c : Nat) : Int) < ((k + 1 : Nat) : Int) by omega]
theorem flat_two (ps : List (Int × Int)) (ys : List Int) {i : Nat} (hi : i < ps.length) : ((Zx ps ++ ys).drop (i * 2)).take 2 = [(ps.getD i (0, 0)).1, (ps.getD i (0, 0)).2] ∧ i * 2 + 2 ≤ (Zx ps ++ ys).length ∧ (Zx ps ++ ys).getD (i * 2) 0 = (ps.getD i (0, 0)).1 := by
  obtain ⟨h1, h2⟩ := flatP_get ps i hi
  have hl := Xf ps
  have g1 : (Zx ps ++ ys)[i * 2]? = some (ps.getD i (0, 0)).1 := by rw [List.getElem?_append_left (by omega)]; exact h1
  have g2 : (Zx ps ++ ys)[i * 2 + 1]? = some (ps.getD i (0, 0)).2 := by rw [List.getElem?_append_left (by omega)]; exact h2
  refine ⟨?_, by rw [List.length_append]; omega, by rw [List.getD, g1]; rfl⟩
  obtain ⟨l1, e1⟩ := List.getElem?_eq_some_iff.1 g1
  obtain ⟨l2, e2⟩ := List.getElem?_eq_some_iff.1 g2
  rw [List.drop_eq_getElem_cons l1, List.take_succ_cons, List.drop_eq_getElem_cons l2, List.take_succ_cons, List.take_zero, e1, e2]
theorem Mat.loadE (M : Mat h B m k w bk T) {i c : Nat} (hi : i < m) (hc : c ≤ k) {K : Value → Prop} : Xu prog h 26 (.pointer (some ⟨bk i, c * 2, none⟩)) K = K (qV (T i c)) := by
  obtain ⟨cc, xs, h1, h2, h3⟩ := M.row i hi
  obtain ⟨f1, f2, f3⟩ := flat_two (rowC T k i) xs (show c < (rowC T k i).length by rw [rowC_len]; omega)
  rw [rowC_get T hc] at f1
  simp only [Xu, shp_26, Xi, h3, f1, f2, true_and]
  rfl
theorem Mat.loadN (M : Mat h B m k w bk T) {i c : Nat} (hi : i < m) (hc : c ≤ k) {K : Value → Prop} : Xu prog h 3 (.pointer (some ⟨bk i, c * 2, none⟩)) K = K (Zd (T i c).num) := by
  obtain ⟨cc, xs, h1, h2, h3⟩ := M.row i hi
  obtain ⟨f1, f2, f3⟩ := flat_two (rowC T k i) xs (show c < (rowC T k i).length by rw [rowC_len]; omega)
  rw [rowC_get T hc] at f3
  simp only [Xu, shp_3, cellK, h3, f3, show c * 2 < (Zx (rowC T k i) ++ xs).length by omega, true_and]
  rfl
theorem fA0o {b o : Nat} {K : Value → Prop} : Yy prog 26 (.pointer (some ⟨b, o, none⟩)) 0 K = K (.pointer (some ⟨b, o, none⟩)) := by
  simp [Yy, fld_26_0, esz_3]
/-- A number is written. -/
theorem Mat.storeE (M : Mat h B m k w bk T) {i c : Nat} (hi : i < m) (hc : c ≤ k) (x : Rat) : ∃ h', (∀ K : Zh → Prop, Xh prog h 26 (.pointer (some ⟨bk i, c * 2, none⟩)) (qV x) K = K h') ∧ Mat h' B m k w bk (upd T i c x) ∧ Ext (fun b => b = bk i) h h' ∧ ∀ b, b ≠ bk i → h'[b]? = h[b]? := by
  obtain ⟨cc, xs, h1, h2, h3⟩ := M.row i hi
  refine ⟨h.set (bk i) (.ints (Zx (rowC (upd T i c x) k i) ++ xs) 26 false), fun K => ?_, ⟨?_, ?_, M.inj, M.sep⟩, Ext.set _ rfl, fun b hb => List.getElem?_set_ne (Ne.symm hb)⟩
  · rw [← rowC_upd T hc x]
    exact storePI h3 shp_26 (by rw [rowC_len]; omega)
  · obtain ⟨us, g1⟩ := M.outer
    exact ⟨us, by rw [List.getElem?_set_ne (M.sep i hi)]; exact g1⟩
  · intro j hj
    by_cases hji : j = i
    · subst hji
      exact ⟨cc, xs, h1, h2, Wa (M.lt hj) _⟩
    · obtain ⟨c2, xs2, g1, g2, g3⟩ := M.row j hj
      refine ⟨c2, xs2, g1, g2, ?_⟩
      rw [List.getElem?_set_ne (fun he => hji (M.inj _ _ hj hi he.symm)), rowC_other T hji]
      exact g3
def swp {α : Type} (a p : Nat) (w : Nat → α) : Nat → α := fun i => if i = a then w p else if i = p then w a else w i
theorem set_range {α : Type} (w : Nat → α) {m i : Nat} (us : List α) (x : α) (hi : i < m) : ((List.range m).map w ++ us).set i x = (List.range m).map (fun j => if j = i then x else w j) ++ us := by
  rw [List.set_append_left _ _ (by simpa using hi)]
  congr 1
  apply List.ext_getElem?
  intro j
  rw [List.getElem?_set, List.length_map, List.length_range]
  by_cases h : i = j
  · subst h; simp [hi]
  · rw [if_neg h, List.getElem?_map, List.getElem?_map]
    by_cases hj : j < m
    · simp [hj, Ne.symm h]
    · rw [List.getElem?_eq_none (by simp; omega)]; rfl
/-- Two rows change places. -/
theorem Mat.swap (M : Mat h B m k w bk T) {a p : Nat} (ha : a < m) (hp : p < m) : ∃ h1 h2, (∀ K : Zh → Prop, Xh prog h 47 (.pointer (some ⟨B, a, none⟩)) (w p) K = K h1) ∧ (∀ K : Zh → Prop, Xh prog h1 47 (.pointer (some ⟨B, p, none⟩)) (w a) K = K h2) ∧
    Mat h2 B m k (swp a p w) (swp a p bk) (Vd a p T) ∧ Ext (fun b => b = B) h h2 ∧ ∀ b, b ≠ B → h2[b]? = h[b]? := by
  obtain ⟨us, g1⟩ := M.outer
  have one_w : ∀ i, i < m → one (w i) = true := fun i hi => by
    obtain ⟨c, xs, e1, _⟩ := M.row i hi
    rw [e1]; rfl
  have hl : ∀ i, i < m → i < ((List.range m).map w ++ us).length := fun i hi => by simp; omega
  have s1 : ∀ K : Zh → Prop, Xh prog h 47 (.pointer (some ⟨B, a, none⟩)) (w p) K = K (h.set B (.cells ((List.range m).map (fun j => if j = a then w p else w j) ++ us) 47 false)) := fun K => by
    rw [storeC g1 shp_47 (one_w p hp) (hl a ha), set_range w us _ ha]
  have g2 : (h.set B (.cells ((List.range m).map (fun j => if j = a then w p else w j) ++ us) 47 false))[B]? = some (.cells ((List.range m).map (fun j => if j = a then w p else w j) ++ us) 47 false) := Wa M.blt _
  have s2 : ∀ K : Zh → Prop, Xh prog (h.set B (.cells ((List.range m).map (fun j => if j = a then w p else w j) ++ us) 47 false)) 47 (.pointer (some ⟨B, p, none⟩)) (w a) K =
      K (h.set B (.cells ((List.range m).map (swp a p w) ++ us) 47 false)) := fun K => by
    rw [storeC g2 shp_47 (one_w a ha) (by simp; omega), set_range _ us _ hp, List.set_set]
    have : (fun j => if j = p then w a else if j = a then w p else w j) = swp a p w := by
      funext j
      simp only [swp]
      by_cases h1 : j = p
      · subst h1
        by_cases h2 : j = a
        · subst h2; simp
        · simp [h2]
      · simp [h1]
    rw [this]
  have hcase : ∀ i, i < m → ∃ i', i' < m ∧ swp a p w i = w i' ∧ swp a p bk i = bk i' ∧ Vd a p T i = T i' ∧ i' = swp a p id i := fun i hi => by
    by_cases h1 : i = a
    · exact ⟨p, hp, by simp [swp, h1], by simp [swp, h1], by simp [Vd, h1], by simp [swp, h1]⟩
    · by_cases h2 : i = p
      · subst h2; exact ⟨a, ha, by simp [swp, h1], by simp [swp, h1], by simp [Vd, h1], by simp [swp, h1]⟩
      · exact ⟨i, hi, by simp [swp, h1, h2], by simp [swp, h1, h2], by simp [Vd, h1, h2], by simp [swp, h1, h2]⟩
  refine ⟨_, _, s1, s2, ⟨⟨us, Wa M.blt _⟩, fun i hi => ?_, fun i j hi hj he => ?_, fun i hi => ?_⟩, Ext.set _ rfl, fun b hb => List.getElem?_set_ne (Ne.symm hb)⟩
  · obtain ⟨i', q1, q2, q3, q4, _⟩ := hcase i hi
    obtain ⟨c, xs, e1, e2, e3⟩ := M.row i' q1
    refine ⟨c, xs, by rw [q2, q3]; exact e1, e2, ?_⟩
    rw [q3, List.getElem?_set_ne (fun he => M.sep i' q1 he.symm), show rowC (Vd a p T) k i = rowC T k i' by simp only [rowC, q4]]
    exact e3
  · obtain ⟨i', q1, _, q3, _, q5⟩ := hcase i hi
    obtain ⟨j', r1, _, r3, _, r5⟩ := hcase j hj
    rw [q3, r3] at he
    have := M.inj _ _ q1 r1 he
    rw [q5, r5] at this
    simp only [swp, id] at this
    grind
  · obtain ⟨i', q1, _, q3, _⟩ := hcase i hi
    rw [q3]; exact M.sep i' q1
/-- The rows from one on. -/
theorem Mat.tail (M : Mat h B m k w bk T) {a : Nat} (ha : a < m) (hC : m ≤ C) {K : Value → Prop} (hk : ∀ v, ValSl h v ((List.range (m - a)).map fun i => w (a + i)) → K v) : Xg prog 103 (.slice (some ⟨B, 0, some 0⟩) m C) (some (Zd (a : Nat))) none none K := by
  obtain ⟨us, g1⟩ := M.outer
  have hv : view h B = some ((List.range m).map w ++ us, 47, false) := by simp [view, g1, Blk.view]
  have e1 : (((List.range m).map w ++ us).drop a).take (m - a) = (List.range (m - a)).map fun i => w (a + i) := by
    apply List.ext_getElem?
    intro i
    rw [List.getElem?_take]
    by_cases hi : i < m - a
    · rw [if_pos hi, List.getElem?_drop, List.getElem?_append_left (by simp; omega)]
      simp [hi, show a + i < m by omega]
    · rw [if_neg hi, List.getElem?_eq_none (by simp; omega)]
  have key : ∀ v, v = .slice (some ⟨B, a, some 0⟩) (m - a) (C - a) → K v := fun v hv' => hk v (.inr ⟨B, a, some 0, C - a, _, _, _, by rw [hv']; simp, by simp; omega, hv, by simp only [List.length_map, List.length_range]; exact e1⟩)
  simp only [Xg, el_103, esz_47, bnd]
  refine ⟨by omega, by omega, by omega, fun h0 => by simp at h0, fun _ => ?_⟩
  rcases Nat.eq_zero_or_pos a with h0 | h0
  · subst h0
    exact .inl ⟨rfl, key _ (by simp)⟩
  · refine .inr ⟨by omega, .inl ⟨by omega, by decide, key _ ?_⟩⟩
    have e2 : ((m : Int) - (a : Int)).toNat = m - a := by omega
    have e3 : C - ((a : Int)).toNat = C - a := by omega
    simp [e2]
end

/-- The first one, as a number; less than 0: there is none. -/
def fstI (n : Nat) (F : Nat → Bool) : Int := match (List.range n).find? F with | some i => (i : Int) | none => -1

theorem s111_callW [Tabs Try.prog] {args : List Value} {h : Zh} {Q : Value → Zh → Prop} (hsz : args.length ≤ 19) (hk : AWS Try.prog 19 s111 (Zu Try.prog [.tmp 4] Q) (Zp 0 args) h) : ACall Try.prog 111 args h Q :=
  Yv Try.func111 rfl (enters_of Try.func111 (by kernel_rfl) rfl) rfl rfl (by decide) s111_strip s111_ok hsz hk
theorem idxRow_call [Tabs prog] {h : Zh} {v : Value} {ws : List Value} {g : FuncId} {cap : Array Value} {F : Nat → Bool} (hv : ValSl h v ws) (hl : ws.length < 9223372036854775808)
    (hc : ∀ i, i < ws.length → Xm prog g ([ws.getD i undef] ++ cap.toList) h (.bool (F i))) : Xm prog 111 [v, .func (.func g) #[] cap] h (Zd (fstI ws.length F)) := by
  refine s111_callW (by simp) ?_
  simp only [s111]
  refine Ze fun N1 hN1 => ?_
  simp (maxSteps := 2000000) only [↓Za, ↓Zb, ↓Zc, vup, cond_false, aop, Zg, Zp, ev, sput, Zf, Nat.reduceBEq, Nat.reduceAdd]
  refine hN1 [(0, v), (1, .func (.func g) #[] cap), (4, .int .i64 0)] _ _ ?_ (by simp (maxSteps := 2000000) only [vup, cond_true, cond_false, Nat.reduceBEq])
  clear hN1
  try clear N1
  refine Zl fun Z hZ => ?_
  refine Ze fun N2 hN2 => ?_
  simp (maxSteps := 2000000) only [↓Za, ↓Zb, ↓Zc, vup, List.map_cons, List.map_nil, cond_true, cond_false, aop, Zg, ev, sput, Zf, Zk, Nat.reduceBEq, tyf, hv.len]
  refine hN2 [(0, v), (1, .func (.func g) #[] cap), (4, .int .i64 0), (6, v), (7, Zd ws.length), (8, .int .i64 0)] _ _ ?_ (by simp (maxSteps := 2000000) only [vup, cond_true, cond_false, Nat.reduceBEq])
  clear hN2
  try clear N2
  refine Zn ?_
  refine Zy fun Q hQ => ?_
  refine Xd (γ := Nat) (fun k => k ≤ ws.length ∧ ∀ i, i < k → F i = false)
    (fun k => ([(0, v), (1, .func (.func g) #[] cap), (4, .int .i64 0), (6, v), (7, Zd ws.length), (8, Zd (k : Nat))], h)) (fun k => ws.length - k) 0 ⟨Nat.zero_le _, fun i hi => by omega⟩ (by simp (maxSteps := 2000000) only [vup, cond_true, cond_false, Nat.reduceBEq, Int.natCast_zero]) rfl ?_
  rintro k ⟨hk, hall⟩
  refine Zy fun Q2 hQ2 => ?_
  simp only [l111_0]
  by_cases hin : (k : Int) < ws.length
  · have hk' : k < ws.length := by omega
    refine Ze fun N3 hN3 => ?_
    simp (maxSteps := 2000000) only [↓Za, ↓Zb, ↓Zc, vup, cond_true, cond_false, aop, Zg, ev, sput, Zf, Yk, Yl, Nat.reduceBEq, hin]
    refine hN3 [(0, v), (1, .func (.func g) #[] cap), (4, .int .i64 0), (6, v), (7, Zd ws.length), (8, Zd (k : Nat)), (9, .bool true)] _ _ ?_ (by simp (maxSteps := 2000000) only [vup, cond_true, cond_false, Nat.reduceBEq])
    clear hN3
    try clear N3
    refine Ze fun N4 hN4 => ?_
    simp (maxSteps := 2000000) only [↓Zs, ↓vdn, vup, cond_true, cond_false, Zg, ev, Nat.reduceBEq]
    refine hN4 [(0, v), (1, .func (.func g) #[] cap), (4, .int .i64 0), (6, v), (7, Zd ws.length), (8, Zd (k : Nat))] _ _ ?_ (by simp (maxSteps := 2000000) only [vup, cond_true, cond_false, Nat.reduceBEq])
    clear hN4
    try clear N4
    refine Zl fun B hB => ?_
    refine Zn ?_
    refine Ze fun N5 hN5 => ?_
    simp (maxSteps := 2000000) only [↓Za, ↓Zb, ↓Zc, vup, cond_true, cond_false, aop, Zg, ev, sput, Zf, Nat.reduceBEq]
    refine hN5 [(0, v), (1, .func (.func g) #[] cap), (4, .int .i64 0), (5, Zd (k : Nat)), (6, v), (7, Zd ws.length), (8, Zd (k : Nat))] _ _ ?_ (by simp (maxSteps := 2000000) only [vup, cond_true, cond_false, Nat.reduceBEq])
    clear hN5
    try clear N5
    refine Ze fun N6 hN6 => ?_
    simp (maxSteps := 2000000) only [↓Za, ↓Zb, ↓Zc, vup, List.map_cons, List.map_nil, cond_true, cond_false, aop, Zg, ev, sput, Zf, Nat.reduceBEq, hv.idx el_103 esz_47 hk', hv.load shp_47 hk', Yr, List.nil_append]
    refine (hc k hk').mono ?_
    rintro _ h ⟨rfl, rfl⟩
    refine hN6 [(0, v), (1, .func (.func g) #[] cap), (4, .int .i64 0), (5, Zd (k : Nat)), (6, v), (7, Zd ws.length), (8, Zd (k : Nat)), (16, .bool (F k))] _ _ ?_ (by simp (maxSteps := 2000000) only [vup, cond_true, cond_false, Nat.reduceBEq])
    clear hN6
    try clear N6
    refine Zi ?_
    cases hf : F k with
    | true =>
      simp (maxSteps := 2000000) only [↓Za, ↓Zw, ↓Zz, ↓Zb, ↓Zc, ↓vdn, vup, cond_true, cond_false, aop, Zg, Zo, ev, sput, Zf, Nat.reduceBEq]
      refine hQ2 _ _ _ (hQ _ _ _ ?_)
      have e : fstI ws.length F = (k : Int) := by rw [fstI, find_spec hk' hf hall]
      simp (maxSteps := 2000000) only [vup, cond_true, cond_false, Zg, Zo, Nat.reduceBEq, Zu, Xx, tup, e]
    | false =>
      simp (maxSteps := 2000000) only [↓Zs, ↓vdn, vup, cond_true, cond_false, Zg, Zo, ev, Nat.reduceBEq]
      refine hB [(0, v), (1, .func (.func g) #[] cap), (4, .int .i64 0), (6, v), (7, Zd ws.length), (8, Zd (k : Nat))] _ _ ?_ (by simp (maxSteps := 2000000) only [vup, cond_true, cond_false, Nat.reduceBEq])
      clear hB
      try clear B
      refine Zi ?_
      simp (maxSteps := 2000000) only [↓Za, ↓Zb, ↓Zc, vup, cond_true, cond_false, aop, ev, sput, Zf, Yk, Yl, Nat.reduceBEq, add1 (show k < 9223372036854775807 by omega)]
      refine hQ2 _ _ _ ⟨k + 1, ⟨hk', fun i hi => ?_⟩, by omega, by simp (maxSteps := 2000000) only [vup, cond_true, cond_false, Nat.reduceBEq], rfl⟩
      rcases Nat.lt_or_ge i k with h1 | h1
      · exact hall i h1
      · rw [show i = k by omega]; exact hf
  · obtain rfl : k = ws.length := by omega
    refine Ze fun N7 hN7 => ?_
    simp (maxSteps := 2000000) only [↓Za, ↓Zb, ↓Zc, vup, cond_true, cond_false, aop, Zg, ev, sput, Zf, Yk, Yl, Nat.reduceBEq, hin]
    refine hN7 [(0, v), (1, .func (.func g) #[] cap), (4, .int .i64 0), (6, v), (7, Zd ws.length), (8, Zd ws.length), (9, .bool false)] _ _ ?_ (by simp (maxSteps := 2000000) only [vup, cond_true, cond_false, Nat.reduceBEq])
    clear hN7
    try clear N7
    refine Ze fun N8 hN8 => ?_
    simp (maxSteps := 2000000) only [↓Xl, ↓vdn, vup, cond_true, cond_false, Zg, ev, Nat.reduceBEq]
    refine hQ2 _ _ _ (hQ _ _ _ ?_)
    simp (maxSteps := 2000000) only [Zg, Zo, Zu, if_true]
    refine hZ [(0, v), (1, .func (.func g) #[] cap), (4, .int .i64 0), (6, v), (7, Zd ws.length), (8, Zd ws.length), (9, .bool false)] _ _ ?_ (by simp (maxSteps := 2000000) only [vup, cond_true, cond_false, Nat.reduceBEq])
    clear hZ
    try clear Z
    refine Zi ?_
    have e : fstI ws.length F = -1 := by rw [fstI, find_none hall]
    simp (maxSteps := 2000000) only [↓Za, ↓Zw, ↓Zz, ↓Zb, ↓Zc, vup, cond_true, cond_false, aop, Zg, ev, sput, Zf, Nat.reduceBEq, Zu, Xx, tup, e]

theorem s112_callW [Tabs Try.prog] {args : List Value} {h : Zh} {Q : Value → Zh → Prop} (hsz : args.length ≤ 10) (hk : AWS Try.prog 10 s112 (Zu Try.prog [.tmp 3] Q) (Zp 0 args) h) : ACall Try.prog 112 args h Q :=
  Yv Try.func112 rfl (enters_of Try.func112 (by kernel_rfl) rfl) rfl rfl (by decide) s112_strip s112_ok hsz hk
theorem nonzero_call [Tabs prog] {h : Zh} {B m k b a i : Nat} {w : Nat → Value} {bk : Nat → Nat} {T : Xv} (M : Mat h B m k w bk T) (hb : h[b]? = some (.cells [Zd (a : Nat)] 3 false)) (hi : i < m) (ha : a ≤ k) :
    Xm prog 112 [w i, .pointer (some ⟨b, 0, none⟩)] h (.bool (decide (T i a ≠ 0))) := by
  refine s112_callW (by simp) ?_
  refine Zi ?_
  have e : (((T i a).num) != 0) = decide (T i a ≠ 0) := by
    rw [Bool.eq_iff_iff]
    simp [Rat.num_eq_zero]
  simp (maxSteps := 2000000) only [s112, ↓Za, ↓Zw, ↓Zz, ↓Zb, ↓Zc, vup, cond_true, cond_false, aop, Zg, Zp, ev, sput, Zf, Yk, Yl, Nat.reduceBEq, Nat.reduceAdd, Zu, Xx, tup, tyf, load1 hb shp_3, M.idxR hi ha, fA0o, M.loadN hi ha, e]
end Go.Proofs.Try.Am

namespace Go.Proofs.Try.Am
open Go.Am Bq
set_option maxRecDepth 100000
set_option maxHeartbeats 1000000

theorem findP_fst (m a : Nat) (T : Xv) (ha : a ≤ m) : match findP m a T with | none => fstI (m - a) (fun i => decide (T (a + i) a ≠ 0)) = -1 | some p => a ≤ p ∧ p < m ∧ fstI (m - a) (fun i => decide (T (a + i) a ≠ 0)) = ((p - a : Nat) : Int) := by
  cases hf : findP m a T with
  | none =>
    simp only
    rw [fstI, find_none]
    intro i hi
    rw [findP, List.find?_eq_none] at hf
    have := hf (a + i) (List.mem_range.2 (by omega))
    simpa using this
  | some p =>
    obtain ⟨h1, h2, h3, h4⟩ := findP_some hf
    simp only
    refine ⟨h2, h1, ?_⟩
    rw [fstI, find_spec (k := p - a) (by omega) (by simp only [show a + (p - a) = p by omega]; simpa using h3) (fun i hi => by simpa using h4 (a + i) (by omega) (by omega))]

/-- A row divided, the first places. -/
def normTo (a c : Nat) (T : Xv) : Xv := fun i d => if i = a ∧ d < c then T a d / T a a else T i d
theorem normTo_zero (a : Nat) (T : Xv) : normTo a 0 T = T := by funext i d; simp [normTo]
theorem normTo_at (a c : Nat) (T : Xv) : normTo a c T a c = T a c := by simp [normTo]
theorem normTo_succ (a c : Nat) (T : Xv) : upd (normTo a c T) a c (T a c / T a a) = normTo a (c + 1) T := by
  funext i d
  simp only [upd, normTo]
  by_cases h1 : i = a
  · subst h1
    by_cases h2 : d = c
    · subst h2; simp
    · by_cases h3 : d < c
      · simp [h2, h3, show d < c + 1 by omega]
      · simp [h2, h3, show ¬ d < c + 1 by omega]
  · simp [h1]
theorem normTo_all {a k i d : Nat} (T : Xv) (hd : d ≤ k) : normTo a (k + 1) T i d = normT a T i d := by
  simp only [normTo, normT]
  by_cases h1 : i = a
  · simp [h1, show d < k + 1 by omega]
  · simp [h1]
/-- Rows cleared, the first ones; the next one in part. -/
def Xo (a r : Nat) (T : Xv) : Xv := fun i d => if i < r ∧ i ≠ a then T i d - T i a * T a d else T i d
def elimTo (a i c : Nat) (T : Xv) : Xv := fun i' d => if i' = i ∧ d < c then T i d - T i a * T a d else T i' d
theorem elimRows_zero (a : Nat) (T : Xv) : Xo a 0 T = T := by funext i d; simp [Xo]
theorem elimTo_zero (a i : Nat) (T : Xv) : elimTo a i 0 T = T := by funext i' d; simp [elimTo]
theorem elimTo_at (a i c : Nat) (T : Xv) : elimTo a i c T i c = T i c := by simp [elimTo]
theorem elimTo_other {a i c i' : Nat} (T : Xv) (h : i' ≠ i) (d : Nat) : elimTo a i c T i' d = T i' d := by simp [elimTo, h]
theorem elimTo_succ (a i c : Nat) (T : Xv) : upd (elimTo a i c T) i c (T i c - T i a * T a c) = elimTo a i (c + 1) T := by
  funext i' d
  simp only [upd, elimTo]
  by_cases h1 : i' = i
  · subst h1
    by_cases h2 : d = c
    · subst h2; simp
    · by_cases h3 : d < c
      · simp [h2, h3, show d < c + 1 by omega]
      · simp [h2, h3, show ¬ d < c + 1 by omega]
  · simp [h1]
theorem elimRows_row (a r : Nat) (T : Xv) : Xo a r T r = T r ∧ Xo a r T a = T a := by
  constructor <;> (funext d; simp [Xo])
theorem elimRows_next {a r k : Nat} (T : Xv) (h : r ≠ a) {i d : Nat} (hd : d ≤ k) : elimTo a r (k + 1) (Xo a r T) i d = Xo a (r + 1) T i d := by
  obtain ⟨e1, e2⟩ := elimRows_row a r T
  simp only [elimTo, e1, e2]
  by_cases h1 : i = r
  · subst h1; simp [Xo, h, show d < k + 1 by omega]
  · simp only [h1, false_and, if_false, Xo]
    by_cases h2 : i < r
    · simp [h2, show i < r + 1 by omega]
    · simp [h2, show ¬ i < r + 1 by omega]
theorem elimRows_skip {a r : Nat} (T : Xv) (h : r = a ∨ T r a = 0) (i d : Nat) : Xo a r T i d = Xo a (r + 1) T i d := by
  simp only [Xo]
  by_cases h1 : i = r
  · subst h1
    rcases h with h | h
    · simp [h]
    · by_cases h3 : i = a
      · simp [h3]
      · simp only [Nat.lt_irrefl, false_and, if_false, show i < i + 1 by omega, true_and, ne_eq, h3, not_false_eq_true, if_true, h]
        grind
  · by_cases h2 : i < r
    · simp [h2, show i < r + 1 by omega]
    · simp [h2, show ¬ i < r + 1 by omega]
theorem elimRows_all {a m i d : Nat} (T : Xv) (hi : i < m) : Xo a m T i d = elimT a T i d := by
  simp only [Xo, elimT]
  by_cases h : i = a
  · simp [h]
  · simp [h, hi]

/-- What is taken away fits. -/
theorem clear_fits [Tabs prog] {D0 D1 : Nat} {x0 x1 x2 : Int} {p f r : Rat} (h0 : Rp D0 x0 p) (h1 : Rp D0 x1 f) (h2 : Rp D1 x2 r) (hD0 : D0 ≤ 1073741824) (hD1 : D1 ≤ 1073741824) (b0 : x0.natAbs ≤ 1073741824) (b1 : x1.natAbs ≤ 1073741824) (b2 : x2.natAbs ≤ 1073741824) (h : Zh) :
    Xm prog 72 [qV f, qV r] h (qV (f * r)) ∧ Xm prog 71 [qV p, Zd (-1), qV (f * r)] h (qV (p - f * r)) := by
  have hDD : D0 * D1 ≤ 1152921504606846976 := Nat.le_trans (Nat.mul_le_mul hD0 hD1) (by decide)
  have hxx : (x1 * x2).natAbs ≤ 1152921504606846976 := by rw [Int.natAbs_mul]; exact Nat.le_trans (Nat.mul_le_mul b1 b2) (by decide)
  have hm := h1.mul h2
  have hx0 : (x0 * (D1 : Int)).natAbs ≤ 1152921504606846976 := by rw [Int.natAbs_mul, Int.natAbs_natCast]; exact Nat.le_trans (Nat.mul_le_mul b0 hD1) (by decide)
  have f1 : Fits f := ⟨by have := h1.le; omega, by have := h1.den_le; omega⟩
  have f2 : Fits r := ⟨by have := h2.le; omega, by have := h2.den_le; omega⟩
  have f3 : Fits (f * r) := ⟨by have := hm.le; omega, by have := hm.den_le; omega⟩
  refine ⟨times_call f1 f2 f3, ?_⟩
  have := plus_call (h := h) (k := -1) (h0.up D1 h2.pos) hm (by omega) (by omega)
  rwa [show p + ((-1 : Int) : Rat) * (f * r) = p - f * r by rw [show (((-1 : Int)) : Rat) = -1 from rfl]; grind] at this
theorem tame_fits {m k : Nat} {T : Xv} (h : Tame m k T) {i c : Nat} (hi : i < m) (hc : c ≤ k) : Fits (T i c) := by
  obtain ⟨D, h1, h2, h3⟩ := h
  obtain ⟨x, g1, g2⟩ := h3 i c hi hc
  exact ⟨by have := g1.le; omega, by have := g1.den_le; omega⟩

/-- What a solution may touch. -/
def Tch (B m : Nat) (bk : Nat → Nat) (b : Nat) : Prop := b = B ∨ ∃ i, i < m ∧ b = bk i
theorem Ext.fresh {S : Nat → Prop} {h h1 h2 : Zh} (hE : Ext S h h1) (hn : Ext (fun b => h.length ≤ b ∨ S b) h1 h2) : Ext S h h2 := by
  refine ⟨Nat.le_trans hE.1 hn.1, fun i hi hs => ?_⟩
  rw [hn.2 i (Nat.lt_of_lt_of_le hi hE.1) (by rintro (h3 | h3); omega; exact hs h3)]
  exact hE.2 i hi hs

set_option maxHeartbeats 4000000
/-- The rows from one on, or none. -/
theorem Mat.tail2 {h : Zh} {B m k C : Nat} {w : Nat → Value} {bk : Nat → Nat} {T : Xv} (M : Mat h B m k w bk T) {a : Nat} (ha : a ≤ m) (hm1 : 1 ≤ m) (hC : m ≤ C) {K : Value → Prop}
    (hk : ∀ v, (∀ K : Value → Prop, lenK v K = K (Zd ((m - a : Nat) : Int))) → (∀ i, i < m - a → ∀ K : Value → Prop, Xc prog 103 v (Zd (i : Nat)) K = K (Vj v 1 i)) → (∀ i, i < m - a → ∀ K : Value → Prop, Xu prog h 47 (Vj v 1 i) K = K (w (a + i))) → K v) :
    Xg prog 103 (.slice (some ⟨B, 0, some 0⟩) m C) (some (Zd (a : Nat))) none none K := by
  rcases Nat.lt_or_ge a m with h1 | h1
  · refine M.tail h1 hC fun v hv => ?_
    have hlen : ((List.range (m - a)).map fun i => w (a + i)).length = m - a := by simp
    refine hk v (fun K => by rw [hv.len, hlen]) (fun i hi K => hv.idx el_103 esz_47 (by rw [hlen]; exact hi) K) fun i hi K => ?_
    rw [hv.load shp_47 (by rw [hlen]; exact hi)]
    simp [List.getD, hi]
  · obtain rfl : a = m := by omega
    have key : K void := hk void (fun K => by rw [Nat.sub_self]; rfl) (fun i hi => by omega) (fun i hi => by omega)
    simp only [Xg, el_103, esz_47, bnd]
    exact ⟨by omega, by omega, by omega, fun h0 => by simp at h0, fun _ => .inr ⟨by omega, .inr ⟨trivial, key⟩⟩⟩
theorem s87_callW [Tabs Try.prog] {args : List Value} {h : Zh} {Q : Value → Zh → Prop} (hsz : args.length ≤ 176) (hk : AWS Try.prog 176 s87 (Zu Try.prog [.tmp 4, .tmp 5] Q) (Zp 0 args) h) : ACall Try.prog 87 args h Q :=
  Yv Try.func87 rfl (enters_of Try.func87 (by kernel_rfl) rfl) rfl rfl (by decide) s87_strip s87_ok hsz hk
theorem solve_call [Tabs prog] {h : Zh} {B m k C : Nat} {w0 : Nat → Value} {bk0 : Nat → Nat} {T0 : Xv} (M0 : Mat h B m k w0 bk0 T0) (hC : m ≤ C) (hm1 : 1 ≤ m) (hm : m ≤ 100) (hk1 : 1 ≤ k) (hk : k ≤ 100)
    (htame : ∀ j S, j ≤ k → Xk m T0 j = some S → Tame m k S) :
    ACall prog 87 [.slice (some ⟨B, 0, some 0⟩) m C, Zd (k : Nat)] h fun r h' => Ext (Tch B m bk0) h h' ∧ ∃ x ok, r = .tuple #[x, .bool ok] ∧
      (match Wz m k T0 with | none => ok = false ∧ x = .slice none 0 0 | some xs => ok = true ∧ OwnP 26 h' x (xs.map ofQ) ∧ ∀ b, Yf x = some b → h.length ≤ b) := by
  refine s87_callW (by simp) ?_
  simp only [s87]
  refine Ze fun N1 hN1 => ?_
  simp (maxSteps := 2000000) only [↓Za, ↓Zb, ↓Zc, vup, cond_false, aop, Zg, Zp, ev, sput, Zf, Nat.reduceBEq, Nat.reduceAdd]
  refine hN1 [(0, .slice (some ⟨B, 0, some 0⟩) m C), (1, Zd (k : Nat)), (4, .slice none 0 0), (5, .bool false)] _ _ ?_ (by simp (maxSteps := 2000000) only [vup, cond_true, cond_false, Nat.reduceBEq])
  clear hN1
  try clear N1
  refine Ze fun N2 hN2 => ?_
  simp (maxSteps := 2000000) only [↓Za, ↓Zb, ↓Zc, vup, cond_false, aop, Zg, ev, sput, Zf, Nat.reduceBEq]
  refine hN2 [(0, .slice (some ⟨B, 0, some 0⟩) m C), (1, Zd (k : Nat)), (4, .slice none 0 0), (5, .bool false), (6, .int .i64 0)] _ _ ?_ (by simp (maxSteps := 2000000) only [vup, cond_true, cond_false, Nat.reduceBEq])
  clear hN2
  try clear N2
  refine Zl fun Z hZ => ?_
  refine Ze fun N3 hN3 => ?_
  simp (maxSteps := 2000000) only [↓Za, ↓Zb, ↓Zc, vup, cond_true, cond_false, aop, Zg, ev, sput, Zf, Nat.reduceBEq]
  refine hN3 [(0, .slice (some ⟨B, 0, some 0⟩) m C), (1, Zd (k : Nat)), (4, .slice none 0 0), (5, .bool false), (6, .int .i64 0), (18, Zd (k : Nat)), (19, .int .i64 0)] _ _ ?_ (by simp (maxSteps := 2000000) only [vup, cond_true, cond_false, Nat.reduceBEq])
  clear hN3
  try clear N3
  refine Zn ?_
  refine Zy fun Q hQ => ?_
  refine Xd (γ := Nat × Zh × (Nat → Value) × (Nat → Nat) × Xv) (fun s => s.1 ≤ k ∧ s.1 ≤ m ∧ (s.1 < k → s.1 < m) ∧ Xk m T0 s.1 = some s.2.2.2.2 ∧ Mat s.2.1 B m k s.2.2.1 s.2.2.2.1 s.2.2.2.2 ∧ Ext (Tch B m bk0) h s.2.1 ∧ ∀ i, i < m → Tch B m bk0 (s.2.2.2.1 i))
    (fun s => ([(0, .slice (some ⟨B, 0, some 0⟩) m C), (1, Zd (k : Nat)), (4, .slice none 0 0), (5, .bool false), (6, Zd (s.1 : Nat)), (18, Zd (k : Nat)), (19, Zd (s.1 : Nat))], s.2.1)) (fun s => k - s.1) (0, h, w0, bk0, T0) ⟨Nat.zero_le _, Nat.zero_le _, fun _ => hm1, rfl, M0, Ext.refl _ _, fun i hi => .inr ⟨i, hi, rfl⟩⟩ (by simp (maxSteps := 2000000) only [vup, cond_true, cond_false, Nat.reduceBEq, Int.natCast_zero]) rfl ?_
  rintro ⟨j, hp, w, bk, T⟩ ⟨hj, hjm, hjkm, hrun, M, hE, hS⟩
  simp only at hj hjm hjkm hrun M hE hS
  refine Zy fun Q2 hQ2 => ?_
  simp only [l87_3]
  by_cases hin : (j : Int) < k
  · have hjk : j < k := by omega
    have hjm' : j < m := hjkm hjk
    have hBh : h.length ≤ hp.length := hE.1
    refine Ze fun N4 hN4 => ?_
    simp (maxSteps := 2000000) only [↓Za, ↓Zb, ↓Zc, vup, cond_true, cond_false, aop, Zg, ev, sput, Zf, Yk, Yl, Nat.reduceBEq, hin]
    refine hN4 [(0, .slice (some ⟨B, 0, some 0⟩) m C), (1, Zd (k : Nat)), (4, .slice none 0 0), (5, .bool false), (6, Zd (j : Nat)), (18, Zd (k : Nat)), (19, Zd (j : Nat)), (20, .bool true)] _ _ ?_ (by simp (maxSteps := 2000000) only [vup, cond_true, cond_false, Nat.reduceBEq])
    clear hN4
    try clear N4
    refine Ze fun N5 hN5 => ?_
    simp (maxSteps := 2000000) only [↓Zs, ↓vdn, vup, cond_true, cond_false, Zg, ev, Nat.reduceBEq]
    refine hN5 [(0, .slice (some ⟨B, 0, some 0⟩) m C), (1, Zd (k : Nat)), (4, .slice none 0 0), (5, .bool false), (6, Zd (j : Nat)), (18, Zd (k : Nat)), (19, Zd (j : Nat))] _ _ ?_ (by simp (maxSteps := 2000000) only [vup, cond_true, cond_false, Nat.reduceBEq])
    clear hN5
    try clear N5
    refine Zl fun Y hY => ?_
    refine Zn ?_
    -- the column's number
    obtain ⟨H1, hH1⟩ : ∃ H1, H1 = hp ++ [Blk.cells [Zd (j : Nat)] 3 false] := ⟨_, rfl⟩
    have b7 : H1[hp.length]? = some (.cells [Zd (j : Nat)] 3 false) := by rw [hH1]; exact Yh _ _
    have M1 : Mat H1 B m k w bk T := by rw [hH1]; exact M.ext (Ext.app _ _ _)
    have hE1 : Ext (Tch B m bk0) h H1 := by rw [hH1]; exact hE.trans (Ext.app _ _ _)
    have hH1l : H1.length = hp.length + 1 := by rw [hH1]; simp
    refine Ze fun N6 hN6 => ?_
    simp (maxSteps := 2000000) only [↓Za, ↓Zb, ↓Zc, vup, cond_true, cond_false, aop, Zg, ev, sput, Zf, Nat.reduceBEq, tyf, Xn, Yx, store1 (v' := Zd (j : Nat)) (Yh hp (.cells [.int .i64 0] 3 false)) shp_3 rfl, Xy]
    rw [← hH1]
    refine hN6 [(0, .slice (some ⟨B, 0, some 0⟩) m C), (1, Zd (k : Nat)), (4, .slice none 0 0), (5, .bool false), (6, Zd (j : Nat)), (7, .pointer (some ⟨hp.length, 0, none⟩)), (18, Zd (k : Nat)), (19, Zd (j : Nat))] _ _ ?_ (by simp (maxSteps := 2000000) only [vup, cond_true, cond_false, Nat.reduceBEq])
    clear hN6
    try clear N6
    -- the first row with a number there
    have hfst := findP_fst m j T hjm
    refine Ze fun N7 hN7 => ?_
    simp (maxSteps := 2000000) only [↓Za, ↓Zb, ↓Zc, vup, List.map_cons, List.map_nil, cond_true, cond_false, aop, Zg, ev, sput, Zf, Nat.reduceBEq, Option.map_some, Option.map_none]
    refine M1.tail hjm' hC fun v hv => ?_
    have ix := idxRow_call (F := fun i => decide (T (j + i) j ≠ 0)) (g := 112) (cap := #[.pointer (some ⟨hp.length, 0, none⟩)]) hv (by simp; omega) (fun i hi => by
      simp only [List.length_map, List.length_range] at hi
      have e : ((List.range (m - j)).map fun i => w (j + i)).getD i undef = w (j + i) := by simp [List.getD, hi]
      rw [e]
      exact nonzero_call M1 b7 (by omega) (by omega))
    rw [List.length_map, List.length_range] at ix
    simp (maxSteps := 2000000) only [vup, List.map_cons, List.map_nil, cond_true, cond_false, ev, Nat.reduceBEq, Yr, List.nil_append, List.append_nil, List.map_toArray]
    refine (ix).mono ?_
    rintro _ H1 ⟨rfl, rfl⟩
    refine hN7 [(0, .slice (some ⟨B, 0, some 0⟩) m C), (1, Zd (k : Nat)), (4, .slice none 0 0), (5, .bool false), (6, Zd (j : Nat)), (7, .pointer (some ⟨hp.length, 0, none⟩)), (8, Zd (fstI (m - j) fun i => decide (T (j + i) j ≠ 0))), (18, Zd (k : Nat)), (19, Zd (j : Nat))] _ _ ?_ (by simp (maxSteps := 2000000) only [vup, cond_true, cond_false, Nat.reduceBEq])
    clear hN7
    try clear N7
    cases hf : findP m j T with
    | none =>
      rw [hf] at hfst
      simp only at hfst
      refine Zi ?_
      simp (maxSteps := 2000000) only [↓Za, ↓Zw, ↓Zz, ↓Zb, ↓Zc, ↓vdn, vup, cond_true, cond_false, aop, Zg, Zo, ev, sput, Zf, Yk, Yl, Nat.reduceBEq, Int.reduceLT, hfst]
      refine hQ2 _ _ _ (hQ _ _ _ ?_)
      simp (maxSteps := 2000000) only [vup, cond_true, cond_false, Zg, Zo, Nat.reduceBEq, Zu, Xx, tup]
      have hs : Wz m k T0 = none := by
        have : ∀ d, Xk m T0 (j + 1 + d) = none := by
          intro d
          induction d with
          | zero =>
            show (Xk m T0 j).bind (Wp m j) = none
            rw [hrun]
            show Wp m j T = none
            rw [Wp, hf]; rfl
          | succ d ih => rw [← Nat.add_assoc, Xk, ih]; rfl
        rw [Wz, show k = j + 1 + (k - (j + 1)) by omega, this]; rfl
      rw [hs]
      exact ⟨hE1, _, _, rfl, rfl, rfl⟩
    | some p =>
      rw [hf] at hfst
      simp only at hfst
      obtain ⟨hap, hpm, hfst⟩ := hfst
      rw [hfst]
      have hpj : ¬ ((p - j : Nat) : Int) < 0 := by omega
      refine Ze fun N8 hN8 => ?_
      simp (maxSteps := 2000000) only [↓Za, ↓Zs, ↓Zw, ↓Zb, ↓Zc, ↓vdn, vup, cond_true, cond_false, aop, Zg, ev, sput, Zf, Yk, Yl, Nat.reduceBEq, hpj]
      refine hN8 [(0, .slice (some ⟨B, 0, some 0⟩) m C), (1, Zd (k : Nat)), (4, .slice none 0 0), (5, .bool false), (6, Zd (j : Nat)), (7, .pointer (some ⟨hp.length, 0, none⟩)), (8, Zd (p - j : Nat)), (18, Zd (k : Nat)), (19, Zd (j : Nat))] _ _ ?_ (by simp (maxSteps := 2000000) only [vup, cond_true, cond_false, Nat.reduceBEq])
      clear hN8
      try clear N8
      -- two rows change places
      obtain ⟨h1, H2, st1, st2, M2, hE2, hk2⟩ := M1.swap hjm' hpm
      have hb7 : hp.length ≠ B := by have := M.blt; omega
      have b7 : H2[hp.length]? = some (.cells [Zd (j : Nat)] 3 false) := by rw [hk2 _ hb7]; exact b7
      have hlen2 := Yn b7
      have hE2 : Ext (Tch B m bk0) h H2 := hE1.trans (hE2.mono fun b hb => .inl hb)
      have hS2 : ∀ i, i < m → Tch B m bk0 (swp j p bk i) := fun i hi => by
        simp only [swp]; split
        · exact hS p hpm
        · split
          · exact hS j hjm'
          · exact hS i hi
      have ajp : addV .i64 (j : Int) ((p - j : Nat) : Int) = (p : Int) := by rw [addN (by omega)]; omega
      refine Ze fun N9 hN9 => ?_
      simp only [q87_8]
      refine Wl [] (by kernel_rfl) (by kernel_rfl) (by kernel_rfl) (by kernel_rfl) ?_
      simp (maxSteps := 2000000) only [↓Xj, ↓vdn, vup, cond_true, cond_false, aop, Zg, ev, sput, Zf, Yk, Yl, Nat.reduceBEq, Nat.reduceAdd, ajp, Mat.idx j hjm', Mat.idx p hpm, M1.loadRow hpm, M1.loadRow hjm', st1, st2]
      refine hN9 [(0, .slice (some ⟨B, 0, some 0⟩) m C), (1, Zd (k : Nat)), (4, .slice none 0 0), (5, .bool false), (6, Zd (j : Nat)), (7, .pointer (some ⟨hp.length, 0, none⟩)), (18, Zd (k : Nat)), (19, Zd (j : Nat))] _ _ ?_ (by simp (maxSteps := 2000000) only [vup, cond_true, cond_false, Nat.reduceBEq])
      clear hN9
      try clear N9
      have hTp : T p j ≠ 0 := (findP_some hf).2.2.1
      have hnext : Xk m T0 (j + 1) = some (elimT j (normT j (Vd j p T))) := by
        show (Xk m T0 j).bind (Wp m j) = _
        rw [hrun]
        show Wp m j T = _
        rw [Wp, hf]; rfl
      have tame0 := htame j T hj hrun
      have tame1 := htame (j + 1) _ hjk hnext
      have hU0 : Vd j p T j j ≠ 0 := by simp only [Vd, if_true]; exact hTp
      have tameU : Tame m k (Vd j p T) := by
        obtain ⟨D, g1, g2, g3⟩ := tame0
        refine ⟨D, g1, g2, fun i c hi hc => ?_⟩
        simp only [Vd]
        split
        · exact g3 p c hpm hc
        · split
          · exact g3 j c hjm' hc
          · exact g3 i c hi hc
      clear hk2 st1 st2 h1 M1 M hE hE1 hS ix
      obtain ⟨w', hw'⟩ : ∃ w', w' = swp j p w := ⟨_, rfl⟩
      obtain ⟨bk', hbk'⟩ : ∃ w', w' = swp j p bk := ⟨_, rfl⟩
      obtain ⟨U, hU⟩ : ∃ U, U = Vd j p T := ⟨_, rfl⟩
      rw [← hw', ← hbk', ← hU] at M2
      rw [← hbk'] at hS2
      rw [← hU] at hnext tame1 hU0 tameU
      clear hw' hbk' hU
      -- what it is divided by
      obtain ⟨H3, hH3⟩ : ∃ H3, H3 = H2 ++ [fC (U j j).num (U j j).den] := ⟨_, rfl⟩
      have b9 : H3[H2.length]? = some (fC (U j j).num (U j j).den) := by rw [hH3]; exact Yh _ _
      have M3 : Mat H3 B m k w' bk' U := by rw [hH3]; exact M2.ext (Ext.app _ _ _)
      have hE3 : Ext (Tch B m bk0) h H3 := by rw [hH3]; exact hE2.trans (Ext.app _ _ _)
      have b7 : H3[hp.length]? = some (.cells [Zd (j : Nat)] 3 false) := by rw [hH3]; exact Xp b7 _
      refine Ze fun N10 hN10 => ?_
      simp only [q87_9]
      refine aw_drawE (fun _ => True) [] 7 9 [3, 4, 6] (by kernel_rfl) (by kernel_rfl) (by kernel_rfl) (by kernel_rfl) (by kernel_rfl) (by rfl) trivial ?_
      have b7' : H2[hp.length]? = some (.cells [Zd (j : Nat)] 3 false) := by
        rw [hH3, List.getElem?_append_left hlen2] at b7; exact b7
      simp (maxSteps := 2000000) only [↓dopsR_nil, ↓vdn, vup, cond_true, cond_false, aop, Zg, ev, sput, Zf, Nat.reduceBEq, Nat.reduceAdd, tyf, Mat.idx j hjm', M2.loadRow hjm', load1 b7' shp_3, M2.idxR hjm' (show j ≤ k by omega), M2.loadE hjm' (show j ≤ k by omega), Xn, Yx]
      simp only [qV, frV, Xw (Yh H2 z0) rfl, Xy]
      rw [← hH3]
      refine hN10 [(0, .slice (some ⟨B, 0, some 0⟩) m C), (1, Zd (k : Nat)), (4, .slice none 0 0), (5, .bool false), (6, Zd (j : Nat)), (7, .pointer (some ⟨hp.length, 0, none⟩)), (9, .pointer (some ⟨H2.length, 0, none⟩)), (18, Zd (k : Nat)), (19, Zd (j : Nat))] _ _ ?_ (by simp (maxSteps := 2000000) only [vup, cond_true, cond_false, Nat.reduceBEq])
      clear hN10
      try clear N10
      obtain ⟨D1, d1, d2, d3⟩ := tame1
      have hT1 : ∀ i c, elimT j (normT j U) i c = if i = j then U j c / U j j else U i c - U i j * (U j c / U j j) := fun i c => by
        simp only [elimT, normT]
        by_cases h : i = j
        · simp [h]
        · simp [h]
      have tame1 : Tame m k (elimT j (normT j U)) := ⟨D1, d1, d2, d3⟩
      have hlen3 : H2.length < H3.length := by rw [hH3]; simp
      -- the row is divided
      refine Zl fun X hX => ?_
      refine Ze fun N11 hN11 => ?_
      simp (maxSteps := 2000000) only [↓Za, ↓Zb, ↓Zc, vup, List.map_cons, List.map_nil, cond_true, cond_false, aop, Zg, ev, sput, Zf, Zk, Nat.reduceBEq, tyf, Mat.idx j hjm', M3.loadRow hjm', M3.lenR hjm']
      refine hN11 [(0, .slice (some ⟨B, 0, some 0⟩) m C), (1, Zd (k : Nat)), (4, .slice none 0 0), (5, .bool false), (6, Zd (j : Nat)), (7, .pointer (some ⟨hp.length, 0, none⟩)), (9, .pointer (some ⟨H2.length, 0, none⟩)), (18, Zd (k : Nat)), (19, Zd (j : Nat)), (58, Zd ((k + 1 : Nat) : Int)), (59, .int .i64 0)] _ _ ?_ (by simp (maxSteps := 2000000) only [vup, cond_true, cond_false, Nat.reduceBEq])
      clear hN11
      try clear N11
      refine Zn ?_
      refine Zy fun Qa hQa => ?_
      refine Xd (γ := Nat × Zh) (fun s => s.1 ≤ k + 1 ∧ Mat s.2 B m k w' bk' (normTo j s.1 U) ∧ Ext (Tch B m bk0) h s.2 ∧ s.2[hp.length]? = some (.cells [Zd (j : Nat)] 3 false) ∧ s.2[H2.length]? = some (fC (U j j).num (U j j).den))
        (fun s => ([(0, .slice (some ⟨B, 0, some 0⟩) m C), (1, Zd (k : Nat)), (4, .slice none 0 0), (5, .bool false), (6, Zd (j : Nat)), (7, .pointer (some ⟨hp.length, 0, none⟩)), (9, .pointer (some ⟨H2.length, 0, none⟩)), (18, Zd (k : Nat)), (19, Zd (j : Nat)), (58, Zd ((k + 1 : Nat) : Int)), (59, Zd (s.1 : Nat))], s.2)) (fun s => k + 1 - s.1) (0, H3) ⟨Nat.zero_le _, by simp only; rw [normTo_zero]; exact M3, hE3, b7, b9⟩ (by simp (maxSteps := 2000000) only [vup, cond_true, cond_false, Nat.reduceBEq, Int.natCast_zero]) rfl ?_
      rintro ⟨c, G⟩ ⟨hc, MG, hEG, g7, g9⟩
      simp only at hc MG hEG g7 g9
      refine Zy fun Qb hQb => ?_
      simp only [l87_0]
      by_cases hcin : (c : Int) < ((k + 1 : Nat) : Int)
      · have hc' : c ≤ k := by omega
        have ov : Xm prog 94 [qV (U j c), qV (U j j)] G (qV (U j c / U j j)) := by
          refine over_call (tame_fits tameU hjm' hc') (tame_fits tameU hjm' (by omega)) hU0 ?_
          have := tame_fits tame1 hjm' hc'
          rw [hT1, if_pos rfl] at this
          exact this
        obtain ⟨G', st, MG', hEG', hk'⟩ := MG.storeE hjm' hc' (U j c / U j j)
        rw [normTo_succ] at MG'
        refine Ze fun N12 hN12 => ?_
        simp (maxSteps := 2000000) only [↓Za, ↓Zb, ↓Zc, vup, cond_true, cond_false, aop, Zg, ev, sput, Zf, Yk, Yl, Nat.reduceBEq, hcin]
        refine hN12 [(0, .slice (some ⟨B, 0, some 0⟩) m C), (1, Zd (k : Nat)), (4, .slice none 0 0), (5, .bool false), (6, Zd (j : Nat)), (7, .pointer (some ⟨hp.length, 0, none⟩)), (9, .pointer (some ⟨H2.length, 0, none⟩)), (18, Zd (k : Nat)), (19, Zd (j : Nat)), (58, Zd ((k + 1 : Nat) : Int)), (59, Zd (c : Nat)), (60, .bool true)] _ _ ?_ (by simp (maxSteps := 2000000) only [vup, cond_true, cond_false, Nat.reduceBEq])
        clear hN12
        try clear N12
        refine Ze fun N13 hN13 => ?_
        simp (maxSteps := 2000000) only [↓Zs, ↓vdn, vup, cond_true, cond_false, Zg, ev, Nat.reduceBEq]
        refine hN13 [(0, .slice (some ⟨B, 0, some 0⟩) m C), (1, Zd (k : Nat)), (4, .slice none 0 0), (5, .bool false), (6, Zd (j : Nat)), (7, .pointer (some ⟨hp.length, 0, none⟩)), (9, .pointer (some ⟨H2.length, 0, none⟩)), (18, Zd (k : Nat)), (19, Zd (j : Nat)), (58, Zd ((k + 1 : Nat) : Int)), (59, Zd (c : Nat))] _ _ ?_ (by simp (maxSteps := 2000000) only [vup, cond_true, cond_false, Nat.reduceBEq])
        clear hN13
        try clear N13
        refine Zl fun W hW => ?_
        refine Zn ?_
        refine Ze fun N14 hN14 => ?_
        simp (maxSteps := 2000000) only [↓Za, ↓Zb, ↓Zc, vup, cond_true, cond_false, aop, Zg, ev, sput, Zf, Nat.reduceBEq]
        refine hN14 [(0, .slice (some ⟨B, 0, some 0⟩) m C), (1, Zd (k : Nat)), (4, .slice none 0 0), (5, .bool false), (6, Zd (j : Nat)), (7, .pointer (some ⟨hp.length, 0, none⟩)), (9, .pointer (some ⟨H2.length, 0, none⟩)), (10, Zd (c : Nat)), (18, Zd (k : Nat)), (19, Zd (j : Nat)), (58, Zd ((k + 1 : Nat) : Int)), (59, Zd (c : Nat))] _ _ ?_ (by simp (maxSteps := 2000000) only [vup, cond_true, cond_false, Nat.reduceBEq])
        clear hN14
        try clear N14
        refine Zi ?_
        simp only [q87_13]
        refine Wl [(13, 1)] (by kernel_rfl) (by kernel_rfl) (by kernel_rfl) (by kernel_rfl) ?_
        simp (maxSteps := 2000000) only [↓Xj, ↓vdn, vup, List.map_cons, List.map_nil, cond_true, cond_false, aop, Zg, Zo, ev, sput, Zf, Nat.reduceBEq, Nat.reduceAdd, Mat.idx j hjm', MG.loadRow hjm', MG.idxR hjm' hc', MG.loadE hjm' hc', normTo_at, Xz g9, Yr, List.nil_append, List.append_nil]
        refine ⟨_, _, ov, rfl, ?_⟩
        simp (maxSteps := 2000000) only [st]
        refine hW [(0, .slice (some ⟨B, 0, some 0⟩) m C), (1, Zd (k : Nat)), (4, .slice none 0 0), (5, .bool false), (6, Zd (j : Nat)), (7, .pointer (some ⟨hp.length, 0, none⟩)), (9, .pointer (some ⟨H2.length, 0, none⟩)), (18, Zd (k : Nat)), (19, Zd (j : Nat)), (58, Zd ((k + 1 : Nat) : Int)), (59, Zd (c : Nat))] _ _ ?_ (by simp (maxSteps := 2000000) only [vup, cond_true, cond_false, Nat.reduceBEq])
        clear hW
        try clear W
        refine Zi ?_
        simp (maxSteps := 2000000) only [↓Za, ↓Zb, ↓Zc, vup, cond_true, cond_false, aop, ev, sput, Zf, Yk, Yl, Nat.reduceBEq, add1 (show c < 9223372036854775807 by omega)]
        have hbj : bk' j < G.length := MG.lt hjm'
        have n7 : hp.length ≠ bk' j := fun he => by
          obtain ⟨cc, xs, e1, e2, e3⟩ := MG.row j hjm'
          rw [← he, g7] at e3; cases e3
        have n9 : H2.length ≠ bk' j := fun he => by
          obtain ⟨cc, xs, e1, e2, e3⟩ := MG.row j hjm'
          rw [← he, g9] at e3; cases e3
        refine hQb _ _ _ ⟨(c + 1, G'), ⟨by simp only; omega, MG', hEG.trans (hEG'.mono fun b hb => by rw [hb]; exact hS2 j hjm'), by simp only; rw [hk' _ n7]; exact g7, by simp only; rw [hk' _ n9]; exact g9⟩, by simp only; omega, by simp (maxSteps := 2000000) only [vup, cond_true, cond_false, Nat.reduceBEq], rfl⟩
      obtain rfl : c = k + 1 := by omega
      refine Ze fun N15 hN15 => ?_
      simp (maxSteps := 2000000) only [↓Za, ↓Zb, ↓Zc, vup, cond_true, cond_false, aop, Zg, ev, sput, Zf, Yk, Yl, Nat.reduceBEq, hcin]
      refine hN15 [(0, .slice (some ⟨B, 0, some 0⟩) m C), (1, Zd (k : Nat)), (4, .slice none 0 0), (5, .bool false), (6, Zd (j : Nat)), (7, .pointer (some ⟨hp.length, 0, none⟩)), (9, .pointer (some ⟨H2.length, 0, none⟩)), (18, Zd (k : Nat)), (19, Zd (j : Nat)), (58, Zd ((k + 1 : Nat) : Int)), (59, Zd ((k + 1 : Nat) : Int)), (60, .bool false)] _ _ ?_ (by simp (maxSteps := 2000000) only [vup, cond_true, cond_false, Nat.reduceBEq])
      clear hN15
      try clear N15
      refine Ze fun N16 hN16 => ?_
      simp (maxSteps := 2000000) only [↓Xl, ↓vdn, vup, cond_true, cond_false, Zg, ev, Nat.reduceBEq]
      refine hQb _ _ _ (hQa _ _ _ ?_)
      simp (maxSteps := 2000000) only [Zg, Zo, if_true]
      refine hX [(0, .slice (some ⟨B, 0, some 0⟩) m C), (1, Zd (k : Nat)), (4, .slice none 0 0), (5, .bool false), (6, Zd (j : Nat)), (7, .pointer (some ⟨hp.length, 0, none⟩)), (18, Zd (k : Nat)), (19, Zd (j : Nat)), (60, .bool false)] _ _ ?_ (by simp (maxSteps := 2000000) only [vup, cond_true, cond_false, Nat.reduceBEq])
      clear hX
      try clear X
      have MV : Mat G B m k w' bk' (normT j U) := MG.congr fun i d hi hd => normTo_all U hd
      clear MG g9 b9 b7 M3 M2 hE2 b7' hlen3
      obtain ⟨V, hV⟩ : ∃ V, V = normT j U := ⟨_, rfl⟩
      rw [← hV] at MV hnext tame1 d3
      have hVj : ∀ c, elimT j V j c = V j c := fun c => by simp [elimT]
      have hVi : ∀ i, i ≠ j → V i = U i := fun i hi => by rw [hV]; funext d; simp [normT, hi]
      -- the other rows are cleared
      refine Zl fun X hX => ?_
      refine Ze fun N17 hN17 => ?_
      simp (maxSteps := 2000000) only [↓Za, ↓Zb, ↓Zc, vup, List.map_cons, List.map_nil, cond_true, cond_false, aop, Zg, ev, sput, Zf, Zk, Nat.reduceBEq, tyf, lenK]
      refine hN17 [(0, .slice (some ⟨B, 0, some 0⟩) m C), (1, Zd (k : Nat)), (4, .slice none 0 0), (5, .bool false), (6, Zd (j : Nat)), (7, .pointer (some ⟨hp.length, 0, none⟩)), (18, Zd (k : Nat)), (19, Zd (j : Nat)), (60, .bool false), (78, .slice (some ⟨B, 0, some 0⟩) m C), (79, Zd (m : Nat)), (80, .int .i64 0)] _ _ ?_ (by simp (maxSteps := 2000000) only [vup, cond_true, cond_false, Nat.reduceBEq])
      clear hN17
      try clear N17
      refine Zn ?_
      refine Zy fun Qa hQa => ?_
      refine Xd (γ := Nat × Zh) (fun s => s.1 ≤ m ∧ Mat s.2 B m k w' bk' (Xo j s.1 V) ∧ Ext (Tch B m bk0) h s.2 ∧ s.2[hp.length]? = some (.cells [Zd (j : Nat)] 3 false))
        (fun s => ([(0, .slice (some ⟨B, 0, some 0⟩) m C), (1, Zd (k : Nat)), (4, .slice none 0 0), (5, .bool false), (6, Zd (j : Nat)), (7, .pointer (some ⟨hp.length, 0, none⟩)), (18, Zd (k : Nat)), (19, Zd (j : Nat)), (60, .bool false), (78, .slice (some ⟨B, 0, some 0⟩) m C), (79, Zd (m : Nat)), (80, Zd (s.1 : Nat))], s.2)) (fun s => m - s.1) (0, G) ⟨Nat.zero_le _, by simp only; rw [elimRows_zero]; exact MV, hEG, g7⟩ (by simp (maxSteps := 2000000) only [vup, cond_true, cond_false, Nat.reduceBEq, Int.natCast_zero]) rfl ?_
      rintro ⟨r, G1⟩ ⟨hr, MR, hER, r7⟩
      simp only at hr MR hER r7
      refine Zy fun Qb hQb => ?_
      simp only [l87_2]
      by_cases hrin : (r : Int) < (m : Int)
      · have hr' : r < m := by omega
        obtain ⟨er1, er2⟩ := elimRows_row j r V
        refine Ze fun N18 hN18 => ?_
        simp (maxSteps := 2000000) only [↓Za, ↓Zb, ↓Zc, vup, cond_true, cond_false, aop, Zg, ev, sput, Zf, Yk, Yl, Nat.reduceBEq, hrin]
        refine hN18 [(0, .slice (some ⟨B, 0, some 0⟩) m C), (1, Zd (k : Nat)), (4, .slice none 0 0), (5, .bool false), (6, Zd (j : Nat)), (7, .pointer (some ⟨hp.length, 0, none⟩)), (18, Zd (k : Nat)), (19, Zd (j : Nat)), (60, .bool false), (78, .slice (some ⟨B, 0, some 0⟩) m C), (79, Zd (m : Nat)), (80, Zd (r : Nat)), (81, .bool true)] _ _ ?_ (by simp (maxSteps := 2000000) only [vup, cond_true, cond_false, Nat.reduceBEq])
        clear hN18
        try clear N18
        refine Ze fun N19 hN19 => ?_
        simp (maxSteps := 2000000) only [↓Zs, ↓vdn, vup, cond_true, cond_false, Zg, ev, Nat.reduceBEq]
        refine hN19 [(0, .slice (some ⟨B, 0, some 0⟩) m C), (1, Zd (k : Nat)), (4, .slice none 0 0), (5, .bool false), (6, Zd (j : Nat)), (7, .pointer (some ⟨hp.length, 0, none⟩)), (18, Zd (k : Nat)), (19, Zd (j : Nat)), (60, .bool false), (78, .slice (some ⟨B, 0, some 0⟩) m C), (79, Zd (m : Nat)), (80, Zd (r : Nat))] _ _ ?_ (by simp (maxSteps := 2000000) only [vup, cond_true, cond_false, Nat.reduceBEq])
        clear hN19
        try clear N19
        refine Zl fun W hW => ?_
        refine Zn ?_
        refine Ze fun N20 hN20 => ?_
        simp (maxSteps := 2000000) only [↓Za, ↓Zb, ↓Zc, vup, cond_true, cond_false, aop, Zg, ev, sput, Zf, Nat.reduceBEq]
        refine hN20 [(0, .slice (some ⟨B, 0, some 0⟩) m C), (1, Zd (k : Nat)), (4, .slice none 0 0), (5, .bool false), (6, Zd (j : Nat)), (7, .pointer (some ⟨hp.length, 0, none⟩)), (11, Zd (r : Nat)), (18, Zd (k : Nat)), (19, Zd (j : Nat)), (60, .bool false), (78, .slice (some ⟨B, 0, some 0⟩) m C), (79, Zd (m : Nat)), (80, Zd (r : Nat))] _ _ ?_ (by simp (maxSteps := 2000000) only [vup, cond_true, cond_false, Nat.reduceBEq])
        clear hN20
        try clear N20
        refine Ze fun N21 hN21 => ?_
        simp only [q87_18]
        refine aw_drawE (fun _ => True) [] 7 12 [3, 4, 6] (by kernel_rfl) (by kernel_rfl) (by kernel_rfl) (by kernel_rfl) (by kernel_rfl) (by rfl) trivial ?_
        simp (maxSteps := 2000000) only [↓dopsR_nil, ↓vdn, vup, cond_true, cond_false, aop, Zg, ev, sput, Zf, Nat.reduceBEq, Nat.reduceAdd, tyf, Mat.idx r hr', MR.loadRow hr', load1 r7 shp_3, MR.idxR hr' (show j ≤ k by omega), MR.loadE hr' (show j ≤ k by omega), er1, Xn, Yx]
        simp only [qV, frV, Xw (Yh G1 z0) rfl, Xy]
        obtain ⟨G2, hG2⟩ : ∃ G2, G2 = G1 ++ [fC (V r j).num (V r j).den] := ⟨_, rfl⟩
        have b12 : G2[G1.length]? = some (fC (V r j).num (V r j).den) := by rw [hG2]; exact Yh _ _
        have M2 : Mat G2 B m k w' bk' (Xo j r V) := by rw [hG2]; exact MR.ext (Ext.app _ _ _)
        have hE2 : Ext (Tch B m bk0) h G2 := by rw [hG2]; exact hER.trans (Ext.app _ _ _)
        have b7 : G2[hp.length]? = some (.cells [Zd (j : Nat)] 3 false) := by rw [hG2]; exact Xp r7 _
        rw [← hG2]
        refine hN21 [(0, .slice (some ⟨B, 0, some 0⟩) m C), (1, Zd (k : Nat)), (4, .slice none 0 0), (5, .bool false), (6, Zd (j : Nat)), (7, .pointer (some ⟨hp.length, 0, none⟩)), (11, Zd (r : Nat)), (12, .pointer (some ⟨G1.length, 0, none⟩)), (18, Zd (k : Nat)), (19, Zd (j : Nat)), (60, .bool false), (78, .slice (some ⟨B, 0, some 0⟩) m C), (79, Zd (m : Nat)), (80, Zd (r : Nat))] _ _ ?_ (by simp (maxSteps := 2000000) only [vup, cond_true, cond_false, Nat.reduceBEq])
        clear hN21
        try clear N21
        have fin : ∀ e H, Mat H B m k w' bk' (Xo j (r + 1) V) → Ext (Tch B m bk0) h H → H[hp.length]? = some (.cells [Zd (j : Nat)] 3 false) → ELe e [(0, .slice (some ⟨B, 0, some 0⟩) m C), (1, Zd (k : Nat)), (4, .slice none 0 0), (5, .bool false), (6, Zd (j : Nat)), (7, .pointer (some ⟨hp.length, 0, none⟩)), (18, Zd (k : Nat)), (19, Zd (j : Nat)), (60, .bool false), (78, .slice (some ⟨B, 0, some 0⟩) m C), (79, Zd (m : Nat)), (80, Zd (r : Nat))] → W e H := by
          intro e H f1 f2 f3 he
          refine hW _ _ _ ?_ he
          refine Zi ?_
          simp (maxSteps := 2000000) only [↓Za, ↓Zb, ↓Zc, vup, cond_true, cond_false, aop, ev, sput, Zf, Yk, Yl, Nat.reduceBEq, add1 (show r < 9223372036854775807 by omega)]
          exact hQb _ _ _ ⟨(r + 1, H), ⟨hr', f1, f2, f3⟩, by simp only; omega, by simp (maxSteps := 2000000) only [vup, cond_true, cond_false, Nat.reduceBEq], rfl⟩
        by_cases hrj : r = j
        · have hne : (((r : Nat) : Int) != ((j : Nat) : Int)) = false := by simp [hrj]
          refine Ze fun N22 hN22 => ?_
          simp (maxSteps := 2000000) only [↓Za, ↓Zb, ↓Zc, ↓vdn, vup, cond_true, cond_false, aop, Zg, ev, sput, Zf, Yk, Yl, Nat.reduceBEq, hne]
          refine hN22 [(0, .slice (some ⟨B, 0, some 0⟩) m C), (1, Zd (k : Nat)), (4, .slice none 0 0), (5, .bool false), (6, Zd (j : Nat)), (7, .pointer (some ⟨hp.length, 0, none⟩)), (11, Zd (r : Nat)), (12, .pointer (some ⟨G1.length, 0, none⟩)), (18, Zd (k : Nat)), (19, Zd (j : Nat)), (60, .bool false), (78, .slice (some ⟨B, 0, some 0⟩) m C), (79, Zd (m : Nat)), (80, Zd (r : Nat)), (97, .bool false)] _ _ ?_ (by simp (maxSteps := 2000000) only [vup, cond_true, cond_false, Nat.reduceBEq])
          clear hN22
          try clear N22
          refine Zi ?_
          simp (maxSteps := 2000000) only [↓Zs, ↓vdn, vup, cond_true, cond_false, Zg, Zo, ev, Nat.reduceBEq]
          exact fin _ _ (M2.congr fun i d _ _ => elimRows_skip V (.inl hrj) i d) hE2 b7 (by simp (maxSteps := 2000000) only [vup, cond_true, cond_false, Nat.reduceBEq])
        have hne : (((r : Nat) : Int) != ((j : Nat) : Int)) = true := by
          have : ¬ ((r : Nat) : Int) = ((j : Nat) : Int) := by omega
          simpa [bne] using this
        by_cases hf0 : V r j = 0
        · have hnz : ((V r j).num != 0) = false := by simp [hf0]
          refine Ze fun N23 hN23 => ?_
          simp (maxSteps := 2000000) only [↓Za, ↓Zb, ↓Zc, ↓vdn, vup, cond_true, cond_false, aop, Zg, ev, sput, Zf, Yk, Yl, Nat.reduceBEq, tyf, hne, fA0, loadF0 b12, hnz]
          refine hN23 [(0, .slice (some ⟨B, 0, some 0⟩) m C), (1, Zd (k : Nat)), (4, .slice none 0 0), (5, .bool false), (6, Zd (j : Nat)), (7, .pointer (some ⟨hp.length, 0, none⟩)), (11, Zd (r : Nat)), (12, .pointer (some ⟨G1.length, 0, none⟩)), (18, Zd (k : Nat)), (19, Zd (j : Nat)), (60, .bool false), (78, .slice (some ⟨B, 0, some 0⟩) m C), (79, Zd (m : Nat)), (80, Zd (r : Nat)), (97, .bool false)] _ _ ?_ (by simp (maxSteps := 2000000) only [vup, cond_true, cond_false, Nat.reduceBEq])
          clear hN23
          try clear N23
          refine Zi ?_
          simp (maxSteps := 2000000) only [↓Zs, ↓vdn, vup, cond_true, cond_false, Zg, Zo, ev, Nat.reduceBEq]
          exact fin _ _ (M2.congr fun i d _ _ => elimRows_skip V (.inr hf0) i d) hE2 b7 (by simp (maxSteps := 2000000) only [vup, cond_true, cond_false, Nat.reduceBEq])
        have hnz : ((V r j).num != 0) = true := by
          have : ¬ (V r j).num = 0 := fun hc => hf0 (Rat.num_eq_zero.1 hc)
          simpa [bne] using this
        refine Ze fun N24 hN24 => ?_
        simp (maxSteps := 2000000) only [↓Za, ↓Zb, ↓Zc, ↓vdn, vup, cond_true, cond_false, aop, Zg, ev, sput, Zf, Yk, Yl, Nat.reduceBEq, tyf, hne, fA0, loadF0 b12, hnz]
        refine hN24 [(0, .slice (some ⟨B, 0, some 0⟩) m C), (1, Zd (k : Nat)), (4, .slice none 0 0), (5, .bool false), (6, Zd (j : Nat)), (7, .pointer (some ⟨hp.length, 0, none⟩)), (11, Zd (r : Nat)), (12, .pointer (some ⟨G1.length, 0, none⟩)), (18, Zd (k : Nat)), (19, Zd (j : Nat)), (60, .bool false), (78, .slice (some ⟨B, 0, some 0⟩) m C), (79, Zd (m : Nat)), (80, Zd (r : Nat)), (97, .bool true)] _ _ ?_ (by simp (maxSteps := 2000000) only [vup, cond_true, cond_false, Nat.reduceBEq])
        clear hN24
        try clear N24
        refine Xr rfl ?_
        obtain ⟨D0, z1, z2, z3⟩ := tameU
        obtain ⟨x1, y1, y2⟩ := z3 r j hr' (by omega)
        rw [← hVi r hrj] at y1
        refine Ze fun N25 hN25 => ?_
        simp (maxSteps := 2000000) only [↓Za, ↓Zb, ↓Zc, vup, List.map_cons, List.map_nil, cond_true, cond_false, aop, Zg, ev, sput, Zf, Zk, Nat.reduceBEq, tyf, Mat.idx r hr', M2.loadRow hr', M2.lenR hr']
        refine hN25 [(0, .slice (some ⟨B, 0, some 0⟩) m C), (1, Zd (k : Nat)), (4, .slice none 0 0), (5, .bool false), (6, Zd (j : Nat)), (7, .pointer (some ⟨hp.length, 0, none⟩)), (11, Zd (r : Nat)), (12, .pointer (some ⟨G1.length, 0, none⟩)), (18, Zd (k : Nat)), (19, Zd (j : Nat)), (60, .bool false), (78, .slice (some ⟨B, 0, some 0⟩) m C), (79, Zd (m : Nat)), (80, Zd (r : Nat)), (102, Zd ((k + 1 : Nat) : Int)), (103, .int .i64 0)] _ _ ?_ (by simp (maxSteps := 2000000) only [vup, cond_true, cond_false, Nat.reduceBEq])
        clear hN25
        try clear N25
        refine Zn ?_
        refine Zy fun Qc hQc => ?_
        refine Xd (γ := Nat × Zh) (fun s => s.1 ≤ k + 1 ∧ Mat s.2 B m k w' bk' (elimTo j r s.1 (Xo j r V)) ∧ Ext (Tch B m bk0) h s.2 ∧ s.2[hp.length]? = some (.cells [Zd (j : Nat)] 3 false) ∧ s.2[G1.length]? = some (fC (V r j).num (V r j).den))
          (fun s => ([(0, .slice (some ⟨B, 0, some 0⟩) m C), (1, Zd (k : Nat)), (4, .slice none 0 0), (5, .bool false), (6, Zd (j : Nat)), (7, .pointer (some ⟨hp.length, 0, none⟩)), (11, Zd (r : Nat)), (12, .pointer (some ⟨G1.length, 0, none⟩)), (18, Zd (k : Nat)), (19, Zd (j : Nat)), (60, .bool false), (78, .slice (some ⟨B, 0, some 0⟩) m C), (79, Zd (m : Nat)), (80, Zd (r : Nat)), (102, Zd ((k + 1 : Nat) : Int)), (103, Zd (s.1 : Nat))], s.2)) (fun s => k + 1 - s.1) (0, G2) ⟨Nat.zero_le _, by simp only; rw [elimTo_zero]; exact M2, hE2, b7, b12⟩ (by simp (maxSteps := 2000000) only [vup, cond_true, cond_false, Nat.reduceBEq, Int.natCast_zero]) rfl ?_
        rintro ⟨c, G⟩ ⟨hc, MG, hEG, g7, g12⟩
        simp only at hc MG hEG g7 g12
        refine Zy fun Qd hQd => ?_
        simp only [l87_1]
        by_cases hcin : (c : Int) < ((k + 1 : Nat) : Int)
        · have hc' : c ≤ k := by omega
          obtain ⟨x0, y3, y4⟩ := z3 r c hr' hc'
          obtain ⟨x2, y5, y6⟩ := d3 j c hjm' hc'
          rw [hVj] at y5
          rw [← hVi r hrj] at y3
          obtain ⟨cl1, cl2⟩ := clear_fits y3 y1 y5 z2 d2 y4 y2 y6 G
          have e1 : elimTo j r c (Xo j r V) r c = V r c := by rw [elimTo_at, er1]
          have e2 : elimTo j r c (Xo j r V) j c = V j c := by rw [elimTo_other _ (Ne.symm hrj), er2]
          obtain ⟨G', st, MG', hEG', hk'⟩ := MG.storeE hr' hc' (V r c - V r j * V j c)
          have e3 := elimTo_succ j r c (Xo j r V)
          rw [er1, er2] at e3
          rw [e3] at MG'
          refine Ze fun N26 hN26 => ?_
          simp (maxSteps := 2000000) only [↓Za, ↓Zb, ↓Zc, vup, cond_true, cond_false, aop, Zg, ev, sput, Zf, Yk, Yl, Nat.reduceBEq, hcin]
          refine hN26 [(0, .slice (some ⟨B, 0, some 0⟩) m C), (1, Zd (k : Nat)), (4, .slice none 0 0), (5, .bool false), (6, Zd (j : Nat)), (7, .pointer (some ⟨hp.length, 0, none⟩)), (11, Zd (r : Nat)), (12, .pointer (some ⟨G1.length, 0, none⟩)), (18, Zd (k : Nat)), (19, Zd (j : Nat)), (60, .bool false), (78, .slice (some ⟨B, 0, some 0⟩) m C), (79, Zd (m : Nat)), (80, Zd (r : Nat)), (102, Zd ((k + 1 : Nat) : Int)), (103, Zd (c : Nat)), (104, .bool true)] _ _ ?_ (by simp (maxSteps := 2000000) only [vup, cond_true, cond_false, Nat.reduceBEq])
          clear hN26
          try clear N26
          refine Ze fun N27 hN27 => ?_
          simp (maxSteps := 2000000) only [↓Zs, ↓vdn, vup, cond_true, cond_false, Zg, ev, Nat.reduceBEq]
          refine hN27 [(0, .slice (some ⟨B, 0, some 0⟩) m C), (1, Zd (k : Nat)), (4, .slice none 0 0), (5, .bool false), (6, Zd (j : Nat)), (7, .pointer (some ⟨hp.length, 0, none⟩)), (11, Zd (r : Nat)), (12, .pointer (some ⟨G1.length, 0, none⟩)), (18, Zd (k : Nat)), (19, Zd (j : Nat)), (60, .bool false), (78, .slice (some ⟨B, 0, some 0⟩) m C), (79, Zd (m : Nat)), (80, Zd (r : Nat)), (102, Zd ((k + 1 : Nat) : Int)), (103, Zd (c : Nat))] _ _ ?_ (by simp (maxSteps := 2000000) only [vup, cond_true, cond_false, Nat.reduceBEq])
          clear hN27
          try clear N27
          refine Zl fun U hU => ?_
          refine Zn ?_
          refine Ze fun N28 hN28 => ?_
          simp (maxSteps := 2000000) only [↓Za, ↓Zb, ↓Zc, vup, cond_true, cond_false, aop, Zg, ev, sput, Zf, Nat.reduceBEq]
          refine hN28 [(0, .slice (some ⟨B, 0, some 0⟩) m C), (1, Zd (k : Nat)), (4, .slice none 0 0), (5, .bool false), (6, Zd (j : Nat)), (7, .pointer (some ⟨hp.length, 0, none⟩)), (11, Zd (r : Nat)), (12, .pointer (some ⟨G1.length, 0, none⟩)), (13, Zd (c : Nat)), (18, Zd (k : Nat)), (19, Zd (j : Nat)), (60, .bool false), (78, .slice (some ⟨B, 0, some 0⟩) m C), (79, Zd (m : Nat)), (80, Zd (r : Nat)), (102, Zd ((k + 1 : Nat) : Int)), (103, Zd (c : Nat))] _ _ ?_ (by simp (maxSteps := 2000000) only [vup, cond_true, cond_false, Nat.reduceBEq])
          clear hN28
          try clear N28
          refine Zi ?_
          simp only [q87_23]
          refine Wl [(20, 1), (21, 1)] (by kernel_rfl) (by kernel_rfl) (by kernel_rfl) (by kernel_rfl) ?_
          simp (maxSteps := 2000000) only [↓Xj, ↓vdn, vup, List.map_cons, List.map_nil, cond_true, cond_false, aop, Zg, Zo, ev, sput, Zf, Nat.reduceBEq, Nat.reduceAdd, Mat.idx r hr', MG.loadRow hr', MG.idxR hr' hc', MG.loadE hr' hc', e1, Xz g12, Mat.idx j hjm', MG.loadRow hjm', MG.idxR hjm' hc', MG.loadE hjm' hc', e2, Yr, List.nil_append, List.append_nil]
          refine ⟨_, _, cl1, rfl, _, _, cl2, rfl, ?_⟩
          simp (maxSteps := 2000000) only [st]
          refine hU [(0, .slice (some ⟨B, 0, some 0⟩) m C), (1, Zd (k : Nat)), (4, .slice none 0 0), (5, .bool false), (6, Zd (j : Nat)), (7, .pointer (some ⟨hp.length, 0, none⟩)), (11, Zd (r : Nat)), (12, .pointer (some ⟨G1.length, 0, none⟩)), (18, Zd (k : Nat)), (19, Zd (j : Nat)), (60, .bool false), (78, .slice (some ⟨B, 0, some 0⟩) m C), (79, Zd (m : Nat)), (80, Zd (r : Nat)), (102, Zd ((k + 1 : Nat) : Int)), (103, Zd (c : Nat))] _ _ ?_ (by simp (maxSteps := 2000000) only [vup, cond_true, cond_false, Nat.reduceBEq])
          clear hU
          try clear U
          refine Zi ?_
          simp (maxSteps := 2000000) only [↓Za, ↓Zb, ↓Zc, vup, cond_true, cond_false, aop, ev, sput, Zf, Yk, Yl, Nat.reduceBEq, add1 (show c < 9223372036854775807 by omega)]
          have n7 : hp.length ≠ bk' r := fun he => by
            obtain ⟨cc, xs, e1, e2, e3⟩ := MG.row r hr'
            rw [← he, g7] at e3; cases e3
          have n12 : G1.length ≠ bk' r := fun he => by
            obtain ⟨cc, xs, e1, e2, e3⟩ := MG.row r hr'
            rw [← he, g12] at e3; cases e3
          refine hQd _ _ _ ⟨(c + 1, G'), ⟨by simp only; omega, MG', hEG.trans (hEG'.mono fun b hb => by rw [hb]; exact hS2 r hr'), by simp only; rw [hk' _ n7]; exact g7, by simp only; rw [hk' _ n12]; exact g12⟩, by simp only; omega, by simp (maxSteps := 2000000) only [vup, cond_true, cond_false, Nat.reduceBEq], rfl⟩
        obtain rfl : c = k + 1 := by omega
        refine Ze fun N29 hN29 => ?_
        simp (maxSteps := 2000000) only [↓Za, ↓Zb, ↓Zc, vup, cond_true, cond_false, aop, Zg, ev, sput, Zf, Yk, Yl, Nat.reduceBEq, hcin]
        refine hN29 [(0, .slice (some ⟨B, 0, some 0⟩) m C), (1, Zd (k : Nat)), (4, .slice none 0 0), (5, .bool false), (6, Zd (j : Nat)), (7, .pointer (some ⟨hp.length, 0, none⟩)), (11, Zd (r : Nat)), (12, .pointer (some ⟨G1.length, 0, none⟩)), (18, Zd (k : Nat)), (19, Zd (j : Nat)), (60, .bool false), (78, .slice (some ⟨B, 0, some 0⟩) m C), (79, Zd (m : Nat)), (80, Zd (r : Nat)), (102, Zd ((k + 1 : Nat) : Int)), (103, Zd ((k + 1 : Nat) : Int)), (104, .bool false)] _ _ ?_ (by simp (maxSteps := 2000000) only [vup, cond_true, cond_false, Nat.reduceBEq])
        clear hN29
        try clear N29
        refine Ze fun N30 hN30 => ?_
        simp (maxSteps := 2000000) only [↓Xl, ↓vdn, vup, cond_true, cond_false, Zg, ev, Nat.reduceBEq]
        refine hQd _ _ _ (hQc _ _ _ ?_)
        simp (maxSteps := 2000000) only [Zg, Zo, if_true]
        exact fin _ _ (MG.congr fun i d _ hd => elimRows_next V hrj hd) hEG g7 (by simp (maxSteps := 2000000) only [vup, cond_true, cond_false, Nat.reduceBEq])
      have hrm : m = r := by omega
      subst hrm
      refine Ze fun N31 hN31 => ?_
      simp (maxSteps := 2000000) only [↓Za, ↓Zb, ↓Zc, vup, cond_true, cond_false, aop, Zg, ev, sput, Zf, Yk, Yl, Nat.reduceBEq, hrin]
      refine hN31 [(0, .slice (some ⟨B, 0, some 0⟩) m C), (1, Zd (k : Nat)), (4, .slice none 0 0), (5, .bool false), (6, Zd (j : Nat)), (7, .pointer (some ⟨hp.length, 0, none⟩)), (18, Zd (k : Nat)), (19, Zd (j : Nat)), (60, .bool false), (78, .slice (some ⟨B, 0, some 0⟩) m C), (79, Zd (m : Nat)), (80, Zd (m : Nat)), (81, .bool false)] _ _ ?_ (by simp (maxSteps := 2000000) only [vup, cond_true, cond_false, Nat.reduceBEq])
      clear hN31
      try clear N31
      refine Ze fun N32 hN32 => ?_
      simp (maxSteps := 2000000) only [↓Xl, ↓vdn, vup, cond_true, cond_false, Zg, ev, Nat.reduceBEq]
      refine hQb _ _ _ (hQa _ _ _ ?_)
      simp (maxSteps := 2000000) only [Zg, Zo, if_true]
      refine hX [(0, .slice (some ⟨B, 0, some 0⟩) m C), (1, Zd (k : Nat)), (4, .slice none 0 0), (5, .bool false), (6, Zd (j : Nat)), (7, .pointer (some ⟨hp.length, 0, none⟩)), (18, Zd (k : Nat)), (19, Zd (j : Nat)), (81, .bool false)] _ _ ?_ (by simp (maxSteps := 2000000) only [vup, cond_true, cond_false, Nat.reduceBEq])
      clear hX
      try clear X
      have MT : Mat G1 B m k w' bk' (elimT j V) := MR.congr fun i d hi _ => elimRows_all V hi
      refine Ze fun N33 hN33 => ?_
      simp (maxSteps := 2000000) only [↓Za, ↓Zb, ↓Zc, vup, cond_true, cond_false, aop, Zg, ev, sput, Zf, Yk, Yl, Nat.reduceBEq, add1 (show j < 9223372036854775807 by omega)]
      refine hN33 [(0, .slice (some ⟨B, 0, some 0⟩) m C), (1, Zd (k : Nat)), (4, .slice none 0 0), (5, .bool false), (6, Zd ((j + 1 : Nat) : Int)), (7, .pointer (some ⟨hp.length, 0, none⟩)), (18, Zd (k : Nat)), (19, Zd (j : Nat)), (81, .bool false)] _ _ ?_ (by simp (maxSteps := 2000000) only [vup, cond_true, cond_false, Nat.reduceBEq])
      clear hN33
      try clear N33
      have goOn : (j + 1 < k → j + 1 < m) → ∀ e, ELe e [(0, .slice (some ⟨B, 0, some 0⟩) m C), (1, Zd (k : Nat)), (4, .slice none 0 0), (5, .bool false), (6, Zd ((j + 1 : Nat) : Int)), (18, Zd (k : Nat)), (19, Zd (j : Nat)), (81, .bool false)] → Y e G1 := by
        intro hlt e he
        refine hY _ _ _ ?_ he
        refine Zi ?_
        simp (maxSteps := 2000000) only [↓Za, ↓Zb, ↓Zc, vup, cond_true, cond_false, aop, ev, sput, Zf, Yk, Yl, Nat.reduceBEq, add1 (show j < 9223372036854775807 by omega)]
        exact hQ2 _ _ _ ⟨(j + 1, G1, w', bk', elimT j V), ⟨hjk, hjm', hlt, hnext, MT, hER, hS2⟩, by simp only; omega, by simp (maxSteps := 2000000) only [vup, cond_true, cond_false, Nat.reduceBEq], rfl⟩
      by_cases hjm2 : j + 1 = m
      · have h1 : (((j + 1 : Nat) : Int) == ((m : Nat) : Int)) = true := by simp [hjm2]
        by_cases hjk2 : j + 1 < k
        · have h2 : (((j + 1 : Nat) : Int) < ((k : Nat) : Int)) := by omega
          refine Ze fun N34 hN34 => ?_
          simp (maxSteps := 2000000) only [↓Za, ↓Zb, ↓Zc, ↓vdn, vup, List.map_cons, List.map_nil, cond_true, cond_false, aop, Zg, ev, sput, Zf, Yk, Yl, Zk, Nat.reduceBEq, tyf, lenK, h1, load1 r7 shp_3, add1 (show j < 9223372036854775807 by omega), h2]
          refine hN34 [(0, .slice (some ⟨B, 0, some 0⟩) m C), (1, Zd (k : Nat)), (4, .slice none 0 0), (5, .bool false), (6, Zd ((j + 1 : Nat) : Int)), (7, .pointer (some ⟨hp.length, 0, none⟩)), (18, Zd (k : Nat)), (19, Zd (j : Nat)), (81, .bool false), (142, .bool true)] _ _ ?_ (by simp (maxSteps := 2000000) only [vup, cond_true, cond_false, Nat.reduceBEq])
          clear hN34
          try clear N34
          refine Zi ?_
          simp (maxSteps := 2000000) only [↓Za, ↓Zw, ↓Zz, ↓Zb, ↓Zc, ↓vdn, vup, cond_true, cond_false, aop, Zg, Zo, ev, sput, Zf, Nat.reduceBEq]
          refine hQ2 _ _ _ (hQ _ _ _ ?_)
          simp (maxSteps := 2000000) only [vup, cond_true, cond_false, Zg, Zo, Nat.reduceBEq, Zu, Xx, tup]
          have hs : Wz m k T0 = none := by
            have hfn : findP m (j + 1) (elimT j V) = none := by
              rw [findP]
              refine find_none fun i hi => ?_
              simp; omega
            have : ∀ d, Xk m T0 (j + 2 + d) = none := by
              intro d
              induction d with
              | zero =>
                show (Xk m T0 (j + 1)).bind (Wp m (j + 1)) = none
                rw [hnext]
                show Wp m (j + 1) _ = none
                rw [Wp, hfn]; rfl
              | succ d ih => rw [← Nat.add_assoc, Xk, ih]; rfl
            rw [Wz, show k = j + 2 + (k - (j + 2)) by omega, this]; rfl
          rw [hs]
          exact ⟨hER, _, _, rfl, rfl, rfl⟩
        · have h2 : ¬ (((j + 1 : Nat) : Int) < ((k : Nat) : Int)) := by omega
          refine Ze fun N35 hN35 => ?_
          simp (maxSteps := 2000000) only [↓Za, ↓Zb, ↓Zc, ↓vdn, vup, List.map_cons, List.map_nil, cond_true, cond_false, aop, Zg, ev, sput, Zf, Yk, Yl, Zk, Nat.reduceBEq, tyf, lenK, h1, load1 r7 shp_3, add1 (show j < 9223372036854775807 by omega), h2]
          refine hN35 [(0, .slice (some ⟨B, 0, some 0⟩) m C), (1, Zd (k : Nat)), (4, .slice none 0 0), (5, .bool false), (6, Zd ((j + 1 : Nat) : Int)), (7, .pointer (some ⟨hp.length, 0, none⟩)), (18, Zd (k : Nat)), (19, Zd (j : Nat)), (81, .bool false), (142, .bool false)] _ _ ?_ (by simp (maxSteps := 2000000) only [vup, cond_true, cond_false, Nat.reduceBEq])
          clear hN35
          try clear N35
          refine Zi ?_
          simp (maxSteps := 2000000) only [↓Zs, ↓vdn, vup, cond_true, cond_false, Zg, Zo, ev, Nat.reduceBEq]
          exact goOn (fun h => absurd h hjk2) _ (by simp (maxSteps := 2000000) only [vup, cond_true, cond_false, Nat.reduceBEq])
      · have h1 : (((j + 1 : Nat) : Int) == ((m : Nat) : Int)) = false := by
          have : ¬ ((j + 1 : Nat) : Int) = ((m : Nat) : Int) := by omega
          simpa using this
        refine Ze fun N36 hN36 => ?_
        simp (maxSteps := 2000000) only [↓Za, ↓Zb, ↓Zc, ↓vdn, vup, List.map_cons, List.map_nil, cond_true, cond_false, aop, Zg, ev, sput, Zf, Yk, Yl, Zk, Nat.reduceBEq, tyf, lenK, h1]
        refine hN36 [(0, .slice (some ⟨B, 0, some 0⟩) m C), (1, Zd (k : Nat)), (4, .slice none 0 0), (5, .bool false), (6, Zd ((j + 1 : Nat) : Int)), (7, .pointer (some ⟨hp.length, 0, none⟩)), (18, Zd (k : Nat)), (19, Zd (j : Nat)), (81, .bool false), (142, .bool false)] _ _ ?_ (by simp (maxSteps := 2000000) only [vup, cond_true, cond_false, Nat.reduceBEq])
        clear hN36
        try clear N36
        refine Zi ?_
        simp (maxSteps := 2000000) only [↓Zs, ↓vdn, vup, cond_true, cond_false, Zg, Zo, ev, Nat.reduceBEq]
        exact goOn (fun h => by omega) _ (by simp (maxSteps := 2000000) only [vup, cond_true, cond_false, Nat.reduceBEq])
  · have hjk : k = j := by omega
    subst hjk
    have hEl := hE.1
    refine Ze fun N37 hN37 => ?_
    simp (maxSteps := 2000000) only [↓Za, ↓Zb, ↓Zc, vup, cond_true, cond_false, aop, Zg, ev, sput, Zf, Yk, Yl, Nat.reduceBEq, hin]
    refine hN37 [(0, .slice (some ⟨B, 0, some 0⟩) m C), (1, Zd (k : Nat)), (4, .slice none 0 0), (5, .bool false), (6, Zd (k : Nat)), (18, Zd (k : Nat)), (19, Zd (k : Nat)), (20, .bool false)] _ _ ?_ (by simp (maxSteps := 2000000) only [vup, cond_true, cond_false, Nat.reduceBEq])
    clear hN37
    try clear N37
    refine Ze fun N38 hN38 => ?_
    simp (maxSteps := 2000000) only [↓Xl, ↓vdn, vup, cond_true, cond_false, Zg, ev, Nat.reduceBEq]
    refine hQ2 _ _ _ (hQ _ _ _ ?_)
    simp (maxSteps := 2000000) only [Zg, Zo, Zu, if_true]
    refine hZ [(0, .slice (some ⟨B, 0, some 0⟩) m C), (1, Zd (k : Nat)), (4, .slice none 0 0), (5, .bool false), (6, Zd (k : Nat)), (20, .bool false)] _ _ ?_ (by simp (maxSteps := 2000000) only [vup, cond_true, cond_false, Nat.reduceBEq])
    clear hZ
    try clear Z
    have hrest : ∀ S, Xk m T0 k = some S → Wz m k T0 = if restT m k S then none else some ((List.range k).map fun i => S i k) := fun S hS => by rw [Wz, hS]; rfl
    have hsol := hrest T hrun
    -- what is left
    refine Zl fun Y hY => ?_
    refine Ze fun N39 hN39 => ?_
    simp (maxSteps := 2000000) only [↓Za, ↓Zb, ↓Zc, vup, List.map_cons, List.map_nil, cond_true, cond_false, aop, Zg, ev, sput, Zf, Zk, Nat.reduceBEq, tyf, Option.map_some, Option.map_none]
    refine M.tail2 hjm hm1 hC fun v hlen hidx hload => ?_
    simp (maxSteps := 2000000) only [hlen]
    refine hN39 [(0, .slice (some ⟨B, 0, some 0⟩) m C), (1, Zd (k : Nat)), (4, .slice none 0 0), (5, .bool false), (6, Zd (k : Nat)), (20, .bool false), (146, v), (147, Zd ((m - k : Nat) : Int)), (148, .int .i64 0)] _ _ ?_ (by simp (maxSteps := 2000000) only [vup, cond_true, cond_false, Nat.reduceBEq])
    clear hN39
    try clear N39
    refine Zn ?_
    refine Zy fun Qa hQa => ?_
    refine Xd (γ := Nat) (fun r => r ≤ m - k ∧ ∀ i, i < r → T (k + i) k = 0)
      (fun r => ([(0, .slice (some ⟨B, 0, some 0⟩) m C), (1, Zd (k : Nat)), (4, .slice none 0 0), (5, .bool false), (6, Zd (k : Nat)), (20, .bool false), (146, v), (147, Zd ((m - k : Nat) : Int)), (148, Zd (r : Nat))], hp)) (fun r => m - k - r) 0 ⟨Nat.zero_le _, fun i hi => by omega⟩ (by simp (maxSteps := 2000000) only [vup, cond_true, cond_false, Nat.reduceBEq, Int.natCast_zero]) rfl ?_
    rintro r ⟨hr, hzero⟩
    refine Zy fun Qb hQb => ?_
    simp only [l87_4]
    by_cases hrin : (r : Int) < ((m - k : Nat) : Int)
    · have hr' : r < m - k := by omega
      refine Ze fun N40 hN40 => ?_
      simp (maxSteps := 2000000) only [↓Za, ↓Zb, ↓Zc, vup, cond_true, cond_false, aop, Zg, ev, sput, Zf, Yk, Yl, Nat.reduceBEq, hrin]
      refine hN40 [(0, .slice (some ⟨B, 0, some 0⟩) m C), (1, Zd (k : Nat)), (4, .slice none 0 0), (5, .bool false), (6, Zd (k : Nat)), (20, .bool false), (146, v), (147, Zd ((m - k : Nat) : Int)), (148, Zd (r : Nat)), (149, .bool true)] _ _ ?_ (by simp (maxSteps := 2000000) only [vup, cond_true, cond_false, Nat.reduceBEq])
      clear hN40
      try clear N40
      refine Ze fun N41 hN41 => ?_
      simp (maxSteps := 2000000) only [↓Zs, ↓vdn, vup, cond_true, cond_false, Zg, ev, Nat.reduceBEq]
      refine hN41 [(0, .slice (some ⟨B, 0, some 0⟩) m C), (1, Zd (k : Nat)), (4, .slice none 0 0), (5, .bool false), (6, Zd (k : Nat)), (20, .bool false), (146, v), (147, Zd ((m - k : Nat) : Int)), (148, Zd (r : Nat))] _ _ ?_ (by simp (maxSteps := 2000000) only [vup, cond_true, cond_false, Nat.reduceBEq])
      clear hN41
      try clear N41
      refine Zl fun W hW => ?_
      refine Zn ?_
      refine Ze fun N42 hN42 => ?_
      simp (maxSteps := 2000000) only [↓Za, ↓Zb, ↓Zc, vup, cond_true, cond_false, aop, Zg, ev, sput, Zf, Nat.reduceBEq, hidx r hr', hload r hr']
      refine hN42 [(0, .slice (some ⟨B, 0, some 0⟩) m C), (1, Zd (k : Nat)), (4, .slice none 0 0), (5, .bool false), (6, Zd (k : Nat)), (15, w (k + r)), (20, .bool false), (146, v), (147, Zd ((m - k : Nat) : Int)), (148, Zd (r : Nat))] _ _ ?_ (by simp (maxSteps := 2000000) only [vup, cond_true, cond_false, Nat.reduceBEq])
      clear hN42
      try clear N42
      refine Zi ?_
      by_cases hnz : T (k + r) k = 0
      · have hn : ((T (k + r) k).num != 0) = false := by simp [hnz]
        simp (maxSteps := 2000000) only [↓Za, ↓Zs, ↓Zw, ↓Zz, ↓Zb, ↓Zc, ↓vdn, vup, cond_true, cond_false, aop, Zg, Zo, ev, sput, Zf, Yk, Yl, Nat.reduceBEq, tyf, M.idxR (show k + r < m by omega) (Nat.le_refl k), fA0o, M.loadN (show k + r < m by omega) (Nat.le_refl k), hn]
        refine hW [(0, .slice (some ⟨B, 0, some 0⟩) m C), (1, Zd (k : Nat)), (4, .slice none 0 0), (5, .bool false), (6, Zd (k : Nat)), (20, .bool false), (146, v), (147, Zd ((m - k : Nat) : Int)), (148, Zd (r : Nat))] _ _ ?_ (by simp (maxSteps := 2000000) only [vup, cond_true, cond_false, Nat.reduceBEq])
        clear hW
        try clear W
        refine Zi ?_
        simp (maxSteps := 2000000) only [↓Za, ↓Zb, ↓Zc, vup, cond_true, cond_false, aop, ev, sput, Zf, Yk, Yl, Nat.reduceBEq, add1 (show r < 9223372036854775807 by omega)]
        refine hQb _ _ _ ⟨r + 1, ⟨hr', fun i hi => ?_⟩, by omega, by simp (maxSteps := 2000000) only [vup, cond_true, cond_false, Nat.reduceBEq], rfl⟩
        rcases Nat.lt_or_ge i r with h1 | h1
        · exact hzero i h1
        · rw [show i = r by omega]; exact hnz
      · have hn : ((T (k + r) k).num != 0) = true := by
          have : ¬ (T (k + r) k).num = 0 := fun hc => hnz (Rat.num_eq_zero.1 hc)
          simpa [bne] using this
        simp (maxSteps := 2000000) only [↓Za, ↓Zs, ↓Zw, ↓Zz, ↓Zb, ↓Zc, ↓vdn, vup, cond_true, cond_false, aop, Zg, Zo, ev, sput, Zf, Yk, Yl, Nat.reduceBEq, tyf, M.idxR (show k + r < m by omega) (Nat.le_refl k), fA0o, M.loadN (show k + r < m by omega) (Nat.le_refl k), hn]
        refine hQb _ _ _ (hQa _ _ _ ?_)
        simp (maxSteps := 2000000) only [vup, cond_true, cond_false, Zg, Zo, Nat.reduceBEq, Zu, Xx, tup]
        have hrt : restT m k T = true := by
          rw [restT, List.any_eq_true]
          exact ⟨k + r, List.mem_range.2 (by omega), by simp [hnz]⟩
        rw [hsol, hrt]
        exact ⟨hE, _, _, rfl, rfl, rfl⟩
    have hrm : r = m - k := by omega
    have hrt : restT m k T = false := by
      rw [restT, List.any_eq_false]
      intro i hi
      have hi' := List.mem_range.1 hi
      simp only [Bool.and_eq_true, decide_eq_true_eq, not_and, Decidable.not_not]
      intro hki
      have := hzero (i - k) (by omega)
      rwa [show k + (i - k) = i by omega] at this
    rw [hrt, if_neg (by decide)] at hsol
    refine Ze fun N43 hN43 => ?_
    simp (maxSteps := 2000000) only [↓Za, ↓Zb, ↓Zc, vup, cond_true, cond_false, aop, Zg, ev, sput, Zf, Yk, Yl, Nat.reduceBEq, hrin]
    refine hN43 [(0, .slice (some ⟨B, 0, some 0⟩) m C), (1, Zd (k : Nat)), (4, .slice none 0 0), (5, .bool false), (6, Zd (k : Nat)), (20, .bool false), (146, v), (147, Zd ((m - k : Nat) : Int)), (148, Zd (r : Nat)), (149, .bool false)] _ _ ?_ (by simp (maxSteps := 2000000) only [vup, cond_true, cond_false, Nat.reduceBEq])
    clear hN43
    try clear N43
    refine Ze fun N44 hN44 => ?_
    simp (maxSteps := 2000000) only [↓Xl, ↓vdn, vup, cond_true, cond_false, Zg, ev, Nat.reduceBEq]
    refine hQb _ _ _ (hQa _ _ _ ?_)
    simp (maxSteps := 2000000) only [Zg, Zo, Zu, if_true]
    refine hY [(0, .slice (some ⟨B, 0, some 0⟩) m C), (1, Zd (k : Nat)), (4, .slice none 0 0), (5, .bool false), (6, Zd (k : Nat)), (20, .bool false), (149, .bool false)] _ _ ?_ (by simp (maxSteps := 2000000) only [vup, cond_true, cond_false, Nat.reduceBEq])
    clear hY
    try clear Y
    -- the solution
    have hsl : ∀ K : Value → Prop, K (.slice (some ⟨B, 0, some 0⟩) k C) → Xg prog 103 (.slice (some ⟨B, 0, some 0⟩) m C) none (some (Zd (k : Nat))) none K := fun K hK => by
      simp only [Xg, el_103, esz_47, bnd]
      exact ⟨by omega, by omega, by omega, fun h0 => by simp at h0, fun _ => .inl ⟨rfl, by simpa using hK⟩⟩
    refine Zl fun Y hY => ?_
    refine Ze fun N45 hN45 => ?_
    simp (maxSteps := 2000000) only [↓Za, ↓Zb, ↓Zc, vup, List.map_cons, List.map_nil, cond_true, cond_false, aop, Zg, ev, sput, Zf, Zk, Nat.reduceBEq, tyf, Option.map_some, Option.map_none]
    refine hsl _ ?_
    simp (maxSteps := 2000000) only [lenK]
    refine hN45 [(0, .slice (some ⟨B, 0, some 0⟩) m C), (1, Zd (k : Nat)), (4, .slice none 0 0), (5, .bool false), (6, Zd (k : Nat)), (20, .bool false), (149, .bool false), (161, .slice (some ⟨B, 0, some 0⟩) k C), (162, Zd (k : Nat)), (163, .int .i64 0)] _ _ ?_ (by simp (maxSteps := 2000000) only [vup, cond_true, cond_false, Nat.reduceBEq])
    clear hN45
    try clear N45
    refine Zn ?_
    refine Zy fun Qa hQa => ?_
    refine Xd (γ := Nat × Value × Zh) (fun s => s.1 ≤ k ∧ OwnP 26 s.2.2 s.2.1 ((List.range s.1).map fun i => ofQ (T i k)) ∧ Ext (fun _ => False) hp s.2.2 ∧ ∀ b, Yf s.2.1 = some b → hp.length ≤ b)
      (fun s => ([(0, .slice (some ⟨B, 0, some 0⟩) m C), (1, Zd (k : Nat)), (4, s.2.1), (5, .bool false), (6, Zd (k : Nat)), (20, .bool false), (149, .bool false), (161, .slice (some ⟨B, 0, some 0⟩) k C), (162, Zd (k : Nat)), (163, Zd (s.1 : Nat))], s.2.2)) (fun s => k - s.1) (0, .slice none 0 0, hp) ⟨Nat.zero_le _, .inl ⟨rfl, rfl⟩, Ext.refl _ _, fun b hb => by cases hb⟩ (by simp (maxSteps := 2000000) only [vup, cond_true, cond_false, Nat.reduceBEq, Int.natCast_zero]) rfl ?_
    rintro ⟨r, x, G⟩ ⟨hr, ho, hEG, hbx⟩
    simp only at hr ho hEG hbx
    refine Zy fun Qb hQb => ?_
    simp only [l87_5]
    by_cases hrin : (r : Int) < (k : Int)
    · have hr' : r < k := by omega
      have MG := M.ext hEG
      refine Ze fun N46 hN46 => ?_
      simp (maxSteps := 2000000) only [↓Za, ↓Zb, ↓Zc, vup, cond_true, cond_false, aop, Zg, ev, sput, Zf, Yk, Yl, Nat.reduceBEq, hrin]
      refine hN46 [(0, .slice (some ⟨B, 0, some 0⟩) m C), (1, Zd (k : Nat)), (4, x), (5, .bool false), (6, Zd (k : Nat)), (20, .bool false), (149, .bool false), (161, .slice (some ⟨B, 0, some 0⟩) k C), (162, Zd (k : Nat)), (163, Zd (r : Nat)), (164, .bool true)] _ _ ?_ (by simp (maxSteps := 2000000) only [vup, cond_true, cond_false, Nat.reduceBEq])
      clear hN46
      try clear N46
      refine Ze fun N47 hN47 => ?_
      simp (maxSteps := 2000000) only [↓Zs, ↓vdn, vup, cond_true, cond_false, Zg, ev, Nat.reduceBEq]
      refine hN47 [(0, .slice (some ⟨B, 0, some 0⟩) m C), (1, Zd (k : Nat)), (4, x), (5, .bool false), (6, Zd (k : Nat)), (20, .bool false), (149, .bool false), (161, .slice (some ⟨B, 0, some 0⟩) k C), (162, Zd (k : Nat)), (163, Zd (r : Nat))] _ _ ?_ (by simp (maxSteps := 2000000) only [vup, cond_true, cond_false, Nat.reduceBEq])
      clear hN47
      try clear N47
      refine Zl fun W hW => ?_
      refine Zn ?_
      refine Ze fun N48 hN48 => ?_
      simp (maxSteps := 2000000) only [↓Za, ↓Zb, ↓Zc, vup, cond_true, cond_false, aop, Zg, ev, sput, Zf, Nat.reduceBEq, Mat.idx r hr', MG.loadRow (show r < m by omega)]
      refine hN48 [(0, .slice (some ⟨B, 0, some 0⟩) m C), (1, Zd (k : Nat)), (4, x), (5, .bool false), (6, Zd (k : Nat)), (17, w r), (20, .bool false), (149, .bool false), (161, .slice (some ⟨B, 0, some 0⟩) k C), (162, Zd (k : Nat)), (163, Zd (r : Nat))] _ _ ?_ (by simp (maxSteps := 2000000) only [vup, cond_true, cond_false, Nat.reduceBEq])
      clear hN48
      try clear N48
      refine Zi ?_
      simp (maxSteps := 2000000) only [↓Za, ↓Zb, ↓Zc, vup, List.map_cons, List.map_nil, cond_true, cond_false, aop, Zg, Zo, ev, sput, Zf, Zk, Nat.reduceBEq, MG.idxR (show r < m by omega) (Nat.le_refl k), MG.loadE (show r < m by omega) (Nat.le_refl k), qV, frV, litF]
      refine OwnP.append (x := (T r k).num) (y := (T r k).den) (ho.ext (Ext.app _ _ _)) app_47_47 (by simp; omega) (Yh _ _) ?_
      intro x' G' ho' hE' hb'
      have hnx : ((List.range r).map fun i => ofQ (T i k)) ++ [((T r k).num, ((T r k).den : Int))] = (List.range (r + 1)).map fun i => ofQ (T i k) := by
        rw [List.range_succ, List.map_append]; rfl
      rw [hnx] at ho'
      refine hW [(0, .slice (some ⟨B, 0, some 0⟩) m C), (1, Zd (k : Nat)), (4, x'), (5, .bool false), (6, Zd (k : Nat)), (20, .bool false), (149, .bool false), (161, .slice (some ⟨B, 0, some 0⟩) k C), (162, Zd (k : Nat)), (163, Zd (r : Nat))] _ _ ?_ (by simp (maxSteps := 2000000) only [vup, cond_true, cond_false, Nat.reduceBEq])
      clear hW
      try clear W
      refine Zi ?_
      simp (maxSteps := 2000000) only [↓Za, ↓Zb, ↓Zc, vup, cond_true, cond_false, aop, ev, sput, Zf, Yk, Yl, Nat.reduceBEq, add1 (show r < 9223372036854775807 by omega)]
      refine hQb _ _ _ ⟨(r + 1, x', G'), ⟨hr', ho', ?_, fun b hb0 => ?_⟩, by simp only; omega, by simp (maxSteps := 2000000) only [vup, cond_true, cond_false, Nat.reduceBEq], rfl⟩
      · have hl' := hE'.1
        have l1 := hEG.1
        rw [List.length_append, List.length_singleton] at hl'
        refine ⟨by simp only; omega, fun q hq _ => ?_⟩
        simp only
        rw [hE'.2 q (by rw [List.length_append]; omega) (fun hb0 => by have := hbx q hb0; omega), List.getElem?_append_left (by omega)]
        exact hEG.2 q hq id
      · simp only at hb0
        rcases hb' with hb' | ⟨b', hb1, hb2⟩
        · exact hbx b (hb' ▸ hb0)
        · rw [hb1] at hb0; cases hb0
          rw [List.length_append] at hb2
          have := hEG.1; omega
    have hrk : k = r := by omega
    subst hrk
    refine Ze fun N49 hN49 => ?_
    simp (maxSteps := 2000000) only [↓Za, ↓Zb, ↓Zc, vup, cond_true, cond_false, aop, Zg, ev, sput, Zf, Yk, Yl, Nat.reduceBEq, hrin]
    refine hN49 [(0, .slice (some ⟨B, 0, some 0⟩) m C), (1, Zd (k : Nat)), (4, x), (5, .bool false), (6, Zd (k : Nat)), (20, .bool false), (149, .bool false), (161, .slice (some ⟨B, 0, some 0⟩) k C), (162, Zd (k : Nat)), (163, Zd (k : Nat)), (164, .bool false)] _ _ ?_ (by simp (maxSteps := 2000000) only [vup, cond_true, cond_false, Nat.reduceBEq])
    clear hN49
    try clear N49
    refine Ze fun N50 hN50 => ?_
    simp (maxSteps := 2000000) only [↓Xl, ↓vdn, vup, cond_true, cond_false, Zg, ev, Nat.reduceBEq]
    refine hQb _ _ _ (hQa _ _ _ ?_)
    simp (maxSteps := 2000000) only [Zg, Zo, Zu, if_true]
    refine hY [(0, .slice (some ⟨B, 0, some 0⟩) m C), (1, Zd (k : Nat)), (4, x), (5, .bool false), (6, Zd (k : Nat)), (20, .bool false), (149, .bool false), (164, .bool false)] _ _ ?_ (by simp (maxSteps := 2000000) only [vup, cond_true, cond_false, Nat.reduceBEq])
    clear hY
    try clear Y
    refine Zi ?_
    simp (maxSteps := 2000000) only [↓Za, ↓Zw, ↓Zz, ↓Zb, ↓Zc, vup, cond_true, cond_false, aop, Zg, ev, sput, Zf, Nat.reduceBEq, Zu, Xx, tup]
    refine ⟨hE.trans (hEG.mono fun b hb => hb.elim), x, true, rfl, ?_⟩
    rw [hsol]
    refine ⟨rfl, ?_, fun b hb => by have := hbx b hb; omega⟩
    rw [List.map_map]; exact ho
end Go.Proofs.Try.Am

namespace Go.Proofs.Try.Am
open Go.Am Bq
set_option maxRecDepth 100000
set_option maxHeartbeats 4000000

theorem rowC_sum {n : Nat} {l : List (Int × Int)} {ws : List Nat} : rowC (sysB n l ws) ws.length 0 = rowL (2 ^ n - 1) ws 1 := by
  apply List.ext_getElem?
  intro c
  simp only [rowC, rowL, List.getElem?_map, List.getElem?_append, List.length_map]
  by_cases h : c < ws.length
  · simp [h, show c < ws.length + 1 by omega, sysB, List.getD]
  · rw [if_neg h]
    by_cases h2 : c = ws.length
    · subst h2; simp [sysB]
    · rw [List.getElem?_eq_none (by simp; omega), List.getElem?_eq_none (by simp; omega)]; rfl
theorem rowC_bet {n : Nat} {l : List (Int × Int)} {ws : List Nat} (i : Nat) : rowC (sysB n l ws) ws.length (i + 1) = rowL (l.getD i (0, 0)).1.toNat ws (Rat.divInt (l.getD i (0, 0)).2 12) := by
  apply List.ext_getElem?
  intro c
  simp only [rowC, rowL, List.getElem?_map, List.getElem?_append, List.length_map]
  by_cases h : c < ws.length
  · simp [h, show c < ws.length + 1 by omega, sysB, List.getD]
  · rw [if_neg h]
    by_cases h2 : c = ws.length
    · subst h2; simp [sysB]
    · rw [List.getElem?_eq_none (by simp; omega), List.getElem?_eq_none (by simp; omega)]; rfl

/-- A slice of slices that was written down, or grew. -/
def QSl (e : TypeId) (h : Zh) (v : Value) (ws : List Value) : Prop := (∃ b, v = .slice (some ⟨b, 0, none⟩) ws.length ws.length ∧ h[b]? = some (.cells ws e false)) ∨ OwnV e h v ws
theorem QSl.app [Tabs prog] {e t : TypeId} {h : Zh} {v r : Value} {ws : List Value} {b2 : Nat} (ho : QSl e h v ws) (hne : ws ≠ []) (hT : appT prog t t = some (e, 1, 24)) (hb2 : h[b2]? = some (.cells [r] e false)) (hw : ∀ w ∈ ws ++ [r], notI w = true ∧ one w = true) (hn : ws.length ≤ 1000)
    {K : Value → Zh → Prop} (hk : ∀ v' h', OwnV e h' v' (ws ++ [r]) → Ext (fun i => Yf v = some i) h h' → (Yf v' = Yf v ∨ ∃ b, Yf v' = some b ∧ h.length ≤ b) → K v' h') :
    Yq prog h t t v (.slice (some ⟨b2, 0, none⟩) 1 1) K := by
  rcases ho with ⟨b, rfl, hb⟩ | ho
  · simp only [Yq, hT, Vm, putK, Xi, hb2, hb]
    refine ⟨fun h0 => absurd h0 (by decide), fun _ => ⟨by simp, fun h0 => by omega, fun _ => ⟨by omega, by simp, ?_⟩⟩⟩
    have e1 : (([r] : List Value).drop 0).take (1 * 1) = [r] := rfl
    have e2 : (ws.drop 0).take (ws.length * 1) = ws := by simp
    rw [e1, e2, mkb_no (by simp) (fun w hw' => (hw w hw').1)]
    refine hk _ _ (.inr ⟨h.length, [], by simp, by simp, by rw [List.append_nil]; exact Yh _ _⟩) (Ext.app _ _ _) (.inr ⟨_, rfl, Nat.le_refl _⟩)
  · exact ho.app hT (us := [r]) (.inr ⟨b2, 0, none, 1, [r], e, false, rfl, Nat.le_refl _, by simp [view, hb2, Blk.view], rfl⟩) hw (by simp; omega) hk

theorem litV [Tabs prog] {h : Zh} {t e : TypeId} {p : Option Addr} {n c : Nat} (he : elemOf' prog t = some e) (hz : Wi prog e = some [.slice none 0 0]) (hs : esz prog e = some 1) {K : Value → Zh → Prop} :
    Yj prog h t 1 [(0, .slice p n c)] K = K (.slice (some ⟨h.length, 0, none⟩) 1 1) (h ++ [.cells [.slice p n c] e false]) := by
  simp only [Yj, he, hz, hs, reps, fillL, mkb, Wd, cellsOf, List.length_cons, List.length_nil, Nat.zero_add, Nat.zero_mul, Yc]
  refine propext ⟨fun h => ?_, fun h => ⟨trivial, by decide, by decide, ?_⟩⟩
  · simpa [Xa] using h.2.2.2
  · simpa [Xa] using h
/-- A belief as it lies there; some of them. -/
def BelAt (h : Zh) (w : Value) (b : List Rat) : Prop := ∃ bl, w = .slice (some ⟨bl, 0, none⟩) b.length b.length ∧ h[bl]? = some (.cells ((Zx (b.map ofQ)).map Zd) 26 false)
def CornSl (h : Zh) (v : Value) (cs : List (List Rat)) : Prop := ∃ ws, OwnV 90 h v ws ∧ Each (BelAt h) ws cs
theorem CornSl.ext {h h' : Zh} {v : Value} {cs : List (List Rat)} (c : CornSl h v cs) (hE : Ext (fun _ => False) h h') : CornSl h' v cs := by
  obtain ⟨ws, h1, h2⟩ := c
  exact ⟨ws, h1.ext hE, h2.imp fun w b ⟨bl, g1, g2⟩ => ⟨bl, g1, (hE.2 _ (Yn g2) id).trans g2⟩⟩
theorem Wr {n : Nat} {l : List (Int × Int)} (h : Yu n l = true) : 2 ≤ n ∧ n ≤ 5 ∧ 1 ≤ l.length ∧ l.length ≤ 6 ∧ ∀ i, i < l.length → okB n (l.getD i (0, 0)) = true := by
  simp only [Yu, Bool.and_eq_true, decide_eq_true_eq, Int.toNat_natCast] at h
  obtain ⟨h1, h2, h3, h4, h5⟩ := h
  refine ⟨by omega, by omega, h3, h4, fun i hi => ?_⟩
  rw [Vc, List.all_eq_true] at h5
  have := h5 i (List.mem_range.2 hi)
  rw [Bool.and_eq_true] at this
  exact this.1
/-- The block of a row. -/
def bkOf (v : Value) : Nat := (Yf v).getD 0
/-- Equations as they grow. -/
structure Rows (hp0 : Nat) (G : Zh) (q : Value) (ws : List Value) (k : Nat) (T : Xv) : Prop where
  sl : QSl 47 G q ws
  ne : ws ≠ []
  row : ∀ i, i < ws.length → OwnP 26 G (ws.getD i undef) (rowC T k i)
  inj : ∀ i j, i < ws.length → j < ws.length → Yf (ws.getD i undef) = Yf (ws.getD j undef) → i = j
  sep : ∀ i, i < ws.length → Yf (ws.getD i undef) ≠ Yf q
  old : (∀ b, Yf q = some b → hp0 ≤ b) ∧ ∀ i b, i < ws.length → Yf (ws.getD i undef) = some b → hp0 ≤ b
theorem Wb {e : TypeId} {h : Zh} {v : Value} {ps : List (Int × Int)} (ho : OwnP e h v ps) (hne : ps ≠ []) : ∃ b ys, v = .slice (some ⟨b, 0, some 0⟩) ps.length (ps.length + ys.length) ∧ h[b]? = some (.ints (Zx ps ++ Zx ys) e false) := by
  rcases ho with ⟨_, h1⟩ | ⟨b, ys, h1, h2⟩
  · exact absurd h1 hne
  · exact ⟨b, ys, h1, h2⟩
theorem rowC_ne {T : Xv} {k i : Nat} : rowC T k i ≠ [] := by
  intro h
  have := rowC_len T k i
  rw [h] at this; simp at this
theorem QSl.blk {e : TypeId} {h : Zh} {v : Value} {ws : List Value} (hq : QSl e h v ws) (hne : ws ≠ []) : ∃ b c, Yf v = some b ∧ h[b]? = some (.cells c e false) ∧ b < h.length := by
  rcases hq with ⟨b, rfl, hb⟩ | ho
  · exact ⟨b, ws, rfl, hb, Yn hb⟩
  · rcases ho with ⟨_, h1⟩ | ⟨b, ys, rfl, _, hb⟩
    · exact absurd h1 hne
    · exact ⟨b, _, rfl, hb, Yn hb⟩
theorem Rows.ext {hp0 : Nat} {G G' : Zh} {q : Value} {ws : List Value} {k : Nat} {T : Xv} (R : Rows hp0 G q ws k T) (hE : Ext (fun _ => False) G G') : Rows hp0 G' q ws k T where
  sl := by
    rcases R.sl with ⟨b, h1, h2⟩ | ho
    · exact .inl ⟨b, h1, (hE.2 _ (Yn h2) id).trans h2⟩
    · exact .inr (ho.ext hE)
  ne := R.ne
  row i hi := (R.row i hi).ext hE
  inj := R.inj
  sep := R.sep
  old := R.old
/-- One row more. -/
theorem Rows.more [Tabs prog] {hp0 : Nat} {G G2 : Zh} {q rv : Value} {ws : List Value} {k b2 : Nat} {T : Xv} (R : Rows hp0 G q ws k T) (hl : ws.length ≤ 1000) (h0 : hp0 ≤ G.length) (hE : Ext (fun _ => False) G G2) (hr : OwnP 26 G2 rv (rowC T k ws.length)) (hrb : ∀ b, Yf rv = some b → G.length ≤ b) (hb2 : G2[b2]? = some (.cells [rv] 47 false))
    {K : Value → Zh → Prop} (hk : ∀ q' h', OwnV 47 h' q' (ws ++ [rv]) → Rows hp0 h' q' (ws ++ [rv]) k T → Ext (fun b => hp0 ≤ b) G2 h' → Ext (fun i => Yf q = some i) G2 h' → K q' h') : Yq prog G2 103 103 q (.slice (some ⟨b2, 0, none⟩) 1 1) K := by
  have R2 := R.ext hE
  obtain ⟨bq, cq, hbq, hq1, hq2⟩ := R.sl.blk R.ne
  obtain ⟨br, yr, hr1, hr2⟩ := Wb hr rowC_ne
  have hbr : Yf rv = some br := by rw [hr1]; rfl
  have hbrl := hrb br hbr
  have hw : ∀ w ∈ ws ++ [rv], notI w = true ∧ one w = true := fun w hw => by
    rcases List.mem_append.1 hw with h1 | h1
    · obtain ⟨i, hi, rfl⟩ := List.mem_iff_getElem.1 h1
      obtain ⟨b, ys, e1, _⟩ := Wb (R.row i hi) rowC_ne
      rw [List.getD, List.getElem?_eq_getElem hi, Option.getD_some] at e1
      rw [e1]; exact ⟨rfl, rfl⟩
    · rw [List.mem_singleton.1 h1, hr1]; exact ⟨rfl, rfl⟩
  refine R2.sl.app R.ne app_103_103 hb2 hw hl fun q' h' ho hE' hb' => ?_
  have rowb : ∀ i, i < ws.length → ∃ b, Yf (ws.getD i undef) = some b ∧ b < G.length := fun i hi => by
    obtain ⟨b, ys, e1, e2⟩ := Wb (R.row i hi) rowC_ne
    exact ⟨b, by rw [e1]; rfl, Yn e2⟩
  have g1 : ∀ i, i < ws.length → (ws ++ [rv]).getD i undef = ws.getD i undef := fun i hi => by
    rw [List.getD, List.getElem?_append_left hi]; rfl
  have g2 : (ws ++ [rv]).getD ws.length undef = rv := by simp [List.getD]
  have hq'b : ∀ b, Yf q' = some b → b = bq ∨ G2.length ≤ b := fun b hb => by
    rcases hb' with h1 | ⟨b', h1, h2⟩
    · rw [h1, hbq] at hb; cases hb; exact .inl rfl
    · rw [h1] at hb; cases hb; exact .inr h2
  have keep : ∀ b, b ≠ bq → b < G2.length → h'[b]? = G2[b]? := fun b hb hl => hE'.2 b hl fun hc => hb (by rw [hbq] at hc; cases hc; rfl)
  refine hk q' h' ho ⟨.inr ho, by simp, fun i hi => ?_, fun i j hi hj he => ?_, fun i hi => ?_, ⟨fun b hb => ?_, fun i b hi hb => ?_⟩⟩ (hE'.mono fun b hb => R.old.1 b hb) hE'
  · rw [List.length_append, List.length_singleton] at hi
    rcases Nat.lt_or_ge i ws.length with h1 | h1
    · rw [g1 i h1]
      refine (R2.row i h1).same fun b hb => ?_
      obtain ⟨b', e1, e2⟩ := rowb i h1
      rw [e1] at hb; cases hb
      exact keep _ (fun hc => R.sep i h1 (by rw [e1, hbq, hc])) (by have := hE.1; omega)
    · rw [show i = ws.length by omega, g2]
      refine hr.same fun b hb => ?_
      rw [hbr] at hb; cases hb
      exact keep _ (by omega) (Yn hr2)
  · rw [List.length_append, List.length_singleton] at hi hj
    rcases Nat.lt_or_ge i ws.length with h1 | h1 <;> rcases Nat.lt_or_ge j ws.length with h2 | h2
    · rw [g1 i h1, g1 j h2] at he; exact R.inj i j h1 h2 he
    · rw [g1 i h1, show j = ws.length by omega, g2, hbr] at he
      obtain ⟨b', e1, e2⟩ := rowb i h1
      rw [e1] at he; cases he; omega
    · rw [g1 j h2, show i = ws.length by omega, g2, hbr] at he
      obtain ⟨b', e1, e2⟩ := rowb j h2
      rw [e1] at he; cases he; omega
    · omega
  · rw [List.length_append, List.length_singleton] at hi
    intro hc
    rcases Nat.lt_or_ge i ws.length with h1 | h1
    · rw [g1 i h1] at hc
      obtain ⟨b', e1, e2⟩ := rowb i h1
      rw [e1] at hc
      rcases hq'b b' hc.symm with h3 | h3
      · exact R.sep i h1 (by rw [e1, hbq, h3])
      · have := hE.1; omega
    · rw [show i = ws.length by omega, g2, hbr] at hc
      rcases hq'b br hc.symm with h3 | h3
      · omega
      · have := Yn hr2; omega
  · rcases hq'b b hb with h3 | h3
    · rw [h3]; exact R.old.1 _ hbq
    · have := hE.1; omega
  · rw [List.length_append, List.length_singleton] at hi
    rcases Nat.lt_or_ge i ws.length with h1 | h1
    · rw [g1 i h1] at hb; exact R.old.2 i b h1 hb
    · rw [show i = ws.length by omega, g2] at hb
      have := hrb b hb; omega
/-- Equations ready to be solved. -/
theorem Rows.mat {hp0 : Nat} {G : Zh} {q : Value} {ws : List Value} {k : Nat} {T : Xv} (R : Rows hp0 G q ws k T) (ho : OwnV 47 G q ws) : ∃ B C, q = .slice (some ⟨B, 0, some 0⟩) ws.length C ∧ ws.length ≤ C ∧ hp0 ≤ B ∧ Mat G B ws.length k (fun i => ws.getD i undef) (fun i => bkOf (ws.getD i undef)) T ∧ ∀ i, i < ws.length → hp0 ≤ bkOf (ws.getD i undef) := by
  rcases ho with ⟨_, h1⟩ | ⟨B, us, hq, _, hb⟩
  · exact absurd h1 R.ne
  · have hqb : Yf q = some B := by rw [hq]; rfl
    have rowb : ∀ i, i < ws.length → ∃ b ys, ws.getD i undef = .slice (some ⟨b, 0, some 0⟩) (k + 1) (k + 1 + ys.length) ∧ G[b]? = some (.ints (Zx (rowC T k i) ++ Zx ys) 26 false) := fun i hi => by
      obtain ⟨b, ys, e1, e2⟩ := Wb (R.row i hi) rowC_ne
      rw [rowC_len] at e1
      exact ⟨b, ys, e1, e2⟩
    have bk : ∀ i, i < ws.length → Yf (ws.getD i undef) = some (bkOf (ws.getD i undef)) := fun i hi => by
      obtain ⟨b, ys, e1, e2⟩ := rowb i hi
      rw [e1]; rfl
    refine ⟨B, _, hq, by omega, R.old.1 B hqb, ⟨⟨us, ?_⟩, fun i hi => ?_, fun i j hi hj he => ?_, fun i hi hc => ?_⟩, fun i hi => R.old.2 i _ hi (bk i hi)⟩
    · have : (List.range ws.length).map (fun i => ws.getD i undef) = ws := by
        apply List.ext_getElem (by simp)
        intro i h1 h2
        simp [List.getD, h2]
      rw [this]; exact hb
    · obtain ⟨b, ys, e1, e2⟩ := rowb i hi
      refine ⟨k + 1 + ys.length, Zx ys, e1.trans ?_, by omega, ?_⟩
      · rw [bkOf, e1]; rfl
      · rw [bkOf, e1]; exact e2
    · exact R.inj i j hi hj (by rw [bk i hi, bk j hj, he])
    · exact R.sep i hi (by rw [bk i hi, hqb, hc])
end Go.Proofs.Try.Am
