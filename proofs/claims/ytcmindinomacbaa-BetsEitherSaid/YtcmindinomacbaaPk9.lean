/-
  bets: bets that are valid, in the reference; bets copied.
  bets: whether a belief agrees.
  bets: scores and averages, in the program and in the reference.
  bets: averages of scores.
  bets: the reference's averages and scores.
  bets: determinants, by their first column. Plain Lean, no program.
  bets: elimination: what it keeps, how great its numbers are, what it tells. Plain Lean, no program.
  bets: what a solution is; what it means that there is none. Plain Lean, no program.
  bets: beliefs that agree; the least of a sum is at a corner. Plain Lean, no program.
  bets: the systems of bets are tame, all of them; the reference's rows. Plain Lean, no program.
  bets: the reference's equations as they lie in memory.
  bets: the reference's elimination.
  bets: the reference's corner.
-/
import Derived.Test.YtcmindinomacbaaPk8
import Derived.Test.YtcmindinomacbaaPk7
import Derived.Test.YtcmindinomacbaaPk5
import Derived.Test.YtcmindinomacbaaPk6
set_option linter.all false
namespace Go.Proofs.Try.Am
open Go.Am Bq
set_option maxRecDepth 100000
set_option maxHeartbeats 4000000

abbrev rB (x y : Int) : Blk := .cells [Zd x, Zd y] 24 false
abbrev zR : Blk := .cells [.int .i64 0, .int .i64 0] 24 false
theorem storeRt {h : Zh} {b : Nat} {x y : Int} {e : TypeId} {c : List Value} {K : Zh → Prop} (hb : h[b]? = some (.cells c e false)) (hc : c.length = 2) : Xs prog h 24 (.pointer (some ⟨b, 0, none⟩)) (.agg #[Zd x, Zd y]) K = K (h.set b (.cells [Zd x, Zd y] e false)) :=
  storeA (vs := [Zd x, Zd y]) hb (by rw [shp_24]; rfl) rfl (by rw [hc]; rfl)
theorem rA0 {b : Nat} {K : Value → Prop} : Yq prog 24 (.pointer (some ⟨b, 0, none⟩)) 0 K = K (.pointer (some ⟨b, 0, none⟩)) := fldA fld_24_0 esz_3
theorem rA1 {b : Nat} {K : Value → Prop} : Yq prog 24 (.pointer (some ⟨b, 0, none⟩)) 1 K = K (.pointer (some ⟨b, 1, none⟩)) := fldA fld_24_1 esz_3
theorem loadR0 {h : Zh} {b : Nat} {x y : Int} {K : Value → Prop} (hb : h[b]? = some (rB x y)) : Xn prog h 3 (.pointer (some ⟨b, 0, none⟩)) K = K (Zd x) := loadC hb Wy rfl
theorem loadR1 {h : Zh} {b : Nat} {x y : Int} {K : Value → Prop} (hb : h[b]? = some (rB x y)) : Xn prog h 3 (.pointer (some ⟨b, 1, none⟩)) K = K (Zd y) := loadC hb Wy rfl

theorem s63_callW [Tabs Try.prog] {args : List Value} {h : Zh} {Q : Value → Zh → Prop} (hsz : args.length ≤ 9) (hk : AWS Try.prog 9 s63 (Zv Try.prog [.tmp 2] Q) (Zt 0 args) h) : ACall Try.prog 63 args h Q :=
  Yn Try.func63 rfl (enters_of Try.func63 (by kernel_rfl) rfl) rfl rfl (by decide) s63_strip s63_ok hsz hk
theorem worlds_call [Tabs prog] {h : Zh} {n : Int} : Xi prog 63 [Zd n] h (.bool (decide (2 ≤ n) && decide (n ≤ 5))) := by
  refine s63_callW (by simp) ?_
  refine Zk ?_
  by_cases h1 : n ≥ 2
  · have e1 : decide (2 ≤ n) = true := by simpa using h1
    by_cases h2 : n ≤ 5
    · simp (maxSteps := 2000000) only [s63, ↓Za, ↓Zw, ↓Zz, ↓Zb, ↓Zc, ↓vdn, vup, cond_true, cond_false, aop, Zg, Zt, ev, sput, Zf, Yg, Yl, Nat.reduceBEq, Zv, Xw, tup, h1, h2, Bool.true_and]
    · simp (maxSteps := 2000000) only [s63, ↓Za, ↓Zw, ↓Zz, ↓Zb, ↓Zc, ↓vdn, vup, cond_true, cond_false, aop, Zg, Zt, ev, sput, Zf, Yg, Yl, Nat.reduceBEq, Zv, Xw, tup, h1, h2, Bool.true_and]
  · have e1 : decide (2 ≤ n) = false := by simpa using h1
    simp (maxSteps := 2000000) only [s63, ↓Za, ↓Zw, ↓Zz, ↓Zb, ↓Zc, ↓vdn, vup, cond_true, cond_false, aop, Zg, Zt, ev, sput, Zf, Yg, Yl, Nat.reduceBEq, Zv, Xw, tup, h1, Bool.false_and]

theorem s25_callW [Tabs Try.prog] {args : List Value} {h : Zh} {Q : Value → Zh → Prop} (hsz : args.length ≤ 13) (hk : AWS Try.prog 13 s25 (Zv Try.prog [.tmp 4] Q) (Zt 0 args) h) : ACall Try.prog 25 args h Q :=
  Yn Try.func25 rfl (enters_of Try.func25 (by kernel_rfl) rfl) rfl rfl (by decide) s25_strip s25_ok hsz hk
theorem event_call [Tabs prog] {h : Zh} {n : Nat} {e : Int} (hn : n ≤ 62) : Xi prog 25 [Zd (n : Nat), Zd e] h (.bool (decide (0 ≤ e) && decide (e < 2 ^ n))) := by
  refine s25_callW (by simp) ?_
  refine Zk ?_
  have hsh : shlV .i64 1 (n : Int) = 2 ^ n := shl1 hn
  by_cases h1 : e ≥ 0
  · have e1 : decide (0 ≤ e) = true := by simpa using h1
    by_cases h2 : e < 2 ^ n
    · simp (maxSteps := 2000000) only [s25, ↓Za, ↓Zw, ↓Zz, ↓Zb, ↓Zc, ↓vdn, vup, cond_true, cond_false, aop, Zg, Zt, ev, sput, Zf, Yg, Yl, Nat.reduceBEq, Nat.reduceAdd, Zv, Xw, tup, h1, Int.natCast_nonneg, hsh, h2, Bool.true_and]
    · simp (maxSteps := 2000000) only [s25, ↓Za, ↓Zw, ↓Zz, ↓Zb, ↓Zc, ↓vdn, vup, cond_true, cond_false, aop, Zg, Zt, ev, sput, Zf, Yg, Yl, Nat.reduceBEq, Nat.reduceAdd, Zv, Xw, tup, h1, Int.natCast_nonneg, hsh, h2, Bool.true_and]
  · have e1 : decide (0 ≤ e) = false := by simpa using h1
    simp (maxSteps := 2000000) only [s25, ↓Za, ↓Zw, ↓Zz, ↓Zb, ↓Zc, ↓vdn, vup, cond_true, cond_false, aop, Zg, Zt, ev, sput, Zf, Yg, Yl, Nat.reduceBEq, Nat.reduceAdd, Zv, Xw, tup, h1, Bool.false_and]

theorem s20_callW [Tabs Try.prog] {args : List Value} {h : Zh} {Q : Value → Zh → Prop} (hsz : args.length ≤ 59) (hk : AWS Try.prog 59 s20 (Zv Try.prog [.tmp 4] Q) (Zt 0 args) h) : ACall Try.prog 20 args h Q :=
  Yn Try.func20 rfl (enters_of Try.func20 (by kernel_rfl) rfl) rfl rfl (by decide) s20_strip s20_ok hsz hk
theorem rbets_call [Tabs prog] {h : Zh} {n : Int} {v : Value} {l : List (Int × Int)} (hv : PairSl h v l) (hl : l.length < 9223372036854775808) : Xi prog 20 [Zd n, v] h (.bool (Yz n l)) := by
  refine ACall.forget (Low.bool _) ?_
  refine s20_callW (by simp) ?_
  simp only [s20]
  refine Ze fun N1 hN1 => ?_
  simp (maxSteps := 2000000) only [↓Za, ↓Zb, ↓Zc, vup, cond_false, aop, Zg, Zt, ev, sput, Zf, Nat.reduceBEq, Nat.reduceAdd]
  refine hN1 [(0, Zd n), (1, v), (4, .bool false)] _ _ ?_ (by simp (maxSteps := 2000000) only [vup, cond_true, cond_false, Nat.reduceBEq])
  clear hN1
  try clear N1
  refine Zm fun Y hY => ?_
  refine Ze fun N2 hN2 => ?_
  have bad : Yz n l = false → ∀ e, ELe e [(0, Zd n), (1, v), (4, .bool false), (21, .bool true)] → N2 e h := by
    intro hb e he
    refine hN2 _ _ _ ?_ he
    refine Xl rfl ?_
    refine Zk ?_
    simp (maxSteps := 2000000) only [↓Za, ↓Zw, ↓Zz, ↓Zb, ↓Zc, vup, cond_true, cond_false, aop, Zg, ev, sput, Zf, Nat.reduceBEq, Zv, Xw, tup]
    rw [hb]
    exact ⟨rfl, Ext.refl _ _⟩
  simp (maxSteps := 2000000) only [↓Za, ↓Zc, vup, List.map_cons, List.map_nil, cond_true, cond_false, aop, ev, sput, Zf, unK, Nat.reduceBEq, Yv, List.nil_append, List.append_nil]
  refine (worlds_call).mono ?_
  rintro _ h ⟨rfl, rfl⟩
  by_cases h1 : n < 2
  · have e1 : decide (2 ≤ n) = false := by simp; omega
    simp (maxSteps := 2000000) only [↓Zb, ↓Zc, ↓vdn, vup, cond_true, cond_false, aop, Zg, ev, sput, Zf, Nat.reduceBEq, e1, Bool.false_and]
    exact bad (by rw [Yz, e1, Bool.false_and]) _ (by simp (maxSteps := 2000000) only [vup, cond_true, cond_false, Nat.reduceBEq])
  have e1 : decide (2 ≤ n) = true := by simp; omega
  by_cases h2 : n > 5
  · have e2 : decide (n ≤ 5) = false := by simp; omega
    simp (maxSteps := 2000000) only [↓Zb, ↓Zc, ↓vdn, vup, cond_true, cond_false, aop, Zg, ev, sput, Zf, Nat.reduceBEq, e1, e2, Bool.true_and]
    exact bad (by rw [Yz, e2, Bool.false_and, Bool.and_false]) _ (by simp (maxSteps := 2000000) only [vup, cond_true, cond_false, Nat.reduceBEq])
  have e2 : decide (n ≤ 5) = true := by simp; omega
  by_cases h3 : (l.length : Int) < 1
  · simp (maxSteps := 2000000) only [↓Zb, ↓Zc, ↓vdn, vup, List.map_cons, List.map_nil, cond_true, cond_false, aop, Zg, ev, sput, Zf, Yg, Yl, Zl, Nat.reduceBEq, tyf, e1, e2, Bool.true_and, hv.len, h3]
    exact bad (by rw [Yz, show decide (1 ≤ l.length) = false by rw [decide_eq_false_iff_not]; omega, Bool.false_and, Bool.and_false, Bool.and_false]) _ (by simp (maxSteps := 2000000) only [vup, cond_true, cond_false, Nat.reduceBEq])
  by_cases h4 : (l.length : Int) > 6
  · simp (maxSteps := 2000000) only [↓Zb, ↓Zc, ↓vdn, vup, List.map_cons, List.map_nil, cond_true, cond_false, aop, Zg, ev, sput, Zf, Yg, Yl, Zl, Nat.reduceBEq, tyf, e1, e2, Bool.true_and, hv.len, h3, h4]
    exact bad (by rw [Yz, show decide (l.length ≤ 6) = false by simp; omega, Bool.false_and, Bool.and_false, Bool.and_false, Bool.and_false]) _ (by simp (maxSteps := 2000000) only [vup, cond_true, cond_false, Nat.reduceBEq])
  simp (maxSteps := 2000000) only [↓Zb, ↓Zc, ↓vdn, vup, List.map_cons, List.map_nil, cond_true, cond_false, aop, Zg, ev, sput, Zf, Yg, Yl, Zl, Nat.reduceBEq, tyf, e1, e2, Bool.true_and, hv.len, h3, h4]
  refine hN2 [(0, Zd n), (1, v), (4, .bool false), (21, .bool false)] _ _ ?_ (by simp (maxSteps := 2000000) only [vup, cond_true, cond_false, Nat.reduceBEq])
  clear hN2
  try clear N2
  refine Xb rfl ?_
  refine Zk ?_
  simp (maxSteps := 2000000) only [↓Zu, Zg]
  clear bad
  obtain ⟨m, rfl⟩ : ∃ m : Nat, n = m := ⟨n.toNat, by omega⟩
  have hval : Yz m l = Ve m l l.length := by
    rw [Yz, e1, e2, show decide (1 ≤ l.length) = true by rw [decide_eq_true_eq]; omega, show decide (l.length ≤ 6) = true by simp; omega]
    simp
  have hpm : (2 : Nat) ^ m ≤ 2 ^ 5 := Nat.pow_le_pow_right (by decide) (by omega)
  refine hY [(0, Zd (m : Nat)), (1, v), (4, .bool false)] _ _ ?_ (by simp (maxSteps := 2000000) only [vup, cond_true, cond_false, Nat.reduceBEq])
  clear hY
  try clear Y
  rw [hval]
  refine Zm fun Z hZ => ?_
  refine Ze fun N3 hN3 => ?_
  simp (maxSteps := 2000000) only [↓Za, ↓Zb, ↓Zc, vup, List.map_cons, List.map_nil, cond_true, cond_false, aop, Zg, ev, sput, Zf, Zl, Nat.reduceBEq, tyf, hv.len]
  refine hN3 [(0, Zd (m : Nat)), (1, v), (4, .bool false), (22, v), (23, Zd l.length), (24, .int .i64 0)] _ _ ?_ (by simp (maxSteps := 2000000) only [vup, cond_true, cond_false, Nat.reduceBEq])
  clear hN3
  try clear N3
  refine Zn ?_
  refine Zs fun Q hQ => ?_
  refine Yu (γ := Nat × Zh) (fun s => s.1 ≤ l.length ∧ Ve m l s.1 = true ∧ Ext (fun _ => False) h s.2)
    (fun s => ([(0, Zd (m : Nat)), (1, v), (4, .bool false), (22, v), (23, Zd l.length), (24, Zd (s.1 : Nat))], s.2)) (fun s => l.length - s.1) (0, h) ⟨Nat.zero_le _, rfl, Ext.refl _ _⟩ (by simp (maxSteps := 2000000) only [vup, cond_true, cond_false, Nat.reduceBEq, Int.natCast_zero]) rfl ?_
  rintro ⟨k, hp⟩ ⟨hk, hall, hEp⟩
  simp only at hk hall hEp
  refine Zs fun Q2 hQ2 => ?_
  simp only [l20_1]
  by_cases hin : (k : Int) < l.length
  · have hk' : k < l.length := by omega
    have hvp := hv.ext hEp
    obtain ⟨⟨x, y⟩, hxy⟩ : ∃ p, l.getD k (0, 0) = p := ⟨_, rfl⟩
    obtain ⟨G, hG⟩ : ∃ G, G = hp ++ [rB x y] := ⟨_, rfl⟩
    have c6 : G[hp.length]? = some (rB x y) := by rw [hG]; exact Zy _ _
    have hEG : Ext (fun _ => False) h G := by rw [hG]; exact hEp.trans (Ext.app _ _ _)
    have hvG := hv.ext hEG
    have vfalse : (okB m (x, y) && !(l.take k).any fun z => z.1 == x) = false → Ve m l l.length = false := fun hf => validTo_false hk' (by rw [hxy]; exact hf)
    have ret0 : (okB m (x, y) && !(l.take k).any fun z => z.1 == x) = false → ∀ e G', Ext (fun _ => False) h G' → sget e 4 = .bool false → Q2 .ret e G' := by
      intro hf e G' hG' he
      refine hQ2 _ _ _ (hQ _ _ _ ?_)
      simp (maxSteps := 2000000) only [vup, Zg, Zr, Zv, Xw, tup, he, vfalse hf]
      exact hG'
    refine Ze fun N4 hN4 => ?_
    simp (maxSteps := 2000000) only [↓Za, ↓Zb, ↓Zc, vup, cond_true, cond_false, aop, Zg, ev, sput, Zf, Yg, Yl, Nat.reduceBEq, hin]
    refine hN4 [(0, Zd (m : Nat)), (1, v), (4, .bool false), (22, v), (23, Zd l.length), (24, Zd (k : Nat)), (25, .bool true)] _ _ ?_ (by simp (maxSteps := 2000000) only [vup, cond_true, cond_false, Nat.reduceBEq])
    clear hN4
    try clear N4
    refine Ze fun N5 hN5 => ?_
    simp (maxSteps := 2000000) only [↓Zu, ↓vdn, vup, cond_true, cond_false, Zg, ev, Nat.reduceBEq]
    refine hN5 [(0, Zd (m : Nat)), (1, v), (4, .bool false), (22, v), (23, Zd l.length), (24, Zd (k : Nat))] _ _ ?_ (by simp (maxSteps := 2000000) only [vup, cond_true, cond_false, Nat.reduceBEq])
    clear hN5
    try clear N5
    refine Zm fun B hB => ?_
    refine Zn ?_
    refine Ze fun N6 hN6 => ?_
    simp (maxSteps := 2000000) only [↓Za, ↓Zb, ↓Zc, vup, cond_true, cond_false, aop, Zg, ev, sput, Zf, Nat.reduceBEq, tyf, hvp.idx el_22 esz_24 hk', hvp.load shp_24 hk', hxy, Xm, Yi, storeRt (Zy hp zR) rfl, Wf]
    rw [← hG]
    refine hN6 [(0, Zd (m : Nat)), (1, v), (4, .bool false), (5, Zd (k : Nat)), (6, .pointer (some ⟨hp.length, 0, none⟩)), (22, v), (23, Zd l.length), (24, Zd (k : Nat))] _ _ ?_ (by simp (maxSteps := 2000000) only [vup, cond_true, cond_false, Nat.reduceBEq])
    clear hN6
    try clear N6
    refine Zm fun C hC => ?_
    have evc := event_call (h := G) (n := m) (e := x) (by omega)
    refine Ze fun N7 hN7 => ?_
    simp (maxSteps := 2000000) only [↓Za, ↓Zc, vup, List.map_cons, List.map_nil, cond_true, cond_false, aop, ev, sput, Zf, unK, Nat.reduceBEq, Yv, List.nil_append, List.append_nil, rA0, loadR0 c6]
    refine (evc).mono ?_
    rintro _ G ⟨rfl, rfl⟩
    by_cases g1 : x < 0
    · have d1 : decide (0 ≤ x) = false := by simp; omega
      simp (maxSteps := 2000000) only [↓Zb, ↓Zc, ↓vdn, vup, cond_true, cond_false, aop, Zg, ev, sput, Zf, Nat.reduceBEq, d1, Bool.false_and]
      refine hN7 [(0, Zd (m : Nat)), (1, v), (4, .bool false), (5, Zd (k : Nat)), (6, .pointer (some ⟨hp.length, 0, none⟩)), (22, v), (23, Zd l.length), (24, Zd (k : Nat)), (43, .bool true)] _ _ ?_ (by simp (maxSteps := 2000000) only [vup, cond_true, cond_false, Nat.reduceBEq])
      clear hN7
      try clear N7
      refine Zk ?_
      simp (maxSteps := 2000000) only [↓Za, ↓Zw, ↓Zz, ↓Zb, ↓Zc, ↓vdn, vup, cond_true, cond_false, aop, Zg, Zr, ev, sput, Zf, Nat.reduceBEq]
      exact ret0 (by simp [okB]; omega) _ _ hEG rfl
    have d1 : decide (0 ≤ x) = true := by simp; omega
    by_cases g2 : x < 2 ^ m
    case neg =>
      have d2 : decide (x < 2 ^ m) = false := by simpa using g2
      simp (maxSteps := 2000000) only [↓Zb, ↓Zc, ↓vdn, vup, cond_true, cond_false, aop, Zg, ev, sput, Zf, Nat.reduceBEq, d1, d2, Bool.true_and]
      refine hN7 [(0, Zd (m : Nat)), (1, v), (4, .bool false), (5, Zd (k : Nat)), (6, .pointer (some ⟨hp.length, 0, none⟩)), (22, v), (23, Zd l.length), (24, Zd (k : Nat)), (43, .bool true)] _ _ ?_ (by simp (maxSteps := 2000000) only [vup, cond_true, cond_false, Nat.reduceBEq])
      clear hN7
      try clear N7
      refine Zk ?_
      simp (maxSteps := 2000000) only [↓Za, ↓Zw, ↓Zz, ↓Zb, ↓Zc, ↓vdn, vup, cond_true, cond_false, aop, Zg, Zr, ev, sput, Zf, Nat.reduceBEq]
      exact ret0 (by simp [okB]; omega) _ _ hEG rfl
    have d2 : decide (x < 2 ^ m) = true := by simpa using g2
    by_cases g3 : y < 0
    · simp (maxSteps := 2000000) only [↓Zb, ↓Zc, ↓vdn, vup, cond_true, cond_false, aop, Zg, ev, sput, Zf, Yg, Yl, Nat.reduceBEq, tyf, d1, d2, Bool.true_and, rA1, loadR1 c6, g3]
      refine hN7 [(0, Zd (m : Nat)), (1, v), (4, .bool false), (5, Zd (k : Nat)), (6, .pointer (some ⟨hp.length, 0, none⟩)), (22, v), (23, Zd l.length), (24, Zd (k : Nat)), (43, .bool true)] _ _ ?_ (by simp (maxSteps := 2000000) only [vup, cond_true, cond_false, Nat.reduceBEq])
      clear hN7
      try clear N7
      refine Zk ?_
      simp (maxSteps := 2000000) only [↓Za, ↓Zw, ↓Zz, ↓Zb, ↓Zc, ↓vdn, vup, cond_true, cond_false, aop, Zg, Zr, ev, sput, Zf, Nat.reduceBEq]
      exact ret0 (by simp [okB]; omega) _ _ hEG rfl
    by_cases g4 : y > 12
    · simp (maxSteps := 2000000) only [↓Zb, ↓Zc, ↓vdn, vup, cond_true, cond_false, aop, Zg, ev, sput, Zf, Yg, Yl, Nat.reduceBEq, tyf, d1, d2, Bool.true_and, rA1, loadR1 c6, g3, g4]
      refine hN7 [(0, Zd (m : Nat)), (1, v), (4, .bool false), (5, Zd (k : Nat)), (6, .pointer (some ⟨hp.length, 0, none⟩)), (22, v), (23, Zd l.length), (24, Zd (k : Nat)), (43, .bool true)] _ _ ?_ (by simp (maxSteps := 2000000) only [vup, cond_true, cond_false, Nat.reduceBEq])
      clear hN7
      try clear N7
      refine Zk ?_
      simp (maxSteps := 2000000) only [↓Za, ↓Zw, ↓Zz, ↓Zb, ↓Zc, ↓vdn, vup, cond_true, cond_false, aop, Zg, Zr, ev, sput, Zf, Nat.reduceBEq]
      exact ret0 (by simp [okB]; omega) _ _ hEG rfl
    simp (maxSteps := 2000000) only [↓Zb, ↓Zc, ↓vdn, vup, cond_true, cond_false, aop, Zg, ev, sput, Zf, Yg, Yl, Nat.reduceBEq, tyf, d1, d2, Bool.true_and, rA1, loadR1 c6, g3, g4]
    refine hN7 [(0, Zd (m : Nat)), (1, v), (4, .bool false), (5, Zd (k : Nat)), (6, .pointer (some ⟨hp.length, 0, none⟩)), (22, v), (23, Zd l.length), (24, Zd (k : Nat)), (43, .bool false)] _ _ ?_ (by simp (maxSteps := 2000000) only [vup, cond_true, cond_false, Nat.reduceBEq])
    clear hN7
    try clear N7
    refine Xb rfl ?_
    refine Zk ?_
    simp (maxSteps := 2000000) only [↓Zu, Zg]
    refine hC [(0, Zd (m : Nat)), (1, v), (4, .bool false), (5, Zd (k : Nat)), (6, .pointer (some ⟨hp.length, 0, none⟩)), (22, v), (23, Zd l.length), (24, Zd (k : Nat))] _ _ ?_ (by simp (maxSteps := 2000000) only [vup, cond_true, cond_false, Nat.reduceBEq])
    clear hC
    try clear C
    have hok : okB m (x, y) = true := by simp [okB]; omega
    refine Ze fun N8 hN8 => ?_
    simp (maxSteps := 2000000) only [↓Za, ↓Zb, ↓Zc, vup, List.map_cons, List.map_nil, cond_true, cond_false, aop, Zg, ev, sput, Zf, Zl, Nat.reduceBEq, tyf, Option.map_some, Option.map_none]
    refine hvG.pre el_22 esz_24 (show k ≤ l.length by omega) fun v' hv' => ?_
    have hlt : (l.take k).length = k := by rw [List.length_take]; omega
    have hvl : ∀ {K : Value → Prop}, lenK v' K = K (Zd (k : Nat)) := fun {K} => by rw [hv'.len, hlt]
    simp (maxSteps := 2000000) only [hvl]
    refine hN8 [(0, Zd (m : Nat)), (1, v), (4, .bool false), (5, Zd (k : Nat)), (6, .pointer (some ⟨hp.length, 0, none⟩)), (22, v), (23, Zd l.length), (24, Zd (k : Nat)), (46, v'), (47, Zd (k : Nat)), (48, .int .i64 0)] _ _ ?_ (by simp (maxSteps := 2000000) only [vup, cond_true, cond_false, Nat.reduceBEq])
    clear hN8
    try clear N8
    refine Zn ?_
    refine Zs fun Qa hQa => ?_
    refine Yu (γ := Nat × Zh) (fun s => s.1 ≤ k ∧ ((l.take s.1).any fun z => z.1 == x) = false ∧ Ext (fun _ => False) G s.2)
      (fun s => ([(0, Zd (m : Nat)), (1, v), (4, .bool false), (5, Zd (k : Nat)), (6, .pointer (some ⟨hp.length, 0, none⟩)), (22, v), (23, Zd l.length), (24, Zd (k : Nat)), (46, v'), (47, Zd (k : Nat)), (48, Zd (s.1 : Nat))], s.2)) (fun s => k - s.1) (0, G) ⟨Nat.zero_le _, rfl, Ext.refl _ _⟩ (by simp (maxSteps := 2000000) only [vup, cond_true, cond_false, Nat.reduceBEq, Int.natCast_zero]) rfl ?_
    rintro ⟨j, F⟩ ⟨hj, hno, hEF⟩
    simp only at hj hno hEF
    refine Zs fun Qb hQb => ?_
    simp only [l20_0]
    by_cases hjin : (j : Int) < k
    · have hj' : j < k := by omega
      have hjl : j < (l.take k).length := by omega
      obtain ⟨⟨x2, y2⟩, hxy2⟩ : ∃ p, l.getD j (0, 0) = p := ⟨_, rfl⟩
      have hgj : (l.take k).getD j (0, 0) = (x2, y2) := by rw [← hxy2, List.getD, List.getD, List.getElem?_take, if_pos hj']
      obtain ⟨F2, hF2⟩ : ∃ F2, F2 = F ++ [rB x2 y2] := ⟨_, rfl⟩
      have c8 : F2[F.length]? = some (rB x2 y2) := by rw [hF2]; exact Zy _ _
      have hEF2 : Ext (fun _ => False) G F2 := by rw [hF2]; exact hEF.trans (Ext.app _ _ _)
      have c6F : F2[hp.length]? = some (rB x y) := (hEF2.2 _ (Yh c6) id).trans c6
      have hvF := hv'.ext hEF
      have hts : (l.take (j + 1)).any (fun z => z.1 == x) = (x2 == x) := by
        rw [take_snoc (d := ((0, 0) : Int × Int)) (show j < l.length by omega), hxy2, List.any_append, hno]; simp
      refine Ze fun N9 hN9 => ?_
      simp (maxSteps := 2000000) only [↓Za, ↓Zb, ↓Zc, vup, cond_true, cond_false, aop, Zg, ev, sput, Zf, Yg, Yl, Nat.reduceBEq, hjin]
      refine hN9 [(0, Zd (m : Nat)), (1, v), (4, .bool false), (5, Zd (k : Nat)), (6, .pointer (some ⟨hp.length, 0, none⟩)), (22, v), (23, Zd l.length), (24, Zd (k : Nat)), (46, v'), (47, Zd (k : Nat)), (48, Zd (j : Nat)), (49, .bool true)] _ _ ?_ (by simp (maxSteps := 2000000) only [vup, cond_true, cond_false, Nat.reduceBEq])
      clear hN9
      try clear N9
      refine Ze fun N10 hN10 => ?_
      simp (maxSteps := 2000000) only [↓Zu, ↓vdn, vup, cond_true, cond_false, Zg, ev, Nat.reduceBEq]
      refine hN10 [(0, Zd (m : Nat)), (1, v), (4, .bool false), (5, Zd (k : Nat)), (6, .pointer (some ⟨hp.length, 0, none⟩)), (22, v), (23, Zd l.length), (24, Zd (k : Nat)), (46, v'), (47, Zd (k : Nat)), (48, Zd (j : Nat))] _ _ ?_ (by simp (maxSteps := 2000000) only [vup, cond_true, cond_false, Nat.reduceBEq])
      clear hN10
      try clear N10
      refine Zm fun D hD => ?_
      refine Zn ?_
      refine Ze fun N11 hN11 => ?_
      simp (maxSteps := 2000000) only [↓Za, ↓Zb, ↓Zc, vup, cond_true, cond_false, aop, Zg, ev, sput, Zf, Nat.reduceBEq, tyf, hvF.idx el_22 esz_24 hjl, hvF.load shp_24 hjl, hgj, Xm, Yi, storeRt (Zy F zR) rfl, Wf]
      rw [← hF2]
      refine hN11 [(0, Zd (m : Nat)), (1, v), (4, .bool false), (5, Zd (k : Nat)), (6, .pointer (some ⟨hp.length, 0, none⟩)), (8, .pointer (some ⟨F.length, 0, none⟩)), (22, v), (23, Zd l.length), (24, Zd (k : Nat)), (46, v'), (47, Zd (k : Nat)), (48, Zd (j : Nat))] _ _ ?_ (by simp (maxSteps := 2000000) only [vup, cond_true, cond_false, Nat.reduceBEq])
      clear hN11
      try clear N11
      refine Ze fun N12 hN12 => ?_
      simp (maxSteps := 2000000) only [↓Za, ↓Zb, ↓Zc, vup, cond_true, cond_false, aop, Zg, ev, sput, Zf, Yg, Yl, Nat.reduceBEq, tyf, rA0, loadR0 c6F, loadR0 c8]
      refine hN12 [(0, Zd (m : Nat)), (1, v), (4, .bool false), (5, Zd (k : Nat)), (6, .pointer (some ⟨hp.length, 0, none⟩)), (8, .pointer (some ⟨F.length, 0, none⟩)), (22, v), (23, Zd l.length), (24, Zd (k : Nat)), (46, v'), (47, Zd (k : Nat)), (48, Zd (j : Nat)), (56, .bool (x == x2))] _ _ ?_ (by simp (maxSteps := 2000000) only [vup, cond_true, cond_false, Nat.reduceBEq])
      clear hN12
      try clear N12
      cases hxx : (x == x2) with
      | true =>
        refine Zk ?_
        simp (maxSteps := 2000000) only [↓Za, ↓Zw, ↓Zz, ↓Zb, ↓Zc, ↓vdn, vup, cond_true, cond_false, aop, Zg, Zr, ev, sput, Zf, Nat.reduceBEq]
        refine hQb _ _ _ (hQa _ _ _ ?_)
        simp (maxSteps := 2000000) only [Zg, Zr]
        refine ret0 ?_ _ _ (hEG.trans hEF2) rfl
        have : ((l.take k).any fun z => z.1 == x) = true := by
          rw [List.any_eq_true]
          refine ⟨(x2, y2), hgj ▸ Vs hjl, ?_⟩
          rw [beq_iff_eq] at hxx
          simp [hxx]
        rw [this]; simp
      | false =>
        refine Zk ?_
        simp (maxSteps := 2000000) only [↓Zu, ↓vdn, vup, cond_true, cond_false, Zg, Zr, ev, Nat.reduceBEq]
        refine hD [(0, Zd (m : Nat)), (1, v), (4, .bool false), (5, Zd (k : Nat)), (6, .pointer (some ⟨hp.length, 0, none⟩)), (22, v), (23, Zd l.length), (24, Zd (k : Nat)), (46, v'), (47, Zd (k : Nat)), (48, Zd (j : Nat))] _ _ ?_ (by simp (maxSteps := 2000000) only [vup, cond_true, cond_false, Nat.reduceBEq])
        clear hD
        try clear D
        refine Zk ?_
        simp (maxSteps := 2000000) only [↓Za, ↓Zb, ↓Zc, vup, cond_true, cond_false, aop, ev, sput, Zf, Yg, Yl, Nat.reduceBEq, add1 (show j < 9223372036854775807 by omega)]
        refine hQb _ _ _ ⟨(j + 1, F2), ⟨hj', ?_, hEF2⟩, by simp only; omega, by simp (maxSteps := 2000000) only [vup, cond_true, cond_false, Nat.reduceBEq], rfl⟩
        simp only [hts]
        rw [beq_eq_false_iff_ne] at hxx ⊢
        exact fun h => hxx h.symm
    · obtain rfl : k = j := by omega
      refine Ze fun N13 hN13 => ?_
      simp (maxSteps := 2000000) only [↓Za, ↓Zb, ↓Zc, vup, cond_true, cond_false, aop, Zg, ev, sput, Zf, Yg, Yl, Nat.reduceBEq, hjin]
      refine hN13 [(0, Zd (m : Nat)), (1, v), (4, .bool false), (5, Zd (k : Nat)), (6, .pointer (some ⟨hp.length, 0, none⟩)), (22, v), (23, Zd l.length), (24, Zd (k : Nat)), (46, v'), (47, Zd (k : Nat)), (48, Zd (k : Nat)), (49, .bool false)] _ _ ?_ (by simp (maxSteps := 2000000) only [vup, cond_true, cond_false, Nat.reduceBEq])
      clear hN13
      try clear N13
      refine Ze fun N14 hN14 => ?_
      simp (maxSteps := 2000000) only [↓Xa, ↓vdn, vup, cond_true, cond_false, Zg, ev, Nat.reduceBEq]
      refine hQb _ _ _ (hQa _ _ _ ?_)
      simp (maxSteps := 2000000) only [Zg, Zr, if_true]
      refine hB [(0, Zd (m : Nat)), (1, v), (4, .bool false), (22, v), (23, Zd l.length), (24, Zd (k : Nat)), (49, .bool false)] _ _ ?_ (by simp (maxSteps := 2000000) only [vup, cond_true, cond_false, Nat.reduceBEq])
      clear hB
      try clear B
      refine Zk ?_
      simp (maxSteps := 2000000) only [↓Za, ↓Zb, ↓Zc, vup, cond_true, cond_false, aop, ev, sput, Zf, Yg, Yl, Nat.reduceBEq, add1 (show k < 9223372036854775807 by omega)]
      refine hQ2 _ _ _ ⟨(k + 1, F), ⟨hk', ?_, hEG.trans hEF⟩, by simp only; omega, by simp (maxSteps := 2000000) only [vup, cond_true, cond_false, Nat.reduceBEq], rfl⟩
      simp only [validTo_succ, hall, hxy, hok, hno]; rfl
  · obtain rfl : k = l.length := by omega
    refine Ze fun N15 hN15 => ?_
    simp (maxSteps := 2000000) only [↓Za, ↓Zb, ↓Zc, vup, cond_true, cond_false, aop, Zg, ev, sput, Zf, Yg, Yl, Nat.reduceBEq, hin]
    refine hN15 [(0, Zd (m : Nat)), (1, v), (4, .bool false), (22, v), (23, Zd l.length), (24, Zd l.length), (25, .bool false)] _ _ ?_ (by simp (maxSteps := 2000000) only [vup, cond_true, cond_false, Nat.reduceBEq])
    clear hN15
    try clear N15
    refine Ze fun N16 hN16 => ?_
    simp (maxSteps := 2000000) only [↓Xa, ↓vdn, vup, cond_true, cond_false, Zg, ev, Nat.reduceBEq]
    refine hQ2 _ _ _ (hQ _ _ _ ?_)
    simp (maxSteps := 2000000) only [Zg, Zr, Zv, if_true]
    refine hZ [(0, Zd (m : Nat)), (1, v), (4, .bool false), (22, v), (23, Zd l.length), (24, Zd l.length), (25, .bool false)] _ _ ?_ (by simp (maxSteps := 2000000) only [vup, cond_true, cond_false, Nat.reduceBEq])
    clear hZ
    try clear Z
    refine Zk ?_
    simp (maxSteps := 2000000) only [↓Za, ↓Zw, ↓Zz, ↓Zb, ↓Zc, vup, cond_true, cond_false, aop, Zg, ev, sput, Zf, Nat.reduceBEq, Zv, Xw, tup, hall]
    exact hEp

theorem s18_callW [Tabs Try.prog] {args : List Value} {h : Zh} {Q : Value → Zh → Prop} (hsz : args.length ≤ 25) (hk : AWS Try.prog 25 s18 (Zv Try.prog [.tmp 2] Q) (Zt 0 args) h) : ACall Try.prog 18 args h Q :=
  Yn Try.func18 rfl (enters_of Try.func18 (by kernel_rfl) rfl) rfl rfl (by decide) s18_strip s18_ok hsz hk
theorem of_own [Tabs prog] {h : Zh} {v : Value} {l : List (Int × Int)} (hv : PairSl h v l) (hl : l.length < 9223372036854775808) : ACall prog 18 [v] h fun r h' => OwnP 92 h' r (l.take 9) ∧ Ext (fun _ => False) h h' ∧ ∀ b, Yf r = some b → h.length ≤ b := by
  have bldB : ∀ {x y : Int} {K : Value → Prop}, Vc prog 92 [(0, Zd x), (1, Zd y)] K = K (.agg #[Zd x, Zd y]) := fun {x y K} => by
    simp [Vc, zero_92, fillL, pl_92_0, pl_92_1, Wr, cellsOf, Ye]
  have lit : ∀ {h : Zh} {x y : Int} {K : Value → Zh → Prop}, Yp prog h 30 1 [(0, .agg #[Zd x, Zd y])] K = K (.slice (some ⟨h.length, 0, none⟩) 1 1) (h ++ [.ints [x, y] 92 false]) := fun {h x y K} => by
    simp only [Yp, el_30, zero_92, esz_92, reps, fillL, mkb, Wr, cellsOf, List.length_cons, List.length_nil, Nat.zero_add, Nat.zero_mul, Ye]
    refine propext ⟨fun h => ?_, fun h => ⟨trivial, by decide, by decide, ?_⟩⟩
    · simpa [Xk] using h.2.2.2
    · simpa [Xk] using h
  refine s18_callW (by simp) ?_
  simp only [s18]
  refine Ze fun N17 hN17 => ?_
  simp (maxSteps := 2000000) only [↓Za, ↓Zb, ↓Zc, vup, cond_false, aop, Zg, Zt, ev, sput, Zf, Nat.reduceBEq]
  refine hN17 [(0, v), (2, .slice none 0 0)] _ _ ?_ (by simp (maxSteps := 2000000) only [vup, cond_true, cond_false, Nat.reduceBEq])
  clear hN17
  try clear N17
  refine Ze fun N18 hN18 => ?_
  simp (maxSteps := 2000000) only [↓Za, ↓Zb, ↓Zc, vup, cond_false, aop, Zg, ev, sput, Zf, Nat.reduceBEq]
  refine hN18 [(0, v), (2, .slice none 0 0), (3, .slice none 0 0)] _ _ ?_ (by simp (maxSteps := 2000000) only [vup, cond_true, cond_false, Nat.reduceBEq])
  clear hN18
  try clear N18
  refine Zm fun Z hZ => ?_
  refine Ze fun N19 hN19 => ?_
  simp (maxSteps := 2000000) only [↓Za, ↓Zb, ↓Zc, vup, List.map_cons, List.map_nil, cond_true, cond_false, aop, Zg, ev, sput, Zf, Zl, Nat.reduceBEq, tyf, hv.len]
  refine hN19 [(0, v), (2, .slice none 0 0), (3, .slice none 0 0), (6, v), (7, Zd l.length), (8, .int .i64 0)] _ _ ?_ (by simp (maxSteps := 2000000) only [vup, cond_true, cond_false, Nat.reduceBEq])
  clear hN19
  try clear N19
  refine Zn ?_
  refine Zs fun Q hQ => ?_
  refine Yu (γ := Nat × Value × Zh) (fun s => s.1 ≤ l.length ∧ OwnP 92 s.2.2 s.2.1 ((l.take 9).take s.1) ∧ Ext (fun _ => False) h s.2.2 ∧ ∀ b, Yf s.2.1 = some b → h.length ≤ b)
    (fun s => ([(0, v), (2, .slice none 0 0), (3, s.2.1), (6, v), (7, Zd l.length), (8, Zd (s.1 : Nat))], s.2.2)) (fun s => l.length - s.1) (0, .slice none 0 0, h) ⟨Nat.zero_le _, .inl ⟨rfl, by simp⟩, Ext.refl _ _, fun b hb => by cases hb⟩ (by simp (maxSteps := 2000000) only [vup, cond_true, cond_false, Nat.reduceBEq, Int.natCast_zero]) rfl ?_
  rintro ⟨k, x, H⟩ ⟨hk, ho, hE, hbx⟩
  simp only at hk ho hE hbx
  refine Zs fun Q2 hQ2 => ?_
  simp only [l18_0]
  by_cases hin : (k : Int) < l.length
  · have hk' : k < l.length := by omega
    have hvH := hv.ext hE
    obtain ⟨⟨a, b⟩, hab⟩ : ∃ p, l.getD k (0, 0) = p := ⟨_, rfl⟩
    obtain ⟨G, hG⟩ : ∃ G, G = H ++ [rB a b] := ⟨_, rfl⟩
    have c5 : G[H.length]? = some (rB a b) := by rw [hG]; exact Zy _ _
    have hEG : Ext (fun _ => False) H G := by rw [hG]; exact Ext.app _ _ _
    refine Ze fun N20 hN20 => ?_
    simp (maxSteps := 2000000) only [↓Za, ↓Zb, ↓Zc, vup, cond_true, cond_false, aop, Zg, ev, sput, Zf, Yg, Yl, Nat.reduceBEq, hin]
    refine hN20 [(0, v), (2, .slice none 0 0), (3, x), (6, v), (7, Zd l.length), (8, Zd (k : Nat)), (9, .bool true)] _ _ ?_ (by simp (maxSteps := 2000000) only [vup, cond_true, cond_false, Nat.reduceBEq])
    clear hN20
    try clear N20
    refine Ze fun N21 hN21 => ?_
    simp (maxSteps := 2000000) only [↓Zu, ↓vdn, vup, cond_true, cond_false, Zg, ev, Nat.reduceBEq]
    refine hN21 [(0, v), (2, .slice none 0 0), (3, x), (6, v), (7, Zd l.length), (8, Zd (k : Nat))] _ _ ?_ (by simp (maxSteps := 2000000) only [vup, cond_true, cond_false, Nat.reduceBEq])
    clear hN21
    try clear N21
    refine Zm fun B hB => ?_
    refine Zn ?_
    refine Ze fun N22 hN22 => ?_
    simp (maxSteps := 2000000) only [↓Za, ↓Zb, ↓Zc, vup, cond_true, cond_false, aop, Zg, ev, sput, Zf, Nat.reduceBEq, tyf, hvH.idx el_22 esz_24 hk', hvH.load shp_24 hk', hab, Xm, Yi, storeRt (Zy H zR) rfl, Wf]
    rw [← hG]
    refine hN22 [(0, v), (2, .slice none 0 0), (3, x), (4, Zd (k : Nat)), (5, .pointer (some ⟨H.length, 0, none⟩)), (6, v), (7, Zd l.length), (8, Zd (k : Nat))] _ _ ?_ (by simp (maxSteps := 2000000) only [vup, cond_true, cond_false, Nat.reduceBEq])
    clear hN22
    try clear N22
    by_cases h9 : (k : Int) < 9
    · refine Ze fun N23 hN23 => ?_
      simp (maxSteps := 2000000) only [↓Za, ↓Zb, ↓Zc, vup, cond_true, cond_false, aop, Zg, ev, sput, Zf, Yg, Yl, Nat.reduceBEq, h9]
      refine hN23 [(0, v), (2, .slice none 0 0), (3, x), (4, Zd (k : Nat)), (5, .pointer (some ⟨H.length, 0, none⟩)), (6, v), (7, Zd l.length), (8, Zd (k : Nat)), (14, .bool true)] _ _ ?_ (by simp (maxSteps := 2000000) only [vup, cond_true, cond_false, Nat.reduceBEq])
      clear hN23
      try clear N23
      refine Xl rfl ?_
      refine Zk ?_
      simp (maxSteps := 2000000) only [↓Za, ↓Zb, ↓Zc, vup, List.map_cons, List.map_nil, cond_true, cond_false, aop, Zg, Zr, ev, sput, Zf, Zl, Nat.reduceBEq, rA0, rA1, loadR0 c5, loadR1 c5, bldB, lit]
      refine OwnP.append (x := a) (y := b) ((ho.ext hEG).ext (Ext.app _ _ _)) app_30_30 (by simp; omega) (Zy _ _) ?_
      intro x' h' ho' hE' hb'
      have e1 : (l.take 9).take k ++ [(a, b)] = (l.take 9).take (k + 1) := by
        have hk9 : k < (l.take 9).length := by rw [List.length_take]; omega
        have hg : (l.take 9).getD k (0, 0) = (a, b) := by rw [← hab, List.getD, List.getD, List.getElem?_take, if_pos (by omega)]
        rw [take_snoc (d := ((0, 0) : Int × Int)) hk9, hg]
      rw [e1] at ho'
      have hEn := ext_app (hE.trans hEG) (H' := G ++ [Blk.ints [a, b] 92 false]) (by simp) (fun z hz => List.getElem?_append_left (by have := (hE.trans hEG).1; omega)) (fun b hb => hbx b hb) hE'
      refine hB [(0, v), (2, .slice none 0 0), (3, x'), (6, v), (7, Zd l.length), (8, Zd (k : Nat))] _ _ ?_ (by simp (maxSteps := 2000000) only [vup, cond_true, cond_false, Nat.reduceBEq])
      clear hB
      try clear B
      refine Zk ?_
      simp (maxSteps := 2000000) only [↓Za, ↓Zb, ↓Zc, vup, cond_true, cond_false, aop, ev, sput, Zf, Yg, Yl, Nat.reduceBEq, add1 (show k < 9223372036854775807 by omega)]
      refine hQ2 _ _ _ ⟨(k + 1, x', h'), ⟨hk', ho', hEn, fun b hb0 => ?_⟩, by simp only; omega, by simp (maxSteps := 2000000) only [vup, cond_true, cond_false, Nat.reduceBEq], rfl⟩
      simp only at hb0
      rcases hb' with hb' | ⟨b', hb1, hb2⟩
      · exact hbx b (hb' ▸ hb0)
      · rw [hb1] at hb0; cases hb0
        rw [List.length_append] at hb2
        have := (hE.trans hEG).1; omega
    · refine Ze fun N24 hN24 => ?_
      simp (maxSteps := 2000000) only [↓Za, ↓Zb, ↓Zc, vup, cond_true, cond_false, aop, Zg, ev, sput, Zf, Yg, Yl, Nat.reduceBEq, h9]
      refine hN24 [(0, v), (2, .slice none 0 0), (3, x), (4, Zd (k : Nat)), (5, .pointer (some ⟨H.length, 0, none⟩)), (6, v), (7, Zd l.length), (8, Zd (k : Nat)), (14, .bool false)] _ _ ?_ (by simp (maxSteps := 2000000) only [vup, cond_true, cond_false, Nat.reduceBEq])
      clear hN24
      try clear N24
      refine Xb rfl ?_
      refine Zk ?_
      simp (maxSteps := 2000000) only [↓Zu, Zg, Zr]
      refine hB [(0, v), (2, .slice none 0 0), (3, x), (6, v), (7, Zd l.length), (8, Zd (k : Nat))] _ _ ?_ (by simp (maxSteps := 2000000) only [vup, cond_true, cond_false, Nat.reduceBEq])
      clear hB
      try clear B
      refine Zk ?_
      simp (maxSteps := 2000000) only [↓Za, ↓Zb, ↓Zc, vup, cond_true, cond_false, aop, ev, sput, Zf, Yg, Yl, Nat.reduceBEq, add1 (show k < 9223372036854775807 by omega)]
      have e1 : (l.take 9).take (k + 1) = (l.take 9).take k := by
        rw [List.take_of_length_le (l := l.take 9) (by rw [List.length_take]; omega), List.take_of_length_le (l := l.take 9) (by rw [List.length_take]; omega)]
      refine hQ2 _ _ _ ⟨(k + 1, x, G), ⟨hk', by simp only; rw [e1]; exact ho.ext hEG, hE.trans hEG, hbx⟩, by simp only; omega, by simp (maxSteps := 2000000) only [vup, cond_true, cond_false, Nat.reduceBEq], rfl⟩
  · obtain rfl : k = l.length := by omega
    refine Ze fun N25 hN25 => ?_
    simp (maxSteps := 2000000) only [↓Za, ↓Zb, ↓Zc, vup, cond_true, cond_false, aop, Zg, ev, sput, Zf, Yg, Yl, Nat.reduceBEq, hin]
    refine hN25 [(0, v), (2, .slice none 0 0), (3, x), (6, v), (7, Zd l.length), (8, Zd l.length), (9, .bool false)] _ _ ?_ (by simp (maxSteps := 2000000) only [vup, cond_true, cond_false, Nat.reduceBEq])
    clear hN25
    try clear N25
    refine Ze fun N26 hN26 => ?_
    simp (maxSteps := 2000000) only [↓Xa, ↓vdn, vup, cond_true, cond_false, Zg, ev, Nat.reduceBEq]
    refine hQ2 _ _ _ (hQ _ _ _ ?_)
    simp (maxSteps := 2000000) only [Zg, Zr, Zv, if_true]
    refine hZ [(0, v), (2, .slice none 0 0), (3, x), (9, .bool false)] _ _ ?_ (by simp (maxSteps := 2000000) only [vup, cond_true, cond_false, Nat.reduceBEq])
    clear hZ
    try clear Z
    have e1 : (l.take 9).take l.length = l.take 9 := List.take_of_length_le (l := l.take 9) (by rw [List.length_take]; omega)
    rw [e1] at ho
    refine Zk ?_
    simp (maxSteps := 2000000) only [↓Za, ↓Zw, ↓Zz, ↓Zb, ↓Zc, vup, cond_true, cond_false, aop, Zg, ev, sput, Zf, Nat.reduceBEq, Zv, Xw, tup]
    exact ⟨ho, hE, hbx⟩
theorem of_copy [Tabs prog] {h : Zh} {v : Value} {l : List (Int × Int)} (hv : PairSl h v l) (hl : l.length < 9223372036854775808) : ACall prog 18 [v] h fun r h' => PairSl h' r (l.take 9) ∧ Ext (fun _ => False) h h' :=
  (of_own hv hl).mono fun _ _ h => ⟨h.1.pair, h.2.1⟩
end Go.Proofs.Try.Am

namespace Go.Proofs.Try.Am
open Go.Am Bq
set_option maxRecDepth 100000
set_option maxHeartbeats 4000000

def agB (l ps : List (Int × Int)) : Bool := decide (Zo (fq ps) ps.length = 1) && l.all fun b => decide (Zo (inEv (fq ps) b.1.toNat) ps.length = Rat.divInt b.2 12)

theorem s109_callW [Tabs Try.prog] {args : List Value} {h : Zh} {Q : Value → Zh → Prop} (hsz : args.length ≤ 12) (hk : AWS Try.prog 12 s109 (Zv Try.prog [.tmp 3] Q) (Zt 0 args) h) : ACall Try.prog 109 args h Q :=
  Yn Try.func109 rfl (enters_of Try.func109 (by kernel_rfl) rfl) rfl rfl (by decide) s109_strip s109_ok hsz hk
theorem agrees1_call [Tabs prog] {h : Zh} {bb e : Nat} {c : Int} {w : Value} {ps : List (Int × Int)} (hb : h[bb]? = some (.cells [w] 90 false)) (hw : PairSl h w ps) (hl : ps.length ≤ 100) (cn : Chn ps) (he : e < 9223372036854775808) (hc : 0 ≤ c ∧ c ≤ 12) :
    Xi prog 109 [.agg #[Zd (e : Nat), Zd c], .pointer (some ⟨bb, 0, none⟩)] h (.bool (decide (Zo (inEv (fq ps) e) ps.length = Rat.divInt c 12))) := by
  have hm := (mult_spec cn.m).2.2
  obtain ⟨H, hH⟩ : ∃ H, H = h ++ [bB (e : Int) c] := ⟨_, rfl⟩
  have hE : Ext (fun _ => False) h H := by rw [hH]; exact Ext.app _ _ _
  have c2 : H[h.length]? = some (bB (e : Int) c) := by rw [hH]; exact Zy _ _
  have c1 : H[bb]? = some (.cells [w] 90 false) := (hE.2 _ (Yh hb) id).trans hb
  have hwH := hw.ext hE
  have ofc := of_call (h := H) (evt := e) (N := mult ps) hwH hl cn.vld he (Nat.pos_of_ne_zero cn.m) (by omega) (fun k hk => cn.unit hk)
  have fr := frac_call (h := H) (a := c) (b := 12) (by decide) (by omega) (by decide)
  obtain ⟨A, hA⟩ : ∃ A, Zo (inEv (fq ps) e) ps.length = A := ⟨_, rfl⟩
  obtain ⟨D, hD⟩ : ∃ D, Rat.divInt c 12 = D := ⟨_, rfl⟩
  rw [hA] at ofc ⊢
  rw [hD] at fr ⊢
  refine ACall.forget (Low.bool _) ?_
  refine s109_callW (by simp) ?_
  refine Zk ?_
  simp (maxSteps := 2000000) only [s109, ↓Za, ↓Zw, ↓Zb, ↓Zc, vup, cond_true, cond_false, aop, Zg, Zt, ev, sput, Zf, Nat.reduceBEq, Nat.reduceAdd, boxB, Yi]
  rw [← hH]
  simp only [q109_1]
  refine Xv [(3, 1), (6, 1)] (by kernel_rfl) (by kernel_rfl) (by kernel_rfl) (by kernel_rfl) ?_
  refine dops_cut 4 rfl fun N1 hN1 => ?_
  simp (maxSteps := 2000000) only [↓Yr, ↓vdn, vup, List.map_cons, List.map_nil, cond_true, cond_false, aop, ev, sput, Zf, Nat.reduceBEq, Nat.reduceAdd, List.take_succ_cons, List.take_zero, Vd c1 shp_90, bA0, loadB0 c2, Yv, List.nil_append, List.append_nil]
  refine ⟨_, _, ofc, rfl, ?_⟩
  refine hN1 _ _ ?_
  clear hN1 N1
  refine dops_cut 3 rfl fun N1 hN1 => ?_
  simp (maxSteps := 2000000) only [↓Yr, ↓vdn, vup, List.map_cons, List.map_nil, cond_true, cond_false, aop, ev, sput, Zf, Nat.reduceBEq, Nat.reduceAdd, List.drop_succ_cons, List.drop_zero, List.take_succ_cons, List.take_zero, bA1, loadB1 c2, Yv, List.nil_append, List.append_nil]
  refine ⟨_, _, fr, rfl, ?_⟩
  refine hN1 _ _ ?_
  clear hN1 N1
  simp (maxSteps := 2000000) only [↓Zz, ↓Yr, ↓vdn, vup, cond_true, cond_false, aop, Zg, ev, sput, Zf, Yg, Nat.reduceBEq, Nat.reduceAdd, Zv, Xw, tup, List.drop_succ_cons, List.drop_zero, qV, frV, Xk, Option.map_some, List.length_cons, List.length_nil, Nat.zero_add, eqF, qeq]
  exact hE

theorem loadBt {h : Zh} {b : Nat} {x y : Int} {K : Value → Prop} (hb : h[b]? = some (bB x y)) : Xn prog h 92 (.pointer (some ⟨b, 0, none⟩)) K = K (.agg #[Zd x, Zd y]) := loadA hb (by rw [shp_92]; rfl)
theorem s119_callW [Tabs Try.prog] {args : List Value} {h : Zh} {Q : Value → Zh → Prop} (hsz : args.length ≤ 8) (hk : AWS Try.prog 8 s119 (Zv Try.prog [.tmp 3] Q) (Zt 0 args) h) : ACall Try.prog 119 args h Q :=
  Yn Try.func119 rfl (enters_of Try.func119 (by kernel_rfl) rfl) rfl rfl (by decide) s119_strip s119_ok hsz hk
theorem notB_call [Tabs prog] {h : Zh} {b : Nat} {x y : Int} {g : FuncId} {cap : Array Value} {t : Bool} (hb : h[b]? = some (.cells [.func (.func g) #[] cap] 112 false))
    (hc : ∀ h', Ext (fun _ => False) h h' → Xi prog g ([.agg #[Zd x, Zd y]] ++ cap.toList) h' (.bool t)) : Xi prog 119 [.agg #[Zd x, Zd y], .pointer (some ⟨b, 0, none⟩)] h (.bool (!t)) := by
  refine ACall.forget (Low.bool _) ?_
  refine s119_callW (by simp) ?_
  refine Zk ?_
  simp (maxSteps := 2000000) only [s119, ↓Za, ↓Zw, ↓Zz, ↓Zb, ↓Zc, vup, List.map_cons, List.map_nil, cond_true, cond_false, aop, Zg, Zt, ev, sput, Zf, unK, Nat.reduceBEq, Nat.reduceAdd, Zv, Xw, tup, boxB, Yi, Vd (Xu hb _) shp_112, loadBt (Zy h _), Yv, List.nil_append]
  refine (show Xi prog g ([.agg #[Zd x, Zd y]] ++ cap.toList) (h ++ [bB x y]) (.bool t) from hc _ (Ext.app _ _ _)).mono ?_
  rintro _ _ ⟨rfl, rfl⟩
  simp (maxSteps := 2000000) only [vup]
  exact Ext.app _ _ _

theorem s108_callW [Tabs Try.prog] {args : List Value} {h : Zh} {Q : Value → Zh → Prop} (hsz : args.length ≤ 9) (hk : AWS Try.prog 9 s108 (Zv Try.prog [.tmp 4] Q) (Zt 0 args) h) : ACall Try.prog 108 args h Q :=
  Yn Try.func108 rfl (enters_of Try.func108 (by kernel_rfl) rfl) rfl rfl (by decide) s108_strip s108_ok hsz hk
theorem everyB_call [Tabs prog] {h : Zh} {v : Value} {ps : List (Int × Int)} {g : FuncId} {cap : Array Value} {f : Int × Int → Bool} (hv : PairSl h v ps) (hl : ps.length < 9223372036854775808)
    (hc : ∀ h', Ext (fun _ => False) h h' → ∀ p ∈ ps, Xi prog g ([.agg #[Zd p.1, Zd p.2]] ++ cap.toList) h' (.bool (f p))) : Xi prog 108 [v, .func (.func g) #[] cap] h (.bool (ps.all f)) := by
  obtain ⟨H, hH⟩ : ∃ H, H = h ++ [Blk.cells [.func (.func g) #[] cap] 112 false] := ⟨_, rfl⟩
  have hE : Ext (fun _ => False) h H := by rw [hH]; exact Ext.app _ _ _
  have c0 : H[h.length]? = some (Blk.cells [.func (.func g) #[] cap] 112 false) := by rw [hH]; exact Zy _ _
  have key := hasB_call (h := H) (g := 119) (cap := #[.pointer (some ⟨h.length, 0, none⟩)]) (f := fun p => !f p) (hv.ext hE) hl (fun h' hx p hp => notB_call ((hx.2 _ (Yh c0) id).trans c0) fun h2 hx2 => hc h2 (hE.trans (hx.trans hx2)) p hp)
  refine ACall.forget (Low.bool _) ?_
  refine s108_callW (by simp) ?_
  refine Zk ?_
  have hbx : ∀ {K : Value → Zh → Prop}, boxK prog h 112 (.func (.func g) #[] cap) K = K (Yi h) H := fun {K} => by
    rw [hH]; simp [boxK, esz_112, Yi, cellsOf]
  simp (maxSteps := 2000000) only [s108, ↓Za, ↓Zw, ↓Zz, ↓Zb, ↓Zc, vup, List.map_cons, List.map_nil, cond_true, cond_false, aop, Zg, Zt, ev, sput, Zf, unK, Nat.reduceBEq, Nat.reduceAdd, Zv, Xw, tup, Yv, List.nil_append, List.append_nil, hbx, Yi, List.map_toArray]
  refine (key).mono ?_
  rintro _ H ⟨rfl, rfl⟩
  simp (maxSteps := 2000000) only [vup, any_not]
  exact hE

theorem boxS [Tabs prog] {h : Zh} {v : Value} {xs : List (Int × Int)} (hv : PairSl h v xs) {K : Value → Zh → Prop} : boxK prog h 90 v K = K (Yi h) (h ++ [.cells [v] 90 false]) := by
  rcases hv with ⟨rfl, rfl⟩ | ⟨b, o, sp, cap, c, e, ro, rfl, _⟩ <;> simp [boxK, esz_90, Yi, cellsOf]

theorem s76_callW [Tabs Try.prog] {args : List Value} {h : Zh} {Q : Value → Zh → Prop} (hsz : args.length ≤ 17) (hk : AWS Try.prog 17 s76 (Zv Try.prog [.tmp 4] Q) (Zt 0 args) h) : ACall Try.prog 76 args h Q :=
  Yn Try.func76 rfl (enters_of Try.func76 (by kernel_rfl) rfl) rfl rfl (by decide) s76_strip s76_ok hsz hk
theorem agrees_call [Tabs prog] {h : Zh} {n : Nat} {v w : Value} {l ps : List (Int × Int)} (hv : PairSl h v l) (hw : PairSl h w ps) (hval : Yz n l = true) (hpl : ps.length = n) (cn : Chn ps) :
    Xi prog 76 [.agg #[Zd (n : Nat), v], w] h (.bool (agB l ps)) := by
  obtain ⟨hn2, hn5, hl1, hl6, hok⟩ := We hval
  have hm := (mult_spec cn.m).2.2
  obtain ⟨H1, hH1⟩ : ∃ H, H = h ++ [Blk.cells [Zd (n : Nat), v] 86 false] := ⟨_, rfl⟩
  have hE1 : Ext (fun _ => False) h H1 := by rw [hH1]; exact Ext.app _ _ _
  have hw1 := hw.ext hE1
  obtain ⟨H, hH⟩ : ∃ H, H = H1 ++ [Blk.cells [w] 90 false] := ⟨_, rfl⟩
  have hE2 : Ext (fun _ => False) H1 H := by rw [hH]; exact Ext.app _ _ _
  have hE := hE1.trans hE2
  have b3 : H[H1.length]? = some (.cells [w] 90 false) := by rw [hH]; exact Zy _ _
  have b2 : H[h.length]? = some (.cells [Zd (n : Nat), v] 86 false) := by rw [hH, hH1]; exact Xu (Zy _ _) _
  have hvH := hv.ext hE
  have hwH := hw.ext hE
  have hl1' : H1.length = h.length + 1 := by rw [hH1]; simp
  refine ACall.forget (Low.bool _) ?_
  refine s76_callW (by simp) ?_
  simp only [s76]
  refine Ze fun N1 hN1 => ?_
  simp (maxSteps := 2000000) only [↓Za, ↓Zb, ↓Zc, vup, cond_true, cond_false, aop, Zg, Zt, ev, sput, Zf, Nat.reduceBEq, Nat.reduceAdd, boxT, Yi]
  rw [← hH1]
  simp (maxSteps := 2000000) only [boxS hw1, Yi]
  rw [← hH]
  refine hN1 [(2, .pointer (some ⟨h.length, 0, none⟩)), (3, .pointer (some ⟨H1.length, 0, none⟩)), (4, .bool false)] _ _ ?_ (by simp (maxSteps := 2000000) only [vup, cond_true, cond_false, Nat.reduceBEq])
  clear hN1
  try clear N1
  have ofc := of_call (h := H) (evt := 2 ^ n - 1) (N := mult ps) hwH (by omega) cn.vld (by have := pow_le (show n ≤ 62 by omega); omega) (Nat.pos_of_ne_zero cn.m) (by omega) (fun k hk => cn.unit hk)
  rw [hpl, inEv_all] at ofc
  have wc : Xi prog 70 [Zd 1] H (qV ((1 : Int) : Rat)) := Vp
  have hag : agB l ps = (decide (Zo (fq ps) n = ((1 : Int) : Rat)) && l.all fun b => decide (Zo (inEv (fq ps) b.1.toNat) n = Rat.divInt b.2 12)) := by rw [agB, hpl]; rfl
  rw [hag]
  obtain ⟨A, hA⟩ : ∃ A, Zo (fq ps) n = A := ⟨_, rfl⟩
  obtain ⟨one, hone⟩ : ∃ A : Rat, ((1 : Int) : Rat) = A := ⟨_, rfl⟩
  rw [hA] at ofc
  rw [hone] at wc
  rw [hA, hone]
  have ne : ([A.num, (A.den : Int)] != [one.num, (one.den : Int)]) = !decide (A = one) := by rw [bne, qeq]
  have hev := everyB_call (h := H) (g := 109) (cap := #[.pointer (some ⟨H1.length, 0, none⟩)]) (f := fun b => decide (Zo (inEv (fq ps) b.1.toNat) n = Rat.divInt b.2 12)) hvH (by omega) (fun h' hx p hp => by
    obtain ⟨i, hi, hip⟩ := List.getElem_of_mem hp
    have hb := hok i hi
    have hgi : l.getD i (0, 0) = p := by rw [List.getD, List.getElem?_eq_getElem hi]; exact hip
    rw [hgi] at hb
    simp only [okB, Bool.and_eq_true, decide_eq_true_eq] at hb
    obtain ⟨x, y⟩ := p
    simp only at hb ⊢
    obtain ⟨e, he⟩ : ∃ e : Nat, x = e := ⟨x.toNat, by omega⟩
    subst he
    have hee : e < 2 ^ n := by
      have := hb.2.1
      exact_mod_cast this
    have := pow_le (show n ≤ 62 by omega)
    have key := agrees1_call (h := h') (e := e) (c := y) ((hx.2 _ (Yh b3) id).trans b3) (hwH.ext hx) (by omega) cn (by omega) hb.2.2
    rw [hpl] at key
    exact key)
  refine Zm fun M hM => ?_
  refine Ze fun N2 hN2 => ?_
  simp only [q76_1]
  refine Xv [(5, 1), (6, 1)] (by kernel_rfl) (by kernel_rfl) (by kernel_rfl) (by kernel_rfl) ?_
  refine dops_cut 6 rfl fun N1 hN1 => ?_
  simp (maxSteps := 2000000) only [↓Yr, ↓vdn, vup, List.map_cons, List.map_nil, cond_true, cond_false, aop, ev, sput, Zf, Yg, Yl, Nat.reduceBEq, Nat.reduceAdd, tyf, List.take_succ_cons, List.take_zero, Vd b3 shp_90, tA0, Vz b2, shl1 (show n ≤ 62 by omega), all_worlds (show n ≤ 62 by omega), Int.natCast_nonneg, Yv, List.nil_append, List.append_nil]
  refine ⟨_, _, ofc, rfl, ?_⟩
  refine hN1 _ _ ?_
  clear hN1 N1
  refine dops_cut 1 rfl fun N1 hN1 => ?_
  simp (maxSteps := 2000000) only [↓Yr, ↓vdn, vup, List.map_cons, List.map_nil, cond_true, cond_false, ev, sput, Zf, Nat.reduceBEq, Nat.reduceAdd, List.drop_succ_cons, List.drop_zero, List.take_succ_cons, List.take_zero, Yv, List.nil_append, List.append_nil]
  refine ⟨_, _, wc, rfl, ?_⟩
  refine hN1 _ _ ?_
  clear hN1 N1
  simp (maxSteps := 2000000) only [↓Yr, ↓vdn, vup, cond_true, cond_false, aop, Zg, ev, sput, Zf, Yg, Nat.reduceBEq, Nat.reduceAdd, List.drop_succ_cons, List.drop_zero, qV, frV, Xk, Option.map_some, List.length_cons, List.length_nil, Nat.zero_add, eqF, ne]
  refine hN2 [(2, .pointer (some ⟨h.length, 0, none⟩)), (3, .pointer (some ⟨H1.length, 0, none⟩)), (4, .bool false), (12, .bool (!decide (A = one)))] _ _ ?_ (by simp (maxSteps := 2000000) only [vup, cond_true, cond_false, Nat.reduceBEq])
  clear hN2
  try clear N2
  by_cases h1 : A = one
  · have hd : decide (A = one) = true := decide_eq_true h1
    rw [hd]
    refine Xb rfl ?_
    refine Zk ?_
    simp (maxSteps := 2000000) only [↓Zu, vup, Zg]
    refine hM [(2, .pointer (some ⟨h.length, 0, none⟩)), (3, .pointer (some ⟨H1.length, 0, none⟩)), (4, .bool false)] _ _ ?_ (by simp (maxSteps := 2000000) only [vup, cond_true, cond_false, Nat.reduceBEq])
    clear hM
    try clear M
    refine Zk ?_
    simp (maxSteps := 2000000) only [↓Za, ↓Zw, ↓Zz, ↓Zb, ↓Zc, vup, List.map_cons, List.map_nil, cond_true, cond_false, aop, Zg, ev, sput, Zf, Nat.reduceBEq, Zv, Xw, tup, Yv, List.nil_append, List.append_nil, tA1, loadT1 b2, List.map_toArray]
    refine (hev).mono ?_
    rintro _ H ⟨rfl, rfl⟩
    simp (maxSteps := 2000000) only [vup, hd, Bool.true_and]
    exact hE
  · have hd : decide (A = one) = false := decide_eq_false h1
    rw [hd]
    refine Xl rfl ?_
    refine Zk ?_
    simp (maxSteps := 2000000) only [↓Za, ↓Zw, ↓Zz, ↓Zb, ↓Zc, vup, cond_true, cond_false, aop, Zg, ev, sput, Zf, Nat.reduceBEq, Zv, Xw, tup, Bool.false_and]
    exact hE

theorem s37_callW [Tabs Try.prog] {args : List Value} {h : Zh} {Q : Value → Zh → Prop} (hsz : args.length ≤ 29) (hk : AWS Try.prog 29 s37 (Zv Try.prog [.tmp 6, .tmp 7] Q) (Zt 0 args) h) : ACall Try.prog 37 args h Q :=
  Yn Try.func37 rfl (enters_of Try.func37 (by kernel_rfl) rfl) rfl rfl (by decide) s37_strip s37_ok hsz hk
theorem progAgrees_call [Tabs prog] {h : Zh} {n : Int} {v w : Value} {l ps : List (Int × Int)} (hv : PairSl h v l) (hl : l.length < 9223372036854775808) (hw : PairSl h w ps) (hlp : ps.length < 9223372036854775808) (hx : InR ps) :
    ACall prog 37 [Zd n, v, w] h fun r h' => Ext (fun _ => False) h h' ∧ r = if Yz n l = true ∧ chances n ps = true then .tuple #[.bool (agB l ps), .int .i64 0] else .tuple #[.bool false, .int .i64 2] := by
  obtain ⟨p, m, c, rfl⟩ := Vu hv
  obtain ⟨H, hH⟩ : ∃ H, H = h ++ [Blk.cells [Zd n, .slice p m c] 86 false] := ⟨_, rfl⟩
  have hE : Ext (fun _ => False) h H := by rw [hH]; exact Ext.app _ _ _
  have b8 : H[h.length]? = some (.cells [Zd n, .slice p m c] 86 false) := by rw [hH]; exact Zy _ _
  have hvH := hv.ext hE
  have hwH := hw.ext hE
  refine s37_callW (by simp) ?_
  simp only [s37]
  refine Ze fun N3 hN3 => ?_
  simp (maxSteps := 2000000) only [↓Za, ↓Zb, ↓Zc, vup, cond_false, aop, Zg, Zt, ev, sput, Zf, Nat.reduceBEq, Nat.reduceAdd]
  refine hN3 [(0, Zd n), (1, .slice p m c), (2, w), (6, .bool false), (7, .int .i64 0)] _ _ ?_ (by simp (maxSteps := 2000000) only [vup, cond_true, cond_false, Nat.reduceBEq])
  clear hN3
  try clear N3
  refine Ze fun N4 hN4 => ?_
  simp (maxSteps := 2000000) only [↓Za, ↓Zb, ↓Zc, vup, List.map_cons, List.map_nil, cond_true, cond_false, aop, Zg, ev, sput, Zf, Nat.reduceBEq, tyf, bldT, Xm, Yi, storeT (Zy h (.cells [.int .i64 0, .slice none 0 0] 86 false)) rfl, Wf]
  rw [← hH]
  refine hN4 [(0, Zd n), (2, w), (6, .bool false), (7, .int .i64 0), (8, .pointer (some ⟨h.length, 0, none⟩))] _ _ ?_ (by simp (maxSteps := 2000000) only [vup, cond_true, cond_false, Nat.reduceBEq])
  clear hN4
  try clear N4
  refine Zm fun M hM => ?_
  refine Ze fun N5 hN5 => ?_
  have bad : ¬ (Yz n l = true ∧ chances n ps = true) → ∀ e, ELe e [(0, Zd n), (2, w), (6, .bool false), (7, .int .i64 0), (8, .pointer (some ⟨h.length, 0, none⟩)), (25, .bool true)] → N5 e H := by
    intro hb e he
    refine hN5 _ _ _ ?_ he
    refine Xl rfl ?_
    refine Zk ?_
    simp (maxSteps := 2000000) only [↓Za, ↓Zw, ↓Zz, ↓Zb, ↓Zc, vup, cond_true, cond_false, aop, Zg, ev, sput, Zf, Nat.reduceBEq, Zv, Xw, tup]
    exact ⟨hE, by rw [if_neg hb]⟩
  simp (maxSteps := 2000000) only [↓Za, ↓Zc, vup, List.map_cons, List.map_nil, cond_true, cond_false, aop, ev, sput, Zf, unK, Nat.reduceBEq, Yv, List.nil_append, List.append_nil, loadT b8]
  refine (valid_call hvH hl).mono ?_
  rintro _ H ⟨rfl, rfl⟩
  cases hval : Yz n l with
  | false =>
    simp (maxSteps := 2000000) only [↓Zb, ↓Zc, ↓vdn, vup, cond_true, cond_false, aop, Zg, ev, sput, Zf, Nat.reduceBEq]
    exact bad (by rw [hval]; simp) _ (by simp (maxSteps := 2000000) only [vup, cond_true, cond_false, Nat.reduceBEq])
  | true =>
    by_cases hlen : (ps.length : Int) = n
    · have hne : (((ps.length : Nat) : Int) != n) = false := by simp [hlen]
      simp (maxSteps := 2000000) only [↓Zb, ↓Zc, ↓vdn, vup, List.map_cons, List.map_nil, cond_true, cond_false, aop, Zg, ev, sput, Zf, Yg, Yl, unK, Zl, Nat.reduceBEq, tyf, hwH.len, hne, Yv, List.nil_append, List.append_nil]
      refine (common_call hwH hlp hx).mono ?_
      rintro _ H ⟨rfl, rfl⟩
      have hch : chances n ps = (decide (mult ps ≠ 0) && ps.all fun p => decide (p.1 ≤ p.2)) := by rw [chances, decide_eq_true hlen, Bool.true_and]
      rw [← hch]
      cases hc : chances n ps with
      | false =>
        simp (maxSteps := 2000000) only [vup]
        exact bad (by rw [hc]; simp) _ (by simp (maxSteps := 2000000) only [vup, cond_true, cond_false, Nat.reduceBEq])
      | true =>
        simp (maxSteps := 2000000) only [vup]
        refine hN5 [(0, Zd n), (2, w), (6, .bool false), (7, .int .i64 0), (8, .pointer (some ⟨h.length, 0, none⟩)), (25, .bool false)] _ _ ?_ (by simp (maxSteps := 2000000) only [vup, cond_true, cond_false, Nat.reduceBEq])
        clear hN5
        try clear N5
        refine Xb rfl ?_
        refine Zk ?_
        simp (maxSteps := 2000000) only [↓Zu, Zg]
        refine hM [(0, Zd n), (2, w), (6, .bool false), (7, .int .i64 0), (8, .pointer (some ⟨h.length, 0, none⟩))] _ _ ?_ (by simp (maxSteps := 2000000) only [vup, cond_true, cond_false, Nat.reduceBEq])
        clear hM
        try clear M
        obtain ⟨cn, _⟩ := chances_chn hc
        obtain ⟨k, rfl⟩ : ∃ k : Nat, n = k := ⟨n.toNat, by omega⟩
        refine Zk ?_
        simp (maxSteps := 2000000) only [↓Za, ↓Zw, ↓Zz, ↓Zb, ↓Zc, vup, List.map_cons, List.map_nil, cond_true, cond_false, aop, Zg, ev, sput, Zf, Nat.reduceBEq, Zv, Xw, tup, Yv, List.nil_append, List.append_nil, loadT b8]
        refine (agrees_call hvH hwH hval (by omega) cn).mono ?_
        rintro _ H ⟨rfl, rfl⟩
        simp (maxSteps := 2000000) only [vup, if_pos (And.intro hval hc)]
        exact hE
    · have hne : (((ps.length : Nat) : Int) != n) = true := by simpa [bne] using hlen
      simp (maxSteps := 2000000) only [↓Zb, ↓Zc, ↓vdn, vup, List.map_cons, List.map_nil, cond_true, cond_false, aop, Zg, ev, sput, Zf, Yg, Yl, unK, Zl, Nat.reduceBEq, tyf, hwH.len, hne]
      exact bad (by rw [chances, decide_eq_false hlen, Bool.false_and]; simp) _ (by simp (maxSteps := 2000000) only [vup, cond_true, cond_false, Nat.reduceBEq])

end Go.Proofs.Try.Am

namespace Go.Proofs.Try.Am
open Go.Am Bq
set_option maxRecDepth 100000
set_option maxHeartbeats 1000000

end Go.Proofs.Try.Am

namespace Go.Proofs.Try.Am
open Go.Am Bq
set_option maxRecDepth 100000
set_option maxHeartbeats 1000000

end Go.Proofs.Try.Am

namespace Go.Proofs.Try.Am
open Go.Am Bq
set_option maxRecDepth 100000
set_option maxHeartbeats 1000000

end Go.Proofs.Try.Am

namespace Bq

def skp (i r : Nat) : Nat := if r < i then r else r + 1
def sgn : Nat → Rat
  | 0 => 1
  | n + 1 => - sgn n
def det : Nat → (Nat → Nat → Rat) → Rat
  | 0, _ => 1
  | n + 1, M => Zo (fun i => sgn i * M 0 i * det n (fun c r => M (c + 1) (skp i r))) (n + 1)

theorem skp_lt {i r n : Nat} (h : r < n) : skp i r < n + 1 := by rw [skp]; split <;> omega
theorem Wx : ∀ (n : Nat) {M N : Nat → Nat → Rat}, (∀ c r, c < n → r < n → M c r = N c r) → det n M = det n N
  | 0, _, _, _ => rfl
  | n + 1, M, N, h => by
    rw [det, det]
    refine Zj fun i hi => ?_
    rw [h 0 i (by omega) hi, Wx n fun c r hc hr => h (c + 1) (skp i r) (by omega) (skp_lt hr)]
theorem det_lin {n : Nat} {M : Nat → Nat → Rat} (a b : Nat → Rat) (s : Rat) (h : ∀ r, r < n + 1 → M 0 r = a r + s * b r) :
    det (n + 1) M = det (n + 1) (fun c => if c = 0 then a else M c) + s * det (n + 1) (fun c => if c = 0 then b else M c) := by
  simp only [det, if_true]
  rw [← Ys, ← Wa]
  refine Zj fun i hi => ?_
  simp only [show ∀ c, (c + 1 = 0) = False from fun c => by simp, if_false]
  rw [h i hi]; grind
theorem Xp {g : Nat → Rat} {n : Nat} (h : ∀ i, i < n → g i = 0) : Zo g n = 0 := by
  induction n with
  | zero => rfl
  | succ n ih => rw [Zo, ih fun i hi => h i (by omega), h n (by omega)]; exact Rat.zero_add _
theorem det_zero {n : Nat} {M : Nat → Nat → Rat} (h : ∀ r, r < n + 1 → M 0 r = 0) : det (n + 1) M = 0 := by
  rw [det]
  refine Xp fun i hi => ?_
  rw [h i hi]; grind
theorem sgn_sq (a : Nat) : sgn a * sgn a = 1 := by
  induction a with
  | zero => rw [sgn, Rat.mul_one]
  | succ a ih => rw [sgn]; grind
theorem sum_pairs (t : Nat → Nat → Rat) : ∀ N, Zo (fun i => Zo (fun j => t i j) N) (N + 1) = Zo (fun i => Zo (fun j => t i j + t j (i - 1)) i) (N + 1)
  | 0 => rfl
  | N + 1 => by
    have ih := sum_pairs t N
    rw [Zo]
    have e : Zo (fun i => Zo (fun j => t i j) (N + 1)) (N + 1) = Zo (fun i => Zo (fun j => t i j) N + t i N) (N + 1) := Zj fun i hi => rfl
    rw [e, Wa, ih]
    conv => rhs; rw [Zo]
    rw [Wa (fun j => t (N + 1) j) (fun j => t j (N + 1 - 1)) (N + 1), show N + 1 - 1 = N from rfl]
    grind
theorem skp_skp {i j r : Nat} (h : j < i) : skp i (skp j r) = skp j (skp (i - 1) r) := by
  simp only [skp]
  by_cases h1 : r < j
  · simp [h1, show r < i by omega, show r < i - 1 by omega]
  · by_cases h2 : r < i - 1
    · simp [h1, h2, show r + 1 < i by omega]
    · simp [h1, h2, show ¬ r + 1 < i by omega, show ¬ r + 1 < j by omega]
def swp (a : Nat) (c : Nat) : Nat := if c = a then a + 1 else if c = a + 1 then a else c
theorem det_two (n : Nat) (M : Nat → Nat → Rat) : det (n + 2) M = Zo (fun i => Zo (fun j => sgn i * sgn j * (M 0 i * M 1 j - M 0 j * M 1 i) * det n (fun c r => M (c + 2) (skp i (skp j r)))) i) (n + 2) := by
  have e1 : det (n + 2) M = Zo (fun i => Zo (fun j => sgn i * M 0 i * (sgn j * M 1 (skp i j) * det n (fun c r => M (c + 2) (skp i (skp j r))))) (n + 1)) (n + 2) := by
    rw [det]
    refine Zj fun i hi => ?_
    rw [det, Ys]
  rw [e1, sum_pairs]
  refine Zj fun i hi => Zj fun j hj => ?_
  have h1 : skp i j = j := by rw [skp, if_pos hj]
  have h2 : skp j (i - 1) = i := by rw [skp, if_neg (by omega)]; omega
  have h3 : det n (fun c r => M (c + 2) (skp j (skp (i - 1) r))) = det n (fun c r => M (c + 2) (skp i (skp j r))) := Wx n fun c r hc hr => by rw [skp_skp hj]
  have h4 : sgn i = - sgn (i - 1) := by
    obtain ⟨i, rfl⟩ : ∃ k, i = k + 1 := ⟨i - 1, by omega⟩
    rfl
  rw [h1, h2, h3, h4]; grind
theorem det_swp : ∀ (a n : Nat) (M : Nat → Nat → Rat), a + 1 < n → det n (fun c => M (swp a c)) = - det n M
  | 0, n, M, h => by
    obtain ⟨n, rfl⟩ : ∃ k, n = k + 2 := ⟨n - 2, by omega⟩
    rw [det_two, det_two]
    have e : - Zo (fun i => Zo (fun j => sgn i * sgn j * (M 0 i * M 1 j - M 0 j * M 1 i) * det n (fun c r => M (c + 2) (skp i (skp j r)))) i) (n + 2) = Zo (fun i => Zo (fun j => sgn i * sgn j * (M 1 i * M 0 j - M 1 j * M 0 i) * det n (fun c r => M (c + 2) (skp i (skp j r)))) i) (n + 2) := by
      have := Ys (-1) (fun i => Zo (fun j => sgn i * sgn j * (M 0 i * M 1 j - M 0 j * M 1 i) * det n (fun c r => M (c + 2) (skp i (skp j r)))) i) (n + 2)
      rw [show ∀ x : Rat, -x = -1 * x from fun x => by grind, ← this]
      refine Zj fun i hi => ?_
      rw [← Ys]
      refine Zj fun j hj => ?_
      grind
    rw [e]
    refine Zj fun i hi => Zj fun j hj => ?_
    have e0 : swp 0 0 = 1 := rfl
    have e1 : swp 0 1 = 0 := rfl
    have e2 : ∀ c, swp 0 (c + 2) = c + 2 := fun c => by simp [swp]
    simp only [e0, e1, e2]
  | a + 1, n, M, h => by
    obtain ⟨n, rfl⟩ : ∃ k, n = k + 1 := ⟨n - 1, by omega⟩
    rw [det, det]
    have := Ys (-1) (fun i => sgn i * M 0 i * det n (fun c r => M (c + 1) (skp i r))) (n + 1)
    rw [show ∀ x : Rat, -x = -1 * x from fun x => by grind, ← this]
    refine Zj fun i hi => ?_
    have e0 : swp (a + 1) 0 = 0 := by simp [swp]
    have e1 : ∀ c, swp (a + 1) (c + 1) = swp a c + 1 := fun c => by
      simp only [swp]
      by_cases h1 : c = a
      · simp [h1]
      · by_cases h2 : c = a + 1
        · simp [h2]
        · simp [h1, h2]
    have ih := det_swp a n (fun c r => M (c + 1) (skp i r)) (by omega)
    simp only [e0, e1]
    rw [ih]; grind
theorem det_same : ∀ (n t : Nat) (M : Nat → Nat → Rat), t + 1 < n → (∀ r, r < n → M 0 r = M (t + 1) r) → det n M = 0
  | 0, t, M, h, _ => by omega
  | n + 1, 0, M, h, he => by
    have h1 := det_swp 0 (n + 1) M h
    have h2 : det (n + 1) (fun c => M (swp 0 c)) = det (n + 1) M := Wx _ fun c r hc hr => by
      simp only [swp]
      by_cases h3 : c = 0
      · subst h3; simp only [if_true]; exact (he r hr).symm
      · by_cases h4 : c = 0 + 1
        · subst h4; simp only [show ¬ (0 + 1 = 0) by omega, if_false, if_true]; exact he r hr
        · simp only [h3, h4, if_false]
    rw [h2] at h1
    grind
  | n + 1, t + 1, M, h, he => by
    have h1 := det_swp 0 (n + 1) M (by omega)
    have h2 : det (n + 1) (fun c => M (swp 0 c)) = 0 := by
      rw [det]
      refine Xp fun i hi => ?_
      have h0 : det n (fun c r => M (swp 0 (c + 1)) (skp i r)) = 0 := by
        refine det_same n t _ (by omega) fun r hr => ?_
        have e1 : swp 0 (0 + 1) = 0 := rfl
        have e2 : swp 0 (t + 1 + 1) = t + 1 + 1 := by simp [swp]
        simp only [e1, e2]
        exact he _ (skp_lt hr)
      rw [h0]; grind
    rw [h2] at h1
    grind
theorem det_last {n : Nat} {M : Nat → Nat → Rat} (h : ∀ r, r < n → M 0 r = 0) : det (n + 1) M = sgn n * M 0 n * det n (fun c r => M (c + 1) r) := by
  rw [det, Zo, Xp fun i hi => by rw [h i hi]; grind, Rat.zero_add]
  rw [Wx n fun c r hc hr => by rw [skp, if_pos hr]]
def bring (t c : Nat) : Nat := if c = 0 then t else if c ≤ t then c - 1 else c
theorem det_bring : ∀ (t n : Nat) (M : Nat → Nat → Rat), t < n → det n (fun c => M (bring t c)) = sgn t * det n M
  | 0, n, M, h => by
    rw [sgn, Rat.one_mul]
    refine Wx n fun c r hc hr => ?_
    have : bring 0 c = c := by simp only [bring]; split <;> (try split) <;> omega
    rw [this]
  | t + 1, n, M, h => by
    have h1 := det_bring t n (fun c => M (swp t c)) (by omega)
    have h2 := det_swp t n M h
    rw [h2] at h1
    have h3 : det n (fun c => M (bring (t + 1) c)) = det n (fun c => M (swp t (bring t c))) := Wx n fun c r hc hr => by
      have : bring (t + 1) c = swp t (bring t c) := by
        simp only [bring, swp]
        by_cases h0 : c = 0
        · simp [h0]
        · by_cases h4 : c ≤ t
          · simp [h0, h4, show c ≤ t + 1 by omega, show c - 1 ≠ t by omega, show c - 1 ≠ t + 1 by omega]
          · by_cases h5 : c = t + 1
            · simp [h5]
            · simp [h0, h4, show ¬ c ≤ t + 1 by omega, show c ≠ t by omega, h5]
      rw [this]
    rw [h3, h1, sgn]; grind

/-! Sizes. -/
def Zq (b : Nat) (q : Rat) : Prop := ∃ z : Int, q = (z : Rat) ∧ z.natAbs ≤ b
theorem Zq.add {a b : Nat} {p q : Rat} (h1 : Zq a p) (h2 : Zq b q) : Zq (a + b) (p + q) := by
  obtain ⟨x, rfl, hx⟩ := h1
  obtain ⟨y, rfl, hy⟩ := h2
  exact ⟨x + y, (Rat.intCast_add x y).symm, by omega⟩
theorem Zq.mul {a b : Nat} {p q : Rat} (h1 : Zq a p) (h2 : Zq b q) : Zq (a * b) (p * q) := by
  obtain ⟨x, rfl, hx⟩ := h1
  obtain ⟨y, rfl, hy⟩ := h2
  exact ⟨x * y, (Rat.intCast_mul x y).symm, by rw [Int.natAbs_mul]; exact Nat.mul_le_mul hx hy⟩
theorem Zq.mono {a b : Nat} {p : Rat} (h : Zq a p) (hab : a ≤ b) : Zq b p := by
  obtain ⟨x, e, hx⟩ := h
  exact ⟨x, e, by omega⟩
theorem Zq.zero (b : Nat) : Zq b 0 := ⟨0, rfl, by simp⟩
theorem Zq.sgn (i : Nat) : Zq 1 (sgn i) := by
  induction i with
  | zero => exact ⟨1, rfl, by decide⟩
  | succ i ih =>
    obtain ⟨x, e, hx⟩ := ih
    refine ⟨-x, ?_, by omega⟩
    rw [Bq.sgn, e, Rat.intCast_neg]
theorem Zq.sum {b : Nat} {g : Nat → Rat} {n : Nat} (h : ∀ i, i < n → Zq b (g i)) : Zq (n * b) (Zo g n) := by
  induction n with
  | zero => exact Zq.zero _
  | succ n ih =>
    rw [Nat.succ_mul]
    exact (ih fun i hi => h i (by omega)).add (h n (by omega))
theorem det_Zq {b0 F : Nat} {n : Nat} {M : Nat → Nat → Rat} (h0 : ∀ r, r < n + 1 → Zq b0 (M 0 r)) (hF : ∀ i, i < n + 1 → Zq F (det n (fun c r => M (c + 1) (skp i r)))) : Zq ((n + 1) * (b0 * F)) (det (n + 1) M) := by
  rw [det]
  refine Zq.sum fun i hi => ?_
  have := ((Zq.sgn i).mul (h0 i hi)).mul (hF i hi)
  rwa [Nat.one_mul] at this
def facB (b : Nat) : Nat → Nat
  | 0 => 1
  | n + 1 => (n + 1) * (b * facB b n)
theorem det_fac {b : Nat} : ∀ (n : Nat) {M : Nat → Nat → Rat}, (∀ c r, c < n → r < n → Zq b (M c r)) → Zq (facB b n) (det n M)
  | 0, M, _ => ⟨1, rfl, Nat.le_refl _⟩
  | n + 1, M, h => det_Zq (fun r hr => h 0 r (by omega) hr) fun i hi => det_fac n fun c r hc hr => h (c + 1) (skp i r) (by omega) (skp_lt hr)
def fac01 : Nat → Nat
  | 0 => 1
  | 1 => 1
  | 2 => 1
  | n + 3 => (n + 3) * fac01 (n + 2)
def is01 (q : Rat) : Prop := q = 0 ∨ q = 1
theorem is01.zq {q : Rat} (h : is01 q) : Zq 1 q := by
  rcases h with rfl | rfl
  · exact ⟨0, rfl, by decide⟩
  · exact ⟨1, rfl, by decide⟩
theorem det_01 : ∀ (n : Nat) {M : Nat → Nat → Rat}, (∀ c r, c < n → r < n → is01 (M c r)) → Zq (fac01 n) (det n M)
  | 0, M, _ => ⟨1, rfl, by decide⟩
  | 1, M, h => by
    have : det 1 M = M 0 0 := by
      simp only [det, Zo, sgn]; grind
    rw [this]
    exact (h 0 0 (by omega) (by omega)).zq
  | 2, M, h => by
    have e : det 2 M = M 0 0 * M 1 1 - M 0 1 * M 1 0 := by
      simp only [det, Zo, sgn, skp]; simp only [show ¬ (0 < 0) by omega, show 0 < 1 by omega, if_true, if_false]; grind
    rw [e, fac01]
    rcases h 0 0 (by omega) (by omega) with h1 | h1 <;> rcases h 0 1 (by omega) (by omega) with h2 | h2 <;> rcases h 1 0 (by omega) (by omega) with h3 | h3 <;> rcases h 1 1 (by omega) (by omega) with h4 | h4 <;> rw [h1, h2, h3, h4]
    all_goals first
      | exact ⟨0, by decide +kernel, by decide⟩
      | exact ⟨1, by decide +kernel, by decide⟩
      | exact ⟨-1, by decide +kernel, by decide⟩
  | n + 3, M, h => by
    have := det_Zq (b0 := 1) (F := fac01 (n + 2)) (n := n + 2) (M := M) (fun r hr => (h 0 r (by omega) hr).zq) fun i hi => det_01 (n + 2) fun c r hc hr => h (c + 1) (skp i r) (by omega) (skp_lt hr)
    rw [Nat.one_mul] at this
    exact this
end Bq

namespace Bq

/-! Sums. -/
theorem sumTo_pick {n t : Nat} (g : Nat → Rat) (h : t < n) : Zo (fun c => if c = t then g c else 0) n = g t := by
  induction n with
  | zero => omega
  | succ n ih =>
    rw [Zo]
    by_cases h1 : t = n
    · subst h1
      rw [Xp fun i hi => by rw [if_neg (by omega)], if_pos rfl, Rat.zero_add]
    · rw [ih (by omega), if_neg (by omega), Rat.add_zero]
theorem sumTo_swap (f : Nat → Nat → Rat) (m : Nat) : ∀ n, Zo (fun i => Zo (fun j => f i j) m) n = Zo (fun j => Zo (fun i => f i j) n) m
  | 0 => (Xp fun i hi => rfl).symm
  | n + 1 => by
    rw [Zo, sumTo_swap f m n, ← Wa]; rfl

theorem det_comb {n : Nat} (a : Nat → Nat → Rat) (s : Nat → Rat) (e : Nat → Rat) : ∀ (J : Nat) {M : Nat → Nat → Rat}, (∀ r, r < n + 1 → M 0 r = Zo (fun t => s t * a t r) J + e r) →
    (∀ t, t < J → s t = 0 ∨ det (n + 1) (fun c => if c = 0 then a t else M c) = 0) → det (n + 1) M = det (n + 1) (fun c => if c = 0 then e else M c)
  | 0, M, h, _ => Wx _ fun c r hc hr => by
    by_cases h0 : c = 0
    · subst h0; rw [if_pos rfl, h r hr, Zo, Rat.zero_add]
    · rw [if_neg h0]
  | J + 1, M, h, hz => by
    have h1 := det_lin (M := M) (fun r => Zo (fun t => s t * a t r) J + e r) (a J) (s J) fun r hr => by rw [h r hr, Zo]; grind
    have h2 : s J * det (n + 1) (fun c => if c = 0 then a J else M c) = 0 := by
      rcases hz J (by omega) with h3 | h3 <;> rw [h3] <;> grind
    rw [h2, Rat.add_zero] at h1
    rw [h1]
    have h4 : ∀ v : Nat → Rat, (fun c => if c = 0 then v else (fun c => if c = 0 then (fun r => Zo (fun t => s t * a t r) J + e r) else M c) c) = fun c => if c = 0 then v else M c := fun v => by
      funext c
      by_cases h0 : c = 0 <;> simp [h0]
    have ih := det_comb a s e J (M := fun c => if c = 0 then (fun r => Zo (fun t => s t * a t r) J + e r) else M c) (fun r hr => by simp) fun t ht => by
      rcases hz t (by omega) with h3 | h3
      · exact .inl h3
      · refine .inr ?_
        rw [h4]; exact h3
    rw [ih, h4]
theorem det_scale {n : Nat} (M : Nat → Nat → Rat) (a : Nat → Rat) (s : Rat) : det (n + 1) (fun c => if c = 0 then (fun r => s * a r) else M c) = s * det (n + 1) (fun c => if c = 0 then a else M c) := by
  have h := det_lin (n := n) (M := fun c => if c = 0 then (fun r => s * a r) else M c) (fun _ => 0) a s fun r hr => by simp [Rat.zero_add]
  have e1 : ∀ v : Nat → Rat, (fun c => if c = 0 then v else (fun c => if c = 0 then (fun r => s * a r) else M c) c) = fun c => if c = 0 then v else M c := fun v => by
    funext c
    by_cases h0 : c = 0 <;> simp [h0]
  rw [e1, e1] at h
  rw [h, det_zero (fun r hr => rfl), Rat.zero_add]

structure GI (m : Nat) (T0 : Xx) (j : Nat) (S : Xx) (π : Nat → Nat) : Prop where
  lt : ∀ i, i < m → π i < m
  jm : j ≤ m
  row : ∀ i c, i < m → T0 (π i) c = Zo (fun t => T0 (π i) t * S t c) j + (if j ≤ i then S i c else 0)
  unit : ∀ i t, i < m → t < j → S i t = if i = t then 1 else 0
  dt : det j (fun c r => T0 (π r) c) ≠ 0
theorem GI.init (m : Nat) (T0 : Xx) : GI m T0 0 T0 id where
  lt i hi := hi
  jm := Nat.zero_le _
  row i c hi := by rw [Zo, if_pos (Nat.zero_le _), Rat.zero_add]; rfl
  unit i t hi ht := by omega
  dt := by rw [det]; decide
section
variable {m j : Nat} {T0 S : Xx} {π : Nat → Nat} (g : GI m T0 j S π)
include g
theorem GI.minor {i c : Nat} (hi : i < m) (hj : j ≤ i) : det (j + 1) (fun c' r => T0 (if r < j then π r else π i) (if c' = 0 then c else c' - 1)) = sgn j * S i c * det j (fun c r => T0 (π r) c) := by
  have h := det_comb (n := j) (fun t r => T0 (if r < j then π r else π i) t) (fun t => S t c) (fun r => if r < j then 0 else S i c) j (M := fun c' r => T0 (if r < j then π r else π i) (if c' = 0 then c else c' - 1)) (fun r hr => by
    simp only [if_true]
    by_cases h1 : r < j
    · simp only [h1, if_true]
      rw [g.row r c (by have := g.jm; omega), if_neg (by omega)]
      congr 1
      exact Zj fun t ht => Rat.mul_comm _ _
    · simp only [h1, if_false]
      rw [g.row i c hi, if_pos hj]
      congr 1
      exact Zj fun t ht => Rat.mul_comm _ _) fun t ht => .inr (by
    refine det_same _ t _ (by omega) fun r hr => ?_
    simp)
  rw [h, det_last (fun r hr => by simp only [if_true, hr])]
  simp only [if_true, Nat.lt_irrefl, if_false]
  congr 1
  refine Wx _ fun c' r hc hr => ?_
  simp [hr]
theorem GI.cramer {t c : Nat} (ht : t < j) : det j (fun c' r => T0 (π r) (if c' = 0 then c else bring t c')) = S t c * (sgn t * det j (fun c r => T0 (π r) c)) := by
  have hb := det_bring t j (fun c r => T0 (π r) c) ht
  obtain ⟨n, rfl⟩ : ∃ n, j = n + 1 := ⟨j - 1, by omega⟩
  have hbr : ∀ s, s < n + 1 → s ≠ t → ∃ c', c' + 1 < n + 1 ∧ bring t (c' + 1) = s := fun s hs hst => by
    by_cases h1 : s < t
    · exact ⟨s, by omega, by simp [bring, show s + 1 ≤ t by omega]⟩
    · exact ⟨s - 1, by omega, by simp only [bring]; rw [if_neg (by omega), if_neg (by omega)]; omega⟩
  have h := det_comb (n := n) (fun s r => T0 (π r) s) (fun s => if s = t then 0 else S s c) (fun r => S t c * T0 (π r) t) (n + 1) (M := fun c' r => T0 (π r) (if c' = 0 then c else bring t c')) (fun r hr => by
    simp only [if_true]
    rw [g.row r c (by have := g.jm; omega), if_neg (by omega), Rat.add_zero]
    have e : Zo (fun s => T0 (π r) s * S s c) (n + 1) = Zo (fun s => (if s = t then 0 else S s c) * T0 (π r) s) (n + 1) + Zo (fun s => if s = t then S s c * T0 (π r) s else 0) (n + 1) := by
      rw [← Wa]
      refine Zj fun s hs => ?_
      by_cases h1 : s = t
      · simp only [h1, if_true]; grind
      · simp only [h1, if_false]; grind
    rw [e, sumTo_pick _ ht]) fun s hs => by
    by_cases h1 : s = t
    · exact .inl (by simp [h1])
    · refine .inr ?_
      obtain ⟨c', h2, h3⟩ := hbr s hs h1
      refine det_same _ c' _ h2 fun r hr => ?_
      simp [h3]
  rw [h, det_scale]
  congr 1
end
theorem swapT_at (a p : Nat) (T : Xx) : Vh a p T a = T p := by simp [Vh]
theorem GI.step {m j p : Nat} {T0 S : Xx} {π : Nat → Nat} (g : GI m T0 j S π) (hp : p < m) (hjp : j ≤ p) (h0 : S p j ≠ 0) :
    ∃ π', GI m T0 (j + 1) (elimT j (normT j (Vh j p S))) π' := by
  have hj : j < m := by omega
  -- the rows changed
  obtain ⟨π', hπ⟩ : ∃ π' : Nat → Nat, π' = fun i => if i = j then π p else if i = p then π j else π i := ⟨_, rfl⟩
  obtain ⟨S', hS⟩ : ∃ S', S' = Vh j p S := ⟨_, rfl⟩
  have hS1 : S' j = S p := by rw [hS, swapT_at]
  have hS2 : ∀ t, t < j → S' t = S t := fun t ht => by rw [hS, Vh]; simp only [show t ≠ j by omega, show t ≠ p by omega, if_false]
  have hπ2 : ∀ t, t < j → π' t = π t := fun t ht => by rw [hπ]; simp only [show t ≠ j by omega, show t ≠ p by omega, if_false]
  have hsel : ∀ i, i < m → ∃ i', i' < m ∧ π' i = π i' ∧ S' i = S i' ∧ (j ≤ i ↔ j ≤ i') ∧ (i < j → i' = i) := fun i hi => by
    by_cases h1 : i = j
    · exact ⟨p, hp, by rw [hπ]; simp [h1], by rw [h1, hS1], by omega, by omega⟩
    · by_cases h2 : i = p
      · refine ⟨j, hj, by rw [hπ]; simp only [h2, if_true]; rw [if_neg (by omega)], ?_, by omega, by omega⟩
        rw [hS, Vh]; simp only [h1, if_false]; rw [if_pos h2]
      · refine ⟨i, hi, by rw [hπ]; simp [h1, h2], ?_, Iff.rfl, fun _ => rfl⟩
        rw [hS, Vh]; simp [h1, h2]
  have g' : GI m T0 j S' π' := by
    refine ⟨fun i hi => ?_, g.jm, fun i c hi => ?_, fun i t hi ht => ?_, ?_⟩
    · obtain ⟨i', h1, h2, -⟩ := hsel i hi
      rw [h2]; exact g.lt i' h1
    · obtain ⟨i', h1, h2, h3, h4, -⟩ := hsel i hi
      rw [h2, h3, g.row i' c h1]
      congr 1
      · exact Zj fun t ht => by rw [hS2 t ht]
      · by_cases h5 : j ≤ i
        · rw [if_pos h5, if_pos (h4.1 h5)]
        · rw [if_neg h5, if_neg fun h => h5 (h4.2 h)]
    · obtain ⟨i', h1, h2, h3, h4, h5⟩ := hsel i hi
      rw [h3, g.unit i' t h1 ht]
      by_cases h6 : i < j
      · rw [h5 h6]
      · have := h4.1 (by omega)
        rw [if_neg (by omega), if_neg (by omega)]
    · have : det j (fun c r => T0 (π' r) c) = det j (fun c r => T0 (π r) c) := Wx _ fun c r hc hr => by rw [hπ2 r hr]
      rw [this]; exact g.dt
  have hv : S' j j ≠ 0 := by rw [hS1]; exact h0
  rw [← hS]
  clear hsel hπ2 hS2 hS1 hS hπ g h0
  refine ⟨π', g'.lt, by omega, fun i c hi => ?_, fun i t hi ht => ?_, ?_⟩
  · -- rows
    have r1 := g'.row i c hi
    have r2 := g'.row i j hi
    obtain ⟨v, hvv⟩ : ∃ v, S' j j = v := ⟨_, rfl⟩
    rw [hvv] at hv
    obtain ⟨q, hq⟩ : ∃ q, S' j c / v = q := ⟨_, rfl⟩
    have hqv : S' j c = q * v := by rw [← hq]; exact (Rat.div_mul_cancel hv).symm
    have e1 : ∀ i', elimT j (normT j S') i' c = if i' = j then q else S' i' c - S' i' j * q := fun i' => by
      simp only [elimT, normT, if_true, hvv, hq]
      by_cases h1 : i' = j
      · simp only [h1, if_true]
      · simp only [h1, if_false]
    rw [Zo]
    have e2 : Zo (fun t => T0 (π' i) t * elimT j (normT j S') t c) j = Zo (fun t => T0 (π' i) t * S' t c) j + (-q) * Zo (fun t => T0 (π' i) t * S' t j) j := by
      rw [← Ys, ← Wa]
      refine Zj fun t ht => ?_
      rw [e1, if_neg (by omega)]; grind
    rw [e2, e1 j, if_pos rfl, e1 i]
    generalize Zo (fun t => T0 (π' i) t * S' t c) j = A at *
    generalize Zo (fun t => T0 (π' i) t * S' t j) j = B at *
    rcases Nat.lt_trichotomy i j with h1 | h1 | h1
    · rw [if_neg (by omega)] at r1 r2
      rw [if_neg (by omega)]
      rw [r1, r2]; grind
    · subst h1
      rw [if_pos (Nat.le_refl _)] at r1 r2
      rw [if_neg (by omega)]
      rw [hvv] at r2
      rw [r1, r2, hqv]; grind
    · rw [if_pos (by omega)] at r1 r2
      rw [if_pos (by omega), if_neg (by omega)]
      rw [r1, r2]; grind
  · -- unit
    simp only [elimT, normT, if_true]
    by_cases h1 : t = j
    · subst h1
      by_cases h2 : i = t
      · subst h2
        rw [if_pos rfl, if_pos rfl, Rat.div_def, Rat.mul_inv_cancel _ hv]
      · rw [if_neg h2, if_neg h2, if_neg h2, Rat.div_def, Rat.mul_inv_cancel _ hv]; grind
    · have u1 := g'.unit j t hj (by omega)
      rw [if_neg (by omega)] at u1
      have u2 := g'.unit i t hi (by omega)
      by_cases h2 : i = j
      · subst h2
        rw [if_pos rfl, u1, if_neg (by omega), Rat.div_def, Rat.zero_mul]
      · rw [if_neg h2, if_neg h2, if_neg h2, u1, u2, Rat.div_def, Rat.zero_mul, Rat.mul_zero]; grind
  · -- the determinant
    have hm := g'.minor (i := j) (c := j) hj (Nat.le_refl _)
    have hb := det_bring j (j + 1) (fun c r => T0 (π' r) c) (by omega)
    have e : det (j + 1) (fun c' r => T0 (if r < j then π' r else π' j) (if c' = 0 then j else c' - 1)) = det (j + 1) (fun c r => T0 (π' r) (bring j c)) := Wx _ fun c r hc hr => by
      have h1 : (if r < j then π' r else π' j) = π' r := by
        by_cases h2 : r < j
        · rw [if_pos h2]
        · rw [if_neg h2, show r = j by omega]
      have h3 : (if c = 0 then j else c - 1) = bring j c := by
        simp only [bring]
        by_cases h0 : c = 0
        · rw [if_pos h0, if_pos h0]
        · rw [if_neg h0, if_neg h0, if_pos (by omega)]
      rw [h1, h3]
    rw [e, hb] at hm
    intro hc
    rw [hc, Rat.mul_zero] at hm
    rcases Rat.mul_eq_zero.1 hm.symm with h1 | h1
    · rcases Rat.mul_eq_zero.1 h1 with h2 | h2
      · have := sgn_sq j; rw [h2] at this; exact absurd this (by decide +kernel)
      · exact hv h2
    · exact g'.dt h1
theorem elim_gi {m : Nat} {T0 : Xx} : ∀ {j : Nat} {S : Xx}, Xd m T0 j = some S → ∃ π, GI m T0 j S π
  | 0, S, h => by cases h; exact ⟨id, GI.init m _⟩
  | j + 1, S, h => by
    rw [Xd] at h
    cases hr : Xd m T0 j with
    | none => rw [hr] at h; cases h
    | some S1 =>
      rw [hr] at h
      simp only [Option.bind_some, Wp] at h
      obtain ⟨π, g⟩ := elim_gi hr
      cases hf : findP m j S1 with
      | none => rw [hf] at h; cases h
      | some p =>
        rw [hf] at h
        cases h
        obtain ⟨h1, h2, h3, _⟩ := findP_some hf
        exact g.step h1 h2 h3

/-! How great. -/
theorem Zq.rp {b : Nat} {D z : Int} {q : Rat} {s : Rat} (hD : D ≠ 0) {N : Nat} (hN : 0 < N) (hs : Zq 1 s) (hq : Zq b (q * D * N * s)) (hss : s * s = 1) : ∃ x : Int, Rp (D.natAbs * N) x q ∧ x.natAbs ≤ b := by
  obtain ⟨y, hy, hyb⟩ := hq
  obtain ⟨u, hu, hub⟩ := hs
  have hD0 : 0 < D.natAbs := by omega
  have h1 : q * (D : Rat) * (N : Rat) = (y : Rat) * s := by
    rw [← hy]
    generalize q * (D : Rat) * (N : Rat) = A
    have : A * s * s = A * (s * s) := by grind
    rw [this, hss, Rat.mul_one]
  rcases Int.lt_or_le D 0 with h | h
  · refine ⟨-(y * u), ⟨Nat.mul_pos hD0 hN, ?_⟩, ?_⟩
    · have e : ((D.natAbs : Nat) : Rat) = -(D : Rat) := by
        rw [← Rat.intCast_natCast, ← Rat.intCast_neg]; congr 1; omega
      rw [Rat.natCast_mul, e, Rat.intCast_neg, Rat.intCast_mul, ← hu, ← h1]; grind
    · rw [Int.natAbs_neg, Int.natAbs_mul]
      exact Nat.le_trans (Nat.mul_le_mul hyb hub) (by omega)
  · refine ⟨y * u, ⟨Nat.mul_pos hD0 hN, ?_⟩, ?_⟩
    · have e : ((D.natAbs : Nat) : Rat) = (D : Rat) := by
        rw [← Rat.intCast_natCast]; congr 1; omega
      rw [Rat.natCast_mul, e, Rat.intCast_mul, ← hu, ← h1]; grind
    · rw [Int.natAbs_mul]
      exact Nat.le_trans (Nat.mul_le_mul hyb hub) (by omega)
theorem GI.parts {P : Rat → Prop} {F : Nat → Nat} (hF : ∀ n M, (∀ c r, c < n → r < n → P (M c r)) → Zq (F n) (det n M)) {m k j N B X : Nat} {T0 S : Xx} {π : Nat → Nat} (g : GI m T0 j S π) (hjk : j ≤ k) (hN : 0 < N)
    (hP : ∀ i c, i < m → c < k → P (T0 i c)) (hR : ∀ i, i < m → Zq B (T0 i k * N)) (hX1 : ∀ n, n ≤ k → F n * N ≤ X) (hX2 : ∀ n, n ≤ k → (n + 1) * (B * F n) ≤ X) :
    ∃ D, 0 < D ∧ D ≤ F j * N ∧ ∀ i c, i < m → c ≤ k → ∃ x : Int, Rp D x (S i c) ∧ x.natAbs ≤ X := by
  have hj := g.jm
  obtain ⟨d, hd, hdb⟩ := hF j (fun c r => T0 (π r) c) fun c r hc hr => hP _ _ (g.lt r (by omega)) (by omega)
  have hd0 : d ≠ 0 := fun h => g.dt (by rw [hd, h]; rfl)
  refine ⟨d.natAbs * N, Nat.mul_pos (by omega) hN, Nat.mul_le_mul_right _ hdb, fun i c hi hc => ?_⟩
  by_cases hcj : c < j
  · -- a column that is done
    rw [g.unit i c hi hcj]
    have hX := hX1 j hjk
    have hdX : d.natAbs * N ≤ X := Nat.le_trans (Nat.mul_le_mul_right _ hdb) hX
    by_cases h1 : i = c
    · refine ⟨((d.natAbs * N : Nat) : Int), ⟨Nat.mul_pos (by omega) hN, ?_⟩, by rw [Int.natAbs_natCast]; exact hdX⟩
      rw [if_pos h1, Rat.one_mul, Rat.intCast_natCast]
    · refine ⟨0, ⟨Nat.mul_pos (by omega) hN, ?_⟩, by simp⟩
      rw [if_neg h1, Rat.zero_mul]; rfl
  by_cases hij : i < j
  · -- a pivot's row
    have hcr := g.cramer (c := c) hij
    rw [hd] at hcr
    obtain ⟨n, rfl⟩ : ∃ n, j = n + 1 := ⟨j - 1, by omega⟩
    have hbl : ∀ c', c' + 1 < n + 1 → bring i (c' + 1) < n + 1 := fun c' hc' => by
      simp only [bring]; split
      · omega
      · split <;> omega
    have key : Zq X (S i c * (d : Rat) * (N : Rat) * sgn i) := by
      have e : S i c * (d : Rat) * (N : Rat) * sgn i = (N : Rat) * det (n + 1) (fun c' r => T0 (π r) (if c' = 0 then c else bring i c')) := by rw [hcr]; grind
      rw [e]
      by_cases hck : c = k
      · subst hck
        have e2 : (N : Rat) * det (n + 1) (fun c' r => T0 (π r) (if c' = 0 then c else bring i c')) = det (n + 1) (fun c' => if c' = 0 then (fun r => (N : Rat) * T0 (π r) c) else fun r => T0 (π r) (bring i c')) := by
          rw [det_scale (fun c' r => T0 (π r) (bring i c')) (fun r => T0 (π r) c) (N : Rat)]
          congr 1
        rw [e2]
        refine (det_Zq (b0 := B) (F := F n) (fun r hr => ?_) fun i' hi' => hF n _ fun c' r hc' hr => ?_).mono (hX2 n (by omega))
        · simp only [if_true]; rw [Rat.mul_comm]; exact hR _ (g.lt r (by omega))
        · simp only [show ¬ (c' + 1 = 0) by omega, if_false]
          exact hP _ _ (g.lt _ (by have := skp_lt (i := i') hr; omega)) (by have := hbl c' (by omega); omega)
      · refine Zq.mono (Zq.mul ⟨(N : Int), (Rat.intCast_natCast N).symm, Nat.le_refl _⟩ (hF (n + 1) _ fun c' r hc' hr => ?_)) (by rw [Int.natAbs_natCast, Nat.mul_comm]; exact hX1 (n + 1) hjk)
        refine hP _ _ (g.lt r (by omega)) ?_
        by_cases h0 : c' = 0
        · rw [if_pos h0]; omega
        · rw [if_neg h0]
          obtain ⟨c', rfl⟩ : ∃ t, c' = t + 1 := ⟨c' - 1, by omega⟩
          have := hbl c' hc'; omega
    exact Zq.rp (z := 0) hd0 hN (Zq.sgn i) key (sgn_sq i)
  · -- a row below
    have hmn := g.minor (c := c) hi (by omega)
    rw [hd] at hmn
    have key : Zq X (S i c * (d : Rat) * (N : Rat) * sgn j) := by
      have e : S i c * (d : Rat) * (N : Rat) * sgn j = (N : Rat) * det (j + 1) (fun c' r => T0 (if r < j then π r else π i) (if c' = 0 then c else c' - 1)) := by rw [hmn]; grind
      rw [e]
      have hρ : ∀ r, (if r < j then π r else π i) < m := fun r => by
        split
        · exact g.lt r (by omega)
        · exact g.lt i hi
      by_cases hck : c = k
      · subst hck
        have e2 : (N : Rat) * det (j + 1) (fun c' r => T0 (if r < j then π r else π i) (if c' = 0 then c else c' - 1)) = det (j + 1) (fun c' => if c' = 0 then (fun r => (N : Rat) * T0 (if r < j then π r else π i) c) else fun r => T0 (if r < j then π r else π i) (c' - 1)) := by
          rw [det_scale (fun c' r => T0 (if r < j then π r else π i) (c' - 1)) (fun r => T0 (if r < j then π r else π i) c) (N : Rat)]
          congr 1
        rw [e2]
        refine (det_Zq (b0 := B) (F := F j) (fun r hr => ?_) fun i' hi' => hF j _ fun c' r hc' hr => ?_).mono (hX2 j hjk)
        · simp only [if_true]; rw [Rat.mul_comm]; exact hR _ (hρ r)
        · simp only [show ¬ (c' + 1 = 0) by omega, if_false]
          exact hP _ _ (hρ _) (by omega)
      · refine Zq.mono (Zq.mul ⟨(N : Int), (Rat.intCast_natCast N).symm, Nat.le_refl _⟩ (hF (j + 1) _ fun c' r hc' hr => ?_)) (by rw [Int.natAbs_natCast, Nat.mul_comm]; exact hX1 (j + 1) (by omega))
        refine hP _ _ (hρ r) ?_
        by_cases h0 : c' = 0
        · rw [if_pos h0]; omega
        · rw [if_neg h0]; omega
    exact Zq.rp (z := 0) hd0 hN (Zq.sgn j) key (sgn_sq j)
end Bq

namespace Bq

def Nul (m K : Nat) (T : Xx) (y : Nat → Rat) : Prop := ∀ i, i < m → Zo (fun c => T i c * y c) K = 0
theorem nul_swap {m K a p : Nat} {T : Xx} {y : Nat → Rat} (ha : a < m) (hp : p < m) : Nul m K (Vh a p T) y ↔ Nul m K T y := by
  have key : ∀ T : Xx, Nul m K T y → Nul m K (Vh a p T) y := fun T h i hi => by
    by_cases h1 : i = a
    · subst h1; rw [swapT_at]; exact h p hp
    · by_cases h2 : i = p
      · have : Vh a p T i = T a := by simp only [Vh, h1, if_false]; rw [if_pos h2]
        rw [this]; exact h a ha
      · have : Vh a p T i = T i := by simp only [Vh, h1, h2, if_false]
        rw [this]; exact h i hi
  refine ⟨fun h => ?_, key T⟩
  have h2 := key _ h
  have e : Vh a p (Vh a p T) = T := by
    funext i
    simp only [Vh]
    by_cases h1 : i = a
    · subst h1
      simp only [if_true]
      by_cases h3 : p = i
      · rw [if_pos h3, h3]
      · rw [if_neg h3]
    · simp only [h1, if_false]
      by_cases h3 : i = p
      · subst h3; simp
      · simp [h3]
  rwa [e] at h2
theorem nul_norm {m K a : Nat} {T : Xx} {y : Nat → Rat} (ha : a < m) (h0 : T a a ≠ 0) : Nul m K (normT a T) y ↔ Nul m K T y := by
  have e : Zo (fun c => normT a T a c * y c) K = (T a a)⁻¹ * Zo (fun c => T a c * y c) K := by
    rw [← Ys]
    refine Zj fun c hc => ?_
    simp only [normT, if_true, Rat.div_def]; grind
  have e2 : ∀ i, i ≠ a → Zo (fun c => normT a T i c * y c) K = Zo (fun c => T i c * y c) K := fun i hi => Zj fun c hc => by simp only [normT, hi, if_false]
  constructor
  · intro h i hi
    by_cases h1 : i = a
    · subst h1
      have := h i hi
      rw [e] at this
      rcases Rat.mul_eq_zero.1 this with h2 | h2
      · have h3 := Rat.mul_inv_cancel _ h0
        rw [h2, Rat.mul_zero] at h3; exact absurd h3 (by decide +kernel)
      · exact h2
    · rw [← e2 i h1]; exact h i hi
  · intro h i hi
    by_cases h1 : i = a
    · subst h1; rw [e, h i hi, Rat.mul_zero]
    · rw [e2 i h1]; exact h i hi
theorem nul_elim {m K a : Nat} {T : Xx} {y : Nat → Rat} (ha : a < m) : Nul m K (elimT a T) y ↔ Nul m K T y := by
  have e : ∀ i, i ≠ a → Zo (fun c => elimT a T i c * y c) K = Zo (fun c => T i c * y c) K + (-(T i a)) * Zo (fun c => T a c * y c) K := fun i hi => by
    rw [← Ys, ← Wa]
    refine Zj fun c hc => ?_
    simp only [elimT, hi, if_false]; grind
  have e2 : Zo (fun c => elimT a T a c * y c) K = Zo (fun c => T a c * y c) K := Zj fun c hc => by simp only [elimT, if_true]
  constructor
  · intro h i hi
    have h2 := h a ha
    rw [e2] at h2
    by_cases h1 : i = a
    · subst h1; exact h2
    · have := h i hi
      rw [e i h1, h2, Rat.mul_zero, Rat.add_zero] at this; exact this
  · intro h i hi
    by_cases h1 : i = a
    · subst h1; rw [e2]; exact h i hi
    · rw [e i h1, h i hi, h a ha, Rat.mul_zero, Rat.add_zero]
theorem nul_run {m K : Nat} {T : Xx} {y : Nat → Rat} : ∀ {j : Nat} {S : Xx}, Xd m T j = some S → (Nul m K S y ↔ Nul m K T y)
  | 0, S, h => by cases h; exact Iff.rfl
  | j + 1, S, h => by
    rw [Xd] at h
    cases hr : Xd m T j with
    | none => rw [hr] at h; cases h
    | some S1 =>
      rw [hr] at h
      simp only [Option.bind_some, Wp] at h
      cases hf : findP m j S1 with
      | none => rw [hf] at h; cases h
      | some p =>
        rw [hf] at h
        cases h
        obtain ⟨h1, h2, h3, _⟩ := findP_some hf
        have hj : j < m := by omega
        rw [nul_elim hj, nul_norm hj (by rw [swapT_at]; exact h3), nul_swap hj h1]
        exact nul_run hr

def Sol (m k : Nat) (T : Xx) (x : Nat → Rat) : Prop := ∀ i, i < m → Zo (fun c => T i c * x c) k = T i k
def Ker (m k : Nat) (T : Xx) (x : Nat → Rat) : Prop := ∀ i, i < m → Zo (fun c => T i c * x c) k = 0
def ext1 (k : Nat) (x : Nat → Rat) (s : Rat) : Nat → Rat := fun c => if c < k then x c else s
theorem sum_ext1 (T : Xx) (i k : Nat) (x : Nat → Rat) (s : Rat) : Zo (fun c => T i c * ext1 k x s c) (k + 1) = Zo (fun c => T i c * x c) k + T i k * s := by
  rw [Zo]
  have e : ext1 k x s k = s := by simp [ext1]
  simp only [e]
  congr 1
  exact Zj fun c hc => by simp only [ext1, hc, if_true]
theorem sol_nul {m k : Nat} {T : Xx} {x : Nat → Rat} : Sol m k T x ↔ Nul m (k + 1) T (ext1 k x (-1)) := by
  constructor
  · intro h i hi
    rw [sum_ext1, h i hi]; grind
  · intro h i hi
    have := h i hi
    rw [sum_ext1] at this
    generalize Zo (fun c => T i c * x c) k = A at *
    grind
theorem ker_nul {m k : Nat} {T : Xx} {x : Nat → Rat} : Ker m k T x ↔ Nul m (k + 1) T (ext1 k x 0) := by
  constructor
  · intro h i hi
    rw [sum_ext1, h i hi]; grind
  · intro h i hi
    have := h i hi
    rw [sum_ext1] at this
    generalize Zo (fun c => T i c * x c) k = A at *
    grind
theorem sum_unit {n t : Nat} (x : Nat → Rat) (h : t < n) : Zo (fun c => (if t = c then 1 else 0) * x c) n = x t := by
  rw [← sumTo_pick x h]
  refine Zj fun c hc => ?_
  by_cases h1 : t = c
  · rw [if_pos h1, if_pos h1.symm, Rat.one_mul]
  · rw [if_neg h1, if_neg (Ne.symm h1), Rat.zero_mul]
theorem solve_some {m k : Nat} {T : Xx} {xs : List Rat} (h : Wc m k T = some xs) : xs.length = k ∧ ∀ y, Sol m k T y ↔ ∀ t, t < k → y t = xs.getD t 0 := by
  refine ⟨solveT_len h, fun y => ?_⟩
  rw [Wc] at h
  cases hr : Xd m T k with
  | none => rw [hr] at h; cases h
  | some S =>
    rw [hr] at h
    simp only [Option.bind_some] at h
    split at h
    · cases h
    · next hrest =>
      cases h
      obtain ⟨π, g⟩ := elim_gi hr
      rw [sol_nul, ← nul_run hr, ← sol_nul]
      have hu : ∀ i, i < m → Zo (fun c => S i c * y c) k = if i < k then y i else 0 := fun i hi => by
        rw [Zj (g := fun c => (if i = c then 1 else 0) * y c) fun c hc => by rw [g.unit i c hi hc]]
        by_cases h1 : i < k
        · rw [if_pos h1, sum_unit y h1]
        · rw [if_neg h1]
          exact Xp fun c hc => by rw [if_neg (by omega), Rat.zero_mul]
      have hget : ∀ t, t < k → ((List.range k).map fun i => S i k).getD t 0 = S t k := fun t ht => by simp [List.getD, ht]
      constructor
      · intro h t ht
        rw [hget t ht]
        have := h t (by have := g.jm; omega)
        rw [hu t (by have := g.jm; omega), if_pos ht] at this
        exact this
      · intro h i hi
        rw [hu i hi]
        by_cases h1 : i < k
        · rw [if_pos h1, h i h1, hget i h1]
        · rw [if_neg h1]
          have : ¬ restT m k S = true := hrest
          rw [restT, List.any_eq_true] at this
          rcases Decidable.em (S i k = 0) with h2 | h2
          · exact h2.symm
          · exact absurd ⟨i, List.mem_range.2 hi, by simp [h2]; omega⟩ this
theorem run_none {m k : Nat} {T : Xx} : ∀ {j : Nat}, j ≤ k → Xd m T j = none → ∃ δ, Ker m k T δ ∧ ∃ c, c < k ∧ δ c ≠ 0
  | 0, _, h => by cases h
  | j + 1, hj, h => by
    rw [Xd] at h
    cases hr : Xd m T j with
    | none => exact run_none (by omega) hr
    | some S =>
      rw [hr] at h
      simp only [Option.bind_some, Wp] at h
      cases hf : findP m j S with
      | some p => rw [hf] at h; cases h
      | none =>
        obtain ⟨π, g⟩ := elim_gi hr
        have h0 : ∀ i, i < m → j ≤ i → S i j = 0 := fun i hi hji => by
          rw [findP, List.find?_eq_none] at hf
          have := hf i (List.mem_range.2 hi)
          simpa [hji] using this
        refine ⟨fun c => if c < j then - S c j else if c = j then 1 else 0, ?_, j, by omega, by simp⟩
        rw [ker_nul, ← nul_run hr, ← ker_nul]
        intro i hi
        have e : ∀ K, K ≤ k → Zo (fun c => S i c * (if c < j then - S c j else if c = j then 1 else 0)) K = if j < K then Zo (fun c => S i c * (- S c j)) j + S i j else Zo (fun c => S i c * (- S c j)) K := by
          intro K
          induction K with
          | zero => intro _; rw [if_neg (by omega)]; rfl
          | succ K ih =>
            intro hK
            rw [Zo, ih (by omega)]
            rcases Nat.lt_trichotomy K j with h1 | h1 | h1
            · rw [if_neg (show ¬ j < K by omega), if_pos h1, if_neg (show ¬ j < K + 1 by omega)]; rfl
            · subst h1
              rw [if_neg (show ¬ K < K by omega), if_pos (show K < K + 1 by omega), if_neg (show ¬ K < K by omega), if_pos rfl, Rat.mul_one]
            · rw [if_pos (show j < K by omega), if_pos (show j < K + 1 by omega), if_neg (show ¬ K < j by omega), if_neg (show ¬ K = j by omega), Rat.mul_zero, Rat.add_zero]
        rw [e k (Nat.le_refl _), if_pos (by omega)]
        rw [Zj (g := fun c => (if i = c then 1 else 0) * (- S c j)) fun c hc => by rw [g.unit i c hi hc]]
        by_cases h1 : i < j
        · rw [sum_unit (fun c => - S c j) h1]; grind
        · rw [Xp fun c hc => by rw [if_neg (by omega), Rat.zero_mul], h0 i hi (by omega), Rat.zero_add]
theorem solve_none {m k : Nat} {T : Xx} (h : Wc m k T = none) : (∀ y, ¬ Sol m k T y) ∨ ∃ δ, Ker m k T δ ∧ ∃ c, c < k ∧ δ c ≠ 0 := by
  rw [Wc] at h
  cases hr : Xd m T k with
  | none => exact .inr (run_none (Nat.le_refl _) hr)
  | some S =>
    rw [hr] at h
    simp only [Option.bind_some] at h
    split at h
    · next hrest =>
      refine .inl fun y hy => ?_
      obtain ⟨π, g⟩ := elim_gi hr
      rw [sol_nul, ← nul_run hr, ← sol_nul] at hy
      rw [restT, List.any_eq_true] at hrest
      obtain ⟨i, hi, h1⟩ := hrest
      simp only [Bool.and_eq_true, decide_eq_true_eq] at h1
      have := hy i (List.mem_range.1 hi)
      rw [Xp fun c hc => by rw [g.unit i c (List.mem_range.1 hi) hc, if_neg (by omega), Rat.zero_mul]] at this
      exact h1.2 this.symm
    · cases h
theorem Sol.add {m k : Nat} {T : Xx} {x δ : Nat → Rat} (h : Sol m k T x) (hd : Ker m k T δ) (s : Rat) : Sol m k T (fun c => x c + s * δ c) := fun i hi => by
  rw [Zj (g := fun c => T i c * x c + s * (T i c * δ c)) fun c hc => by grind, Wa, Ys, h i hi, hd i hi, Rat.mul_zero, Rat.add_zero]
theorem solve_wide {m k : Nat} {T : Xx} (h : m < k) : Wc m k T = none := by
  have key : ∀ j, m < j → Xd m T j = none := by
    intro j
    induction j with
    | zero => intro h; omega
    | succ j ih =>
      intro hj
      rw [Xd]
      by_cases h1 : m < j
      · rw [ih h1]; rfl
      · obtain rfl : j = m := by omega
        cases hr : Xd j T j with
        | none => rfl
        | some S =>
          simp only [Option.bind_some, Wp]
          have : findP j j S = none := find_none fun i hi => by simp; omega
          rw [this]; rfl
  rw [Wc, key k h]; rfl
end Bq

namespace Bq

theorem bitQ_01 (e w : Nat) : is01 (bitQ e w) := by rw [bitQ]; split; exact .inr rfl; exact .inl rfl
theorem bitQ_all {n w : Nat} (h : w < n) : bitQ (2 ^ n - 1) w = 1 := by rw [bitQ, Nat.testBit_two_pow_sub_one]; simp [h]
theorem Yw {set w k : Nat} (hw : w < k) (hb : set.testBit w = true) : (Zi set w).length < (Zi set k).length := by
  induction k with
  | zero => omega
  | succ k ih =>
    rw [Wd, List.length_append]
    by_cases h1 : w = k
    · subst h1; rw [hb]; simp
    · have := ih (by omega)
      omega
theorem Wi {set w k : Nat} (hw : w < k) (hb : set.testBit w = true) : (Zi set k).getD (Zi set w).length 0 = w := by
  induction k with
  | zero => omega
  | succ k ih =>
    rw [Wd, List.getD]
    by_cases h1 : w = k
    · subst h1; rw [hb, List.getElem?_append_right (Nat.le_refl _)]; simp
    · have := Yw (show w < k by omega) hb
      rw [List.getElem?_append_left this]
      exact ih (by omega)
theorem Xe {set k : Nat} : ∀ {c : Nat}, c < (Zi set k).length → (Zi set ((Zi set k).getD c 0)).length = c ∧ (Zi set k).getD c 0 < k ∧ set.testBit ((Zi set k).getD c 0) = true := by
  induction k with
  | zero => intro c h; simp [Zi] at h
  | succ k ih =>
    intro c h
    rw [Wd] at h ⊢
    rw [List.getD]
    by_cases h1 : c < (Zi set k).length
    · rw [List.getElem?_append_left h1]
      obtain ⟨a, b, d⟩ := ih h1
      rw [List.getD] at a b d
      exact ⟨a, by omega, d⟩
    · rw [List.length_append] at h
      cases hb : set.testBit k with
      | false => rw [hb] at h; simp at h; omega
      | true =>
        rw [hb] at h
        simp at h
        obtain rfl : c = (Zi set k).length := by omega
        rw [List.getElem?_append_right (Nat.le_refl _)]
        simp [hb]
def spr (set : Nat) (x : Nat → Rat) (w : Nat) : Rat := if set.testBit w then x (Zi set w).length else 0
theorem ws_sum (set : Nat) (g : Nat → Nat → Rat) : ∀ k, Zo (fun c => g c ((Zi set k).getD c 0)) (Zi set k).length = Zo (fun w => if set.testBit w then g (Zi set w).length w else 0) k
  | 0 => rfl
  | k + 1 => by
    have ih := ws_sum set g k
    rw [Zo, ← ih]
    cases hb : set.testBit k with
    | false =>
      have e : Zi set (k + 1) = Zi set k := by rw [Wd, hb]; simp
      rw [e, if_neg (by simp), Rat.add_zero]
    | true =>
      have e : (Zi set (k + 1)).length = (Zi set k).length + 1 := by rw [Wd, hb]; simp
      rw [e, Zo, if_pos rfl, Wi (Nat.lt_succ_self k) hb]
      congr 1
      refine Zj fun c hc => ?_
      rw [Wd, List.getD, List.getD, List.getElem?_append_left hc]
theorem spreadTo_get {n set : Nat} {x : List Rat} {w : Nat} (hw : w < n) : ∀ k, k ≤ (Zi set n).length → (Wb n (Zi set n) x k).getD w 0 = if set.testBit w = true ∧ (Zi set w).length < k then x.getD (Zi set w).length 0 else 0
  | 0, _ => by rw [Wb, if_neg (by omega)]; simp [List.getD, hw]
  | k + 1, hk => by
    have ih := spreadTo_get (set := set) (x := x) hw k (by omega)
    obtain ⟨a, b, d⟩ := Xe (set := set) (k := n) (c := k) (by omega)
    rw [Wb, List.getD, List.getElem?_set]
    by_cases h1 : (Zi set n).getD k 0 = w
    · rw [if_pos h1, h1, Vv, if_pos hw]
      rw [h1] at a d
      rw [if_pos ⟨d, by omega⟩, a]; rfl
    · rw [if_neg h1]
      rw [List.getD] at ih
      rw [ih]
      by_cases h2 : set.testBit w = true ∧ (Zi set w).length < k
      · rw [if_pos h2, if_pos ⟨h2.1, by omega⟩]
      · rw [if_neg h2, if_neg]
        rintro ⟨h3, h4⟩
        have h5 : (Zi set w).length = k := by
          rcases Nat.lt_or_ge (Zi set w).length k with h | h
          · exact absurd ⟨h3, h⟩ h2
          · omega
        have := Wi hw h3
        rw [h5] at this
        exact h1 this
theorem spread_spr {n set : Nat} {x : List Rat} {w : Nat} (hw : w < n) : (Wb n (Yk n set) x (Yk n set).length).getD w 0 = spr set (fun c => x.getD c 0) w := by
  rw [Yk, spreadTo_get hw _ (Nat.le_refl _), spr]
  by_cases hb : set.testBit w = true
  · rw [if_pos ⟨hb, Yw hw hb⟩, if_pos hb]
  · rw [if_neg (fun h => hb h.1), if_neg hb]

def evq (n : Nat) (p : Nat → Rat) (e : Nat) : Rat := Zo (fun w => bitQ e w * p w) n
structure Feas (n : Nat) (l : List (Int × Int)) (p : Nat → Rat) : Prop where
  nn : ∀ w, w < n → 0 ≤ p w
  one : Zo p n = 1
  bet : ∀ i, i < l.length → evq n p (l.getD i (0, 0)).1.toNat = Rat.divInt (l.getD i (0, 0)).2 12
theorem sys_row0 (n : Nat) (l : List (Int × Int)) (set : Nat) (x : Nat → Rat) : Zo (fun c => sysB n l (Yk n set) 0 c * x c) (Yk n set).length = Zo (spr set x) n := by
  have h := ws_sum set (fun c w => bitQ (2 ^ n - 1) w * x c) n
  rw [Yk]
  rw [← show Zo (fun c => bitQ (2 ^ n - 1) ((Zi set n).getD c 0) * x c) (Zi set n).length = _ from Zj fun c hc => by simp only [sysB, if_true, hc], h]
  refine Zj fun w hw => ?_
  rw [spr, bitQ_all hw, Rat.one_mul]
theorem sys_row (n : Nat) (l : List (Int × Int)) (set : Nat) (x : Nat → Rat) (i : Nat) : Zo (fun c => sysB n l (Yk n set) (i + 1) c * x c) (Yk n set).length = evq n (spr set x) (l.getD i (0, 0)).1.toNat := by
  have h := ws_sum set (fun c w => bitQ (l.getD i (0, 0)).1.toNat w * x c) n
  rw [Yk]
  rw [← show Zo (fun c => bitQ (l.getD i (0, 0)).1.toNat ((Zi set n).getD c 0) * x c) (Zi set n).length = _ from Zj fun c hc => by simp only [sysB, show ¬ (i + 1 = 0) by omega, if_false, hc, if_true, Nat.add_sub_cancel], h, evq]
  refine Zj fun w hw => ?_
  rw [spr]
  split
  · rfl
  · rw [Rat.mul_zero]
theorem sys_right (n : Nat) (l : List (Int × Int)) (ws : List Nat) : sysB n l ws 0 ws.length = 1 ∧ ∀ i, sysB n l ws (i + 1) ws.length = Rat.divInt (l.getD i (0, 0)).2 12 :=
  ⟨by simp [sysB], fun i => by simp [sysB]⟩
theorem sol_iff {n : Nat} {l : List (Int × Int)} {set : Nat} {x : Nat → Rat} : Sol (l.length + 1) (Yk n set).length (sysB n l (Yk n set)) x ↔ Zo (spr set x) n = 1 ∧ ∀ i, i < l.length → evq n (spr set x) (l.getD i (0, 0)).1.toNat = Rat.divInt (l.getD i (0, 0)).2 12 := by
  obtain ⟨r0, r1⟩ := sys_right n l (Yk n set)
  constructor
  · intro h
    refine ⟨by rw [← sys_row0 n l, h 0 (by omega), r0], fun i hi => by rw [← sys_row n l, h (i + 1) (by omega), r1]⟩
  · rintro ⟨h1, h2⟩ i hi
    cases i with
    | zero => rw [sys_row0, h1, r0]
    | succ i => rw [sys_row, h2 i (by omega), r1]
theorem ker_iff {n : Nat} {l : List (Int × Int)} {set : Nat} {x : Nat → Rat} (h : Ker (l.length + 1) (Yk n set).length (sysB n l (Yk n set)) x) : Zo (spr set x) n = 0 ∧ ∀ i, i < l.length → evq n (spr set x) (l.getD i (0, 0)).1.toNat = 0 :=
  ⟨by rw [← sys_row0 n l, h 0 (by omega)], fun i hi => by rw [← sys_row n l, h (i + 1) (by omega)]⟩

theorem mem_cornersTo {n : Nat} {l : List (Int × Int)} {b : List Rat} : ∀ {s : Nat}, b ∈ Wm n l s ↔ ∃ set, 1 ≤ set ∧ set ≤ s ∧ Vj n l set = some b
  | 0 => by
    rw [Wm]
    constructor
    · intro h; cases h
    · rintro ⟨set, h1, h2, _⟩; omega
  | s + 1 => by
    rw [Wm, List.mem_append, mem_cornersTo]
    constructor
    · rintro (⟨set, h1, h2, h3⟩ | h)
      · exact ⟨set, h1, by omega, h3⟩
      · exact ⟨s + 1, by omega, Nat.le_refl _, by simpa using h⟩
    · rintro ⟨set, h1, h2, h3⟩
      by_cases h4 : set = s + 1
      · subst h4; exact .inr (by simp [h3])
      · exact .inl ⟨set, h1, by omega, h3⟩
theorem mem_corners {n : Nat} {l : List (Int × Int)} {b : List Rat} : b ∈ Xt n l ↔ ∃ set, 1 ≤ set ∧ set < 2 ^ n ∧ Vj n l set = some b := by
  rw [Xt, mem_cornersTo]
  have := Nat.two_pow_pos n
  constructor
  · rintro ⟨set, h1, h2, h3⟩; exact ⟨set, h1, by omega, h3⟩
  · rintro ⟨set, h1, h2, h3⟩; exact ⟨set, h1, by omega, h3⟩
theorem corner_feas {n : Nat} {l : List (Int × Int)} {set : Nat} {b : List Rat} (h : Vj n l set = some b) : b.length = n ∧ Feas n l (fun w => b.getD w 0) := by
  rw [Vj] at h
  cases hs : Wc (l.length + 1) (Yk n set).length (sysB n l (Yk n set)) with
  | none => rw [hs] at h; cases h
  | some xs =>
    rw [hs] at h
    simp only [Option.bind_some] at h
    split at h
    · cases h
    · next hneg =>
      cases h
      obtain ⟨hl, hx⟩ := solve_some hs
      have hsol := sol_iff.1 ((hx (fun t => xs.getD t 0)).2 fun t ht => rfl)
      have e : ∀ w, w < n → (Wb n (Yk n set) xs (Yk n set).length).getD w 0 = spr set (fun c => xs.getD c 0) w := fun w hw => spread_spr hw
      refine ⟨Vv _ _ _ _, fun w hw => ?_, ?_, fun i hi => ?_⟩
      · rw [e w hw, spr]
        split
        · next hb =>
          have hlt := Yw hw hb
          have hlt2 : (Zi set w).length < xs.length := by rw [hl]; exact hlt
          rw [List.any_eq_true] at hneg
          rw [List.getD, List.getElem?_eq_getElem hlt2, Option.getD_some, ← Rat.not_lt]
          intro hc
          exact hneg ⟨_, List.getElem_mem hlt2, by simpa using hc⟩
        · exact Rat.le_refl
      · rw [Zj fun w hw => e w hw]; exact hsol.1
      · rw [evq, Zj (g := fun w => bitQ (l.getD i (0, 0)).1.toNat w * spr set (fun c => xs.getD c 0) w) fun w hw => by rw [e w hw]]
        exact hsol.2 i hi

def msk (p : Nat → Rat) : Nat → Nat
  | 0 => 0
  | k + 1 => msk p k ||| if p k = 0 then 0 else 2 ^ k
theorem msk_bit (p : Nat → Rat) (w : Nat) : ∀ k, (msk p k).testBit w = true ↔ w < k ∧ p w ≠ 0
  | 0 => by simp [msk]
  | k + 1 => by
    rw [msk, Nat.testBit_or, Bool.or_eq_true, msk_bit p w k]
    by_cases h : p k = 0
    · rw [if_pos h, Nat.zero_testBit]
      constructor
      · rintro (⟨h1, h2⟩ | h1)
        · exact ⟨by omega, h2⟩
        · cases h1
      · rintro ⟨h1, h2⟩
        refine .inl ⟨?_, h2⟩
        rcases Nat.lt_or_ge w k with h3 | h3
        · exact h3
        · rw [show w = k by omega] at h2; exact absurd h h2
    · rw [if_neg h, Nat.testBit_two_pow, decide_eq_true_eq]
      constructor
      · rintro (⟨h1, h2⟩ | h1)
        · exact ⟨by omega, h2⟩
        · subst h1; exact ⟨by omega, h⟩
      · rintro ⟨h1, h2⟩
        by_cases h3 : k = w
        · exact .inr h3
        · exact .inl ⟨by omega, h2⟩
theorem msk_lt (p : Nat → Rat) (n : Nat) : msk p n < 2 ^ n := Nat.lt_pow_two_of_testBit _ fun i hi => by
  rw [← Bool.not_eq_true, msk_bit]; omega
def cntN (p : Nat → Rat) : Nat → Nat
  | 0 => 0
  | k + 1 => cntN p k + if p k = 0 then 0 else 1
theorem cntN_lt {p q : Nat → Rat} {w : Nat} : ∀ n, (∀ v, v < n → q v ≠ 0 → p v ≠ 0) → (w < n → q w = 0 ∧ p w ≠ 0 → cntN q n < cntN p n) ∧ cntN q n ≤ cntN p n
  | 0, _ => ⟨fun h => by omega, Nat.le_refl _⟩
  | n + 1, h => by
    obtain ⟨h1, h2⟩ := cntN_lt (w := w) n fun v hv => h v (by omega)
    have h3 := h n (by omega)
    simp only [cntN]
    refine ⟨fun hw hq => ?_, ?_⟩
    · by_cases hwn : w = n
      · subst hwn
        rw [if_pos hq.1, if_neg hq.2]; omega
      · have := h1 (by omega) hq
        by_cases h4 : q n = 0
        · rw [if_pos h4]; split <;> omega
        · rw [if_neg h4, if_neg (h3 h4)]; omega
    · by_cases h4 : q n = 0
      · rw [if_pos h4]; split <;> omega
      · rw [if_neg h4, if_neg (h3 h4)]; omega
theorem least_of (P : Nat → Prop) (r : Nat → Rat) : ∀ n, (∃ w, w < n ∧ P w) → ∃ w, w < n ∧ P w ∧ ∀ v, v < n → P v → r w ≤ r v
  | 0, ⟨w, h, _⟩ => by omega
  | n + 1, ⟨w, h, hp⟩ => by
    by_cases hex : ∃ w, w < n ∧ P w
    · obtain ⟨u, h1, h2, h3⟩ := least_of P r n hex
      by_cases hn : P n ∧ r n < r u
      · refine ⟨n, by omega, hn.1, fun v hv hpv => ?_⟩
        by_cases hvn : v = n
        · subst hvn; exact Rat.le_refl
        · exact Rat.le_trans (Rat.le_of_lt hn.2) (h3 v (by omega) hpv)
      · refine ⟨u, by omega, h2, fun v hv hpv => ?_⟩
        by_cases hvn : v = n
        · subst hvn
          rw [← Rat.not_lt]
          exact fun hc => hn ⟨hpv, hc⟩
        · exact h3 v (by omega) hpv
    · have hwn : w = n := by
        rcases Nat.lt_or_ge w n with h1 | h1
        · exact absurd ⟨w, h1, hp⟩ hex
        · omega
      subst hwn
      refine ⟨w, by omega, hp, fun v hv hpv => ?_⟩
      by_cases hvn : v = w
      · subst hvn; exact Rat.le_refl
      · exact absurd ⟨v, by omega, hpv⟩ hex
theorem neg_of_sum {n : Nat} {d : Nat → Rat} (hs : Zo d n = 0) (hne : ∃ w, w < n ∧ d w ≠ 0) : ∃ w, w < n ∧ d w < 0 := by
  by_cases h : ∃ w, w < n ∧ d w < 0
  · exact h
  · exfalso
    have h0 : ∀ w, w < n → 0 ≤ d w := fun w hw => by
      rw [← Rat.not_lt]; exact fun hc => h ⟨w, hw, hc⟩
    obtain ⟨w, hw, hd⟩ := hne
    have := sumTo_one hw h0
    rw [hs] at this
    exact hd (Rat.le_antisymm this (h0 w hw))
theorem vertex {n : Nat} {l : List (Int × Int)} (f : Nat → Rat) : ∀ (N : Nat) (p : Nat → Rat), cntN p n ≤ N → Feas n l p → ∃ b, b ∈ Xt n l ∧ Zo (fun w => f w * b.getD w 0) n ≤ Zo (fun w => f w * p w) n := by
  intro N
  induction N with
  | zero =>
    intro p hc hp
    exfalso
    have : ∀ k, cntN p k = 0 → Zo p k = 0 := by
      intro k
      induction k with
      | zero => intro _; rfl
      | succ k ih =>
        intro h
        rw [cntN] at h
        rw [Zo, ih (by omega)]
        by_cases h1 : p k = 0
        · rw [h1, Rat.zero_add]
        · rw [if_neg h1] at h; omega
    have h1 := hp.one
    rw [this n (by omega)] at h1
    exact absurd h1 (by decide)
  | succ N ih =>
    intro p hc hp
    obtain ⟨set, hset⟩ : ∃ s, msk p n = s := ⟨_, rfl⟩
    have hbit : ∀ w, set.testBit w = true ↔ w < n ∧ p w ≠ 0 := fun w => by rw [← hset]; exact msk_bit p w n
    have hlt : set < 2 ^ n := by rw [← hset]; exact msk_lt p n
    have hpos : 1 ≤ set := by
      rcases Nat.eq_zero_or_pos set with h | h
      · exfalso
        have hz : Zo p n = 0 := Xp fun i hi => by
          rcases Decidable.em (p i = 0) with h1 | h1
          · exact h1
          · have := (hbit i).2 ⟨hi, h1⟩
            rw [h, Nat.zero_testBit] at this; cases this
        rw [hp.one] at hz
        exact absurd hz (by decide)
      · exact h
    have hspr : ∀ w, w < n → spr set (fun c => p ((Yk n set).getD c 0)) w = p w := fun w hw => by
      rw [spr]
      by_cases hb : set.testBit w = true
      · rw [if_pos hb, Yk, Wi hw hb]
      · rw [if_neg hb]
        rcases Decidable.em (p w = 0) with h1 | h1
        · exact h1.symm
        · exact absurd ((hbit w).2 ⟨hw, h1⟩) hb
    have hsol : Sol (l.length + 1) (Yk n set).length (sysB n l (Yk n set)) (fun c => p ((Yk n set).getD c 0)) := by
      rw [sol_iff]
      refine ⟨by rw [Zj hspr]; exact hp.one, fun i hi => ?_⟩
      rw [evq, Zj (g := fun w => bitQ (l.getD i (0, 0)).1.toNat w * p w) fun w hw => by rw [hspr w hw]]
      exact hp.bet i hi
    cases hs : Wc (l.length + 1) (Yk n set).length (sysB n l (Yk n set)) with
    | some xs =>
      obtain ⟨hl, hx⟩ := solve_some hs
      have hxp := (hx _).1 hsol
      have hcor : Vj n l set = some (Wb n (Yk n set) xs (Yk n set).length) := by
        rw [Vj, hs]
        simp only [Option.bind_some]
        rw [if_neg]
        rw [List.any_eq_true]
        rintro ⟨q, hq, hneg⟩
        obtain ⟨t, ht, rfl⟩ := List.getElem_of_mem hq
        have h1 := hxp t (by omega)
        have h1' : xs.getD t 0 = xs[t] := by rw [List.getD, List.getElem?_eq_getElem ht]; rfl
        rw [h1'] at h1
        simp only [decide_eq_true_eq] at hneg
        rw [← h1] at hneg
        have h2 := Xe (set := set) (k := n) (c := t) (by rw [hl] at ht; exact ht)
        exact absurd (hp.nn _ h2.2.1) (Rat.not_le.2 hneg)
      refine ⟨_, mem_corners.2 ⟨set, hpos, hlt, hcor⟩, ?_⟩
      rw [Zj (g := fun w => f w * p w) fun w hw => by
        rw [spread_spr hw, ← hspr w hw, spr, spr]
        by_cases hb : set.testBit w = true
        · rw [if_pos hb, if_pos hb, hxp _ (Yw hw hb)]
        · rw [if_neg hb, if_neg hb]]
      exact Rat.le_refl
    | none =>
      rcases solve_none hs with h1 | ⟨δ, hk, c, hcl, hd⟩
      · exact absurd hsol (h1 _)
      · obtain ⟨k1, k2⟩ := ker_iff hk
        obtain ⟨i1, i2, i3⟩ := Xe (set := set) (k := n) (c := c) hcl
        -- the side to which it does not grow
        obtain ⟨d, hd1, hd2, hd3, hd4, hd5⟩ : ∃ d : Nat → Rat, Zo d n = 0 ∧ (∀ i, i < l.length → evq n d (l.getD i (0, 0)).1.toNat = 0) ∧ (∀ w, w < n → p w = 0 → d w = 0) ∧ (∃ w, w < n ∧ d w ≠ 0) ∧ Zo (fun w => f w * d w) n ≤ 0 := by
          have z0 : ∀ w, w < n → p w = 0 → spr set δ w = 0 := fun w hw h0 => by
            rw [spr, if_neg]
            intro hb
            exact ((hbit w).1 hb).2 h0
          have n0 : spr set δ ((Zi set n).getD c 0) ≠ 0 := by rw [spr, if_pos i3, i1]; exact hd
          by_cases hsg : Zo (fun w => f w * spr set δ w) n ≤ 0
          · exact ⟨spr set δ, k1, k2, z0, ⟨_, i2, n0⟩, hsg⟩
          · refine ⟨fun w => -1 * spr set δ w, by rw [Ys, k1, Rat.mul_zero], fun i hi => ?_, fun w hw h0 => by simp only [z0 w hw h0, Rat.mul_zero], ⟨_, i2, fun h => n0 (by grind)⟩, ?_⟩
            · rw [evq, Zj (g := fun w => -1 * (bitQ (l.getD i (0, 0)).1.toNat w * spr set δ w)) fun w hw => by grind, Ys]
              have := k2 i hi
              rw [evq] at this
              rw [this, Rat.mul_zero]
            · rw [Zj (g := fun w => -1 * (f w * spr set δ w)) fun w hw => by grind, Ys]
              have := Rat.not_le.1 hsg
              generalize Zo (fun w => f w * spr set δ w) n = A at *
              grind
        obtain ⟨w0, hw0, hneg, hleast⟩ := least_of (fun w => d w < 0) (fun w => p w / (-(d w))) n (neg_of_sum hd1 hd4)
        obtain ⟨t, ht⟩ : ∃ t, p w0 / (-(d w0)) = t := ⟨_, rfl⟩
        have hdp : 0 < -(d w0) := by grind
        have hte : t * (-(d w0)) = p w0 := by rw [← ht]; exact Rat.div_mul_cancel (fun h => by rw [h] at hdp; exact absurd hdp (by decide))
        have ht0 : 0 ≤ t := by
          rw [← Rat.not_lt]
          intro hc
          have := (Rat.mul_lt_mul_right hdp).2 hc
          rw [Rat.zero_mul, hte] at this
          exact absurd (hp.nn w0 hw0) (Rat.not_le.2 this)
        have hpt : p w0 + t * d w0 = 0 := by
          have : t * (-(d w0)) = p w0 := by rw [← ht]; exact Rat.div_mul_cancel (fun h => by rw [h] at hdp; exact absurd hdp (by decide))
          grind
        have hq : Feas n l (fun w => p w + t * d w) := by
          refine ⟨fun w hw => ?_, by rw [Wa, Ys, hd1, hp.one, Rat.mul_zero, Rat.add_zero], fun i hi => ?_⟩
          · by_cases h1 : d w < 0
            · have h2 := hleast w hw h1
              rw [ht] at h2
              have h3 : 0 < -(d w) := by grind
              have h4 : t * (-(d w)) ≤ p w := by
                have h5 := Rat.mul_le_mul_of_nonneg_right h2 (Rat.le_of_lt h3)
                rwa [Rat.div_mul_cancel (fun h => by rw [h] at h3; exact absurd h3 (by decide))] at h5
              grind
            · exact Rat.add_nonneg (hp.nn w hw) (Rat.mul_nonneg ht0 (Rat.not_lt.1 h1))
          · have h1 := hp.bet i hi
            have h2 := hd2 i hi
            rw [evq] at h1 h2 ⊢
            rw [Zj (g := fun w => bitQ (l.getD i (0, 0)).1.toNat w * p w + t * (bitQ (l.getD i (0, 0)).1.toNat w * d w)) fun w hw => by grind, Wa, Ys, h1, h2, Rat.mul_zero, Rat.add_zero]
        have hcnt : cntN (fun w => p w + t * d w) n < cntN p n := (cntN_lt (w := w0) n fun v hv hne h0 => hne (by rw [h0, hd3 v hv h0]; grind)).1 hw0 ⟨hpt, fun h0 => by rw [hd3 w0 hw0 h0] at hneg; exact absurd hneg (by decide)⟩
        obtain ⟨b, hb1, hb2⟩ := ih _ (by omega) hq
        refine ⟨b, hb1, Rat.le_trans hb2 ?_⟩
        rw [Zj (g := fun w => f w * p w + t * (f w * d w)) fun w hw => by grind, Wa, Ys]
        have : t * Zo (fun w => f w * d w) n ≤ t * 0 := Rat.mul_le_mul_of_nonneg_left hd5 ht0
        rw [Rat.mul_zero] at this
        generalize Zo (fun w => f w * p w) n = A at *
        generalize t * Zo (fun w => f w * d w) n = B at *
        grind
end Bq

namespace Bq

structure Sy (m k : Nat) (T : Xx) : Prop where
  bit : ∀ i c, i < m → c < k → is01 (T i c)
  right : ∀ i, i < m → Zq 12 (T i k * ((12 : Nat) : Rat))
theorem fac01_le : ∀ n, n ≤ 5 → fac01 n ≤ 60 := by decide
theorem fac_bounds : ∀ n, n ≤ 5 → fac01 n * 12 ≤ 8640 ∧ (n + 1) * (12 * fac01 n) ≤ 8640 := by decide
theorem Sy.parts {m k : Nat} {T S : Xx} (s : Sy m k T) (hk : k ≤ 5) {j : Nat} (hj : j ≤ k) (hr : Xd m T j = some S) :
    ∃ D, 0 < D ∧ D ≤ 720 ∧ ∀ i c, i < m → c ≤ k → ∃ x : Int, Rp D x (S i c) ∧ x.natAbs ≤ 8640 := by
  obtain ⟨π, g⟩ := elim_gi hr
  obtain ⟨D, h1, h2, h3⟩ := g.parts (P := is01) (F := fac01) (fun n M h => det_01 n h) (k := k) (N := 12) (B := 12) (X := 8640) hj (by decide) s.bit s.right (fun n hn => (fac_bounds n (by omega)).1) (fun n hn => (fac_bounds n (by omega)).2)
  refine ⟨D, h1, ?_, h3⟩
  have := Nat.mul_le_mul_right 12 (fac01_le j (by omega))
  omega
theorem Sy.tame {m k : Nat} {T S : Xx} (s : Sy m k T) (hk : k ≤ 5) {j : Nat} (hj : j ≤ k) (hr : Xd m T j = some S) : Tame m k S := by
  obtain ⟨D, h1, h2, h3⟩ := s.parts hk hj hr
  refine ⟨D, h1, by omega, fun i c hi hc => ?_⟩
  obtain ⟨x, h4, h5⟩ := h3 i c hi hc
  exact ⟨x, h4, by omega⟩
def Cts (l : List (Int × Int)) : Prop := ∀ i, i < l.length → 0 ≤ (l.getD i (0, 0)).2 ∧ (l.getD i (0, 0)).2 ≤ 12
theorem sysB_sy {n : Nat} {l : List (Int × Int)} (hl : Cts l) (ws : List Nat) : Sy (l.length + 1) ws.length (sysB n l ws) := by
  obtain ⟨r0, r1⟩ := sys_right n l ws
  refine ⟨fun i c hi hc => ?_, fun i hi => ?_⟩
  · simp only [sysB, hc, if_true]
    split
    · exact bitQ_01 _ _
    · exact bitQ_01 _ _
  · cases i with
    | zero => rw [r0]; exact ⟨12, by decide +kernel, by decide⟩
    | succ i =>
      rw [r1]
      obtain ⟨h1, h2⟩ := hl i (by omega)
      refine ⟨_, divInt_mul (y := 12) (by decide), by omega⟩
theorem tame_all {n : Nat} {l : List (Int × Int)} (hn : n ≤ 5) (hl : Cts l) : TameAll n l := fun set h1 h2 j S hj hS =>
  (sysB_sy hl _).tame (Nat.le_trans (Va set n) hn) hj hS
theorem corner_den {n : Nat} {l : List (Int × Int)} {set : Nat} {b : List Rat} (hn : n ≤ 5) (hl : Cts l) (h : Vj n l set = some b) : ∃ D, 0 < D ∧ D ≤ 720 ∧ ∀ w, w < n → (b.getD w 0).den ∣ D := by
  rw [Vj] at h
  cases hs : Wc (l.length + 1) (Yk n set).length (sysB n l (Yk n set)) with
  | none => rw [hs] at h; cases h
  | some xs =>
    rw [hs] at h
    simp only [Option.bind_some] at h
    split at h
    · cases h
    · cases h
      have hk : (Yk n set).length ≤ 5 := Nat.le_trans (Va set n) hn
      rw [Wc] at hs
      cases hr : Xd (l.length + 1) (sysB n l (Yk n set)) (Yk n set).length with
      | none => rw [hr] at hs; cases hs
      | some S =>
        rw [hr] at hs
        simp only [Option.bind_some] at hs
        split at hs
        · cases hs
        · have hjm : (Yk n set).length ≤ l.length + 1 := by
            obtain ⟨π, g⟩ := elim_gi hr
            exact g.jm
          obtain ⟨D, h1, h2, h3⟩ := (sysB_sy (n := n) hl (Yk n set)).parts hk (Nat.le_refl _) hr
          refine ⟨D, h1, h2, fun w hw => ?_⟩
          rw [spread_spr hw, spr]
          split
          · next hb =>
            have hlt : (Zi set w).length < (Yk n set).length := Yw hw hb
            cases hs
            obtain ⟨x, g1, g2⟩ := h3 (Zi set w).length (Yk n set).length (Nat.lt_of_lt_of_le hlt hjm) (Nat.le_refl _)
            have e : ((List.range (Yk n set).length).map fun i => S i (Yk n set).length).getD (Zi set w).length 0 = S (Zi set w).length (Yk n set).length := by
              rw [List.getD, List.getElem?_map, List.getElem?_range hlt]; rfl
            rw [e]; exact g1.dvd
          · exact Nat.one_dvd _

theorem sound_iff {n : Nat} {l : List (Int × Int)} : Xt n l ≠ [] ↔ ∃ p, Feas n l p := by
  constructor
  · intro h
    obtain ⟨b, hb⟩ := List.exists_mem_of_ne_nil _ h
    obtain ⟨set, h1, h2, h3⟩ := mem_corners.1 hb
    exact ⟨_, (corner_feas h3).2⟩
  · rintro ⟨p, hp⟩ h
    obtain ⟨b, hb, _⟩ := vertex (fun _ => 0) _ p (Nat.le_refl _) hp
    rw [h] at hb; cases hb
end Bq

namespace Go.Proofs.Try.Am
open Go.Am Bq
set_option maxRecDepth 100000
set_option maxHeartbeats 1000000

section
variable {h h' : Zh} {B m k C : Nat} {w : Nat → Value} {bk : Nat → Nat} {T T' : Xx}
end
def RowsN (hp0 : Nat) (G : Zh) (q : Value) (ws : List Value) (k : Nat) (T : Xx) : Prop := (ws = [] ∧ q = .slice none 0 0) ∨ (Rows hp0 G q ws k T ∧ OwnV 47 G q ws)
theorem Rows.moreN [Tabs prog] {hp0 : Nat} {G G2 : Zh} {q rv : Value} {ws : List Value} {k b2 : Nat} {T : Xx} (R : Rows hp0 G q ws k T) (hl : ws.length ≤ 1000) (h0 : hp0 ≤ G.length) (hE : Ext (fun _ => False) G G2) (hr : OwnP 26 G2 rv (rowC T k ws.length)) (hrb : ∀ b, Yf rv = some b → G.length ≤ b) (hb2 : G2[b2]? = some (.cells [rv] 47 false))
    {K : Value → Zh → Prop} (hk : ∀ q' h', OwnV 47 h' q' (ws ++ [rv]) → Rows hp0 h' q' (ws ++ [rv]) k T → Ext (fun b => hp0 ≤ b) G2 h' → Ext (fun i => Yf q = some i) G2 h' → K q' h') : Xg prog G2 94 94 q (.slice (some ⟨b2, 0, none⟩) 1 1) K := by
  have R2 := R.ext hE
  obtain ⟨bq, cq, hbq, hq1, hq2⟩ := R.sl.blk R.ne
  obtain ⟨br, yr, hr1, hr2⟩ := Xy hr Vm
  have hbr : Yf rv = some br := by rw [hr1]; rfl
  have hbrl := hrb br hbr
  have hw : ∀ w ∈ ws ++ [rv], notI w = true ∧ one w = true := fun w hw => by
    rcases List.mem_append.1 hw with h1 | h1
    · obtain ⟨i, hi, rfl⟩ := List.mem_iff_getElem.1 h1
      obtain ⟨b, ys, e1, _⟩ := Xy (R.row i hi) Vm
      rw [List.getD, List.getElem?_eq_getElem hi, Option.getD_some] at e1
      rw [e1]; exact ⟨rfl, rfl⟩
    · rw [List.mem_singleton.1 h1, hr1]; exact ⟨rfl, rfl⟩
  refine R2.sl.app R.ne app_94_94 hb2 hw hl fun q' h' ho hE' hb' => ?_
  have rowb : ∀ i, i < ws.length → ∃ b, Yf (ws.getD i undef) = some b ∧ b < G.length := fun i hi => by
    obtain ⟨b, ys, e1, e2⟩ := Xy (R.row i hi) Vm
    exact ⟨b, by rw [e1]; rfl, Yh e2⟩
  have g1 : ∀ i, i < ws.length → (ws ++ [rv]).getD i undef = ws.getD i undef := fun i hi => by
    rw [List.getD, List.getElem?_append_left hi]; rfl
  have g2 : (ws ++ [rv]).getD ws.length undef = rv := by simp [List.getD]
  have hq'b : ∀ b, Yf q' = some b → b = bq ∨ G2.length ≤ b := fun b hb => by
    rcases hb' with h1 | ⟨b', h1, h2⟩
    · rw [h1, hbq] at hb; cases hb; exact .inl rfl
    · rw [h1] at hb; cases hb; exact .inr h2
  have keep : ∀ b, b ≠ bq → b < G2.length → h'[b]? = G2[b]? := fun b hb hl => hE'.2 b hl fun hc => hb (by rw [hbq] at hc; cases hc; rfl)
  refine hk q' h' ho ⟨.inr ho, by simp, fun i hi => ?_, fun i j hi hj he => ?_, fun i hi => ?_, ⟨fun b hb => ?_, fun i b hi hb => ?_⟩⟩ (hE'.mono fun b hb => R.old.1 b hb) hE'
  · rw [List.length_append, List.length_singleton] at hi
    rcases Nat.lt_or_ge i ws.length with h1 | h1
    · rw [g1 i h1]
      refine (R2.row i h1).same fun b hb => ?_
      obtain ⟨b', e1, e2⟩ := rowb i h1
      rw [e1] at hb; cases hb
      exact keep _ (fun hc => R.sep i h1 (by rw [e1, hbq, hc])) (by have := hE.1; omega)
    · rw [show i = ws.length by omega, g2]
      refine hr.same fun b hb => ?_
      rw [hbr] at hb; cases hb
      exact keep _ (by omega) (Yh hr2)
  · rw [List.length_append, List.length_singleton] at hi hj
    rcases Nat.lt_or_ge i ws.length with h1 | h1 <;> rcases Nat.lt_or_ge j ws.length with h2 | h2
    · rw [g1 i h1, g1 j h2] at he; exact R.inj i j h1 h2 he
    · rw [g1 i h1, show j = ws.length by omega, g2, hbr] at he
      obtain ⟨b', e1, e2⟩ := rowb i h1
      rw [e1] at he; cases he; omega
    · rw [g1 j h2, show i = ws.length by omega, g2, hbr] at he
      obtain ⟨b', e1, e2⟩ := rowb j h2
      rw [e1] at he; cases he; omega
    · omega
  · rw [List.length_append, List.length_singleton] at hi
    intro hc
    rcases Nat.lt_or_ge i ws.length with h1 | h1
    · rw [g1 i h1] at hc
      obtain ⟨b', e1, e2⟩ := rowb i h1
      rw [e1] at hc
      rcases hq'b b' hc.symm with h3 | h3
      · exact R.sep i h1 (by rw [e1, hbq, h3])
      · have := hE.1; omega
    · rw [show i = ws.length by omega, g2, hbr] at hc
      rcases hq'b br hc.symm with h3 | h3
      · omega
      · have := Yh hr2; omega
  · rcases hq'b b hb with h3 | h3
    · rw [h3]; exact R.old.1 _ hbq
    · have := hE.1; omega
  · rw [List.length_append, List.length_singleton] at hi
    rcases Nat.lt_or_ge i ws.length with h1 | h1
    · rw [g1 i h1] at hb; exact R.old.2 i b h1 hb
    · rw [show i = ws.length by omega, g2] at hb
      have := hrb b hb; omega

theorem RowsN.more [Tabs prog] {hp0 : Nat} {G G2 : Zh} {q rv : Value} {ws : List Value} {k b2 : Nat} {T : Xx} (R : RowsN hp0 G q ws k T) (hl : ws.length ≤ 1000) (h0 : hp0 ≤ G.length) (hE : Ext (fun _ => False) G G2) (hr : OwnP 26 G2 rv (rowC T k ws.length)) (hrb : ∀ b, Yf rv = some b → G.length ≤ b) (hb2 : G2[b2]? = some (.cells [rv] 47 false))
    {K : Value → Zh → Prop} (hk : ∀ q' h', RowsN hp0 h' q' (ws ++ [rv]) k T → Ext (fun b => hp0 ≤ b) G2 h' → Ext (fun i => Yf q = some i) G2 h' → K q' h') : Xg prog G2 94 94 q (.slice (some ⟨b2, 0, none⟩) 1 1) K := by
  rcases R with ⟨rfl, rfl⟩ | ⟨R, _⟩
  · obtain ⟨br, yr, hr1, hr2⟩ := Xy hr Vm
    have hbr : Yf rv = some br := by rw [hr1]; rfl
    have hbrl := hrb br hbr
    refine OwnV.app (e := 47) (h := G2) (v := .slice none 0 0) (ws := []) (us := [rv]) (.inl ⟨rfl, rfl⟩) app_94_94 (.inr ⟨b2, 0, none, 1, [rv], 47, false, rfl, Nat.le_refl _, by simp [view, hb2, Blk.view], rfl⟩) (fun w hw => ?_) (by simp) fun q' h' ho hE' hb' => ?_
    · rw [List.nil_append, List.mem_singleton] at hw
      rw [hw, hr1]; exact ⟨rfl, rfl⟩
    · have hE2 : Ext (fun _ => False) G2 h' := hE'.mono fun b hb => by cases hb
      refine hk q' h' (.inr ⟨⟨.inr ho, by simp, fun i hi => ?_, fun i j hi hj _ => ?_, fun i hi hc => ?_, ⟨fun b hb => ?_, fun i b hi hb => ?_⟩⟩, ho⟩) (hE2.mono fun _ h => h.elim) hE'
      · obtain rfl : i = 0 := by simpa using hi
        exact hr.ext hE2
      · simp at hi hj; omega
      · obtain rfl : i = 0 := by simpa using hi
        simp only [List.nil_append, List.getD, List.getElem?_cons_zero, Option.getD_some, hbr] at hc
        rcases hb' with h1 | ⟨b', h1, h2⟩
        · rw [h1] at hc; cases hc
        · rw [h1] at hc; cases hc
          have := Yh hr2; omega
      · rcases hb' with h1 | ⟨b', h1, h2⟩
        · rw [h1] at hb; cases hb
        · rw [h1] at hb; cases hb
          have := hE.1; omega
      · obtain rfl : i = 0 := by simpa using hi
        simp only [List.nil_append, List.getD, List.getElem?_cons_zero, Option.getD_some, hbr] at hb
        cases hb; omega
  · exact R.moreN hl h0 hE hr hrb hb2 fun q' h' ho R' e1 e2 => hk q' h' (.inr ⟨R', ho⟩) e1 e2
theorem iExt {h h' : Zh} {v : Value} {xs : List Int} (hv : IntSl h v xs) (hE : Ext (fun _ => False) h h') : IntSl h' v xs := hv.same fun b hb => hE.2 b (hv.lt hb) id
theorem oExt {h0 H H' h' : Zh} {v v' : Value} (hE : Ext (fun _ => False) h0 H) (hb : ∀ b, Yf v = some b → h0.length ≤ b) (g : List Blk) (hE' : Ext (fun i => Yf v = some i) (H ++ g) h') (hb' : Yf v' = Yf v ∨ ∃ b, Yf v' = some b ∧ (H ++ g).length ≤ b) : Ext (fun _ => False) h0 h' ∧ ∀ b, Yf v' = some b → h0.length ≤ b := by
  have hl' := hE'.1
  have l1 := hE.1
  rw [List.length_append] at hl'
  refine ⟨⟨by omega, fun q hq _ => ?_⟩, fun b hb0 => ?_⟩
  · rw [hE'.2 q (by rw [List.length_append]; omega) (fun hb0 => by have := hb q hb0; omega), List.getElem?_append_left (by omega)]
    exact hE.2 q hq id
  · rcases hb' with hb' | ⟨b', hb1, hb2⟩
    · exact hb b (hb' ▸ hb0)
    · rw [hb1] at hb0; cases hb0
      rw [List.length_append] at hb2
      omega
end Go.Proofs.Try.Am

namespace Go.Proofs.Try.Am
open Go.Am Bq
set_option maxRecDepth 100000
set_option maxHeartbeats 4000000

end Go.Proofs.Try.Am

namespace Go.Proofs.Try.Am
open Go.Am Bq
set_option maxRecDepth 100000
set_option maxHeartbeats 4000000

theorem cts_of {n : Nat} {l : List (Int × Int)} (h : Yz n l = true) : Cts l := fun i hi => by
  have := (We h).2.2.2.2 i hi
  simp only [okB, Bool.and_eq_true, decide_eq_true_eq] at this
  exact this.2.2
end Go.Proofs.Try.Am
