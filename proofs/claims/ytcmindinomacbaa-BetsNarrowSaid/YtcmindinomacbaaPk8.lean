/-
  bets: bets that are valid, in the program.
  bets: bets that are valid, in the reference; bets copied.
  bets: equations as they lie in memory.
-/
import Derived.Test.YtcmindinomacbaaPk7
import Derived.Test.YtcmindinomacbaaPk6
import Derived.Test.YtcmindinomacbaaPk5
set_option linter.all false
namespace Go.Proofs.Try.Am
open Go.Am Bq
set_option maxRecDepth 100000
set_option maxHeartbeats 1000000

abbrev bB (x y : Int) : Blk := .cells [Zd x, Zd y] 92 false
abbrev zB : Blk := .cells [.int .i64 0, .int .i64 0] 92 false
theorem storeBt {h : Zh} {b : Nat} {x y : Int} {e : TypeId} {c : List Value} {K : Zh → Prop} (hb : h[b]? = some (.cells c e false)) (hc : c.length = 2) : Xn prog h 92 (.pointer (some ⟨b, 0, none⟩)) (.agg #[Zd x, Zd y]) K = K (h.set b (.cells [Zd x, Zd y] e false)) :=
  storeA (vs := [Zd x, Zd y]) hb (by rw [shp_92]; rfl) rfl (by rw [hc]; rfl)
theorem bA0 {b : Nat} {K : Value → Prop} : Yz prog 92 (.pointer (some ⟨b, 0, none⟩)) 0 K = K (.pointer (some ⟨b, 0, none⟩)) := fldA fld_92_0 esz_3
theorem bA1 {b : Nat} {K : Value → Prop} : Yz prog 92 (.pointer (some ⟨b, 0, none⟩)) 1 K = K (.pointer (some ⟨b, 1, none⟩)) := fldA fld_92_1 esz_3
theorem tA0 {b : Nat} {K : Value → Prop} : Yz prog 86 (.pointer (some ⟨b, 0, none⟩)) 0 K = K (.pointer (some ⟨b, 0, none⟩)) := fldA fld_86_0 esz_3
theorem tA1 {b : Nat} {K : Value → Prop} : Yz prog 86 (.pointer (some ⟨b, 0, none⟩)) 1 K = K (.pointer (some ⟨b, 1, none⟩)) := fldA fld_86_1 esz_30
theorem boxB {h : Zh} {x y : Int} {K : Value → Zh → Prop} : boxK prog h 92 (.agg #[Zd x, Zd y]) K = K (Yn h) (h ++ [bB x y]) := by
  simp [boxK, esz_92, Yn, cellsOf]
theorem boxT {h : Zh} {n : Int} {v : Value} {K : Value → Zh → Prop} : boxK prog h 86 (.agg #[Zd n, v]) K = K (Yn h) (h ++ [.cells [Zd n, v] 86 false]) := by
  simp [boxK, esz_86, Yn, cellsOf]
theorem Vw {h : Zh} {b : Nat} {n : Int} {v : Value} {K : Value → Prop} (hb : h[b]? = some (.cells [Zd n, v] 86 false)) : Xu prog h 3 (.pointer (some ⟨b, 0, none⟩)) K = K (Zd n) := loadC hb shp_3 rfl
theorem loadT1 {h : Zh} {b : Nat} {n : Int} {v : Value} {K : Value → Prop} (hb : h[b]? = some (.cells [Zd n, v] 86 false)) : Xu prog h 30 (.pointer (some ⟨b, 1, none⟩)) K = K v := loadC hb shp_30 rfl
theorem loadB0 {h : Zh} {b : Nat} {x y : Int} {K : Value → Prop} (hb : h[b]? = some (bB x y)) : Xu prog h 3 (.pointer (some ⟨b, 0, none⟩)) K = K (Zd x) := loadC hb shp_3 rfl
theorem loadB1 {h : Zh} {b : Nat} {x y : Int} {K : Value → Prop} (hb : h[b]? = some (bB x y)) : Xu prog h 3 (.pointer (some ⟨b, 1, none⟩)) K = K (Zd y) := loadC hb shp_3 rfl

theorem s115_callW [Tabs Try.prog] {args : List Value} {h : Zh} {Q : Value → Zh → Prop} (hsz : args.length ≤ 19) (hk : AWS Try.prog 19 s115 (Zv Try.prog [.tmp 4] Q) (Zo 0 args) h) : ACall Try.prog 115 args h Q :=
  Yr Try.func115 rfl (enters_of Try.func115 (by kernel_rfl) rfl) rfl rfl (by decide) s115_strip s115_ok hsz hk
theorem idxB_call [Tabs prog] {h : Zh} {v : Value} {ps : List (Int × Int)} {g : FuncId} {cap : Array Value} {f : Int × Int → Bool} (hv : PairSl h v ps) (hl : ps.length < 9223372036854775808)
    (hc : ∀ h', Ext (fun _ => False) h h' → ∀ p ∈ ps, Xc prog g ([.agg #[Zd p.1, Zd p.2]] ++ cap.toList) h' (.bool (f p))) : ACall prog 115 [v, .func (.func g) #[] cap] h fun r h' => h' = h ∧ ∃ i : Int, r = Zd i ∧ decide (0 ≤ i) = ps.any f := by
  refine s115_callW (by simp) ?_
  simp only [s115]
  refine Ze fun N1 hN1 => ?_
  simp (maxSteps := 2000000) only [↓Za, ↓Zb, ↓Zc, vup, cond_false, aop, Zg, Zo, ev, sput, Zf, Nat.reduceBEq, Nat.reduceAdd]
  refine hN1 [(0, v), (1, .func (.func g) #[] cap), (4, .int .i64 0)] _ _ ?_ (by simp (maxSteps := 2000000) only [vup, cond_true, cond_false, Nat.reduceBEq])
  clear hN1
  try clear N1
  refine Zn fun Z hZ => ?_
  refine Ze fun N2 hN2 => ?_
  simp (maxSteps := 2000000) only [↓Za, ↓Zb, ↓Zc, vup, List.map_cons, List.map_nil, cond_true, cond_false, aop, Zg, ev, sput, Zf, Zl, Nat.reduceBEq, tyf, hv.len]
  refine hN2 [(0, v), (1, .func (.func g) #[] cap), (4, .int .i64 0), (6, v), (7, Zd ps.length), (8, .int .i64 0)] _ _ ?_ (by simp (maxSteps := 2000000) only [vup, cond_true, cond_false, Nat.reduceBEq])
  clear hN2
  try clear N2
  refine Zp ?_
  refine Ya fun Q hQ => ?_
  refine Xb (γ := Nat) (fun k => k ≤ ps.length ∧ ∀ p ∈ ps.take k, f p = false)
    (fun k => ([(0, v), (1, .func (.func g) #[] cap), (4, .int .i64 0), (6, v), (7, Zd ps.length), (8, Zd (k : Nat))], h)) (fun k => ps.length - k) 0 ⟨Nat.zero_le _, by simp⟩ (by simp (maxSteps := 2000000) only [vup, cond_true, cond_false, Nat.reduceBEq, Int.natCast_zero]) rfl ?_
  rintro k ⟨hk, hall⟩
  refine Ya fun Q2 hQ2 => ?_
  simp only [l115_0]
  by_cases hin : (k : Int) < ps.length
  · have hk' : k < ps.length := by omega
    obtain ⟨⟨x, y⟩, hxy⟩ : ∃ p, ps.getD k (0, 0) = p := ⟨_, rfl⟩
    have hmem : (x, y) ∈ ps := hxy ▸ Wn hk'
    refine Ze fun N3 hN3 => ?_
    simp (maxSteps := 2000000) only [↓Za, ↓Zb, ↓Zc, vup, cond_true, cond_false, aop, Zg, ev, sput, Zf, Yi, Yo, Nat.reduceBEq, hin]
    refine hN3 [(0, v), (1, .func (.func g) #[] cap), (4, .int .i64 0), (6, v), (7, Zd ps.length), (8, Zd (k : Nat)), (9, .bool true)] _ _ ?_ (by simp (maxSteps := 2000000) only [vup, cond_true, cond_false, Nat.reduceBEq])
    clear hN3
    try clear N3
    refine Ze fun N4 hN4 => ?_
    simp (maxSteps := 2000000) only [↓Zw, ↓vdn, vup, cond_true, cond_false, Zg, ev, Nat.reduceBEq]
    refine hN4 [(0, v), (1, .func (.func g) #[] cap), (4, .int .i64 0), (6, v), (7, Zd ps.length), (8, Zd (k : Nat))] _ _ ?_ (by simp (maxSteps := 2000000) only [vup, cond_true, cond_false, Nat.reduceBEq])
    clear hN4
    try clear N4
    refine Zn fun B hB => ?_
    refine Zp ?_
    refine Ze fun N5 hN5 => ?_
    simp (maxSteps := 2000000) only [↓Za, ↓Zb, ↓Zc, vup, cond_true, cond_false, aop, Zg, ev, sput, Zf, Nat.reduceBEq]
    refine hN5 [(0, v), (1, .func (.func g) #[] cap), (4, .int .i64 0), (5, Zd (k : Nat)), (6, v), (7, Zd ps.length), (8, Zd (k : Nat))] _ _ ?_ (by simp (maxSteps := 2000000) only [vup, cond_true, cond_false, Nat.reduceBEq])
    clear hN5
    try clear N5
    refine Ze fun N6 hN6 => ?_
    simp (maxSteps := 2000000) only [↓Za, ↓Zb, ↓Zc, vup, List.map_cons, List.map_nil, cond_true, cond_false, aop, Zg, ev, sput, Zf, Nat.reduceBEq, hv.idx el_30 esz_92 hk', hv.load shp_92 hk', hxy, Yt, List.nil_append]
    refine (show Xc prog g ([.agg #[Zd x, Zd y]] ++ cap.toList) h (.bool (f (x, y))) from hc h (Ext.refl _ _) _ hmem).mono ?_
    rintro _ h ⟨rfl, rfl⟩
    refine hN6 [(0, v), (1, .func (.func g) #[] cap), (4, .int .i64 0), (5, Zd (k : Nat)), (6, v), (7, Zd ps.length), (8, Zd (k : Nat)), (16, .bool (f (x, y)))] _ _ ?_ (by simp (maxSteps := 2000000) only [vup, cond_true, cond_false, Nat.reduceBEq])
    clear hN6
    try clear N6
    refine Zi ?_
    cases hf : f (x, y) with
    | true =>
      simp (maxSteps := 2000000) only [↓Za, ↓Zt, ↓Zy, ↓Zb, ↓Zc, ↓vdn, vup, cond_true, cond_false, aop, Zg, Zs, ev, sput, Zf, Nat.reduceBEq]
      refine hQ2 _ _ _ (hQ _ _ _ ?_)
      simp (maxSteps := 2000000) only [vup, cond_true, cond_false, Zg, Zs, Nat.reduceBEq, Zv, Xw, tup]
      exact ⟨_, rfl, by rw [show ps.any f = true from List.any_eq_true.2 ⟨_, hmem, hf⟩]; simp⟩
    | false =>
      simp (maxSteps := 2000000) only [↓Zw, ↓vdn, vup, cond_true, cond_false, Zg, Zs, ev, Nat.reduceBEq]
      refine hB [(0, v), (1, .func (.func g) #[] cap), (4, .int .i64 0), (6, v), (7, Zd ps.length), (8, Zd (k : Nat))] _ _ ?_ (by simp (maxSteps := 2000000) only [vup, cond_true, cond_false, Nat.reduceBEq])
      clear hB
      try clear B
      refine Zi ?_
      simp (maxSteps := 2000000) only [↓Za, ↓Zb, ↓Zc, vup, cond_true, cond_false, aop, ev, sput, Zf, Yi, Yo, Nat.reduceBEq, add1 (show k < 9223372036854775807 by omega)]
      refine hQ2 _ _ _ ⟨k + 1, ⟨hk', fun p hp => ?_⟩, by omega, by simp (maxSteps := 2000000) only [vup, cond_true, cond_false, Nat.reduceBEq], rfl⟩
      rw [take_snoc (d := ((0, 0) : Int × Int)) hk', hxy] at hp
      rcases List.mem_append.1 hp with h3 | h3
      · exact hall p h3
      · simp at h3; subst h3; exact hf
  · obtain rfl : k = ps.length := by omega
    refine Ze fun N7 hN7 => ?_
    simp (maxSteps := 2000000) only [↓Za, ↓Zb, ↓Zc, vup, cond_true, cond_false, aop, Zg, ev, sput, Zf, Yi, Yo, Nat.reduceBEq, hin]
    refine hN7 [(0, v), (1, .func (.func g) #[] cap), (4, .int .i64 0), (6, v), (7, Zd ps.length), (8, Zd ps.length), (9, .bool false)] _ _ ?_ (by simp (maxSteps := 2000000) only [vup, cond_true, cond_false, Nat.reduceBEq])
    clear hN7
    try clear N7
    refine Ze fun N8 hN8 => ?_
    simp (maxSteps := 2000000) only [↓Xh, ↓vdn, vup, cond_true, cond_false, Zg, ev, Nat.reduceBEq]
    refine hQ2 _ _ _ (hQ _ _ _ ?_)
    simp (maxSteps := 2000000) only [Zg, Zs, Zv, if_true]
    refine hZ [(0, v), (1, .func (.func g) #[] cap), (4, .int .i64 0), (6, v), (7, Zd ps.length), (8, Zd ps.length), (9, .bool false)] _ _ ?_ (by simp (maxSteps := 2000000) only [vup, cond_true, cond_false, Nat.reduceBEq])
    clear hZ
    try clear Z
    refine Zi ?_
    simp (maxSteps := 2000000) only [↓Za, ↓Zt, ↓Zy, ↓Zb, ↓Zc, vup, cond_true, cond_false, aop, Zg, ev, sput, Zf, Nat.reduceBEq, Zv, Xw, tup]
    rw [List.take_length] at hall
    exact ⟨_, rfl, by rw [show ps.any f = false from List.any_eq_false.2 fun p hp => by simp [hall p hp]]; decide⟩

theorem s98_callW [Tabs Try.prog] {args : List Value} {h : Zh} {Q : Value → Zh → Prop} (hsz : args.length ≤ 9) (hk : AWS Try.prog 9 s98 (Zv Try.prog [.tmp 4] Q) (Zo 0 args) h) : ACall Try.prog 98 args h Q :=
  Yr Try.func98 rfl (enters_of Try.func98 (by kernel_rfl) rfl) rfl rfl (by decide) s98_strip s98_ok hsz hk
theorem hasB_call [Tabs prog] {h : Zh} {v : Value} {ps : List (Int × Int)} {g : FuncId} {cap : Array Value} {f : Int × Int → Bool} (hv : PairSl h v ps) (hl : ps.length < 9223372036854775808)
    (hc : ∀ h', Ext (fun _ => False) h h' → ∀ p ∈ ps, Xc prog g ([.agg #[Zd p.1, Zd p.2]] ++ cap.toList) h' (.bool (f p))) : Xc prog 98 [v, .func (.func g) #[] cap] h (.bool (ps.any f)) := by
  refine s98_callW (by simp) ?_
  refine Zi ?_
  simp (maxSteps := 2000000) only [s98, ↓Za, ↓Zt, ↓Zy, ↓Zb, ↓Zc, vup, List.map_cons, List.map_nil, cond_true, cond_false, aop, Zg, Zo, ev, sput, Zf, Yi, Yo, Nat.reduceBEq, Nat.reduceAdd, Zv, Xw, tup, tyf, Yt, List.nil_append, List.append_nil]
  refine (idxB_call hv hl hc).mono ?_
  rintro _ h1 ⟨rfl, i, rfl, hi⟩
  simp (maxSteps := 2000000) only [vup, hi]

theorem s99_callW [Tabs Try.prog] {args : List Value} {h : Zh} {Q : Value → Zh → Prop} (hsz : args.length ≤ 9) (hk : AWS Try.prog 9 s99 (Zv Try.prog [.tmp 3] Q) (Zo 0 args) h) : ACall Try.prog 99 args h Q :=
  Yr Try.func99 rfl (enters_of Try.func99 (by kernel_rfl) rfl) rfl rfl (by decide) s99_strip s99_ok hsz hk
theorem sameB_call [Tabs prog] {h : Zh} {b : Nat} {x y e c : Int} (hb : h[b]? = some (bB e c)) : Xc prog 99 [.agg #[Zd x, Zd y], .pointer (some ⟨b, 0, none⟩)] h (.bool (x == e)) := by
  refine ACall.forget (Low.bool _) ?_
  refine s99_callW (by simp) ?_
  refine Zi ?_
  simp (maxSteps := 2000000) only [s99, ↓Za, ↓Zt, ↓Zy, ↓Zb, ↓Zc, vup, cond_true, cond_false, aop, Zg, Zo, ev, sput, Zf, Yi, Yo, Nat.reduceBEq, Nat.reduceAdd, Zv, Xw, tup, tyf, boxB, Yn, bA0, loadB0 (Zz h _), loadB0 (Xr hb _)]
  exact Ext.app _ _ _

/-- A bet on n worlds. -/
def okB (n : Nat) (p : Int × Int) : Bool := decide (0 ≤ p.1) && (decide (p.1 < 2 ^ n) && (decide (0 ≤ p.2) && decide (p.2 ≤ 12)))
/-- Each is a bet, none ahead is on the same event. -/
def Vk (n : Nat) (l : List (Int × Int)) (k : Nat) : Bool := (List.range k).all fun i => okB n (l.getD i (0, 0)) && !(l.take i).any fun x => x.1 == (l.getD i (0, 0)).1
def Yx (n : Int) (l : List (Int × Int)) : Bool := decide (2 ≤ n) && (decide (n ≤ 5) && (decide (1 ≤ l.length) && (decide (l.length ≤ 6) && Vk n.toNat l l.length)))
theorem validTo_succ (n : Nat) (l : List (Int × Int)) (k : Nat) : Vk n l (k + 1) = (Vk n l k && (okB n (l.getD k (0, 0)) && !(l.take k).any fun x => x.1 == (l.getD k (0, 0)).1)) := by
  rw [Vk, List.range_succ, List.all_append]; simp [Vk]
theorem validTo_false {n : Nat} {l : List (Int × Int)} {k : Nat} (hk : k < l.length) (h : (okB n (l.getD k (0, 0)) && !(l.take k).any fun x => x.1 == (l.getD k (0, 0)).1) = false) : Vk n l l.length = false := by
  rw [Vk, List.all_eq_false]
  exact ⟨k, List.mem_range.2 hk, by simp only [h]; decide⟩

set_option maxHeartbeats 2000000
theorem s58_callW [Tabs Try.prog] {args : List Value} {h : Zh} {Q : Value → Zh → Prop} (hsz : args.length ≤ 61) (hk : AWS Try.prog 61 s58 (Zv Try.prog [.tmp 2] Q) (Zo 0 args) h) : ACall Try.prog 58 args h Q :=
  Yr Try.func58 rfl (enters_of Try.func58 (by kernel_rfl) rfl) rfl rfl (by decide) s58_strip s58_ok hsz hk
theorem valid_call [Tabs prog] {h : Zh} {n : Int} {v : Value} {l : List (Int × Int)} (hv : PairSl h v l) (hl : l.length < 9223372036854775808) : Xc prog 58 [.agg #[Zd n, v]] h (.bool (Yx n l)) := by
  obtain ⟨H, hH⟩ : ∃ H, H = h ++ [Blk.cells [Zd n, v] 86 false] := ⟨_, rfl⟩
  have hE : Ext (fun _ => False) h H := by rw [hH]; exact Ext.app _ _ _
  have b1 : H[h.length]? = some (.cells [Zd n, v] 86 false) := by rw [hH]; exact Zz _ _
  have hvH := hv.ext hE
  refine ACall.forget (Low.bool _) ?_
  refine s58_callW (by simp) ?_
  simp only [s58]
  refine Ze fun N9 hN9 => ?_
  simp (maxSteps := 2000000) only [↓Za, ↓Zb, ↓Zc, vup, cond_true, cond_false, aop, Zg, Zo, ev, sput, Zf, Nat.reduceBEq, boxT, Yn]
  rw [← hH]
  refine hN9 [(1, .pointer (some ⟨h.length, 0, none⟩)), (2, .bool false)] _ _ ?_ (by simp (maxSteps := 2000000) only [vup, cond_true, cond_false, Nat.reduceBEq])
  clear hN9
  try clear N9
  by_cases h1 : n < 2
  · refine Zi ?_
    simp (maxSteps := 2000000) only [↓Za, ↓Zt, ↓Zy, ↓Zb, ↓Zc, ↓vdn, vup, cond_true, cond_false, aop, Zg, ev, sput, Zf, Yi, Yo, Nat.reduceBEq, Zv, Xw, tup, tyf, tA0, Vw b1, h1]
    rw [Yx, show decide (2 ≤ n) = false by simp; omega, Bool.false_and]
    exact ⟨rfl, hE⟩
  by_cases h2 : n > 5
  · refine Zi ?_
    simp (maxSteps := 2000000) only [↓Za, ↓Zt, ↓Zy, ↓Zb, ↓Zc, ↓vdn, vup, cond_true, cond_false, aop, Zg, ev, sput, Zf, Yi, Yo, Nat.reduceBEq, Zv, Xw, tup, tyf, tA0, Vw b1, h1, h2]
    rw [Yx, show decide (n ≤ 5) = false by simp; omega, Bool.false_and, Bool.and_false]
    exact ⟨rfl, hE⟩
  by_cases h3 : (l.length : Int) < 1
  · refine Zi ?_
    simp (maxSteps := 2000000) only [↓Za, ↓Zt, ↓Zy, ↓Zb, ↓Zc, ↓vdn, vup, List.map_cons, List.map_nil, cond_true, cond_false, aop, Zg, ev, sput, Zf, Yi, Yo, Zl, Nat.reduceBEq, Zv, Xw, tup, tyf, tA0, tA1, Vw b1, loadT1 b1, h1, h2, hvH.len, h3]
    rw [Yx, show decide (1 ≤ l.length) = false by rw [decide_eq_false_iff_not]; omega, Bool.false_and, Bool.and_false, Bool.and_false]
    exact ⟨rfl, hE⟩
  by_cases h4 : (l.length : Int) > 6
  · refine Zi ?_
    simp (maxSteps := 2000000) only [↓Za, ↓Zt, ↓Zy, ↓Zb, ↓Zc, ↓vdn, vup, List.map_cons, List.map_nil, cond_true, cond_false, aop, Zg, ev, sput, Zf, Yi, Yo, Zl, Nat.reduceBEq, Zv, Xw, tup, tyf, tA0, tA1, Vw b1, loadT1 b1, h1, h2, hvH.len, h3, h4]
    rw [Yx, show decide (l.length ≤ 6) = false by simp; omega, Bool.false_and, Bool.and_false, Bool.and_false, Bool.and_false]
    exact ⟨rfl, hE⟩
  obtain ⟨m, rfl⟩ : ∃ m : Nat, n = m := ⟨n.toNat, by omega⟩
  have hval : Yx m l = Vk m l l.length := by
    rw [Yx, show decide ((2 : Int) ≤ m) = true by simp; omega, show decide ((m : Int) ≤ 5) = true by simp; omega, show decide (1 ≤ l.length) = true by rw [decide_eq_true_eq]; omega, show decide (l.length ≤ 6) = true by simp; omega]
    simp
  rw [hval]
  have hpm : (2 : Nat) ^ m ≤ 2 ^ 5 := Nat.pow_le_pow_right (by decide) (by omega)
  refine Zn fun Y hY => ?_
  refine Ze fun N10 hN10 => ?_
  simp (maxSteps := 2000000) only [↓Za, ↓Zb, ↓Zc, ↓vdn, vup, List.map_cons, List.map_nil, cond_true, cond_false, aop, Zg, ev, sput, Zf, Yi, Yo, Zl, Nat.reduceBEq, tyf, tA0, tA1, Vw b1, loadT1 b1, h1, h2, hvH.len, h3, h4]
  refine hN10 [(1, .pointer (some ⟨h.length, 0, none⟩)), (2, .bool false), (24, .bool false)] _ _ ?_ (by simp (maxSteps := 2000000) only [vup, cond_true, cond_false, Nat.reduceBEq])
  clear hN10
  try clear N10
  refine Xi rfl ?_
  refine Zi ?_
  simp (maxSteps := 2000000) only [↓Zw, Zg]
  refine hY [(1, .pointer (some ⟨h.length, 0, none⟩)), (2, .bool false), (24, .bool false)] _ _ ?_ (by simp (maxSteps := 2000000) only [vup, cond_true, cond_false, Nat.reduceBEq])
  clear hY
  try clear Y
  refine Zn fun Z hZ => ?_
  refine Ze fun N11 hN11 => ?_
  simp (maxSteps := 2000000) only [↓Za, ↓Zb, ↓Zc, vup, List.map_cons, List.map_nil, cond_true, cond_false, aop, Zg, ev, sput, Zf, Zl, Nat.reduceBEq, tyf, tA1, loadT1 b1, hvH.len]
  refine hN11 [(1, .pointer (some ⟨h.length, 0, none⟩)), (2, .bool false), (24, .bool false), (26, v), (27, Zd l.length), (28, .int .i64 0)] _ _ ?_ (by simp (maxSteps := 2000000) only [vup, cond_true, cond_false, Nat.reduceBEq])
  clear hN11
  try clear N11
  refine Zp ?_
  refine Ya fun Q hQ => ?_
  refine Xb (γ := Nat × Zh) (fun s => s.1 ≤ l.length ∧ Vk m l s.1 = true ∧ Ext (fun _ => False) H s.2)
    (fun s => ([(1, .pointer (some ⟨h.length, 0, none⟩)), (2, .bool false), (24, .bool false), (26, v), (27, Zd l.length), (28, Zd (s.1 : Nat))], s.2)) (fun s => l.length - s.1) (0, H) ⟨Nat.zero_le _, rfl, Ext.refl _ _⟩ (by simp (maxSteps := 2000000) only [vup, cond_true, cond_false, Nat.reduceBEq, Int.natCast_zero]) rfl ?_
  rintro ⟨k, hp⟩ ⟨hk, hall, hEp⟩
  simp only at hk hall hEp
  refine Ya fun Q2 hQ2 => ?_
  simp only [l58_0]
  by_cases hin : (k : Int) < l.length
  · have hk' : k < l.length := by omega
    have hvp := hvH.ext hEp
    obtain ⟨⟨x, y⟩, hxy⟩ : ∃ p, l.getD k (0, 0) = p := ⟨_, rfl⟩
    have hmem : (x, y) ∈ l := hxy ▸ Wn hk'
    obtain ⟨G, hG⟩ : ∃ G, G = hp ++ [bB x y] := ⟨_, rfl⟩
    have c4 : G[hp.length]? = some (bB x y) := by rw [hG]; exact Zz _ _
    have hEG : Ext (fun _ => False) H G := by rw [hG]; exact hEp.trans (Ext.app _ _ _)
    have c1 : G[h.length]? = some (.cells [Zd (m : Int), v] 86 false) := (hEG.2 _ (Yl b1) id).trans b1
    have hvG := hvH.ext hEG
    have vfalse : (okB m (x, y) && !(l.take k).any fun z => z.1 == x) = false → Vk m l l.length = false := fun hf => validTo_false hk' (by rw [hxy]; exact hf)
    have ret0 : (okB m (x, y) && !(l.take k).any fun z => z.1 == x) = false → ∀ e, sget e 2 = .bool false → Q2 .ret e G := by
      intro hf e he
      refine hQ2 _ _ _ (hQ _ _ _ ?_)
      simp (maxSteps := 2000000) only [vup, Zg, Zs, Zv, Xw, tup, he, vfalse hf]
      exact hE.trans hEG
    have hsh : shlV .i64 1 (m : Int) = 2 ^ m := shl1 (by omega)
    refine Ze fun N12 hN12 => ?_
    simp (maxSteps := 2000000) only [↓Za, ↓Zb, ↓Zc, vup, cond_true, cond_false, aop, Zg, ev, sput, Zf, Yi, Yo, Nat.reduceBEq, hin]
    refine hN12 [(1, .pointer (some ⟨h.length, 0, none⟩)), (2, .bool false), (24, .bool false), (26, v), (27, Zd l.length), (28, Zd (k : Nat)), (29, .bool true)] _ _ ?_ (by simp (maxSteps := 2000000) only [vup, cond_true, cond_false, Nat.reduceBEq])
    clear hN12
    try clear N12
    refine Ze fun N13 hN13 => ?_
    simp (maxSteps := 2000000) only [↓Zw, ↓vdn, vup, cond_true, cond_false, Zg, ev, Nat.reduceBEq]
    refine hN13 [(1, .pointer (some ⟨h.length, 0, none⟩)), (2, .bool false), (24, .bool false), (26, v), (27, Zd l.length), (28, Zd (k : Nat))] _ _ ?_ (by simp (maxSteps := 2000000) only [vup, cond_true, cond_false, Nat.reduceBEq])
    clear hN13
    try clear N13
    refine Zn fun B hB => ?_
    refine Zp ?_
    refine Ze fun N14 hN14 => ?_
    simp (maxSteps := 2000000) only [↓Za, ↓Zb, ↓Zc, vup, cond_true, cond_false, aop, Zg, ev, sput, Zf, Nat.reduceBEq, tyf, hvp.idx el_30 esz_92 hk', hvp.load shp_92 hk', hxy, Xl, Yn, storeBt (Zz hp zB) rfl, Xy]
    rw [← hG]
    refine hN14 [(1, .pointer (some ⟨h.length, 0, none⟩)), (2, .bool false), (3, Zd (k : Nat)), (4, .pointer (some ⟨hp.length, 0, none⟩)), (24, .bool false), (26, v), (27, Zd l.length), (28, Zd (k : Nat))] _ _ ?_ (by simp (maxSteps := 2000000) only [vup, cond_true, cond_false, Nat.reduceBEq])
    clear hN14
    try clear N14
    refine Zn fun C hC => ?_
    refine Ze fun N15 hN15 => ?_
    simp only [q58_6]
    refine Xj [] (by kernel_rfl) (by kernel_rfl) (by kernel_rfl) (by kernel_rfl) ?_
    by_cases g1 : x < 0
    · simp (maxSteps := 2000000) only [↓Yh, ↓vdn, vup, cond_true, cond_false, aop, Zg, ev, sput, Zf, Yi, Yo, pickK, Nat.reduceBEq, Nat.reduceAdd, tyf, bA0, loadB0 c4, g1]
      refine hN15 [(1, .pointer (some ⟨h.length, 0, none⟩)), (2, .bool false), (3, Zd (k : Nat)), (4, .pointer (some ⟨hp.length, 0, none⟩)), (24, .bool false), (26, v), (27, Zd l.length), (28, Zd (k : Nat)), (53, .bool true)] _ _ ?_ (by simp (maxSteps := 2000000) only [vup, cond_true, cond_false, Nat.reduceBEq])
      clear hN15
      try clear N15
      refine Zi ?_
      simp (maxSteps := 2000000) only [↓Za, ↓Zt, ↓Zy, ↓Zb, ↓Zc, ↓vdn, vup, cond_true, cond_false, aop, Zg, Zs, ev, sput, Zf, Nat.reduceBEq]
      exact ret0 (by simp [okB]; omega) _ rfl
    by_cases g2 : x ≥ 2 ^ m
    · simp (maxSteps := 2000000) only [↓Yh, ↓vdn, vup, cond_true, cond_false, aop, Zg, ev, sput, Zf, Yi, Yo, pickK, Nat.reduceBEq, Nat.reduceAdd, tyf, bA0, loadB0 c4, g1, tA0, Vw c1, hsh, Int.natCast_nonneg, g2]
      refine hN15 [(1, .pointer (some ⟨h.length, 0, none⟩)), (2, .bool false), (3, Zd (k : Nat)), (4, .pointer (some ⟨hp.length, 0, none⟩)), (24, .bool false), (26, v), (27, Zd l.length), (28, Zd (k : Nat)), (53, .bool true)] _ _ ?_ (by simp (maxSteps := 2000000) only [vup, cond_true, cond_false, Nat.reduceBEq])
      clear hN15
      try clear N15
      refine Zi ?_
      simp (maxSteps := 2000000) only [↓Za, ↓Zt, ↓Zy, ↓Zb, ↓Zc, ↓vdn, vup, cond_true, cond_false, aop, Zg, Zs, ev, sput, Zf, Nat.reduceBEq]
      exact ret0 (by simp [okB]; omega) _ rfl
    by_cases g3 : y < 0
    · simp (maxSteps := 2000000) only [↓Yh, ↓vdn, vup, cond_true, cond_false, aop, Zg, ev, sput, Zf, Yi, Yo, pickK, Nat.reduceBEq, Nat.reduceAdd, tyf, bA0, bA1, loadB0 c4, loadB1 c4, g1, tA0, Vw c1, hsh, Int.natCast_nonneg, g2, g3]
      refine hN15 [(1, .pointer (some ⟨h.length, 0, none⟩)), (2, .bool false), (3, Zd (k : Nat)), (4, .pointer (some ⟨hp.length, 0, none⟩)), (24, .bool false), (26, v), (27, Zd l.length), (28, Zd (k : Nat)), (53, .bool true)] _ _ ?_ (by simp (maxSteps := 2000000) only [vup, cond_true, cond_false, Nat.reduceBEq])
      clear hN15
      try clear N15
      refine Zi ?_
      simp (maxSteps := 2000000) only [↓Za, ↓Zt, ↓Zy, ↓Zb, ↓Zc, ↓vdn, vup, cond_true, cond_false, aop, Zg, Zs, ev, sput, Zf, Nat.reduceBEq]
      exact ret0 (by simp [okB]; omega) _ rfl
    by_cases g4 : y > 12
    · simp (maxSteps := 2000000) only [↓Yh, ↓vdn, vup, cond_true, cond_false, aop, Zg, ev, sput, Zf, Yi, Yo, pickK, Nat.reduceBEq, Nat.reduceAdd, tyf, bA0, bA1, loadB0 c4, loadB1 c4, g1, tA0, Vw c1, hsh, Int.natCast_nonneg, g2, g3, g4]
      refine hN15 [(1, .pointer (some ⟨h.length, 0, none⟩)), (2, .bool false), (3, Zd (k : Nat)), (4, .pointer (some ⟨hp.length, 0, none⟩)), (24, .bool false), (26, v), (27, Zd l.length), (28, Zd (k : Nat)), (53, .bool true)] _ _ ?_ (by simp (maxSteps := 2000000) only [vup, cond_true, cond_false, Nat.reduceBEq])
      clear hN15
      try clear N15
      refine Zi ?_
      simp (maxSteps := 2000000) only [↓Za, ↓Zt, ↓Zy, ↓Zb, ↓Zc, ↓vdn, vup, cond_true, cond_false, aop, Zg, Zs, ev, sput, Zf, Nat.reduceBEq]
      exact ret0 (by simp [okB]; omega) _ rfl
    simp (maxSteps := 2000000) only [↓Yh, ↓vdn, vup, cond_true, cond_false, aop, Zg, ev, sput, Zf, Yi, Yo, pickK, Nat.reduceBEq, Nat.reduceAdd, tyf, bA0, bA1, loadB0 c4, loadB1 c4, g1, tA0, Vw c1, hsh, Int.natCast_nonneg, g2, g3, g4]
    refine hN15 [(1, .pointer (some ⟨h.length, 0, none⟩)), (2, .bool false), (3, Zd (k : Nat)), (4, .pointer (some ⟨hp.length, 0, none⟩)), (24, .bool false), (26, v), (27, Zd l.length), (28, Zd (k : Nat)), (53, .bool false)] _ _ ?_ (by simp (maxSteps := 2000000) only [vup, cond_true, cond_false, Nat.reduceBEq])
    clear hN15
    try clear N15
    refine Zi ?_
    simp (maxSteps := 2000000) only [↓Zw, ↓vdn, vup, cond_true, cond_false, Zg, ev, Nat.reduceBEq]
    refine hC [(1, .pointer (some ⟨h.length, 0, none⟩)), (2, .bool false), (3, Zd (k : Nat)), (4, .pointer (some ⟨hp.length, 0, none⟩)), (24, .bool false), (26, v), (27, Zd l.length), (28, Zd (k : Nat))] _ _ ?_ (by simp (maxSteps := 2000000) only [vup, cond_true, cond_false, Nat.reduceBEq])
    clear hC
    try clear C
    have hok : okB m (x, y) = true := by simp [okB]; omega
    refine Ze fun N16 hN16 => ?_
    simp (maxSteps := 2000000) only [↓Za, ↓Zb, ↓Zc, vup, List.map_cons, List.map_nil, cond_true, cond_false, aop, Zg, ev, sput, Zf, Nat.reduceBEq, tA1, loadT1 c1, Option.map_some, Option.map_none]
    refine hvG.pre el_30 esz_92 (show k ≤ l.length by omega) fun v' hv' => ?_
    have hs := hasB_call (g := 99) (cap := #[.pointer (some ⟨hp.length, 0, none⟩)]) (f := fun z => z.1 == x) hv' (by rw [List.length_take]; omega) (fun h' hx p _ => sameB_call ((hx.2 _ (Yl c4) id).trans c4))
    simp (maxSteps := 2000000) only [vup, List.map_cons, List.map_nil, cond_true, cond_false, ev, Nat.reduceBEq, Yt, List.nil_append, List.append_nil, List.map_toArray]
    refine (hs).mono ?_
    rintro _ G ⟨rfl, rfl⟩
    refine hN16 [(1, .pointer (some ⟨h.length, 0, none⟩)), (2, .bool false), (3, Zd (k : Nat)), (4, .pointer (some ⟨hp.length, 0, none⟩)), (24, .bool false), (26, v), (27, Zd l.length), (28, Zd (k : Nat)), (59, .bool ((l.take k).any fun z => z.1 == x))] _ _ ?_ (by simp (maxSteps := 2000000) only [vup, cond_true, cond_false, Nat.reduceBEq])
    clear hN16
    try clear N16
    refine Zi ?_
    cases hany : (l.take k).any fun z => z.1 == x with
    | true =>
      simp (maxSteps := 2000000) only [↓Za, ↓Zt, ↓Zy, ↓Zb, ↓Zc, ↓vdn, vup, cond_true, cond_false, aop, Zg, Zs, ev, sput, Zf, Nat.reduceBEq]
      exact ret0 (by rw [hany]; simp) _ rfl
    | false =>
      simp (maxSteps := 2000000) only [↓Zw, ↓vdn, vup, cond_true, cond_false, Zg, Zs, ev, Nat.reduceBEq]
      refine hB [(1, .pointer (some ⟨h.length, 0, none⟩)), (2, .bool false), (24, .bool false), (26, v), (27, Zd l.length), (28, Zd (k : Nat))] _ _ ?_ (by simp (maxSteps := 2000000) only [vup, cond_true, cond_false, Nat.reduceBEq])
      clear hB
      try clear B
      refine Zi ?_
      simp (maxSteps := 2000000) only [↓Za, ↓Zb, ↓Zc, vup, cond_true, cond_false, aop, ev, sput, Zf, Yi, Yo, Nat.reduceBEq, add1 (show k < 9223372036854775807 by omega)]
      refine hQ2 _ _ _ ⟨(k + 1, G), ⟨hk', ?_, hEG⟩, by simp only; omega, by simp (maxSteps := 2000000) only [vup, cond_true, cond_false, Nat.reduceBEq], rfl⟩
      simp only [validTo_succ, hall, hxy, hok, hany]; rfl
  · obtain rfl : k = l.length := by omega
    refine Ze fun N17 hN17 => ?_
    simp (maxSteps := 2000000) only [↓Za, ↓Zb, ↓Zc, vup, cond_true, cond_false, aop, Zg, ev, sput, Zf, Yi, Yo, Nat.reduceBEq, hin]
    refine hN17 [(1, .pointer (some ⟨h.length, 0, none⟩)), (2, .bool false), (24, .bool false), (26, v), (27, Zd l.length), (28, Zd l.length), (29, .bool false)] _ _ ?_ (by simp (maxSteps := 2000000) only [vup, cond_true, cond_false, Nat.reduceBEq])
    clear hN17
    try clear N17
    refine Ze fun N18 hN18 => ?_
    simp (maxSteps := 2000000) only [↓Xh, ↓vdn, vup, cond_true, cond_false, Zg, ev, Nat.reduceBEq]
    refine hQ2 _ _ _ (hQ _ _ _ ?_)
    simp (maxSteps := 2000000) only [Zg, Zs, Zv, if_true]
    refine hZ [(1, .pointer (some ⟨h.length, 0, none⟩)), (2, .bool false), (24, .bool false), (26, v), (27, Zd l.length), (28, Zd l.length), (29, .bool false)] _ _ ?_ (by simp (maxSteps := 2000000) only [vup, cond_true, cond_false, Nat.reduceBEq])
    clear hZ
    try clear Z
    refine Zi ?_
    simp (maxSteps := 2000000) only [↓Za, ↓Zt, ↓Zy, ↓Zb, ↓Zc, vup, cond_true, cond_false, aop, Zg, ev, sput, Zf, Nat.reduceBEq, Zv, Xw, tup, hall]
    exact hE.trans hEp
end Go.Proofs.Try.Am

namespace Go.Proofs.Try.Am
open Go.Am Bq
set_option maxRecDepth 100000
set_option maxHeartbeats 4000000

abbrev rB (x y : Int) : Blk := .cells [Zd x, Zd y] 24 false
abbrev zR : Blk := .cells [.int .i64 0, .int .i64 0] 24 false
theorem storeRt {h : Zh} {b : Nat} {x y : Int} {e : TypeId} {c : List Value} {K : Zh → Prop} (hb : h[b]? = some (.cells c e false)) (hc : c.length = 2) : Xn prog h 24 (.pointer (some ⟨b, 0, none⟩)) (.agg #[Zd x, Zd y]) K = K (h.set b (.cells [Zd x, Zd y] e false)) :=
  storeA (vs := [Zd x, Zd y]) hb (by rw [shp_24]; rfl) rfl (by rw [hc]; rfl)
theorem rA0 {b : Nat} {K : Value → Prop} : Yz prog 24 (.pointer (some ⟨b, 0, none⟩)) 0 K = K (.pointer (some ⟨b, 0, none⟩)) := fldA fld_24_0 esz_3
theorem rA1 {b : Nat} {K : Value → Prop} : Yz prog 24 (.pointer (some ⟨b, 0, none⟩)) 1 K = K (.pointer (some ⟨b, 1, none⟩)) := fldA fld_24_1 esz_3
theorem loadR0 {h : Zh} {b : Nat} {x y : Int} {K : Value → Prop} (hb : h[b]? = some (rB x y)) : Xu prog h 3 (.pointer (some ⟨b, 0, none⟩)) K = K (Zd x) := loadC hb shp_3 rfl
theorem loadR1 {h : Zh} {b : Nat} {x y : Int} {K : Value → Prop} (hb : h[b]? = some (rB x y)) : Xu prog h 3 (.pointer (some ⟨b, 1, none⟩)) K = K (Zd y) := loadC hb shp_3 rfl

theorem s63_callW [Tabs Try.prog] {args : List Value} {h : Zh} {Q : Value → Zh → Prop} (hsz : args.length ≤ 9) (hk : AWS Try.prog 9 s63 (Zv Try.prog [.tmp 2] Q) (Zo 0 args) h) : ACall Try.prog 63 args h Q :=
  Yr Try.func63 rfl (enters_of Try.func63 (by kernel_rfl) rfl) rfl rfl (by decide) s63_strip s63_ok hsz hk
theorem worlds_call [Tabs prog] {h : Zh} {n : Int} : Xc prog 63 [Zd n] h (.bool (decide (2 ≤ n) && decide (n ≤ 5))) := by
  refine s63_callW (by simp) ?_
  refine Zi ?_
  by_cases h1 : n ≥ 2
  · have e1 : decide (2 ≤ n) = true := by simpa using h1
    by_cases h2 : n ≤ 5
    · simp (maxSteps := 2000000) only [s63, ↓Za, ↓Zt, ↓Zy, ↓Zb, ↓Zc, ↓vdn, vup, cond_true, cond_false, aop, Zg, Zo, ev, sput, Zf, Yi, Yo, Nat.reduceBEq, Zv, Xw, tup, h1, h2, Bool.true_and]
    · simp (maxSteps := 2000000) only [s63, ↓Za, ↓Zt, ↓Zy, ↓Zb, ↓Zc, ↓vdn, vup, cond_true, cond_false, aop, Zg, Zo, ev, sput, Zf, Yi, Yo, Nat.reduceBEq, Zv, Xw, tup, h1, h2, Bool.true_and]
  · have e1 : decide (2 ≤ n) = false := by simpa using h1
    simp (maxSteps := 2000000) only [s63, ↓Za, ↓Zt, ↓Zy, ↓Zb, ↓Zc, ↓vdn, vup, cond_true, cond_false, aop, Zg, Zo, ev, sput, Zf, Yi, Yo, Nat.reduceBEq, Zv, Xw, tup, h1, Bool.false_and]

theorem s25_callW [Tabs Try.prog] {args : List Value} {h : Zh} {Q : Value → Zh → Prop} (hsz : args.length ≤ 13) (hk : AWS Try.prog 13 s25 (Zv Try.prog [.tmp 4] Q) (Zo 0 args) h) : ACall Try.prog 25 args h Q :=
  Yr Try.func25 rfl (enters_of Try.func25 (by kernel_rfl) rfl) rfl rfl (by decide) s25_strip s25_ok hsz hk
theorem event_call [Tabs prog] {h : Zh} {n : Nat} {e : Int} (hn : n ≤ 62) : Xc prog 25 [Zd (n : Nat), Zd e] h (.bool (decide (0 ≤ e) && decide (e < 2 ^ n))) := by
  refine s25_callW (by simp) ?_
  refine Zi ?_
  have hsh : shlV .i64 1 (n : Int) = 2 ^ n := shl1 hn
  by_cases h1 : e ≥ 0
  · have e1 : decide (0 ≤ e) = true := by simpa using h1
    by_cases h2 : e < 2 ^ n
    · simp (maxSteps := 2000000) only [s25, ↓Za, ↓Zt, ↓Zy, ↓Zb, ↓Zc, ↓vdn, vup, cond_true, cond_false, aop, Zg, Zo, ev, sput, Zf, Yi, Yo, Nat.reduceBEq, Nat.reduceAdd, Zv, Xw, tup, h1, Int.natCast_nonneg, hsh, h2, Bool.true_and]
    · simp (maxSteps := 2000000) only [s25, ↓Za, ↓Zt, ↓Zy, ↓Zb, ↓Zc, ↓vdn, vup, cond_true, cond_false, aop, Zg, Zo, ev, sput, Zf, Yi, Yo, Nat.reduceBEq, Nat.reduceAdd, Zv, Xw, tup, h1, Int.natCast_nonneg, hsh, h2, Bool.true_and]
  · have e1 : decide (0 ≤ e) = false := by simpa using h1
    simp (maxSteps := 2000000) only [s25, ↓Za, ↓Zt, ↓Zy, ↓Zb, ↓Zc, ↓vdn, vup, cond_true, cond_false, aop, Zg, Zo, ev, sput, Zf, Yi, Yo, Nat.reduceBEq, Nat.reduceAdd, Zv, Xw, tup, h1, Bool.false_and]

theorem s20_callW [Tabs Try.prog] {args : List Value} {h : Zh} {Q : Value → Zh → Prop} (hsz : args.length ≤ 59) (hk : AWS Try.prog 59 s20 (Zv Try.prog [.tmp 4] Q) (Zo 0 args) h) : ACall Try.prog 20 args h Q :=
  Yr Try.func20 rfl (enters_of Try.func20 (by kernel_rfl) rfl) rfl rfl (by decide) s20_strip s20_ok hsz hk
theorem rbets_call [Tabs prog] {h : Zh} {n : Int} {v : Value} {l : List (Int × Int)} (hv : PairSl h v l) (hl : l.length < 9223372036854775808) : Xc prog 20 [Zd n, v] h (.bool (Yx n l)) := by
  refine ACall.forget (Low.bool _) ?_
  refine s20_callW (by simp) ?_
  simp only [s20]
  refine Ze fun N1 hN1 => ?_
  simp (maxSteps := 2000000) only [↓Za, ↓Zb, ↓Zc, vup, cond_false, aop, Zg, Zo, ev, sput, Zf, Nat.reduceBEq, Nat.reduceAdd]
  refine hN1 [(0, Zd n), (1, v), (4, .bool false)] _ _ ?_ (by simp (maxSteps := 2000000) only [vup, cond_true, cond_false, Nat.reduceBEq])
  clear hN1
  try clear N1
  refine Zn fun Y hY => ?_
  refine Ze fun N2 hN2 => ?_
  have bad : Yx n l = false → ∀ e, ELe e [(0, Zd n), (1, v), (4, .bool false), (21, .bool true)] → N2 e h := by
    intro hb e he
    refine hN2 _ _ _ ?_ he
    refine Wd rfl ?_
    refine Zi ?_
    simp (maxSteps := 2000000) only [↓Za, ↓Zt, ↓Zy, ↓Zb, ↓Zc, vup, cond_true, cond_false, aop, Zg, ev, sput, Zf, Nat.reduceBEq, Zv, Xw, tup]
    rw [hb]
    exact ⟨rfl, Ext.refl _ _⟩
  simp (maxSteps := 2000000) only [↓Za, ↓Zc, vup, List.map_cons, List.map_nil, cond_true, cond_false, aop, ev, sput, Zf, unK, Nat.reduceBEq, Yt, List.nil_append, List.append_nil]
  refine (worlds_call).mono ?_
  rintro _ h ⟨rfl, rfl⟩
  by_cases h1 : n < 2
  · have e1 : decide (2 ≤ n) = false := by simp; omega
    simp (maxSteps := 2000000) only [↓Zb, ↓Zc, ↓vdn, vup, cond_true, cond_false, aop, Zg, ev, sput, Zf, Nat.reduceBEq, e1, Bool.false_and]
    exact bad (by rw [Yx, e1, Bool.false_and]) _ (by simp (maxSteps := 2000000) only [vup, cond_true, cond_false, Nat.reduceBEq])
  have e1 : decide (2 ≤ n) = true := by simp; omega
  by_cases h2 : n > 5
  · have e2 : decide (n ≤ 5) = false := by simp; omega
    simp (maxSteps := 2000000) only [↓Zb, ↓Zc, ↓vdn, vup, cond_true, cond_false, aop, Zg, ev, sput, Zf, Nat.reduceBEq, e1, e2, Bool.true_and]
    exact bad (by rw [Yx, e2, Bool.false_and, Bool.and_false]) _ (by simp (maxSteps := 2000000) only [vup, cond_true, cond_false, Nat.reduceBEq])
  have e2 : decide (n ≤ 5) = true := by simp; omega
  by_cases h3 : (l.length : Int) < 1
  · simp (maxSteps := 2000000) only [↓Zb, ↓Zc, ↓vdn, vup, List.map_cons, List.map_nil, cond_true, cond_false, aop, Zg, ev, sput, Zf, Yi, Yo, Zl, Nat.reduceBEq, tyf, e1, e2, Bool.true_and, hv.len, h3]
    exact bad (by rw [Yx, show decide (1 ≤ l.length) = false by rw [decide_eq_false_iff_not]; omega, Bool.false_and, Bool.and_false, Bool.and_false]) _ (by simp (maxSteps := 2000000) only [vup, cond_true, cond_false, Nat.reduceBEq])
  by_cases h4 : (l.length : Int) > 6
  · simp (maxSteps := 2000000) only [↓Zb, ↓Zc, ↓vdn, vup, List.map_cons, List.map_nil, cond_true, cond_false, aop, Zg, ev, sput, Zf, Yi, Yo, Zl, Nat.reduceBEq, tyf, e1, e2, Bool.true_and, hv.len, h3, h4]
    exact bad (by rw [Yx, show decide (l.length ≤ 6) = false by simp; omega, Bool.false_and, Bool.and_false, Bool.and_false, Bool.and_false]) _ (by simp (maxSteps := 2000000) only [vup, cond_true, cond_false, Nat.reduceBEq])
  simp (maxSteps := 2000000) only [↓Zb, ↓Zc, ↓vdn, vup, List.map_cons, List.map_nil, cond_true, cond_false, aop, Zg, ev, sput, Zf, Yi, Yo, Zl, Nat.reduceBEq, tyf, e1, e2, Bool.true_and, hv.len, h3, h4]
  refine hN2 [(0, Zd n), (1, v), (4, .bool false), (21, .bool false)] _ _ ?_ (by simp (maxSteps := 2000000) only [vup, cond_true, cond_false, Nat.reduceBEq])
  clear hN2
  try clear N2
  refine Xi rfl ?_
  refine Zi ?_
  simp (maxSteps := 2000000) only [↓Zw, Zg]
  clear bad
  obtain ⟨m, rfl⟩ : ∃ m : Nat, n = m := ⟨n.toNat, by omega⟩
  have hval : Yx m l = Vk m l l.length := by
    rw [Yx, e1, e2, show decide (1 ≤ l.length) = true by rw [decide_eq_true_eq]; omega, show decide (l.length ≤ 6) = true by simp; omega]
    simp
  have hpm : (2 : Nat) ^ m ≤ 2 ^ 5 := Nat.pow_le_pow_right (by decide) (by omega)
  refine hY [(0, Zd (m : Nat)), (1, v), (4, .bool false)] _ _ ?_ (by simp (maxSteps := 2000000) only [vup, cond_true, cond_false, Nat.reduceBEq])
  clear hY
  try clear Y
  rw [hval]
  refine Zn fun Z hZ => ?_
  refine Ze fun N3 hN3 => ?_
  simp (maxSteps := 2000000) only [↓Za, ↓Zb, ↓Zc, vup, List.map_cons, List.map_nil, cond_true, cond_false, aop, Zg, ev, sput, Zf, Zl, Nat.reduceBEq, tyf, hv.len]
  refine hN3 [(0, Zd (m : Nat)), (1, v), (4, .bool false), (22, v), (23, Zd l.length), (24, .int .i64 0)] _ _ ?_ (by simp (maxSteps := 2000000) only [vup, cond_true, cond_false, Nat.reduceBEq])
  clear hN3
  try clear N3
  refine Zp ?_
  refine Ya fun Q hQ => ?_
  refine Xb (γ := Nat × Zh) (fun s => s.1 ≤ l.length ∧ Vk m l s.1 = true ∧ Ext (fun _ => False) h s.2)
    (fun s => ([(0, Zd (m : Nat)), (1, v), (4, .bool false), (22, v), (23, Zd l.length), (24, Zd (s.1 : Nat))], s.2)) (fun s => l.length - s.1) (0, h) ⟨Nat.zero_le _, rfl, Ext.refl _ _⟩ (by simp (maxSteps := 2000000) only [vup, cond_true, cond_false, Nat.reduceBEq, Int.natCast_zero]) rfl ?_
  rintro ⟨k, hp⟩ ⟨hk, hall, hEp⟩
  simp only at hk hall hEp
  refine Ya fun Q2 hQ2 => ?_
  simp only [l20_1]
  by_cases hin : (k : Int) < l.length
  · have hk' : k < l.length := by omega
    have hvp := hv.ext hEp
    obtain ⟨⟨x, y⟩, hxy⟩ : ∃ p, l.getD k (0, 0) = p := ⟨_, rfl⟩
    obtain ⟨G, hG⟩ : ∃ G, G = hp ++ [rB x y] := ⟨_, rfl⟩
    have c6 : G[hp.length]? = some (rB x y) := by rw [hG]; exact Zz _ _
    have hEG : Ext (fun _ => False) h G := by rw [hG]; exact hEp.trans (Ext.app _ _ _)
    have hvG := hv.ext hEG
    have vfalse : (okB m (x, y) && !(l.take k).any fun z => z.1 == x) = false → Vk m l l.length = false := fun hf => validTo_false hk' (by rw [hxy]; exact hf)
    have ret0 : (okB m (x, y) && !(l.take k).any fun z => z.1 == x) = false → ∀ e G', Ext (fun _ => False) h G' → sget e 4 = .bool false → Q2 .ret e G' := by
      intro hf e G' hG' he
      refine hQ2 _ _ _ (hQ _ _ _ ?_)
      simp (maxSteps := 2000000) only [vup, Zg, Zs, Zv, Xw, tup, he, vfalse hf]
      exact hG'
    refine Ze fun N4 hN4 => ?_
    simp (maxSteps := 2000000) only [↓Za, ↓Zb, ↓Zc, vup, cond_true, cond_false, aop, Zg, ev, sput, Zf, Yi, Yo, Nat.reduceBEq, hin]
    refine hN4 [(0, Zd (m : Nat)), (1, v), (4, .bool false), (22, v), (23, Zd l.length), (24, Zd (k : Nat)), (25, .bool true)] _ _ ?_ (by simp (maxSteps := 2000000) only [vup, cond_true, cond_false, Nat.reduceBEq])
    clear hN4
    try clear N4
    refine Ze fun N5 hN5 => ?_
    simp (maxSteps := 2000000) only [↓Zw, ↓vdn, vup, cond_true, cond_false, Zg, ev, Nat.reduceBEq]
    refine hN5 [(0, Zd (m : Nat)), (1, v), (4, .bool false), (22, v), (23, Zd l.length), (24, Zd (k : Nat))] _ _ ?_ (by simp (maxSteps := 2000000) only [vup, cond_true, cond_false, Nat.reduceBEq])
    clear hN5
    try clear N5
    refine Zn fun B hB => ?_
    refine Zp ?_
    refine Ze fun N6 hN6 => ?_
    simp (maxSteps := 2000000) only [↓Za, ↓Zb, ↓Zc, vup, cond_true, cond_false, aop, Zg, ev, sput, Zf, Nat.reduceBEq, tyf, hvp.idx el_22 esz_24 hk', hvp.load shp_24 hk', hxy, Xl, Yn, storeRt (Zz hp zR) rfl, Xy]
    rw [← hG]
    refine hN6 [(0, Zd (m : Nat)), (1, v), (4, .bool false), (5, Zd (k : Nat)), (6, .pointer (some ⟨hp.length, 0, none⟩)), (22, v), (23, Zd l.length), (24, Zd (k : Nat))] _ _ ?_ (by simp (maxSteps := 2000000) only [vup, cond_true, cond_false, Nat.reduceBEq])
    clear hN6
    try clear N6
    refine Zn fun C hC => ?_
    have evc := event_call (h := G) (n := m) (e := x) (by omega)
    refine Ze fun N7 hN7 => ?_
    simp (maxSteps := 2000000) only [↓Za, ↓Zc, vup, List.map_cons, List.map_nil, cond_true, cond_false, aop, ev, sput, Zf, unK, Nat.reduceBEq, Yt, List.nil_append, List.append_nil, rA0, loadR0 c6]
    refine (evc).mono ?_
    rintro _ G ⟨rfl, rfl⟩
    by_cases g1 : x < 0
    · have d1 : decide (0 ≤ x) = false := by simp; omega
      simp (maxSteps := 2000000) only [↓Zb, ↓Zc, ↓vdn, vup, cond_true, cond_false, aop, Zg, ev, sput, Zf, Nat.reduceBEq, d1, Bool.false_and]
      refine hN7 [(0, Zd (m : Nat)), (1, v), (4, .bool false), (5, Zd (k : Nat)), (6, .pointer (some ⟨hp.length, 0, none⟩)), (22, v), (23, Zd l.length), (24, Zd (k : Nat)), (43, .bool true)] _ _ ?_ (by simp (maxSteps := 2000000) only [vup, cond_true, cond_false, Nat.reduceBEq])
      clear hN7
      try clear N7
      refine Zi ?_
      simp (maxSteps := 2000000) only [↓Za, ↓Zt, ↓Zy, ↓Zb, ↓Zc, ↓vdn, vup, cond_true, cond_false, aop, Zg, Zs, ev, sput, Zf, Nat.reduceBEq]
      exact ret0 (by simp [okB]; omega) _ _ hEG rfl
    have d1 : decide (0 ≤ x) = true := by simp; omega
    by_cases g2 : x < 2 ^ m
    case neg =>
      have d2 : decide (x < 2 ^ m) = false := by simpa using g2
      simp (maxSteps := 2000000) only [↓Zb, ↓Zc, ↓vdn, vup, cond_true, cond_false, aop, Zg, ev, sput, Zf, Nat.reduceBEq, d1, d2, Bool.true_and]
      refine hN7 [(0, Zd (m : Nat)), (1, v), (4, .bool false), (5, Zd (k : Nat)), (6, .pointer (some ⟨hp.length, 0, none⟩)), (22, v), (23, Zd l.length), (24, Zd (k : Nat)), (43, .bool true)] _ _ ?_ (by simp (maxSteps := 2000000) only [vup, cond_true, cond_false, Nat.reduceBEq])
      clear hN7
      try clear N7
      refine Zi ?_
      simp (maxSteps := 2000000) only [↓Za, ↓Zt, ↓Zy, ↓Zb, ↓Zc, ↓vdn, vup, cond_true, cond_false, aop, Zg, Zs, ev, sput, Zf, Nat.reduceBEq]
      exact ret0 (by simp [okB]; omega) _ _ hEG rfl
    have d2 : decide (x < 2 ^ m) = true := by simpa using g2
    by_cases g3 : y < 0
    · simp (maxSteps := 2000000) only [↓Zb, ↓Zc, ↓vdn, vup, cond_true, cond_false, aop, Zg, ev, sput, Zf, Yi, Yo, Nat.reduceBEq, tyf, d1, d2, Bool.true_and, rA1, loadR1 c6, g3]
      refine hN7 [(0, Zd (m : Nat)), (1, v), (4, .bool false), (5, Zd (k : Nat)), (6, .pointer (some ⟨hp.length, 0, none⟩)), (22, v), (23, Zd l.length), (24, Zd (k : Nat)), (43, .bool true)] _ _ ?_ (by simp (maxSteps := 2000000) only [vup, cond_true, cond_false, Nat.reduceBEq])
      clear hN7
      try clear N7
      refine Zi ?_
      simp (maxSteps := 2000000) only [↓Za, ↓Zt, ↓Zy, ↓Zb, ↓Zc, ↓vdn, vup, cond_true, cond_false, aop, Zg, Zs, ev, sput, Zf, Nat.reduceBEq]
      exact ret0 (by simp [okB]; omega) _ _ hEG rfl
    by_cases g4 : y > 12
    · simp (maxSteps := 2000000) only [↓Zb, ↓Zc, ↓vdn, vup, cond_true, cond_false, aop, Zg, ev, sput, Zf, Yi, Yo, Nat.reduceBEq, tyf, d1, d2, Bool.true_and, rA1, loadR1 c6, g3, g4]
      refine hN7 [(0, Zd (m : Nat)), (1, v), (4, .bool false), (5, Zd (k : Nat)), (6, .pointer (some ⟨hp.length, 0, none⟩)), (22, v), (23, Zd l.length), (24, Zd (k : Nat)), (43, .bool true)] _ _ ?_ (by simp (maxSteps := 2000000) only [vup, cond_true, cond_false, Nat.reduceBEq])
      clear hN7
      try clear N7
      refine Zi ?_
      simp (maxSteps := 2000000) only [↓Za, ↓Zt, ↓Zy, ↓Zb, ↓Zc, ↓vdn, vup, cond_true, cond_false, aop, Zg, Zs, ev, sput, Zf, Nat.reduceBEq]
      exact ret0 (by simp [okB]; omega) _ _ hEG rfl
    simp (maxSteps := 2000000) only [↓Zb, ↓Zc, ↓vdn, vup, cond_true, cond_false, aop, Zg, ev, sput, Zf, Yi, Yo, Nat.reduceBEq, tyf, d1, d2, Bool.true_and, rA1, loadR1 c6, g3, g4]
    refine hN7 [(0, Zd (m : Nat)), (1, v), (4, .bool false), (5, Zd (k : Nat)), (6, .pointer (some ⟨hp.length, 0, none⟩)), (22, v), (23, Zd l.length), (24, Zd (k : Nat)), (43, .bool false)] _ _ ?_ (by simp (maxSteps := 2000000) only [vup, cond_true, cond_false, Nat.reduceBEq])
    clear hN7
    try clear N7
    refine Xi rfl ?_
    refine Zi ?_
    simp (maxSteps := 2000000) only [↓Zw, Zg]
    refine hC [(0, Zd (m : Nat)), (1, v), (4, .bool false), (5, Zd (k : Nat)), (6, .pointer (some ⟨hp.length, 0, none⟩)), (22, v), (23, Zd l.length), (24, Zd (k : Nat))] _ _ ?_ (by simp (maxSteps := 2000000) only [vup, cond_true, cond_false, Nat.reduceBEq])
    clear hC
    try clear C
    have hok : okB m (x, y) = true := by simp [okB]; omega
    refine Ze fun N8 hN8 => ?_
    simp (maxSteps := 2000000) only [↓Za, ↓Zb, ↓Zc, vup, List.map_cons, List.map_nil, cond_true, cond_false, aop, Zg, ev, sput, Zf, Zl, Nat.reduceBEq, tyf, Option.map_some, Option.map_none]
    refine hvG.pre el_22 esz_24 (show k ≤ l.length by omega) fun v' hv' => ?_
    have hlt : (l.take k).length = k := by rw [List.length_take]; omega
    have hvl : ∀ {K : Value → Prop}, lenK v' K = K (Zd (k : Nat)) := fun {K} => by rw [hv'.len, hlt]
    simp (maxSteps := 2000000) only [hvl]
    refine hN8 [(0, Zd (m : Nat)), (1, v), (4, .bool false), (5, Zd (k : Nat)), (6, .pointer (some ⟨hp.length, 0, none⟩)), (22, v), (23, Zd l.length), (24, Zd (k : Nat)), (46, v'), (47, Zd (k : Nat)), (48, .int .i64 0)] _ _ ?_ (by simp (maxSteps := 2000000) only [vup, cond_true, cond_false, Nat.reduceBEq])
    clear hN8
    try clear N8
    refine Zp ?_
    refine Ya fun Qa hQa => ?_
    refine Xb (γ := Nat × Zh) (fun s => s.1 ≤ k ∧ ((l.take s.1).any fun z => z.1 == x) = false ∧ Ext (fun _ => False) G s.2)
      (fun s => ([(0, Zd (m : Nat)), (1, v), (4, .bool false), (5, Zd (k : Nat)), (6, .pointer (some ⟨hp.length, 0, none⟩)), (22, v), (23, Zd l.length), (24, Zd (k : Nat)), (46, v'), (47, Zd (k : Nat)), (48, Zd (s.1 : Nat))], s.2)) (fun s => k - s.1) (0, G) ⟨Nat.zero_le _, rfl, Ext.refl _ _⟩ (by simp (maxSteps := 2000000) only [vup, cond_true, cond_false, Nat.reduceBEq, Int.natCast_zero]) rfl ?_
    rintro ⟨j, F⟩ ⟨hj, hno, hEF⟩
    simp only at hj hno hEF
    refine Ya fun Qb hQb => ?_
    simp only [l20_0]
    by_cases hjin : (j : Int) < k
    · have hj' : j < k := by omega
      have hjl : j < (l.take k).length := by omega
      obtain ⟨⟨x2, y2⟩, hxy2⟩ : ∃ p, l.getD j (0, 0) = p := ⟨_, rfl⟩
      have hgj : (l.take k).getD j (0, 0) = (x2, y2) := by rw [← hxy2, List.getD, List.getD, List.getElem?_take, if_pos hj']
      obtain ⟨F2, hF2⟩ : ∃ F2, F2 = F ++ [rB x2 y2] := ⟨_, rfl⟩
      have c8 : F2[F.length]? = some (rB x2 y2) := by rw [hF2]; exact Zz _ _
      have hEF2 : Ext (fun _ => False) G F2 := by rw [hF2]; exact hEF.trans (Ext.app _ _ _)
      have c6F : F2[hp.length]? = some (rB x y) := (hEF2.2 _ (Yl c6) id).trans c6
      have hvF := hv'.ext hEF
      have hts : (l.take (j + 1)).any (fun z => z.1 == x) = (x2 == x) := by
        rw [take_snoc (d := ((0, 0) : Int × Int)) (show j < l.length by omega), hxy2, List.any_append, hno]; simp
      refine Ze fun N9 hN9 => ?_
      simp (maxSteps := 2000000) only [↓Za, ↓Zb, ↓Zc, vup, cond_true, cond_false, aop, Zg, ev, sput, Zf, Yi, Yo, Nat.reduceBEq, hjin]
      refine hN9 [(0, Zd (m : Nat)), (1, v), (4, .bool false), (5, Zd (k : Nat)), (6, .pointer (some ⟨hp.length, 0, none⟩)), (22, v), (23, Zd l.length), (24, Zd (k : Nat)), (46, v'), (47, Zd (k : Nat)), (48, Zd (j : Nat)), (49, .bool true)] _ _ ?_ (by simp (maxSteps := 2000000) only [vup, cond_true, cond_false, Nat.reduceBEq])
      clear hN9
      try clear N9
      refine Ze fun N10 hN10 => ?_
      simp (maxSteps := 2000000) only [↓Zw, ↓vdn, vup, cond_true, cond_false, Zg, ev, Nat.reduceBEq]
      refine hN10 [(0, Zd (m : Nat)), (1, v), (4, .bool false), (5, Zd (k : Nat)), (6, .pointer (some ⟨hp.length, 0, none⟩)), (22, v), (23, Zd l.length), (24, Zd (k : Nat)), (46, v'), (47, Zd (k : Nat)), (48, Zd (j : Nat))] _ _ ?_ (by simp (maxSteps := 2000000) only [vup, cond_true, cond_false, Nat.reduceBEq])
      clear hN10
      try clear N10
      refine Zn fun D hD => ?_
      refine Zp ?_
      refine Ze fun N11 hN11 => ?_
      simp (maxSteps := 2000000) only [↓Za, ↓Zb, ↓Zc, vup, cond_true, cond_false, aop, Zg, ev, sput, Zf, Nat.reduceBEq, tyf, hvF.idx el_22 esz_24 hjl, hvF.load shp_24 hjl, hgj, Xl, Yn, storeRt (Zz F zR) rfl, Xy]
      rw [← hF2]
      refine hN11 [(0, Zd (m : Nat)), (1, v), (4, .bool false), (5, Zd (k : Nat)), (6, .pointer (some ⟨hp.length, 0, none⟩)), (8, .pointer (some ⟨F.length, 0, none⟩)), (22, v), (23, Zd l.length), (24, Zd (k : Nat)), (46, v'), (47, Zd (k : Nat)), (48, Zd (j : Nat))] _ _ ?_ (by simp (maxSteps := 2000000) only [vup, cond_true, cond_false, Nat.reduceBEq])
      clear hN11
      try clear N11
      refine Ze fun N12 hN12 => ?_
      simp (maxSteps := 2000000) only [↓Za, ↓Zb, ↓Zc, vup, cond_true, cond_false, aop, Zg, ev, sput, Zf, Yi, Yo, Nat.reduceBEq, tyf, rA0, loadR0 c6F, loadR0 c8]
      refine hN12 [(0, Zd (m : Nat)), (1, v), (4, .bool false), (5, Zd (k : Nat)), (6, .pointer (some ⟨hp.length, 0, none⟩)), (8, .pointer (some ⟨F.length, 0, none⟩)), (22, v), (23, Zd l.length), (24, Zd (k : Nat)), (46, v'), (47, Zd (k : Nat)), (48, Zd (j : Nat)), (56, .bool (x == x2))] _ _ ?_ (by simp (maxSteps := 2000000) only [vup, cond_true, cond_false, Nat.reduceBEq])
      clear hN12
      try clear N12
      cases hxx : (x == x2) with
      | true =>
        refine Zi ?_
        simp (maxSteps := 2000000) only [↓Za, ↓Zt, ↓Zy, ↓Zb, ↓Zc, ↓vdn, vup, cond_true, cond_false, aop, Zg, Zs, ev, sput, Zf, Nat.reduceBEq]
        refine hQb _ _ _ (hQa _ _ _ ?_)
        simp (maxSteps := 2000000) only [Zg, Zs]
        refine ret0 ?_ _ _ (hEG.trans hEF2) rfl
        have : ((l.take k).any fun z => z.1 == x) = true := by
          rw [List.any_eq_true]
          refine ⟨(x2, y2), hgj ▸ Wn hjl, ?_⟩
          rw [beq_iff_eq] at hxx
          simp [hxx]
        rw [this]; simp
      | false =>
        refine Zi ?_
        simp (maxSteps := 2000000) only [↓Zw, ↓vdn, vup, cond_true, cond_false, Zg, Zs, ev, Nat.reduceBEq]
        refine hD [(0, Zd (m : Nat)), (1, v), (4, .bool false), (5, Zd (k : Nat)), (6, .pointer (some ⟨hp.length, 0, none⟩)), (22, v), (23, Zd l.length), (24, Zd (k : Nat)), (46, v'), (47, Zd (k : Nat)), (48, Zd (j : Nat))] _ _ ?_ (by simp (maxSteps := 2000000) only [vup, cond_true, cond_false, Nat.reduceBEq])
        clear hD
        try clear D
        refine Zi ?_
        simp (maxSteps := 2000000) only [↓Za, ↓Zb, ↓Zc, vup, cond_true, cond_false, aop, ev, sput, Zf, Yi, Yo, Nat.reduceBEq, add1 (show j < 9223372036854775807 by omega)]
        refine hQb _ _ _ ⟨(j + 1, F2), ⟨hj', ?_, hEF2⟩, by simp only; omega, by simp (maxSteps := 2000000) only [vup, cond_true, cond_false, Nat.reduceBEq], rfl⟩
        simp only [hts]
        rw [beq_eq_false_iff_ne] at hxx ⊢
        exact fun h => hxx h.symm
    · obtain rfl : k = j := by omega
      refine Ze fun N13 hN13 => ?_
      simp (maxSteps := 2000000) only [↓Za, ↓Zb, ↓Zc, vup, cond_true, cond_false, aop, Zg, ev, sput, Zf, Yi, Yo, Nat.reduceBEq, hjin]
      refine hN13 [(0, Zd (m : Nat)), (1, v), (4, .bool false), (5, Zd (k : Nat)), (6, .pointer (some ⟨hp.length, 0, none⟩)), (22, v), (23, Zd l.length), (24, Zd (k : Nat)), (46, v'), (47, Zd (k : Nat)), (48, Zd (k : Nat)), (49, .bool false)] _ _ ?_ (by simp (maxSteps := 2000000) only [vup, cond_true, cond_false, Nat.reduceBEq])
      clear hN13
      try clear N13
      refine Ze fun N14 hN14 => ?_
      simp (maxSteps := 2000000) only [↓Xh, ↓vdn, vup, cond_true, cond_false, Zg, ev, Nat.reduceBEq]
      refine hQb _ _ _ (hQa _ _ _ ?_)
      simp (maxSteps := 2000000) only [Zg, Zs, if_true]
      refine hB [(0, Zd (m : Nat)), (1, v), (4, .bool false), (22, v), (23, Zd l.length), (24, Zd (k : Nat)), (49, .bool false)] _ _ ?_ (by simp (maxSteps := 2000000) only [vup, cond_true, cond_false, Nat.reduceBEq])
      clear hB
      try clear B
      refine Zi ?_
      simp (maxSteps := 2000000) only [↓Za, ↓Zb, ↓Zc, vup, cond_true, cond_false, aop, ev, sput, Zf, Yi, Yo, Nat.reduceBEq, add1 (show k < 9223372036854775807 by omega)]
      refine hQ2 _ _ _ ⟨(k + 1, F), ⟨hk', ?_, hEG.trans hEF⟩, by simp only; omega, by simp (maxSteps := 2000000) only [vup, cond_true, cond_false, Nat.reduceBEq], rfl⟩
      simp only [validTo_succ, hall, hxy, hok, hno]; rfl
  · obtain rfl : k = l.length := by omega
    refine Ze fun N15 hN15 => ?_
    simp (maxSteps := 2000000) only [↓Za, ↓Zb, ↓Zc, vup, cond_true, cond_false, aop, Zg, ev, sput, Zf, Yi, Yo, Nat.reduceBEq, hin]
    refine hN15 [(0, Zd (m : Nat)), (1, v), (4, .bool false), (22, v), (23, Zd l.length), (24, Zd l.length), (25, .bool false)] _ _ ?_ (by simp (maxSteps := 2000000) only [vup, cond_true, cond_false, Nat.reduceBEq])
    clear hN15
    try clear N15
    refine Ze fun N16 hN16 => ?_
    simp (maxSteps := 2000000) only [↓Xh, ↓vdn, vup, cond_true, cond_false, Zg, ev, Nat.reduceBEq]
    refine hQ2 _ _ _ (hQ _ _ _ ?_)
    simp (maxSteps := 2000000) only [Zg, Zs, Zv, if_true]
    refine hZ [(0, Zd (m : Nat)), (1, v), (4, .bool false), (22, v), (23, Zd l.length), (24, Zd l.length), (25, .bool false)] _ _ ?_ (by simp (maxSteps := 2000000) only [vup, cond_true, cond_false, Nat.reduceBEq])
    clear hZ
    try clear Z
    refine Zi ?_
    simp (maxSteps := 2000000) only [↓Za, ↓Zt, ↓Zy, ↓Zb, ↓Zc, vup, cond_true, cond_false, aop, Zg, ev, sput, Zf, Nat.reduceBEq, Zv, Xw, tup, hall]
    exact hEp

theorem s18_callW [Tabs Try.prog] {args : List Value} {h : Zh} {Q : Value → Zh → Prop} (hsz : args.length ≤ 25) (hk : AWS Try.prog 25 s18 (Zv Try.prog [.tmp 2] Q) (Zo 0 args) h) : ACall Try.prog 18 args h Q :=
  Yr Try.func18 rfl (enters_of Try.func18 (by kernel_rfl) rfl) rfl rfl (by decide) s18_strip s18_ok hsz hk
theorem of_own [Tabs prog] {h : Zh} {v : Value} {l : List (Int × Int)} (hv : PairSl h v l) (hl : l.length < 9223372036854775808) : ACall prog 18 [v] h fun r h' => OwnP 92 h' r (l.take 9) ∧ Ext (fun _ => False) h h' ∧ ∀ b, Ym r = some b → h.length ≤ b := by
  have bldB : ∀ {x y : Int} {K : Value → Prop}, Vn prog 92 [(0, Zd x), (1, Zd y)] K = K (.agg #[Zd x, Zd y]) := fun {x y K} => by
    simp [Vn, zero_92, fillL, pl_92_0, pl_92_1, Wy, cellsOf, Yg]
  have lit : ∀ {h : Zh} {x y : Int} {K : Value → Zh → Prop}, Yq prog h 30 1 [(0, .agg #[Zd x, Zd y])] K = K (.slice (some ⟨h.length, 0, none⟩) 1 1) (h ++ [.ints [x, y] 92 false]) := fun {h x y K} => by
    simp only [Yq, el_30, zero_92, esz_92, reps, fillL, mkb, Wy, cellsOf, List.length_cons, List.length_nil, Nat.zero_add, Nat.zero_mul, Yg]
    refine propext ⟨fun h => ?_, fun h => ⟨trivial, by decide, by decide, ?_⟩⟩
    · simpa [Xa] using h.2.2.2
    · simpa [Xa] using h
  refine s18_callW (by simp) ?_
  simp only [s18]
  refine Ze fun N17 hN17 => ?_
  simp (maxSteps := 2000000) only [↓Za, ↓Zb, ↓Zc, vup, cond_false, aop, Zg, Zo, ev, sput, Zf, Nat.reduceBEq]
  refine hN17 [(0, v), (2, .slice none 0 0)] _ _ ?_ (by simp (maxSteps := 2000000) only [vup, cond_true, cond_false, Nat.reduceBEq])
  clear hN17
  try clear N17
  refine Ze fun N18 hN18 => ?_
  simp (maxSteps := 2000000) only [↓Za, ↓Zb, ↓Zc, vup, cond_false, aop, Zg, ev, sput, Zf, Nat.reduceBEq]
  refine hN18 [(0, v), (2, .slice none 0 0), (3, .slice none 0 0)] _ _ ?_ (by simp (maxSteps := 2000000) only [vup, cond_true, cond_false, Nat.reduceBEq])
  clear hN18
  try clear N18
  refine Zn fun Z hZ => ?_
  refine Ze fun N19 hN19 => ?_
  simp (maxSteps := 2000000) only [↓Za, ↓Zb, ↓Zc, vup, List.map_cons, List.map_nil, cond_true, cond_false, aop, Zg, ev, sput, Zf, Zl, Nat.reduceBEq, tyf, hv.len]
  refine hN19 [(0, v), (2, .slice none 0 0), (3, .slice none 0 0), (6, v), (7, Zd l.length), (8, .int .i64 0)] _ _ ?_ (by simp (maxSteps := 2000000) only [vup, cond_true, cond_false, Nat.reduceBEq])
  clear hN19
  try clear N19
  refine Zp ?_
  refine Ya fun Q hQ => ?_
  refine Xb (γ := Nat × Value × Zh) (fun s => s.1 ≤ l.length ∧ OwnP 92 s.2.2 s.2.1 ((l.take 9).take s.1) ∧ Ext (fun _ => False) h s.2.2 ∧ ∀ b, Ym s.2.1 = some b → h.length ≤ b)
    (fun s => ([(0, v), (2, .slice none 0 0), (3, s.2.1), (6, v), (7, Zd l.length), (8, Zd (s.1 : Nat))], s.2.2)) (fun s => l.length - s.1) (0, .slice none 0 0, h) ⟨Nat.zero_le _, .inl ⟨rfl, by simp⟩, Ext.refl _ _, fun b hb => by cases hb⟩ (by simp (maxSteps := 2000000) only [vup, cond_true, cond_false, Nat.reduceBEq, Int.natCast_zero]) rfl ?_
  rintro ⟨k, x, H⟩ ⟨hk, ho, hE, hbx⟩
  simp only at hk ho hE hbx
  refine Ya fun Q2 hQ2 => ?_
  simp only [l18_0]
  by_cases hin : (k : Int) < l.length
  · have hk' : k < l.length := by omega
    have hvH := hv.ext hE
    obtain ⟨⟨a, b⟩, hab⟩ : ∃ p, l.getD k (0, 0) = p := ⟨_, rfl⟩
    obtain ⟨G, hG⟩ : ∃ G, G = H ++ [rB a b] := ⟨_, rfl⟩
    have c5 : G[H.length]? = some (rB a b) := by rw [hG]; exact Zz _ _
    have hEG : Ext (fun _ => False) H G := by rw [hG]; exact Ext.app _ _ _
    refine Ze fun N20 hN20 => ?_
    simp (maxSteps := 2000000) only [↓Za, ↓Zb, ↓Zc, vup, cond_true, cond_false, aop, Zg, ev, sput, Zf, Yi, Yo, Nat.reduceBEq, hin]
    refine hN20 [(0, v), (2, .slice none 0 0), (3, x), (6, v), (7, Zd l.length), (8, Zd (k : Nat)), (9, .bool true)] _ _ ?_ (by simp (maxSteps := 2000000) only [vup, cond_true, cond_false, Nat.reduceBEq])
    clear hN20
    try clear N20
    refine Ze fun N21 hN21 => ?_
    simp (maxSteps := 2000000) only [↓Zw, ↓vdn, vup, cond_true, cond_false, Zg, ev, Nat.reduceBEq]
    refine hN21 [(0, v), (2, .slice none 0 0), (3, x), (6, v), (7, Zd l.length), (8, Zd (k : Nat))] _ _ ?_ (by simp (maxSteps := 2000000) only [vup, cond_true, cond_false, Nat.reduceBEq])
    clear hN21
    try clear N21
    refine Zn fun B hB => ?_
    refine Zp ?_
    refine Ze fun N22 hN22 => ?_
    simp (maxSteps := 2000000) only [↓Za, ↓Zb, ↓Zc, vup, cond_true, cond_false, aop, Zg, ev, sput, Zf, Nat.reduceBEq, tyf, hvH.idx el_22 esz_24 hk', hvH.load shp_24 hk', hab, Xl, Yn, storeRt (Zz H zR) rfl, Xy]
    rw [← hG]
    refine hN22 [(0, v), (2, .slice none 0 0), (3, x), (4, Zd (k : Nat)), (5, .pointer (some ⟨H.length, 0, none⟩)), (6, v), (7, Zd l.length), (8, Zd (k : Nat))] _ _ ?_ (by simp (maxSteps := 2000000) only [vup, cond_true, cond_false, Nat.reduceBEq])
    clear hN22
    try clear N22
    by_cases h9 : (k : Int) < 9
    · refine Ze fun N23 hN23 => ?_
      simp (maxSteps := 2000000) only [↓Za, ↓Zb, ↓Zc, vup, cond_true, cond_false, aop, Zg, ev, sput, Zf, Yi, Yo, Nat.reduceBEq, h9]
      refine hN23 [(0, v), (2, .slice none 0 0), (3, x), (4, Zd (k : Nat)), (5, .pointer (some ⟨H.length, 0, none⟩)), (6, v), (7, Zd l.length), (8, Zd (k : Nat)), (14, .bool true)] _ _ ?_ (by simp (maxSteps := 2000000) only [vup, cond_true, cond_false, Nat.reduceBEq])
      clear hN23
      try clear N23
      refine Wd rfl ?_
      refine Zi ?_
      simp (maxSteps := 2000000) only [↓Za, ↓Zb, ↓Zc, vup, List.map_cons, List.map_nil, cond_true, cond_false, aop, Zg, Zs, ev, sput, Zf, Zl, Nat.reduceBEq, rA0, rA1, loadR0 c5, loadR1 c5, bldB, lit]
      refine OwnP.append (x := a) (y := b) ((ho.ext hEG).ext (Ext.app _ _ _)) app_30_30 (by simp; omega) (Zz _ _) ?_
      intro x' h' ho' hE' hb'
      have e1 : (l.take 9).take k ++ [(a, b)] = (l.take 9).take (k + 1) := by
        have hk9 : k < (l.take 9).length := by rw [List.length_take]; omega
        have hg : (l.take 9).getD k (0, 0) = (a, b) := by rw [← hab, List.getD, List.getD, List.getElem?_take, if_pos (by omega)]
        rw [take_snoc (d := ((0, 0) : Int × Int)) hk9, hg]
      rw [e1] at ho'
      have hEn := ext_app (hE.trans hEG) (H' := G ++ [Blk.ints [a, b] 92 false]) (by simp) (fun z hz => List.getElem?_append_left (by have := (hE.trans hEG).1; omega)) (fun b hb => hbx b hb) hE'
      refine hB [(0, v), (2, .slice none 0 0), (3, x'), (6, v), (7, Zd l.length), (8, Zd (k : Nat))] _ _ ?_ (by simp (maxSteps := 2000000) only [vup, cond_true, cond_false, Nat.reduceBEq])
      clear hB
      try clear B
      refine Zi ?_
      simp (maxSteps := 2000000) only [↓Za, ↓Zb, ↓Zc, vup, cond_true, cond_false, aop, ev, sput, Zf, Yi, Yo, Nat.reduceBEq, add1 (show k < 9223372036854775807 by omega)]
      refine hQ2 _ _ _ ⟨(k + 1, x', h'), ⟨hk', ho', hEn, fun b hb0 => ?_⟩, by simp only; omega, by simp (maxSteps := 2000000) only [vup, cond_true, cond_false, Nat.reduceBEq], rfl⟩
      simp only at hb0
      rcases hb' with hb' | ⟨b', hb1, hb2⟩
      · exact hbx b (hb' ▸ hb0)
      · rw [hb1] at hb0; cases hb0
        rw [List.length_append] at hb2
        have := (hE.trans hEG).1; omega
    · refine Ze fun N24 hN24 => ?_
      simp (maxSteps := 2000000) only [↓Za, ↓Zb, ↓Zc, vup, cond_true, cond_false, aop, Zg, ev, sput, Zf, Yi, Yo, Nat.reduceBEq, h9]
      refine hN24 [(0, v), (2, .slice none 0 0), (3, x), (4, Zd (k : Nat)), (5, .pointer (some ⟨H.length, 0, none⟩)), (6, v), (7, Zd l.length), (8, Zd (k : Nat)), (14, .bool false)] _ _ ?_ (by simp (maxSteps := 2000000) only [vup, cond_true, cond_false, Nat.reduceBEq])
      clear hN24
      try clear N24
      refine Xi rfl ?_
      refine Zi ?_
      simp (maxSteps := 2000000) only [↓Zw, Zg, Zs]
      refine hB [(0, v), (2, .slice none 0 0), (3, x), (6, v), (7, Zd l.length), (8, Zd (k : Nat))] _ _ ?_ (by simp (maxSteps := 2000000) only [vup, cond_true, cond_false, Nat.reduceBEq])
      clear hB
      try clear B
      refine Zi ?_
      simp (maxSteps := 2000000) only [↓Za, ↓Zb, ↓Zc, vup, cond_true, cond_false, aop, ev, sput, Zf, Yi, Yo, Nat.reduceBEq, add1 (show k < 9223372036854775807 by omega)]
      have e1 : (l.take 9).take (k + 1) = (l.take 9).take k := by
        rw [List.take_of_length_le (l := l.take 9) (by rw [List.length_take]; omega), List.take_of_length_le (l := l.take 9) (by rw [List.length_take]; omega)]
      refine hQ2 _ _ _ ⟨(k + 1, x, G), ⟨hk', by simp only; rw [e1]; exact ho.ext hEG, hE.trans hEG, hbx⟩, by simp only; omega, by simp (maxSteps := 2000000) only [vup, cond_true, cond_false, Nat.reduceBEq], rfl⟩
  · obtain rfl : k = l.length := by omega
    refine Ze fun N25 hN25 => ?_
    simp (maxSteps := 2000000) only [↓Za, ↓Zb, ↓Zc, vup, cond_true, cond_false, aop, Zg, ev, sput, Zf, Yi, Yo, Nat.reduceBEq, hin]
    refine hN25 [(0, v), (2, .slice none 0 0), (3, x), (6, v), (7, Zd l.length), (8, Zd l.length), (9, .bool false)] _ _ ?_ (by simp (maxSteps := 2000000) only [vup, cond_true, cond_false, Nat.reduceBEq])
    clear hN25
    try clear N25
    refine Ze fun N26 hN26 => ?_
    simp (maxSteps := 2000000) only [↓Xh, ↓vdn, vup, cond_true, cond_false, Zg, ev, Nat.reduceBEq]
    refine hQ2 _ _ _ (hQ _ _ _ ?_)
    simp (maxSteps := 2000000) only [Zg, Zs, Zv, if_true]
    refine hZ [(0, v), (2, .slice none 0 0), (3, x), (9, .bool false)] _ _ ?_ (by simp (maxSteps := 2000000) only [vup, cond_true, cond_false, Nat.reduceBEq])
    clear hZ
    try clear Z
    have e1 : (l.take 9).take l.length = l.take 9 := List.take_of_length_le (l := l.take 9) (by rw [List.length_take]; omega)
    rw [e1] at ho
    refine Zi ?_
    simp (maxSteps := 2000000) only [↓Za, ↓Zt, ↓Zy, ↓Zb, ↓Zc, vup, cond_true, cond_false, aop, Zg, ev, sput, Zf, Nat.reduceBEq, Zv, Xw, tup]
    exact ⟨ho, hE, hbx⟩
theorem of_copy [Tabs prog] {h : Zh} {v : Value} {l : List (Int × Int)} (hv : PairSl h v l) (hl : l.length < 9223372036854775808) : ACall prog 18 [v] h fun r h' => PairSl h' r (l.take 9) ∧ Ext (fun _ => False) h h' :=
  (of_own hv hl).mono fun _ _ h => ⟨h.1.pair, h.2.1⟩
end Go.Proofs.Try.Am

namespace Go.Proofs.Try.Am
open Go.Am Bq
set_option maxRecDepth 100000
set_option maxHeartbeats 1000000

/-- A row's fractions. -/
def rowC (T : Xx) (k i : Nat) : List (Int × Int) := (List.range (k + 1)).map fun c => ofQ (T i c)
theorem rowC_len (T : Xx) (k i : Nat) : (rowC T k i).length = k + 1 := by simp [rowC]
theorem rowC_get (T : Xx) {k i c : Nat} (hc : c ≤ k) : (rowC T k i).getD c (0, 0) = ofQ (T i c) := by
  simp [rowC, List.getD, show c < k + 1 by omega]
def upd (T : Xx) (i c : Nat) (x : Rat) : Xx := fun a d => if a = i ∧ d = c then x else T a d
theorem rowC_upd (T : Xx) {k i c : Nat} (hc : c ≤ k) (x : Rat) : (rowC T k i).set c (ofQ x) = rowC (upd T i c x) k i := by
  apply List.ext_getElem?
  intro d
  rw [List.getElem?_set, rowC_len]
  by_cases h : c = d
  · subst h
    rw [if_pos rfl, if_pos (by omega)]
    simp [rowC, show c < k + 1 by omega, upd]
  · rw [if_neg h]
    simp only [rowC, List.getElem?_map]
    by_cases hd : d < k + 1
    · simp [hd, upd, Ne.symm h]
    · rw [List.getElem?_eq_none (by simp; omega)]; rfl
theorem rowC_congr {T T' : Xx} {k i : Nat} (h : ∀ c, c ≤ k → T i c = T' i c) : rowC T k i = rowC T' k i :=
  List.map_congr_left fun c hc => by rw [h c (by have := List.mem_range.1 hc; omega)]
theorem rowC_other (T : Xx) {k i i' c : Nat} (hi : i' ≠ i) (x : Rat) : rowC (upd T i c x) k i' = rowC T k i' := rowC_congr fun d _ => by simp [upd, hi]

/-- Equations: the slice's block, the rows' blocks. -/
structure Mat (h : Zh) (B m k : Nat) (w : Nat → Value) (bk : Nat → Nat) (T : Xx) : Prop where
  outer : ∃ us, h[B]? = some (.cells ((List.range m).map w ++ us) 47 false)
  row : ∀ i, i < m → ∃ c xs, w i = .slice (some ⟨bk i, 0, some 0⟩) (k + 1) c ∧ k + 1 ≤ c ∧ h[bk i]? = some (.ints (Yb (rowC T k i) ++ xs) 26 false)
  inj : ∀ i j, i < m → j < m → bk i = bk j → i = j
  sep : ∀ i, i < m → bk i ≠ B
section
variable {h h' : Zh} {B m k C : Nat} {w : Nat → Value} {bk : Nat → Nat} {T T' : Xx}
theorem Mat.lt (M : Mat h B m k w bk T) {i : Nat} (hi : i < m) : bk i < h.length := by
  obtain ⟨c, xs, _, _, h3⟩ := M.row i hi; exact Yl h3
theorem Mat.blt (M : Mat h B m k w bk T) : B < h.length := by
  obtain ⟨us, h1⟩ := M.outer; exact Yl h1
theorem Mat.ext (M : Mat h B m k w bk T) (hE : Ext (fun _ => False) h h') : Mat h' B m k w bk T where
  outer := by
    obtain ⟨us, h1⟩ := M.outer
    exact ⟨us, (hE.2 _ (Yl h1) id).trans h1⟩
  row i hi := by
    obtain ⟨c, xs, h1, h2, h3⟩ := M.row i hi
    exact ⟨c, xs, h1, h2, (hE.2 _ (Yl h3) id).trans h3⟩
  inj := M.inj
  sep := M.sep
theorem Mat.congr (M : Mat h B m k w bk T) (hT : ∀ i c, i < m → c ≤ k → T i c = T' i c) : Mat h B m k w bk T' where
  outer := M.outer
  row i hi := by
    obtain ⟨c, xs, h1, h2, h3⟩ := M.row i hi
    exact ⟨c, xs, h1, h2, by rw [← rowC_congr fun c hc => hT i c hi hc]; exact h3⟩
  inj := M.inj
  sep := M.sep
theorem Mat.idx (i : Nat) (hi : i < m) {K : Value → Prop} : Xd prog 103 (.slice (some ⟨B, 0, some 0⟩) m C) (Zd (i : Nat)) K = K (.pointer (some ⟨B, i, none⟩)) := by
  simp only [Xd, el_103, esz_47, Int.natCast_nonneg, Int.toNat_natCast, Nat.mul_one, Nat.zero_add, true_and, Int.ofNat_lt.2 hi]
theorem Mat.loadRow (M : Mat h B m k w bk T) {i : Nat} (hi : i < m) {K : Value → Prop} : Xu prog h 47 (.pointer (some ⟨B, i, none⟩)) K = K (w i) := by
  obtain ⟨us, h1⟩ := M.outer
  refine loadC h1 shp_47 ?_
  rw [List.getElem?_append_left (by simpa using hi)]
  simp [hi]
theorem Mat.lenR (M : Mat h B m k w bk T) {i : Nat} (hi : i < m) {K : Value → Prop} : lenK (w i) K = K (Zd ((k + 1 : Nat) : Int)) := by
  obtain ⟨c, xs, h1, h2, h3⟩ := M.row i hi
  rw [h1]; rfl
theorem Mat.idxR (M : Mat h B m k w bk T) {i c : Nat} (hi : i < m) (hc : c ≤ k) {K : Value → Prop} : Xd prog 47 (w i) (Zd (c : Nat)) K = K (.pointer (some ⟨bk i, c * 2, none⟩)) := by
  obtain ⟨cc, xs, h1, h2, h3⟩ := M.row i hi
  rw [h1]
  simp only [Xd, el_47, Vg, Int.natCast_nonneg, Int.toNat_natCast, Nat.zero_add, true_and, show ((c : Nat) : Int) < ((k + 1 : Nat) : Int) by omega]
theorem flat_two (ps : List (Int × Int)) (ys : List Int) {i : Nat} (hi : i < ps.length) : ((Yb ps ++ ys).drop (i * 2)).take 2 = [(ps.getD i (0, 0)).1, (ps.getD i (0, 0)).2] ∧ i * 2 + 2 ≤ (Yb ps ++ ys).length ∧ (Yb ps ++ ys).getD (i * 2) 0 = (ps.getD i (0, 0)).1 := by
  obtain ⟨h1, h2⟩ := flatP_get ps i hi
  have hl := Xf ps
  have g1 : (Yb ps ++ ys)[i * 2]? = some (ps.getD i (0, 0)).1 := by rw [List.getElem?_append_left (by omega)]; exact h1
  have g2 : (Yb ps ++ ys)[i * 2 + 1]? = some (ps.getD i (0, 0)).2 := by rw [List.getElem?_append_left (by omega)]; exact h2
  refine ⟨?_, by rw [List.length_append]; omega, by rw [List.getD, g1]; rfl⟩
  obtain ⟨l1, e1⟩ := List.getElem?_eq_some_iff.1 g1
  obtain ⟨l2, e2⟩ := List.getElem?_eq_some_iff.1 g2
  rw [List.drop_eq_getElem_cons l1, List.take_succ_cons, List.drop_eq_getElem_cons l2, List.take_succ_cons, List.take_zero, e1, e2]
theorem Mat.loadE (M : Mat h B m k w bk T) {i c : Nat} (hi : i < m) (hc : c ≤ k) {K : Value → Prop} : Xu prog h 26 (.pointer (some ⟨bk i, c * 2, none⟩)) K = K (qV (T i c)) := by
  obtain ⟨cc, xs, h1, h2, h3⟩ := M.row i hi
  obtain ⟨f1, f2, f3⟩ := flat_two (rowC T k i) xs (show c < (rowC T k i).length by rw [rowC_len]; omega)
  rw [rowC_get T hc] at f1
  simp only [Xu, shp_26, Xm, h3, f1, f2, true_and]
  rfl
theorem Mat.loadN (M : Mat h B m k w bk T) {i c : Nat} (hi : i < m) (hc : c ≤ k) {K : Value → Prop} : Xu prog h 3 (.pointer (some ⟨bk i, c * 2, none⟩)) K = K (Zd (T i c).num) := by
  obtain ⟨cc, xs, h1, h2, h3⟩ := M.row i hi
  obtain ⟨f1, f2, f3⟩ := flat_two (rowC T k i) xs (show c < (rowC T k i).length by rw [rowC_len]; omega)
  rw [rowC_get T hc] at f3
  simp only [Xu, shp_3, cellK, h3, f3, show c * 2 < (Yb (rowC T k i) ++ xs).length by omega, true_and]
  rfl
theorem fA0o {b o : Nat} {K : Value → Prop} : Yz prog 26 (.pointer (some ⟨b, o, none⟩)) 0 K = K (.pointer (some ⟨b, o, none⟩)) := by
  simp [Yz, fld_26_0, esz_3]
/-- A number is written. -/
theorem Mat.storeE (M : Mat h B m k w bk T) {i c : Nat} (hi : i < m) (hc : c ≤ k) (x : Rat) : ∃ h', (∀ K : Zh → Prop, Xn prog h 26 (.pointer (some ⟨bk i, c * 2, none⟩)) (qV x) K = K h') ∧ Mat h' B m k w bk (upd T i c x) ∧ Ext (fun b => b = bk i) h h' ∧ ∀ b, b ≠ bk i → h'[b]? = h[b]? := by
  obtain ⟨cc, xs, h1, h2, h3⟩ := M.row i hi
  refine ⟨h.set (bk i) (.ints (Yb (rowC (upd T i c x) k i) ++ xs) 26 false), fun K => ?_, ⟨?_, ?_, M.inj, M.sep⟩, Ext.set _ rfl, fun b hb => List.getElem?_set_ne (Ne.symm hb)⟩
  · rw [← rowC_upd T hc x]
    exact storePI h3 shp_26 (by rw [rowC_len]; omega)
  · obtain ⟨us, g1⟩ := M.outer
    exact ⟨us, by rw [List.getElem?_set_ne (M.sep i hi)]; exact g1⟩
  · intro j hj
    by_cases hji : j = i
    · subst hji
      exact ⟨cc, xs, h1, h2, Wc (M.lt hj) _⟩
    · obtain ⟨c2, xs2, g1, g2, g3⟩ := M.row j hj
      refine ⟨c2, xs2, g1, g2, ?_⟩
      rw [List.getElem?_set_ne (fun he => hji (M.inj _ _ hj hi he.symm)), rowC_other T hji]
      exact g3
def swp {α : Type} (a p : Nat) (w : Nat → α) : Nat → α := fun i => if i = a then w p else if i = p then w a else w i
theorem set_range {α : Type} (w : Nat → α) {m i : Nat} (us : List α) (x : α) (hi : i < m) : ((List.range m).map w ++ us).set i x = (List.range m).map (fun j => if j = i then x else w j) ++ us := by
  rw [List.set_append_left _ _ (by simpa using hi)]
  congr 1
  apply List.ext_getElem?
  intro j
  rw [List.getElem?_set, List.length_map, List.length_range]
  by_cases h : i = j
  · subst h; simp [hi]
  · rw [if_neg h, List.getElem?_map, List.getElem?_map]
    by_cases hj : j < m
    · simp [hj, Ne.symm h]
    · rw [List.getElem?_eq_none (by simp; omega)]; rfl
/-- Two rows change places. -/
theorem Mat.swap (M : Mat h B m k w bk T) {a p : Nat} (ha : a < m) (hp : p < m) : ∃ h1 h2, (∀ K : Zh → Prop, Xn prog h 47 (.pointer (some ⟨B, a, none⟩)) (w p) K = K h1) ∧ (∀ K : Zh → Prop, Xn prog h1 47 (.pointer (some ⟨B, p, none⟩)) (w a) K = K h2) ∧
    Mat h2 B m k (swp a p w) (swp a p bk) (Vm a p T) ∧ Ext (fun b => b = B) h h2 ∧ ∀ b, b ≠ B → h2[b]? = h[b]? := by
  obtain ⟨us, g1⟩ := M.outer
  have one_w : ∀ i, i < m → one (w i) = true := fun i hi => by
    obtain ⟨c, xs, e1, _⟩ := M.row i hi
    rw [e1]; rfl
  have hl : ∀ i, i < m → i < ((List.range m).map w ++ us).length := fun i hi => by simp; omega
  have s1 : ∀ K : Zh → Prop, Xn prog h 47 (.pointer (some ⟨B, a, none⟩)) (w p) K = K (h.set B (.cells ((List.range m).map (fun j => if j = a then w p else w j) ++ us) 47 false)) := fun K => by
    rw [storeC g1 shp_47 (one_w p hp) (hl a ha), set_range w us _ ha]
  have g2 : (h.set B (.cells ((List.range m).map (fun j => if j = a then w p else w j) ++ us) 47 false))[B]? = some (.cells ((List.range m).map (fun j => if j = a then w p else w j) ++ us) 47 false) := Wc M.blt _
  have s2 : ∀ K : Zh → Prop, Xn prog (h.set B (.cells ((List.range m).map (fun j => if j = a then w p else w j) ++ us) 47 false)) 47 (.pointer (some ⟨B, p, none⟩)) (w a) K =
      K (h.set B (.cells ((List.range m).map (swp a p w) ++ us) 47 false)) := fun K => by
    rw [storeC g2 shp_47 (one_w a ha) (by simp; omega), set_range _ us _ hp, List.set_set]
    have : (fun j => if j = p then w a else if j = a then w p else w j) = swp a p w := by
      funext j
      simp only [swp]
      by_cases h1 : j = p
      · subst h1
        by_cases h2 : j = a
        · subst h2; simp
        · simp [h2]
      · simp [h1]
    rw [this]
  have hcase : ∀ i, i < m → ∃ i', i' < m ∧ swp a p w i = w i' ∧ swp a p bk i = bk i' ∧ Vm a p T i = T i' ∧ i' = swp a p id i := fun i hi => by
    by_cases h1 : i = a
    · exact ⟨p, hp, by simp [swp, h1], by simp [swp, h1], by simp [Vm, h1], by simp [swp, h1]⟩
    · by_cases h2 : i = p
      · subst h2; exact ⟨a, ha, by simp [swp, h1], by simp [swp, h1], by simp [Vm, h1], by simp [swp, h1]⟩
      · exact ⟨i, hi, by simp [swp, h1, h2], by simp [swp, h1, h2], by simp [Vm, h1, h2], by simp [swp, h1, h2]⟩
  refine ⟨_, _, s1, s2, ⟨⟨us, Wc M.blt _⟩, fun i hi => ?_, fun i j hi hj he => ?_, fun i hi => ?_⟩, Ext.set _ rfl, fun b hb => List.getElem?_set_ne (Ne.symm hb)⟩
  · obtain ⟨i', q1, q2, q3, q4, _⟩ := hcase i hi
    obtain ⟨c, xs, e1, e2, e3⟩ := M.row i' q1
    refine ⟨c, xs, by rw [q2, q3]; exact e1, e2, ?_⟩
    rw [q3, List.getElem?_set_ne (fun he => M.sep i' q1 he.symm), show rowC (Vm a p T) k i = rowC T k i' by simp only [rowC, q4]]
    exact e3
  · obtain ⟨i', q1, _, q3, _, q5⟩ := hcase i hi
    obtain ⟨j', r1, _, r3, _, r5⟩ := hcase j hj
    rw [q3, r3] at he
    have := M.inj _ _ q1 r1 he
    rw [q5, r5] at this
    simp only [swp, id] at this
    grind
  · obtain ⟨i', q1, _, q3, _⟩ := hcase i hi
    rw [q3]; exact M.sep i' q1
/-- The rows from one on. -/
theorem Mat.tail (M : Mat h B m k w bk T) {a : Nat} (ha : a < m) (hC : m ≤ C) {K : Value → Prop} (hk : ∀ v, ValSl h v ((List.range (m - a)).map fun i => w (a + i)) → K v) : Xg prog 103 (.slice (some ⟨B, 0, some 0⟩) m C) (some (Zd (a : Nat))) none none K := by
  obtain ⟨us, g1⟩ := M.outer
  have hv : view h B = some ((List.range m).map w ++ us, 47, false) := by simp [view, g1, Blk.view]
  have e1 : (((List.range m).map w ++ us).drop a).take (m - a) = (List.range (m - a)).map fun i => w (a + i) := by
    apply List.ext_getElem?
    intro i
    rw [List.getElem?_take]
    by_cases hi : i < m - a
    · rw [if_pos hi, List.getElem?_drop, List.getElem?_append_left (by simp; omega)]
      simp [hi, show a + i < m by omega]
    · rw [if_neg hi, List.getElem?_eq_none (by simp; omega)]
  have key : ∀ v, v = .slice (some ⟨B, a, some 0⟩) (m - a) (C - a) → K v := fun v hv' => hk v (.inr ⟨B, a, some 0, C - a, _, _, _, by rw [hv']; simp, by simp; omega, hv, by simp only [List.length_map, List.length_range]; exact e1⟩)
  simp only [Xg, el_103, esz_47, bnd]
  refine ⟨by omega, by omega, by omega, fun h0 => by simp at h0, fun _ => ?_⟩
  rcases Nat.eq_zero_or_pos a with h0 | h0
  · subst h0
    exact .inl ⟨rfl, key _ (by simp)⟩
  · refine .inr ⟨by omega, .inl ⟨by omega, by decide, key _ ?_⟩⟩
    have e2 : ((m : Int) - (a : Int)).toNat = m - a := by omega
    have e3 : C - ((a : Int)).toNat = C - a := by omega
    simp [e2]
end

/-- The first one, as a number; less than 0: there is none. -/
def fstI (n : Nat) (F : Nat → Bool) : Int := match (List.range n).find? F with | some i => (i : Int) | none => -1

theorem s111_callW [Tabs Try.prog] {args : List Value} {h : Zh} {Q : Value → Zh → Prop} (hsz : args.length ≤ 19) (hk : AWS Try.prog 19 s111 (Zv Try.prog [.tmp 4] Q) (Zo 0 args) h) : ACall Try.prog 111 args h Q :=
  Yr Try.func111 rfl (enters_of Try.func111 (by kernel_rfl) rfl) rfl rfl (by decide) s111_strip s111_ok hsz hk
theorem idxRow_call [Tabs prog] {h : Zh} {v : Value} {ws : List Value} {g : FuncId} {cap : Array Value} {F : Nat → Bool} (hv : ValSl h v ws) (hl : ws.length < 9223372036854775808)
    (hc : ∀ i, i < ws.length → Xc prog g ([ws.getD i undef] ++ cap.toList) h (.bool (F i))) : Xc prog 111 [v, .func (.func g) #[] cap] h (Zd (fstI ws.length F)) := by
  refine s111_callW (by simp) ?_
  simp only [s111]
  refine Ze fun N1 hN1 => ?_
  simp (maxSteps := 2000000) only [↓Za, ↓Zb, ↓Zc, vup, cond_false, aop, Zg, Zo, ev, sput, Zf, Nat.reduceBEq, Nat.reduceAdd]
  refine hN1 [(0, v), (1, .func (.func g) #[] cap), (4, .int .i64 0)] _ _ ?_ (by simp (maxSteps := 2000000) only [vup, cond_true, cond_false, Nat.reduceBEq])
  clear hN1
  try clear N1
  refine Zn fun Z hZ => ?_
  refine Ze fun N2 hN2 => ?_
  simp (maxSteps := 2000000) only [↓Za, ↓Zb, ↓Zc, vup, List.map_cons, List.map_nil, cond_true, cond_false, aop, Zg, ev, sput, Zf, Zl, Nat.reduceBEq, tyf, hv.len]
  refine hN2 [(0, v), (1, .func (.func g) #[] cap), (4, .int .i64 0), (6, v), (7, Zd ws.length), (8, .int .i64 0)] _ _ ?_ (by simp (maxSteps := 2000000) only [vup, cond_true, cond_false, Nat.reduceBEq])
  clear hN2
  try clear N2
  refine Zp ?_
  refine Ya fun Q hQ => ?_
  refine Xb (γ := Nat) (fun k => k ≤ ws.length ∧ ∀ i, i < k → F i = false)
    (fun k => ([(0, v), (1, .func (.func g) #[] cap), (4, .int .i64 0), (6, v), (7, Zd ws.length), (8, Zd (k : Nat))], h)) (fun k => ws.length - k) 0 ⟨Nat.zero_le _, fun i hi => by omega⟩ (by simp (maxSteps := 2000000) only [vup, cond_true, cond_false, Nat.reduceBEq, Int.natCast_zero]) rfl ?_
  rintro k ⟨hk, hall⟩
  refine Ya fun Q2 hQ2 => ?_
  simp only [l111_0]
  by_cases hin : (k : Int) < ws.length
  · have hk' : k < ws.length := by omega
    refine Ze fun N3 hN3 => ?_
    simp (maxSteps := 2000000) only [↓Za, ↓Zb, ↓Zc, vup, cond_true, cond_false, aop, Zg, ev, sput, Zf, Yi, Yo, Nat.reduceBEq, hin]
    refine hN3 [(0, v), (1, .func (.func g) #[] cap), (4, .int .i64 0), (6, v), (7, Zd ws.length), (8, Zd (k : Nat)), (9, .bool true)] _ _ ?_ (by simp (maxSteps := 2000000) only [vup, cond_true, cond_false, Nat.reduceBEq])
    clear hN3
    try clear N3
    refine Ze fun N4 hN4 => ?_
    simp (maxSteps := 2000000) only [↓Zw, ↓vdn, vup, cond_true, cond_false, Zg, ev, Nat.reduceBEq]
    refine hN4 [(0, v), (1, .func (.func g) #[] cap), (4, .int .i64 0), (6, v), (7, Zd ws.length), (8, Zd (k : Nat))] _ _ ?_ (by simp (maxSteps := 2000000) only [vup, cond_true, cond_false, Nat.reduceBEq])
    clear hN4
    try clear N4
    refine Zn fun B hB => ?_
    refine Zp ?_
    refine Ze fun N5 hN5 => ?_
    simp (maxSteps := 2000000) only [↓Za, ↓Zb, ↓Zc, vup, cond_true, cond_false, aop, Zg, ev, sput, Zf, Nat.reduceBEq]
    refine hN5 [(0, v), (1, .func (.func g) #[] cap), (4, .int .i64 0), (5, Zd (k : Nat)), (6, v), (7, Zd ws.length), (8, Zd (k : Nat))] _ _ ?_ (by simp (maxSteps := 2000000) only [vup, cond_true, cond_false, Nat.reduceBEq])
    clear hN5
    try clear N5
    refine Ze fun N6 hN6 => ?_
    simp (maxSteps := 2000000) only [↓Za, ↓Zb, ↓Zc, vup, List.map_cons, List.map_nil, cond_true, cond_false, aop, Zg, ev, sput, Zf, Nat.reduceBEq, hv.idx el_103 esz_47 hk', hv.load shp_47 hk', Yt, List.nil_append]
    refine (hc k hk').mono ?_
    rintro _ h ⟨rfl, rfl⟩
    refine hN6 [(0, v), (1, .func (.func g) #[] cap), (4, .int .i64 0), (5, Zd (k : Nat)), (6, v), (7, Zd ws.length), (8, Zd (k : Nat)), (16, .bool (F k))] _ _ ?_ (by simp (maxSteps := 2000000) only [vup, cond_true, cond_false, Nat.reduceBEq])
    clear hN6
    try clear N6
    refine Zi ?_
    cases hf : F k with
    | true =>
      simp (maxSteps := 2000000) only [↓Za, ↓Zt, ↓Zy, ↓Zb, ↓Zc, ↓vdn, vup, cond_true, cond_false, aop, Zg, Zs, ev, sput, Zf, Nat.reduceBEq]
      refine hQ2 _ _ _ (hQ _ _ _ ?_)
      have e : fstI ws.length F = (k : Int) := by rw [fstI, find_spec hk' hf hall]
      simp (maxSteps := 2000000) only [vup, cond_true, cond_false, Zg, Zs, Nat.reduceBEq, Zv, Xw, tup, e]
    | false =>
      simp (maxSteps := 2000000) only [↓Zw, ↓vdn, vup, cond_true, cond_false, Zg, Zs, ev, Nat.reduceBEq]
      refine hB [(0, v), (1, .func (.func g) #[] cap), (4, .int .i64 0), (6, v), (7, Zd ws.length), (8, Zd (k : Nat))] _ _ ?_ (by simp (maxSteps := 2000000) only [vup, cond_true, cond_false, Nat.reduceBEq])
      clear hB
      try clear B
      refine Zi ?_
      simp (maxSteps := 2000000) only [↓Za, ↓Zb, ↓Zc, vup, cond_true, cond_false, aop, ev, sput, Zf, Yi, Yo, Nat.reduceBEq, add1 (show k < 9223372036854775807 by omega)]
      refine hQ2 _ _ _ ⟨k + 1, ⟨hk', fun i hi => ?_⟩, by omega, by simp (maxSteps := 2000000) only [vup, cond_true, cond_false, Nat.reduceBEq], rfl⟩
      rcases Nat.lt_or_ge i k with h1 | h1
      · exact hall i h1
      · rw [show i = k by omega]; exact hf
  · obtain rfl : k = ws.length := by omega
    refine Ze fun N7 hN7 => ?_
    simp (maxSteps := 2000000) only [↓Za, ↓Zb, ↓Zc, vup, cond_true, cond_false, aop, Zg, ev, sput, Zf, Yi, Yo, Nat.reduceBEq, hin]
    refine hN7 [(0, v), (1, .func (.func g) #[] cap), (4, .int .i64 0), (6, v), (7, Zd ws.length), (8, Zd ws.length), (9, .bool false)] _ _ ?_ (by simp (maxSteps := 2000000) only [vup, cond_true, cond_false, Nat.reduceBEq])
    clear hN7
    try clear N7
    refine Ze fun N8 hN8 => ?_
    simp (maxSteps := 2000000) only [↓Xh, ↓vdn, vup, cond_true, cond_false, Zg, ev, Nat.reduceBEq]
    refine hQ2 _ _ _ (hQ _ _ _ ?_)
    simp (maxSteps := 2000000) only [Zg, Zs, Zv, if_true]
    refine hZ [(0, v), (1, .func (.func g) #[] cap), (4, .int .i64 0), (6, v), (7, Zd ws.length), (8, Zd ws.length), (9, .bool false)] _ _ ?_ (by simp (maxSteps := 2000000) only [vup, cond_true, cond_false, Nat.reduceBEq])
    clear hZ
    try clear Z
    refine Zi ?_
    have e : fstI ws.length F = -1 := by rw [fstI, find_none hall]
    simp (maxSteps := 2000000) only [↓Za, ↓Zt, ↓Zy, ↓Zb, ↓Zc, vup, cond_true, cond_false, aop, Zg, ev, sput, Zf, Nat.reduceBEq, Zv, Xw, tup, e]

theorem s112_callW [Tabs Try.prog] {args : List Value} {h : Zh} {Q : Value → Zh → Prop} (hsz : args.length ≤ 10) (hk : AWS Try.prog 10 s112 (Zv Try.prog [.tmp 3] Q) (Zo 0 args) h) : ACall Try.prog 112 args h Q :=
  Yr Try.func112 rfl (enters_of Try.func112 (by kernel_rfl) rfl) rfl rfl (by decide) s112_strip s112_ok hsz hk
theorem nonzero_call [Tabs prog] {h : Zh} {B m k b a i : Nat} {w : Nat → Value} {bk : Nat → Nat} {T : Xx} (M : Mat h B m k w bk T) (hb : h[b]? = some (.cells [Zd (a : Nat)] 3 false)) (hi : i < m) (ha : a ≤ k) :
    Xc prog 112 [w i, .pointer (some ⟨b, 0, none⟩)] h (.bool (decide (T i a ≠ 0))) := by
  refine s112_callW (by simp) ?_
  refine Zi ?_
  have e : (((T i a).num) != 0) = decide (T i a ≠ 0) := by
    rw [Bool.eq_iff_iff]
    simp [Rat.num_eq_zero]
  simp (maxSteps := 2000000) only [s112, ↓Za, ↓Zt, ↓Zy, ↓Zb, ↓Zc, vup, cond_true, cond_false, aop, Zg, Zo, ev, sput, Zf, Yi, Yo, Nat.reduceBEq, Nat.reduceAdd, Zv, Xw, tup, tyf, load1 hb shp_3, M.idxR hi ha, fA0o, M.loadN hi ha, e]
end Go.Proofs.Try.Am
