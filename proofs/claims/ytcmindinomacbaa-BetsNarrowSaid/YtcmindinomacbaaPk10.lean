/-
  bets: Sound; that the program is awake.
  bets: whether a belief agrees.
  bets: scores and averages, in the program and in the reference.
  bets: averages of scores.
  bets: the reference's averages and scores.
  bets: determinants, by their first column. Plain Lean, no program.
  bets: elimination: what it keeps, how great its numbers are, what it tells. Plain Lean, no program.
  bets: what a solution is; what it means that there is none. Plain Lean, no program.
  bets: beliefs that agree; the least of a sum is at a corner. Plain Lean, no program.
  bets: the systems of bets are tame, all of them; the reference's rows. Plain Lean, no program.
  bets: the reference's equations as they lie in memory.
  bets: the reference's elimination.
  bets: the reference's corner.
  bets: the reference's corners; whether bets are sound.
  Printed by gen.py: the code of some functions, without what no step looks at; held against the program's own by the kernel.
  bets: law Sound.
-/
import Derived.Test.YtcmindinomacbaaPk9
import Derived.Test.YtcmindinomacbaaPk8
import Derived.Test.YtcmindinomacbaaPk7
import Derived.Test.YtcmindinomacbaaPk6
import Derived.Test.YtcmindinomacbaaPk5
import Derived.Test.YtcmindinomacbaaPk3
import Derived.Test.YtcmindinomacbaaProg
import Derived.KernelRfl
import Derived.Shelf.Abstract
set_option linter.all false
namespace Go.Proofs.Try.Am
open Go.Am Bq
set_option maxRecDepth 100000
set_option maxHeartbeats 2000000

theorem pairSl_shape {h : Zh} {v : Value} {l : List (Int × Int)} (hv : PairSl h v l) : ∃ p n c, v = .slice p n c := by
  rcases hv with ⟨rfl, _⟩ | ⟨b, o, sp, cap, c, e, ro, rfl, _⟩
  · exact ⟨_, _, _, rfl⟩
  · exact ⟨_, _, _, rfl⟩
theorem bldT {n : Int} {p : Option Addr} {m c : Nat} {K : Value → Prop} : Vn prog 86 [(0, Zd n), (1, .slice p m c)] K = K (.agg #[Zd n, .slice p m c]) := by
  simp [Vn, zero_86, fillL, pl_86_0, pl_86_1, Wy, cellsOf, Yg]
theorem storeT {h : Zh} {b : Nat} {n : Int} {p : Option Addr} {m k : Nat} {e : TypeId} {c : List Value} {K : Zh → Prop} (hb : h[b]? = some (.cells c e false)) (hc : c.length = 2) : Xn prog h 86 (.pointer (some ⟨b, 0, none⟩)) (.agg #[Zd n, .slice p m k]) K = K (h.set b (.cells [Zd n, .slice p m k] e false)) :=
  storeA (vs := [Zd n, .slice p m k]) hb (by rw [shp_86]; rfl) rfl (by rw [hc]; rfl)
theorem loadT {h : Zh} {b : Nat} {n : Int} {v : Value} {K : Value → Prop} (hb : h[b]? = some (.cells [Zd n, v] 86 false)) : Xu prog h 86 (.pointer (some ⟨b, 0, none⟩)) K = K (.agg #[Zd n, v]) :=
  loadA hb (by rw [shp_86]; rfl)

/-- What Sound hands back. -/
def SoundIs (n : Int) (l : List (Int × Int)) (h' : Zh) (x : Value) (e : Int) : Prop :=
  if Yx n l = true then (match Ye n.toNat l with | [] => x = .slice none 0 0 ∧ e = 5 | c :: _ => e = 0 ∧ BelAt h' x c) else x = .slice none 0 0 ∧ e = 2
theorem s36_callW [Tabs Try.prog] {args : List Value} {h : Zh} {Q : Value → Zh → Prop} (hsz : args.length ≤ 22) (hk : AWS Try.prog 22 s36 (Zv Try.prog [.tmp 4, .tmp 5] Q) (Zo 0 args) h) : ACall Try.prog 36 args h Q :=
  Yr Try.func36 rfl (enters_of Try.func36 (by kernel_rfl) rfl) rfl rfl (by decide) s36_strip s36_ok hsz hk
theorem sound_call [Tabs prog] {h : Zh} {n : Int} {v : Value} {l : List (Int × Int)} (hv : PairSl h v l) (hl : l.length < 9223372036854775808) (ht : Yx n l = true → TameAll n.toNat l) :
    ACall prog 36 [Zd n, v] h fun r h' => Ext (fun _ => False) h h' ∧ ∃ x e, r = .tuple #[x, .int .i64 e] ∧ SoundIs n l h' x e := by
  obtain ⟨p, m, c, rfl⟩ := pairSl_shape hv
  obtain ⟨H, hH⟩ : ∃ H, H = h ++ [Blk.cells [Zd n, .slice p m c] 86 false] := ⟨_, rfl⟩
  have hE : Ext (fun _ => False) h H := by rw [hH]; exact Ext.app _ _ _
  have b6 : H[h.length]? = some (.cells [Zd n, .slice p m c] 86 false) := by rw [hH]; exact Zz _ _
  have hvH := hv.ext hE
  refine s36_callW (by simp) ?_
  simp only [s36]
  refine Ze fun N1 hN1 => ?_
  simp (maxSteps := 2000000) only [↓Za, ↓Zb, ↓Zc, vup, cond_false, aop, Zg, Zo, ev, sput, Zf, Nat.reduceBEq, Nat.reduceAdd]
  refine hN1 [(0, Zd n), (1, .slice p m c), (4, .slice none 0 0), (5, .int .i64 0)] _ _ ?_ (by simp (maxSteps := 2000000) only [vup, cond_true, cond_false, Nat.reduceBEq])
  clear hN1
  try clear N1
  refine Ze fun N2 hN2 => ?_
  simp (maxSteps := 2000000) only [↓Za, ↓Zb, ↓Zc, vup, List.map_cons, List.map_nil, cond_true, cond_false, aop, Zg, ev, sput, Zf, Nat.reduceBEq, tyf, bldT, Xl, Yn, storeT (Zz h (.cells [.int .i64 0, .slice none 0 0] 86 false)) rfl, Xy]
  rw [← hH]
  refine hN2 [(4, .slice none 0 0), (5, .int .i64 0), (6, .pointer (some ⟨h.length, 0, none⟩))] _ _ ?_ (by simp (maxSteps := 2000000) only [vup, cond_true, cond_false, Nat.reduceBEq])
  clear hN2
  try clear N2
  refine Zn fun M hM => ?_
  refine Ze fun N3 hN3 => ?_
  simp (maxSteps := 2000000) only [↓Za, ↓Zb, ↓Zc, vup, List.map_cons, List.map_nil, cond_true, cond_false, aop, Zg, ev, sput, Zf, unK, Nat.reduceBEq, Yt, List.nil_append, List.append_nil, loadT b6]
  refine (valid_call hvH hl).mono ?_
  rintro _ H ⟨rfl, rfl⟩
  refine hN3 [(4, .slice none 0 0), (5, .int .i64 0), (6, .pointer (some ⟨h.length, 0, none⟩)), (13, .bool (!Yx n l))] _ _ ?_ (by simp (maxSteps := 2000000) only [vup, cond_true, cond_false, Nat.reduceBEq])
  clear hN3
  try clear N3
  cases hval : Yx n l with
  | false =>
    refine Wd rfl ?_
    refine Zi ?_
    simp (maxSteps := 2000000) only [↓Za, ↓Zt, ↓Zy, ↓Zb, ↓Zc, vup, cond_true, cond_false, aop, Zg, ev, sput, Zf, Nat.reduceBEq, Zv, Xw, tup]
    exact ⟨hE, _, _, rfl, by rw [SoundIs, if_neg (by simp [hval])]; exact ⟨rfl, rfl⟩⟩
  | true =>
    refine Xi rfl ?_
    refine Zi ?_
    simp (maxSteps := 2000000) only [↓Zw, vup, Zg]
    refine hM [(4, .slice none 0 0), (5, .int .i64 0), (6, .pointer (some ⟨h.length, 0, none⟩))] _ _ ?_ (by simp (maxSteps := 2000000) only [vup, cond_true, cond_false, Nat.reduceBEq])
    clear hM
    try clear M
    have hn : n = (n.toNat : Int) := by
      simp only [Yx, Bool.and_eq_true, decide_eq_true_eq] at hval; omega
    have hcor := corners_call (n := n.toNat) hvH (by rw [← hn]; exact hval) (ht hval)
    rw [← hn] at hcor
    refine Ze fun N4 hN4 => ?_
    simp (maxSteps := 2000000) only [↓Za, ↓Zb, ↓Zc, vup, List.map_cons, List.map_nil, cond_true, cond_false, aop, Zg, ev, sput, Zf, Nat.reduceBEq, Yt, List.nil_append, List.append_nil, loadT b6]
    refine (hcor).mono ?_
    rintro r H1 ⟨hE1, ⟨ws, hor, heach⟩, hb⟩
    refine hN4 [(4, .slice none 0 0), (5, .int .i64 0), (6, .pointer (some ⟨h.length, 0, none⟩)), (7, r)] _ _ ?_ (by simp (maxSteps := 2000000) only [vup, cond_true, cond_false, Nat.reduceBEq])
    clear hN4
    try clear N4
    have hEE := hE.trans hE1
    have hlen := heach.len
    refine Zi ?_
    have his : ∀ x e, SoundIs n l H1 x e ↔ (match Ye n.toNat l with | [] => x = .slice none 0 0 ∧ e = 5 | c :: _ => e = 0 ∧ BelAt H1 x c) := fun x e => by rw [SoundIs, if_pos hval]
    cases hc : Ye n.toNat l with
    | nil =>
      rw [hc] at hlen heach
      have h0 : (((ws.length : Nat) : Int) == 0) = true := by simp [hlen]
      simp (maxSteps := 2000000) only [↓Za, ↓Zw, ↓Zt, ↓Zy, ↓Zb, ↓Zc, ↓vdn, vup, List.map_cons, List.map_nil, cond_true, cond_false, aop, Zg, ev, sput, Zf, Yi, Yo, Zl, Nat.reduceBEq, Zv, Xw, tup, tyf, hor.val.len, h0]
      exact ⟨hEE, _, _, rfl, (his _ _).2 (by rw [hc]; exact ⟨rfl, rfl⟩)⟩
    | cons c0 cs =>
      rw [hc] at hlen heach
      have hpos : 0 < ws.length := by rw [hlen]; simp
      have h0 : (((ws.length : Nat) : Int) == 0) = false := beq_eq_false_iff_ne.2 (by omega)
      have hi0 : ∀ K : Value → Prop, Xd prog 88 r (.int .i64 0) K = K (Vv r 1 0) := fun K => by
        have := hor.val.idx el_88 esz_90 (k := .i64) hpos K
        simpa using this
      simp (maxSteps := 2000000) only [↓Za, ↓Zw, ↓Zt, ↓Zy, ↓Zb, ↓Zc, ↓vdn, vup, List.map_cons, List.map_nil, cond_true, cond_false, aop, Zg, ev, sput, Zf, Yi, Yo, Zl, Nat.reduceBEq, Zv, Xw, tup, tyf, hor.val.len, h0, hi0, hor.val.load shp_90 hpos]
      have hbel := heach.get undef [] (k := 0) (by simp)
      exact ⟨hEE, _, _, rfl, (his _ _).2 (by rw [hc]; exact ⟨rfl, hbel⟩)⟩

theorem s21_callW [Tabs Try.prog] {args : List Value} {h : Zh} {Q : Value → Zh → Prop} (hsz : args.length ≤ 18) (hk : AWS Try.prog 18 s21 (Zv Try.prog [.tmp 0] Q) (Zo 0 args) h) : ACall Try.prog 21 args h Q :=
  Yr Try.func21 rfl (enters_of Try.func21 (by kernel_rfl) rfl) rfl rfl (by decide) s21_strip s21_ok hsz hk
theorem awake_call [Tabs prog] {h : Zh} : Xc prog 21 [] h (.bool true) := by
  refine ACall.forget (Low.bool _) ?_
  refine s21_callW (by simp) ?_
  simp only [s21]
  have bldB : ∀ {x y : Int} {K : Value → Prop}, Vn prog 92 [(0, Zd x), (1, Zd y)] K = K (.agg #[Zd x, Zd y]) := fun {x y K} => by
    simp [Vn, zero_92, fillL, pl_92_0, pl_92_1, Wy, cellsOf, Yg]
  have lit : ∀ {K : Value → Zh → Prop}, Yq prog h 30 1 [(0, .agg #[Zd 1, Zd 6])] K = K (.slice (some ⟨h.length, 0, none⟩) 1 1) (h ++ [.ints [1, 6] 92 false]) := fun {K} => by
    simp only [Yq, el_30, zero_92, esz_92, reps, fillL, mkb, Wy, cellsOf, List.length_cons, List.length_nil, Nat.zero_add, Nat.zero_mul, Yg]
    refine propext ⟨fun h => ?_, fun h => ⟨trivial, by decide, by decide, ?_⟩⟩
    · simpa [Xa] using h.2.2.2
    · simpa [Xa] using h
  have hp : PairSl (h ++ [.ints [1, 6] 92 false]) (.slice (some ⟨h.length, 0, none⟩) 1 1) [(1, 6)] := .inr ⟨h.length, 0, none, 1, [Zd 1, Zd 6], 92, false, rfl, Nat.le_refl _, by simp [view, Blk.view], fun i hi => by
    obtain rfl : i = 0 := by simpa using hi
    exact ⟨rfl, rfl⟩⟩
  have hv : Yx 2 [(1, 6)] = true := by decide
  refine Ze fun N5 hN5 => ?_
  simp (maxSteps := 2000000) only [↓Za, ↓Zb, ↓Zc, vup, aop, Zg, Zo, ev, sput, Zf]
  refine hN5 [(0, .bool false)] _ _ ?_ (by simp (maxSteps := 2000000) only [vup, cond_true, Nat.reduceBEq])
  clear hN5
  try clear N5
  refine Ze fun N6 hN6 => ?_
  simp (maxSteps := 2000000) only [↓Za, ↓Zb, ↓Zc, vup, List.map_cons, List.map_nil, cond_true, cond_false, aop, Zg, ev, sput, Zf, Nat.reduceBEq, bldB, lit, Yt, List.nil_append, List.append_nil]
  refine (sound_call (n := 2) hp (by decide) fun _ => tame_awake).mono ?_
  rintro r h1 ⟨hE1, x, e, rfl, hs⟩
  rw [SoundIs, if_pos hv, show (2 : Int).toNat = 2 from rfl, corners_awake] at hs
  simp only at hs
  obtain ⟨rfl, bl, rfl, hbl⟩ := hs
  have hE : Ext (fun _ => False) h h1 := (Ext.app _ _ _).trans hE1
  have px := pairSl_cells hbl
  have hlist : ([1 / 2, 1 / 2] : List Rat).map ofQ = [(1, 2), (1, 2)] := by decide +kernel
  rw [hlist] at px
  simp (maxSteps := 2000000) only [extr_20, extr_21, Nat.reduceAdd, List.length_cons, List.length_nil]
  refine hN6 [(0, .bool false), (1, .slice (some ⟨bl, 0, none⟩) 2 2), (2, .int .i64 0)] _ _ ?_ (by simp (maxSteps := 2000000) only [vup, cond_true, cond_false, Nat.reduceBEq])
  clear hN6
  try clear N6
  have lit2 : ∀ {K : Value → Zh → Prop}, Yq prog h1 47 2 [(0, .agg #[Zd 1, Zd 2]), (1, .agg #[Zd 1, Zd 2])] K = K (.slice (some ⟨h1.length, 0, none⟩) 2 2) (h1 ++ [.ints [1, 2, 1, 2] 26 false]) := fun {K} => by
    simp [Yq, el_47, zero_26, Vg, reps, fillL, mkb, Wy, cellsOf, Yg, Xa]
  have p2 : PairSl (h1 ++ [.ints [1, 2, 1, 2] 26 false]) (.slice (some ⟨h1.length, 0, none⟩) 2 2) [(1, 2), (1, 2)] := .inr ⟨h1.length, 0, none, 2, [Zd 1, Zd 2, Zd 1, Zd 2], 26, false, rfl, Nat.le_refl _, by simp [view, Blk.view], fun i hi => by
    have : i = 0 ∨ i = 1 := by simp at hi; omega
    rcases this with rfl | rfl <;> exact ⟨rfl, rfl⟩⟩
  have eq := equalF_call (px.ext (Ext.app _ _ _)) p2 (by decide)
  refine Zi ?_
  simp (maxSteps := 2000000) only [↓Za, ↓Zt, ↓Zy, ↓Zb, ↓Zc, ↓vdn, vup, List.map_cons, List.map_nil, cond_true, cond_false, aop, Zg, ev, sput, Zf, Yi, Yo, Nat.reduceBEq, Int.reduceBEq, Zv, Xw, tup, Yt, List.nil_append, List.append_nil, bldF, lit2]
  refine (eq).mono ?_
  rintro _ _ ⟨rfl, rfl⟩
  simp (maxSteps := 2000000) only [vup]
  exact hE.trans (Ext.app _ _ _)
end Go.Proofs.Try.Am

namespace Go.Proofs.Try.Am
open Go.Am Bq
set_option maxRecDepth 100000
set_option maxHeartbeats 4000000

/-- It sums to one, and has each bet's price. -/
def agB (l ps : List (Int × Int)) : Bool := decide (Zu (fq ps) ps.length = 1) && l.all fun b => decide (Zu (inEv (fq ps) b.1.toNat) ps.length = Rat.divInt b.2 12)

theorem s109_callW [Tabs Try.prog] {args : List Value} {h : Zh} {Q : Value → Zh → Prop} (hsz : args.length ≤ 12) (hk : AWS Try.prog 12 s109 (Zv Try.prog [.tmp 3] Q) (Zo 0 args) h) : ACall Try.prog 109 args h Q :=
  Yr Try.func109 rfl (enters_of Try.func109 (by kernel_rfl) rfl) rfl rfl (by decide) s109_strip s109_ok hsz hk
theorem agrees1_call [Tabs prog] {h : Zh} {bb e : Nat} {c : Int} {w : Value} {ps : List (Int × Int)} (hb : h[bb]? = some (.cells [w] 90 false)) (hw : PairSl h w ps) (hl : ps.length ≤ 100) (cn : Chn ps) (he : e < 9223372036854775808) (hc : 0 ≤ c ∧ c ≤ 12) :
    Xc prog 109 [.agg #[Zd (e : Nat), Zd c], .pointer (some ⟨bb, 0, none⟩)] h (.bool (decide (Zu (inEv (fq ps) e) ps.length = Rat.divInt c 12))) := by
  have hm := (mult_spec cn.m).2.2
  obtain ⟨H, hH⟩ : ∃ H, H = h ++ [bB (e : Int) c] := ⟨_, rfl⟩
  have hE : Ext (fun _ => False) h H := by rw [hH]; exact Ext.app _ _ _
  have c2 : H[h.length]? = some (bB (e : Int) c) := by rw [hH]; exact Zz _ _
  have c1 : H[bb]? = some (.cells [w] 90 false) := (hE.2 _ (Yl hb) id).trans hb
  have hwH := hw.ext hE
  have ofc := of_call (h := H) (evt := e) (N := Wb ps) hwH hl cn.vld he (Nat.pos_of_ne_zero cn.m) (by omega) (fun k hk => cn.unit hk)
  have fr := frac_call (h := H) (a := c) (b := 12) (by decide) (by omega) (by decide)
  obtain ⟨A, hA⟩ : ∃ A, Zu (inEv (fq ps) e) ps.length = A := ⟨_, rfl⟩
  obtain ⟨D, hD⟩ : ∃ D, Rat.divInt c 12 = D := ⟨_, rfl⟩
  rw [hA] at ofc ⊢
  rw [hD] at fr ⊢
  refine ACall.forget (Low.bool _) ?_
  refine s109_callW (by simp) ?_
  refine Zi ?_
  simp (maxSteps := 2000000) only [s109, ↓Za, ↓Zt, ↓Zb, ↓Zc, vup, cond_true, cond_false, aop, Zg, Zo, ev, sput, Zf, Nat.reduceBEq, Nat.reduceAdd, boxB, Yn]
  rw [← hH]
  simp only [q109_1]
  refine Xj [(3, 1), (6, 1)] (by kernel_rfl) (by kernel_rfl) (by kernel_rfl) (by kernel_rfl) ?_
  refine dops_cut 4 rfl fun N1 hN1 => ?_
  simp (maxSteps := 2000000) only [↓Yh, ↓vdn, vup, List.map_cons, List.map_nil, cond_true, cond_false, aop, ev, sput, Zf, Nat.reduceBEq, Nat.reduceAdd, List.take_succ_cons, List.take_zero, load1 c1 shp_90, bA0, loadB0 c2, Yt, List.nil_append, List.append_nil]
  refine ⟨_, _, ofc, rfl, ?_⟩
  refine hN1 _ _ ?_
  clear hN1 N1
  refine dops_cut 3 rfl fun N1 hN1 => ?_
  simp (maxSteps := 2000000) only [↓Yh, ↓vdn, vup, List.map_cons, List.map_nil, cond_true, cond_false, aop, ev, sput, Zf, Nat.reduceBEq, Nat.reduceAdd, List.drop_succ_cons, List.drop_zero, List.take_succ_cons, List.take_zero, bA1, loadB1 c2, Yt, List.nil_append, List.append_nil]
  refine ⟨_, _, fr, rfl, ?_⟩
  refine hN1 _ _ ?_
  clear hN1 N1
  simp (maxSteps := 2000000) only [↓Zy, ↓Yh, ↓vdn, vup, cond_true, cond_false, aop, Zg, ev, sput, Zf, Yi, Nat.reduceBEq, Nat.reduceAdd, Zv, Xw, tup, List.drop_succ_cons, List.drop_zero, qV, frV, Xa, Option.map_some, List.length_cons, List.length_nil, Nat.zero_add, eqF, qeq]
  exact hE

theorem loadBt {h : Zh} {b : Nat} {x y : Int} {K : Value → Prop} (hb : h[b]? = some (bB x y)) : Xu prog h 92 (.pointer (some ⟨b, 0, none⟩)) K = K (.agg #[Zd x, Zd y]) := loadA hb (by rw [shp_92]; rfl)
theorem s119_callW [Tabs Try.prog] {args : List Value} {h : Zh} {Q : Value → Zh → Prop} (hsz : args.length ≤ 8) (hk : AWS Try.prog 8 s119 (Zv Try.prog [.tmp 3] Q) (Zo 0 args) h) : ACall Try.prog 119 args h Q :=
  Yr Try.func119 rfl (enters_of Try.func119 (by kernel_rfl) rfl) rfl rfl (by decide) s119_strip s119_ok hsz hk
theorem notB_call [Tabs prog] {h : Zh} {b : Nat} {x y : Int} {g : FuncId} {cap : Array Value} {t : Bool} (hb : h[b]? = some (.cells [.func (.func g) #[] cap] 112 false))
    (hc : ∀ h', Ext (fun _ => False) h h' → Xc prog g ([.agg #[Zd x, Zd y]] ++ cap.toList) h' (.bool t)) : Xc prog 119 [.agg #[Zd x, Zd y], .pointer (some ⟨b, 0, none⟩)] h (.bool (!t)) := by
  refine ACall.forget (Low.bool _) ?_
  refine s119_callW (by simp) ?_
  refine Zi ?_
  simp (maxSteps := 2000000) only [s119, ↓Za, ↓Zt, ↓Zy, ↓Zb, ↓Zc, vup, List.map_cons, List.map_nil, cond_true, cond_false, aop, Zg, Zo, ev, sput, Zf, unK, Nat.reduceBEq, Nat.reduceAdd, Zv, Xw, tup, boxB, Yn, load1 (Xr hb _) shp_112, loadBt (Zz h _), Yt, List.nil_append]
  refine (show Xc prog g ([.agg #[Zd x, Zd y]] ++ cap.toList) (h ++ [bB x y]) (.bool t) from hc _ (Ext.app _ _ _)).mono ?_
  rintro _ _ ⟨rfl, rfl⟩
  simp (maxSteps := 2000000) only [vup]
  exact Ext.app _ _ _

theorem s108_callW [Tabs Try.prog] {args : List Value} {h : Zh} {Q : Value → Zh → Prop} (hsz : args.length ≤ 9) (hk : AWS Try.prog 9 s108 (Zv Try.prog [.tmp 4] Q) (Zo 0 args) h) : ACall Try.prog 108 args h Q :=
  Yr Try.func108 rfl (enters_of Try.func108 (by kernel_rfl) rfl) rfl rfl (by decide) s108_strip s108_ok hsz hk
theorem everyB_call [Tabs prog] {h : Zh} {v : Value} {ps : List (Int × Int)} {g : FuncId} {cap : Array Value} {f : Int × Int → Bool} (hv : PairSl h v ps) (hl : ps.length < 9223372036854775808)
    (hc : ∀ h', Ext (fun _ => False) h h' → ∀ p ∈ ps, Xc prog g ([.agg #[Zd p.1, Zd p.2]] ++ cap.toList) h' (.bool (f p))) : Xc prog 108 [v, .func (.func g) #[] cap] h (.bool (ps.all f)) := by
  obtain ⟨H, hH⟩ : ∃ H, H = h ++ [Blk.cells [.func (.func g) #[] cap] 112 false] := ⟨_, rfl⟩
  have hE : Ext (fun _ => False) h H := by rw [hH]; exact Ext.app _ _ _
  have c0 : H[h.length]? = some (Blk.cells [.func (.func g) #[] cap] 112 false) := by rw [hH]; exact Zz _ _
  have key := hasB_call (h := H) (g := 119) (cap := #[.pointer (some ⟨h.length, 0, none⟩)]) (f := fun p => !f p) (hv.ext hE) hl (fun h' hx p hp => notB_call ((hx.2 _ (Yl c0) id).trans c0) fun h2 hx2 => hc h2 (hE.trans (hx.trans hx2)) p hp)
  refine ACall.forget (Low.bool _) ?_
  refine s108_callW (by simp) ?_
  refine Zi ?_
  have hbx : ∀ {K : Value → Zh → Prop}, boxK prog h 112 (.func (.func g) #[] cap) K = K (Yn h) H := fun {K} => by
    rw [hH]; simp [boxK, esz_112, Yn, cellsOf]
  simp (maxSteps := 2000000) only [s108, ↓Za, ↓Zt, ↓Zy, ↓Zb, ↓Zc, vup, List.map_cons, List.map_nil, cond_true, cond_false, aop, Zg, Zo, ev, sput, Zf, unK, Nat.reduceBEq, Nat.reduceAdd, Zv, Xw, tup, Yt, List.nil_append, List.append_nil, hbx, Yn, List.map_toArray]
  refine (key).mono ?_
  rintro _ H ⟨rfl, rfl⟩
  simp (maxSteps := 2000000) only [vup, any_not]
  exact hE

theorem boxS [Tabs prog] {h : Zh} {v : Value} {xs : List (Int × Int)} (hv : PairSl h v xs) {K : Value → Zh → Prop} : boxK prog h 90 v K = K (Yn h) (h ++ [.cells [v] 90 false]) := by
  rcases hv with ⟨rfl, rfl⟩ | ⟨b, o, sp, cap, c, e, ro, rfl, _⟩ <;> simp [boxK, esz_90, Yn, cellsOf]

theorem s76_callW [Tabs Try.prog] {args : List Value} {h : Zh} {Q : Value → Zh → Prop} (hsz : args.length ≤ 17) (hk : AWS Try.prog 17 s76 (Zv Try.prog [.tmp 4] Q) (Zo 0 args) h) : ACall Try.prog 76 args h Q :=
  Yr Try.func76 rfl (enters_of Try.func76 (by kernel_rfl) rfl) rfl rfl (by decide) s76_strip s76_ok hsz hk
theorem agrees_call [Tabs prog] {h : Zh} {n : Nat} {v w : Value} {l ps : List (Int × Int)} (hv : PairSl h v l) (hw : PairSl h w ps) (hval : Yx n l = true) (hpl : ps.length = n) (cn : Chn ps) :
    Xc prog 76 [.agg #[Zd (n : Nat), v], w] h (.bool (agB l ps)) := by
  obtain ⟨hn2, hn5, hl1, hl6, hok⟩ := Vh hval
  have hm := (mult_spec cn.m).2.2
  obtain ⟨H1, hH1⟩ : ∃ H, H = h ++ [Blk.cells [Zd (n : Nat), v] 86 false] := ⟨_, rfl⟩
  have hE1 : Ext (fun _ => False) h H1 := by rw [hH1]; exact Ext.app _ _ _
  have hw1 := hw.ext hE1
  obtain ⟨H, hH⟩ : ∃ H, H = H1 ++ [Blk.cells [w] 90 false] := ⟨_, rfl⟩
  have hE2 : Ext (fun _ => False) H1 H := by rw [hH]; exact Ext.app _ _ _
  have hE := hE1.trans hE2
  have b3 : H[H1.length]? = some (.cells [w] 90 false) := by rw [hH]; exact Zz _ _
  have b2 : H[h.length]? = some (.cells [Zd (n : Nat), v] 86 false) := by rw [hH, hH1]; exact Xr (Zz _ _) _
  have hvH := hv.ext hE
  have hwH := hw.ext hE
  have hl1' : H1.length = h.length + 1 := by rw [hH1]; simp
  refine ACall.forget (Low.bool _) ?_
  refine s76_callW (by simp) ?_
  simp only [s76]
  refine Ze fun N1 hN1 => ?_
  simp (maxSteps := 2000000) only [↓Za, ↓Zb, ↓Zc, vup, cond_true, cond_false, aop, Zg, Zo, ev, sput, Zf, Nat.reduceBEq, Nat.reduceAdd, boxT, Yn]
  rw [← hH1]
  simp (maxSteps := 2000000) only [boxS hw1, Yn]
  rw [← hH]
  refine hN1 [(2, .pointer (some ⟨h.length, 0, none⟩)), (3, .pointer (some ⟨H1.length, 0, none⟩)), (4, .bool false)] _ _ ?_ (by simp (maxSteps := 2000000) only [vup, cond_true, cond_false, Nat.reduceBEq])
  clear hN1
  try clear N1
  have ofc := of_call (h := H) (evt := 2 ^ n - 1) (N := Wb ps) hwH (by omega) cn.vld (by have := pow_le (show n ≤ 62 by omega); omega) (Nat.pos_of_ne_zero cn.m) (by omega) (fun k hk => cn.unit hk)
  rw [hpl, inEv_all] at ofc
  have wc : Xc prog 70 [Zd 1] H (qV ((1 : Int) : Rat)) := whole_call
  have hag : agB l ps = (decide (Zu (fq ps) n = ((1 : Int) : Rat)) && l.all fun b => decide (Zu (inEv (fq ps) b.1.toNat) n = Rat.divInt b.2 12)) := by rw [agB, hpl]; rfl
  rw [hag]
  obtain ⟨A, hA⟩ : ∃ A, Zu (fq ps) n = A := ⟨_, rfl⟩
  obtain ⟨one, hone⟩ : ∃ A : Rat, ((1 : Int) : Rat) = A := ⟨_, rfl⟩
  rw [hA] at ofc
  rw [hone] at wc
  rw [hA, hone]
  have ne : ([A.num, (A.den : Int)] != [one.num, (one.den : Int)]) = !decide (A = one) := by rw [bne, qeq]
  have hev := everyB_call (h := H) (g := 109) (cap := #[.pointer (some ⟨H1.length, 0, none⟩)]) (f := fun b => decide (Zu (inEv (fq ps) b.1.toNat) n = Rat.divInt b.2 12)) hvH (by omega) (fun h' hx p hp => by
    obtain ⟨i, hi, hip⟩ := List.getElem_of_mem hp
    have hb := hok i hi
    have hgi : l.getD i (0, 0) = p := by rw [List.getD, List.getElem?_eq_getElem hi]; exact hip
    rw [hgi] at hb
    simp only [okB, Bool.and_eq_true, decide_eq_true_eq] at hb
    obtain ⟨x, y⟩ := p
    simp only at hb ⊢
    obtain ⟨e, he⟩ : ∃ e : Nat, x = e := ⟨x.toNat, by omega⟩
    subst he
    have hee : e < 2 ^ n := by
      have := hb.2.1
      exact_mod_cast this
    have := pow_le (show n ≤ 62 by omega)
    have key := agrees1_call (h := h') (e := e) (c := y) ((hx.2 _ (Yl b3) id).trans b3) (hwH.ext hx) (by omega) cn (by omega) hb.2.2
    rw [hpl] at key
    exact key)
  refine Zn fun M hM => ?_
  refine Ze fun N2 hN2 => ?_
  simp only [q76_1]
  refine Xj [(5, 1), (6, 1)] (by kernel_rfl) (by kernel_rfl) (by kernel_rfl) (by kernel_rfl) ?_
  refine dops_cut 6 rfl fun N1 hN1 => ?_
  simp (maxSteps := 2000000) only [↓Yh, ↓vdn, vup, List.map_cons, List.map_nil, cond_true, cond_false, aop, ev, sput, Zf, Yi, Yo, Nat.reduceBEq, Nat.reduceAdd, tyf, List.take_succ_cons, List.take_zero, load1 b3 shp_90, tA0, Vw b2, shl1 (show n ≤ 62 by omega), all_worlds (show n ≤ 62 by omega), Int.natCast_nonneg, Yt, List.nil_append, List.append_nil]
  refine ⟨_, _, ofc, rfl, ?_⟩
  refine hN1 _ _ ?_
  clear hN1 N1
  refine dops_cut 1 rfl fun N1 hN1 => ?_
  simp (maxSteps := 2000000) only [↓Yh, ↓vdn, vup, List.map_cons, List.map_nil, cond_true, cond_false, ev, sput, Zf, Nat.reduceBEq, Nat.reduceAdd, List.drop_succ_cons, List.drop_zero, List.take_succ_cons, List.take_zero, Yt, List.nil_append, List.append_nil]
  refine ⟨_, _, wc, rfl, ?_⟩
  refine hN1 _ _ ?_
  clear hN1 N1
  simp (maxSteps := 2000000) only [↓Yh, ↓vdn, vup, cond_true, cond_false, aop, Zg, ev, sput, Zf, Yi, Nat.reduceBEq, Nat.reduceAdd, List.drop_succ_cons, List.drop_zero, qV, frV, Xa, Option.map_some, List.length_cons, List.length_nil, Nat.zero_add, eqF, ne]
  refine hN2 [(2, .pointer (some ⟨h.length, 0, none⟩)), (3, .pointer (some ⟨H1.length, 0, none⟩)), (4, .bool false), (12, .bool (!decide (A = one)))] _ _ ?_ (by simp (maxSteps := 2000000) only [vup, cond_true, cond_false, Nat.reduceBEq])
  clear hN2
  try clear N2
  by_cases h1 : A = one
  · have hd : decide (A = one) = true := decide_eq_true h1
    rw [hd]
    refine Xi rfl ?_
    refine Zi ?_
    simp (maxSteps := 2000000) only [↓Zw, vup, Zg]
    refine hM [(2, .pointer (some ⟨h.length, 0, none⟩)), (3, .pointer (some ⟨H1.length, 0, none⟩)), (4, .bool false)] _ _ ?_ (by simp (maxSteps := 2000000) only [vup, cond_true, cond_false, Nat.reduceBEq])
    clear hM
    try clear M
    refine Zi ?_
    simp (maxSteps := 2000000) only [↓Za, ↓Zt, ↓Zy, ↓Zb, ↓Zc, vup, List.map_cons, List.map_nil, cond_true, cond_false, aop, Zg, ev, sput, Zf, Nat.reduceBEq, Zv, Xw, tup, Yt, List.nil_append, List.append_nil, tA1, loadT1 b2, List.map_toArray]
    refine (hev).mono ?_
    rintro _ H ⟨rfl, rfl⟩
    simp (maxSteps := 2000000) only [vup, hd, Bool.true_and]
    exact hE
  · have hd : decide (A = one) = false := decide_eq_false h1
    rw [hd]
    refine Wd rfl ?_
    refine Zi ?_
    simp (maxSteps := 2000000) only [↓Za, ↓Zt, ↓Zy, ↓Zb, ↓Zc, vup, cond_true, cond_false, aop, Zg, ev, sput, Zf, Nat.reduceBEq, Zv, Xw, tup, Bool.false_and]
    exact hE

theorem s37_callW [Tabs Try.prog] {args : List Value} {h : Zh} {Q : Value → Zh → Prop} (hsz : args.length ≤ 29) (hk : AWS Try.prog 29 s37 (Zv Try.prog [.tmp 6, .tmp 7] Q) (Zo 0 args) h) : ACall Try.prog 37 args h Q :=
  Yr Try.func37 rfl (enters_of Try.func37 (by kernel_rfl) rfl) rfl rfl (by decide) s37_strip s37_ok hsz hk
theorem progAgrees_call [Tabs prog] {h : Zh} {n : Int} {v w : Value} {l ps : List (Int × Int)} (hv : PairSl h v l) (hl : l.length < 9223372036854775808) (hw : PairSl h w ps) (hlp : ps.length < 9223372036854775808) (hx : InR ps) :
    ACall prog 37 [Zd n, v, w] h fun r h' => Ext (fun _ => False) h h' ∧ r = if Yx n l = true ∧ Wk n ps = true then .tuple #[.bool (agB l ps), .int .i64 0] else .tuple #[.bool false, .int .i64 2] := by
  obtain ⟨p, m, c, rfl⟩ := pairSl_shape hv
  obtain ⟨H, hH⟩ : ∃ H, H = h ++ [Blk.cells [Zd n, .slice p m c] 86 false] := ⟨_, rfl⟩
  have hE : Ext (fun _ => False) h H := by rw [hH]; exact Ext.app _ _ _
  have b8 : H[h.length]? = some (.cells [Zd n, .slice p m c] 86 false) := by rw [hH]; exact Zz _ _
  have hvH := hv.ext hE
  have hwH := hw.ext hE
  refine s37_callW (by simp) ?_
  simp only [s37]
  refine Ze fun N3 hN3 => ?_
  simp (maxSteps := 2000000) only [↓Za, ↓Zb, ↓Zc, vup, cond_false, aop, Zg, Zo, ev, sput, Zf, Nat.reduceBEq, Nat.reduceAdd]
  refine hN3 [(0, Zd n), (1, .slice p m c), (2, w), (6, .bool false), (7, .int .i64 0)] _ _ ?_ (by simp (maxSteps := 2000000) only [vup, cond_true, cond_false, Nat.reduceBEq])
  clear hN3
  try clear N3
  refine Ze fun N4 hN4 => ?_
  simp (maxSteps := 2000000) only [↓Za, ↓Zb, ↓Zc, vup, List.map_cons, List.map_nil, cond_true, cond_false, aop, Zg, ev, sput, Zf, Nat.reduceBEq, tyf, bldT, Xl, Yn, storeT (Zz h (.cells [.int .i64 0, .slice none 0 0] 86 false)) rfl, Xy]
  rw [← hH]
  refine hN4 [(0, Zd n), (2, w), (6, .bool false), (7, .int .i64 0), (8, .pointer (some ⟨h.length, 0, none⟩))] _ _ ?_ (by simp (maxSteps := 2000000) only [vup, cond_true, cond_false, Nat.reduceBEq])
  clear hN4
  try clear N4
  refine Zn fun M hM => ?_
  refine Ze fun N5 hN5 => ?_
  have bad : ¬ (Yx n l = true ∧ Wk n ps = true) → ∀ e, ELe e [(0, Zd n), (2, w), (6, .bool false), (7, .int .i64 0), (8, .pointer (some ⟨h.length, 0, none⟩)), (25, .bool true)] → N5 e H := by
    intro hb e he
    refine hN5 _ _ _ ?_ he
    refine Wd rfl ?_
    refine Zi ?_
    simp (maxSteps := 2000000) only [↓Za, ↓Zt, ↓Zy, ↓Zb, ↓Zc, vup, cond_true, cond_false, aop, Zg, ev, sput, Zf, Nat.reduceBEq, Zv, Xw, tup]
    exact ⟨hE, by rw [if_neg hb]⟩
  simp (maxSteps := 2000000) only [↓Za, ↓Zc, vup, List.map_cons, List.map_nil, cond_true, cond_false, aop, ev, sput, Zf, unK, Nat.reduceBEq, Yt, List.nil_append, List.append_nil, loadT b8]
  refine (valid_call hvH hl).mono ?_
  rintro _ H ⟨rfl, rfl⟩
  cases hval : Yx n l with
  | false =>
    simp (maxSteps := 2000000) only [↓Zb, ↓Zc, ↓vdn, vup, cond_true, cond_false, aop, Zg, ev, sput, Zf, Nat.reduceBEq]
    exact bad (by rw [hval]; simp) _ (by simp (maxSteps := 2000000) only [vup, cond_true, cond_false, Nat.reduceBEq])
  | true =>
    by_cases hlen : (ps.length : Int) = n
    · have hne : (((ps.length : Nat) : Int) != n) = false := by simp [hlen]
      simp (maxSteps := 2000000) only [↓Zb, ↓Zc, ↓vdn, vup, List.map_cons, List.map_nil, cond_true, cond_false, aop, Zg, ev, sput, Zf, Yi, Yo, unK, Zl, Nat.reduceBEq, tyf, hwH.len, hne, Yt, List.nil_append, List.append_nil]
      refine (common_call hwH hlp hx).mono ?_
      rintro _ H ⟨rfl, rfl⟩
      have hch : Wk n ps = (decide (Wb ps ≠ 0) && ps.all fun p => decide (p.1 ≤ p.2)) := by rw [Wk, decide_eq_true hlen, Bool.true_and]
      rw [← hch]
      cases hc : Wk n ps with
      | false =>
        simp (maxSteps := 2000000) only [vup]
        exact bad (by rw [hc]; simp) _ (by simp (maxSteps := 2000000) only [vup, cond_true, cond_false, Nat.reduceBEq])
      | true =>
        simp (maxSteps := 2000000) only [vup]
        refine hN5 [(0, Zd n), (2, w), (6, .bool false), (7, .int .i64 0), (8, .pointer (some ⟨h.length, 0, none⟩)), (25, .bool false)] _ _ ?_ (by simp (maxSteps := 2000000) only [vup, cond_true, cond_false, Nat.reduceBEq])
        clear hN5
        try clear N5
        refine Xi rfl ?_
        refine Zi ?_
        simp (maxSteps := 2000000) only [↓Zw, Zg]
        refine hM [(0, Zd n), (2, w), (6, .bool false), (7, .int .i64 0), (8, .pointer (some ⟨h.length, 0, none⟩))] _ _ ?_ (by simp (maxSteps := 2000000) only [vup, cond_true, cond_false, Nat.reduceBEq])
        clear hM
        try clear M
        obtain ⟨cn, _⟩ := chances_chn hc
        obtain ⟨k, rfl⟩ : ∃ k : Nat, n = k := ⟨n.toNat, by omega⟩
        refine Zi ?_
        simp (maxSteps := 2000000) only [↓Za, ↓Zt, ↓Zy, ↓Zb, ↓Zc, vup, List.map_cons, List.map_nil, cond_true, cond_false, aop, Zg, ev, sput, Zf, Nat.reduceBEq, Zv, Xw, tup, Yt, List.nil_append, List.append_nil, loadT b8]
        refine (agrees_call hvH hwH hval (by omega) cn).mono ?_
        rintro _ H ⟨rfl, rfl⟩
        simp (maxSteps := 2000000) only [vup, if_pos (And.intro hval hc)]
        exact hE
    · have hne : (((ps.length : Nat) : Int) != n) = true := by simpa [bne] using hlen
      simp (maxSteps := 2000000) only [↓Zb, ↓Zc, ↓vdn, vup, List.map_cons, List.map_nil, cond_true, cond_false, aop, Zg, ev, sput, Zf, Yi, Yo, unK, Zl, Nat.reduceBEq, tyf, hwH.len, hne]
      exact bad (by rw [Wk, decide_eq_false hlen, Bool.false_and]; simp) _ (by simp (maxSteps := 2000000) only [vup, cond_true, cond_false, Nat.reduceBEq])

end Go.Proofs.Try.Am

namespace Go.Proofs.Try.Am
open Go.Am Bq
set_option maxRecDepth 100000
set_option maxHeartbeats 1000000

end Go.Proofs.Try.Am

namespace Go.Proofs.Try.Am
open Go.Am Bq
set_option maxRecDepth 100000
set_option maxHeartbeats 1000000

end Go.Proofs.Try.Am

namespace Go.Proofs.Try.Am
open Go.Am Bq
set_option maxRecDepth 100000
set_option maxHeartbeats 1000000

end Go.Proofs.Try.Am

namespace Bq

/-- A row left out. -/
def skp (i r : Nat) : Nat := if r < i then r else r + 1
def sgn : Nat → Rat
  | 0 => 1
  | n + 1 => - sgn n
/-- Columns, rows in them. -/
def det : Nat → (Nat → Nat → Rat) → Rat
  | 0, _ => 1
  | n + 1, M => Zu (fun i => sgn i * M 0 i * det n (fun c r => M (c + 1) (skp i r))) (n + 1)

theorem skp_lt {i r n : Nat} (h : r < n) : skp i r < n + 1 := by rw [skp]; split <;> omega
theorem Vb : ∀ (n : Nat) {M N : Nat → Nat → Rat}, (∀ c r, c < n → r < n → M c r = N c r) → det n M = det n N
  | 0, _, _, _ => rfl
  | n + 1, M, N, h => by
    rw [det, det]
    refine Zk fun i hi => ?_
    rw [h 0 i (by omega) hi, Vb n fun c r hc hr => h (c + 1) (skp i r) (by omega) (skp_lt hr)]
/-- The first column as a sum. -/
theorem det_lin {n : Nat} {M : Nat → Nat → Rat} (a b : Nat → Rat) (s : Rat) (h : ∀ r, r < n + 1 → M 0 r = a r + s * b r) :
    det (n + 1) M = det (n + 1) (fun c => if c = 0 then a else M c) + s * det (n + 1) (fun c => if c = 0 then b else M c) := by
  simp only [det, if_true]
  rw [← Xp, ← Wv]
  refine Zk fun i hi => ?_
  simp only [show ∀ c, (c + 1 = 0) = False from fun c => by simp, if_false]
  rw [h i hi]; grind
theorem Ve {g : Nat → Rat} {n : Nat} (h : ∀ i, i < n → g i = 0) : Zu g n = 0 := by
  induction n with
  | zero => rfl
  | succ n ih => rw [Zu, ih fun i hi => h i (by omega), h n (by omega)]; exact Rat.zero_add _
theorem det_zero {n : Nat} {M : Nat → Nat → Rat} (h : ∀ r, r < n + 1 → M 0 r = 0) : det (n + 1) M = 0 := by
  rw [det]
  refine Ve fun i hi => ?_
  rw [h i hi]; grind
theorem sgn_sq (a : Nat) : sgn a * sgn a = 1 := by
  induction a with
  | zero => rw [sgn, Rat.mul_one]
  | succ a ih => rw [sgn]; grind
/-- All pairs of different ones, two by two. -/
theorem sum_pairs (t : Nat → Nat → Rat) : ∀ N, Zu (fun i => Zu (fun j => t i j) N) (N + 1) = Zu (fun i => Zu (fun j => t i j + t j (i - 1)) i) (N + 1)
  | 0 => rfl
  | N + 1 => by
    have ih := sum_pairs t N
    rw [Zu]
    have e : Zu (fun i => Zu (fun j => t i j) (N + 1)) (N + 1) = Zu (fun i => Zu (fun j => t i j) N + t i N) (N + 1) := Zk fun i hi => rfl
    rw [e, Wv, ih]
    conv => rhs; rw [Zu]
    rw [Wv (fun j => t (N + 1) j) (fun j => t j (N + 1 - 1)) (N + 1), show N + 1 - 1 = N from rfl]
    grind
theorem skp_skp {i j r : Nat} (h : j < i) : skp i (skp j r) = skp j (skp (i - 1) r) := by
  simp only [skp]
  by_cases h1 : r < j
  · simp [h1, show r < i by omega, show r < i - 1 by omega]
  · by_cases h2 : r < i - 1
    · simp [h1, h2, show r + 1 < i by omega]
    · simp [h1, h2, show ¬ r + 1 < i by omega, show ¬ r + 1 < j by omega]
def swp (a : Nat) (c : Nat) : Nat := if c = a then a + 1 else if c = a + 1 then a else c
theorem det_two (n : Nat) (M : Nat → Nat → Rat) : det (n + 2) M = Zu (fun i => Zu (fun j => sgn i * sgn j * (M 0 i * M 1 j - M 0 j * M 1 i) * det n (fun c r => M (c + 2) (skp i (skp j r)))) i) (n + 2) := by
  have e1 : det (n + 2) M = Zu (fun i => Zu (fun j => sgn i * M 0 i * (sgn j * M 1 (skp i j) * det n (fun c r => M (c + 2) (skp i (skp j r))))) (n + 1)) (n + 2) := by
    rw [det]
    refine Zk fun i hi => ?_
    rw [det, Xp]
  rw [e1, sum_pairs]
  refine Zk fun i hi => Zk fun j hj => ?_
  have h1 : skp i j = j := by rw [skp, if_pos hj]
  have h2 : skp j (i - 1) = i := by rw [skp, if_neg (by omega)]; omega
  have h3 : det n (fun c r => M (c + 2) (skp j (skp (i - 1) r))) = det n (fun c r => M (c + 2) (skp i (skp j r))) := Vb n fun c r hc hr => by rw [skp_skp hj]
  have h4 : sgn i = - sgn (i - 1) := by
    obtain ⟨i, rfl⟩ : ∃ k, i = k + 1 := ⟨i - 1, by omega⟩
    rfl
  rw [h1, h2, h3, h4]; grind
theorem det_swp : ∀ (a n : Nat) (M : Nat → Nat → Rat), a + 1 < n → det n (fun c => M (swp a c)) = - det n M
  | 0, n, M, h => by
    obtain ⟨n, rfl⟩ : ∃ k, n = k + 2 := ⟨n - 2, by omega⟩
    rw [det_two, det_two]
    have e : - Zu (fun i => Zu (fun j => sgn i * sgn j * (M 0 i * M 1 j - M 0 j * M 1 i) * det n (fun c r => M (c + 2) (skp i (skp j r)))) i) (n + 2) = Zu (fun i => Zu (fun j => sgn i * sgn j * (M 1 i * M 0 j - M 1 j * M 0 i) * det n (fun c r => M (c + 2) (skp i (skp j r)))) i) (n + 2) := by
      have := Xp (-1) (fun i => Zu (fun j => sgn i * sgn j * (M 0 i * M 1 j - M 0 j * M 1 i) * det n (fun c r => M (c + 2) (skp i (skp j r)))) i) (n + 2)
      rw [show ∀ x : Rat, -x = -1 * x from fun x => by grind, ← this]
      refine Zk fun i hi => ?_
      rw [← Xp]
      refine Zk fun j hj => ?_
      grind
    rw [e]
    refine Zk fun i hi => Zk fun j hj => ?_
    have e0 : swp 0 0 = 1 := rfl
    have e1 : swp 0 1 = 0 := rfl
    have e2 : ∀ c, swp 0 (c + 2) = c + 2 := fun c => by simp [swp]
    simp only [e0, e1, e2]
  | a + 1, n, M, h => by
    obtain ⟨n, rfl⟩ : ∃ k, n = k + 1 := ⟨n - 1, by omega⟩
    rw [det, det]
    have := Xp (-1) (fun i => sgn i * M 0 i * det n (fun c r => M (c + 1) (skp i r))) (n + 1)
    rw [show ∀ x : Rat, -x = -1 * x from fun x => by grind, ← this]
    refine Zk fun i hi => ?_
    have e0 : swp (a + 1) 0 = 0 := by simp [swp]
    have e1 : ∀ c, swp (a + 1) (c + 1) = swp a c + 1 := fun c => by
      simp only [swp]
      by_cases h1 : c = a
      · simp [h1]
      · by_cases h2 : c = a + 1
        · simp [h2]
        · simp [h1, h2]
    have ih := det_swp a n (fun c r => M (c + 1) (skp i r)) (by omega)
    simp only [e0, e1]
    rw [ih]; grind
/-- Two columns alike. -/
theorem det_same : ∀ (n t : Nat) (M : Nat → Nat → Rat), t + 1 < n → (∀ r, r < n → M 0 r = M (t + 1) r) → det n M = 0
  | 0, t, M, h, _ => by omega
  | n + 1, 0, M, h, he => by
    have h1 := det_swp 0 (n + 1) M h
    have h2 : det (n + 1) (fun c => M (swp 0 c)) = det (n + 1) M := Vb _ fun c r hc hr => by
      simp only [swp]
      by_cases h3 : c = 0
      · subst h3; simp only [if_true]; exact (he r hr).symm
      · by_cases h4 : c = 0 + 1
        · subst h4; simp only [show ¬ (0 + 1 = 0) by omega, if_false, if_true]; exact he r hr
        · simp only [h3, h4, if_false]
    rw [h2] at h1
    grind
  | n + 1, t + 1, M, h, he => by
    have h1 := det_swp 0 (n + 1) M (by omega)
    have h2 : det (n + 1) (fun c => M (swp 0 c)) = 0 := by
      rw [det]
      refine Ve fun i hi => ?_
      have h0 : det n (fun c r => M (swp 0 (c + 1)) (skp i r)) = 0 := by
        refine det_same n t _ (by omega) fun r hr => ?_
        have e1 : swp 0 (0 + 1) = 0 := rfl
        have e2 : swp 0 (t + 1 + 1) = t + 1 + 1 := by simp [swp]
        simp only [e1, e2]
        exact he _ (skp_lt hr)
      rw [h0]; grind
    rw [h2] at h1
    grind
/-- One number below a column's head alone. -/
theorem det_last {n : Nat} {M : Nat → Nat → Rat} (h : ∀ r, r < n → M 0 r = 0) : det (n + 1) M = sgn n * M 0 n * det n (fun c r => M (c + 1) r) := by
  rw [det, Zu, Ve fun i hi => by rw [h i hi]; grind, Rat.zero_add]
  rw [Vb n fun c r hc hr => by rw [skp, if_pos hr]]
/-- A column brought to the head. -/
def bring (t c : Nat) : Nat := if c = 0 then t else if c ≤ t then c - 1 else c
theorem det_bring : ∀ (t n : Nat) (M : Nat → Nat → Rat), t < n → det n (fun c => M (bring t c)) = sgn t * det n M
  | 0, n, M, h => by
    rw [sgn, Rat.one_mul]
    refine Vb n fun c r hc hr => ?_
    have : bring 0 c = c := by simp only [bring]; split <;> (try split) <;> omega
    rw [this]
  | t + 1, n, M, h => by
    have h1 := det_bring t n (fun c => M (swp t c)) (by omega)
    have h2 := det_swp t n M h
    rw [h2] at h1
    have h3 : det n (fun c => M (bring (t + 1) c)) = det n (fun c => M (swp t (bring t c))) := Vb n fun c r hc hr => by
      have : bring (t + 1) c = swp t (bring t c) := by
        simp only [bring, swp]
        by_cases h0 : c = 0
        · simp [h0]
        · by_cases h4 : c ≤ t
          · simp [h0, h4, show c ≤ t + 1 by omega, show c - 1 ≠ t by omega, show c - 1 ≠ t + 1 by omega]
          · by_cases h5 : c = t + 1
            · simp [h5]
            · simp [h0, h4, show ¬ c ≤ t + 1 by omega, show c ≠ t by omega, h5]
      rw [this]
    rw [h3, h1, sgn]; grind

/-! Sizes. -/
def Zq (b : Nat) (q : Rat) : Prop := ∃ z : Int, q = (z : Rat) ∧ z.natAbs ≤ b
theorem Zq.add {a b : Nat} {p q : Rat} (h1 : Zq a p) (h2 : Zq b q) : Zq (a + b) (p + q) := by
  obtain ⟨x, rfl, hx⟩ := h1
  obtain ⟨y, rfl, hy⟩ := h2
  exact ⟨x + y, (Rat.intCast_add x y).symm, by omega⟩
theorem Zq.mul {a b : Nat} {p q : Rat} (h1 : Zq a p) (h2 : Zq b q) : Zq (a * b) (p * q) := by
  obtain ⟨x, rfl, hx⟩ := h1
  obtain ⟨y, rfl, hy⟩ := h2
  exact ⟨x * y, (Rat.intCast_mul x y).symm, by rw [Int.natAbs_mul]; exact Nat.mul_le_mul hx hy⟩
theorem Zq.mono {a b : Nat} {p : Rat} (h : Zq a p) (hab : a ≤ b) : Zq b p := by
  obtain ⟨x, e, hx⟩ := h
  exact ⟨x, e, by omega⟩
theorem Zq.zero (b : Nat) : Zq b 0 := ⟨0, rfl, by simp⟩
theorem Zq.sgn (i : Nat) : Zq 1 (sgn i) := by
  induction i with
  | zero => exact ⟨1, rfl, by decide⟩
  | succ i ih =>
    obtain ⟨x, e, hx⟩ := ih
    refine ⟨-x, ?_, by omega⟩
    rw [Bq.sgn, e, Rat.intCast_neg]
theorem Zq.sum {b : Nat} {g : Nat → Rat} {n : Nat} (h : ∀ i, i < n → Zq b (g i)) : Zq (n * b) (Zu g n) := by
  induction n with
  | zero => exact Zq.zero _
  | succ n ih =>
    rw [Nat.succ_mul]
    exact (ih fun i hi => h i (by omega)).add (h n (by omega))
/-- Bounds of determinants from those of their columns. -/
theorem det_Zq {b0 F : Nat} {n : Nat} {M : Nat → Nat → Rat} (h0 : ∀ r, r < n + 1 → Zq b0 (M 0 r)) (hF : ∀ i, i < n + 1 → Zq F (det n (fun c r => M (c + 1) (skp i r)))) : Zq ((n + 1) * (b0 * F)) (det (n + 1) M) := by
  rw [det]
  refine Zq.sum fun i hi => ?_
  have := ((Zq.sgn i).mul (h0 i hi)).mul (hF i hi)
  rwa [Nat.one_mul] at this
/-- Of noughts and ones. -/
def fac01 : Nat → Nat
  | 0 => 1
  | 1 => 1
  | 2 => 1
  | n + 3 => (n + 3) * fac01 (n + 2)
def is01 (q : Rat) : Prop := q = 0 ∨ q = 1
theorem is01.zq {q : Rat} (h : is01 q) : Zq 1 q := by
  rcases h with rfl | rfl
  · exact ⟨0, rfl, by decide⟩
  · exact ⟨1, rfl, by decide⟩
theorem det_01 : ∀ (n : Nat) {M : Nat → Nat → Rat}, (∀ c r, c < n → r < n → is01 (M c r)) → Zq (fac01 n) (det n M)
  | 0, M, _ => ⟨1, rfl, by decide⟩
  | 1, M, h => by
    have : det 1 M = M 0 0 := by
      simp only [det, Zu, sgn]; grind
    rw [this]
    exact (h 0 0 (by omega) (by omega)).zq
  | 2, M, h => by
    have e : det 2 M = M 0 0 * M 1 1 - M 0 1 * M 1 0 := by
      simp only [det, Zu, sgn, skp]; simp only [show ¬ (0 < 0) by omega, show 0 < 1 by omega, if_true, if_false]; grind
    rw [e, fac01]
    rcases h 0 0 (by omega) (by omega) with h1 | h1 <;> rcases h 0 1 (by omega) (by omega) with h2 | h2 <;> rcases h 1 0 (by omega) (by omega) with h3 | h3 <;> rcases h 1 1 (by omega) (by omega) with h4 | h4 <;> rw [h1, h2, h3, h4]
    all_goals first
      | exact ⟨0, by decide +kernel, by decide⟩
      | exact ⟨1, by decide +kernel, by decide⟩
      | exact ⟨-1, by decide +kernel, by decide⟩
  | n + 3, M, h => by
    have := det_Zq (b0 := 1) (F := fac01 (n + 2)) (n := n + 2) (M := M) (fun r hr => (h 0 r (by omega) hr).zq) fun i hi => det_01 (n + 2) fun c r hc hr => h (c + 1) (skp i r) (by omega) (skp_lt hr)
    rw [Nat.one_mul] at this
    exact this
end Bq

namespace Bq

/-! Sums. -/
theorem sumTo_pick {n t : Nat} (g : Nat → Rat) (h : t < n) : Zu (fun c => if c = t then g c else 0) n = g t := by
  induction n with
  | zero => omega
  | succ n ih =>
    rw [Zu]
    by_cases h1 : t = n
    · subst h1
      rw [Ve fun i hi => by rw [if_neg (by omega)], if_pos rfl, Rat.zero_add]
    · rw [ih (by omega), if_neg (by omega), Rat.add_zero]
/-- A column that is others together. -/
theorem det_comb {n : Nat} (a : Nat → Nat → Rat) (s : Nat → Rat) (e : Nat → Rat) : ∀ (J : Nat) {M : Nat → Nat → Rat}, (∀ r, r < n + 1 → M 0 r = Zu (fun t => s t * a t r) J + e r) →
    (∀ t, t < J → s t = 0 ∨ det (n + 1) (fun c => if c = 0 then a t else M c) = 0) → det (n + 1) M = det (n + 1) (fun c => if c = 0 then e else M c)
  | 0, M, h, _ => Vb _ fun c r hc hr => by
    by_cases h0 : c = 0
    · subst h0; rw [if_pos rfl, h r hr, Zu, Rat.zero_add]
    · rw [if_neg h0]
  | J + 1, M, h, hz => by
    have h1 := det_lin (M := M) (fun r => Zu (fun t => s t * a t r) J + e r) (a J) (s J) fun r hr => by rw [h r hr, Zu]; grind
    have h2 : s J * det (n + 1) (fun c => if c = 0 then a J else M c) = 0 := by
      rcases hz J (by omega) with h3 | h3 <;> rw [h3] <;> grind
    rw [h2, Rat.add_zero] at h1
    rw [h1]
    have h4 : ∀ v : Nat → Rat, (fun c => if c = 0 then v else (fun c => if c = 0 then (fun r => Zu (fun t => s t * a t r) J + e r) else M c) c) = fun c => if c = 0 then v else M c := fun v => by
      funext c
      by_cases h0 : c = 0 <;> simp [h0]
    have ih := det_comb a s e J (M := fun c => if c = 0 then (fun r => Zu (fun t => s t * a t r) J + e r) else M c) (fun r hr => by simp) fun t ht => by
      rcases hz t (by omega) with h3 | h3
      · exact .inl h3
      · refine .inr ?_
        rw [h4]; exact h3
    rw [ih, h4]
theorem det_scale {n : Nat} (M : Nat → Nat → Rat) (a : Nat → Rat) (s : Rat) : det (n + 1) (fun c => if c = 0 then (fun r => s * a r) else M c) = s * det (n + 1) (fun c => if c = 0 then a else M c) := by
  have h := det_lin (n := n) (M := fun c => if c = 0 then (fun r => s * a r) else M c) (fun _ => 0) a s fun r hr => by simp [Rat.zero_add]
  have e1 : ∀ v : Nat → Rat, (fun c => if c = 0 then v else (fun c => if c = 0 then (fun r => s * a r) else M c) c) = fun c => if c = 0 then v else M c := fun v => by
    funext c
    by_cases h0 : c = 0 <;> simp [h0]
  rw [e1, e1] at h
  rw [h, det_zero (fun r hr => rfl), Rat.zero_add]

/-- What holds behind j steps: the rows stand as at first, but in another order. -/
structure GI (m : Nat) (T0 : Xx) (j : Nat) (S : Xx) (π : Nat → Nat) : Prop where
  lt : ∀ i, i < m → π i < m
  jm : j ≤ m
  row : ∀ i c, i < m → T0 (π i) c = Zu (fun t => T0 (π i) t * S t c) j + (if j ≤ i then S i c else 0)
  unit : ∀ i t, i < m → t < j → S i t = if i = t then 1 else 0
  dt : det j (fun c r => T0 (π r) c) ≠ 0
theorem GI.init (m : Nat) (T0 : Xx) : GI m T0 0 T0 id where
  lt i hi := hi
  jm := Nat.zero_le _
  row i c hi := by rw [Zu, if_pos (Nat.zero_le _), Rat.zero_add]; rfl
  unit i t hi ht := by omega
  dt := by rw [det]; decide
section
variable {m j : Nat} {T0 S : Xx} {π : Nat → Nat} (g : GI m T0 j S π)
include g
/-- A number below is a minor through the one before. -/
theorem GI.minor {i c : Nat} (hi : i < m) (hj : j ≤ i) : det (j + 1) (fun c' r => T0 (if r < j then π r else π i) (if c' = 0 then c else c' - 1)) = sgn j * S i c * det j (fun c r => T0 (π r) c) := by
  have h := det_comb (n := j) (fun t r => T0 (if r < j then π r else π i) t) (fun t => S t c) (fun r => if r < j then 0 else S i c) j (M := fun c' r => T0 (if r < j then π r else π i) (if c' = 0 then c else c' - 1)) (fun r hr => by
    simp only [if_true]
    by_cases h1 : r < j
    · simp only [h1, if_true]
      rw [g.row r c (by have := g.jm; omega), if_neg (by omega)]
      congr 1
      exact Zk fun t ht => Rat.mul_comm _ _
    · simp only [h1, if_false]
      rw [g.row i c hi, if_pos hj]
      congr 1
      exact Zk fun t ht => Rat.mul_comm _ _) fun t ht => .inr (by
    refine det_same _ t _ (by omega) fun r hr => ?_
    simp)
  rw [h, det_last (fun r hr => by simp only [if_true, hr])]
  simp only [if_true, Nat.lt_irrefl, if_false]
  congr 1
  refine Vb _ fun c' r hc hr => ?_
  simp [hr]
/-- A number of a pivot's row, the same. -/
theorem GI.cramer {t c : Nat} (ht : t < j) : det j (fun c' r => T0 (π r) (if c' = 0 then c else bring t c')) = S t c * (sgn t * det j (fun c r => T0 (π r) c)) := by
  have hb := det_bring t j (fun c r => T0 (π r) c) ht
  obtain ⟨n, rfl⟩ : ∃ n, j = n + 1 := ⟨j - 1, by omega⟩
  have hbr : ∀ s, s < n + 1 → s ≠ t → ∃ c', c' + 1 < n + 1 ∧ bring t (c' + 1) = s := fun s hs hst => by
    by_cases h1 : s < t
    · exact ⟨s, by omega, by simp [bring, show s + 1 ≤ t by omega]⟩
    · exact ⟨s - 1, by omega, by simp only [bring]; rw [if_neg (by omega), if_neg (by omega)]; omega⟩
  have h := det_comb (n := n) (fun s r => T0 (π r) s) (fun s => if s = t then 0 else S s c) (fun r => S t c * T0 (π r) t) (n + 1) (M := fun c' r => T0 (π r) (if c' = 0 then c else bring t c')) (fun r hr => by
    simp only [if_true]
    rw [g.row r c (by have := g.jm; omega), if_neg (by omega), Rat.add_zero]
    have e : Zu (fun s => T0 (π r) s * S s c) (n + 1) = Zu (fun s => (if s = t then 0 else S s c) * T0 (π r) s) (n + 1) + Zu (fun s => if s = t then S s c * T0 (π r) s else 0) (n + 1) := by
      rw [← Wv]
      refine Zk fun s hs => ?_
      by_cases h1 : s = t
      · simp only [h1, if_true]; grind
      · simp only [h1, if_false]; grind
    rw [e, sumTo_pick _ ht]) fun s hs => by
    by_cases h1 : s = t
    · exact .inl (by simp [h1])
    · refine .inr ?_
      obtain ⟨c', h2, h3⟩ := hbr s hs h1
      refine det_same _ c' _ h2 fun r hr => ?_
      simp [h3]
  rw [h, det_scale]
  congr 1
end
theorem swapT_at (a p : Nat) (T : Xx) : Vm a p T a = T p := by simp [Vm]
theorem GI.step {m j p : Nat} {T0 S : Xx} {π : Nat → Nat} (g : GI m T0 j S π) (hp : p < m) (hjp : j ≤ p) (h0 : S p j ≠ 0) :
    ∃ π', GI m T0 (j + 1) (elimT j (normT j (Vm j p S))) π' := by
  have hj : j < m := by omega
  -- the rows changed
  obtain ⟨π', hπ⟩ : ∃ π' : Nat → Nat, π' = fun i => if i = j then π p else if i = p then π j else π i := ⟨_, rfl⟩
  obtain ⟨S', hS⟩ : ∃ S', S' = Vm j p S := ⟨_, rfl⟩
  have hS1 : S' j = S p := by rw [hS, swapT_at]
  have hS2 : ∀ t, t < j → S' t = S t := fun t ht => by rw [hS, Vm]; simp only [show t ≠ j by omega, show t ≠ p by omega, if_false]
  have hπ2 : ∀ t, t < j → π' t = π t := fun t ht => by rw [hπ]; simp only [show t ≠ j by omega, show t ≠ p by omega, if_false]
  have hsel : ∀ i, i < m → ∃ i', i' < m ∧ π' i = π i' ∧ S' i = S i' ∧ (j ≤ i ↔ j ≤ i') ∧ (i < j → i' = i) := fun i hi => by
    by_cases h1 : i = j
    · exact ⟨p, hp, by rw [hπ]; simp [h1], by rw [h1, hS1], by omega, by omega⟩
    · by_cases h2 : i = p
      · refine ⟨j, hj, by rw [hπ]; simp only [h2, if_true]; rw [if_neg (by omega)], ?_, by omega, by omega⟩
        rw [hS, Vm]; simp only [h1, if_false]; rw [if_pos h2]
      · refine ⟨i, hi, by rw [hπ]; simp [h1, h2], ?_, Iff.rfl, fun _ => rfl⟩
        rw [hS, Vm]; simp [h1, h2]
  have g' : GI m T0 j S' π' := by
    refine ⟨fun i hi => ?_, g.jm, fun i c hi => ?_, fun i t hi ht => ?_, ?_⟩
    · obtain ⟨i', h1, h2, -⟩ := hsel i hi
      rw [h2]; exact g.lt i' h1
    · obtain ⟨i', h1, h2, h3, h4, -⟩ := hsel i hi
      rw [h2, h3, g.row i' c h1]
      congr 1
      · exact Zk fun t ht => by rw [hS2 t ht]
      · by_cases h5 : j ≤ i
        · rw [if_pos h5, if_pos (h4.1 h5)]
        · rw [if_neg h5, if_neg fun h => h5 (h4.2 h)]
    · obtain ⟨i', h1, h2, h3, h4, h5⟩ := hsel i hi
      rw [h3, g.unit i' t h1 ht]
      by_cases h6 : i < j
      · rw [h5 h6]
      · have := h4.1 (by omega)
        rw [if_neg (by omega), if_neg (by omega)]
    · have : det j (fun c r => T0 (π' r) c) = det j (fun c r => T0 (π r) c) := Vb _ fun c r hc hr => by rw [hπ2 r hr]
      rw [this]; exact g.dt
  have hv : S' j j ≠ 0 := by rw [hS1]; exact h0
  rw [← hS]
  clear hsel hπ2 hS2 hS1 hS hπ g h0
  refine ⟨π', g'.lt, by omega, fun i c hi => ?_, fun i t hi ht => ?_, ?_⟩
  · -- rows
    have r1 := g'.row i c hi
    have r2 := g'.row i j hi
    obtain ⟨v, hvv⟩ : ∃ v, S' j j = v := ⟨_, rfl⟩
    rw [hvv] at hv
    obtain ⟨q, hq⟩ : ∃ q, S' j c / v = q := ⟨_, rfl⟩
    have hqv : S' j c = q * v := by rw [← hq]; exact (Rat.div_mul_cancel hv).symm
    have e1 : ∀ i', elimT j (normT j S') i' c = if i' = j then q else S' i' c - S' i' j * q := fun i' => by
      simp only [elimT, normT, if_true, hvv, hq]
      by_cases h1 : i' = j
      · simp only [h1, if_true]
      · simp only [h1, if_false]
    rw [Zu]
    have e2 : Zu (fun t => T0 (π' i) t * elimT j (normT j S') t c) j = Zu (fun t => T0 (π' i) t * S' t c) j + (-q) * Zu (fun t => T0 (π' i) t * S' t j) j := by
      rw [← Xp, ← Wv]
      refine Zk fun t ht => ?_
      rw [e1, if_neg (by omega)]; grind
    rw [e2, e1 j, if_pos rfl, e1 i]
    generalize Zu (fun t => T0 (π' i) t * S' t c) j = A at *
    generalize Zu (fun t => T0 (π' i) t * S' t j) j = B at *
    rcases Nat.lt_trichotomy i j with h1 | h1 | h1
    · rw [if_neg (by omega)] at r1 r2
      rw [if_neg (by omega)]
      rw [r1, r2]; grind
    · subst h1
      rw [if_pos (Nat.le_refl _)] at r1 r2
      rw [if_neg (by omega)]
      rw [hvv] at r2
      rw [r1, r2, hqv]; grind
    · rw [if_pos (by omega)] at r1 r2
      rw [if_pos (by omega), if_neg (by omega)]
      rw [r1, r2]; grind
  · -- unit
    simp only [elimT, normT, if_true]
    by_cases h1 : t = j
    · subst h1
      by_cases h2 : i = t
      · subst h2
        rw [if_pos rfl, if_pos rfl, Rat.div_def, Rat.mul_inv_cancel _ hv]
      · rw [if_neg h2, if_neg h2, if_neg h2, Rat.div_def, Rat.mul_inv_cancel _ hv]; grind
    · have u1 := g'.unit j t hj (by omega)
      rw [if_neg (by omega)] at u1
      have u2 := g'.unit i t hi (by omega)
      by_cases h2 : i = j
      · subst h2
        rw [if_pos rfl, u1, if_neg (by omega), Rat.div_def, Rat.zero_mul]
      · rw [if_neg h2, if_neg h2, if_neg h2, u1, u2, Rat.div_def, Rat.zero_mul, Rat.mul_zero]; grind
  · -- the determinant
    have hm := g'.minor (i := j) (c := j) hj (Nat.le_refl _)
    have hb := det_bring j (j + 1) (fun c r => T0 (π' r) c) (by omega)
    have e : det (j + 1) (fun c' r => T0 (if r < j then π' r else π' j) (if c' = 0 then j else c' - 1)) = det (j + 1) (fun c r => T0 (π' r) (bring j c)) := Vb _ fun c r hc hr => by
      have h1 : (if r < j then π' r else π' j) = π' r := by
        by_cases h2 : r < j
        · rw [if_pos h2]
        · rw [if_neg h2, show r = j by omega]
      have h3 : (if c = 0 then j else c - 1) = bring j c := by
        simp only [bring]
        by_cases h0 : c = 0
        · rw [if_pos h0, if_pos h0]
        · rw [if_neg h0, if_neg h0, if_pos (by omega)]
      rw [h1, h3]
    rw [e, hb] at hm
    intro hc
    rw [hc, Rat.mul_zero] at hm
    rcases Rat.mul_eq_zero.1 hm.symm with h1 | h1
    · rcases Rat.mul_eq_zero.1 h1 with h2 | h2
      · have := sgn_sq j; rw [h2] at this; exact absurd this (by decide +kernel)
      · exact hv h2
    · exact g'.dt h1
theorem elim_gi {m : Nat} {T0 : Xx} : ∀ {j : Nat} {S : Xx}, Xk m T0 j = some S → ∃ π, GI m T0 j S π
  | 0, S, h => by cases h; exact ⟨id, GI.init m _⟩
  | j + 1, S, h => by
    rw [Xk] at h
    cases hr : Xk m T0 j with
    | none => rw [hr] at h; cases h
    | some S1 =>
      rw [hr] at h
      simp only [Option.bind_some, Ww] at h
      obtain ⟨π, g⟩ := elim_gi hr
      cases hf : findP m j S1 with
      | none => rw [hf] at h; cases h
      | some p =>
        rw [hf] at h
        cases h
        obtain ⟨h1, h2, h3, _⟩ := findP_some hf
        exact g.step h1 h2 h3

/-! How great. -/
theorem Zq.rp {b : Nat} {D z : Int} {q : Rat} {s : Rat} (hD : D ≠ 0) {N : Nat} (hN : 0 < N) (hs : Zq 1 s) (hq : Zq b (q * D * N * s)) (hss : s * s = 1) : ∃ x : Int, Rp (D.natAbs * N) x q ∧ x.natAbs ≤ b := by
  obtain ⟨y, hy, hyb⟩ := hq
  obtain ⟨u, hu, hub⟩ := hs
  have hD0 : 0 < D.natAbs := by omega
  have h1 : q * (D : Rat) * (N : Rat) = (y : Rat) * s := by
    rw [← hy]
    generalize q * (D : Rat) * (N : Rat) = A
    have : A * s * s = A * (s * s) := by grind
    rw [this, hss, Rat.mul_one]
  rcases Int.lt_or_le D 0 with h | h
  · refine ⟨-(y * u), ⟨Nat.mul_pos hD0 hN, ?_⟩, ?_⟩
    · have e : ((D.natAbs : Nat) : Rat) = -(D : Rat) := by
        rw [← Rat.intCast_natCast, ← Rat.intCast_neg]; congr 1; omega
      rw [Rat.natCast_mul, e, Rat.intCast_neg, Rat.intCast_mul, ← hu, ← h1]; grind
    · rw [Int.natAbs_neg, Int.natAbs_mul]
      exact Nat.le_trans (Nat.mul_le_mul hyb hub) (by omega)
  · refine ⟨y * u, ⟨Nat.mul_pos hD0 hN, ?_⟩, ?_⟩
    · have e : ((D.natAbs : Nat) : Rat) = (D : Rat) := by
        rw [← Rat.intCast_natCast]; congr 1; omega
      rw [Rat.natCast_mul, e, Rat.intCast_mul, ← hu, ← h1]; grind
    · rw [Int.natAbs_mul]
      exact Nat.le_trans (Nat.mul_le_mul hyb hub) (by omega)
/-- The parts of a state. -/
theorem GI.parts {P : Rat → Prop} {F : Nat → Nat} (hF : ∀ n M, (∀ c r, c < n → r < n → P (M c r)) → Zq (F n) (det n M)) {m k j N B X : Nat} {T0 S : Xx} {π : Nat → Nat} (g : GI m T0 j S π) (hjk : j ≤ k) (hN : 0 < N)
    (hP : ∀ i c, i < m → c < k → P (T0 i c)) (hR : ∀ i, i < m → Zq B (T0 i k * N)) (hX1 : ∀ n, n ≤ k → F n * N ≤ X) (hX2 : ∀ n, n ≤ k → (n + 1) * (B * F n) ≤ X) :
    ∃ D, 0 < D ∧ D ≤ F j * N ∧ ∀ i c, i < m → c ≤ k → ∃ x : Int, Rp D x (S i c) ∧ x.natAbs ≤ X := by
  have hj := g.jm
  obtain ⟨d, hd, hdb⟩ := hF j (fun c r => T0 (π r) c) fun c r hc hr => hP _ _ (g.lt r (by omega)) (by omega)
  have hd0 : d ≠ 0 := fun h => g.dt (by rw [hd, h]; rfl)
  refine ⟨d.natAbs * N, Nat.mul_pos (by omega) hN, Nat.mul_le_mul_right _ hdb, fun i c hi hc => ?_⟩
  by_cases hcj : c < j
  · -- a column that is done
    rw [g.unit i c hi hcj]
    have hX := hX1 j hjk
    have hdX : d.natAbs * N ≤ X := Nat.le_trans (Nat.mul_le_mul_right _ hdb) hX
    by_cases h1 : i = c
    · refine ⟨((d.natAbs * N : Nat) : Int), ⟨Nat.mul_pos (by omega) hN, ?_⟩, by rw [Int.natAbs_natCast]; exact hdX⟩
      rw [if_pos h1, Rat.one_mul, Rat.intCast_natCast]
    · refine ⟨0, ⟨Nat.mul_pos (by omega) hN, ?_⟩, by simp⟩
      rw [if_neg h1, Rat.zero_mul]; rfl
  by_cases hij : i < j
  · -- a pivot's row
    have hcr := g.cramer (c := c) hij
    rw [hd] at hcr
    obtain ⟨n, rfl⟩ : ∃ n, j = n + 1 := ⟨j - 1, by omega⟩
    have hbl : ∀ c', c' + 1 < n + 1 → bring i (c' + 1) < n + 1 := fun c' hc' => by
      simp only [bring]; split
      · omega
      · split <;> omega
    have key : Zq X (S i c * (d : Rat) * (N : Rat) * sgn i) := by
      have e : S i c * (d : Rat) * (N : Rat) * sgn i = (N : Rat) * det (n + 1) (fun c' r => T0 (π r) (if c' = 0 then c else bring i c')) := by rw [hcr]; grind
      rw [e]
      by_cases hck : c = k
      · subst hck
        have e2 : (N : Rat) * det (n + 1) (fun c' r => T0 (π r) (if c' = 0 then c else bring i c')) = det (n + 1) (fun c' => if c' = 0 then (fun r => (N : Rat) * T0 (π r) c) else fun r => T0 (π r) (bring i c')) := by
          rw [det_scale (fun c' r => T0 (π r) (bring i c')) (fun r => T0 (π r) c) (N : Rat)]
          congr 1
        rw [e2]
        refine (det_Zq (b0 := B) (F := F n) (fun r hr => ?_) fun i' hi' => hF n _ fun c' r hc' hr => ?_).mono (hX2 n (by omega))
        · simp only [if_true]; rw [Rat.mul_comm]; exact hR _ (g.lt r (by omega))
        · simp only [show ¬ (c' + 1 = 0) by omega, if_false]
          exact hP _ _ (g.lt _ (by have := skp_lt (i := i') hr; omega)) (by have := hbl c' (by omega); omega)
      · refine Zq.mono (Zq.mul ⟨(N : Int), (Rat.intCast_natCast N).symm, Nat.le_refl _⟩ (hF (n + 1) _ fun c' r hc' hr => ?_)) (by rw [Int.natAbs_natCast, Nat.mul_comm]; exact hX1 (n + 1) hjk)
        refine hP _ _ (g.lt r (by omega)) ?_
        by_cases h0 : c' = 0
        · rw [if_pos h0]; omega
        · rw [if_neg h0]
          obtain ⟨c', rfl⟩ : ∃ t, c' = t + 1 := ⟨c' - 1, by omega⟩
          have := hbl c' hc'; omega
    exact Zq.rp (z := 0) hd0 hN (Zq.sgn i) key (sgn_sq i)
  · -- a row below
    have hmn := g.minor (c := c) hi (by omega)
    rw [hd] at hmn
    have key : Zq X (S i c * (d : Rat) * (N : Rat) * sgn j) := by
      have e : S i c * (d : Rat) * (N : Rat) * sgn j = (N : Rat) * det (j + 1) (fun c' r => T0 (if r < j then π r else π i) (if c' = 0 then c else c' - 1)) := by rw [hmn]; grind
      rw [e]
      have hρ : ∀ r, (if r < j then π r else π i) < m := fun r => by
        split
        · exact g.lt r (by omega)
        · exact g.lt i hi
      by_cases hck : c = k
      · subst hck
        have e2 : (N : Rat) * det (j + 1) (fun c' r => T0 (if r < j then π r else π i) (if c' = 0 then c else c' - 1)) = det (j + 1) (fun c' => if c' = 0 then (fun r => (N : Rat) * T0 (if r < j then π r else π i) c) else fun r => T0 (if r < j then π r else π i) (c' - 1)) := by
          rw [det_scale (fun c' r => T0 (if r < j then π r else π i) (c' - 1)) (fun r => T0 (if r < j then π r else π i) c) (N : Rat)]
          congr 1
        rw [e2]
        refine (det_Zq (b0 := B) (F := F j) (fun r hr => ?_) fun i' hi' => hF j _ fun c' r hc' hr => ?_).mono (hX2 j hjk)
        · simp only [if_true]; rw [Rat.mul_comm]; exact hR _ (hρ r)
        · simp only [show ¬ (c' + 1 = 0) by omega, if_false]
          exact hP _ _ (hρ _) (by omega)
      · refine Zq.mono (Zq.mul ⟨(N : Int), (Rat.intCast_natCast N).symm, Nat.le_refl _⟩ (hF (j + 1) _ fun c' r hc' hr => ?_)) (by rw [Int.natAbs_natCast, Nat.mul_comm]; exact hX1 (j + 1) (by omega))
        refine hP _ _ (hρ r) ?_
        by_cases h0 : c' = 0
        · rw [if_pos h0]; omega
        · rw [if_neg h0]; omega
    exact Zq.rp (z := 0) hd0 hN (Zq.sgn j) key (sgn_sq j)
end Bq

namespace Bq

/-- Rows that come to nothing. -/
def Nul (m K : Nat) (T : Xx) (y : Nat → Rat) : Prop := ∀ i, i < m → Zu (fun c => T i c * y c) K = 0
theorem nul_swap {m K a p : Nat} {T : Xx} {y : Nat → Rat} (ha : a < m) (hp : p < m) : Nul m K (Vm a p T) y ↔ Nul m K T y := by
  have key : ∀ T : Xx, Nul m K T y → Nul m K (Vm a p T) y := fun T h i hi => by
    by_cases h1 : i = a
    · subst h1; rw [swapT_at]; exact h p hp
    · by_cases h2 : i = p
      · have : Vm a p T i = T a := by simp only [Vm, h1, if_false]; rw [if_pos h2]
        rw [this]; exact h a ha
      · have : Vm a p T i = T i := by simp only [Vm, h1, h2, if_false]
        rw [this]; exact h i hi
  refine ⟨fun h => ?_, key T⟩
  have h2 := key _ h
  have e : Vm a p (Vm a p T) = T := by
    funext i
    simp only [Vm]
    by_cases h1 : i = a
    · subst h1
      simp only [if_true]
      by_cases h3 : p = i
      · rw [if_pos h3, h3]
      · rw [if_neg h3]
    · simp only [h1, if_false]
      by_cases h3 : i = p
      · subst h3; simp
      · simp [h3]
  rwa [e] at h2
theorem nul_norm {m K a : Nat} {T : Xx} {y : Nat → Rat} (ha : a < m) (h0 : T a a ≠ 0) : Nul m K (normT a T) y ↔ Nul m K T y := by
  have e : Zu (fun c => normT a T a c * y c) K = (T a a)⁻¹ * Zu (fun c => T a c * y c) K := by
    rw [← Xp]
    refine Zk fun c hc => ?_
    simp only [normT, if_true, Rat.div_def]; grind
  have e2 : ∀ i, i ≠ a → Zu (fun c => normT a T i c * y c) K = Zu (fun c => T i c * y c) K := fun i hi => Zk fun c hc => by simp only [normT, hi, if_false]
  constructor
  · intro h i hi
    by_cases h1 : i = a
    · subst h1
      have := h i hi
      rw [e] at this
      rcases Rat.mul_eq_zero.1 this with h2 | h2
      · have h3 := Rat.mul_inv_cancel _ h0
        rw [h2, Rat.mul_zero] at h3; exact absurd h3 (by decide +kernel)
      · exact h2
    · rw [← e2 i h1]; exact h i hi
  · intro h i hi
    by_cases h1 : i = a
    · subst h1; rw [e, h i hi, Rat.mul_zero]
    · rw [e2 i h1]; exact h i hi
theorem nul_elim {m K a : Nat} {T : Xx} {y : Nat → Rat} (ha : a < m) : Nul m K (elimT a T) y ↔ Nul m K T y := by
  have e : ∀ i, i ≠ a → Zu (fun c => elimT a T i c * y c) K = Zu (fun c => T i c * y c) K + (-(T i a)) * Zu (fun c => T a c * y c) K := fun i hi => by
    rw [← Xp, ← Wv]
    refine Zk fun c hc => ?_
    simp only [elimT, hi, if_false]; grind
  have e2 : Zu (fun c => elimT a T a c * y c) K = Zu (fun c => T a c * y c) K := Zk fun c hc => by simp only [elimT, if_true]
  constructor
  · intro h i hi
    have h2 := h a ha
    rw [e2] at h2
    by_cases h1 : i = a
    · subst h1; exact h2
    · have := h i hi
      rw [e i h1, h2, Rat.mul_zero, Rat.add_zero] at this; exact this
  · intro h i hi
    by_cases h1 : i = a
    · subst h1; rw [e2]; exact h i hi
    · rw [e i h1, h i hi, h a ha, Rat.mul_zero, Rat.add_zero]
theorem nul_run {m K : Nat} {T : Xx} {y : Nat → Rat} : ∀ {j : Nat} {S : Xx}, Xk m T j = some S → (Nul m K S y ↔ Nul m K T y)
  | 0, S, h => by cases h; exact Iff.rfl
  | j + 1, S, h => by
    rw [Xk] at h
    cases hr : Xk m T j with
    | none => rw [hr] at h; cases h
    | some S1 =>
      rw [hr] at h
      simp only [Option.bind_some, Ww] at h
      cases hf : findP m j S1 with
      | none => rw [hf] at h; cases h
      | some p =>
        rw [hf] at h
        cases h
        obtain ⟨h1, h2, h3, _⟩ := findP_some hf
        have hj : j < m := by omega
        rw [nul_elim hj, nul_norm hj (by rw [swapT_at]; exact h3), nul_swap hj h1]
        exact nul_run hr

/-- A solution; what may be added to one. -/
def Sol (m k : Nat) (T : Xx) (x : Nat → Rat) : Prop := ∀ i, i < m → Zu (fun c => T i c * x c) k = T i k
def Ker (m k : Nat) (T : Xx) (x : Nat → Rat) : Prop := ∀ i, i < m → Zu (fun c => T i c * x c) k = 0
def ext1 (k : Nat) (x : Nat → Rat) (s : Rat) : Nat → Rat := fun c => if c < k then x c else s
theorem sum_ext1 (T : Xx) (i k : Nat) (x : Nat → Rat) (s : Rat) : Zu (fun c => T i c * ext1 k x s c) (k + 1) = Zu (fun c => T i c * x c) k + T i k * s := by
  rw [Zu]
  have e : ext1 k x s k = s := by simp [ext1]
  simp only [e]
  congr 1
  exact Zk fun c hc => by simp only [ext1, hc, if_true]
theorem sol_nul {m k : Nat} {T : Xx} {x : Nat → Rat} : Sol m k T x ↔ Nul m (k + 1) T (ext1 k x (-1)) := by
  constructor
  · intro h i hi
    rw [sum_ext1, h i hi]; grind
  · intro h i hi
    have := h i hi
    rw [sum_ext1] at this
    generalize Zu (fun c => T i c * x c) k = A at *
    grind
theorem ker_nul {m k : Nat} {T : Xx} {x : Nat → Rat} : Ker m k T x ↔ Nul m (k + 1) T (ext1 k x 0) := by
  constructor
  · intro h i hi
    rw [sum_ext1, h i hi]; grind
  · intro h i hi
    have := h i hi
    rw [sum_ext1] at this
    generalize Zu (fun c => T i c * x c) k = A at *
    grind
theorem sum_unit {n t : Nat} (x : Nat → Rat) (h : t < n) : Zu (fun c => (if t = c then 1 else 0) * x c) n = x t := by
  rw [← sumTo_pick x h]
  refine Zk fun c hc => ?_
  by_cases h1 : t = c
  · rw [if_pos h1, if_pos h1.symm, Rat.one_mul]
  · rw [if_neg h1, if_neg (Ne.symm h1), Rat.zero_mul]
/-- **What solving tells.** -/
theorem solve_some {m k : Nat} {T : Xx} {xs : List Rat} (h : Vf m k T = some xs) : xs.length = k ∧ ∀ y, Sol m k T y ↔ ∀ t, t < k → y t = xs.getD t 0 := by
  refine ⟨solveT_len h, fun y => ?_⟩
  rw [Vf] at h
  cases hr : Xk m T k with
  | none => rw [hr] at h; cases h
  | some S =>
    rw [hr] at h
    simp only [Option.bind_some] at h
    split at h
    · cases h
    · next hrest =>
      cases h
      obtain ⟨π, g⟩ := elim_gi hr
      rw [sol_nul, ← nul_run hr, ← sol_nul]
      have hu : ∀ i, i < m → Zu (fun c => S i c * y c) k = if i < k then y i else 0 := fun i hi => by
        rw [Zk (g := fun c => (if i = c then 1 else 0) * y c) fun c hc => by rw [g.unit i c hi hc]]
        by_cases h1 : i < k
        · rw [if_pos h1, sum_unit y h1]
        · rw [if_neg h1]
          exact Ve fun c hc => by rw [if_neg (by omega), Rat.zero_mul]
      have hget : ∀ t, t < k → ((List.range k).map fun i => S i k).getD t 0 = S t k := fun t ht => by simp [List.getD, ht]
      constructor
      · intro h t ht
        rw [hget t ht]
        have := h t (by have := g.jm; omega)
        rw [hu t (by have := g.jm; omega), if_pos ht] at this
        exact this
      · intro h i hi
        rw [hu i hi]
        by_cases h1 : i < k
        · rw [if_pos h1, h i h1, hget i h1]
        · rw [if_neg h1]
          have : ¬ restT m k S = true := hrest
          rw [restT, List.any_eq_true] at this
          rcases Decidable.em (S i k = 0) with h2 | h2
          · exact h2.symm
          · exact absurd ⟨i, List.mem_range.2 hi, by simp [h2]; omega⟩ this
/-- None that stands alone. -/
theorem run_none {m k : Nat} {T : Xx} : ∀ {j : Nat}, j ≤ k → Xk m T j = none → ∃ δ, Ker m k T δ ∧ ∃ c, c < k ∧ δ c ≠ 0
  | 0, _, h => by cases h
  | j + 1, hj, h => by
    rw [Xk] at h
    cases hr : Xk m T j with
    | none => exact run_none (by omega) hr
    | some S =>
      rw [hr] at h
      simp only [Option.bind_some, Ww] at h
      cases hf : findP m j S with
      | some p => rw [hf] at h; cases h
      | none =>
        obtain ⟨π, g⟩ := elim_gi hr
        have h0 : ∀ i, i < m → j ≤ i → S i j = 0 := fun i hi hji => by
          rw [findP, List.find?_eq_none] at hf
          have := hf i (List.mem_range.2 hi)
          simpa [hji] using this
        refine ⟨fun c => if c < j then - S c j else if c = j then 1 else 0, ?_, j, by omega, by simp⟩
        rw [ker_nul, ← nul_run hr, ← ker_nul]
        intro i hi
        have e : ∀ K, K ≤ k → Zu (fun c => S i c * (if c < j then - S c j else if c = j then 1 else 0)) K = if j < K then Zu (fun c => S i c * (- S c j)) j + S i j else Zu (fun c => S i c * (- S c j)) K := by
          intro K
          induction K with
          | zero => intro _; rw [if_neg (by omega)]; rfl
          | succ K ih =>
            intro hK
            rw [Zu, ih (by omega)]
            rcases Nat.lt_trichotomy K j with h1 | h1 | h1
            · rw [if_neg (show ¬ j < K by omega), if_pos h1, if_neg (show ¬ j < K + 1 by omega)]; rfl
            · subst h1
              rw [if_neg (show ¬ K < K by omega), if_pos (show K < K + 1 by omega), if_neg (show ¬ K < K by omega), if_pos rfl, Rat.mul_one]
            · rw [if_pos (show j < K by omega), if_pos (show j < K + 1 by omega), if_neg (show ¬ K < j by omega), if_neg (show ¬ K = j by omega), Rat.mul_zero, Rat.add_zero]
        rw [e k (Nat.le_refl _), if_pos (by omega)]
        rw [Zk (g := fun c => (if i = c then 1 else 0) * (- S c j)) fun c hc => by rw [g.unit i c hi hc]]
        by_cases h1 : i < j
        · rw [sum_unit (fun c => - S c j) h1]; grind
        · rw [Ve fun c hc => by rw [if_neg (by omega), Rat.zero_mul], h0 i hi (by omega), Rat.zero_add]
theorem solve_none {m k : Nat} {T : Xx} (h : Vf m k T = none) : (∀ y, ¬ Sol m k T y) ∨ ∃ δ, Ker m k T δ ∧ ∃ c, c < k ∧ δ c ≠ 0 := by
  rw [Vf] at h
  cases hr : Xk m T k with
  | none => exact .inr (run_none (Nat.le_refl _) hr)
  | some S =>
    rw [hr] at h
    simp only [Option.bind_some] at h
    split at h
    · next hrest =>
      refine .inl fun y hy => ?_
      obtain ⟨π, g⟩ := elim_gi hr
      rw [sol_nul, ← nul_run hr, ← sol_nul] at hy
      rw [restT, List.any_eq_true] at hrest
      obtain ⟨i, hi, h1⟩ := hrest
      simp only [Bool.and_eq_true, decide_eq_true_eq] at h1
      have := hy i (List.mem_range.1 hi)
      rw [Ve fun c hc => by rw [g.unit i c (List.mem_range.1 hi) hc, if_neg (by omega), Rat.zero_mul]] at this
      exact h1.2 this.symm
    · cases h
theorem Sol.add {m k : Nat} {T : Xx} {x δ : Nat → Rat} (h : Sol m k T x) (hd : Ker m k T δ) (s : Rat) : Sol m k T (fun c => x c + s * δ c) := fun i hi => by
  rw [Zk (g := fun c => T i c * x c + s * (T i c * δ c)) fun c hc => by grind, Wv, Xp, h i hi, hd i hi, Rat.mul_zero, Rat.add_zero]
end Bq

namespace Bq

theorem bitQ_01 (e w : Nat) : is01 (bitQ e w) := by rw [bitQ]; split; exact .inr rfl; exact .inl rfl
theorem bitQ_all {n w : Nat} (h : w < n) : bitQ (2 ^ n - 1) w = 1 := by rw [bitQ, Nat.testBit_two_pow_sub_one]; simp [h]
theorem Wu {set w k : Nat} (hw : w < k) (hb : set.testBit w = true) : (Yf set w).length < (Yf set k).length := by
  induction k with
  | zero => omega
  | succ k ih =>
    rw [Wm, List.length_append]
    by_cases h1 : w = k
    · subst h1; rw [hb]; simp
    · have := ih (by omega)
      omega
theorem worldsTo_get {set w k : Nat} (hw : w < k) (hb : set.testBit w = true) : (Yf set k).getD (Yf set w).length 0 = w := by
  induction k with
  | zero => omega
  | succ k ih =>
    rw [Wm, List.getD]
    by_cases h1 : w = k
    · subst h1; rw [hb, List.getElem?_append_right (Nat.le_refl _)]; simp
    · have := Wu (show w < k by omega) hb
      rw [List.getElem?_append_left this]
      exact ih (by omega)
theorem worldsTo_idx {set k : Nat} : ∀ {c : Nat}, c < (Yf set k).length → (Yf set ((Yf set k).getD c 0)).length = c ∧ (Yf set k).getD c 0 < k ∧ set.testBit ((Yf set k).getD c 0) = true := by
  induction k with
  | zero => intro c h; simp [Yf] at h
  | succ k ih =>
    intro c h
    rw [Wm] at h ⊢
    rw [List.getD]
    by_cases h1 : c < (Yf set k).length
    · rw [List.getElem?_append_left h1]
      obtain ⟨a, b, d⟩ := ih h1
      rw [List.getD] at a b d
      exact ⟨a, by omega, d⟩
    · rw [List.length_append] at h
      cases hb : set.testBit k with
      | false => rw [hb] at h; simp at h; omega
      | true =>
        rw [hb] at h
        simp at h
        obtain rfl : c = (Yf set k).length := by omega
        rw [List.getElem?_append_right (Nat.le_refl _)]
        simp [hb]
/-- Numbers of some worlds, of all: nought elsewhere. -/
def spr (set : Nat) (x : Nat → Rat) (w : Nat) : Rat := if set.testBit w then x (Yf set w).length else 0
theorem ws_sum (set : Nat) (g : Nat → Nat → Rat) : ∀ k, Zu (fun c => g c ((Yf set k).getD c 0)) (Yf set k).length = Zu (fun w => if set.testBit w then g (Yf set w).length w else 0) k
  | 0 => rfl
  | k + 1 => by
    have ih := ws_sum set g k
    rw [Zu, ← ih]
    cases hb : set.testBit k with
    | false =>
      have e : Yf set (k + 1) = Yf set k := by rw [Wm, hb]; simp
      rw [e, if_neg (by simp), Rat.add_zero]
    | true =>
      have e : (Yf set (k + 1)).length = (Yf set k).length + 1 := by rw [Wm, hb]; simp
      rw [e, Zu, if_pos rfl, worldsTo_get (Nat.lt_succ_self k) hb]
      congr 1
      refine Zk fun c hc => ?_
      rw [Wm, List.getD, List.getD, List.getElem?_append_left hc]
theorem spreadTo_get {n set : Nat} {x : List Rat} {w : Nat} (hw : w < n) : ∀ k, k ≤ (Yf set n).length → (Xv n (Yf set n) x k).getD w 0 = if set.testBit w = true ∧ (Yf set w).length < k then x.getD (Yf set w).length 0 else 0
  | 0, _ => by rw [Xv, if_neg (by omega)]; simp [List.getD, hw]
  | k + 1, hk => by
    have ih := spreadTo_get (set := set) (x := x) hw k (by omega)
    obtain ⟨a, b, d⟩ := worldsTo_idx (set := set) (k := n) (c := k) (by omega)
    rw [Xv, List.getD, List.getElem?_set]
    by_cases h1 : (Yf set n).getD k 0 = w
    · rw [if_pos h1, h1, Vx, if_pos hw]
      rw [h1] at a d
      rw [if_pos ⟨d, by omega⟩, a]; rfl
    · rw [if_neg h1]
      rw [List.getD] at ih
      rw [ih]
      by_cases h2 : set.testBit w = true ∧ (Yf set w).length < k
      · rw [if_pos h2, if_pos ⟨h2.1, by omega⟩]
      · rw [if_neg h2, if_neg]
        rintro ⟨h3, h4⟩
        have h5 : (Yf set w).length = k := by
          rcases Nat.lt_or_ge (Yf set w).length k with h | h
          · exact absurd ⟨h3, h⟩ h2
          · omega
        have := worldsTo_get hw h3
        rw [h5] at this
        exact h1 this
theorem spread_spr {n set : Nat} {x : List Rat} {w : Nat} (hw : w < n) : (Xv n (Yk n set) x (Yk n set).length).getD w 0 = spr set (fun c => x.getD c 0) w := by
  rw [Yk, spreadTo_get hw _ (Nat.le_refl _), spr]
  by_cases hb : set.testBit w = true
  · rw [if_pos ⟨hb, Wu hw hb⟩, if_pos hb]
  · rw [if_neg (fun h => hb h.1), if_neg hb]

/-- The chance of an event. -/
def evq (n : Nat) (p : Nat → Rat) (e : Nat) : Rat := Zu (fun w => bitQ e w * p w) n
/-- A belief that agrees. -/
structure Feas (n : Nat) (l : List (Int × Int)) (p : Nat → Rat) : Prop where
  nn : ∀ w, w < n → 0 ≤ p w
  one : Zu p n = 1
  bet : ∀ i, i < l.length → evq n p (l.getD i (0, 0)).1.toNat = Rat.divInt (l.getD i (0, 0)).2 12
theorem sys_row0 (n : Nat) (l : List (Int × Int)) (set : Nat) (x : Nat → Rat) : Zu (fun c => sysB n l (Yk n set) 0 c * x c) (Yk n set).length = Zu (spr set x) n := by
  have h := ws_sum set (fun c w => bitQ (2 ^ n - 1) w * x c) n
  rw [Yk]
  rw [← show Zu (fun c => bitQ (2 ^ n - 1) ((Yf set n).getD c 0) * x c) (Yf set n).length = _ from Zk fun c hc => by simp only [sysB, if_true, hc], h]
  refine Zk fun w hw => ?_
  rw [spr, bitQ_all hw, Rat.one_mul]
theorem sys_row (n : Nat) (l : List (Int × Int)) (set : Nat) (x : Nat → Rat) (i : Nat) : Zu (fun c => sysB n l (Yk n set) (i + 1) c * x c) (Yk n set).length = evq n (spr set x) (l.getD i (0, 0)).1.toNat := by
  have h := ws_sum set (fun c w => bitQ (l.getD i (0, 0)).1.toNat w * x c) n
  rw [Yk]
  rw [← show Zu (fun c => bitQ (l.getD i (0, 0)).1.toNat ((Yf set n).getD c 0) * x c) (Yf set n).length = _ from Zk fun c hc => by simp only [sysB, show ¬ (i + 1 = 0) by omega, if_false, hc, if_true, Nat.add_sub_cancel], h, evq]
  refine Zk fun w hw => ?_
  rw [spr]
  split
  · rfl
  · rw [Rat.mul_zero]
theorem sys_right (n : Nat) (l : List (Int × Int)) (ws : List Nat) : sysB n l ws 0 ws.length = 1 ∧ ∀ i, sysB n l ws (i + 1) ws.length = Rat.divInt (l.getD i (0, 0)).2 12 :=
  ⟨by simp [sysB], fun i => by simp [sysB]⟩
theorem sol_iff {n : Nat} {l : List (Int × Int)} {set : Nat} {x : Nat → Rat} : Sol (l.length + 1) (Yk n set).length (sysB n l (Yk n set)) x ↔ Zu (spr set x) n = 1 ∧ ∀ i, i < l.length → evq n (spr set x) (l.getD i (0, 0)).1.toNat = Rat.divInt (l.getD i (0, 0)).2 12 := by
  obtain ⟨r0, r1⟩ := sys_right n l (Yk n set)
  constructor
  · intro h
    refine ⟨by rw [← sys_row0 n l, h 0 (by omega), r0], fun i hi => by rw [← sys_row n l, h (i + 1) (by omega), r1]⟩
  · rintro ⟨h1, h2⟩ i hi
    cases i with
    | zero => rw [sys_row0, h1, r0]
    | succ i => rw [sys_row, h2 i (by omega), r1]
theorem ker_iff {n : Nat} {l : List (Int × Int)} {set : Nat} {x : Nat → Rat} (h : Ker (l.length + 1) (Yk n set).length (sysB n l (Yk n set)) x) : Zu (spr set x) n = 0 ∧ ∀ i, i < l.length → evq n (spr set x) (l.getD i (0, 0)).1.toNat = 0 :=
  ⟨by rw [← sys_row0 n l, h 0 (by omega)], fun i hi => by rw [← sys_row n l, h (i + 1) (by omega)]⟩

theorem mem_cornersTo {n : Nat} {l : List (Int × Int)} {b : List Rat} : ∀ {s : Nat}, b ∈ Wp n l s ↔ ∃ set, 1 ≤ set ∧ set ≤ s ∧ Vi n l set = some b
  | 0 => by
    rw [Wp]
    constructor
    · intro h; cases h
    · rintro ⟨set, h1, h2, _⟩; omega
  | s + 1 => by
    rw [Wp, List.mem_append, mem_cornersTo]
    constructor
    · rintro (⟨set, h1, h2, h3⟩ | h)
      · exact ⟨set, h1, by omega, h3⟩
      · exact ⟨s + 1, by omega, Nat.le_refl _, by simpa using h⟩
    · rintro ⟨set, h1, h2, h3⟩
      by_cases h4 : set = s + 1
      · subst h4; exact .inr (by simp [h3])
      · exact .inl ⟨set, h1, by omega, h3⟩
theorem mem_corners {n : Nat} {l : List (Int × Int)} {b : List Rat} : b ∈ Ye n l ↔ ∃ set, 1 ≤ set ∧ set < 2 ^ n ∧ Vi n l set = some b := by
  rw [Ye, mem_cornersTo]
  have := Nat.two_pow_pos n
  constructor
  · rintro ⟨set, h1, h2, h3⟩; exact ⟨set, h1, by omega, h3⟩
  · rintro ⟨set, h1, h2, h3⟩; exact ⟨set, h1, by omega, h3⟩
/-- A corner agrees. -/
theorem corner_feas {n : Nat} {l : List (Int × Int)} {set : Nat} {b : List Rat} (h : Vi n l set = some b) : b.length = n ∧ Feas n l (fun w => b.getD w 0) := by
  rw [Vi] at h
  cases hs : Vf (l.length + 1) (Yk n set).length (sysB n l (Yk n set)) with
  | none => rw [hs] at h; cases h
  | some xs =>
    rw [hs] at h
    simp only [Option.bind_some] at h
    split at h
    · cases h
    · next hneg =>
      cases h
      obtain ⟨hl, hx⟩ := solve_some hs
      have hsol := sol_iff.1 ((hx (fun t => xs.getD t 0)).2 fun t ht => rfl)
      have e : ∀ w, w < n → (Xv n (Yk n set) xs (Yk n set).length).getD w 0 = spr set (fun c => xs.getD c 0) w := fun w hw => spread_spr hw
      refine ⟨Vx _ _ _ _, fun w hw => ?_, ?_, fun i hi => ?_⟩
      · rw [e w hw, spr]
        split
        · next hb =>
          have hlt := Wu hw hb
          have hlt2 : (Yf set w).length < xs.length := by rw [hl]; exact hlt
          rw [List.any_eq_true] at hneg
          rw [List.getD, List.getElem?_eq_getElem hlt2, Option.getD_some, ← Rat.not_lt]
          intro hc
          exact hneg ⟨_, List.getElem_mem hlt2, by simpa using hc⟩
        · exact Rat.le_refl
      · rw [Zk fun w hw => e w hw]; exact hsol.1
      · rw [evq, Zk (g := fun w => bitQ (l.getD i (0, 0)).1.toNat w * spr set (fun c => xs.getD c 0) w) fun w hw => by rw [e w hw]]
        exact hsol.2 i hi

/-- The worlds that can be true, as a set. -/
def msk (p : Nat → Rat) : Nat → Nat
  | 0 => 0
  | k + 1 => msk p k ||| if p k = 0 then 0 else 2 ^ k
theorem msk_bit (p : Nat → Rat) (w : Nat) : ∀ k, (msk p k).testBit w = true ↔ w < k ∧ p w ≠ 0
  | 0 => by simp [msk]
  | k + 1 => by
    rw [msk, Nat.testBit_or, Bool.or_eq_true, msk_bit p w k]
    by_cases h : p k = 0
    · rw [if_pos h, Nat.zero_testBit]
      constructor
      · rintro (⟨h1, h2⟩ | h1)
        · exact ⟨by omega, h2⟩
        · cases h1
      · rintro ⟨h1, h2⟩
        refine .inl ⟨?_, h2⟩
        rcases Nat.lt_or_ge w k with h3 | h3
        · exact h3
        · rw [show w = k by omega] at h2; exact absurd h h2
    · rw [if_neg h, Nat.testBit_two_pow, decide_eq_true_eq]
      constructor
      · rintro (⟨h1, h2⟩ | h1)
        · exact ⟨by omega, h2⟩
        · subst h1; exact ⟨by omega, h⟩
      · rintro ⟨h1, h2⟩
        by_cases h3 : k = w
        · exact .inr h3
        · exact .inl ⟨by omega, h2⟩
theorem msk_lt (p : Nat → Rat) (n : Nat) : msk p n < 2 ^ n := Nat.lt_pow_two_of_testBit _ fun i hi => by
  rw [← Bool.not_eq_true, msk_bit]; omega
/-- How many. -/
def cntN (p : Nat → Rat) : Nat → Nat
  | 0 => 0
  | k + 1 => cntN p k + if p k = 0 then 0 else 1
theorem cntN_lt {p q : Nat → Rat} {w : Nat} : ∀ n, (∀ v, v < n → q v ≠ 0 → p v ≠ 0) → (w < n → q w = 0 ∧ p w ≠ 0 → cntN q n < cntN p n) ∧ cntN q n ≤ cntN p n
  | 0, _ => ⟨fun h => by omega, Nat.le_refl _⟩
  | n + 1, h => by
    obtain ⟨h1, h2⟩ := cntN_lt (w := w) n fun v hv => h v (by omega)
    have h3 := h n (by omega)
    simp only [cntN]
    refine ⟨fun hw hq => ?_, ?_⟩
    · by_cases hwn : w = n
      · subst hwn
        rw [if_pos hq.1, if_neg hq.2]; omega
      · have := h1 (by omega) hq
        by_cases h4 : q n = 0
        · rw [if_pos h4]; split <;> omega
        · rw [if_neg h4, if_neg (h3 h4)]; omega
    · by_cases h4 : q n = 0
      · rw [if_pos h4]; split <;> omega
      · rw [if_neg h4, if_neg (h3 h4)]; omega
/-- The least of what may be. -/
theorem least_of (P : Nat → Prop) (r : Nat → Rat) : ∀ n, (∃ w, w < n ∧ P w) → ∃ w, w < n ∧ P w ∧ ∀ v, v < n → P v → r w ≤ r v
  | 0, ⟨w, h, _⟩ => by omega
  | n + 1, ⟨w, h, hp⟩ => by
    by_cases hex : ∃ w, w < n ∧ P w
    · obtain ⟨u, h1, h2, h3⟩ := least_of P r n hex
      by_cases hn : P n ∧ r n < r u
      · refine ⟨n, by omega, hn.1, fun v hv hpv => ?_⟩
        by_cases hvn : v = n
        · subst hvn; exact Rat.le_refl
        · exact Rat.le_trans (Rat.le_of_lt hn.2) (h3 v (by omega) hpv)
      · refine ⟨u, by omega, h2, fun v hv hpv => ?_⟩
        by_cases hvn : v = n
        · subst hvn
          rw [← Rat.not_lt]
          exact fun hc => hn ⟨hpv, hc⟩
        · exact h3 v (by omega) hpv
    · have hwn : w = n := by
        rcases Nat.lt_or_ge w n with h1 | h1
        · exact absurd ⟨w, h1, hp⟩ hex
        · omega
      subst hwn
      refine ⟨w, by omega, hp, fun v hv hpv => ?_⟩
      by_cases hvn : v = w
      · subst hvn; exact Rat.le_refl
      · exact absurd ⟨v, by omega, hpv⟩ hex
theorem neg_of_sum {n : Nat} {d : Nat → Rat} (hs : Zu d n = 0) (hne : ∃ w, w < n ∧ d w ≠ 0) : ∃ w, w < n ∧ d w < 0 := by
  by_cases h : ∃ w, w < n ∧ d w < 0
  · exact h
  · exfalso
    have h0 : ∀ w, w < n → 0 ≤ d w := fun w hw => by
      rw [← Rat.not_lt]; exact fun hc => h ⟨w, hw, hc⟩
    obtain ⟨w, hw, hd⟩ := hne
    have := sumTo_one hw h0
    rw [hs] at this
    exact hd (Rat.le_antisymm this (h0 w hw))
/-- **At a corner there is no more of anything than at any belief.** -/
theorem vertex {n : Nat} {l : List (Int × Int)} (f : Nat → Rat) : ∀ (N : Nat) (p : Nat → Rat), cntN p n ≤ N → Feas n l p → ∃ b, b ∈ Ye n l ∧ Zu (fun w => f w * b.getD w 0) n ≤ Zu (fun w => f w * p w) n := by
  intro N
  induction N with
  | zero =>
    intro p hc hp
    exfalso
    have : ∀ k, cntN p k = 0 → Zu p k = 0 := by
      intro k
      induction k with
      | zero => intro _; rfl
      | succ k ih =>
        intro h
        rw [cntN] at h
        rw [Zu, ih (by omega)]
        by_cases h1 : p k = 0
        · rw [h1, Rat.zero_add]
        · rw [if_neg h1] at h; omega
    have h1 := hp.one
    rw [this n (by omega)] at h1
    exact absurd h1 (by decide)
  | succ N ih =>
    intro p hc hp
    obtain ⟨set, hset⟩ : ∃ s, msk p n = s := ⟨_, rfl⟩
    have hbit : ∀ w, set.testBit w = true ↔ w < n ∧ p w ≠ 0 := fun w => by rw [← hset]; exact msk_bit p w n
    have hlt : set < 2 ^ n := by rw [← hset]; exact msk_lt p n
    have hpos : 1 ≤ set := by
      rcases Nat.eq_zero_or_pos set with h | h
      · exfalso
        have hz : Zu p n = 0 := Ve fun i hi => by
          rcases Decidable.em (p i = 0) with h1 | h1
          · exact h1
          · have := (hbit i).2 ⟨hi, h1⟩
            rw [h, Nat.zero_testBit] at this; cases this
        rw [hp.one] at hz
        exact absurd hz (by decide)
      · exact h
    have hspr : ∀ w, w < n → spr set (fun c => p ((Yk n set).getD c 0)) w = p w := fun w hw => by
      rw [spr]
      by_cases hb : set.testBit w = true
      · rw [if_pos hb, Yk, worldsTo_get hw hb]
      · rw [if_neg hb]
        rcases Decidable.em (p w = 0) with h1 | h1
        · exact h1.symm
        · exact absurd ((hbit w).2 ⟨hw, h1⟩) hb
    have hsol : Sol (l.length + 1) (Yk n set).length (sysB n l (Yk n set)) (fun c => p ((Yk n set).getD c 0)) := by
      rw [sol_iff]
      refine ⟨by rw [Zk hspr]; exact hp.one, fun i hi => ?_⟩
      rw [evq, Zk (g := fun w => bitQ (l.getD i (0, 0)).1.toNat w * p w) fun w hw => by rw [hspr w hw]]
      exact hp.bet i hi
    cases hs : Vf (l.length + 1) (Yk n set).length (sysB n l (Yk n set)) with
    | some xs =>
      obtain ⟨hl, hx⟩ := solve_some hs
      have hxp := (hx _).1 hsol
      have hcor : Vi n l set = some (Xv n (Yk n set) xs (Yk n set).length) := by
        rw [Vi, hs]
        simp only [Option.bind_some]
        rw [if_neg]
        rw [List.any_eq_true]
        rintro ⟨q, hq, hneg⟩
        obtain ⟨t, ht, rfl⟩ := List.getElem_of_mem hq
        have h1 := hxp t (by omega)
        have h1' : xs.getD t 0 = xs[t] := by rw [List.getD, List.getElem?_eq_getElem ht]; rfl
        rw [h1'] at h1
        simp only [decide_eq_true_eq] at hneg
        rw [← h1] at hneg
        have h2 := worldsTo_idx (set := set) (k := n) (c := t) (by rw [hl] at ht; exact ht)
        exact absurd (hp.nn _ h2.2.1) (Rat.not_le.2 hneg)
      refine ⟨_, mem_corners.2 ⟨set, hpos, hlt, hcor⟩, ?_⟩
      rw [Zk (g := fun w => f w * p w) fun w hw => by
        rw [spread_spr hw, ← hspr w hw, spr, spr]
        by_cases hb : set.testBit w = true
        · rw [if_pos hb, if_pos hb, hxp _ (Wu hw hb)]
        · rw [if_neg hb, if_neg hb]]
      exact Rat.le_refl
    | none =>
      rcases solve_none hs with h1 | ⟨δ, hk, c, hcl, hd⟩
      · exact absurd hsol (h1 _)
      · obtain ⟨k1, k2⟩ := ker_iff hk
        obtain ⟨i1, i2, i3⟩ := worldsTo_idx (set := set) (k := n) (c := c) hcl
        -- the side to which it does not grow
        obtain ⟨d, hd1, hd2, hd3, hd4, hd5⟩ : ∃ d : Nat → Rat, Zu d n = 0 ∧ (∀ i, i < l.length → evq n d (l.getD i (0, 0)).1.toNat = 0) ∧ (∀ w, w < n → p w = 0 → d w = 0) ∧ (∃ w, w < n ∧ d w ≠ 0) ∧ Zu (fun w => f w * d w) n ≤ 0 := by
          have z0 : ∀ w, w < n → p w = 0 → spr set δ w = 0 := fun w hw h0 => by
            rw [spr, if_neg]
            intro hb
            exact ((hbit w).1 hb).2 h0
          have n0 : spr set δ ((Yf set n).getD c 0) ≠ 0 := by rw [spr, if_pos i3, i1]; exact hd
          by_cases hsg : Zu (fun w => f w * spr set δ w) n ≤ 0
          · exact ⟨spr set δ, k1, k2, z0, ⟨_, i2, n0⟩, hsg⟩
          · refine ⟨fun w => -1 * spr set δ w, by rw [Xp, k1, Rat.mul_zero], fun i hi => ?_, fun w hw h0 => by simp only [z0 w hw h0, Rat.mul_zero], ⟨_, i2, fun h => n0 (by grind)⟩, ?_⟩
            · rw [evq, Zk (g := fun w => -1 * (bitQ (l.getD i (0, 0)).1.toNat w * spr set δ w)) fun w hw => by grind, Xp]
              have := k2 i hi
              rw [evq] at this
              rw [this, Rat.mul_zero]
            · rw [Zk (g := fun w => -1 * (f w * spr set δ w)) fun w hw => by grind, Xp]
              have := Rat.not_le.1 hsg
              generalize Zu (fun w => f w * spr set δ w) n = A at *
              grind
        obtain ⟨w0, hw0, hneg, hleast⟩ := least_of (fun w => d w < 0) (fun w => p w / (-(d w))) n (neg_of_sum hd1 hd4)
        obtain ⟨t, ht⟩ : ∃ t, p w0 / (-(d w0)) = t := ⟨_, rfl⟩
        have hdp : 0 < -(d w0) := by grind
        have hte : t * (-(d w0)) = p w0 := by rw [← ht]; exact Rat.div_mul_cancel (fun h => by rw [h] at hdp; exact absurd hdp (by decide))
        have ht0 : 0 ≤ t := by
          rw [← Rat.not_lt]
          intro hc
          have := (Rat.mul_lt_mul_right hdp).2 hc
          rw [Rat.zero_mul, hte] at this
          exact absurd (hp.nn w0 hw0) (Rat.not_le.2 this)
        have hpt : p w0 + t * d w0 = 0 := by
          have : t * (-(d w0)) = p w0 := by rw [← ht]; exact Rat.div_mul_cancel (fun h => by rw [h] at hdp; exact absurd hdp (by decide))
          grind
        have hq : Feas n l (fun w => p w + t * d w) := by
          refine ⟨fun w hw => ?_, by rw [Wv, Xp, hd1, hp.one, Rat.mul_zero, Rat.add_zero], fun i hi => ?_⟩
          · by_cases h1 : d w < 0
            · have h2 := hleast w hw h1
              rw [ht] at h2
              have h3 : 0 < -(d w) := by grind
              have h4 : t * (-(d w)) ≤ p w := by
                have h5 := Rat.mul_le_mul_of_nonneg_right h2 (Rat.le_of_lt h3)
                rwa [Rat.div_mul_cancel (fun h => by rw [h] at h3; exact absurd h3 (by decide))] at h5
              grind
            · exact Rat.add_nonneg (hp.nn w hw) (Rat.mul_nonneg ht0 (Rat.not_lt.1 h1))
          · have h1 := hp.bet i hi
            have h2 := hd2 i hi
            rw [evq] at h1 h2 ⊢
            rw [Zk (g := fun w => bitQ (l.getD i (0, 0)).1.toNat w * p w + t * (bitQ (l.getD i (0, 0)).1.toNat w * d w)) fun w hw => by grind, Wv, Xp, h1, h2, Rat.mul_zero, Rat.add_zero]
        have hcnt : cntN (fun w => p w + t * d w) n < cntN p n := (cntN_lt (w := w0) n fun v hv hne h0 => hne (by rw [h0, hd3 v hv h0]; grind)).1 hw0 ⟨hpt, fun h0 => by rw [hd3 w0 hw0 h0] at hneg; exact absurd hneg (by decide)⟩
        obtain ⟨b, hb1, hb2⟩ := ih _ (by omega) hq
        refine ⟨b, hb1, Rat.le_trans hb2 ?_⟩
        rw [Zk (g := fun w => f w * p w + t * (f w * d w)) fun w hw => by grind, Wv, Xp]
        have : t * Zu (fun w => f w * d w) n ≤ t * 0 := Rat.mul_le_mul_of_nonneg_left hd5 ht0
        rw [Rat.mul_zero] at this
        generalize Zu (fun w => f w * p w) n = A at *
        generalize t * Zu (fun w => f w * d w) n = B at *
        grind
end Bq

namespace Bq

/-- A system of noughts and ones, with twelfths on its right side. -/
structure Sy (m k : Nat) (T : Xx) : Prop where
  bit : ∀ i c, i < m → c < k → is01 (T i c)
  right : ∀ i, i < m → Zq 12 (T i k * ((12 : Nat) : Rat))
theorem fac01_le : ∀ n, n ≤ 5 → fac01 n ≤ 60 := by decide
theorem fac_bounds : ∀ n, n ≤ 5 → fac01 n * 12 ≤ 8640 ∧ (n + 1) * (12 * fac01 n) ≤ 8640 := by decide
theorem Sy.parts {m k : Nat} {T S : Xx} (s : Sy m k T) (hk : k ≤ 5) {j : Nat} (hj : j ≤ k) (hr : Xk m T j = some S) :
    ∃ D, 0 < D ∧ D ≤ 720 ∧ ∀ i c, i < m → c ≤ k → ∃ x : Int, Rp D x (S i c) ∧ x.natAbs ≤ 8640 := by
  obtain ⟨π, g⟩ := elim_gi hr
  obtain ⟨D, h1, h2, h3⟩ := g.parts (P := is01) (F := fac01) (fun n M h => det_01 n h) (k := k) (N := 12) (B := 12) (X := 8640) hj (by decide) s.bit s.right (fun n hn => (fac_bounds n (by omega)).1) (fun n hn => (fac_bounds n (by omega)).2)
  refine ⟨D, h1, ?_, h3⟩
  have := Nat.mul_le_mul_right 12 (fac01_le j (by omega))
  omega
theorem Sy.tame {m k : Nat} {T S : Xx} (s : Sy m k T) (hk : k ≤ 5) {j : Nat} (hj : j ≤ k) (hr : Xk m T j = some S) : Tame m k S := by
  obtain ⟨D, h1, h2, h3⟩ := s.parts hk hj hr
  refine ⟨D, h1, by omega, fun i c hi hc => ?_⟩
  obtain ⟨x, h4, h5⟩ := h3 i c hi hc
  exact ⟨x, h4, by omega⟩
/-- Prices are from 0 to 12. -/
def Cts (l : List (Int × Int)) : Prop := ∀ i, i < l.length → 0 ≤ (l.getD i (0, 0)).2 ∧ (l.getD i (0, 0)).2 ≤ 12
theorem sysB_sy {n : Nat} {l : List (Int × Int)} (hl : Cts l) (ws : List Nat) : Sy (l.length + 1) ws.length (sysB n l ws) := by
  obtain ⟨r0, r1⟩ := sys_right n l ws
  refine ⟨fun i c hi hc => ?_, fun i hi => ?_⟩
  · simp only [sysB, hc, if_true]
    split
    · exact bitQ_01 _ _
    · exact bitQ_01 _ _
  · cases i with
    | zero => rw [r0]; exact ⟨12, by decide +kernel, by decide⟩
    | succ i =>
      rw [r1]
      obtain ⟨h1, h2⟩ := hl i (by omega)
      refine ⟨_, divInt_mul (y := 12) (by decide), by omega⟩
theorem tame_all {n : Nat} {l : List (Int × Int)} (hn : n ≤ 5) (hl : Cts l) : TameAll n l := fun set h1 h2 j S hj hS =>
  (sysB_sy hl _).tame (Nat.le_trans (worldsTo_le set n) hn) hj hS
/-- A corner's Wk are parts of one small number. -/
theorem corner_den {n : Nat} {l : List (Int × Int)} {set : Nat} {b : List Rat} (hn : n ≤ 5) (hl : Cts l) (h : Vi n l set = some b) : ∃ D, 0 < D ∧ D ≤ 720 ∧ ∀ w, w < n → (b.getD w 0).den ∣ D := by
  rw [Vi] at h
  cases hs : Vf (l.length + 1) (Yk n set).length (sysB n l (Yk n set)) with
  | none => rw [hs] at h; cases h
  | some xs =>
    rw [hs] at h
    simp only [Option.bind_some] at h
    split at h
    · cases h
    · cases h
      have hk : (Yk n set).length ≤ 5 := Nat.le_trans (worldsTo_le set n) hn
      rw [Vf] at hs
      cases hr : Xk (l.length + 1) (sysB n l (Yk n set)) (Yk n set).length with
      | none => rw [hr] at hs; cases hs
      | some S =>
        rw [hr] at hs
        simp only [Option.bind_some] at hs
        split at hs
        · cases hs
        · have hjm : (Yk n set).length ≤ l.length + 1 := by
            obtain ⟨π, g⟩ := elim_gi hr
            exact g.jm
          obtain ⟨D, h1, h2, h3⟩ := (sysB_sy (n := n) hl (Yk n set)).parts hk (Nat.le_refl _) hr
          refine ⟨D, h1, h2, fun w hw => ?_⟩
          rw [spread_spr hw, spr]
          split
          · next hb =>
            have hlt : (Yf set w).length < (Yk n set).length := Wu hw hb
            cases hs
            obtain ⟨x, g1, g2⟩ := h3 (Yf set w).length (Yk n set).length (Nat.lt_of_lt_of_le hlt hjm) (Nat.le_refl _)
            have e : ((List.range (Yk n set).length).map fun i => S i (Yk n set).length).getD (Yf set w).length 0 = S (Yf set w).length (Yk n set).length := by
              rw [List.getD, List.getElem?_map, List.getElem?_range hlt]; rfl
            rw [e]; exact g1.dvd
          · exact Nat.one_dvd _

end Bq

namespace Go.Proofs.Try.Am
open Go.Am Bq
set_option maxRecDepth 100000
set_option maxHeartbeats 1000000

section
variable {h h' : Zh} {B m k C : Nat} {w : Nat → Value} {bk : Nat → Nat} {T T' : Xx}
end
/-- Equations as they grow, from none on. -/
def RowsN (hp0 : Nat) (G : Zh) (q : Value) (ws : List Value) (k : Nat) (T : Xx) : Prop := (ws = [] ∧ q = .slice none 0 0) ∨ (Rows hp0 G q ws k T ∧ OwnV 47 G q ws)
/-- One row more. -/
theorem Rows.moreN [Tabs prog] {hp0 : Nat} {G G2 : Zh} {q rv : Value} {ws : List Value} {k b2 : Nat} {T : Xx} (R : Rows hp0 G q ws k T) (hl : ws.length ≤ 1000) (h0 : hp0 ≤ G.length) (hE : Ext (fun _ => False) G G2) (hr : OwnP 26 G2 rv (rowC T k ws.length)) (hrb : ∀ b, Ym rv = some b → G.length ≤ b) (hb2 : G2[b2]? = some (.cells [rv] 47 false))
    {K : Value → Zh → Prop} (hk : ∀ q' h', OwnV 47 h' q' (ws ++ [rv]) → Rows hp0 h' q' (ws ++ [rv]) k T → Ext (fun b => hp0 ≤ b) G2 h' → Ext (fun i => Ym q = some i) G2 h' → K q' h') : Yy prog G2 94 94 q (.slice (some ⟨b2, 0, none⟩) 1 1) K := by
  have R2 := R.ext hE
  obtain ⟨bq, cq, hbq, hq1, hq2⟩ := R.sl.blk R.ne
  obtain ⟨br, yr, hr1, hr2⟩ := Wg hr rowC_ne
  have hbr : Ym rv = some br := by rw [hr1]; rfl
  have hbrl := hrb br hbr
  have hw : ∀ w ∈ ws ++ [rv], notI w = true ∧ one w = true := fun w hw => by
    rcases List.mem_append.1 hw with h1 | h1
    · obtain ⟨i, hi, rfl⟩ := List.mem_iff_getElem.1 h1
      obtain ⟨b, ys, e1, _⟩ := Wg (R.row i hi) rowC_ne
      rw [List.getD, List.getElem?_eq_getElem hi, Option.getD_some] at e1
      rw [e1]; exact ⟨rfl, rfl⟩
    · rw [List.mem_singleton.1 h1, hr1]; exact ⟨rfl, rfl⟩
  refine R2.sl.app R.ne app_94_94 hb2 hw hl fun q' h' ho hE' hb' => ?_
  have rowb : ∀ i, i < ws.length → ∃ b, Ym (ws.getD i undef) = some b ∧ b < G.length := fun i hi => by
    obtain ⟨b, ys, e1, e2⟩ := Wg (R.row i hi) rowC_ne
    exact ⟨b, by rw [e1]; rfl, Yl e2⟩
  have g1 : ∀ i, i < ws.length → (ws ++ [rv]).getD i undef = ws.getD i undef := fun i hi => by
    rw [List.getD, List.getElem?_append_left hi]; rfl
  have g2 : (ws ++ [rv]).getD ws.length undef = rv := by simp [List.getD]
  have hq'b : ∀ b, Ym q' = some b → b = bq ∨ G2.length ≤ b := fun b hb => by
    rcases hb' with h1 | ⟨b', h1, h2⟩
    · rw [h1, hbq] at hb; cases hb; exact .inl rfl
    · rw [h1] at hb; cases hb; exact .inr h2
  have keep : ∀ b, b ≠ bq → b < G2.length → h'[b]? = G2[b]? := fun b hb hl => hE'.2 b hl fun hc => hb (by rw [hbq] at hc; cases hc; rfl)
  refine hk q' h' ho ⟨.inr ho, by simp, fun i hi => ?_, fun i j hi hj he => ?_, fun i hi => ?_, ⟨fun b hb => ?_, fun i b hi hb => ?_⟩⟩ (hE'.mono fun b hb => R.old.1 b hb) hE'
  · rw [List.length_append, List.length_singleton] at hi
    rcases Nat.lt_or_ge i ws.length with h1 | h1
    · rw [g1 i h1]
      refine (R2.row i h1).same fun b hb => ?_
      obtain ⟨b', e1, e2⟩ := rowb i h1
      rw [e1] at hb; cases hb
      exact keep _ (fun hc => R.sep i h1 (by rw [e1, hbq, hc])) (by have := hE.1; omega)
    · rw [show i = ws.length by omega, g2]
      refine hr.same fun b hb => ?_
      rw [hbr] at hb; cases hb
      exact keep _ (by omega) (Yl hr2)
  · rw [List.length_append, List.length_singleton] at hi hj
    rcases Nat.lt_or_ge i ws.length with h1 | h1 <;> rcases Nat.lt_or_ge j ws.length with h2 | h2
    · rw [g1 i h1, g1 j h2] at he; exact R.inj i j h1 h2 he
    · rw [g1 i h1, show j = ws.length by omega, g2, hbr] at he
      obtain ⟨b', e1, e2⟩ := rowb i h1
      rw [e1] at he; cases he; omega
    · rw [g1 j h2, show i = ws.length by omega, g2, hbr] at he
      obtain ⟨b', e1, e2⟩ := rowb j h2
      rw [e1] at he; cases he; omega
    · omega
  · rw [List.length_append, List.length_singleton] at hi
    intro hc
    rcases Nat.lt_or_ge i ws.length with h1 | h1
    · rw [g1 i h1] at hc
      obtain ⟨b', e1, e2⟩ := rowb i h1
      rw [e1] at hc
      rcases hq'b b' hc.symm with h3 | h3
      · exact R.sep i h1 (by rw [e1, hbq, h3])
      · have := hE.1; omega
    · rw [show i = ws.length by omega, g2, hbr] at hc
      rcases hq'b br hc.symm with h3 | h3
      · omega
      · have := Yl hr2; omega
  · rcases hq'b b hb with h3 | h3
    · rw [h3]; exact R.old.1 _ hbq
    · have := hE.1; omega
  · rw [List.length_append, List.length_singleton] at hi
    rcases Nat.lt_or_ge i ws.length with h1 | h1
    · rw [g1 i h1] at hb; exact R.old.2 i b h1 hb
    · rw [show i = ws.length by omega, g2] at hb
      have := hrb b hb; omega

theorem RowsN.more [Tabs prog] {hp0 : Nat} {G G2 : Zh} {q rv : Value} {ws : List Value} {k b2 : Nat} {T : Xx} (R : RowsN hp0 G q ws k T) (hl : ws.length ≤ 1000) (h0 : hp0 ≤ G.length) (hE : Ext (fun _ => False) G G2) (hr : OwnP 26 G2 rv (rowC T k ws.length)) (hrb : ∀ b, Ym rv = some b → G.length ≤ b) (hb2 : G2[b2]? = some (.cells [rv] 47 false))
    {K : Value → Zh → Prop} (hk : ∀ q' h', RowsN hp0 h' q' (ws ++ [rv]) k T → Ext (fun b => hp0 ≤ b) G2 h' → Ext (fun i => Ym q = some i) G2 h' → K q' h') : Yy prog G2 94 94 q (.slice (some ⟨b2, 0, none⟩) 1 1) K := by
  rcases R with ⟨rfl, rfl⟩ | ⟨R, _⟩
  · obtain ⟨br, yr, hr1, hr2⟩ := Wg hr rowC_ne
    have hbr : Ym rv = some br := by rw [hr1]; rfl
    have hbrl := hrb br hbr
    refine OwnV.app (e := 47) (h := G2) (v := .slice none 0 0) (ws := []) (us := [rv]) (.inl ⟨rfl, rfl⟩) app_94_94 (.inr ⟨b2, 0, none, 1, [rv], 47, false, rfl, Nat.le_refl _, by simp [view, hb2, Blk.view], rfl⟩) (fun w hw => ?_) (by simp) fun q' h' ho hE' hb' => ?_
    · rw [List.nil_append, List.mem_singleton] at hw
      rw [hw, hr1]; exact ⟨rfl, rfl⟩
    · have hE2 : Ext (fun _ => False) G2 h' := hE'.mono fun b hb => by cases hb
      refine hk q' h' (.inr ⟨⟨.inr ho, by simp, fun i hi => ?_, fun i j hi hj _ => ?_, fun i hi hc => ?_, ⟨fun b hb => ?_, fun i b hi hb => ?_⟩⟩, ho⟩) (hE2.mono fun _ h => h.elim) hE'
      · obtain rfl : i = 0 := by simpa using hi
        exact hr.ext hE2
      · simp at hi hj; omega
      · obtain rfl : i = 0 := by simpa using hi
        simp only [List.nil_append, List.getD, List.getElem?_cons_zero, Option.getD_some, hbr] at hc
        rcases hb' with h1 | ⟨b', h1, h2⟩
        · rw [h1] at hc; cases hc
        · rw [h1] at hc; cases hc
          have := Yl hr2; omega
      · rcases hb' with h1 | ⟨b', h1, h2⟩
        · rw [h1] at hb; cases hb
        · rw [h1] at hb; cases hb
          have := hE.1; omega
      · obtain rfl : i = 0 := by simpa using hi
        simp only [List.nil_append, List.getD, List.getElem?_cons_zero, Option.getD_some, hbr] at hb
        cases hb; omega
  · exact R.moreN hl h0 hE hr hrb hb2 fun q' h' ho R' e1 e2 => hk q' h' (.inr ⟨R', ho⟩) e1 e2
end Go.Proofs.Try.Am

namespace Go.Proofs.Try.Am
open Go.Am Bq
set_option maxRecDepth 100000
set_option maxHeartbeats 4000000

end Go.Proofs.Try.Am

namespace Go.Proofs.Try.Am
open Go.Am Bq
set_option maxRecDepth 100000
set_option maxHeartbeats 4000000

theorem cts_of {n : Nat} {l : List (Int × Int)} (h : Yx n l = true) : Cts l := fun i hi => by
  have := (Vh h).2.2.2.2 i hi
  simp only [okB, Bool.and_eq_true, decide_eq_true_eq] at this
  exact this.2.2
end Go.Proofs.Try.Am

namespace Go.Proofs.Try.Am
open Go.Am Bq
set_option maxRecDepth 100000
set_option maxHeartbeats 4000000

def CornSlR (h : Zh) (v : Value) (cs : List (List Rat)) : Prop := ∃ ws, OwnV 47 h v ws ∧ Each (BelAt h) ws cs
theorem CornSlR.ext {h h' : Zh} {v : Value} {cs : List (List Rat)} (c : CornSlR h v cs) (hE : Ext (fun _ => False) h h') : CornSlR h' v cs := by
  obtain ⟨ws, h1, h2⟩ := c
  exact ⟨ws, h1.ext hE, h2.imp fun w b ⟨bl, g1, g2⟩ => ⟨bl, g1, (hE.2 _ (Yl g2) id).trans g2⟩⟩

end Go.Proofs.Try.Am

namespace Go.Proofs.Try.Am
open Go.Am
set_option maxRecDepth 100000
/-! 3: planchet planchetlaw09.BetsMore -/
@[reducible] def q3_0 : SCode := .region [⟨some 6, .box 24 (.tmp 2), none⟩,
    ⟨some 8, .assign (.const (.bool false)), none⟩]
@[reducible] def q3_1 : SCode := .region [⟨some 17, .move (.tmp 0), none⟩,
    ⟨some 18, .move (.tmp 1), none⟩,
    ⟨some 19, .call { callee := .value (.func 18), args := #[.tmp 18], argTypes := #[22] }, none⟩,
    ⟨some 20, .move (.tmp 3), none⟩,
    ⟨some 21, .call { callee := .value (.func 17), args := #[.tmp 17, .tmp 19, .tmp 20], argTypes := #[3, 30, 3] }, none⟩,
    ⟨some 16, .move (.tmp 21), none⟩,
    ⟨some 22, .extract (.tmp 16) 0, none⟩,
    ⟨some 23, .extract (.tmp 16) 1, none⟩,
    ⟨some 24, .extract (.tmp 16) 2, none⟩,
    ⟨some 9, .alloc 26, none⟩,
    ⟨some 10, .alloc 26, none⟩,
    ⟨none, .store 26 (.tmp 9) (.tmp 22), none⟩,
    ⟨none, .store 26 (.tmp 10) (.tmp 23), none⟩,
    ⟨some 11, .assign (.tmp 24), none⟩]
def q3_2 : SCode := .draw [⟨some 25, .move (.tmp 1), none⟩,
    ⟨some 26, .call { callee := .value (.func 19), args := #[.tmp 25], argTypes := #[22] }, none⟩,
    ⟨some 27, .load 24 (.tmp 6), none⟩,
    ⟨some 28, .buildSlice 22 1 #[(0, .tmp 27)], none⟩,
    ⟨some 29, .call { callee := .builtin .append, args := #[.tmp 26, .tmp 28], argTypes := #[22, 22] }, none⟩,
    ⟨some 12, .assign (.tmp 29), none⟩]
   [[], [0], [], [2], [1, 3, 1], [4, 4, 0, 1, 2, 3, 4]]
@[reducible] def q3_3 : SCode := .region [⟨some 31, .move (.tmp 0), none⟩,
    ⟨some 32, .move (.tmp 12), none⟩,
    ⟨some 33, .call { callee := .value (.func 18), args := #[.tmp 32], argTypes := #[22] }, none⟩,
    ⟨some 34, .move (.tmp 3), none⟩,
    ⟨some 35, .call { callee := .value (.func 17), args := #[.tmp 31, .tmp 33, .tmp 34], argTypes := #[3, 30, 3] }, none⟩,
    ⟨some 30, .move (.tmp 35), none⟩,
    ⟨some 36, .extract (.tmp 30) 0, none⟩,
    ⟨some 37, .extract (.tmp 30) 1, none⟩,
    ⟨some 38, .extract (.tmp 30) 2, none⟩,
    ⟨some 13, .alloc 26, none⟩,
    ⟨some 14, .alloc 26, none⟩,
    ⟨none, .store 26 (.tmp 13) (.tmp 36), none⟩,
    ⟨none, .store 26 (.tmp 14) (.tmp 37), none⟩,
    ⟨some 15, .assign (.tmp 38), none⟩]
@[reducible] def q3_4 : SCode := .region [⟨some 39, .move (.tmp 0), none⟩,
    ⟨some 40, .move (.tmp 1), none⟩,
    ⟨some 41, .call { callee := .value (.func 20), args := #[.tmp 39, .tmp 40], argTypes := #[3, 22] }, none⟩,
    ⟨some 42, .unOp .not 4 (.tmp 41), none⟩]
@[reducible] def q3_5 : SCode := .region [⟨some 43, .move (.tmp 11), none⟩,
    ⟨some 44, .binOp .eql 27 (.tmp 43) (.const (.int .i64 2)) 27, none⟩,
    ⟨some 45, .move (.tmp 44), none⟩,
    ⟨some 46, .call { callee := .value (.func 21), args := #[], argTypes := #[] }, some (45, true)⟩,
    ⟨some 47, .pick (.tmp 45) (.tmp 46) (.const (.bool false)), none⟩,
    ⟨some 8, .assign (.tmp 47), none⟩]
@[reducible] def q3_6 : SCode := .region [⟨some 48, .move (.tmp 11), none⟩,
    ⟨some 49, .binOp .neq 27 (.tmp 48) (.const (.int .i64 0)) 27, none⟩,
    ⟨some 50, .move (.tmp 49), none⟩,
    ⟨some 51, .move (.tmp 15), some (50, false)⟩,
    ⟨some 52, .binOp .neq 27 (.tmp 51) (.const (.int .i64 0)) 27, some (50, false)⟩,
    ⟨some 53, .pick (.tmp 50) (.const (.bool true)) (.tmp 52), none⟩,
    ⟨some 54, .move (.tmp 53), none⟩,
    ⟨some 55, .move (.tmp 0), some (54, false)⟩,
    ⟨some 56, .move (.tmp 12), some (54, false)⟩,
    ⟨some 57, .call { callee := .value (.func 20), args := #[.tmp 55, .tmp 56], argTypes := #[3, 22] }, some (54, false)⟩,
    ⟨some 58, .unOp .not 4 (.tmp 57), some (54, false)⟩,
    ⟨some 59, .pick (.tmp 54) (.const (.bool true)) (.tmp 58), none⟩]
@[reducible] def q3_7 : SCode := .region [⟨some 60, .move (.tmp 11), none⟩,
    ⟨some 61, .binOp .eql 27 (.tmp 60) (.const (.int .i64 0)) 27, none⟩,
    ⟨some 62, .move (.tmp 61), none⟩,
    ⟨some 63, .move (.tmp 11), some (62, false)⟩,
    ⟨some 64, .binOp .eql 27 (.tmp 63) (.const (.int .i64 2)) 27, some (62, false)⟩,
    ⟨some 65, .pick (.tmp 62) (.const (.bool true)) (.tmp 64), none⟩,
    ⟨some 66, .move (.tmp 65), none⟩,
    ⟨some 67, .move (.tmp 11), some (66, false)⟩,
    ⟨some 68, .binOp .eql 27 (.tmp 67) (.const (.int .i64 5)) 27, some (66, false)⟩,
    ⟨some 69, .pick (.tmp 66) (.const (.bool true)) (.tmp 68), none⟩,
    ⟨some 70, .move (.tmp 69), none⟩,
    ⟨some 71, .move (.tmp 15), some (70, true)⟩,
    ⟨some 72, .binOp .eql 27 (.tmp 71) (.const (.int .i64 2)) 27, some (70, true)⟩,
    ⟨some 73, .move (.tmp 72), some (70, true)⟩,
    ⟨some 74, .move (.tmp 15), some (73, false)⟩,
    ⟨some 75, .binOp .eql 27 (.tmp 74) (.const (.int .i64 5)) 27, some (73, false)⟩,
    ⟨some 76, .pick (.tmp 73) (.const (.bool true)) (.tmp 75), some (70, true)⟩,
    ⟨some 77, .pick (.tmp 70) (.tmp 76) (.const (.bool false)), none⟩,
    ⟨some 78, .move (.tmp 77), none⟩,
    ⟨some 79, .call { callee := .value (.func 21), args := #[], argTypes := #[] }, some (78, true)⟩,
    ⟨some 80, .pick (.tmp 78) (.tmp 79) (.const (.bool false)), none⟩,
    ⟨some 8, .assign (.tmp 80), none⟩]
@[reducible] def q3_8 : SCode := .region [⟨some 81, .load 26 (.tmp 9), none⟩,
    ⟨some 82, .call { callee := .value (.func 22), args := #[.tmp 81], argTypes := #[26] }, none⟩,
    ⟨some 83, .move (.tmp 82), none⟩,
    ⟨some 84, .load 26 (.tmp 10), some (83, true)⟩,
    ⟨some 85, .call { callee := .value (.func 22), args := #[.tmp 84], argTypes := #[26] }, some (83, true)⟩,
    ⟨some 86, .pick (.tmp 83) (.tmp 85) (.const (.bool false)), none⟩,
    ⟨some 87, .move (.tmp 86), none⟩,
    ⟨some 88, .load 26 (.tmp 13), some (87, true)⟩,
    ⟨some 89, .call { callee := .value (.func 22), args := #[.tmp 88], argTypes := #[26] }, some (87, true)⟩,
    ⟨some 90, .pick (.tmp 87) (.tmp 89) (.const (.bool false)), none⟩,
    ⟨some 91, .move (.tmp 90), none⟩,
    ⟨some 92, .load 26 (.tmp 14), some (91, true)⟩,
    ⟨some 93, .call { callee := .value (.func 22), args := #[.tmp 92], argTypes := #[26] }, some (91, true)⟩,
    ⟨some 94, .pick (.tmp 91) (.tmp 93) (.const (.bool false)), none⟩,
    ⟨some 95, .move (.tmp 94), none⟩,
    ⟨some 96, .load 26 (.tmp 13), some (95, true)⟩,
    ⟨some 97, .load 26 (.tmp 9), some (95, true)⟩,
    ⟨some 98, .call { callee := .value (.func 23), args := #[.tmp 96, .tmp 97], argTypes := #[26, 26] }, some (95, true)⟩,
    ⟨some 99, .unOp .not 4 (.tmp 98), some (95, true)⟩,
    ⟨some 100, .pick (.tmp 95) (.tmp 99) (.const (.bool false)), none⟩,
    ⟨some 101, .move (.tmp 100), none⟩,
    ⟨some 102, .load 26 (.tmp 10), some (101, true)⟩,
    ⟨some 103, .load 26 (.tmp 14), some (101, true)⟩,
    ⟨some 104, .call { callee := .value (.func 23), args := #[.tmp 102, .tmp 103], argTypes := #[26, 26] }, some (101, true)⟩,
    ⟨some 105, .unOp .not 4 (.tmp 104), some (101, true)⟩,
    ⟨some 106, .pick (.tmp 101) (.tmp 105) (.const (.bool false)), none⟩,
    ⟨some 107, .move (.tmp 106), none⟩,
    ⟨some 108, .call { callee := .value (.func 21), args := #[], argTypes := #[] }, some (107, true)⟩,
    ⟨some 109, .pick (.tmp 107) (.tmp 108) (.const (.bool false)), none⟩,
    ⟨some 8, .assign (.tmp 109), none⟩]
def s3 : SCode := (.seq q3_0 (.seq q3_1 (.seq q3_2 (.seq q3_3 (.seq (.seq q3_4 (.cond (.tmp 42) (.seq q3_5 .ret) .skip)) (.seq (.seq q3_6 (.cond (.tmp 59) (.seq q3_7 .ret) .skip)) (.seq q3_8 .ret)))))))
/-! 4: planchet planchetlaw09.BetsBounds -/
@[reducible] def q4_0 : SCode := .region [⟨some 6, .assign (.const (.bool false)), none⟩]
@[reducible] def q4_1 : SCode := .region [⟨some 15, .move (.tmp 0), none⟩,
    ⟨some 16, .move (.tmp 1), none⟩,
    ⟨some 17, .call { callee := .value (.func 18), args := #[.tmp 16], argTypes := #[22] }, none⟩,
    ⟨some 18, .move (.tmp 2), none⟩,
    ⟨some 19, .call { callee := .value (.func 17), args := #[.tmp 15, .tmp 17, .tmp 18], argTypes := #[3, 30, 3] }, none⟩,
    ⟨some 14, .move (.tmp 19), none⟩,
    ⟨some 20, .extract (.tmp 14) 0, none⟩,
    ⟨some 21, .extract (.tmp 14) 1, none⟩,
    ⟨some 22, .extract (.tmp 14) 2, none⟩,
    ⟨some 7, .alloc 26, none⟩,
    ⟨some 8, .alloc 26, none⟩,
    ⟨none, .store 26 (.tmp 7) (.tmp 20), none⟩,
    ⟨none, .store 26 (.tmp 8) (.tmp 21), none⟩,
    ⟨some 9, .assign (.tmp 22), none⟩]
@[reducible] def q4_2 : SCode := .region [⟨some 24, .move (.tmp 0), none⟩,
    ⟨some 25, .move (.tmp 1), none⟩,
    ⟨some 26, .call { callee := .value (.func 18), args := #[.tmp 25], argTypes := #[22] }, none⟩,
    ⟨some 27, .move (.tmp 2), none⟩,
    ⟨some 28, .call { callee := .value (.func 24), args := #[.tmp 24, .tmp 26, .tmp 27], argTypes := #[3, 30, 3] }, none⟩,
    ⟨some 23, .move (.tmp 28), none⟩,
    ⟨some 29, .extract (.tmp 23) 0, none⟩,
    ⟨some 30, .extract (.tmp 23) 1, none⟩,
    ⟨some 10, .assign (.tmp 29), none⟩,
    ⟨some 11, .assign (.tmp 30), none⟩]
@[reducible] def q4_3 : SCode := .region [⟨some 31, .move (.tmp 0), none⟩,
    ⟨some 32, .move (.tmp 1), none⟩,
    ⟨some 33, .call { callee := .value (.func 20), args := #[.tmp 31, .tmp 32], argTypes := #[3, 22] }, none⟩,
    ⟨some 34, .unOp .not 4 (.tmp 33), none⟩,
    ⟨some 35, .move (.tmp 34), none⟩,
    ⟨some 36, .move (.tmp 0), some (35, false)⟩,
    ⟨some 37, .move (.tmp 2), some (35, false)⟩,
    ⟨some 38, .call { callee := .value (.func 25), args := #[.tmp 36, .tmp 37], argTypes := #[3, 3] }, some (35, false)⟩,
    ⟨some 39, .unOp .not 4 (.tmp 38), some (35, false)⟩,
    ⟨some 40, .pick (.tmp 35) (.const (.bool true)) (.tmp 39), none⟩]
@[reducible] def q4_4 : SCode := .region [⟨some 41, .load 26 (.tmp 7), none⟩,
    ⟨some 42, .call { callee := .value (.func 26), args := #[.tmp 41], argTypes := #[26] }, none⟩,
    ⟨some 43, .move (.tmp 42), none⟩,
    ⟨some 44, .load 26 (.tmp 8), some (43, true)⟩,
    ⟨some 45, .call { callee := .value (.func 26), args := #[.tmp 44], argTypes := #[26] }, some (43, true)⟩,
    ⟨some 46, .pick (.tmp 43) (.tmp 45) (.const (.bool false)), none⟩,
    ⟨some 47, .move (.tmp 46), none⟩,
    ⟨some 48, .move (.tmp 10), some (47, true)⟩,
    ⟨some 49, .call { callee := .builtin .len, args := #[.tmp 48], argTypes := #[38] }, some (47, true)⟩,
    ⟨some 50, .binOp .eql 3 (.tmp 49) (.const (.int .i64 0)) 3, some (47, true)⟩,
    ⟨some 51, .pick (.tmp 47) (.tmp 50) (.const (.bool false)), none⟩,
    ⟨some 52, .move (.tmp 51), none⟩,
    ⟨some 53, .move (.tmp 9), some (52, true)⟩,
    ⟨some 54, .binOp .eql 27 (.tmp 53) (.const (.int .i64 2)) 27, some (52, true)⟩,
    ⟨some 55, .pick (.tmp 52) (.tmp 54) (.const (.bool false)), none⟩,
    ⟨some 56, .move (.tmp 55), none⟩,
    ⟨some 57, .move (.tmp 11), some (56, true)⟩,
    ⟨some 58, .binOp .eql 27 (.tmp 57) (.const (.int .i64 2)) 27, some (56, true)⟩,
    ⟨some 59, .pick (.tmp 56) (.tmp 58) (.const (.bool false)), none⟩,
    ⟨some 60, .move (.tmp 59), none⟩,
    ⟨some 61, .call { callee := .value (.func 21), args := #[], argTypes := #[] }, some (60, true)⟩,
    ⟨some 62, .pick (.tmp 60) (.tmp 61) (.const (.bool false)), none⟩,
    ⟨some 6, .assign (.tmp 62), none⟩]
@[reducible] def q4_5 : SCode := .region [⟨some 63, .move (.tmp 0), none⟩,
    ⟨some 64, .move (.tmp 1), none⟩,
    ⟨some 65, .call { callee := .value (.func 27), args := #[.tmp 63, .tmp 64], argTypes := #[3, 22] }, none⟩,
    ⟨some 66, .unOp .not 4 (.tmp 65), none⟩]
@[reducible] def q4_6 : SCode := .region [⟨some 67, .load 26 (.tmp 7), none⟩,
    ⟨some 68, .call { callee := .value (.func 26), args := #[.tmp 67], argTypes := #[26] }, none⟩,
    ⟨some 69, .move (.tmp 68), none⟩,
    ⟨some 70, .load 26 (.tmp 8), some (69, true)⟩,
    ⟨some 71, .call { callee := .value (.func 26), args := #[.tmp 70], argTypes := #[26] }, some (69, true)⟩,
    ⟨some 72, .pick (.tmp 69) (.tmp 71) (.const (.bool false)), none⟩,
    ⟨some 73, .move (.tmp 72), none⟩,
    ⟨some 74, .move (.tmp 10), some (73, true)⟩,
    ⟨some 75, .call { callee := .builtin .len, args := #[.tmp 74], argTypes := #[38] }, some (73, true)⟩,
    ⟨some 76, .binOp .eql 3 (.tmp 75) (.const (.int .i64 0)) 3, some (73, true)⟩,
    ⟨some 77, .pick (.tmp 73) (.tmp 76) (.const (.bool false)), none⟩,
    ⟨some 78, .move (.tmp 77), none⟩,
    ⟨some 79, .move (.tmp 9), some (78, true)⟩,
    ⟨some 80, .binOp .eql 27 (.tmp 79) (.const (.int .i64 5)) 27, some (78, true)⟩,
    ⟨some 81, .pick (.tmp 78) (.tmp 80) (.const (.bool false)), none⟩,
    ⟨some 82, .move (.tmp 81), none⟩,
    ⟨some 83, .move (.tmp 11), some (82, true)⟩,
    ⟨some 84, .binOp .eql 27 (.tmp 83) (.const (.int .i64 5)) 27, some (82, true)⟩,
    ⟨some 85, .pick (.tmp 82) (.tmp 84) (.const (.bool false)), none⟩,
    ⟨some 86, .move (.tmp 85), none⟩,
    ⟨some 87, .call { callee := .value (.func 21), args := #[], argTypes := #[] }, some (86, true)⟩,
    ⟨some 88, .pick (.tmp 86) (.tmp 87) (.const (.bool false)), none⟩,
    ⟨some 6, .assign (.tmp 88), none⟩]
@[reducible] def q4_7 : SCode := .region [⟨some 90, .move (.tmp 0), none⟩,
    ⟨some 91, .move (.tmp 1), none⟩,
    ⟨some 92, .move (.tmp 2), none⟩,
    ⟨some 93, .call { callee := .value (.func 28), args := #[.tmp 90, .tmp 91, .tmp 92], argTypes := #[3, 22, 3] }, none⟩,
    ⟨some 89, .move (.tmp 93), none⟩,
    ⟨some 94, .extract (.tmp 89) 0, none⟩,
    ⟨some 95, .extract (.tmp 89) 1, none⟩,
    ⟨some 12, .alloc 26, none⟩,
    ⟨some 13, .alloc 26, none⟩,
    ⟨none, .store 26 (.tmp 12) (.tmp 94), none⟩,
    ⟨none, .store 26 (.tmp 13) (.tmp 95), none⟩]
@[reducible] def q4_8 : SCode := .region [⟨some 96, .load 26 (.tmp 7), none⟩,
    ⟨some 97, .load 26 (.tmp 12), none⟩,
    ⟨some 98, .binOp .eql 26 (.tmp 96) (.tmp 97) 26, none⟩,
    ⟨some 99, .move (.tmp 98), none⟩,
    ⟨some 100, .load 26 (.tmp 8), some (99, true)⟩,
    ⟨some 101, .load 26 (.tmp 13), some (99, true)⟩,
    ⟨some 102, .binOp .eql 26 (.tmp 100) (.tmp 101) 26, some (99, true)⟩,
    ⟨some 103, .pick (.tmp 99) (.tmp 102) (.const (.bool false)), none⟩,
    ⟨some 104, .move (.tmp 103), none⟩,
    ⟨some 105, .move (.tmp 9), some (104, true)⟩,
    ⟨some 106, .binOp .eql 27 (.tmp 105) (.const (.int .i64 0)) 27, some (104, true)⟩,
    ⟨some 107, .pick (.tmp 104) (.tmp 106) (.const (.bool false)), none⟩,
    ⟨some 108, .move (.tmp 107), none⟩,
    ⟨some 109, .move (.tmp 10), some (108, true)⟩,
    ⟨some 110, .move (.tmp 0), some (108, true)⟩,
    ⟨some 111, .move (.tmp 1), some (108, true)⟩,
    ⟨some 112, .move (.tmp 2), some (108, true)⟩,
    ⟨some 113, .call { callee := .value (.func 30), args := #[.tmp 110, .tmp 111, .tmp 112], argTypes := #[3, 22, 3] }, some (108, true)⟩,
    ⟨some 114, .call { callee := .value (.func 29), args := #[.tmp 109, .tmp 113], argTypes := #[38, 38] }, some (108, true)⟩,
    ⟨some 115, .pick (.tmp 108) (.tmp 114) (.const (.bool false)), none⟩,
    ⟨some 116, .move (.tmp 115), none⟩,
    ⟨some 117, .move (.tmp 11), some (116, true)⟩,
    ⟨some 118, .binOp .eql 27 (.tmp 117) (.const (.int .i64 0)) 27, some (116, true)⟩,
    ⟨some 119, .pick (.tmp 116) (.tmp 118) (.const (.bool false)), none⟩,
    ⟨some 120, .move (.tmp 119), none⟩,
    ⟨some 121, .call { callee := .value (.func 21), args := #[], argTypes := #[] }, some (120, true)⟩,
    ⟨some 122, .pick (.tmp 120) (.tmp 121) (.const (.bool false)), none⟩,
    ⟨some 6, .assign (.tmp 122), none⟩]
def s4 : SCode := (.seq q4_0 (.seq q4_1 (.seq q4_2 (.seq (.seq q4_3 (.cond (.tmp 40) (.seq q4_4 .ret) .skip)) (.seq (.seq q4_5 (.cond (.tmp 66) (.seq q4_6 .ret) .skip)) (.seq q4_7 (.seq q4_8 .ret)))))))
/-! 6: planchet planchetlaw09.BetsSound -/
@[reducible] def q6_0 : SCode := .region [⟨some 6, .assign (.const (.bool false)), none⟩]
@[reducible] def q6_1 : SCode := .region [⟨some 12, .move (.tmp 0), none⟩,
    ⟨some 13, .move (.tmp 1), none⟩,
    ⟨some 14, .call { callee := .value (.func 18), args := #[.tmp 13], argTypes := #[22] }, none⟩,
    ⟨some 15, .call { callee := .value (.func 36), args := #[.tmp 12, .tmp 14], argTypes := #[3, 30] }, none⟩,
    ⟨some 11, .move (.tmp 15), none⟩,
    ⟨some 16, .extract (.tmp 11) 0, none⟩,
    ⟨some 17, .extract (.tmp 11) 1, none⟩,
    ⟨some 7, .assign (.tmp 16), none⟩,
    ⟨some 8, .assign (.tmp 17), none⟩]
@[reducible] def q6_2 : SCode := .region [⟨some 19, .move (.tmp 0), none⟩,
    ⟨some 20, .move (.tmp 1), none⟩,
    ⟨some 21, .call { callee := .value (.func 18), args := #[.tmp 20], argTypes := #[22] }, none⟩,
    ⟨some 22, .move (.tmp 2), none⟩,
    ⟨some 23, .call { callee := .value (.func 32), args := #[.tmp 22], argTypes := #[47] }, none⟩,
    ⟨some 24, .call { callee := .value (.func 37), args := #[.tmp 19, .tmp 21, .tmp 23], argTypes := #[3, 30, 47] }, none⟩,
    ⟨some 18, .move (.tmp 24), none⟩,
    ⟨some 25, .extract (.tmp 18) 0, none⟩,
    ⟨some 26, .extract (.tmp 18) 1, none⟩,
    ⟨some 9, .assign (.tmp 25), none⟩,
    ⟨some 10, .assign (.tmp 26), none⟩]
@[reducible] def q6_3 : SCode := .region [⟨some 27, .move (.tmp 0), none⟩,
    ⟨some 28, .move (.tmp 1), none⟩,
    ⟨some 29, .call { callee := .value (.func 20), args := #[.tmp 27, .tmp 28], argTypes := #[3, 22] }, none⟩,
    ⟨some 30, .unOp .not 4 (.tmp 29), none⟩]
@[reducible] def q6_4 : SCode := .region [⟨some 31, .move (.tmp 7), none⟩,
    ⟨some 32, .call { callee := .builtin .len, args := #[.tmp 31], argTypes := #[47] }, none⟩,
    ⟨some 33, .binOp .eql 3 (.tmp 32) (.const (.int .i64 0)) 3, none⟩,
    ⟨some 34, .move (.tmp 33), none⟩,
    ⟨some 35, .move (.tmp 9), some (34, true)⟩,
    ⟨some 36, .unOp .not 4 (.tmp 35), some (34, true)⟩,
    ⟨some 37, .pick (.tmp 34) (.tmp 36) (.const (.bool false)), none⟩,
    ⟨some 38, .move (.tmp 37), none⟩,
    ⟨some 39, .move (.tmp 8), some (38, true)⟩,
    ⟨some 40, .binOp .eql 27 (.tmp 39) (.const (.int .i64 2)) 27, some (38, true)⟩,
    ⟨some 41, .pick (.tmp 38) (.tmp 40) (.const (.bool false)), none⟩,
    ⟨some 42, .move (.tmp 41), none⟩,
    ⟨some 43, .move (.tmp 10), some (42, true)⟩,
    ⟨some 44, .binOp .eql 27 (.tmp 43) (.const (.int .i64 2)) 27, some (42, true)⟩,
    ⟨some 45, .pick (.tmp 42) (.tmp 44) (.const (.bool false)), none⟩,
    ⟨some 46, .move (.tmp 45), none⟩,
    ⟨some 47, .call { callee := .value (.func 21), args := #[], argTypes := #[] }, some (46, true)⟩,
    ⟨some 48, .pick (.tmp 46) (.tmp 47) (.const (.bool false)), none⟩,
    ⟨some 6, .assign (.tmp 48), none⟩]
@[reducible] def q6_5 : SCode := .region [⟨some 49, .move (.tmp 0), none⟩,
    ⟨some 50, .move (.tmp 1), none⟩,
    ⟨some 51, .call { callee := .value (.func 27), args := #[.tmp 49, .tmp 50], argTypes := #[3, 22] }, none⟩]
@[reducible] def q6_6 : SCode := .region [⟨some 52, .move (.tmp 8), none⟩,
    ⟨some 53, .binOp .neq 27 (.tmp 52) (.const (.int .i64 0)) 27, none⟩,
    ⟨some 54, .move (.tmp 53), none⟩,
    ⟨some 55, .move (.tmp 0), some (54, false)⟩,
    ⟨some 56, .move (.tmp 7), some (54, false)⟩,
    ⟨some 57, .call { callee := .value (.func 38), args := #[.tmp 55, .tmp 56], argTypes := #[3, 47] }, some (54, false)⟩,
    ⟨some 58, .unOp .not 4 (.tmp 57), some (54, false)⟩,
    ⟨some 59, .pick (.tmp 54) (.const (.bool true)) (.tmp 58), none⟩,
    ⟨some 60, .move (.tmp 59), none⟩,
    ⟨some 61, .move (.tmp 0), some (60, false)⟩,
    ⟨some 62, .move (.tmp 1), some (60, false)⟩,
    ⟨some 63, .move (.tmp 7), some (60, false)⟩,
    ⟨some 64, .call { callee := .value (.func 39), args := #[.tmp 61, .tmp 62, .tmp 63], argTypes := #[3, 22, 47] }, some (60, false)⟩,
    ⟨some 65, .unOp .not 4 (.tmp 64), some (60, false)⟩,
    ⟨some 66, .pick (.tmp 60) (.const (.bool true)) (.tmp 65), none⟩]
@[reducible] def q6_7 : SCode := .region [⟨some 6, .assign (.const (.bool false)), none⟩]
@[reducible] def q6_8 : SCode := .region [⟨some 67, .move (.tmp 7), none⟩,
    ⟨some 68, .call { callee := .builtin .len, args := #[.tmp 67], argTypes := #[47] }, none⟩,
    ⟨some 69, .binOp .neq 3 (.tmp 68) (.const (.int .i64 0)) 3, none⟩,
    ⟨some 70, .move (.tmp 69), none⟩,
    ⟨some 71, .move (.tmp 8), some (70, false)⟩,
    ⟨some 72, .binOp .neq 27 (.tmp 71) (.const (.int .i64 5)) 27, some (70, false)⟩,
    ⟨some 73, .pick (.tmp 70) (.const (.bool true)) (.tmp 72), none⟩]
@[reducible] def q6_9 : SCode := .region [⟨some 6, .assign (.const (.bool false)), none⟩]
@[reducible] def q6_10 : SCode := .region [⟨some 74, .move (.tmp 0), none⟩,
    ⟨some 75, .move (.tmp 2), none⟩,
    ⟨some 76, .call { callee := .value (.func 38), args := #[.tmp 74, .tmp 75], argTypes := #[3, 47] }, none⟩,
    ⟨some 77, .unOp .not 4 (.tmp 76), none⟩]
@[reducible] def q6_11 : SCode := .region [⟨some 78, .move (.tmp 9), none⟩,
    ⟨some 79, .unOp .not 4 (.tmp 78), none⟩,
    ⟨some 80, .move (.tmp 79), none⟩,
    ⟨some 81, .move (.tmp 10), some (80, true)⟩,
    ⟨some 82, .binOp .eql 27 (.tmp 81) (.const (.int .i64 2)) 27, some (80, true)⟩,
    ⟨some 83, .pick (.tmp 80) (.tmp 82) (.const (.bool false)), none⟩,
    ⟨some 84, .move (.tmp 83), none⟩,
    ⟨some 85, .call { callee := .value (.func 21), args := #[], argTypes := #[] }, some (84, true)⟩,
    ⟨some 86, .pick (.tmp 84) (.tmp 85) (.const (.bool false)), none⟩,
    ⟨some 6, .assign (.tmp 86), none⟩]
@[reducible] def q6_12 : SCode := .region [⟨some 87, .move (.tmp 9), none⟩,
    ⟨some 88, .move (.tmp 0), none⟩,
    ⟨some 89, .move (.tmp 1), none⟩,
    ⟨some 90, .move (.tmp 2), none⟩,
    ⟨some 91, .call { callee := .value (.func 39), args := #[.tmp 88, .tmp 89, .tmp 90], argTypes := #[3, 22, 47] }, none⟩,
    ⟨some 92, .binOp .eql 4 (.tmp 87) (.tmp 91) 4, none⟩,
    ⟨some 93, .move (.tmp 92), none⟩,
    ⟨some 94, .move (.tmp 10), some (93, true)⟩,
    ⟨some 95, .binOp .eql 27 (.tmp 94) (.const (.int .i64 0)) 27, some (93, true)⟩,
    ⟨some 96, .pick (.tmp 93) (.tmp 95) (.const (.bool false)), none⟩,
    ⟨some 97, .move (.tmp 96), none⟩,
    ⟨some 98, .call { callee := .value (.func 21), args := #[], argTypes := #[] }, some (97, true)⟩,
    ⟨some 99, .pick (.tmp 97) (.tmp 98) (.const (.bool false)), none⟩,
    ⟨some 6, .assign (.tmp 99), none⟩]
def s6 : SCode := (.seq q6_0 (.seq q6_1 (.seq q6_2 (.seq (.seq q6_3 (.cond (.tmp 30) (.seq q6_4 .ret) .skip)) (.seq (.seq q6_5 (.cond (.tmp 51) (.seq q6_6 (.cond (.tmp 66) (.seq q6_7 .ret) .skip)) (.seq q6_8 (.cond (.tmp 73) (.seq q6_9 .ret) .skip)))) (.seq (.seq q6_10 (.cond (.tmp 77) (.seq q6_11 .ret) .skip)) (.seq q6_12 .ret)))))))
/-! 9: planchet planchetlaw09.BetsNarrow -/
@[reducible] def q9_0 : SCode := .region [⟨some 8, .assign (.const (.bool false)), none⟩]
@[reducible] def q9_1 : SCode := .region [⟨some 23, .move (.tmp 0), none⟩,
    ⟨some 24, .move (.tmp 1), none⟩,
    ⟨some 25, .call { callee := .value (.func 18), args := #[.tmp 24], argTypes := #[22] }, none⟩,
    ⟨some 26, .move (.tmp 2), none⟩,
    ⟨some 27, .call { callee := .value (.func 17), args := #[.tmp 23, .tmp 25, .tmp 26], argTypes := #[3, 30, 3] }, none⟩,
    ⟨some 22, .move (.tmp 27), none⟩,
    ⟨some 28, .extract (.tmp 22) 0, none⟩,
    ⟨some 29, .extract (.tmp 22) 1, none⟩,
    ⟨some 30, .extract (.tmp 22) 2, none⟩,
    ⟨some 9, .alloc 26, none⟩,
    ⟨some 10, .alloc 26, none⟩,
    ⟨none, .store 26 (.tmp 9) (.tmp 28), none⟩,
    ⟨none, .store 26 (.tmp 10) (.tmp 29), none⟩,
    ⟨some 11, .assign (.tmp 30), none⟩]
@[reducible] def q9_2 : SCode := .region [⟨some 31, .move (.tmp 11), none⟩,
    ⟨some 32, .binOp .neq 27 (.tmp 31) (.const (.int .i64 0)) 27, none⟩,
    ⟨some 33, .move (.tmp 32), none⟩,
    ⟨some 34, .move (.tmp 0), some (33, false)⟩,
    ⟨some 35, .move (.tmp 1), some (33, false)⟩,
    ⟨some 36, .call { callee := .value (.func 20), args := #[.tmp 34, .tmp 35], argTypes := #[3, 22] }, some (33, false)⟩,
    ⟨some 37, .unOp .not 4 (.tmp 36), some (33, false)⟩,
    ⟨some 38, .pick (.tmp 33) (.const (.bool true)) (.tmp 37), none⟩,
    ⟨some 39, .move (.tmp 38), none⟩,
    ⟨some 40, .move (.tmp 0), some (39, false)⟩,
    ⟨some 41, .move (.tmp 2), some (39, false)⟩,
    ⟨some 42, .call { callee := .value (.func 25), args := #[.tmp 40, .tmp 41], argTypes := #[3, 3] }, some (39, false)⟩,
    ⟨some 43, .unOp .not 4 (.tmp 42), some (39, false)⟩,
    ⟨some 44, .pick (.tmp 39) (.const (.bool true)) (.tmp 43), none⟩]
@[reducible] def q9_3 : SCode := .region [⟨some 45, .move (.tmp 11), none⟩,
    ⟨some 46, .binOp .eql 27 (.tmp 45) (.const (.int .i64 2)) 27, none⟩,
    ⟨some 47, .move (.tmp 46), none⟩,
    ⟨some 48, .move (.tmp 11), some (47, false)⟩,
    ⟨some 49, .binOp .eql 27 (.tmp 48) (.const (.int .i64 5)) 27, some (47, false)⟩,
    ⟨some 50, .pick (.tmp 47) (.const (.bool true)) (.tmp 49), none⟩,
    ⟨some 51, .move (.tmp 50), none⟩,
    ⟨some 52, .call { callee := .value (.func 21), args := #[], argTypes := #[] }, some (51, true)⟩,
    ⟨some 53, .pick (.tmp 51) (.tmp 52) (.const (.bool false)), none⟩,
    ⟨some 8, .assign (.tmp 53), none⟩]
def q9_4 : SCode := .draw [⟨some 55, .move (.tmp 0), none⟩,
    ⟨some 56, .move (.tmp 1), none⟩,
    ⟨some 57, .call { callee := .value (.func 18), args := #[.tmp 56], argTypes := #[22] }, none⟩,
    ⟨some 58, .move (.tmp 0), none⟩,
    ⟨some 59, .binOp .shl 3 (.const (.int .i64 1)) (.tmp 58) 3, none⟩,
    ⟨some 60, .binOp .sub 3 (.tmp 59) (.const (.int .i64 1)) 3, none⟩,
    ⟨some 61, .move (.tmp 2), none⟩,
    ⟨some 62, .binOp .sub 3 (.tmp 60) (.tmp 61) 3, none⟩,
    ⟨some 63, .call { callee := .value (.func 17), args := #[.tmp 55, .tmp 57, .tmp 62], argTypes := #[3, 30, 3] }, none⟩,
    ⟨some 54, .move (.tmp 63), none⟩,
    ⟨some 64, .extract (.tmp 54) 0, none⟩,
    ⟨some 65, .extract (.tmp 54) 1, none⟩,
    ⟨some 66, .extract (.tmp 54) 2, none⟩,
    ⟨some 12, .alloc 26, none⟩,
    ⟨some 13, .alloc 26, none⟩,
    ⟨none, .store 26 (.tmp 12) (.tmp 64), none⟩,
    ⟨none, .store 26 (.tmp 13) (.tmp 65), none⟩,
    ⟨some 14, .assign (.tmp 66), none⟩]
   [[], [], [1], [], [3], [4], [], [5, 6], [0, 2, 7, 2], [8], [9], [9], [9], [], [], [13, 10, 8, 0, 1, 2, 3, 4, 5, 6, 7, 8, 9, 10, 13, 14], [14, 11, 15, 0, 1, 2, 3, 4, 5, 6, 7, 8, 9, 10, 11, 13, 14, 15], [12, 16, 0, 1, 2, 3, 4, 5, 6, 7, 8, 9, 10, 11, 12, 13, 14, 15, 16]]
@[reducible] def q9_5 : SCode := .region [⟨some 67, .move (.tmp 14), none⟩,
    ⟨some 68, .binOp .neq 27 (.tmp 67) (.const (.int .i64 0)) 27, none⟩,
    ⟨some 69, .move (.tmp 68), none⟩,
    ⟨some 70, .load 26 (.tmp 9), some (69, false)⟩,
    ⟨some 71, .call { callee := .value (.func 22), args := #[.tmp 70], argTypes := #[26] }, some (69, false)⟩,
    ⟨some 72, .unOp .not 4 (.tmp 71), some (69, false)⟩,
    ⟨some 73, .pick (.tmp 69) (.const (.bool true)) (.tmp 72), none⟩,
    ⟨some 74, .move (.tmp 73), none⟩,
    ⟨some 75, .load 26 (.tmp 10), some (74, false)⟩,
    ⟨some 76, .call { callee := .value (.func 22), args := #[.tmp 75], argTypes := #[26] }, some (74, false)⟩,
    ⟨some 77, .unOp .not 4 (.tmp 76), some (74, false)⟩,
    ⟨some 78, .pick (.tmp 74) (.const (.bool true)) (.tmp 77), none⟩,
    ⟨some 79, .move (.tmp 78), none⟩,
    ⟨some 80, .load 26 (.tmp 12), some (79, false)⟩,
    ⟨some 81, .call { callee := .value (.func 22), args := #[.tmp 80], argTypes := #[26] }, some (79, false)⟩,
    ⟨some 82, .unOp .not 4 (.tmp 81), some (79, false)⟩,
    ⟨some 83, .pick (.tmp 79) (.const (.bool true)) (.tmp 82), none⟩,
    ⟨some 84, .move (.tmp 83), none⟩,
    ⟨some 85, .load 26 (.tmp 13), some (84, false)⟩,
    ⟨some 86, .call { callee := .value (.func 22), args := #[.tmp 85], argTypes := #[26] }, some (84, false)⟩,
    ⟨some 87, .unOp .not 4 (.tmp 86), some (84, false)⟩,
    ⟨some 88, .pick (.tmp 84) (.const (.bool true)) (.tmp 87), none⟩,
    ⟨some 89, .move (.tmp 88), none⟩,
    ⟨some 90, .load 26 (.tmp 10), some (89, false)⟩,
    ⟨some 91, .load 26 (.tmp 9), some (89, false)⟩,
    ⟨some 92, .call { callee := .value (.func 23), args := #[.tmp 90, .tmp 91], argTypes := #[26, 26] }, some (89, false)⟩,
    ⟨some 93, .pick (.tmp 89) (.const (.bool true)) (.tmp 92), none⟩,
    ⟨some 94, .move (.tmp 93), none⟩,
    ⟨some 95, .fieldAddr 26 (.tmp 10) 0, some (94, false)⟩,
    ⟨some 96, .load 3 (.tmp 95), some (94, false)⟩,
    ⟨some 97, .fieldAddr 26 (.tmp 12) 1, some (94, false)⟩,
    ⟨some 98, .load 3 (.tmp 97), some (94, false)⟩,
    ⟨some 99, .binOp .mul 3 (.tmp 96) (.tmp 98) 3, some (94, false)⟩,
    ⟨some 100, .fieldAddr 26 (.tmp 12) 0, some (94, false)⟩,
    ⟨some 101, .load 3 (.tmp 100), some (94, false)⟩,
    ⟨some 102, .fieldAddr 26 (.tmp 10) 1, some (94, false)⟩,
    ⟨some 103, .load 3 (.tmp 102), some (94, false)⟩,
    ⟨some 104, .binOp .mul 3 (.tmp 101) (.tmp 103) 3, some (94, false)⟩,
    ⟨some 105, .binOp .add 3 (.tmp 99) (.tmp 104) 3, some (94, false)⟩,
    ⟨some 106, .fieldAddr 26 (.tmp 10) 1, some (94, false)⟩,
    ⟨some 107, .load 3 (.tmp 106), some (94, false)⟩,
    ⟨some 108, .fieldAddr 26 (.tmp 12) 1, some (94, false)⟩,
    ⟨some 109, .load 3 (.tmp 108), some (94, false)⟩,
    ⟨some 110, .binOp .mul 3 (.tmp 107) (.tmp 109) 3, some (94, false)⟩,
    ⟨some 111, .binOp .neq 3 (.tmp 105) (.tmp 110) 3, some (94, false)⟩,
    ⟨some 112, .pick (.tmp 94) (.const (.bool true)) (.tmp 111), none⟩,
    ⟨some 113, .move (.tmp 112), none⟩,
    ⟨some 114, .fieldAddr 26 (.tmp 9) 0, some (113, false)⟩,
    ⟨some 115, .load 3 (.tmp 114), some (113, false)⟩,
    ⟨some 116, .fieldAddr 26 (.tmp 13) 1, some (113, false)⟩,
    ⟨some 117, .load 3 (.tmp 116), some (113, false)⟩,
    ⟨some 118, .binOp .mul 3 (.tmp 115) (.tmp 117) 3, some (113, false)⟩,
    ⟨some 119, .fieldAddr 26 (.tmp 13) 0, some (113, false)⟩,
    ⟨some 120, .load 3 (.tmp 119), some (113, false)⟩,
    ⟨some 121, .fieldAddr 26 (.tmp 9) 1, some (113, false)⟩,
    ⟨some 122, .load 3 (.tmp 121), some (113, false)⟩,
    ⟨some 123, .binOp .mul 3 (.tmp 120) (.tmp 122) 3, some (113, false)⟩,
    ⟨some 124, .binOp .add 3 (.tmp 118) (.tmp 123) 3, some (113, false)⟩,
    ⟨some 125, .fieldAddr 26 (.tmp 9) 1, some (113, false)⟩,
    ⟨some 126, .load 3 (.tmp 125), some (113, false)⟩,
    ⟨some 127, .fieldAddr 26 (.tmp 13) 1, some (113, false)⟩,
    ⟨some 128, .load 3 (.tmp 127), some (113, false)⟩,
    ⟨some 129, .binOp .mul 3 (.tmp 126) (.tmp 128) 3, some (113, false)⟩,
    ⟨some 130, .binOp .neq 3 (.tmp 124) (.tmp 129) 3, some (113, false)⟩,
    ⟨some 131, .pick (.tmp 113) (.const (.bool true)) (.tmp 130), none⟩]
@[reducible] def q9_6 : SCode := .region [⟨some 8, .assign (.const (.bool false)), none⟩]
@[reducible] def q9_7 : SCode := .region [⟨some 132, .move (.tmp 1), none⟩,
    ⟨some 133, .call { callee := .builtin .len, args := #[.tmp 132], argTypes := #[22] }, none⟩,
    ⟨some 134, .move (.const (.int .i64 0)), none⟩]
@[reducible] def q9_8 : SCode := .region [⟨some 135, .binOp .lss 3 (.tmp 134) (.tmp 133) 3, none⟩]
@[reducible] def q9_9 : SCode := .region [⟨some 136, .indexAddr 22 (.tmp 132) (.tmp 134), none⟩,
    ⟨some 137, .load 24 (.tmp 136), none⟩,
    ⟨some 16, .alloc 24, none⟩,
    ⟨none, .store 24 (.tmp 16) (.tmp 137), none⟩]
@[reducible] def q9_10 : SCode := .region [⟨some 138, .fieldAddr 24 (.tmp 16) 0, none⟩,
    ⟨some 139, .load 3 (.tmp 138), none⟩,
    ⟨some 140, .move (.tmp 2), none⟩,
    ⟨some 141, .binOp .eql 3 (.tmp 139) (.tmp 140) 3, none⟩,
    ⟨some 142, .move (.tmp 141), none⟩,
    ⟨some 143, .load 26 (.tmp 9), some (142, true)⟩,
    ⟨some 144, .load 26 (.tmp 10), some (142, true)⟩,
    ⟨some 145, .binOp .neq 26 (.tmp 143) (.tmp 144) 26, some (142, true)⟩,
    ⟨some 146, .move (.tmp 145), some (142, true)⟩,
    ⟨some 147, .fieldAddr 26 (.tmp 9) 0, some (146, false)⟩,
    ⟨some 148, .load 3 (.tmp 147), some (146, false)⟩,
    ⟨some 149, .binOp .mul 3 (.const (.int .i64 12)) (.tmp 148) 3, some (146, false)⟩,
    ⟨some 150, .fieldAddr 24 (.tmp 16) 1, some (146, false)⟩,
    ⟨some 151, .load 3 (.tmp 150), some (146, false)⟩,
    ⟨some 152, .fieldAddr 26 (.tmp 9) 1, some (146, false)⟩,
    ⟨some 153, .load 3 (.tmp 152), some (146, false)⟩,
    ⟨some 154, .binOp .mul 3 (.tmp 151) (.tmp 153) 3, some (146, false)⟩,
    ⟨some 155, .binOp .neq 3 (.tmp 149) (.tmp 154) 3, some (146, false)⟩,
    ⟨some 156, .pick (.tmp 146) (.const (.bool true)) (.tmp 155), some (142, true)⟩,
    ⟨some 157, .pick (.tmp 142) (.tmp 156) (.const (.bool false)), none⟩]
@[reducible] def q9_11 : SCode := .region [⟨some 8, .assign (.const (.bool false)), none⟩]
@[reducible] def q9_12 : SCode := .region [⟨some 158, .binOp .add 3 (.tmp 134) (.const (.int .i64 1)) 3, none⟩,
    ⟨some 134, .move (.tmp 158), none⟩]
def l9_0 : SCode := (.seq q9_8 (.seq (.cond (.tmp 135) .skip (.exit 0)) (.seq (.block 1 (.seq q9_9 (.seq q9_10 (.cond (.tmp 157) (.seq q9_11 .ret) .skip)))) q9_12)))
@[reducible] def q9_13 : SCode := .region [⟨some 160, .move (.tmp 0), none⟩,
    ⟨some 161, .move (.tmp 1), none⟩,
    ⟨some 162, .call { callee := .value (.func 18), args := #[.tmp 161], argTypes := #[22] }, none⟩,
    ⟨some 163, .move (.tmp 3), none⟩,
    ⟨some 164, .call { callee := .value (.func 32), args := #[.tmp 163], argTypes := #[47] }, none⟩,
    ⟨some 165, .call { callee := .value (.func 37), args := #[.tmp 160, .tmp 162, .tmp 164], argTypes := #[3, 30, 47] }, none⟩,
    ⟨some 159, .move (.tmp 165), none⟩,
    ⟨some 166, .extract (.tmp 159) 0, none⟩,
    ⟨some 167, .extract (.tmp 159) 1, none⟩,
    ⟨some 17, .assign (.tmp 166), none⟩,
    ⟨some 14, .assign (.tmp 167), none⟩]
@[reducible] def q9_14 : SCode := .region [⟨some 168, .move (.tmp 14), none⟩,
    ⟨some 169, .binOp .neq 27 (.tmp 168) (.const (.int .i64 0)) 27, none⟩,
    ⟨some 170, .move (.tmp 169), none⟩,
    ⟨some 171, .move (.tmp 17), some (170, false)⟩,
    ⟨some 172, .unOp .not 4 (.tmp 171), some (170, false)⟩,
    ⟨some 173, .pick (.tmp 170) (.const (.bool true)) (.tmp 172), none⟩]
@[reducible] def q9_15 : SCode := .region [⟨some 174, .move (.tmp 14), none⟩,
    ⟨some 175, .binOp .eql 27 (.tmp 174) (.const (.int .i64 0)) 27, none⟩,
    ⟨some 176, .move (.tmp 175), none⟩,
    ⟨some 177, .move (.tmp 14), some (176, false)⟩,
    ⟨some 178, .binOp .eql 27 (.tmp 177) (.const (.int .i64 2)) 27, some (176, false)⟩,
    ⟨some 179, .pick (.tmp 176) (.const (.bool true)) (.tmp 178), none⟩,
    ⟨some 180, .move (.tmp 179), none⟩,
    ⟨some 181, .call { callee := .value (.func 21), args := #[], argTypes := #[] }, some (180, true)⟩,
    ⟨some 182, .pick (.tmp 180) (.tmp 181) (.const (.bool false)), none⟩,
    ⟨some 8, .assign (.tmp 182), none⟩]
@[reducible] def q9_16 : SCode := .region [⟨some 183, .move (.tmp 3), none⟩,
    ⟨some 184, .call { callee := .value (.func 34), args := #[.tmp 183], argTypes := #[47] }, none⟩,
    ⟨some 18, .assign (.tmp 184), none⟩,
    ⟨some 19, .assign (.const (.int .i64 0)), none⟩]
@[reducible] def q9_17 : SCode := .region [⟨some 185, .move (.tmp 18), none⟩,
    ⟨some 186, .binOp .eql 3 (.tmp 185) (.const (.int .i64 0)) 3, none⟩,
    ⟨some 187, .move (.tmp 186), none⟩,
    ⟨some 188, .move (.tmp 3), some (187, false)⟩,
    ⟨some 189, .call { callee := .builtin .len, args := #[.tmp 188], argTypes := #[47] }, some (187, false)⟩,
    ⟨some 190, .move (.tmp 0), some (187, false)⟩,
    ⟨some 191, .binOp .neq 3 (.tmp 189) (.tmp 190) 3, some (187, false)⟩,
    ⟨some 192, .pick (.tmp 187) (.const (.bool true)) (.tmp 191), none⟩]
@[reducible] def q9_18 : SCode := .region [⟨some 8, .assign (.const (.bool false)), none⟩]
@[reducible] def q9_19 : SCode := .region [⟨some 193, .move (.tmp 3), none⟩,
    ⟨some 194, .call { callee := .builtin .len, args := #[.tmp 193], argTypes := #[47] }, none⟩,
    ⟨some 195, .move (.const (.int .i64 0)), none⟩]
@[reducible] def q9_20 : SCode := .region [⟨some 196, .binOp .lss 3 (.tmp 195) (.tmp 194) 3, none⟩]
@[reducible] def q9_21 : SCode := .region [⟨some 197, .move (.tmp 195), none⟩,
    ⟨some 198, .indexAddr 47 (.tmp 193) (.tmp 195), none⟩,
    ⟨some 199, .load 26 (.tmp 198), none⟩,
    ⟨some 21, .alloc 26, none⟩,
    ⟨some 20, .assign (.tmp 197), none⟩,
    ⟨none, .store 26 (.tmp 21) (.tmp 199), none⟩]
@[reducible] def q9_22 : SCode := .region [⟨some 200, .move (.tmp 2), none⟩,
    ⟨some 201, .move (.tmp 20), none⟩,
    ⟨some 202, .binOp .shr 3 (.tmp 200) (.tmp 201) 3, none⟩,
    ⟨some 203, .binOp .and 3 (.tmp 202) (.const (.int .i64 1)) 3, none⟩,
    ⟨some 204, .binOp .eql 3 (.tmp 203) (.const (.int .i64 1)) 3, none⟩]
def q9_23 : SCode := .draw [⟨some 205, .move (.tmp 19), none⟩,
    ⟨some 206, .move (.tmp 18), none⟩,
    ⟨some 207, .fieldAddr 26 (.tmp 21) 1, none⟩,
    ⟨some 208, .load 3 (.tmp 207), none⟩,
    ⟨some 209, .binOp .quo 3 (.tmp 206) (.tmp 208) 3, none⟩,
    ⟨some 210, .fieldAddr 26 (.tmp 21) 0, none⟩,
    ⟨some 211, .load 3 (.tmp 210), none⟩,
    ⟨some 212, .binOp .mul 3 (.tmp 209) (.tmp 211) 3, none⟩,
    ⟨some 213, .binOp .add 3 (.tmp 205) (.tmp 212) 3, none⟩,
    ⟨some 19, .assign (.tmp 213), none⟩]
   [[], [], [], [2], [1, 3], [], [5], [4, 6], [0, 7], [8, 0, 1, 2, 3, 4, 5, 6, 7, 8]]
@[reducible] def q9_24 : SCode := .region [⟨some 214, .binOp .add 3 (.tmp 195) (.const (.int .i64 1)) 3, none⟩,
    ⟨some 195, .move (.tmp 214), none⟩]
def l9_1 : SCode := (.seq q9_20 (.seq (.cond (.tmp 196) .skip (.exit 2)) (.seq (.block 3 (.seq q9_21 (.seq q9_22 (.cond (.tmp 204) q9_23 .skip)))) q9_24)))
@[reducible] def q9_25 : SCode := .region [⟨some 215, .fieldAddr 26 (.tmp 9) 0, none⟩,
    ⟨some 216, .load 3 (.tmp 215), none⟩,
    ⟨some 217, .move (.tmp 18), none⟩,
    ⟨some 218, .binOp .mul 3 (.tmp 216) (.tmp 217) 3, none⟩,
    ⟨some 219, .move (.tmp 19), none⟩,
    ⟨some 220, .fieldAddr 26 (.tmp 9) 1, none⟩,
    ⟨some 221, .load 3 (.tmp 220), none⟩,
    ⟨some 222, .binOp .mul 3 (.tmp 219) (.tmp 221) 3, none⟩,
    ⟨some 223, .binOp .leq 3 (.tmp 218) (.tmp 222) 3, none⟩,
    ⟨some 224, .move (.tmp 223), none⟩,
    ⟨some 225, .move (.tmp 19), some (224, true)⟩,
    ⟨some 226, .fieldAddr 26 (.tmp 10) 1, some (224, true)⟩,
    ⟨some 227, .load 3 (.tmp 226), some (224, true)⟩,
    ⟨some 228, .binOp .mul 3 (.tmp 225) (.tmp 227) 3, some (224, true)⟩,
    ⟨some 229, .fieldAddr 26 (.tmp 10) 0, some (224, true)⟩,
    ⟨some 230, .load 3 (.tmp 229), some (224, true)⟩,
    ⟨some 231, .move (.tmp 18), some (224, true)⟩,
    ⟨some 232, .binOp .mul 3 (.tmp 230) (.tmp 231) 3, some (224, true)⟩,
    ⟨some 233, .binOp .leq 3 (.tmp 228) (.tmp 232) 3, some (224, true)⟩,
    ⟨some 234, .pick (.tmp 224) (.tmp 233) (.const (.bool false)), none⟩,
    ⟨some 235, .move (.tmp 234), none⟩,
    ⟨some 236, .call { callee := .value (.func 21), args := #[], argTypes := #[] }, some (235, true)⟩,
    ⟨some 237, .pick (.tmp 235) (.tmp 236) (.const (.bool false)), none⟩,
    ⟨some 8, .assign (.tmp 237), none⟩]
def s9 : SCode := (.seq q9_0 (.seq q9_1 (.seq (.seq q9_2 (.cond (.tmp 44) (.seq q9_3 .ret) .skip)) (.seq q9_4 (.seq (.seq q9_5 (.cond (.tmp 131) (.seq q9_6 .ret) .skip)) (.seq (.seq q9_7 (.block 0 (.loop l9_0))) (.seq q9_13 (.seq (.seq q9_14 (.cond (.tmp 173) (.seq q9_15 .ret) .skip)) (.seq q9_16 (.seq (.seq q9_17 (.cond (.tmp 192) (.seq q9_18 .ret) .skip)) (.seq (.seq q9_19 (.block 2 (.loop l9_1))) (.seq q9_25 .ret))))))))))))
theorem s9_strip : Yc (Zx Try.f9) = s9 := by kernel_rfl
theorem s9_ok : Yp 238 (Zx Try.f9) = true := by kernel_rfl
end Go.Proofs.Try.Am

namespace Go.Proofs.Try.Am
open Go.Am Bq
set_option maxRecDepth 100000
set_option maxHeartbeats 4000000

theorem valid_take (n : Int) (l : List (Int × Int)) : Yx n (l.take 9) = Yx n l := by
  by_cases h : l.length ≤ 9
  · rw [List.take_of_length_le h]
  · have h1 : (l.take 9).length = 9 := by rw [List.length_take]; omega
    rw [Yx, Yx, h1, show decide (9 ≤ 6) = false by decide, show decide (l.length ≤ 6) = false by simp; omega]
    simp
theorem inEv_bit (f : Nat → Rat) (e n : Nat) : Zu (inEv f e) n = evq n f e := Zk fun w hw => by
  rw [inEv, bitQ]
  split
  · rw [Rat.one_mul]
  · rw [Rat.zero_mul]
theorem fq_map {b : List Rat} {w : Nat} (hw : w < b.length) : fq (b.map ofQ) w = b.getD w 0 := by
  rw [fq, List.getD, List.getElem?_map, List.getElem?_eq_getElem hw, List.getD, List.getElem?_eq_getElem hw]; exact toQ_ofQ _
theorem mulTo_dvd' {N : Nat} (hN : 0 < N) (hB : N ≤ 10000000000) : ∀ (ps : List (Int × Int)) (m : Nat), 0 < m → m ∣ N → (∀ p ∈ ps, okP p = true ∧ p.2.natAbs ∣ N) → mulTo ps m ≠ 0 ∧ mulTo ps m ∣ N
  | [], m, h0, h1, _ => ⟨by rw [mulTo]; omega, by rw [mulTo]; exact h1⟩
  | p :: ps, m, h0, h1, h => by
    obtain ⟨k1, k2⟩ := h p (by simp)
    have hl : Nat.lcm m p.2.natAbs ∣ N := Nat.lcm_dvd h1 k2
    have hlN := Nat.le_of_dvd hN hl
    have hp0 : 0 < p.2.natAbs := Nat.pos_of_dvd_of_pos k2 hN
    rw [mulTo, if_pos ⟨k1, by omega⟩]
    exact mulTo_dvd' hN hB ps _ (Nat.lcm_pos h0 hp0) hl fun q hq => h q (by simp [hq])
theorem okP_of' {q : Rat} (h0 : 0 ≤ q) (hd : q.den ≤ 10000000000) : okP (ofQ q) = true := by
  have h1 : 0 ≤ q.num := Rat.num_nonneg.2 h0
  have h2 := q.den_pos
  have h3 := q.reduced
  simp only [okP, ofQ, Bool.and_eq_true, beq_iff_eq]
  refine ⟨⟨⟨decide_eq_true (by omega), decide_eq_true (by omega)⟩, decide_eq_true h1⟩, ?_⟩
  rw [Int.natAbs_natCast]; exact h3
/-- A corner, as it is handed out. -/
theorem corner_facts {n : Nat} {l : List (Int × Int)} {b : List Rat} (hval : Yx n l = true) (hb : b ∈ Ye n l) :
    b.length = n ∧ Feas n l (fun w => b.getD w 0) ∧ (∀ w, w < n → b.getD w 0 ≤ 1) ∧ (∃ D, 0 < D ∧ D ≤ 720 ∧ Wb (b.map ofQ) ∣ D) ∧ Chn (b.map ofQ) ∧ agB l (b.map ofQ) = true := by
  obtain ⟨hn2, hn5, hl1, hl6, hok⟩ := Vh hval
  obtain ⟨set, h1, h2, h3⟩ := mem_corners.1 hb
  obtain ⟨hl, hf⟩ := corner_feas h3
  obtain ⟨D, d1, d2, d3⟩ := corner_den hn5 (cts_of hval) h3
  have hle : ∀ w, w < n → b.getD w 0 ≤ 1 := fun w hw => by
    have := sumTo_one (g := fun w => b.getD w 0) hw hf.nn
    rw [hf.one] at this; exact this
  have hmem : ∀ p ∈ b.map ofQ, ∃ w, w < n ∧ p = ofQ (b.getD w 0) := fun p hp => by
    obtain ⟨q, hq, rfl⟩ := List.mem_map.1 hp
    obtain ⟨w, hw, rfl⟩ := List.getElem_of_mem hq
    exact ⟨w, by omega, by rw [List.getD, List.getElem?_eq_getElem hw]; rfl⟩
  have hmul := mulTo_dvd' d1 (by omega) (b.map ofQ) 1 (by decide) (Nat.one_dvd _) fun p hp => by
    obtain ⟨w, hw, rfl⟩ := hmem p hp
    have hd := d3 w hw
    have := Nat.le_of_dvd d1 hd
    exact ⟨okP_of' (hf.nn w hw) (by omega), by rw [ofQ]; exact hd⟩
  have hc : Chn (b.map ofQ) := ⟨hmul.1, fun p hp => by
    obtain ⟨w, hw, rfl⟩ := hmem p hp
    have := hle w hw
    rw [Rat.le_iff] at this
    simpa [ofQ] using this⟩
  refine ⟨hl, hf, hle, ⟨D, d1, d2, hmul.2⟩, hc, ?_⟩
  rw [agB, List.length_map, hl, Bool.and_eq_true, decide_eq_true_eq, List.all_eq_true]
  refine ⟨by rw [Zk fun w hw => fq_map (show w < b.length by omega)]; exact hf.one, fun p hp => ?_⟩
  obtain ⟨i, hi, hip⟩ := List.getElem_of_mem hp
  have h4 := hf.bet i hi
  have hgi : l.getD i (0, 0) = p := by rw [List.getD, List.getElem?_eq_getElem hi]; exact hip
  rw [hgi] at h4
  rw [decide_eq_true_eq, inEv_bit, ← h4]
  exact Zk fun w hw => by rw [fq_map (by omega)]
theorem chances_take {n : Int} (hn : n ≤ 7) (b : List (Int × Int)) : Wk n (b.take 8) = Wk n b := by
  by_cases h : b.length ≤ 8
  · rw [List.take_of_length_le h]
  · rw [Wk, Wk, decide_eq_false (show ¬ (((b.take 8).length : Nat) : Int) = n by rw [List.length_take]; omega), decide_eq_false (show ¬ ((b.length : Nat) : Int) = n by omega)]
    simp

end Go.Proofs.Try.Am
