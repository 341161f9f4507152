/-
  bets: forecasts, in the program and in the reference.
  bets: corners, as the program finds them. Plain Lean, no program.
  bets: a row of equations; bets that are valid.
  bets: bets that are valid, in the program.
  bets: the corners.
  bets: the corners, found.
  Printed by gen.py: the code of some functions, without what no step looks at; held against the program's own by the kernel.
  Printed by gen.py: the code of some functions, without what no step looks at; held against the program's own by the kernel.
  bets: copies of slices; slices held against each other.
  bets: Sound; that the program is awake.
-/
import Derived.Test.YtcmindinomacbaaPk7
import Derived.Test.YtcmindinomacbaaPk6
import Derived.Test.YtcmindinomacbaaPk3
import Derived.Test.YtcmindinomacbaaProg
import Derived.KernelRfl
import Derived.Shelf.Abstract
set_option linter.all false
namespace Go.Proofs.Try.Am
open Go.Am Bq
set_option maxRecDepth 100000
set_option maxHeartbeats 1000000

theorem qeq (a b : Rat) : (([a.num, (a.den : Int)] : List Int) == [b.num, (b.den : Int)]) = decide (a = b) := by
  rw [Bool.eq_iff_iff, beq_iff_eq, decide_eq_true_eq, List.cons.injEq, List.cons.injEq]
  constructor
  · rintro ⟨h1, h2, _⟩; exact Rat.ext h1 (by omega)
  · rintro rfl; exact ⟨rfl, rfl, rfl⟩
theorem shl1 {n : Nat} (h : n ≤ 62) : shlV .i64 1 n = 2 ^ n := by
  have h2 : 2 ^ n ≤ 2 ^ 62 := Nat.pow_le_pow_right (by decide) h
  have := shlV_nat (a := 1) (y := n) (by omega) (by omega)
  simpa using this
theorem pow_cast (n : Nat) : ((2 ^ n : Nat) : Int) = 2 ^ n := by simp
theorem pow_le {n : Nat} (h : n ≤ 62) : 2 ^ n ≤ 4611686018427387904 := Nat.pow_le_pow_right (n := 2) (j := 62) (by decide) h
theorem all_worlds {n : Nat} (h : n ≤ 62) : subV .i64 (2 ^ n) 1 = ((2 ^ n - 1 : Nat) : Int) := by
  have := pow_le h
  have := Nat.two_pow_pos n
  rw [← pow_cast, subV_id (by omega) (by omega)]; omega
theorem inEv_all {f : Nat → Rat} {n : Nat} : Zo (inEv f (2 ^ n - 1)) n = Zo f n := Zj fun i hi => by
  rw [inEv, Nat.testBit_two_pow_sub_one]; simp [hi]
end Go.Proofs.Try.Am

namespace Bq

def bitQ (e w : Nat) : Rat := if e.testBit w then 1 else 0
def Zi (set k : Nat) : List Nat := (List.range k).filter fun w => set.testBit w
def Yk (n set : Nat) : List Nat := Zi set n
theorem Wd (set k : Nat) : Zi set (k + 1) = Zi set k ++ if set.testBit k then [k] else [] := by
  rw [Zi, List.range_succ, List.filter_append]
  simp only [List.filter_cons, List.filter_nil, Zi]
theorem Va (set k : Nat) : (Zi set k).length ≤ k := by
  have := List.length_filter_le (fun w => set.testBit w) (List.range k)
  rwa [List.length_range] at this
theorem worldsTo_lt {set k w : Nat} (h : w ∈ Zi set k) : w < k ∧ set.testBit w = true := by
  obtain ⟨h1, h2⟩ := List.mem_filter.1 h
  exact ⟨List.mem_range.1 h1, h2⟩
theorem worldsN_pos {n set : Nat} (h1 : 1 ≤ set) (h2 : set < 2 ^ n) : 1 ≤ (Yk n set).length := by
  rcases Nat.eq_zero_or_pos (Yk n set).length with h | h
  · exfalso
    have h0 := List.eq_nil_of_length_eq_zero h
    have : set = 0 := by
      apply Nat.eq_of_testBit_eq
      intro i
      rw [Nat.zero_testBit]
      cases hb : set.testBit i with
      | false => rfl
      | true =>
        have hi : i < n := by
          rcases Nat.lt_or_ge i n with h | h
          · exact h
          · rw [Nat.testBit_lt_two_pow (Nat.lt_of_lt_of_le h2 (Nat.pow_le_pow_right (by decide) h))] at hb; cases hb
        have hm : i ∈ Yk n set := List.mem_filter.2 ⟨List.mem_range.2 hi, hb⟩
        rw [h0] at hm; cases hm
    omega
  · exact h

def sysB (n : Nat) (l : List (Int × Int)) (ws : List Nat) : Xx := fun i c =>
  if i = 0 then (if c < ws.length then bitQ (2 ^ n - 1) (ws.getD c 0) else 1)
  else (if c < ws.length then bitQ (l.getD (i - 1) (0, 0)).1.toNat (ws.getD c 0) else Rat.divInt (l.getD (i - 1) (0, 0)).2 12)
def Wb (n : Nat) (ws : List Nat) (x : List Rat) : Nat → List Rat
  | 0 => List.replicate n 0
  | k + 1 => (Wb n ws x k).set (ws.getD k 0) (x.getD k 0)
theorem Vv (n : Nat) (ws : List Nat) (x : List Rat) : ∀ k, (Wb n ws x k).length = n
  | 0 => by simp [Wb]
  | k + 1 => by rw [Wb, List.length_set]; exact Vv n ws x k
def Vj (n : Nat) (l : List (Int × Int)) (set : Nat) : Option (List Rat) :=
  (Wc (l.length + 1) (Yk n set).length (sysB n l (Yk n set))).bind fun x => if x.any (fun q => decide (q < 0)) then none else some (Wb n (Yk n set) x (Yk n set).length)
def Wm (n : Nat) (l : List (Int × Int)) : Nat → List (List Rat)
  | 0 => []
  | s + 1 => Wm n l s ++ (Vj n l (s + 1)).toList
def Xt (n : Nat) (l : List (Int × Int)) : List (List Rat) := Wm n l (2 ^ n - 1)
theorem cornersTo_len (n : Nat) (l : List (Int × Int)) : ∀ s, (Wm n l s).length ≤ s
  | 0 => Nat.le_refl _
  | s + 1 => by
    have := cornersTo_len n l s
    rw [Wm, List.length_append]
    cases Vj n l (s + 1) <;> simp <;> omega
theorem solveT_len {m k : Nat} {T : Xx} {x : List Rat} (h : Wc m k T = some x) : x.length = k := by
  rw [Wc] at h
  cases hr : Xd m T k with
  | none => rw [hr] at h; cases h
  | some S =>
    rw [hr] at h
    simp only [Option.bind_some] at h
    split at h
    · cases h
    · cases h; simp
def TameAll (n : Nat) (l : List (Int × Int)) : Prop := ∀ set, 1 ≤ set → set < 2 ^ n → ∀ j S, j ≤ (Yk n set).length → Xd (l.length + 1) (sysB n l (Yk n set)) j = some S → Tame (l.length + 1) (Yk n set).length S
/-! A decision, for one input. -/
def tameB (D m k : Nat) (T : Xx) : Bool := (List.range m).all fun i => (List.range (k + 1)).all fun c => decide ((T i c).den ∣ D) && decide ((T i c).num.natAbs * (D / (T i c).den) ≤ 1073741824)
theorem tame_of {D m k : Nat} {T : Xx} (hD : 0 < D) (hD2 : D ≤ 1073741824) (h : tameB D m k T = true) : Tame m k T := by
  refine ⟨D, hD, hD2, fun i c hi hc => ?_⟩
  rw [tameB, List.all_eq_true] at h
  have h1 := h i (List.mem_range.2 hi)
  rw [List.all_eq_true] at h1
  have h2 := h1 c (List.mem_range.2 (by omega))
  simp only [Bool.and_eq_true, decide_eq_true_eq] at h2
  refine ⟨_, Rp.up' (Rp.own _) h2.1 hD, ?_⟩
  rw [Int.natAbs_mul, Int.natAbs_natCast]
  exact h2.2
def tameRun (D m k : Nat) (T : Xx) (j : Nat) : Bool := match Xd m T j with | none => true | some S => tameB D m k S
def tameAllB (D n : Nat) (l : List (Int × Int)) : Bool := (List.range (2 ^ n)).all fun set => decide (set = 0) || (List.range ((Yk n set).length + 1)).all fun j => tameRun D (l.length + 1) (Yk n set).length (sysB n l (Yk n set)) j
theorem tameAll_of {D n : Nat} {l : List (Int × Int)} (hD : 0 < D) (hD2 : D ≤ 1073741824) (h : tameAllB D n l = true) : TameAll n l := by
  intro set h1 h2 j S hj hS
  rw [tameAllB, List.all_eq_true] at h
  have h3 := h set (List.mem_range.2 h2)
  simp only [show set ≠ 0 by omega, decide_false, Bool.false_or] at h3
  rw [List.all_eq_true] at h3
  have h4 := h3 j (List.mem_range.2 (by omega))
  rw [tameRun, hS] at h4
  exact tame_of hD hD2 h4
theorem tame_awake : TameAll 2 [(1, 6)] := tameAll_of (D := 2) (by decide) (by decide) (by decide +kernel)
theorem corners_awake : Xt 2 [(1, 6)] = [[1 / 2, 1 / 2]] := by decide +kernel
end Bq

namespace Go.Proofs.Try.Am
open Go.Am Bq
set_option maxRecDepth 100000
set_option maxHeartbeats 1000000

def Wu (ws : List Nat) : List Int := ws.map fun (w : Nat) => (w : Int)
def rowL (e : Nat) (ws : List Nat) (q : Rat) : List (Int × Int) := (ws.map fun w => ofQ (bitQ e w)) ++ [ofQ q]
theorem castI_len (ws : List Nat) : (Wu ws).length = ws.length := by simp [Wu]
theorem castI_getD (ws : List Nat) (k : Nat) : (Wu ws).getD k 0 = ((ws.getD k 0 : Nat) : Int) := by
  by_cases h : k < ws.length
  · simp [Wu, List.getD, h]
  · simp [Wu, List.getD, List.getElem?_eq_none (show ws.length ≤ k by omega)]
theorem ext_app {h hp H' h' : Zh} {w : Value} (hE : Ext (fun _ => False) h hp) (hl : hp.length ≤ H'.length) (hk : ∀ q, q < h.length → H'[q]? = hp[q]?) (hb : ∀ b, Yf w = some b → h.length ≤ b) (hE' : Ext (fun i => Yf w = some i) H' h') : Ext (fun _ => False) h h' := by
  refine ⟨by have := hE.1; have := hE'.1; omega, fun q hq _ => ?_⟩
  have l1 := hE.1
  rw [hE'.2 q (by omega) (fun hb0 => by have := hb q hb0; omega), hk q hq]
  exact hE.2 q hq id

theorem s100_callW [Tabs Try.prog] {args : List Value} {h : Zh} {Q : Value → Zh → Prop} (hsz : args.length ≤ 28) (hk : AWS Try.prog 28 s100 (Zv Try.prog [.tmp 5] Q) (Zt 0 args) h) : ACall Try.prog 100 args h Q :=
  Yn Try.func100 rfl (enters_of Try.func100 (by kernel_rfl) rfl) rfl rfl (by decide) s100_strip s100_ok hsz hk
theorem row_call [Tabs prog] {h : Zh} {e bw : Nat} {q : Rat} {wv : Value} {ws : List Nat} (hb : h[bw]? = some (.cells [wv] 38 false)) (hw : IntSl h wv (Wu ws)) (hl : ws.length ≤ 100) (he : e < 9223372036854775808) :
    ACall prog 100 [Zd (e : Nat), qV q, .pointer (some ⟨bw, 0, none⟩)] h fun r h' => Ext (fun _ => False) h h' ∧ OwnP 26 h' r (rowL e ws q) ∧ ∀ b, Yf r = some b → h.length ≤ b := by
  obtain ⟨H, hH⟩ : ∃ H, H = h ++ [fC q.num q.den] := ⟨_, rfl⟩
  have hE : Ext (fun _ => False) h H := by rw [hH]; exact Ext.app _ _ _
  have b2 : H[bw]? = some (.cells [wv] 38 false) := by rw [hH]; exact Xu hb _
  have b4 : H[h.length]? = some (fC q.num q.den) := by rw [hH]; exact Zy _ _
  have hwH : IntSl H wv (Wu ws) := by rw [hH]; exact hw.grow _
  have hlc := castI_len ws
  refine s100_callW (by simp) ?_
  simp only [s100]
  refine Ze fun N1 hN1 => ?_
  simp (maxSteps := 2000000) only [↓Za, ↓Zb, ↓Zc, vup, cond_true, cond_false, aop, Zg, Zt, ev, sput, Zf, Nat.reduceBEq, Nat.reduceAdd, qV, frV, boxF, Yi]
  rw [← hH]
  refine hN1 [(0, Zd (e : Nat)), (2, .pointer (some ⟨bw, 0, none⟩)), (4, .pointer (some ⟨h.length, 0, none⟩)), (5, .slice none 0 0)] _ _ ?_ (by simp (maxSteps := 2000000) only [vup, cond_true, cond_false, Nat.reduceBEq])
  clear hN1
  try clear N1
  refine Ze fun N2 hN2 => ?_
  simp (maxSteps := 2000000) only [↓Za, ↓Zb, ↓Zc, vup, cond_false, aop, Zg, ev, sput, Zf, Nat.reduceBEq]
  refine hN2 [(0, Zd (e : Nat)), (2, .pointer (some ⟨bw, 0, none⟩)), (4, .pointer (some ⟨h.length, 0, none⟩)), (5, .slice none 0 0), (6, .slice none 0 0)] _ _ ?_ (by simp (maxSteps := 2000000) only [vup, cond_true, cond_false, Nat.reduceBEq])
  clear hN2
  try clear N2
  refine Zm fun Z hZ => ?_
  refine Ze fun N3 hN3 => ?_
  simp (maxSteps := 2000000) only [↓Za, ↓Zb, ↓Zc, vup, List.map_cons, List.map_nil, cond_true, cond_false, aop, Zg, ev, sput, Zf, Zl, Nat.reduceBEq, tyf, Vd b2 Vb, hwH.len, hlc]
  refine hN3 [(0, Zd (e : Nat)), (2, .pointer (some ⟨bw, 0, none⟩)), (4, .pointer (some ⟨h.length, 0, none⟩)), (5, .slice none 0 0), (6, .slice none 0 0), (9, wv), (10, Zd ws.length), (11, .int .i64 0)] _ _ ?_ (by simp (maxSteps := 2000000) only [vup, cond_true, cond_false, Nat.reduceBEq])
  clear hN3
  try clear N3
  refine Zn ?_
  refine Zs fun Q hQ => ?_
  refine Yu (γ := Nat × Value × Zh) (fun s => s.1 ≤ ws.length ∧ OwnP 26 s.2.2 s.2.1 ((ws.take s.1).map fun w => ofQ (bitQ e w)) ∧ Ext (fun _ => False) H s.2.2 ∧ ∀ b, Yf s.2.1 = some b → h.length ≤ b)
    (fun s => ([(0, Zd (e : Nat)), (2, .pointer (some ⟨bw, 0, none⟩)), (4, .pointer (some ⟨h.length, 0, none⟩)), (5, .slice none 0 0), (6, s.2.1), (9, wv), (10, Zd ws.length), (11, Zd (s.1 : Nat))], s.2.2)) (fun s => ws.length - s.1) (0, .slice none 0 0, H) ⟨Nat.zero_le _, .inl ⟨rfl, by simp⟩, Ext.refl _ _, fun b hb => by cases hb⟩ (by simp (maxSteps := 2000000) only [vup, cond_true, cond_false, Nat.reduceBEq, Int.natCast_zero]) rfl ?_
  rintro ⟨k, x, hp⟩ ⟨hk, ho, hEp, hbx⟩
  simp only at hk ho hEp hbx
  refine Zs fun Q2 hQ2 => ?_
  simp only [l100_0]
  have hwp : IntSl hp wv (Wu ws) := hwH.same fun b hb => hEp.2 b (hwH.lt hb) id
  by_cases hin : (k : Int) < ws.length
  · have hk' : k < ws.length := by omega
    have hkc : k < (Wu ws).length := by omega
    have ht := testV (y := ws.getD k 0) he
    have wc : ∀ h', Xi prog 70 [Zd (if e.testBit (ws.getD k 0) then (1 : Int) else 0)] h' (qV (bitQ e (ws.getD k 0))) := fun h' => by
      have e1 : (((if e.testBit (ws.getD k 0) then (1 : Int) else 0 : Int)) : Rat) = bitQ e (ws.getD k 0) := by
        rw [bitQ]; split <;> rfl
      rw [← e1]; exact Vp
    refine Ze fun N4 hN4 => ?_
    simp (maxSteps := 2000000) only [↓Za, ↓Zb, ↓Zc, vup, cond_true, cond_false, aop, Zg, ev, sput, Zf, Yg, Yl, Nat.reduceBEq, hin]
    refine hN4 [(0, Zd (e : Nat)), (2, .pointer (some ⟨bw, 0, none⟩)), (4, .pointer (some ⟨h.length, 0, none⟩)), (5, .slice none 0 0), (6, x), (9, wv), (10, Zd ws.length), (11, Zd (k : Nat)), (12, .bool true)] _ _ ?_ (by simp (maxSteps := 2000000) only [vup, cond_true, cond_false, Nat.reduceBEq])
    clear hN4
    try clear N4
    refine Ze fun N5 hN5 => ?_
    simp (maxSteps := 2000000) only [↓Zu, ↓vdn, vup, cond_true, cond_false, Zg, ev, Nat.reduceBEq]
    refine hN5 [(0, Zd (e : Nat)), (2, .pointer (some ⟨bw, 0, none⟩)), (4, .pointer (some ⟨h.length, 0, none⟩)), (5, .slice none 0 0), (6, x), (9, wv), (10, Zd ws.length), (11, Zd (k : Nat))] _ _ ?_ (by simp (maxSteps := 2000000) only [vup, cond_true, cond_false, Nat.reduceBEq])
    clear hN5
    try clear N5
    refine Zm fun B hB => ?_
    refine Zn ?_
    refine Ze fun N6 hN6 => ?_
    simp (maxSteps := 2000000) only [↓Za, ↓Zb, ↓Zc, vup, cond_true, cond_false, aop, Zg, ev, sput, Zf, Nat.reduceBEq, hwp.idx el_38 esz_3 hkc, hwp.load Wy hkc, castI_getD]
    refine hN6 [(0, Zd (e : Nat)), (2, .pointer (some ⟨bw, 0, none⟩)), (4, .pointer (some ⟨h.length, 0, none⟩)), (5, .slice none 0 0), (6, x), (8, Zd (ws.getD k 0 : Nat)), (9, wv), (10, Zd ws.length), (11, Zd (k : Nat))] _ _ ?_ (by simp (maxSteps := 2000000) only [vup, cond_true, cond_false, Nat.reduceBEq])
    clear hN6
    try clear N6
    refine Zk ?_
    simp (maxSteps := 2000000) only [↓Za, ↓Zb, ↓Zc, vup, List.map_cons, List.map_nil, cond_true, cond_false, aop, Zg, Zr, ev, sput, Zf, Yg, Yl, Zl, Nat.reduceBEq, Yv, List.nil_append, List.append_nil, ht, Int.natCast_nonneg]
    refine (wc hp).mono ?_
    rintro _ hp ⟨rfl, rfl⟩
    simp (maxSteps := 2000000) only [qV, frV, litF]
    refine OwnP.append (x := (bitQ e (ws.getD k 0)).num) (y := (bitQ e (ws.getD k 0)).den) (ho.ext (Ext.app _ _ _)) app_47_47 (by simp; omega) (Zy _ _) ?_
    intro x' h' ho' hE' hb'
    have hnx : ((ws.take k).map fun w => ofQ (bitQ e w)) ++ [((bitQ e (ws.getD k 0)).num, ((bitQ e (ws.getD k 0)).den : Int))] = (ws.take (k + 1)).map fun w => ofQ (bitQ e w) := by
      rw [take_snoc (d := (0 : Nat)) hk', List.map_append]; rfl
    rw [hnx] at ho'
    have hEn := ext_app (hE.trans hEp) (H' := hp ++ [Blk.ints [(bitQ e (ws.getD k 0)).num, ((bitQ e (ws.getD k 0)).den : Int)] 26 false]) (by simp) (fun q hq => List.getElem?_append_left (by have := hE.1; have := hEp.1; omega)) hbx hE'
    have hEn2 : Ext (fun _ => False) H h' := by
      have hl' := hE'.1
      have l0 := hE.1
      have l1 := hEp.1
      rw [List.length_append] at hl'
      refine ⟨by omega, fun q hq _ => ?_⟩
      by_cases hqh : q < h.length
      · rw [hEn.2 q hqh id, hE.2 q hqh id]
      · rw [hE'.2 q (by rw [List.length_append]; omega) (fun hb0 => ?_), List.getElem?_append_left (by omega)]
        · exact hEp.2 q hq id
        · obtain ⟨rfl⟩ : q = h.length := by rw [hH] at hq; simp at hq; omega
          rcases ho with ⟨rfl, _⟩ | ⟨b, ys, rfl, hbb⟩
          · cases hb0
          · cases hb0
            rw [hEp.2 _ hq id, b4] at hbb; cases hbb
    refine hB [(0, Zd (e : Nat)), (2, .pointer (some ⟨bw, 0, none⟩)), (4, .pointer (some ⟨h.length, 0, none⟩)), (5, .slice none 0 0), (6, x'), (9, wv), (10, Zd ws.length), (11, Zd (k : Nat))] _ _ ?_ (by simp (maxSteps := 2000000) only [vup, cond_true, cond_false, Nat.reduceBEq])
    clear hB
    try clear B
    refine Zk ?_
    simp (maxSteps := 2000000) only [↓Za, ↓Zb, ↓Zc, vup, cond_true, cond_false, aop, ev, sput, Zf, Yg, Yl, Nat.reduceBEq, add1 (show k < 9223372036854775807 by omega)]
    refine hQ2 _ _ _ ⟨(k + 1, x', h'), ⟨hk', ho', hEn2, fun b hb0 => ?_⟩, by simp only; omega, by simp (maxSteps := 2000000) only [vup, cond_true, cond_false, Nat.reduceBEq], rfl⟩
    simp only at hb0
    rcases hb' with hb' | ⟨b', hb1, hb2⟩
    · exact hbx b (hb' ▸ hb0)
    · rw [hb1] at hb0; cases hb0
      rw [List.length_append] at hb2
      have := hE.1; have := hEp.1; omega
  · have hkk : ws.length = k := by omega
    refine Ze fun N7 hN7 => ?_
    simp (maxSteps := 2000000) only [↓Za, ↓Zb, ↓Zc, vup, cond_true, cond_false, aop, Zg, ev, sput, Zf, Yg, Yl, Nat.reduceBEq, hin]
    refine hN7 [(0, Zd (e : Nat)), (2, .pointer (some ⟨bw, 0, none⟩)), (4, .pointer (some ⟨h.length, 0, none⟩)), (5, .slice none 0 0), (6, x), (9, wv), (10, Zd ws.length), (11, Zd (k : Nat)), (12, .bool false)] _ _ ?_ (by simp (maxSteps := 2000000) only [vup, cond_true, cond_false, Nat.reduceBEq])
    clear hN7
    try clear N7
    refine Ze fun N8 hN8 => ?_
    simp (maxSteps := 2000000) only [↓Xa, ↓vdn, vup, cond_true, cond_false, Zg, ev, Nat.reduceBEq]
    refine hQ2 _ _ _ (hQ _ _ _ ?_)
    simp (maxSteps := 2000000) only [Zg, Zr, Zv, if_true]
    refine hZ [(0, Zd (e : Nat)), (2, .pointer (some ⟨bw, 0, none⟩)), (4, .pointer (some ⟨h.length, 0, none⟩)), (5, .slice none 0 0), (6, x), (12, .bool false)] _ _ ?_ (by simp (maxSteps := 2000000) only [vup, cond_true, cond_false, Nat.reduceBEq])
    clear hZ
    try clear Z
    have b4p : hp[h.length]? = some (fC q.num q.den) := (hEp.2 _ (Yh b4) id).trans b4
    refine Zk ?_
    simp (maxSteps := 2000000) only [↓Za, ↓Zw, ↓Zz, ↓Zb, ↓Zc, vup, List.map_cons, List.map_nil, cond_true, cond_false, aop, Zg, ev, sput, Zf, Zl, Nat.reduceBEq, Zv, Xw, tup, loadF b4p, litF]
    refine OwnP.append (x := q.num) (y := q.den) (ho.ext (Ext.app _ _ _)) app_47_47 (by simp; omega) (Zy _ _) ?_
    intro x' h' ho' hE' hb'
    rw [← hkk, List.take_length] at ho'
    refine ⟨ext_app (hE.trans hEp) (H' := hp ++ [Blk.ints [q.num, (q.den : Int)] 26 false]) (by simp) (fun z hz => List.getElem?_append_left (by have := hE.1; have := hEp.1; omega)) hbx hE', ho', fun b hb0 => ?_⟩
    rcases hb' with hb' | ⟨b', hb1, hb2⟩
    · exact hbx b (hb' ▸ hb0)
    · rw [hb1] at hb0; cases hb0
      rw [List.length_append] at hb2
      have := hE.1; have := hEp.1; omega

theorem s102_callW [Tabs Try.prog] {args : List Value} {h : Zh} {Q : Value → Zh → Prop} (hsz : args.length ≤ 6) (hk : AWS Try.prog 6 s102 (Zv Try.prog [.tmp 2] Q) (Zt 0 args) h) : ACall Try.prog 102 args h Q :=
  Yn Try.func102 rfl (enters_of Try.func102 (by kernel_rfl) rfl) rfl rfl (by decide) s102_strip s102_ok hsz hk
theorem neg_call [Tabs prog] {h : Zh} {x y : Int} : Xi prog 102 [frV x y] h (.bool (decide (x < 0))) := by
  refine ACall.forget (Low.bool _) ?_
  refine s102_callW (by simp) ?_
  refine Zk ?_
  simp (maxSteps := 2000000) only [s102, ↓Za, ↓Zw, ↓Zz, ↓Zb, ↓Zc, vup, cond_true, cond_false, aop, Zg, Zt, ev, sput, Zf, Yg, Yl, Nat.reduceBEq, Zv, Xw, tup, tyf, frV, boxF, Yi, fA0, loadF0 (Zy h _)]
  exact Ext.app _ _ _
end Go.Proofs.Try.Am

namespace Go.Proofs.Try.Am
open Go.Am Bq
set_option maxRecDepth 100000
set_option maxHeartbeats 1000000

abbrev bB (x y : Int) : Blk := .cells [Zd x, Zd y] 92 false
abbrev zB : Blk := .cells [.int .i64 0, .int .i64 0] 92 false
theorem storeBt {h : Zh} {b : Nat} {x y : Int} {e : TypeId} {c : List Value} {K : Zh → Prop} (hb : h[b]? = some (.cells c e false)) (hc : c.length = 2) : Xs prog h 92 (.pointer (some ⟨b, 0, none⟩)) (.agg #[Zd x, Zd y]) K = K (h.set b (.cells [Zd x, Zd y] e false)) :=
  storeA (vs := [Zd x, Zd y]) hb (by rw [shp_92]; rfl) rfl (by rw [hc]; rfl)
theorem bA0 {b : Nat} {K : Value → Prop} : Yq prog 92 (.pointer (some ⟨b, 0, none⟩)) 0 K = K (.pointer (some ⟨b, 0, none⟩)) := fldA fld_92_0 esz_3
theorem bA1 {b : Nat} {K : Value → Prop} : Yq prog 92 (.pointer (some ⟨b, 0, none⟩)) 1 K = K (.pointer (some ⟨b, 1, none⟩)) := fldA fld_92_1 esz_3
theorem tA0 {b : Nat} {K : Value → Prop} : Yq prog 86 (.pointer (some ⟨b, 0, none⟩)) 0 K = K (.pointer (some ⟨b, 0, none⟩)) := fldA fld_86_0 esz_3
theorem tA1 {b : Nat} {K : Value → Prop} : Yq prog 86 (.pointer (some ⟨b, 0, none⟩)) 1 K = K (.pointer (some ⟨b, 1, none⟩)) := fldA fld_86_1 esz_30
theorem boxB {h : Zh} {x y : Int} {K : Value → Zh → Prop} : boxK prog h 92 (.agg #[Zd x, Zd y]) K = K (Yi h) (h ++ [bB x y]) := by
  simp [boxK, esz_92, Yi, cellsOf]
theorem boxT {h : Zh} {n : Int} {v : Value} {K : Value → Zh → Prop} : boxK prog h 86 (.agg #[Zd n, v]) K = K (Yi h) (h ++ [.cells [Zd n, v] 86 false]) := by
  simp [boxK, esz_86, Yi, cellsOf]
theorem Vz {h : Zh} {b : Nat} {n : Int} {v : Value} {K : Value → Prop} (hb : h[b]? = some (.cells [Zd n, v] 86 false)) : Xn prog h 3 (.pointer (some ⟨b, 0, none⟩)) K = K (Zd n) := loadC hb Wy rfl
theorem loadT1 {h : Zh} {b : Nat} {n : Int} {v : Value} {K : Value → Prop} (hb : h[b]? = some (.cells [Zd n, v] 86 false)) : Xn prog h 30 (.pointer (some ⟨b, 1, none⟩)) K = K v := loadC hb shp_30 rfl
theorem loadB0 {h : Zh} {b : Nat} {x y : Int} {K : Value → Prop} (hb : h[b]? = some (bB x y)) : Xn prog h 3 (.pointer (some ⟨b, 0, none⟩)) K = K (Zd x) := loadC hb Wy rfl
theorem loadB1 {h : Zh} {b : Nat} {x y : Int} {K : Value → Prop} (hb : h[b]? = some (bB x y)) : Xn prog h 3 (.pointer (some ⟨b, 1, none⟩)) K = K (Zd y) := loadC hb Wy rfl

theorem s115_callW [Tabs Try.prog] {args : List Value} {h : Zh} {Q : Value → Zh → Prop} (hsz : args.length ≤ 19) (hk : AWS Try.prog 19 s115 (Zv Try.prog [.tmp 4] Q) (Zt 0 args) h) : ACall Try.prog 115 args h Q :=
  Yn Try.func115 rfl (enters_of Try.func115 (by kernel_rfl) rfl) rfl rfl (by decide) s115_strip s115_ok hsz hk
theorem idxB_call [Tabs prog] {h : Zh} {v : Value} {ps : List (Int × Int)} {g : FuncId} {cap : Array Value} {f : Int × Int → Bool} (hv : PairSl h v ps) (hl : ps.length < 9223372036854775808)
    (hc : ∀ h', Ext (fun _ => False) h h' → ∀ p ∈ ps, Xi prog g ([.agg #[Zd p.1, Zd p.2]] ++ cap.toList) h' (.bool (f p))) : ACall prog 115 [v, .func (.func g) #[] cap] h fun r h' => h' = h ∧ ∃ i : Int, r = Zd i ∧ decide (0 ≤ i) = ps.any f := by
  refine s115_callW (by simp) ?_
  simp only [s115]
  refine Ze fun N1 hN1 => ?_
  simp (maxSteps := 2000000) only [↓Za, ↓Zb, ↓Zc, vup, cond_false, aop, Zg, Zt, ev, sput, Zf, Nat.reduceBEq, Nat.reduceAdd]
  refine hN1 [(0, v), (1, .func (.func g) #[] cap), (4, .int .i64 0)] _ _ ?_ (by simp (maxSteps := 2000000) only [vup, cond_true, cond_false, Nat.reduceBEq])
  clear hN1
  try clear N1
  refine Zm fun Z hZ => ?_
  refine Ze fun N2 hN2 => ?_
  simp (maxSteps := 2000000) only [↓Za, ↓Zb, ↓Zc, vup, List.map_cons, List.map_nil, cond_true, cond_false, aop, Zg, ev, sput, Zf, Zl, Nat.reduceBEq, tyf, hv.len]
  refine hN2 [(0, v), (1, .func (.func g) #[] cap), (4, .int .i64 0), (6, v), (7, Zd ps.length), (8, .int .i64 0)] _ _ ?_ (by simp (maxSteps := 2000000) only [vup, cond_true, cond_false, Nat.reduceBEq])
  clear hN2
  try clear N2
  refine Zn ?_
  refine Zs fun Q hQ => ?_
  refine Yu (γ := Nat) (fun k => k ≤ ps.length ∧ ∀ p ∈ ps.take k, f p = false)
    (fun k => ([(0, v), (1, .func (.func g) #[] cap), (4, .int .i64 0), (6, v), (7, Zd ps.length), (8, Zd (k : Nat))], h)) (fun k => ps.length - k) 0 ⟨Nat.zero_le _, by simp⟩ (by simp (maxSteps := 2000000) only [vup, cond_true, cond_false, Nat.reduceBEq, Int.natCast_zero]) rfl ?_
  rintro k ⟨hk, hall⟩
  refine Zs fun Q2 hQ2 => ?_
  simp only [l115_0]
  by_cases hin : (k : Int) < ps.length
  · have hk' : k < ps.length := by omega
    obtain ⟨⟨x, y⟩, hxy⟩ : ∃ p, ps.getD k (0, 0) = p := ⟨_, rfl⟩
    have hmem : (x, y) ∈ ps := hxy ▸ Vs hk'
    refine Ze fun N3 hN3 => ?_
    simp (maxSteps := 2000000) only [↓Za, ↓Zb, ↓Zc, vup, cond_true, cond_false, aop, Zg, ev, sput, Zf, Yg, Yl, Nat.reduceBEq, hin]
    refine hN3 [(0, v), (1, .func (.func g) #[] cap), (4, .int .i64 0), (6, v), (7, Zd ps.length), (8, Zd (k : Nat)), (9, .bool true)] _ _ ?_ (by simp (maxSteps := 2000000) only [vup, cond_true, cond_false, Nat.reduceBEq])
    clear hN3
    try clear N3
    refine Ze fun N4 hN4 => ?_
    simp (maxSteps := 2000000) only [↓Zu, ↓vdn, vup, cond_true, cond_false, Zg, ev, Nat.reduceBEq]
    refine hN4 [(0, v), (1, .func (.func g) #[] cap), (4, .int .i64 0), (6, v), (7, Zd ps.length), (8, Zd (k : Nat))] _ _ ?_ (by simp (maxSteps := 2000000) only [vup, cond_true, cond_false, Nat.reduceBEq])
    clear hN4
    try clear N4
    refine Zm fun B hB => ?_
    refine Zn ?_
    refine Ze fun N5 hN5 => ?_
    simp (maxSteps := 2000000) only [↓Za, ↓Zb, ↓Zc, vup, cond_true, cond_false, aop, Zg, ev, sput, Zf, Nat.reduceBEq]
    refine hN5 [(0, v), (1, .func (.func g) #[] cap), (4, .int .i64 0), (5, Zd (k : Nat)), (6, v), (7, Zd ps.length), (8, Zd (k : Nat))] _ _ ?_ (by simp (maxSteps := 2000000) only [vup, cond_true, cond_false, Nat.reduceBEq])
    clear hN5
    try clear N5
    refine Ze fun N6 hN6 => ?_
    simp (maxSteps := 2000000) only [↓Za, ↓Zb, ↓Zc, vup, List.map_cons, List.map_nil, cond_true, cond_false, aop, Zg, ev, sput, Zf, Nat.reduceBEq, hv.idx el_30 esz_92 hk', hv.load shp_92 hk', hxy, Yv, List.nil_append]
    refine (show Xi prog g ([.agg #[Zd x, Zd y]] ++ cap.toList) h (.bool (f (x, y))) from hc h (Ext.refl _ _) _ hmem).mono ?_
    rintro _ h ⟨rfl, rfl⟩
    refine hN6 [(0, v), (1, .func (.func g) #[] cap), (4, .int .i64 0), (5, Zd (k : Nat)), (6, v), (7, Zd ps.length), (8, Zd (k : Nat)), (16, .bool (f (x, y)))] _ _ ?_ (by simp (maxSteps := 2000000) only [vup, cond_true, cond_false, Nat.reduceBEq])
    clear hN6
    try clear N6
    refine Zk ?_
    cases hf : f (x, y) with
    | true =>
      simp (maxSteps := 2000000) only [↓Za, ↓Zw, ↓Zz, ↓Zb, ↓Zc, ↓vdn, vup, cond_true, cond_false, aop, Zg, Zr, ev, sput, Zf, Nat.reduceBEq]
      refine hQ2 _ _ _ (hQ _ _ _ ?_)
      simp (maxSteps := 2000000) only [vup, cond_true, cond_false, Zg, Zr, Nat.reduceBEq, Zv, Xw, tup]
      exact ⟨_, rfl, by rw [show ps.any f = true from List.any_eq_true.2 ⟨_, hmem, hf⟩]; simp⟩
    | false =>
      simp (maxSteps := 2000000) only [↓Zu, ↓vdn, vup, cond_true, cond_false, Zg, Zr, ev, Nat.reduceBEq]
      refine hB [(0, v), (1, .func (.func g) #[] cap), (4, .int .i64 0), (6, v), (7, Zd ps.length), (8, Zd (k : Nat))] _ _ ?_ (by simp (maxSteps := 2000000) only [vup, cond_true, cond_false, Nat.reduceBEq])
      clear hB
      try clear B
      refine Zk ?_
      simp (maxSteps := 2000000) only [↓Za, ↓Zb, ↓Zc, vup, cond_true, cond_false, aop, ev, sput, Zf, Yg, Yl, Nat.reduceBEq, add1 (show k < 9223372036854775807 by omega)]
      refine hQ2 _ _ _ ⟨k + 1, ⟨hk', fun p hp => ?_⟩, by omega, by simp (maxSteps := 2000000) only [vup, cond_true, cond_false, Nat.reduceBEq], rfl⟩
      rw [take_snoc (d := ((0, 0) : Int × Int)) hk', hxy] at hp
      rcases List.mem_append.1 hp with h3 | h3
      · exact hall p h3
      · simp at h3; subst h3; exact hf
  · obtain rfl : k = ps.length := by omega
    refine Ze fun N7 hN7 => ?_
    simp (maxSteps := 2000000) only [↓Za, ↓Zb, ↓Zc, vup, cond_true, cond_false, aop, Zg, ev, sput, Zf, Yg, Yl, Nat.reduceBEq, hin]
    refine hN7 [(0, v), (1, .func (.func g) #[] cap), (4, .int .i64 0), (6, v), (7, Zd ps.length), (8, Zd ps.length), (9, .bool false)] _ _ ?_ (by simp (maxSteps := 2000000) only [vup, cond_true, cond_false, Nat.reduceBEq])
    clear hN7
    try clear N7
    refine Ze fun N8 hN8 => ?_
    simp (maxSteps := 2000000) only [↓Xa, ↓vdn, vup, cond_true, cond_false, Zg, ev, Nat.reduceBEq]
    refine hQ2 _ _ _ (hQ _ _ _ ?_)
    simp (maxSteps := 2000000) only [Zg, Zr, Zv, if_true]
    refine hZ [(0, v), (1, .func (.func g) #[] cap), (4, .int .i64 0), (6, v), (7, Zd ps.length), (8, Zd ps.length), (9, .bool false)] _ _ ?_ (by simp (maxSteps := 2000000) only [vup, cond_true, cond_false, Nat.reduceBEq])
    clear hZ
    try clear Z
    refine Zk ?_
    simp (maxSteps := 2000000) only [↓Za, ↓Zw, ↓Zz, ↓Zb, ↓Zc, vup, cond_true, cond_false, aop, Zg, ev, sput, Zf, Nat.reduceBEq, Zv, Xw, tup]
    rw [List.take_length] at hall
    exact ⟨_, rfl, by rw [show ps.any f = false from List.any_eq_false.2 fun p hp => by simp [hall p hp]]; decide⟩

theorem s98_callW [Tabs Try.prog] {args : List Value} {h : Zh} {Q : Value → Zh → Prop} (hsz : args.length ≤ 9) (hk : AWS Try.prog 9 s98 (Zv Try.prog [.tmp 4] Q) (Zt 0 args) h) : ACall Try.prog 98 args h Q :=
  Yn Try.func98 rfl (enters_of Try.func98 (by kernel_rfl) rfl) rfl rfl (by decide) s98_strip s98_ok hsz hk
theorem hasB_call [Tabs prog] {h : Zh} {v : Value} {ps : List (Int × Int)} {g : FuncId} {cap : Array Value} {f : Int × Int → Bool} (hv : PairSl h v ps) (hl : ps.length < 9223372036854775808)
    (hc : ∀ h', Ext (fun _ => False) h h' → ∀ p ∈ ps, Xi prog g ([.agg #[Zd p.1, Zd p.2]] ++ cap.toList) h' (.bool (f p))) : Xi prog 98 [v, .func (.func g) #[] cap] h (.bool (ps.any f)) := by
  refine s98_callW (by simp) ?_
  refine Zk ?_
  simp (maxSteps := 2000000) only [s98, ↓Za, ↓Zw, ↓Zz, ↓Zb, ↓Zc, vup, List.map_cons, List.map_nil, cond_true, cond_false, aop, Zg, Zt, ev, sput, Zf, Yg, Yl, Nat.reduceBEq, Nat.reduceAdd, Zv, Xw, tup, tyf, Yv, List.nil_append, List.append_nil]
  refine (idxB_call hv hl hc).mono ?_
  rintro _ h1 ⟨rfl, i, rfl, hi⟩
  simp (maxSteps := 2000000) only [vup, hi]

theorem s99_callW [Tabs Try.prog] {args : List Value} {h : Zh} {Q : Value → Zh → Prop} (hsz : args.length ≤ 9) (hk : AWS Try.prog 9 s99 (Zv Try.prog [.tmp 3] Q) (Zt 0 args) h) : ACall Try.prog 99 args h Q :=
  Yn Try.func99 rfl (enters_of Try.func99 (by kernel_rfl) rfl) rfl rfl (by decide) s99_strip s99_ok hsz hk
theorem sameB_call [Tabs prog] {h : Zh} {b : Nat} {x y e c : Int} (hb : h[b]? = some (bB e c)) : Xi prog 99 [.agg #[Zd x, Zd y], .pointer (some ⟨b, 0, none⟩)] h (.bool (x == e)) := by
  refine ACall.forget (Low.bool _) ?_
  refine s99_callW (by simp) ?_
  refine Zk ?_
  simp (maxSteps := 2000000) only [s99, ↓Za, ↓Zw, ↓Zz, ↓Zb, ↓Zc, vup, cond_true, cond_false, aop, Zg, Zt, ev, sput, Zf, Yg, Yl, Nat.reduceBEq, Nat.reduceAdd, Zv, Xw, tup, tyf, boxB, Yi, bA0, loadB0 (Zy h _), loadB0 (Xu hb _)]
  exact Ext.app _ _ _

def okB (n : Nat) (p : Int × Int) : Bool := decide (0 ≤ p.1) && (decide (p.1 < 2 ^ n) && (decide (0 ≤ p.2) && decide (p.2 ≤ 12)))
def Ve (n : Nat) (l : List (Int × Int)) (k : Nat) : Bool := (List.range k).all fun i => okB n (l.getD i (0, 0)) && !(l.take i).any fun x => x.1 == (l.getD i (0, 0)).1
def Yz (n : Int) (l : List (Int × Int)) : Bool := decide (2 ≤ n) && (decide (n ≤ 5) && (decide (1 ≤ l.length) && (decide (l.length ≤ 6) && Ve n.toNat l l.length)))
theorem validTo_succ (n : Nat) (l : List (Int × Int)) (k : Nat) : Ve n l (k + 1) = (Ve n l k && (okB n (l.getD k (0, 0)) && !(l.take k).any fun x => x.1 == (l.getD k (0, 0)).1)) := by
  rw [Ve, List.range_succ, List.all_append]; simp [Ve]
theorem validTo_false {n : Nat} {l : List (Int × Int)} {k : Nat} (hk : k < l.length) (h : (okB n (l.getD k (0, 0)) && !(l.take k).any fun x => x.1 == (l.getD k (0, 0)).1) = false) : Ve n l l.length = false := by
  rw [Ve, List.all_eq_false]
  exact ⟨k, List.mem_range.2 hk, by simp only [h]; decide⟩

set_option maxHeartbeats 2000000
theorem s58_callW [Tabs Try.prog] {args : List Value} {h : Zh} {Q : Value → Zh → Prop} (hsz : args.length ≤ 61) (hk : AWS Try.prog 61 s58 (Zv Try.prog [.tmp 2] Q) (Zt 0 args) h) : ACall Try.prog 58 args h Q :=
  Yn Try.func58 rfl (enters_of Try.func58 (by kernel_rfl) rfl) rfl rfl (by decide) s58_strip s58_ok hsz hk
theorem valid_call [Tabs prog] {h : Zh} {n : Int} {v : Value} {l : List (Int × Int)} (hv : PairSl h v l) (hl : l.length < 9223372036854775808) : Xi prog 58 [.agg #[Zd n, v]] h (.bool (Yz n l)) := by
  obtain ⟨H, hH⟩ : ∃ H, H = h ++ [Blk.cells [Zd n, v] 86 false] := ⟨_, rfl⟩
  have hE : Ext (fun _ => False) h H := by rw [hH]; exact Ext.app _ _ _
  have b1 : H[h.length]? = some (.cells [Zd n, v] 86 false) := by rw [hH]; exact Zy _ _
  have hvH := hv.ext hE
  refine ACall.forget (Low.bool _) ?_
  refine s58_callW (by simp) ?_
  simp only [s58]
  refine Ze fun N9 hN9 => ?_
  simp (maxSteps := 2000000) only [↓Za, ↓Zb, ↓Zc, vup, cond_true, cond_false, aop, Zg, Zt, ev, sput, Zf, Nat.reduceBEq, boxT, Yi]
  rw [← hH]
  refine hN9 [(1, .pointer (some ⟨h.length, 0, none⟩)), (2, .bool false)] _ _ ?_ (by simp (maxSteps := 2000000) only [vup, cond_true, cond_false, Nat.reduceBEq])
  clear hN9
  try clear N9
  by_cases h1 : n < 2
  · refine Zk ?_
    simp (maxSteps := 2000000) only [↓Za, ↓Zw, ↓Zz, ↓Zb, ↓Zc, ↓vdn, vup, cond_true, cond_false, aop, Zg, ev, sput, Zf, Yg, Yl, Nat.reduceBEq, Zv, Xw, tup, tyf, tA0, Vz b1, h1]
    rw [Yz, show decide (2 ≤ n) = false by simp; omega, Bool.false_and]
    exact ⟨rfl, hE⟩
  by_cases h2 : n > 5
  · refine Zk ?_
    simp (maxSteps := 2000000) only [↓Za, ↓Zw, ↓Zz, ↓Zb, ↓Zc, ↓vdn, vup, cond_true, cond_false, aop, Zg, ev, sput, Zf, Yg, Yl, Nat.reduceBEq, Zv, Xw, tup, tyf, tA0, Vz b1, h1, h2]
    rw [Yz, show decide (n ≤ 5) = false by simp; omega, Bool.false_and, Bool.and_false]
    exact ⟨rfl, hE⟩
  by_cases h3 : (l.length : Int) < 1
  · refine Zk ?_
    simp (maxSteps := 2000000) only [↓Za, ↓Zw, ↓Zz, ↓Zb, ↓Zc, ↓vdn, vup, List.map_cons, List.map_nil, cond_true, cond_false, aop, Zg, ev, sput, Zf, Yg, Yl, Zl, Nat.reduceBEq, Zv, Xw, tup, tyf, tA0, tA1, Vz b1, loadT1 b1, h1, h2, hvH.len, h3]
    rw [Yz, show decide (1 ≤ l.length) = false by rw [decide_eq_false_iff_not]; omega, Bool.false_and, Bool.and_false, Bool.and_false]
    exact ⟨rfl, hE⟩
  by_cases h4 : (l.length : Int) > 6
  · refine Zk ?_
    simp (maxSteps := 2000000) only [↓Za, ↓Zw, ↓Zz, ↓Zb, ↓Zc, ↓vdn, vup, List.map_cons, List.map_nil, cond_true, cond_false, aop, Zg, ev, sput, Zf, Yg, Yl, Zl, Nat.reduceBEq, Zv, Xw, tup, tyf, tA0, tA1, Vz b1, loadT1 b1, h1, h2, hvH.len, h3, h4]
    rw [Yz, show decide (l.length ≤ 6) = false by simp; omega, Bool.false_and, Bool.and_false, Bool.and_false, Bool.and_false]
    exact ⟨rfl, hE⟩
  obtain ⟨m, rfl⟩ : ∃ m : Nat, n = m := ⟨n.toNat, by omega⟩
  have hval : Yz m l = Ve m l l.length := by
    rw [Yz, show decide ((2 : Int) ≤ m) = true by simp; omega, show decide ((m : Int) ≤ 5) = true by simp; omega, show decide (1 ≤ l.length) = true by rw [decide_eq_true_eq]; omega, show decide (l.length ≤ 6) = true by simp; omega]
    simp
  rw [hval]
  have hpm : (2 : Nat) ^ m ≤ 2 ^ 5 := Nat.pow_le_pow_right (by decide) (by omega)
  refine Zm fun Y hY => ?_
  refine Ze fun N10 hN10 => ?_
  simp (maxSteps := 2000000) only [↓Za, ↓Zb, ↓Zc, ↓vdn, vup, List.map_cons, List.map_nil, cond_true, cond_false, aop, Zg, ev, sput, Zf, Yg, Yl, Zl, Nat.reduceBEq, tyf, tA0, tA1, Vz b1, loadT1 b1, h1, h2, hvH.len, h3, h4]
  refine hN10 [(1, .pointer (some ⟨h.length, 0, none⟩)), (2, .bool false), (24, .bool false)] _ _ ?_ (by simp (maxSteps := 2000000) only [vup, cond_true, cond_false, Nat.reduceBEq])
  clear hN10
  try clear N10
  refine Xb rfl ?_
  refine Zk ?_
  simp (maxSteps := 2000000) only [↓Zu, Zg]
  refine hY [(1, .pointer (some ⟨h.length, 0, none⟩)), (2, .bool false), (24, .bool false)] _ _ ?_ (by simp (maxSteps := 2000000) only [vup, cond_true, cond_false, Nat.reduceBEq])
  clear hY
  try clear Y
  refine Zm fun Z hZ => ?_
  refine Ze fun N11 hN11 => ?_
  simp (maxSteps := 2000000) only [↓Za, ↓Zb, ↓Zc, vup, List.map_cons, List.map_nil, cond_true, cond_false, aop, Zg, ev, sput, Zf, Zl, Nat.reduceBEq, tyf, tA1, loadT1 b1, hvH.len]
  refine hN11 [(1, .pointer (some ⟨h.length, 0, none⟩)), (2, .bool false), (24, .bool false), (26, v), (27, Zd l.length), (28, .int .i64 0)] _ _ ?_ (by simp (maxSteps := 2000000) only [vup, cond_true, cond_false, Nat.reduceBEq])
  clear hN11
  try clear N11
  refine Zn ?_
  refine Zs fun Q hQ => ?_
  refine Yu (γ := Nat × Zh) (fun s => s.1 ≤ l.length ∧ Ve m l s.1 = true ∧ Ext (fun _ => False) H s.2)
    (fun s => ([(1, .pointer (some ⟨h.length, 0, none⟩)), (2, .bool false), (24, .bool false), (26, v), (27, Zd l.length), (28, Zd (s.1 : Nat))], s.2)) (fun s => l.length - s.1) (0, H) ⟨Nat.zero_le _, rfl, Ext.refl _ _⟩ (by simp (maxSteps := 2000000) only [vup, cond_true, cond_false, Nat.reduceBEq, Int.natCast_zero]) rfl ?_
  rintro ⟨k, hp⟩ ⟨hk, hall, hEp⟩
  simp only at hk hall hEp
  refine Zs fun Q2 hQ2 => ?_
  simp only [l58_0]
  by_cases hin : (k : Int) < l.length
  · have hk' : k < l.length := by omega
    have hvp := hvH.ext hEp
    obtain ⟨⟨x, y⟩, hxy⟩ : ∃ p, l.getD k (0, 0) = p := ⟨_, rfl⟩
    have hmem : (x, y) ∈ l := hxy ▸ Vs hk'
    obtain ⟨G, hG⟩ : ∃ G, G = hp ++ [bB x y] := ⟨_, rfl⟩
    have c4 : G[hp.length]? = some (bB x y) := by rw [hG]; exact Zy _ _
    have hEG : Ext (fun _ => False) H G := by rw [hG]; exact hEp.trans (Ext.app _ _ _)
    have c1 : G[h.length]? = some (.cells [Zd (m : Int), v] 86 false) := (hEG.2 _ (Yh b1) id).trans b1
    have hvG := hvH.ext hEG
    have vfalse : (okB m (x, y) && !(l.take k).any fun z => z.1 == x) = false → Ve m l l.length = false := fun hf => validTo_false hk' (by rw [hxy]; exact hf)
    have ret0 : (okB m (x, y) && !(l.take k).any fun z => z.1 == x) = false → ∀ e, sget e 2 = .bool false → Q2 .ret e G := by
      intro hf e he
      refine hQ2 _ _ _ (hQ _ _ _ ?_)
      simp (maxSteps := 2000000) only [vup, Zg, Zr, Zv, Xw, tup, he, vfalse hf]
      exact hE.trans hEG
    have hsh : shlV .i64 1 (m : Int) = 2 ^ m := shl1 (by omega)
    refine Ze fun N12 hN12 => ?_
    simp (maxSteps := 2000000) only [↓Za, ↓Zb, ↓Zc, vup, cond_true, cond_false, aop, Zg, ev, sput, Zf, Yg, Yl, Nat.reduceBEq, hin]
    refine hN12 [(1, .pointer (some ⟨h.length, 0, none⟩)), (2, .bool false), (24, .bool false), (26, v), (27, Zd l.length), (28, Zd (k : Nat)), (29, .bool true)] _ _ ?_ (by simp (maxSteps := 2000000) only [vup, cond_true, cond_false, Nat.reduceBEq])
    clear hN12
    try clear N12
    refine Ze fun N13 hN13 => ?_
    simp (maxSteps := 2000000) only [↓Zu, ↓vdn, vup, cond_true, cond_false, Zg, ev, Nat.reduceBEq]
    refine hN13 [(1, .pointer (some ⟨h.length, 0, none⟩)), (2, .bool false), (24, .bool false), (26, v), (27, Zd l.length), (28, Zd (k : Nat))] _ _ ?_ (by simp (maxSteps := 2000000) only [vup, cond_true, cond_false, Nat.reduceBEq])
    clear hN13
    try clear N13
    refine Zm fun B hB => ?_
    refine Zn ?_
    refine Ze fun N14 hN14 => ?_
    simp (maxSteps := 2000000) only [↓Za, ↓Zb, ↓Zc, vup, cond_true, cond_false, aop, Zg, ev, sput, Zf, Nat.reduceBEq, tyf, hvp.idx el_30 esz_92 hk', hvp.load shp_92 hk', hxy, Xm, Yi, storeBt (Zy hp zB) rfl, Wf]
    rw [← hG]
    refine hN14 [(1, .pointer (some ⟨h.length, 0, none⟩)), (2, .bool false), (3, Zd (k : Nat)), (4, .pointer (some ⟨hp.length, 0, none⟩)), (24, .bool false), (26, v), (27, Zd l.length), (28, Zd (k : Nat))] _ _ ?_ (by simp (maxSteps := 2000000) only [vup, cond_true, cond_false, Nat.reduceBEq])
    clear hN14
    try clear N14
    refine Zm fun C hC => ?_
    refine Ze fun N15 hN15 => ?_
    simp only [q58_6]
    refine Xv [] (by kernel_rfl) (by kernel_rfl) (by kernel_rfl) (by kernel_rfl) ?_
    by_cases g1 : x < 0
    · simp (maxSteps := 2000000) only [↓Yr, ↓vdn, vup, cond_true, cond_false, aop, Zg, ev, sput, Zf, Yg, Yl, pickK, Nat.reduceBEq, Nat.reduceAdd, tyf, bA0, loadB0 c4, g1]
      refine hN15 [(1, .pointer (some ⟨h.length, 0, none⟩)), (2, .bool false), (3, Zd (k : Nat)), (4, .pointer (some ⟨hp.length, 0, none⟩)), (24, .bool false), (26, v), (27, Zd l.length), (28, Zd (k : Nat)), (53, .bool true)] _ _ ?_ (by simp (maxSteps := 2000000) only [vup, cond_true, cond_false, Nat.reduceBEq])
      clear hN15
      try clear N15
      refine Zk ?_
      simp (maxSteps := 2000000) only [↓Za, ↓Zw, ↓Zz, ↓Zb, ↓Zc, ↓vdn, vup, cond_true, cond_false, aop, Zg, Zr, ev, sput, Zf, Nat.reduceBEq]
      exact ret0 (by simp [okB]; omega) _ rfl
    by_cases g2 : x ≥ 2 ^ m
    · simp (maxSteps := 2000000) only [↓Yr, ↓vdn, vup, cond_true, cond_false, aop, Zg, ev, sput, Zf, Yg, Yl, pickK, Nat.reduceBEq, Nat.reduceAdd, tyf, bA0, loadB0 c4, g1, tA0, Vz c1, hsh, Int.natCast_nonneg, g2]
      refine hN15 [(1, .pointer (some ⟨h.length, 0, none⟩)), (2, .bool false), (3, Zd (k : Nat)), (4, .pointer (some ⟨hp.length, 0, none⟩)), (24, .bool false), (26, v), (27, Zd l.length), (28, Zd (k : Nat)), (53, .bool true)] _ _ ?_ (by simp (maxSteps := 2000000) only [vup, cond_true, cond_false, Nat.reduceBEq])
      clear hN15
      try clear N15
      refine Zk ?_
      simp (maxSteps := 2000000) only [↓Za, ↓Zw, ↓Zz, ↓Zb, ↓Zc, ↓vdn, vup, cond_true, cond_false, aop, Zg, Zr, ev, sput, Zf, Nat.reduceBEq]
      exact ret0 (by simp [okB]; omega) _ rfl
    by_cases g3 : y < 0
    · simp (maxSteps := 2000000) only [↓Yr, ↓vdn, vup, cond_true, cond_false, aop, Zg, ev, sput, Zf, Yg, Yl, pickK, Nat.reduceBEq, Nat.reduceAdd, tyf, bA0, bA1, loadB0 c4, loadB1 c4, g1, tA0, Vz c1, hsh, Int.natCast_nonneg, g2, g3]
      refine hN15 [(1, .pointer (some ⟨h.length, 0, none⟩)), (2, .bool false), (3, Zd (k : Nat)), (4, .pointer (some ⟨hp.length, 0, none⟩)), (24, .bool false), (26, v), (27, Zd l.length), (28, Zd (k : Nat)), (53, .bool true)] _ _ ?_ (by simp (maxSteps := 2000000) only [vup, cond_true, cond_false, Nat.reduceBEq])
      clear hN15
      try clear N15
      refine Zk ?_
      simp (maxSteps := 2000000) only [↓Za, ↓Zw, ↓Zz, ↓Zb, ↓Zc, ↓vdn, vup, cond_true, cond_false, aop, Zg, Zr, ev, sput, Zf, Nat.reduceBEq]
      exact ret0 (by simp [okB]; omega) _ rfl
    by_cases g4 : y > 12
    · simp (maxSteps := 2000000) only [↓Yr, ↓vdn, vup, cond_true, cond_false, aop, Zg, ev, sput, Zf, Yg, Yl, pickK, Nat.reduceBEq, Nat.reduceAdd, tyf, bA0, bA1, loadB0 c4, loadB1 c4, g1, tA0, Vz c1, hsh, Int.natCast_nonneg, g2, g3, g4]
      refine hN15 [(1, .pointer (some ⟨h.length, 0, none⟩)), (2, .bool false), (3, Zd (k : Nat)), (4, .pointer (some ⟨hp.length, 0, none⟩)), (24, .bool false), (26, v), (27, Zd l.length), (28, Zd (k : Nat)), (53, .bool true)] _ _ ?_ (by simp (maxSteps := 2000000) only [vup, cond_true, cond_false, Nat.reduceBEq])
      clear hN15
      try clear N15
      refine Zk ?_
      simp (maxSteps := 2000000) only [↓Za, ↓Zw, ↓Zz, ↓Zb, ↓Zc, ↓vdn, vup, cond_true, cond_false, aop, Zg, Zr, ev, sput, Zf, Nat.reduceBEq]
      exact ret0 (by simp [okB]; omega) _ rfl
    simp (maxSteps := 2000000) only [↓Yr, ↓vdn, vup, cond_true, cond_false, aop, Zg, ev, sput, Zf, Yg, Yl, pickK, Nat.reduceBEq, Nat.reduceAdd, tyf, bA0, bA1, loadB0 c4, loadB1 c4, g1, tA0, Vz c1, hsh, Int.natCast_nonneg, g2, g3, g4]
    refine hN15 [(1, .pointer (some ⟨h.length, 0, none⟩)), (2, .bool false), (3, Zd (k : Nat)), (4, .pointer (some ⟨hp.length, 0, none⟩)), (24, .bool false), (26, v), (27, Zd l.length), (28, Zd (k : Nat)), (53, .bool false)] _ _ ?_ (by simp (maxSteps := 2000000) only [vup, cond_true, cond_false, Nat.reduceBEq])
    clear hN15
    try clear N15
    refine Zk ?_
    simp (maxSteps := 2000000) only [↓Zu, ↓vdn, vup, cond_true, cond_false, Zg, ev, Nat.reduceBEq]
    refine hC [(1, .pointer (some ⟨h.length, 0, none⟩)), (2, .bool false), (3, Zd (k : Nat)), (4, .pointer (some ⟨hp.length, 0, none⟩)), (24, .bool false), (26, v), (27, Zd l.length), (28, Zd (k : Nat))] _ _ ?_ (by simp (maxSteps := 2000000) only [vup, cond_true, cond_false, Nat.reduceBEq])
    clear hC
    try clear C
    have hok : okB m (x, y) = true := by simp [okB]; omega
    refine Ze fun N16 hN16 => ?_
    simp (maxSteps := 2000000) only [↓Za, ↓Zb, ↓Zc, vup, List.map_cons, List.map_nil, cond_true, cond_false, aop, Zg, ev, sput, Zf, Nat.reduceBEq, tA1, loadT1 c1, Option.map_some, Option.map_none]
    refine hvG.pre el_30 esz_92 (show k ≤ l.length by omega) fun v' hv' => ?_
    have hs := hasB_call (g := 99) (cap := #[.pointer (some ⟨hp.length, 0, none⟩)]) (f := fun z => z.1 == x) hv' (by rw [List.length_take]; omega) (fun h' hx p _ => sameB_call ((hx.2 _ (Yh c4) id).trans c4))
    simp (maxSteps := 2000000) only [vup, List.map_cons, List.map_nil, cond_true, cond_false, ev, Nat.reduceBEq, Yv, List.nil_append, List.append_nil, List.map_toArray]
    refine (hs).mono ?_
    rintro _ G ⟨rfl, rfl⟩
    refine hN16 [(1, .pointer (some ⟨h.length, 0, none⟩)), (2, .bool false), (3, Zd (k : Nat)), (4, .pointer (some ⟨hp.length, 0, none⟩)), (24, .bool false), (26, v), (27, Zd l.length), (28, Zd (k : Nat)), (59, .bool ((l.take k).any fun z => z.1 == x))] _ _ ?_ (by simp (maxSteps := 2000000) only [vup, cond_true, cond_false, Nat.reduceBEq])
    clear hN16
    try clear N16
    refine Zk ?_
    cases hany : (l.take k).any fun z => z.1 == x with
    | true =>
      simp (maxSteps := 2000000) only [↓Za, ↓Zw, ↓Zz, ↓Zb, ↓Zc, ↓vdn, vup, cond_true, cond_false, aop, Zg, Zr, ev, sput, Zf, Nat.reduceBEq]
      exact ret0 (by rw [hany]; simp) _ rfl
    | false =>
      simp (maxSteps := 2000000) only [↓Zu, ↓vdn, vup, cond_true, cond_false, Zg, Zr, ev, Nat.reduceBEq]
      refine hB [(1, .pointer (some ⟨h.length, 0, none⟩)), (2, .bool false), (24, .bool false), (26, v), (27, Zd l.length), (28, Zd (k : Nat))] _ _ ?_ (by simp (maxSteps := 2000000) only [vup, cond_true, cond_false, Nat.reduceBEq])
      clear hB
      try clear B
      refine Zk ?_
      simp (maxSteps := 2000000) only [↓Za, ↓Zb, ↓Zc, vup, cond_true, cond_false, aop, ev, sput, Zf, Yg, Yl, Nat.reduceBEq, add1 (show k < 9223372036854775807 by omega)]
      refine hQ2 _ _ _ ⟨(k + 1, G), ⟨hk', ?_, hEG⟩, by simp only; omega, by simp (maxSteps := 2000000) only [vup, cond_true, cond_false, Nat.reduceBEq], rfl⟩
      simp only [validTo_succ, hall, hxy, hok, hany]; rfl
  · obtain rfl : k = l.length := by omega
    refine Ze fun N17 hN17 => ?_
    simp (maxSteps := 2000000) only [↓Za, ↓Zb, ↓Zc, vup, cond_true, cond_false, aop, Zg, ev, sput, Zf, Yg, Yl, Nat.reduceBEq, hin]
    refine hN17 [(1, .pointer (some ⟨h.length, 0, none⟩)), (2, .bool false), (24, .bool false), (26, v), (27, Zd l.length), (28, Zd l.length), (29, .bool false)] _ _ ?_ (by simp (maxSteps := 2000000) only [vup, cond_true, cond_false, Nat.reduceBEq])
    clear hN17
    try clear N17
    refine Ze fun N18 hN18 => ?_
    simp (maxSteps := 2000000) only [↓Xa, ↓vdn, vup, cond_true, cond_false, Zg, ev, Nat.reduceBEq]
    refine hQ2 _ _ _ (hQ _ _ _ ?_)
    simp (maxSteps := 2000000) only [Zg, Zr, Zv, if_true]
    refine hZ [(1, .pointer (some ⟨h.length, 0, none⟩)), (2, .bool false), (24, .bool false), (26, v), (27, Zd l.length), (28, Zd l.length), (29, .bool false)] _ _ ?_ (by simp (maxSteps := 2000000) only [vup, cond_true, cond_false, Nat.reduceBEq])
    clear hZ
    try clear Z
    refine Zk ?_
    simp (maxSteps := 2000000) only [↓Za, ↓Zw, ↓Zz, ↓Zb, ↓Zc, vup, cond_true, cond_false, aop, Zg, ev, sput, Zf, Nat.reduceBEq, Zv, Xw, tup, hall]
    exact hE.trans hEp
end Go.Proofs.Try.Am

namespace Go.Proofs.Try.Am
open Go.Am Bq
set_option maxRecDepth 100000
set_option maxHeartbeats 4000000

theorem rowC_sum {n : Nat} {l : List (Int × Int)} {ws : List Nat} : rowC (sysB n l ws) ws.length 0 = rowL (2 ^ n - 1) ws 1 := by
  apply List.ext_getElem?
  intro c
  simp only [rowC, rowL, List.getElem?_map, List.getElem?_append, List.length_map]
  by_cases h : c < ws.length
  · simp [h, show c < ws.length + 1 by omega, sysB, List.getD]
  · rw [if_neg h]
    by_cases h2 : c = ws.length
    · subst h2; simp [sysB]
    · rw [List.getElem?_eq_none (by simp; omega), List.getElem?_eq_none (by simp; omega)]; rfl
theorem rowC_bet {n : Nat} {l : List (Int × Int)} {ws : List Nat} (i : Nat) : rowC (sysB n l ws) ws.length (i + 1) = rowL (l.getD i (0, 0)).1.toNat ws (Rat.divInt (l.getD i (0, 0)).2 12) := by
  apply List.ext_getElem?
  intro c
  simp only [rowC, rowL, List.getElem?_map, List.getElem?_append, List.length_map]
  by_cases h : c < ws.length
  · simp [h, show c < ws.length + 1 by omega, sysB, List.getD]
  · rw [if_neg h]
    by_cases h2 : c = ws.length
    · subst h2; simp [sysB]
    · rw [List.getElem?_eq_none (by simp; omega), List.getElem?_eq_none (by simp; omega)]; rfl

def QSl (e : TypeId) (h : Zh) (v : Value) (ws : List Value) : Prop := (∃ b, v = .slice (some ⟨b, 0, none⟩) ws.length ws.length ∧ h[b]? = some (.cells ws e false)) ∨ OwnV e h v ws
theorem QSl.app [Tabs prog] {e t : TypeId} {h : Zh} {v r : Value} {ws : List Value} {b2 : Nat} (ho : QSl e h v ws) (hne : ws ≠ []) (hT : appT prog t t = some (e, 1, 24)) (hb2 : h[b2]? = some (.cells [r] e false)) (hw : ∀ w ∈ ws ++ [r], notI w = true ∧ one w = true) (hn : ws.length ≤ 1000)
    {K : Value → Zh → Prop} (hk : ∀ v' h', OwnV e h' v' (ws ++ [r]) → Ext (fun i => Yf v = some i) h h' → (Yf v' = Yf v ∨ ∃ b, Yf v' = some b ∧ h.length ≤ b) → K v' h') :
    Xg prog h t t v (.slice (some ⟨b2, 0, none⟩) 1 1) K := by
  rcases ho with ⟨b, rfl, hb⟩ | ho
  · simp only [Xg, hT, elemsK, putK, Xq, hb2, hb]
    refine ⟨fun h0 => absurd h0 (by decide), fun _ => ⟨by simp, fun h0 => by omega, fun _ => ⟨by omega, by simp, ?_⟩⟩⟩
    have e1 : (([r] : List Value).drop 0).take (1 * 1) = [r] := rfl
    have e2 : (ws.drop 0).take (ws.length * 1) = ws := by simp
    rw [e1, e2, mkb_no (by simp) (fun w hw' => (hw w hw').1)]
    refine hk _ _ (.inr ⟨h.length, [], by simp, by simp, by rw [List.append_nil]; exact Zy _ _⟩) (Ext.app _ _ _) (.inr ⟨_, rfl, Nat.le_refl _⟩)
  · exact ho.app hT (us := [r]) (.inr ⟨b2, 0, none, 1, [r], e, false, rfl, Nat.le_refl _, by simp [view, hb2, Blk.view], rfl⟩) hw (by simp; omega) hk

theorem litV [Tabs prog] {h : Zh} {t e : TypeId} {p : Option Addr} {n c : Nat} (he : elemOf' prog t = some e) (hz : Wj prog e = some [.slice none 0 0]) (hs : esz prog e = some 1) {K : Value → Zh → Prop} :
    Yp prog h t 1 [(0, .slice p n c)] K = K (.slice (some ⟨h.length, 0, none⟩) 1 1) (h ++ [.cells [.slice p n c] e false]) := by
  simp only [Yp, he, hz, hs, reps, fillL, mkb, Wr, cellsOf, List.length_cons, List.length_nil, Nat.zero_add, Nat.zero_mul, Ye]
  refine propext ⟨fun h => ?_, fun h => ⟨trivial, by decide, by decide, ?_⟩⟩
  · simpa [Xk] using h.2.2.2
  · simpa [Xk] using h
def BelAt (h : Zh) (w : Value) (b : List Rat) : Prop := ∃ bl, w = .slice (some ⟨bl, 0, none⟩) b.length b.length ∧ h[bl]? = some (.cells ((Yc (b.map ofQ)).map Zd) 26 false)
def CornSl (h : Zh) (v : Value) (cs : List (List Rat)) : Prop := ∃ ws, OwnV 90 h v ws ∧ Each (BelAt h) ws cs
theorem CornSl.ext {h h' : Zh} {v : Value} {cs : List (List Rat)} (c : CornSl h v cs) (hE : Ext (fun _ => False) h h') : CornSl h' v cs := by
  obtain ⟨ws, h1, h2⟩ := c
  exact ⟨ws, h1.ext hE, h2.imp fun w b ⟨bl, g1, g2⟩ => ⟨bl, g1, (hE.2 _ (Yh g2) id).trans g2⟩⟩
theorem We {n : Nat} {l : List (Int × Int)} (h : Yz n l = true) : 2 ≤ n ∧ n ≤ 5 ∧ 1 ≤ l.length ∧ l.length ≤ 6 ∧ ∀ i, i < l.length → okB n (l.getD i (0, 0)) = true := by
  simp only [Yz, Bool.and_eq_true, decide_eq_true_eq, Int.toNat_natCast] at h
  obtain ⟨h1, h2, h3, h4, h5⟩ := h
  refine ⟨by omega, by omega, h3, h4, fun i hi => ?_⟩
  rw [Ve, List.all_eq_true] at h5
  have := h5 i (List.mem_range.2 hi)
  rw [Bool.and_eq_true] at this
  exact this.1
def bkOf (v : Value) : Nat := (Yf v).getD 0
structure Rows (hp0 : Nat) (G : Zh) (q : Value) (ws : List Value) (k : Nat) (T : Xx) : Prop where
  sl : QSl 47 G q ws
  ne : ws ≠ []
  row : ∀ i, i < ws.length → OwnP 26 G (ws.getD i undef) (rowC T k i)
  inj : ∀ i j, i < ws.length → j < ws.length → Yf (ws.getD i undef) = Yf (ws.getD j undef) → i = j
  sep : ∀ i, i < ws.length → Yf (ws.getD i undef) ≠ Yf q
  old : (∀ b, Yf q = some b → hp0 ≤ b) ∧ ∀ i b, i < ws.length → Yf (ws.getD i undef) = some b → hp0 ≤ b
theorem Xy {e : TypeId} {h : Zh} {v : Value} {ps : List (Int × Int)} (ho : OwnP e h v ps) (hne : ps ≠ []) : ∃ b ys, v = .slice (some ⟨b, 0, some 0⟩) ps.length (ps.length + ys.length) ∧ h[b]? = some (.ints (Yc ps ++ Yc ys) e false) := by
  rcases ho with ⟨_, h1⟩ | ⟨b, ys, h1, h2⟩
  · exact absurd h1 hne
  · exact ⟨b, ys, h1, h2⟩
theorem Vm {T : Xx} {k i : Nat} : rowC T k i ≠ [] := by
  intro h
  have := rowC_len T k i
  rw [h] at this; simp at this
theorem QSl.blk {e : TypeId} {h : Zh} {v : Value} {ws : List Value} (hq : QSl e h v ws) (hne : ws ≠ []) : ∃ b c, Yf v = some b ∧ h[b]? = some (.cells c e false) ∧ b < h.length := by
  rcases hq with ⟨b, rfl, hb⟩ | ho
  · exact ⟨b, ws, rfl, hb, Yh hb⟩
  · rcases ho with ⟨_, h1⟩ | ⟨b, ys, rfl, _, hb⟩
    · exact absurd h1 hne
    · exact ⟨b, _, rfl, hb, Yh hb⟩
theorem Rows.ext {hp0 : Nat} {G G' : Zh} {q : Value} {ws : List Value} {k : Nat} {T : Xx} (R : Rows hp0 G q ws k T) (hE : Ext (fun _ => False) G G') : Rows hp0 G' q ws k T where
  sl := by
    rcases R.sl with ⟨b, h1, h2⟩ | ho
    · exact .inl ⟨b, h1, (hE.2 _ (Yh h2) id).trans h2⟩
    · exact .inr (ho.ext hE)
  ne := R.ne
  row i hi := (R.row i hi).ext hE
  inj := R.inj
  sep := R.sep
  old := R.old
theorem Rows.more [Tabs prog] {hp0 : Nat} {G G2 : Zh} {q rv : Value} {ws : List Value} {k b2 : Nat} {T : Xx} (R : Rows hp0 G q ws k T) (hl : ws.length ≤ 1000) (h0 : hp0 ≤ G.length) (hE : Ext (fun _ => False) G G2) (hr : OwnP 26 G2 rv (rowC T k ws.length)) (hrb : ∀ b, Yf rv = some b → G.length ≤ b) (hb2 : G2[b2]? = some (.cells [rv] 47 false))
    {K : Value → Zh → Prop} (hk : ∀ q' h', OwnV 47 h' q' (ws ++ [rv]) → Rows hp0 h' q' (ws ++ [rv]) k T → Ext (fun b => hp0 ≤ b) G2 h' → Ext (fun i => Yf q = some i) G2 h' → K q' h') : Xg prog G2 103 103 q (.slice (some ⟨b2, 0, none⟩) 1 1) K := by
  have R2 := R.ext hE
  obtain ⟨bq, cq, hbq, hq1, hq2⟩ := R.sl.blk R.ne
  obtain ⟨br, yr, hr1, hr2⟩ := Xy hr Vm
  have hbr : Yf rv = some br := by rw [hr1]; rfl
  have hbrl := hrb br hbr
  have hw : ∀ w ∈ ws ++ [rv], notI w = true ∧ one w = true := fun w hw => by
    rcases List.mem_append.1 hw with h1 | h1
    · obtain ⟨i, hi, rfl⟩ := List.mem_iff_getElem.1 h1
      obtain ⟨b, ys, e1, _⟩ := Xy (R.row i hi) Vm
      rw [List.getD, List.getElem?_eq_getElem hi, Option.getD_some] at e1
      rw [e1]; exact ⟨rfl, rfl⟩
    · rw [List.mem_singleton.1 h1, hr1]; exact ⟨rfl, rfl⟩
  refine R2.sl.app R.ne app_103_103 hb2 hw hl fun q' h' ho hE' hb' => ?_
  have rowb : ∀ i, i < ws.length → ∃ b, Yf (ws.getD i undef) = some b ∧ b < G.length := fun i hi => by
    obtain ⟨b, ys, e1, e2⟩ := Xy (R.row i hi) Vm
    exact ⟨b, by rw [e1]; rfl, Yh e2⟩
  have g1 : ∀ i, i < ws.length → (ws ++ [rv]).getD i undef = ws.getD i undef := fun i hi => by
    rw [List.getD, List.getElem?_append_left hi]; rfl
  have g2 : (ws ++ [rv]).getD ws.length undef = rv := by simp [List.getD]
  have hq'b : ∀ b, Yf q' = some b → b = bq ∨ G2.length ≤ b := fun b hb => by
    rcases hb' with h1 | ⟨b', h1, h2⟩
    · rw [h1, hbq] at hb; cases hb; exact .inl rfl
    · rw [h1] at hb; cases hb; exact .inr h2
  have keep : ∀ b, b ≠ bq → b < G2.length → h'[b]? = G2[b]? := fun b hb hl => hE'.2 b hl fun hc => hb (by rw [hbq] at hc; cases hc; rfl)
  refine hk q' h' ho ⟨.inr ho, by simp, fun i hi => ?_, fun i j hi hj he => ?_, fun i hi => ?_, ⟨fun b hb => ?_, fun i b hi hb => ?_⟩⟩ (hE'.mono fun b hb => R.old.1 b hb) hE'
  · rw [List.length_append, List.length_singleton] at hi
    rcases Nat.lt_or_ge i ws.length with h1 | h1
    · rw [g1 i h1]
      refine (R2.row i h1).same fun b hb => ?_
      obtain ⟨b', e1, e2⟩ := rowb i h1
      rw [e1] at hb; cases hb
      exact keep _ (fun hc => R.sep i h1 (by rw [e1, hbq, hc])) (by have := hE.1; omega)
    · rw [show i = ws.length by omega, g2]
      refine hr.same fun b hb => ?_
      rw [hbr] at hb; cases hb
      exact keep _ (by omega) (Yh hr2)
  · rw [List.length_append, List.length_singleton] at hi hj
    rcases Nat.lt_or_ge i ws.length with h1 | h1 <;> rcases Nat.lt_or_ge j ws.length with h2 | h2
    · rw [g1 i h1, g1 j h2] at he; exact R.inj i j h1 h2 he
    · rw [g1 i h1, show j = ws.length by omega, g2, hbr] at he
      obtain ⟨b', e1, e2⟩ := rowb i h1
      rw [e1] at he; cases he; omega
    · rw [g1 j h2, show i = ws.length by omega, g2, hbr] at he
      obtain ⟨b', e1, e2⟩ := rowb j h2
      rw [e1] at he; cases he; omega
    · omega
  · rw [List.length_append, List.length_singleton] at hi
    intro hc
    rcases Nat.lt_or_ge i ws.length with h1 | h1
    · rw [g1 i h1] at hc
      obtain ⟨b', e1, e2⟩ := rowb i h1
      rw [e1] at hc
      rcases hq'b b' hc.symm with h3 | h3
      · exact R.sep i h1 (by rw [e1, hbq, h3])
      · have := hE.1; omega
    · rw [show i = ws.length by omega, g2, hbr] at hc
      rcases hq'b br hc.symm with h3 | h3
      · omega
      · have := Yh hr2; omega
  · rcases hq'b b hb with h3 | h3
    · rw [h3]; exact R.old.1 _ hbq
    · have := hE.1; omega
  · rw [List.length_append, List.length_singleton] at hi
    rcases Nat.lt_or_ge i ws.length with h1 | h1
    · rw [g1 i h1] at hb; exact R.old.2 i b h1 hb
    · rw [show i = ws.length by omega, g2] at hb
      have := hrb b hb; omega
theorem Rows.mat {hp0 : Nat} {G : Zh} {q : Value} {ws : List Value} {k : Nat} {T : Xx} (R : Rows hp0 G q ws k T) (ho : OwnV 47 G q ws) : ∃ B C, q = .slice (some ⟨B, 0, some 0⟩) ws.length C ∧ ws.length ≤ C ∧ hp0 ≤ B ∧ Mat G B ws.length k (fun i => ws.getD i undef) (fun i => bkOf (ws.getD i undef)) T ∧ ∀ i, i < ws.length → hp0 ≤ bkOf (ws.getD i undef) := by
  rcases ho with ⟨_, h1⟩ | ⟨B, us, hq, _, hb⟩
  · exact absurd h1 R.ne
  · have hqb : Yf q = some B := by rw [hq]; rfl
    have rowb : ∀ i, i < ws.length → ∃ b ys, ws.getD i undef = .slice (some ⟨b, 0, some 0⟩) (k + 1) (k + 1 + ys.length) ∧ G[b]? = some (.ints (Yc (rowC T k i) ++ Yc ys) 26 false) := fun i hi => by
      obtain ⟨b, ys, e1, e2⟩ := Xy (R.row i hi) Vm
      rw [rowC_len] at e1
      exact ⟨b, ys, e1, e2⟩
    have bk : ∀ i, i < ws.length → Yf (ws.getD i undef) = some (bkOf (ws.getD i undef)) := fun i hi => by
      obtain ⟨b, ys, e1, e2⟩ := rowb i hi
      rw [e1]; rfl
    refine ⟨B, _, hq, by omega, R.old.1 B hqb, ⟨⟨us, ?_⟩, fun i hi => ?_, fun i j hi hj he => ?_, fun i hi hc => ?_⟩, fun i hi => R.old.2 i _ hi (bk i hi)⟩
    · have : (List.range ws.length).map (fun i => ws.getD i undef) = ws := by
        apply List.ext_getElem (by simp)
        intro i h1 h2
        simp [List.getD, h2]
      rw [this]; exact hb
    · obtain ⟨b, ys, e1, e2⟩ := rowb i hi
      refine ⟨k + 1 + ys.length, Yc ys, e1.trans ?_, by omega, ?_⟩
      · rw [bkOf, e1]; rfl
      · rw [bkOf, e1]; exact e2
    · exact R.inj i j hi hj (by rw [bk i hi, bk j hj, he])
    · exact R.sep i hi (by rw [bk i hi, hqb, hc])
end Go.Proofs.Try.Am

namespace Go.Proofs.Try.Am
open Go.Am Bq
set_option maxRecDepth 100000
set_option maxHeartbeats 4000000

theorem loopEnd {a b : Nat} (h1 : ¬ (a : Int) < b) (h2 : a ≤ b) : b = a := by omega
theorem castI_snoc (L : List Nat) (k : Nat) : Wu (L ++ [k]) = Wu L ++ [(k : Int)] := by simp [Wu]

theorem s60_callW [Tabs Try.prog] {args : List Value} {h : Zh} {Q : Value → Zh → Prop} (hsz : args.length ≤ 103) (hk : AWS Try.prog 103 s60 (Zv Try.prog [.tmp 2] Q) (Zt 0 args) h) : ACall Try.prog 60 args h Q :=
  Yn Try.func60 rfl (enters_of Try.func60 (by kernel_rfl) rfl) rfl rfl (by decide) s60_strip s60_ok hsz hk
theorem corners_call [Tabs prog] {h : Zh} {n : Nat} {v : Value} {l : List (Int × Int)} (hv : PairSl h v l) (hval : Yz n l = true) (htame : TameAll n l) :
    ACall prog 60 [.agg #[Zd (n : Nat), v]] h fun r h' => Ext (fun _ => False) h h' ∧ CornSl h' r (Xt n l) ∧ ∀ b, Yf r = some b → h.length ≤ b := by
  obtain ⟨hn2, hn5, hl1, hl6, hok⟩ := We hval
  have hpn : (2 : Nat) ^ n ≤ 2 ^ 5 := Nat.pow_le_pow_right (by decide) hn5
  have hp32 : (2 : Nat) ^ n ≤ 32 := hpn
  have hpp := Nat.two_pow_pos n
  have hsh : shlV .i64 1 (n : Int) = ((2 ^ n : Nat) : Int) := by rw [shl1 (by omega), pow_cast]
  have hsub : subV .i64 ((2 ^ n : Nat) : Int) 1 = ((2 ^ n - 1 : Nat) : Int) := by rw [subN (by omega)]; omega
  obtain ⟨H, hH⟩ : ∃ H, H = h ++ [Blk.cells [Zd (n : Nat), v] 86 false] := ⟨_, rfl⟩
  have hE : Ext (fun _ => False) h H := by rw [hH]; exact Ext.app _ _ _
  have t1 : H[h.length]? = some (.cells [Zd (n : Nat), v] 86 false) := by rw [hH]; exact Zy _ _
  refine s60_callW (by simp) ?_
  simp only [s60]
  refine Ze fun N1 hN1 => ?_
  simp (maxSteps := 2000000) only [↓Za, ↓Zb, ↓Zc, vup, cond_true, cond_false, aop, Zg, Zt, ev, sput, Zf, Nat.reduceBEq, boxT, Yi]
  rw [← hH]
  refine hN1 [(1, .pointer (some ⟨h.length, 0, none⟩)), (2, .slice none 0 0)] _ _ ?_ (by simp (maxSteps := 2000000) only [vup, cond_true, cond_false, Nat.reduceBEq])
  clear hN1
  try clear N1
  refine Ze fun N2 hN2 => ?_
  simp (maxSteps := 2000000) only [↓Za, ↓Zb, ↓Zc, vup, cond_false, aop, Zg, ev, sput, Zf, Nat.reduceBEq]
  refine hN2 [(1, .pointer (some ⟨h.length, 0, none⟩)), (2, .slice none 0 0), (3, .slice none 0 0)] _ _ ?_ (by simp (maxSteps := 2000000) only [vup, cond_true, cond_false, Nat.reduceBEq])
  clear hN2
  try clear N2
  refine Zm fun Z hZ => ?_
  refine Ze fun N3 hN3 => ?_
  simp (maxSteps := 2000000) only [↓Za, ↓Zb, ↓Zc, vup, cond_false, aop, Zg, ev, sput, Zf, Nat.reduceBEq]
  refine hN3 [(1, .pointer (some ⟨h.length, 0, none⟩)), (2, .slice none 0 0), (3, .slice none 0 0), (4, .int .i64 1)] _ _ ?_ (by simp (maxSteps := 2000000) only [vup, cond_true, cond_false, Nat.reduceBEq])
  clear hN3
  try clear N3
  refine Zn ?_
  refine Zs fun Q hQ => ?_
  refine Yu (γ := Nat × Value × Zh) (fun s => 1 ≤ s.1 ∧ s.1 ≤ 2 ^ n ∧ CornSl s.2.2 s.2.1 (Wm n l (s.1 - 1)) ∧ Ext (fun _ => False) H s.2.2 ∧ ∀ b, Yf s.2.1 = some b → H.length ≤ b)
    (fun s => ([(1, .pointer (some ⟨h.length, 0, none⟩)), (2, .slice none 0 0), (3, s.2.1), (4, Zd (s.1 : Nat))], s.2.2)) (fun s => 2 ^ n - s.1) (1, .slice none 0 0, H) ⟨Nat.le_refl _, hpp, ⟨[], .inl ⟨rfl, rfl⟩, trivial⟩, Ext.refl _ _, fun b hb => by cases hb⟩ (by simp (maxSteps := 2000000) only [vup, cond_true, cond_false, Nat.reduceBEq, Int.natCast_one]) rfl ?_
  rintro ⟨s, out, hp⟩ ⟨hs1, hs, hcs, hEp, hbo⟩
  simp only at hs1 hs hcs hEp hbo
  refine Zs fun Q2 hQ2 => ?_
  simp only [l60_3]
  have t1p : hp[h.length]? = some (.cells [Zd (n : Nat), v] 86 false) := (hEp.2 _ (Yh t1) id).trans t1
  have hHl : h.length < H.length := Yh t1
  by_cases hin : (s : Int) < ((2 ^ n : Nat) : Int)
  · have hs' : s < 2 ^ n := by omega
    refine Ze fun N4 hN4 => ?_
    simp (maxSteps := 2000000) only [↓Za, ↓Zu, ↓Zw, ↓Zb, ↓Zc, ↓vdn, vup, cond_true, cond_false, aop, Zg, ev, sput, Zf, Yg, Yl, Nat.reduceBEq, tyf, tA0, Vz t1p, Int.natCast_nonneg, hsh, hin]
    refine hN4 [(1, .pointer (some ⟨h.length, 0, none⟩)), (2, .slice none 0 0), (3, out), (4, Zd (s : Nat))] _ _ ?_ (by simp (maxSteps := 2000000) only [vup, cond_true, cond_false, Nat.reduceBEq])
    clear hN4
    try clear N4
    refine Zm fun Y hY => ?_
    refine Zn ?_
    -- the worlds' box
    obtain ⟨H1, hH1⟩ : ∃ H1, H1 = hp ++ [Blk.cells [.slice none 0 0] 38 false] := ⟨_, rfl⟩
    have b5 : H1[hp.length]? = some (.cells [.slice none 0 0] 38 false) := by rw [hH1]; exact Zy _ _
    have hE1 : Ext (fun _ => False) hp H1 := by rw [hH1]; exact Ext.app _ _ _
    have hH1l : H1.length = hp.length + 1 := by rw [hH1]; simp
    refine Ze fun N5 hN5 => ?_
    simp (maxSteps := 2000000) only [↓Za, ↓Zb, ↓Zc, vup, cond_false, aop, Zg, sput, Zf, Nat.reduceBEq, tyf, Xm, Yi]
    rw [← hH1]
    refine hN5 [(1, .pointer (some ⟨h.length, 0, none⟩)), (2, .slice none 0 0), (3, out), (4, Zd (s : Nat)), (5, .pointer (some ⟨hp.length, 0, none⟩))] _ _ ?_ (by simp (maxSteps := 2000000) only [vup, cond_true, cond_false, Nat.reduceBEq])
    clear hN5
    try clear N5
    -- the worlds
    refine Zm fun X hX => ?_
    refine Ze fun N6 hN6 => ?_
    simp (maxSteps := 2000000) only [↓Za, ↓Zb, ↓Zc, vup, cond_true, cond_false, aop, Zg, ev, sput, Zf, Nat.reduceBEq, tA0, Vz ((hE1.2 _ (Yh t1p) id).trans t1p)]
    refine hN6 [(1, .pointer (some ⟨h.length, 0, none⟩)), (2, .slice none 0 0), (3, out), (4, Zd (s : Nat)), (5, .pointer (some ⟨hp.length, 0, none⟩)), (24, Zd (n : Nat)), (25, .int .i64 0)] _ _ ?_ (by simp (maxSteps := 2000000) only [vup, cond_true, cond_false, Nat.reduceBEq])
    clear hN6
    try clear N6
    refine Zn ?_
    refine Zs fun Qa hQa => ?_
    refine Yu (γ := Nat × Value × Zh) (fun g => g.1 ≤ n ∧ g.2.2[hp.length]? = some (.cells [g.2.1] 38 false) ∧ OwnSl 3 g.2.2 g.2.1 (Wu (Zi s g.1)) ∧ Ext (fun _ => False) hp g.2.2 ∧ (∀ b, Yf g.2.1 = some b → hp.length < b))
      (fun g => ([(1, .pointer (some ⟨h.length, 0, none⟩)), (2, .slice none 0 0), (3, out), (4, Zd (s : Nat)), (5, .pointer (some ⟨hp.length, 0, none⟩)), (24, Zd (n : Nat)), (25, Zd (g.1 : Nat))], g.2.2)) (fun g => n - g.1) (0, .slice none 0 0, H1) ⟨Nat.zero_le _, b5, .inl ⟨rfl, rfl⟩, hE1, fun b hb => by cases hb⟩ (by simp (maxSteps := 2000000) only [vup, cond_true, cond_false, Nat.reduceBEq, Int.natCast_zero]) rfl ?_
    rintro ⟨k, wv, G⟩ ⟨hk, g5, how, hEG, hbw⟩
    simp only at hk g5 how hEG hbw
    refine Zs fun Qb hQb => ?_
    simp only [l60_0]
    by_cases hkin : (k : Int) < n
    · have hk' : k < n := by omega
      have ht := testV (y := k) (show s < 9223372036854775808 by omega)
      have hnx := Wd s k
      refine Ze fun N7 hN7 => ?_
      simp (maxSteps := 2000000) only [↓Za, ↓Zb, ↓Zc, vup, cond_true, cond_false, aop, Zg, ev, sput, Zf, Yg, Yl, Nat.reduceBEq, hkin]
      refine hN7 [(1, .pointer (some ⟨h.length, 0, none⟩)), (2, .slice none 0 0), (3, out), (4, Zd (s : Nat)), (5, .pointer (some ⟨hp.length, 0, none⟩)), (24, Zd (n : Nat)), (25, Zd (k : Nat)), (26, .bool true)] _ _ ?_ (by simp (maxSteps := 2000000) only [vup, cond_true, cond_false, Nat.reduceBEq])
      clear hN7
      try clear N7
      refine Ze fun N8 hN8 => ?_
      simp (maxSteps := 2000000) only [↓Zu, ↓vdn, vup, cond_true, cond_false, Zg, ev, Nat.reduceBEq]
      refine hN8 [(1, .pointer (some ⟨h.length, 0, none⟩)), (2, .slice none 0 0), (3, out), (4, Zd (s : Nat)), (5, .pointer (some ⟨hp.length, 0, none⟩)), (24, Zd (n : Nat)), (25, Zd (k : Nat))] _ _ ?_ (by simp (maxSteps := 2000000) only [vup, cond_true, cond_false, Nat.reduceBEq])
      clear hN8
      try clear N8
      refine Zm fun B hB => ?_
      refine Zn ?_
      refine Ze fun N9 hN9 => ?_
      simp (maxSteps := 2000000) only [↓Za, ↓Zb, ↓Zc, vup, cond_true, cond_false, aop, Zg, ev, sput, Zf, Nat.reduceBEq]
      refine hN9 [(1, .pointer (some ⟨h.length, 0, none⟩)), (2, .slice none 0 0), (3, out), (4, Zd (s : Nat)), (5, .pointer (some ⟨hp.length, 0, none⟩)), (6, Zd (k : Nat)), (24, Zd (n : Nat)), (25, Zd (k : Nat))] _ _ ?_ (by simp (maxSteps := 2000000) only [vup, cond_true, cond_false, Nat.reduceBEq])
      clear hN9
      try clear N9
      refine Ze fun N10 hN10 => ?_
      simp (maxSteps := 2000000) only [↓Za, ↓Zb, ↓Zc, vup, cond_true, cond_false, aop, Zg, ev, sput, Zf, Yg, Yl, Nat.reduceBEq, ht, beq1, Int.natCast_nonneg]
      refine hN10 [(1, .pointer (some ⟨h.length, 0, none⟩)), (2, .slice none 0 0), (3, out), (4, Zd (s : Nat)), (5, .pointer (some ⟨hp.length, 0, none⟩)), (6, Zd (k : Nat)), (24, Zd (n : Nat)), (25, Zd (k : Nat)), (32, .bool (s.testBit k))] _ _ ?_ (by simp (maxSteps := 2000000) only [vup, cond_true, cond_false, Nat.reduceBEq])
      clear hN10
      try clear N10
      cases hbit : s.testBit k with
      | false =>
        rw [hbit, if_neg (by decide), List.append_nil] at hnx
        refine Xb rfl ?_
        refine Zk ?_
        simp (maxSteps := 2000000) only [↓Zu, Zg, Zr]
        refine hB [(1, .pointer (some ⟨h.length, 0, none⟩)), (2, .slice none 0 0), (3, out), (4, Zd (s : Nat)), (5, .pointer (some ⟨hp.length, 0, none⟩)), (24, Zd (n : Nat)), (25, Zd (k : Nat))] _ _ ?_ (by simp (maxSteps := 2000000) only [vup, cond_true, cond_false, Nat.reduceBEq])
        clear hB
        try clear B
        refine Zk ?_
        simp (maxSteps := 2000000) only [↓Za, ↓Zb, ↓Zc, vup, cond_true, cond_false, aop, ev, sput, Zf, Yg, Yl, Nat.reduceBEq, add1 (show k < 9223372036854775807 by omega)]
        exact hQb _ _ _ ⟨(k + 1, wv, G), ⟨hk', g5, by simp only; rw [hnx]; exact how, hEG, hbw⟩, by simp only; omega, by simp (maxSteps := 2000000) only [vup, cond_true, cond_false, Nat.reduceBEq], rfl⟩
      | true =>
        rw [hbit, if_pos rfl] at hnx
        refine Xl rfl ?_
        refine Zk ?_
        simp (maxSteps := 2000000) only [↓Za, ↓Zb, ↓Zc, vup, List.map_cons, List.map_nil, cond_true, cond_false, aop, Zg, Zr, ev, sput, Zf, Zl, Nat.reduceBEq, Vd g5 Vb, litI1]
        have hwl := Va s k
        refine OwnSl.append (x := (k : Int)) (how.ext (S := fun _ => False) (Ext.app _ _ _) (fun _ _ => id)) app_38_38 (by rw [castI_len]; omega) (Zy _ _) ?_
        intro wv' G' ho' hE' hb'
        rw [← castI_snoc, ← hnx] at ho'
        have g5' : G'[hp.length]? = some (.cells [wv] 38 false) := by
          rw [hE'.2 _ (by rw [List.length_append]; have := Yh g5; omega) (fun hc => by have := hbw _ hc; omega)]
          exact Xu g5 _
        have hone : one wv' = true := ho'.notI.2
        have hE2 : Ext (fun _ => False) hp G' := ext_app hEG (H' := G ++ [Blk.ints [(k : Int)] 3 false]) (by simp) (fun q hq => List.getElem?_append_left (by have := hEG.1; omega)) (fun b hb => by have := hbw b hb; omega) hE'
        have hbw' : ∀ b, Yf wv' = some b → hp.length < b := fun b hb => by
          rcases hb' with h1 | ⟨b', h1, h2⟩
          · exact hbw b (h1 ▸ hb)
          · rw [h1] at hb; cases hb
            rw [List.length_append] at h2
            have := Yh g5; omega
        simp (maxSteps := 2000000) only [store1 g5' Vb hone]
        refine hB [(1, .pointer (some ⟨h.length, 0, none⟩)), (2, .slice none 0 0), (3, out), (4, Zd (s : Nat)), (5, .pointer (some ⟨hp.length, 0, none⟩)), (24, Zd (n : Nat)), (25, Zd (k : Nat))] _ _ ?_ (by simp (maxSteps := 2000000) only [vup, cond_true, cond_false, Nat.reduceBEq])
        clear hB
        try clear B
        refine Zk ?_
        simp (maxSteps := 2000000) only [↓Za, ↓Zb, ↓Zc, vup, cond_true, cond_false, aop, ev, sput, Zf, Yg, Yl, Nat.reduceBEq, add1 (show k < 9223372036854775807 by omega)]
        refine hQb _ _ _ ⟨(k + 1, wv', G'.set hp.length (.cells [wv'] 38 false)), ⟨hk', Wg (Yh g5') _, ?_, hE2.set_ge (Nat.le_refl _) _, hbw'⟩, by simp only; omega, by simp (maxSteps := 2000000) only [vup, cond_true, cond_false, Nat.reduceBEq], rfl⟩
        exact ho'.ext (S := fun b => b = hp.length) (Ext.set _ rfl) (fun b hb hc => by have := hbw' b hb; omega)
    have hkn := loopEnd hkin hk
    subst hkn
    refine Ze fun N11 hN11 => ?_
    simp (maxSteps := 2000000) only [↓Za, ↓Zb, ↓Zc, vup, cond_true, cond_false, aop, Zg, ev, sput, Zf, Yg, Yl, Nat.reduceBEq, hkin]
    refine hN11 [(1, .pointer (some ⟨h.length, 0, none⟩)), (2, .slice none 0 0), (3, out), (4, Zd (s : Nat)), (5, .pointer (some ⟨hp.length, 0, none⟩)), (24, Zd (n : Nat)), (25, Zd (n : Nat)), (26, .bool false)] _ _ ?_ (by simp (maxSteps := 2000000) only [vup, cond_true, cond_false, Nat.reduceBEq])
    clear hN11
    try clear N11
    refine Ze fun N12 hN12 => ?_
    simp (maxSteps := 2000000) only [↓Xa, ↓vdn, vup, cond_true, cond_false, Zg, ev, Nat.reduceBEq]
    refine hQb _ _ _ (hQa _ _ _ ?_)
    simp (maxSteps := 2000000) only [Zg, Zr, if_true]
    refine hX [(1, .pointer (some ⟨h.length, 0, none⟩)), (2, .slice none 0 0), (3, out), (4, Zd (s : Nat)), (5, .pointer (some ⟨hp.length, 0, none⟩)), (26, .bool false)] _ _ ?_ (by simp (maxSteps := 2000000) only [vup, cond_true, cond_false, Nat.reduceBEq])
    clear hX
    try clear X
    obtain ⟨W, hW⟩ : ∃ W, W = Zi s n := ⟨_, rfl⟩
    have hWN : Yk n s = W := hW.symm
    have hWl : W.length ≤ n := by rw [hW]; exact Va s n
    have hW1 : 1 ≤ W.length := by rw [← hWN]; exact worldsN_pos hs1 hs'
    have hWlt : ∀ w ∈ W, w < n := fun w hw => (worldsTo_lt (by rw [← hW]; exact hw)).1
    have htm := htame s hs1 hs'
    rw [hWN] at htm
    rw [← hW] at how
    obtain ⟨T, hT⟩ : ∃ T, T = sysB n l W := ⟨_, rfl⟩
    have hcorner : Vj n l s = (Wc (l.length + 1) W.length T).bind fun x => if x.any (fun q => decide (q < 0)) then none else some (Wb n W x W.length) := by rw [Vj, hWN, hT]
    rw [← hT] at htm
    clear hW hQa hQb
    refine Ze fun N13 hN13 => ?_
    simp (maxSteps := 2000000) only [↓Za, ↓Zb, ↓Zc, vup, List.map_cons, List.map_nil, cond_true, cond_false, aop, Zg, ev, sput, Zf, Nat.reduceBEq, List.map_toArray]
    refine hN13 [(1, .pointer (some ⟨h.length, 0, none⟩)), (2, .slice none 0 0), (3, out), (4, Zd (s : Nat)), (5, .pointer (some ⟨hp.length, 0, none⟩)), (7, .func (.func 100) #[] #[.pointer (some ⟨hp.length, 0, none⟩)]), (26, .bool false)] _ _ ?_ (by simp (maxSteps := 2000000) only [vup, cond_true, cond_false, Nat.reduceBEq])
    clear hN13
    try clear N13
    -- the first row
    have hpG : hp.length < G.length := Yh g5
    have t1G : G[h.length]? = some (.cells [Zd (n : Nat), v] 86 false) := (hEG.2 _ (Yh t1p) id).trans t1p
    refine Ze fun N14 hN14 => ?_
    simp only [q60_13]
    refine Xv [(5, 1), (6, 4)] (by kernel_rfl) (by kernel_rfl) (by kernel_rfl) (by kernel_rfl) ?_
    simp (maxSteps := 2000000) only [↓Yr, ↓vdn, vup, List.map_cons, List.map_nil, cond_true, cond_false, aop, Zg, ev, sput, Zf, Yg, Yl, Nat.reduceBEq, Nat.reduceAdd, tyf, tA0, Vz t1G, Int.natCast_nonneg, hsh, hsub, Yv, List.nil_append, List.append_nil, List.cons_append]
    refine ⟨_, _, (show Xi prog 70 [Zd 1] G (qV ((1 : Int) : Rat)) from Vp), rfl, ?_⟩
    refine (row_call (q := ((1 : Int) : Rat)) g5 how.int (by omega) (show 2 ^ n - 1 < 9223372036854775808 by omega)).mono ?_
    rintro r0 G1 ⟨x1, x2, x3⟩
    have x2' : OwnP 26 G1 r0 (rowC T W.length 0) := by rw [hT, rowC_sum]; exact x2
    obtain ⟨bb, yy, hr0, -⟩ := Xy x2' Vm
    have lit0 : ∀ K : Value → Zh → Prop, Yp prog G1 103 1 [(0, r0)] K = K (.slice (some ⟨G1.length, 0, none⟩) 1 1) (G1 ++ [.cells [r0] 47 false]) := fun K => by rw [hr0]; exact litV el_103 zero_47 esz_47
    simp (maxSteps := 2000000) only [lit0]
    refine hN14 [(1, .pointer (some ⟨h.length, 0, none⟩)), (2, .slice none 0 0), (3, out), (4, Zd (s : Nat)), (5, .pointer (some ⟨hp.length, 0, none⟩)), (7, .func (.func 100) #[] #[.pointer (some ⟨hp.length, 0, none⟩)]), (8, .slice (some ⟨G1.length, 0, none⟩) 1 1), (26, .bool false)] _ _ ?_ (by simp (maxSteps := 2000000) only [vup, cond_true, cond_false, Nat.reduceBEq])
    clear hN14
    try clear N14
    have hbr0 : Yf r0 = some bb := by rw [hr0]; rfl
    have hbb := x3 bb hbr0
    have R0 : Rows hp.length (G1 ++ [.cells [r0] 47 false]) (.slice (some ⟨G1.length, 0, none⟩) 1 1) [r0] W.length T := by
      obtain ⟨b2, y2, e1, e2⟩ := Xy x2' Vm
      have hbl : bb < G1.length := by rw [e1] at hbr0; cases hbr0; exact Yh e2
      refine ⟨.inl ⟨_, rfl, Zy _ _⟩, by simp, fun i hi => ?_, fun i j hi hj _ => ?_, fun i hi hc => ?_, ⟨fun b hb => ?_, fun i b hi hb => ?_⟩⟩
      · obtain rfl : i = 0 := by simpa using hi
        exact x2'.ext (Ext.app _ _ _)
      · simp at hi hj; omega
      · obtain rfl : i = 0 := by simpa using hi
        simp only [List.getD, List.getElem?_cons_zero, Option.getD_some, hbr0] at hc
        cases hc; omega
      · cases hb; have := x1.1; omega
      · obtain rfl : i = 0 := by simpa using hi
        simp only [List.getD, List.getElem?_cons_zero, Option.getD_some, hbr0] at hb
        cases hb; omega
    have how0 : OwnSl 3 (G1 ++ [.cells [r0] 47 false]) wv (Wu W) := how.ext (S := fun _ => False) (x1.trans (Ext.app _ _ _)) (fun _ _ => id)
    have g50 : (G1 ++ [Blk.cells [r0] 47 false])[hp.length]? = some (.cells [wv] 38 false) := Xu ((x1.2 _ hpG id).trans g5) _
    have hE0 : Ext (fun _ => False) hp (G1 ++ [.cells [r0] 47 false]) := hEG.trans (x1.trans (Ext.app _ _ _))
    clear x1 x2 x2' x3 lit0 g5 how hEG t1G b5 hE1 hH1 hH1l H1
    have tI : ∀ G : Zh, Ext (fun _ => False) hp G → G[h.length]? = some (.cells [Zd (n : Nat), v] 86 false) ∧ PairSl G v l := fun G hx => ⟨(hx.2 _ (Yh t1p) id).trans t1p, hv.ext (hE.trans (hEp.trans hx))⟩
    -- a row for each bet
    refine Zm fun X hX => ?_
    refine Ze fun N15 hN15 => ?_
    simp (maxSteps := 2000000) only [↓Za, ↓Zb, ↓Zc, vup, List.map_cons, List.map_nil, cond_true, cond_false, aop, Zg, ev, sput, Zf, Zl, Nat.reduceBEq, tyf, tA1, loadT1 (tI _ hE0).1, hv.len]
    refine hN15 [(1, .pointer (some ⟨h.length, 0, none⟩)), (2, .slice none 0 0), (3, out), (4, Zd (s : Nat)), (5, .pointer (some ⟨hp.length, 0, none⟩)), (7, .func (.func 100) #[] #[.pointer (some ⟨hp.length, 0, none⟩)]), (8, .slice (some ⟨G1.length, 0, none⟩) 1 1), (26, .bool false), (48, v), (49, Zd l.length), (50, .int .i64 0)] _ _ ?_ (by simp (maxSteps := 2000000) only [vup, cond_true, cond_false, Nat.reduceBEq])
    clear hN15
    try clear N15
    refine Zn ?_
    refine Zs fun Qa hQa => ?_
    refine Yu (γ := Nat × Value × List Value × Zh) (fun g => g.1 ≤ l.length ∧ g.2.2.1.length = g.1 + 1 ∧ Rows hp.length g.2.2.2 g.2.1 g.2.2.1 W.length T ∧ (1 ≤ g.1 → OwnV 47 g.2.2.2 g.2.1 g.2.2.1) ∧ Ext (fun _ => False) hp g.2.2.2 ∧ g.2.2.2[hp.length]? = some (.cells [wv] 38 false) ∧ OwnSl 3 g.2.2.2 wv (Wu W))
      (fun g => ([(1, .pointer (some ⟨h.length, 0, none⟩)), (2, .slice none 0 0), (3, out), (4, Zd (s : Nat)), (5, .pointer (some ⟨hp.length, 0, none⟩)), (7, .func (.func 100) #[] #[.pointer (some ⟨hp.length, 0, none⟩)]), (8, g.2.1), (26, .bool false), (48, v), (49, Zd l.length), (50, Zd (g.1 : Nat))], g.2.2.2)) (fun g => l.length - g.1) (0, .slice (some ⟨G1.length, 0, none⟩) 1 1, [r0], G1 ++ [.cells [r0] 47 false]) ⟨Nat.zero_le _, rfl, R0, fun h0 => absurd h0 (by simp), hE0, g50, how0⟩ (by simp (maxSteps := 2000000) only [vup, cond_true, cond_false, Nat.reduceBEq, Int.natCast_zero]) rfl ?_
    rintro ⟨i, q, ws, G⟩ ⟨hi, hwsl, R, hOwn, hEG, g5, how⟩
    simp only at hi hwsl R hOwn hEG g5 how
    refine Zs fun Qb hQb => ?_
    simp only [l60_1]
    have sepq : Yf q ≠ some hp.length ∧ ∀ b, Yf wv = some b → Yf q ≠ some b := by
      obtain ⟨bq, cq, e1, e2, e3⟩ := R.sl.blk R.ne
      refine ⟨fun hc => ?_, fun b hb hc => ?_⟩
      · rw [e1] at hc; cases hc
        rw [g5] at e2; cases e2
      · rw [e1] at hc; cases hc
        obtain ⟨ys, e4⟩ := how.ints hb
        rw [e4] at e2; cases e2
    by_cases hiin : (i : Int) < l.length
    · have hi' : i < l.length := by omega
      obtain ⟨tG, hvG⟩ := tI G hEG
      obtain ⟨⟨x, y⟩, hxy⟩ : ∃ p, l.getD i (0, 0) = p := ⟨_, rfl⟩
      have hb := hok i hi'
      rw [hxy] at hb
      simp only [okB, Bool.and_eq_true, decide_eq_true_eq] at hb
      obtain ⟨e, he⟩ : ∃ e : Nat, x = e := ⟨x.toNat, by omega⟩
      subst he
      have hee : e < 2 ^ n := by
        have := hb.2.1
        exact_mod_cast this
      refine Ze fun N16 hN16 => ?_
      simp (maxSteps := 2000000) only [↓Za, ↓Zb, ↓Zc, vup, cond_true, cond_false, aop, Zg, ev, sput, Zf, Yg, Yl, Nat.reduceBEq, hiin]
      refine hN16 [(1, .pointer (some ⟨h.length, 0, none⟩)), (2, .slice none 0 0), (3, out), (4, Zd (s : Nat)), (5, .pointer (some ⟨hp.length, 0, none⟩)), (7, .func (.func 100) #[] #[.pointer (some ⟨hp.length, 0, none⟩)]), (8, q), (26, .bool false), (48, v), (49, Zd l.length), (50, Zd (i : Nat)), (51, .bool true)] _ _ ?_ (by simp (maxSteps := 2000000) only [vup, cond_true, cond_false, Nat.reduceBEq])
      clear hN16
      try clear N16
      refine Ze fun N17 hN17 => ?_
      simp (maxSteps := 2000000) only [↓Zu, ↓vdn, vup, cond_true, cond_false, Zg, ev, Nat.reduceBEq]
      refine hN17 [(1, .pointer (some ⟨h.length, 0, none⟩)), (2, .slice none 0 0), (3, out), (4, Zd (s : Nat)), (5, .pointer (some ⟨hp.length, 0, none⟩)), (7, .func (.func 100) #[] #[.pointer (some ⟨hp.length, 0, none⟩)]), (8, q), (26, .bool false), (48, v), (49, Zd l.length), (50, Zd (i : Nat))] _ _ ?_ (by simp (maxSteps := 2000000) only [vup, cond_true, cond_false, Nat.reduceBEq])
      clear hN17
      try clear N17
      refine Zm fun B hB => ?_
      refine Zn ?_
      obtain ⟨G2, hG2⟩ : ∃ G2, G2 = G ++ [bB e y] := ⟨_, rfl⟩
      have c10 : G2[G.length]? = some (bB e y) := by rw [hG2]; exact Zy _ _
      have hE2 : Ext (fun _ => False) G G2 := by rw [hG2]; exact Ext.app _ _ _
      have hG2l : G2.length = G.length + 1 := by rw [hG2]; simp
      refine Ze fun N18 hN18 => ?_
      simp (maxSteps := 2000000) only [↓Za, ↓Zb, ↓Zc, vup, cond_true, cond_false, aop, Zg, ev, sput, Zf, Nat.reduceBEq, tyf, hvG.idx el_30 esz_92 hi', hvG.load shp_92 hi', hxy, Xm, Yi, storeBt (Zy G zB) rfl, Wf]
      rw [← hG2]
      refine hN18 [(1, .pointer (some ⟨h.length, 0, none⟩)), (2, .slice none 0 0), (3, out), (4, Zd (s : Nat)), (5, .pointer (some ⟨hp.length, 0, none⟩)), (7, .func (.func 100) #[] #[.pointer (some ⟨hp.length, 0, none⟩)]), (8, q), (10, .pointer (some ⟨G.length, 0, none⟩)), (26, .bool false), (48, v), (49, Zd l.length), (50, Zd (i : Nat))] _ _ ?_ (by simp (maxSteps := 2000000) only [vup, cond_true, cond_false, Nat.reduceBEq])
      clear hN18
      try clear N18
      refine Zk ?_
      simp only [q60_17]
      refine Xv [(6, 1), (7, 4)] (by kernel_rfl) (by kernel_rfl) (by kernel_rfl) (by kernel_rfl) ?_
      simp (maxSteps := 2000000) only [↓Yr, ↓vdn, vup, List.map_cons, List.map_nil, cond_true, cond_false, aop, Zg, Zr, ev, sput, Zf, Zl, Nat.reduceBEq, Nat.reduceAdd, bA0, bA1, loadB0 c10, loadB1 c10, Yv, List.nil_append, List.append_nil, List.cons_append]
      refine ⟨_, _, (show Xi prog 64 [Zd y, Zd 12] G2 (qV (Rat.divInt y 12)) from frac_call (by decide) (by omega) (by decide)), rfl, ?_⟩
      refine (row_call (q := Rat.divInt y 12) ((hE2.2 _ (Yh g5) id).trans g5) (how.ext (S := fun _ => False) hE2 (fun _ _ => id)).int (by omega) (show e < 9223372036854775808 by omega)).mono ?_
      rintro rv G3 ⟨x1, x2, x3⟩
      have x2' : OwnP 26 G3 rv (rowC T W.length ws.length) := by
        rw [hwsl, hT, rowC_bet, hxy]; exact x2
      obtain ⟨bb, yy, hrv, -⟩ := Xy x2' Vm
      have lit0 : ∀ K : Value → Zh → Prop, Yp prog G3 103 1 [(0, rv)] K = K (.slice (some ⟨G3.length, 0, none⟩) 1 1) (G3 ++ [.cells [rv] 47 false]) := fun K => by rw [hrv]; exact litV el_103 zero_47 esz_47
      simp (maxSteps := 2000000) only [lit0]
      have hE34 : Ext (fun _ => False) G (G3 ++ [.cells [rv] 47 false]) := hE2.trans (x1.trans (Ext.app _ _ _))
      refine R.more (by omega) (by have := hEG.1; omega) hE34 (x2'.ext (Ext.app _ _ _)) (fun b hb => by have := x3 b hb; omega) (Zy _ _) fun q' h' ho' R' hEa hEb => ?_
      have keep : ∀ b, b < G.length → Yf q ≠ some b → h'[b]? = G[b]? := fun b hb hne => by
        rw [hEb.2 b (by have := hE34.1; omega) hne]; exact hE34.2 b hb id
      have hEh : Ext (fun _ => False) hp h' := by
        refine ⟨by have := hEG.1; have := hE34.1; have := hEa.1; omega, fun z hz _ => ?_⟩
        rw [hEa.2 z (by have := hEG.1; have := hE34.1; omega) (by omega), hE34.2 z (by have := hEG.1; omega) id]
        exact hEG.2 z hz id
      have g5' : h'[hp.length]? = some (.cells [wv] 38 false) := by rw [keep _ (Yh g5) sepq.1]; exact g5
      have how' : OwnSl 3 h' wv (Wu W) := how.same fun b hb => keep b (how.lt hb) (sepq.2 b hb)
      refine hB [(1, .pointer (some ⟨h.length, 0, none⟩)), (2, .slice none 0 0), (3, out), (4, Zd (s : Nat)), (5, .pointer (some ⟨hp.length, 0, none⟩)), (7, .func (.func 100) #[] #[.pointer (some ⟨hp.length, 0, none⟩)]), (8, q'), (26, .bool false), (48, v), (49, Zd l.length), (50, Zd (i : Nat))] _ _ ?_ (by simp (maxSteps := 2000000) only [vup, cond_true, cond_false, Nat.reduceBEq])
      clear hB
      try clear B
      refine Zk ?_
      simp (maxSteps := 2000000) only [↓Za, ↓Zb, ↓Zc, vup, cond_true, cond_false, aop, ev, sput, Zf, Yg, Yl, Nat.reduceBEq, add1 (show i < 9223372036854775807 by omega)]
      exact hQb _ _ _ ⟨(i + 1, q', ws ++ [rv], h'), ⟨hi', by simp [hwsl], R', fun _ => ho', hEh, g5', how'⟩, by simp only; omega, by simp (maxSteps := 2000000) only [vup, cond_true, cond_false, Nat.reduceBEq], rfl⟩
    have hil := loopEnd hiin hi
    subst hil
    refine Ze fun N19 hN19 => ?_
    simp (maxSteps := 2000000) only [↓Za, ↓Zb, ↓Zc, vup, cond_true, cond_false, aop, Zg, ev, sput, Zf, Yg, Yl, Nat.reduceBEq, hiin]
    refine hN19 [(1, .pointer (some ⟨h.length, 0, none⟩)), (2, .slice none 0 0), (3, out), (4, Zd (s : Nat)), (5, .pointer (some ⟨hp.length, 0, none⟩)), (7, .func (.func 100) #[] #[.pointer (some ⟨hp.length, 0, none⟩)]), (8, q), (26, .bool false), (48, v), (49, Zd l.length), (50, Zd (l.length : Nat)), (51, .bool false)] _ _ ?_ (by simp (maxSteps := 2000000) only [vup, cond_true, cond_false, Nat.reduceBEq])
    clear hN19
    try clear N19
    refine Ze fun N20 hN20 => ?_
    simp (maxSteps := 2000000) only [↓Xa, ↓vdn, vup, cond_true, cond_false, Zg, ev, Nat.reduceBEq]
    refine hQb _ _ _ (hQa _ _ _ ?_)
    simp (maxSteps := 2000000) only [Zg, Zr, if_true]
    refine hX [(1, .pointer (some ⟨h.length, 0, none⟩)), (2, .slice none 0 0), (3, out), (4, Zd (s : Nat)), (5, .pointer (some ⟨hp.length, 0, none⟩)), (7, .func (.func 100) #[] #[.pointer (some ⟨hp.length, 0, none⟩)]), (8, q), (26, .bool false), (51, .bool false)] _ _ ?_ (by simp (maxSteps := 2000000) only [vup, cond_true, cond_false, Nat.reduceBEq])
    clear hX
    try clear X
    have ho := hOwn hl1
    obtain ⟨B, C, hqe, hBC, hBp, M, hbkp⟩ := R.mat ho
    rw [hwsl] at hqe hBC M hbkp
    -- it is solved
    have hli : (Wu W).length = W.length := castI_len W
    have hsolve := solve_call M hBC (by omega) (by omega) hW1 (by omega) htm
    refine Ze fun N21 hN21 => ?_
    simp (maxSteps := 2000000) only [↓Za, ↓Zb, ↓Zc, vup, List.map_cons, List.map_nil, cond_true, cond_false, aop, Zg, ev, sput, Zf, Zl, Nat.reduceBEq, tyf, Vd g5 Vb, how.int.len, hli, hqe, Yv, List.nil_append, List.append_nil]
    refine hsolve.mono ?_
    rintro r G' ⟨hEs, x, ok, rfl, hres⟩
    simp (maxSteps := 2000000) only [extr_20, extr_21]
    refine hN21 [(1, .pointer (some ⟨h.length, 0, none⟩)), (2, .slice none 0 0), (3, out), (4, Zd (s : Nat)), (5, .pointer (some ⟨hp.length, 0, none⟩)), (7, .func (.func 100) #[] #[.pointer (some ⟨hp.length, 0, none⟩)]), (11, x), (12, .bool ok), (26, .bool false), (51, .bool false)] _ _ ?_ (by simp (maxSteps := 2000000) only [vup, cond_true, cond_false, Nat.reduceBEq])
    clear hN21
    try clear N21
    have hBk : ∀ b, Tch B (l.length + 1) (fun i => bkOf (ws.getD i undef)) b → hp.length ≤ b ∧ b ≠ hp.length ∧ ∀ b', Yf wv = some b' → b ≠ b' := fun b hb => by
      rcases hb with rfl | ⟨j, hj, rfl⟩
      · obtain ⟨us, e2⟩ := M.outer
        refine ⟨hBp, fun hc => ?_, fun b' hb' hc => ?_⟩
        · rw [← hc, e2] at g5
          exact absurd (Blk.cells.inj (Option.some.inj g5)).2.1 (by decide)
        · obtain ⟨ys, e4⟩ := how.ints hb'
          rw [← hc, e2] at e4; cases e4
      · obtain ⟨cc, xs, e1, e3, e2⟩ := M.row j hj
        refine ⟨hbkp j hj, fun hc => ?_, fun b' hb' hc => ?_⟩
        · have e2' : G[bkOf (ws.getD j undef)]? = _ := e2
          have hc' : bkOf (ws.getD j undef) = hp.length := hc
          rw [hc', g5] at e2'; cases e2'
        · obtain ⟨ys, e4⟩ := how.ints hb'
          have e2' : G[bkOf (ws.getD j undef)]? = _ := e2
          have hc' : bkOf (ws.getD j undef) = b' := hc
          rw [hc', e4] at e2'; cases e2'
    have hEG' : Ext (fun _ => False) hp G' := by
      refine ⟨by have := hEG.1; have := hEs.1; omega, fun z hz _ => ?_⟩
      rw [hEs.2 z (by have := hEG.1; omega) (fun hc => by have := (hBk z hc).1; omega)]
      exact hEG.2 z hz id
    have g5' : G'[hp.length]? = some (.cells [wv] 38 false) := by
      rw [hEs.2 _ (Yh g5) (fun hc => (hBk _ hc).2.1 rfl)]; exact g5
    have how' : OwnSl 3 G' wv (Wu W) := how.same fun b hb => hEs.2 b (how.lt hb) (fun hc => (hBk _ hc).2.2 b hb rfl)
    have hlen' : G.length ≤ G'.length := hEs.1
    clear hQa hQb M R hOwn sepq ho hsolve hBk hEs hqe g50 how0 hE0 R0 hlen'
    -- the next set
    have goOn : ∀ e out' G2, CornSl G2 out' (Wm n l s) → Ext (fun _ => False) H G2 → (∀ b, Yf out' = some b → H.length ≤ b) → ELe e [(1, .pointer (some ⟨h.length, 0, none⟩)), (2, .slice none 0 0), (3, out'), (4, Zd (s : Nat)), (26, .bool false), (51, .bool false)] → Y e G2 := by
      intro e out' G2 c1 c2 c3 he
      refine hY _ _ _ ?_ he
      refine Zk ?_
      have ea : addV .i64 (s : Int) 1 = ((s + 1 : Nat) : Int) := add1 (by omega)
      simp (maxSteps := 2000000) only [↓Za, ↓Zb, ↓Zc, vup, cond_true, cond_false, aop, ev, sput, Zf, Yg, Yl, Nat.reduceBEq, ea]
      exact hQ2 _ _ _ ⟨(s + 1, out', G2), ⟨by simp only; omega, by simp only; omega, by simpa using c1, c2, c3⟩, by simp only; omega, by simp (maxSteps := 2000000) only [vup, cond_true, cond_false, Nat.reduceBEq], rfl⟩
    have hcsucc : Wm n l s = Wm n l (s - 1) ++ (Vj n l s).toList := by
      obtain ⟨s', rfl⟩ : ∃ s', s = s' + 1 := ⟨s - 1, by omega⟩
      rw [Wm]; simp
    have skip : Vj n l s = none → ∀ e, ELe e [(1, .pointer (some ⟨h.length, 0, none⟩)), (2, .slice none 0 0), (3, out), (4, Zd (s : Nat)), (26, .bool false), (51, .bool false)] → Y e G' := fun h0 e he => goOn e out G' (by rw [hcsucc, h0]; simpa using hcs.ext hEG') (hEp.trans hEG') hbo he
    cases hsol : Wc (l.length + 1) W.length T with
    | none =>
      rw [hsol] at hres hcorner
      simp only at hres
      obtain ⟨rfl, rfl⟩ := hres
      refine Zk ?_
      simp (maxSteps := 2000000) only [↓Za, ↓Zw, ↓Xa, ↓Zb, ↓Zc, ↓vdn, vup, cond_true, cond_false, aop, Zg, Zr, ev, sput, Zf, unK, Nat.reduceBEq]
      exact skip hcorner _ (by simp (maxSteps := 2000000) only [vup, cond_true, cond_false, Nat.reduceBEq])
    | some xs =>
      rw [hsol, Option.bind_some] at hcorner
      rw [hsol] at hres
      simp only at hres
      obtain ⟨rfl, hox, hbx⟩ := hres
      have hxl : xs.length = W.length := solveT_len hsol
      have hany : ((xs.map ofQ).any fun p => decide (p.1 < 0)) = xs.any fun q => decide (q < 0) := by
        rw [List.any_map]
        congr 1
        funext q
        refine decide_eq_decide.2 ?_
        show q.num < 0 ↔ q < 0
        rw [← Rat.not_le, ← Rat.num_nonneg]; omega
      have hneg := hasF_call (g := 102) (cap := #[]) (f := fun p => decide (p.1 < 0)) hox.pair (by simp; omega) (fun h' hx p hp => neg_call)
      rw [hany] at hneg
      refine Zm fun X hX => ?_
      refine Ze fun N22 hN22 => ?_
      simp (maxSteps := 2000000) only [↓Za, ↓Zb, ↓Zc, ↓vdn, vup, List.map_cons, List.map_nil, cond_true, cond_false, aop, Zg, ev, sput, Zf, unK, Nat.reduceBEq, Yv, List.nil_append, List.append_nil]
      refine hneg.mono ?_
      rintro _ G' ⟨rfl, rfl⟩
      refine hN22 [(1, .pointer (some ⟨h.length, 0, none⟩)), (2, .slice none 0 0), (3, out), (4, Zd (s : Nat)), (5, .pointer (some ⟨hp.length, 0, none⟩)), (7, .func (.func 100) #[] #[.pointer (some ⟨hp.length, 0, none⟩)]), (11, x), (12, .bool true), (26, .bool false), (51, .bool false), (77, .bool (xs.any fun q => decide (q < 0)))] _ _ ?_ (by simp (maxSteps := 2000000) only [vup, cond_true, cond_false, Nat.reduceBEq])
      clear hN22
      try clear N22
      cases hn : xs.any fun q => decide (q < 0) with
      | true =>
        rw [hn, if_pos rfl] at hcorner
        refine Xl rfl ?_
        refine Zk ?_
        simp (maxSteps := 2000000) only [↓Xa, Zg, Zr]
        exact skip hcorner _ (by simp (maxSteps := 2000000) only [vup, cond_true, cond_false, Nat.reduceBEq])
      | false =>
        rw [hn, if_neg (by decide)] at hcorner
        refine Xb rfl ?_
        refine Zk ?_
        simp (maxSteps := 2000000) only [↓Zu, Zg]
        refine hX [(1, .pointer (some ⟨h.length, 0, none⟩)), (2, .slice none 0 0), (3, out), (4, Zd (s : Nat)), (5, .pointer (some ⟨hp.length, 0, none⟩)), (7, .func (.func 100) #[] #[.pointer (some ⟨hp.length, 0, none⟩)]), (11, x), (26, .bool false), (51, .bool false)] _ _ ?_ (by simp (maxSteps := 2000000) only [vup, cond_true, cond_false, Nat.reduceBEq])
        clear hX
        try clear X
        obtain ⟨tG, -⟩ := tI G' hEG'
        -- the belief
        obtain ⟨F, hF⟩ : ∃ F : Nat → Zh, F = fun k => G' ++ [.ints [0, 1] 26 false] ++ [.cells ((Yc ((Wb n W xs k).map ofQ)).map Zd) 26 false] := ⟨_, rfl⟩
        have hF0 : ∀ k, (F k)[G'.length + 1]? = some (.cells ((Yc ((Wb n W xs k).map ofQ)).map Zd) 26 false) := fun k => by rw [hF]; exact b2_1 ..
        have hFE : ∀ k, Ext (fun _ => False) G' (F k) := fun k => by rw [hF]; exact e2 ..
        have hFs : ∀ k, (F k).set (G'.length + 1) (.cells ((Yc ((Wb n W xs (k + 1)).map ofQ)).map Zd) 26 false) = F (k + 1) := fun k => by
          simp only [hF]
          rw [show G'.length + 1 = (G' ++ [Blk.ints [0, 1] 26 false]).length by simp, Wf]
        have hFl : ∀ k, (F k).length = G'.length + 2 := fun k => by rw [hF]; simp
        have hF1 : G' ++ [.ints [0, 1] 26 false] ++ [.cells ((Yc (List.replicate n ((0 : Int), (1 : Int)))).map Zd) 26 false] = F 0 := by
          rw [hF]; simp only [Wb, List.map_replicate]; rfl
        have rep := repeat_call (h := G' ++ [.ints [0, 1] 26 false]) (b0 := G'.length) (x := 0) (y := 1) (Zy _ _) (show 1 ≤ n by omega) (show n < 6 by omega)
        rw [hF1, List.length_append, List.length_singleton] at rep
        have q0 : qV ((0 : Int) : Rat) = .agg #[Zd 0, Zd 1] := rfl
        refine Ze fun N23 hN23 => ?_
        simp only [q60_21]
        refine aw_drawR (fun z => z[h.length]? = some (Blk.cells [Zd (n : Nat), v] 86 false)) [(0, 1), (3, 5)] (by kernel_rfl) (by kernel_rfl) (by kernel_rfl) (by kernel_rfl) tG ?_
        simp (maxSteps := 2000000) only [↓dopsR_nil, ↓vdn, vup, List.map_cons, List.map_nil, cond_true, cond_false, aop, Zg, ev, sput, Zf, Nat.reduceBEq, Nat.reduceAdd, Yv, List.nil_append, List.append_nil]
        refine ⟨_, _, (show Xi prog 70 [Zd 0] G' (qV ((0 : Int) : Rat)) from Vp), rfl, ?_⟩
        simp (maxSteps := 2000000) only [q0, litF, tA0]
        refine ⟨Xu tG _, Zd (n : Nat), fun z hz => by simp only [Vz hz], _, _, rep, (hFE 0).2 _ (Yh tG) id |>.trans tG, ?_⟩
        refine hN23 [(1, .pointer (some ⟨h.length, 0, none⟩)), (2, .slice none 0 0), (3, out), (4, Zd (s : Nat)), (5, .pointer (some ⟨hp.length, 0, none⟩)), (7, .func (.func 100) #[] #[.pointer (some ⟨hp.length, 0, none⟩)]), (11, x), (13, .slice (some ⟨G'.length + 1, 0, none⟩) n n), (26, .bool false), (51, .bool false)] _ _ ?_ (by simp (maxSteps := 2000000) only [vup, cond_true, cond_false, Nat.reduceBEq])
        clear hN23
        try clear N23
        have g5F : ∀ k, (F k)[hp.length]? = some (.cells [wv] 38 false) := fun k => ((hFE k).2 _ (Yh g5') id).trans g5'
        have howF : ∀ k, OwnSl 3 (F k) wv (Wu W) := fun k => how'.ext (S := fun _ => False) (hFE k) (fun _ _ => id)
        refine Zm fun U hU => ?_
        refine Ze fun N24 hN24 => ?_
        simp (maxSteps := 2000000) only [↓Za, ↓Zb, ↓Zc, vup, List.map_cons, List.map_nil, cond_true, cond_false, aop, Zg, ev, sput, Zf, Zl, Nat.reduceBEq, tyf, Vd (g5F 0) Vb, (howF 0).int.len, hli]
        refine hN24 [(1, .pointer (some ⟨h.length, 0, none⟩)), (2, .slice none 0 0), (3, out), (4, Zd (s : Nat)), (5, .pointer (some ⟨hp.length, 0, none⟩)), (7, .func (.func 100) #[] #[.pointer (some ⟨hp.length, 0, none⟩)]), (11, x), (13, .slice (some ⟨G'.length + 1, 0, none⟩) n n), (26, .bool false), (51, .bool false), (83, wv), (84, Zd (W.length : Nat)), (85, .int .i64 0)] _ _ ?_ (by simp (maxSteps := 2000000) only [vup, cond_true, cond_false, Nat.reduceBEq])
        clear hN24
        try clear N24
        refine Zn ?_
        refine Zs fun Qa hQa => ?_
        refine Yu (γ := Nat) (fun k => k ≤ W.length) (fun k => ([(1, .pointer (some ⟨h.length, 0, none⟩)), (2, .slice none 0 0), (3, out), (4, Zd (s : Nat)), (5, .pointer (some ⟨hp.length, 0, none⟩)), (7, .func (.func 100) #[] #[.pointer (some ⟨hp.length, 0, none⟩)]), (11, x), (13, .slice (some ⟨G'.length + 1, 0, none⟩) n n), (26, .bool false), (51, .bool false), (83, wv), (84, Zd (W.length : Nat)), (85, Zd (k : Nat))], F k)) (fun k => W.length - k) 0 (Nat.zero_le _) (by simp (maxSteps := 2000000) only [vup, cond_true, cond_false, Nat.reduceBEq, Int.natCast_zero]) rfl ?_
        rintro k hk
        refine Zs fun Qb hQb => ?_
        simp only [l60_2]
        by_cases hkin : (k : Int) < W.length
        · have hk' : k < W.length := by omega
          have hkc : k < (Wu W).length := by omega
          have hw : W.getD k 0 < n := hWlt _ (by rw [List.getD, List.getElem?_eq_getElem hk']; exact List.getElem_mem hk')
          have hxF := (hox.ext (hFE k)).pair
          have hkx : k < (xs.map ofQ).length := by rw [List.length_map]; omega
          have hgx : (xs.map ofQ).getD k (0, 0) = ofQ (xs.getD k 0) := by
            rw [List.getD, List.getElem?_map, List.getElem?_eq_getElem (show k < xs.length by omega), List.getD, List.getElem?_eq_getElem (show k < xs.length by omega)]; rfl
          have hslen : ((Wb n W xs k).map ofQ).length = n := by rw [List.length_map, Vv]
          have pF := pairSl_cells (hF0 k)
          rw [hslen] at pF
          have hidx : ∀ K : Value → Prop, Xf prog 90 (.slice (some ⟨G'.length + 1, 0, none⟩) n n) (Zd (W.getD k 0 : Nat)) K = K (.pointer (some ⟨G'.length + 1, W.getD k 0 * 2, none⟩)) := fun K => by
            rw [pF.idx el_90 Vk (by rw [hslen]; exact hw), elemP_pair]
          have hst : ∀ K : Zh → Prop, Xs prog (F k) 26 (.pointer (some ⟨G'.length + 1, W.getD k 0 * 2, none⟩)) (.agg #[Zd (xs.getD k 0).num, Zd ((xs.getD k 0).den : Int)]) K = K (F (k + 1)) := fun K => by
            rw [storePC (hF0 k) shp_26 (by rw [hslen]; exact hw), ← hFs k, Wb, List.map_set]; rfl
          refine Ze fun N25 hN25 => ?_
          simp (maxSteps := 2000000) only [↓Za, ↓Zb, ↓Zc, vup, cond_true, cond_false, aop, Zg, ev, sput, Zf, Yg, Yl, Nat.reduceBEq, hkin]
          refine hN25 [(1, .pointer (some ⟨h.length, 0, none⟩)), (2, .slice none 0 0), (3, out), (4, Zd (s : Nat)), (5, .pointer (some ⟨hp.length, 0, none⟩)), (7, .func (.func 100) #[] #[.pointer (some ⟨hp.length, 0, none⟩)]), (11, x), (13, .slice (some ⟨G'.length + 1, 0, none⟩) n n), (26, .bool false), (51, .bool false), (83, wv), (84, Zd (W.length : Nat)), (85, Zd (k : Nat)), (86, .bool true)] _ _ ?_ (by simp (maxSteps := 2000000) only [vup, cond_true, cond_false, Nat.reduceBEq])
          clear hN25
          try clear N25
          refine Ze fun N26 hN26 => ?_
          simp (maxSteps := 2000000) only [↓Zu, ↓vdn, vup, cond_true, cond_false, Zg, ev, Nat.reduceBEq]
          refine hN26 [(1, .pointer (some ⟨h.length, 0, none⟩)), (2, .slice none 0 0), (3, out), (4, Zd (s : Nat)), (5, .pointer (some ⟨hp.length, 0, none⟩)), (7, .func (.func 100) #[] #[.pointer (some ⟨hp.length, 0, none⟩)]), (11, x), (13, .slice (some ⟨G'.length + 1, 0, none⟩) n n), (26, .bool false), (51, .bool false), (83, wv), (84, Zd (W.length : Nat)), (85, Zd (k : Nat))] _ _ ?_ (by simp (maxSteps := 2000000) only [vup, cond_true, cond_false, Nat.reduceBEq])
          clear hN26
          try clear N26
          refine Zm fun B hB => ?_
          refine Zn ?_
          refine Ze fun N27 hN27 => ?_
          simp (maxSteps := 2000000) only [↓Za, ↓Zb, ↓Zc, vup, cond_true, cond_false, aop, Zg, ev, sput, Zf, Nat.reduceBEq, (howF k).int.idx el_38 esz_3 hkc, (howF k).int.load Wy hkc, castI_getD]
          refine hN27 [(1, .pointer (some ⟨h.length, 0, none⟩)), (2, .slice none 0 0), (3, out), (4, Zd (s : Nat)), (5, .pointer (some ⟨hp.length, 0, none⟩)), (7, .func (.func 100) #[] #[.pointer (some ⟨hp.length, 0, none⟩)]), (11, x), (13, .slice (some ⟨G'.length + 1, 0, none⟩) n n), (14, Zd (k : Nat)), (15, Zd (W.getD k 0 : Nat)), (26, .bool false), (51, .bool false), (83, wv), (84, Zd (W.length : Nat)), (85, Zd (k : Nat))] _ _ ?_ (by simp (maxSteps := 2000000) only [vup, cond_true, cond_false, Nat.reduceBEq])
          clear hN27
          try clear N27
          refine Zk ?_
          simp (maxSteps := 2000000) only [↓Za, ↓Zb, ↓Zc, vup, cond_true, cond_false, aop, Zg, Zr, ev, sput, Zf, Nat.reduceBEq, hxF.idx el_47 Vk hkx, hxF.load shp_26 hkx, hgx, hidx, ofQ, hst]
          refine hB [(1, .pointer (some ⟨h.length, 0, none⟩)), (2, .slice none 0 0), (3, out), (4, Zd (s : Nat)), (5, .pointer (some ⟨hp.length, 0, none⟩)), (7, .func (.func 100) #[] #[.pointer (some ⟨hp.length, 0, none⟩)]), (11, x), (13, .slice (some ⟨G'.length + 1, 0, none⟩) n n), (26, .bool false), (51, .bool false), (83, wv), (84, Zd (W.length : Nat)), (85, Zd (k : Nat))] _ _ ?_ (by simp (maxSteps := 2000000) only [vup, cond_true, cond_false, Nat.reduceBEq])
          clear hB
          try clear B
          refine Zk ?_
          simp (maxSteps := 2000000) only [↓Za, ↓Zb, ↓Zc, vup, cond_true, cond_false, aop, ev, sput, Zf, Yg, Yl, Nat.reduceBEq, add1 (show k < 9223372036854775807 by omega)]
          exact hQb _ _ _ ⟨k + 1, hk', by omega, by simp (maxSteps := 2000000) only [vup, cond_true, cond_false, Nat.reduceBEq], rfl⟩
        have hkk := loopEnd hkin hk
        subst hkk
        refine Ze fun N28 hN28 => ?_
        simp (maxSteps := 2000000) only [↓Za, ↓Zb, ↓Zc, vup, cond_true, cond_false, aop, Zg, ev, sput, Zf, Yg, Yl, Nat.reduceBEq, hkin]
        refine hN28 [(1, .pointer (some ⟨h.length, 0, none⟩)), (2, .slice none 0 0), (3, out), (4, Zd (s : Nat)), (5, .pointer (some ⟨hp.length, 0, none⟩)), (7, .func (.func 100) #[] #[.pointer (some ⟨hp.length, 0, none⟩)]), (11, x), (13, .slice (some ⟨G'.length + 1, 0, none⟩) n n), (26, .bool false), (51, .bool false), (83, wv), (84, Zd (W.length : Nat)), (85, Zd (W.length : Nat)), (86, .bool false)] _ _ ?_ (by simp (maxSteps := 2000000) only [vup, cond_true, cond_false, Nat.reduceBEq])
        clear hN28
        try clear N28
        refine Ze fun N29 hN29 => ?_
        simp (maxSteps := 2000000) only [↓Xa, ↓vdn, vup, cond_true, cond_false, Zg, ev, Nat.reduceBEq]
        refine hQb _ _ _ (hQa _ _ _ ?_)
        simp (maxSteps := 2000000) only [Zg, Zr, if_true]
        refine hU [(1, .pointer (some ⟨h.length, 0, none⟩)), (2, .slice none 0 0), (3, out), (4, Zd (s : Nat)), (5, .pointer (some ⟨hp.length, 0, none⟩)), (7, .func (.func 100) #[] #[.pointer (some ⟨hp.length, 0, none⟩)]), (11, x), (13, .slice (some ⟨G'.length + 1, 0, none⟩) n n), (26, .bool false), (51, .bool false), (86, .bool false)] _ _ ?_ (by simp (maxSteps := 2000000) only [vup, cond_true, cond_false, Nat.reduceBEq])
        clear hU
        try clear U
        -- it is noted
        have hcF := (hcs.ext (hEG'.trans (hFE W.length)))
        obtain ⟨us, hou, heach⟩ := hcF
        have hlen3 := heach.len
        have hcl := cornersTo_len n l (s - 1)
        refine Zk ?_
        simp (maxSteps := 2000000) only [↓Za, ↓Zb, ↓Zc, vup, List.map_cons, List.map_nil, cond_true, cond_false, aop, Zg, Zr, ev, sput, Zf, Zl, Nat.reduceBEq, litV el_88 zero_90 esz_90]
        refine OwnV.app (us := [.slice (some ⟨G'.length + 1, 0, none⟩) n n]) (hou.ext (Ext.app _ _ _)) app_88_88 (.inr ⟨(F W.length).length, 0, none, 1, [.slice (some ⟨G'.length + 1, 0, none⟩) n n], 90, false, rfl, Nat.le_refl _, by simp [view, Blk.view], rfl⟩) (fun w hw => ?_) (by simp; omega) ?_
        · rcases List.mem_append.1 hw with h1 | h1
          · obtain ⟨b, bl, rfl, _⟩ := heach.mem w h1
            exact ⟨rfl, rfl⟩
          · rw [List.mem_singleton.1 h1]; exact ⟨rfl, rfl⟩
        · intro out' G3 ho3 hE3 hb3
          have hol : ∀ b, Yf out = some b → b < (F W.length).length := fun b hb => hou.lt hb
          have hHF := hEp.trans (hEG'.trans (hFE W.length))
          have hFk : Ext (fun _ => False) H G3 := ext_app hHF (H' := F W.length ++ [Blk.cells [.slice (some ⟨G'.length + 1, 0, none⟩) n n] 90 false]) (by simp) (fun z hz => List.getElem?_append_left (by have := hHF.1; omega)) hbo hE3
          have keep : ∀ bl c, (F W.length)[bl]? = some (Blk.cells c 26 false) → G3[bl]? = some (Blk.cells c 26 false) := fun bl c hbl => by
            have hlt := Yh hbl
            rw [hE3.2 bl (by rw [List.length_append]; omega) (fun hc => ?_), List.getElem?_append_left hlt, hbl]
            obtain ⟨c', hc'⟩ := hou.blk hc
            rw [hbl] at hc'
            exact absurd (Blk.cells.inj (Option.some.inj hc')).2.1 (by decide)
          refine goOn _ out' G3 ⟨us ++ [.slice (some ⟨G'.length + 1, 0, none⟩) n n], ho3, ?_⟩ hFk (fun b hb => ?_) (by simp (maxSteps := 2000000) only [vup, cond_true, cond_false, Nat.reduceBEq])
          · rw [hcsucc, hcorner]
            refine Each.app (heach.imp fun w b ⟨bl, q1, q2⟩ => ⟨bl, q1, keep bl _ q2⟩) ⟨⟨G'.length + 1, by rw [Vv], keep _ _ (hF0 _)⟩, trivial⟩
          · rcases hb3 with h1 | ⟨b', h1, h2⟩
            · exact hbo b (h1 ▸ hb)
            · rw [h1] at hb; cases hb
              rw [List.length_append] at h2
              have := hHF.1; omega
  · have hss := loopEnd hin hs
    subst hss
    refine Ze fun N30 hN30 => ?_
    simp (maxSteps := 2000000) only [↓Za, ↓Zw, ↓Xa, ↓Zb, ↓Zc, ↓vdn, vup, cond_true, cond_false, aop, Zg, ev, sput, Zf, Yg, Yl, Nat.reduceBEq, tyf, tA0, Vz t1p, Int.natCast_nonneg, hsh, hin]
    refine hQ2 _ _ _ (hQ _ _ _ ?_)
    simp (maxSteps := 2000000) only [Zg, Zr, Zv, if_true]
    refine hZ [(1, .pointer (some ⟨h.length, 0, none⟩)), (2, .slice none 0 0), (3, out), (4, Zd (2 ^ n : Nat))] _ _ ?_ (by simp (maxSteps := 2000000) only [vup, cond_true, cond_false, Nat.reduceBEq])
    clear hZ
    try clear Z
    refine Zk ?_
    simp (maxSteps := 2000000) only [↓Za, ↓Zw, ↓Zz, ↓Zb, ↓Zc, vup, cond_true, cond_false, aop, Zg, ev, sput, Zf, Nat.reduceBEq, Zv, Xw, tup]
    exact ⟨hE.trans hEp, hcs, fun b hb => by have := hbo b hb; omega⟩
end Go.Proofs.Try.Am

namespace Go.Proofs.Try.Am
open Go.Am
set_option maxRecDepth 100000
/-! 90: slices.Min[[]int,int] -/
@[reducible] def q90_0 : SCode := .region [⟨some 2, .assign (.const (.int .i64 0)), none⟩]
@[reducible] def q90_1 : SCode := .region [⟨some 5, .move (.tmp 0), none⟩,
    ⟨some 6, .call { callee := .builtin .len, args := #[.tmp 5], argTypes := #[38] }, none⟩,
    ⟨some 7, .binOp .lss 3 (.tmp 6) (.const (.int .i64 1)) 3, none⟩]
@[reducible] def q90_2 : SCode := .region [⟨some 8, .makeInterface 9 (.const (.string { data := #[115, 108, 105, 99, 101, 115, 46, 77, 105, 110, 58, 32, 101, 109, 112, 116, 121, 32, 108, 105, 115, 116] })), none⟩,
    ⟨none, .panic (.tmp 8), none⟩]
@[reducible] def q90_3 : SCode := .region [⟨some 9, .move (.tmp 0), none⟩,
    ⟨some 10, .indexAddr 38 (.tmp 9) (.const (.int .i64 0)), none⟩,
    ⟨some 11, .load 3 (.tmp 10), none⟩,
    ⟨some 3, .assign (.tmp 11), none⟩]
@[reducible] def q90_4 : SCode := .region [⟨some 4, .assign (.const (.int .i64 1)), none⟩]
@[reducible] def q90_5 : SCode := .region [⟨some 12, .move (.tmp 4), none⟩,
    ⟨some 13, .move (.tmp 0), none⟩,
    ⟨some 14, .call { callee := .builtin .len, args := #[.tmp 13], argTypes := #[38] }, none⟩,
    ⟨some 15, .binOp .lss 3 (.tmp 12) (.tmp 14) 3, none⟩]
@[reducible] def q90_7 : SCode := .region [⟨some 18, .move (.tmp 3), none⟩,
    ⟨some 19, .move (.tmp 0), none⟩,
    ⟨some 20, .move (.tmp 4), none⟩,
    ⟨some 21, .indexAddr 38 (.tmp 19) (.tmp 20), none⟩,
    ⟨some 22, .load 3 (.tmp 21), none⟩,
    ⟨some 23, .call { callee := .builtin .min, args := #[.tmp 18, .tmp 22], argTypes := #[3, 3] }, none⟩,
    ⟨some 3, .assign (.tmp 23), none⟩]
@[reducible] def q90_6 : SCode := .region [⟨some 16, .move (.tmp 4), none⟩,
    ⟨some 17, .binOp .add 3 (.tmp 16) (.const (.int .i64 1)) 3, none⟩,
    ⟨some 4, .assign (.tmp 17), none⟩]
def l90_0 : SCode := (.seq (.seq q90_5 (.cond (.tmp 15) .skip (.exit 0))) (.seq (.block 1 q90_7) q90_6))
@[reducible] def q90_8 : SCode := .region [⟨some 24, .move (.tmp 3), none⟩,
    ⟨some 2, .assign (.tmp 24), none⟩]
def s90 : SCode := (.seq q90_0 (.seq (.seq q90_1 (.cond (.tmp 7) q90_2 .skip)) (.seq q90_3 (.seq (.seq q90_4 (.block 0 (.loop l90_0))) (.seq q90_8 .ret)))))
theorem s90_strip : Yb (Zx Try.f90) = s90 := by kernel_rfl
theorem s90_ok : Ym 25 (Zx Try.f90) = true := by kernel_rfl
/-! 91: slices.Max[[]int,int] -/
@[reducible] def q91_0 : SCode := .region [⟨some 2, .assign (.const (.int .i64 0)), none⟩]
@[reducible] def q91_1 : SCode := .region [⟨some 5, .move (.tmp 0), none⟩,
    ⟨some 6, .call { callee := .builtin .len, args := #[.tmp 5], argTypes := #[38] }, none⟩,
    ⟨some 7, .binOp .lss 3 (.tmp 6) (.const (.int .i64 1)) 3, none⟩]
@[reducible] def q91_2 : SCode := .region [⟨some 8, .makeInterface 9 (.const (.string { data := #[115, 108, 105, 99, 101, 115, 46, 77, 97, 120, 58, 32, 101, 109, 112, 116, 121, 32, 108, 105, 115, 116] })), none⟩,
    ⟨none, .panic (.tmp 8), none⟩]
@[reducible] def q91_3 : SCode := .region [⟨some 9, .move (.tmp 0), none⟩,
    ⟨some 10, .indexAddr 38 (.tmp 9) (.const (.int .i64 0)), none⟩,
    ⟨some 11, .load 3 (.tmp 10), none⟩,
    ⟨some 3, .assign (.tmp 11), none⟩]
@[reducible] def q91_4 : SCode := .region [⟨some 4, .assign (.const (.int .i64 1)), none⟩]
@[reducible] def q91_5 : SCode := .region [⟨some 12, .move (.tmp 4), none⟩,
    ⟨some 13, .move (.tmp 0), none⟩,
    ⟨some 14, .call { callee := .builtin .len, args := #[.tmp 13], argTypes := #[38] }, none⟩,
    ⟨some 15, .binOp .lss 3 (.tmp 12) (.tmp 14) 3, none⟩]
@[reducible] def q91_7 : SCode := .region [⟨some 18, .move (.tmp 3), none⟩,
    ⟨some 19, .move (.tmp 0), none⟩,
    ⟨some 20, .move (.tmp 4), none⟩,
    ⟨some 21, .indexAddr 38 (.tmp 19) (.tmp 20), none⟩,
    ⟨some 22, .load 3 (.tmp 21), none⟩,
    ⟨some 23, .call { callee := .builtin .max, args := #[.tmp 18, .tmp 22], argTypes := #[3, 3] }, none⟩,
    ⟨some 3, .assign (.tmp 23), none⟩]
@[reducible] def q91_6 : SCode := .region [⟨some 16, .move (.tmp 4), none⟩,
    ⟨some 17, .binOp .add 3 (.tmp 16) (.const (.int .i64 1)) 3, none⟩,
    ⟨some 4, .assign (.tmp 17), none⟩]
def l91_0 : SCode := (.seq (.seq q91_5 (.cond (.tmp 15) .skip (.exit 0))) (.seq (.block 1 q91_7) q91_6))
@[reducible] def q91_8 : SCode := .region [⟨some 24, .move (.tmp 3), none⟩,
    ⟨some 2, .assign (.tmp 24), none⟩]
def s91 : SCode := (.seq q91_0 (.seq (.seq q91_1 (.cond (.tmp 7) q91_2 .skip)) (.seq q91_3 (.seq (.seq q91_4 (.block 0 (.loop l91_0))) (.seq q91_8 .ret)))))
theorem s91_strip : Yb (Zx Try.f91) = s91 := by kernel_rfl
theorem s91_ok : Ym 25 (Zx Try.f91) = true := by kernel_rfl
end Go.Proofs.Try.Am

namespace Go.Proofs.Try.Am
open Go.Am
set_option maxRecDepth 100000
end Go.Proofs.Try.Am

namespace Go.Proofs.Try.Am
open Go.Am
set_option maxRecDepth 100000
set_option maxHeartbeats 1000000

theorem pairs_eq {xs ys : List (Int × Int)} (hl : xs.length = ys.length) (k : Nat) (hk : k ≤ xs.length) (h : ∀ i, i < k → xs.getD i (0, 0) = ys.getD i (0, 0)) (hk2 : k = xs.length) : xs = ys := by
  subst hk2
  apply List.ext_getElem hl
  intro i h1 h2
  have := h i h1
  rwa [List.getD, List.getD, List.getElem?_eq_getElem h1, List.getElem?_eq_getElem h2] at this

theorem s35_callW [Tabs Try.prog] {args : List Value} {h : Zh} {Q : Value → Zh → Prop} (hsz : args.length ≤ 26) (hk : AWS Try.prog 26 s35 (Zv Try.prog [.tmp 4] Q) (Zt 0 args) h) : ACall Try.prog 35 args h Q :=
  Yn Try.func35 rfl (enters_of Try.func35 (by kernel_rfl) rfl) rfl rfl (by decide) s35_strip s35_ok hsz hk
theorem equalF_call [Tabs prog] {h : Zh} {u v : Value} {xs ys : List (Int × Int)} (hu : PairSl h u xs) (hv : PairSl h v ys) (hl : xs.length < 9223372036854775808) : Xi prog 35 [u, v] h (.bool (decide (xs = ys))) := by
  refine s35_callW (by simp) ?_
  simp only [s35]
  refine Ze fun N1 hN1 => ?_
  simp (maxSteps := 2000000) only [↓Za, ↓Zb, ↓Zc, vup, cond_false, aop, Zg, Zt, ev, sput, Zf, Nat.reduceBEq, Nat.reduceAdd]
  refine hN1 [(0, u), (1, v), (4, .bool false)] _ _ ?_ (by simp (maxSteps := 2000000) only [vup, cond_true, cond_false, Nat.reduceBEq])
  clear hN1
  try clear N1
  by_cases hn : xs.length = ys.length
  · have hne : (((xs.length : Nat) : Int) != ((ys.length : Nat) : Int)) = false := by simp [hn]
    refine Ze fun N2 hN2 => ?_
    simp (maxSteps := 2000000) only [↓Za, ↓Zu, ↓Zw, ↓Zz, ↓Zb, ↓Zc, ↓vdn, vup, List.map_cons, List.map_nil, cond_true, cond_false, aop, Zg, ev, sput, Zf, Yg, Yl, Zl, Nat.reduceBEq, Zv, Xw, tup, tyf, hu.len, hv.len, hne]
    refine hN2 [(0, u), (1, v), (4, .bool false)] _ _ ?_ (by simp (maxSteps := 2000000) only [vup, cond_true, cond_false, Nat.reduceBEq])
    clear hN2
    try clear N2
    refine Zm fun Z hZ => ?_
    refine Ze fun N3 hN3 => ?_
    simp (maxSteps := 2000000) only [↓Za, ↓Zb, ↓Zc, vup, List.map_cons, List.map_nil, cond_true, cond_false, aop, Zg, ev, sput, Zf, Zl, Nat.reduceBEq, tyf, hu.len]
    refine hN3 [(0, u), (1, v), (4, .bool false), (11, u), (12, Zd xs.length), (13, .int .i64 0)] _ _ ?_ (by simp (maxSteps := 2000000) only [vup, cond_true, cond_false, Nat.reduceBEq])
    clear hN3
    try clear N3
    refine Zn ?_
    refine Zs fun Q hQ => ?_
    refine Yu (γ := Nat) (fun k => k ≤ xs.length ∧ ∀ i, i < k → xs.getD i (0, 0) = ys.getD i (0, 0))
      (fun k => ([(0, u), (1, v), (4, .bool false), (11, u), (12, Zd xs.length), (13, Zd (k : Nat))], h)) (fun k => xs.length - k) 0 ⟨Nat.zero_le _, fun i hi => by omega⟩ (by simp (maxSteps := 2000000) only [vup, cond_true, cond_false, Nat.reduceBEq, Int.natCast_zero]) rfl ?_
    rintro k ⟨hk, hall⟩
    refine Zs fun Q2 hQ2 => ?_
    simp only [l35_0]
    by_cases hin : (k : Int) < xs.length
    · have hk' : k < xs.length := by omega
      have hky : k < ys.length := by omega
      refine Ze fun N4 hN4 => ?_
      simp (maxSteps := 2000000) only [↓Za, ↓Zb, ↓Zc, vup, cond_true, cond_false, aop, Zg, ev, sput, Zf, Yg, Yl, Nat.reduceBEq, hin]
      refine hN4 [(0, u), (1, v), (4, .bool false), (11, u), (12, Zd xs.length), (13, Zd (k : Nat)), (14, .bool true)] _ _ ?_ (by simp (maxSteps := 2000000) only [vup, cond_true, cond_false, Nat.reduceBEq])
      clear hN4
      try clear N4
      refine Ze fun N5 hN5 => ?_
      simp (maxSteps := 2000000) only [↓Zu, ↓vdn, vup, cond_true, cond_false, Zg, ev, Nat.reduceBEq]
      refine hN5 [(0, u), (1, v), (4, .bool false), (11, u), (12, Zd xs.length), (13, Zd (k : Nat))] _ _ ?_ (by simp (maxSteps := 2000000) only [vup, cond_true, cond_false, Nat.reduceBEq])
      clear hN5
      try clear N5
      refine Zm fun B hB => ?_
      refine Zn ?_
      refine Ze fun N6 hN6 => ?_
      simp (maxSteps := 2000000) only [↓Za, ↓Zb, ↓Zc, vup, cond_true, cond_false, aop, Zg, ev, sput, Zf, Nat.reduceBEq]
      refine hN6 [(0, u), (1, v), (4, .bool false), (5, Zd (k : Nat)), (11, u), (12, Zd xs.length), (13, Zd (k : Nat))] _ _ ?_ (by simp (maxSteps := 2000000) only [vup, cond_true, cond_false, Nat.reduceBEq])
      clear hN6
      try clear N6
      obtain ⟨⟨x, y⟩, hxy⟩ : ∃ p, xs.getD k (0, 0) = p := ⟨_, rfl⟩
      obtain ⟨⟨z, w⟩, hzw⟩ : ∃ p, ys.getD k (0, 0) = p := ⟨_, rfl⟩
      refine Zk ?_
      simp only [q35_6]
      refine aw_cut fun D hD => ?_
      refine Xv [] (by kernel_rfl) (by kernel_rfl) (by kernel_rfl) (by kernel_rfl) ?_
      simp (maxSteps := 2000000) only [↓Yr, ↓vdn, vup, cond_true, cond_false, aop, Zg, ev, sput, Zf, Yg, Yl, Nat.reduceBEq, Nat.reduceAdd, hu.idx el_47 Vk hk', hu.load shp_26 hk', hv.idx el_47 Vk hky, hv.load shp_26 hky, hxy, hzw, Xk, Option.map_some, List.length_cons, List.length_nil, Nat.zero_add, eqF]
      refine hD _ _ ?_
      by_cases he : x = z ∧ y = w
      · obtain ⟨rfl, rfl⟩ := he
        have hb : (([x, y] : List Int) != [x, y]) = false := by simp
        simp (maxSteps := 2000000) only [↓Zu, ↓vdn, vup, cond_true, cond_false, Zg, Zr, ev, Nat.reduceBEq, hb]
        refine hB [(0, u), (1, v), (4, .bool false), (11, u), (12, Zd xs.length), (13, Zd (k : Nat))] _ _ ?_ (by simp (maxSteps := 2000000) only [vup, cond_true, cond_false, Nat.reduceBEq])
        clear hB
        try clear B
        refine Zk ?_
        simp (maxSteps := 2000000) only [↓Za, ↓Zb, ↓Zc, vup, cond_true, cond_false, aop, ev, sput, Zf, Yg, Yl, Nat.reduceBEq, add1 (show k < 9223372036854775807 by omega)]
        refine hQ2 _ _ _ ⟨k + 1, ⟨hk', fun i hi => ?_⟩, by omega, by simp (maxSteps := 2000000) only [vup, cond_true, cond_false, Nat.reduceBEq], rfl⟩
        rcases Nat.lt_or_ge i k with h1 | h1
        · exact hall i h1
        · rw [show i = k by omega, hxy, hzw]
      · have hb : (([x, y] : List Int) != [z, w]) = true := by
          simp only [bne, Bool.not_eq_true', beq_eq_false_iff_ne, ne_eq, List.cons.injEq, and_true]
          exact he
        simp (maxSteps := 2000000) only [↓Za, ↓Zw, ↓Zz, ↓Zb, ↓Zc, ↓vdn, vup, cond_true, cond_false, aop, Zg, Zr, ev, sput, Zf, Nat.reduceBEq, hb]
        refine hQ2 _ _ _ (hQ _ _ _ ?_)
        have hd : decide (xs = ys) = false := by
          rw [decide_eq_false_iff_not]
          rintro rfl
          rw [hxy] at hzw
          exact he (Prod.mk.inj hzw)
        simp (maxSteps := 2000000) only [vup, cond_true, cond_false, Zg, Zr, Nat.reduceBEq, Zv, Xw, tup, hd]
    · obtain rfl : k = xs.length := by omega
      refine Ze fun N7 hN7 => ?_
      simp (maxSteps := 2000000) only [↓Za, ↓Zb, ↓Zc, vup, cond_true, cond_false, aop, Zg, ev, sput, Zf, Yg, Yl, Nat.reduceBEq, hin]
      refine hN7 [(0, u), (1, v), (4, .bool false), (11, u), (12, Zd xs.length), (13, Zd xs.length), (14, .bool false)] _ _ ?_ (by simp (maxSteps := 2000000) only [vup, cond_true, cond_false, Nat.reduceBEq])
      clear hN7
      try clear N7
      refine Ze fun N8 hN8 => ?_
      simp (maxSteps := 2000000) only [↓Xa, ↓vdn, vup, cond_true, cond_false, Zg, ev, Nat.reduceBEq]
      refine hQ2 _ _ _ (hQ _ _ _ ?_)
      simp (maxSteps := 2000000) only [Zg, Zr, Zv, if_true]
      refine hZ [(0, u), (1, v), (4, .bool false), (11, u), (12, Zd xs.length), (13, Zd xs.length), (14, .bool false)] _ _ ?_ (by simp (maxSteps := 2000000) only [vup, cond_true, cond_false, Nat.reduceBEq])
      clear hZ
      try clear Z
      refine Zk ?_
      have hd : decide (xs = ys) = true := by
        rw [decide_eq_true_eq]; exact pairs_eq hn _ (Nat.le_refl _) hall rfl
      simp (maxSteps := 2000000) only [↓Za, ↓Zw, ↓Zz, ↓Zb, ↓Zc, vup, cond_true, cond_false, aop, Zg, ev, sput, Zf, Nat.reduceBEq, Zv, Xw, tup, hd]
  · have hne : (((xs.length : Nat) : Int) != ((ys.length : Nat) : Int)) = true := by
      have : ¬ ((xs.length : Nat) : Int) = ((ys.length : Nat) : Int) := by omega
      simpa [bne] using this
    refine Zk ?_
    have hd : decide (xs = ys) = false := by
      rw [decide_eq_false_iff_not]
      rintro rfl; exact hn rfl
    simp (maxSteps := 2000000) only [↓Za, ↓Zu, ↓Zw, ↓aw_block, ↓Zz, ↓Zb, ↓Zc, ↓vdn, vup, List.map_cons, List.map_nil, cond_true, cond_false, aop, Zg, ev, sput, Zf, Yg, Yl, Zl, Nat.reduceBEq, Zv, Xw, tup, tyf, hu.len, hv.len, hne, hd]
end Go.Proofs.Try.Am

namespace Go.Proofs.Try.Am
open Go.Am Bq
set_option maxRecDepth 100000
set_option maxHeartbeats 2000000

theorem Vu {h : Zh} {v : Value} {l : List (Int × Int)} (hv : PairSl h v l) : ∃ p n c, v = .slice p n c := by
  rcases hv with ⟨rfl, _⟩ | ⟨b, o, sp, cap, c, e, ro, rfl, _⟩
  · exact ⟨_, _, _, rfl⟩
  · exact ⟨_, _, _, rfl⟩
theorem bldT {n : Int} {p : Option Addr} {m c : Nat} {K : Value → Prop} : Vc prog 86 [(0, Zd n), (1, .slice p m c)] K = K (.agg #[Zd n, .slice p m c]) := by
  simp [Vc, zero_86, fillL, pl_86_0, pl_86_1, Wr, cellsOf, Ye]
theorem storeT {h : Zh} {b : Nat} {n : Int} {p : Option Addr} {m k : Nat} {e : TypeId} {c : List Value} {K : Zh → Prop} (hb : h[b]? = some (.cells c e false)) (hc : c.length = 2) : Xs prog h 86 (.pointer (some ⟨b, 0, none⟩)) (.agg #[Zd n, .slice p m k]) K = K (h.set b (.cells [Zd n, .slice p m k] e false)) :=
  storeA (vs := [Zd n, .slice p m k]) hb (by rw [shp_86]; rfl) rfl (by rw [hc]; rfl)
theorem loadT {h : Zh} {b : Nat} {n : Int} {v : Value} {K : Value → Prop} (hb : h[b]? = some (.cells [Zd n, v] 86 false)) : Xn prog h 86 (.pointer (some ⟨b, 0, none⟩)) K = K (.agg #[Zd n, v]) :=
  loadA hb (by rw [shp_86]; rfl)

def SoundIs (n : Int) (l : List (Int × Int)) (h' : Zh) (x : Value) (e : Int) : Prop :=
  if Yz n l = true then (match Xt n.toNat l with | [] => x = .slice none 0 0 ∧ e = 5 | c :: _ => e = 0 ∧ BelAt h' x c) else x = .slice none 0 0 ∧ e = 2
theorem s36_callW [Tabs Try.prog] {args : List Value} {h : Zh} {Q : Value → Zh → Prop} (hsz : args.length ≤ 22) (hk : AWS Try.prog 22 s36 (Zv Try.prog [.tmp 4, .tmp 5] Q) (Zt 0 args) h) : ACall Try.prog 36 args h Q :=
  Yn Try.func36 rfl (enters_of Try.func36 (by kernel_rfl) rfl) rfl rfl (by decide) s36_strip s36_ok hsz hk
theorem sound_call [Tabs prog] {h : Zh} {n : Int} {v : Value} {l : List (Int × Int)} (hv : PairSl h v l) (hl : l.length < 9223372036854775808) (ht : Yz n l = true → TameAll n.toNat l) :
    ACall prog 36 [Zd n, v] h fun r h' => Ext (fun _ => False) h h' ∧ ∃ x e, r = .tuple #[x, .int .i64 e] ∧ SoundIs n l h' x e := by
  obtain ⟨p, m, c, rfl⟩ := Vu hv
  obtain ⟨H, hH⟩ : ∃ H, H = h ++ [Blk.cells [Zd n, .slice p m c] 86 false] := ⟨_, rfl⟩
  have hE : Ext (fun _ => False) h H := by rw [hH]; exact Ext.app _ _ _
  have b6 : H[h.length]? = some (.cells [Zd n, .slice p m c] 86 false) := by rw [hH]; exact Zy _ _
  have hvH := hv.ext hE
  refine s36_callW (by simp) ?_
  simp only [s36]
  refine Ze fun N1 hN1 => ?_
  simp (maxSteps := 2000000) only [↓Za, ↓Zb, ↓Zc, vup, cond_false, aop, Zg, Zt, ev, sput, Zf, Nat.reduceBEq, Nat.reduceAdd]
  refine hN1 [(0, Zd n), (1, .slice p m c), (4, .slice none 0 0), (5, .int .i64 0)] _ _ ?_ (by simp (maxSteps := 2000000) only [vup, cond_true, cond_false, Nat.reduceBEq])
  clear hN1
  try clear N1
  refine Ze fun N2 hN2 => ?_
  simp (maxSteps := 2000000) only [↓Za, ↓Zb, ↓Zc, vup, List.map_cons, List.map_nil, cond_true, cond_false, aop, Zg, ev, sput, Zf, Nat.reduceBEq, tyf, bldT, Xm, Yi, storeT (Zy h (.cells [.int .i64 0, .slice none 0 0] 86 false)) rfl, Wf]
  rw [← hH]
  refine hN2 [(4, .slice none 0 0), (5, .int .i64 0), (6, .pointer (some ⟨h.length, 0, none⟩))] _ _ ?_ (by simp (maxSteps := 2000000) only [vup, cond_true, cond_false, Nat.reduceBEq])
  clear hN2
  try clear N2
  refine Zm fun M hM => ?_
  refine Ze fun N3 hN3 => ?_
  simp (maxSteps := 2000000) only [↓Za, ↓Zb, ↓Zc, vup, List.map_cons, List.map_nil, cond_true, cond_false, aop, Zg, ev, sput, Zf, unK, Nat.reduceBEq, Yv, List.nil_append, List.append_nil, loadT b6]
  refine (valid_call hvH hl).mono ?_
  rintro _ H ⟨rfl, rfl⟩
  refine hN3 [(4, .slice none 0 0), (5, .int .i64 0), (6, .pointer (some ⟨h.length, 0, none⟩)), (13, .bool (!Yz n l))] _ _ ?_ (by simp (maxSteps := 2000000) only [vup, cond_true, cond_false, Nat.reduceBEq])
  clear hN3
  try clear N3
  cases hval : Yz n l with
  | false =>
    refine Xl rfl ?_
    refine Zk ?_
    simp (maxSteps := 2000000) only [↓Za, ↓Zw, ↓Zz, ↓Zb, ↓Zc, vup, cond_true, cond_false, aop, Zg, ev, sput, Zf, Nat.reduceBEq, Zv, Xw, tup]
    exact ⟨hE, _, _, rfl, by rw [SoundIs, if_neg (by simp [hval])]; exact ⟨rfl, rfl⟩⟩
  | true =>
    refine Xb rfl ?_
    refine Zk ?_
    simp (maxSteps := 2000000) only [↓Zu, vup, Zg]
    refine hM [(4, .slice none 0 0), (5, .int .i64 0), (6, .pointer (some ⟨h.length, 0, none⟩))] _ _ ?_ (by simp (maxSteps := 2000000) only [vup, cond_true, cond_false, Nat.reduceBEq])
    clear hM
    try clear M
    have hn : n = (n.toNat : Int) := by
      simp only [Yz, Bool.and_eq_true, decide_eq_true_eq] at hval; omega
    have hcor := corners_call (n := n.toNat) hvH (by rw [← hn]; exact hval) (ht hval)
    rw [← hn] at hcor
    refine Ze fun N4 hN4 => ?_
    simp (maxSteps := 2000000) only [↓Za, ↓Zb, ↓Zc, vup, List.map_cons, List.map_nil, cond_true, cond_false, aop, Zg, ev, sput, Zf, Nat.reduceBEq, Yv, List.nil_append, List.append_nil, loadT b6]
    refine (hcor).mono ?_
    rintro r H1 ⟨hE1, ⟨ws, hor, heach⟩, hb⟩
    refine hN4 [(4, .slice none 0 0), (5, .int .i64 0), (6, .pointer (some ⟨h.length, 0, none⟩)), (7, r)] _ _ ?_ (by simp (maxSteps := 2000000) only [vup, cond_true, cond_false, Nat.reduceBEq])
    clear hN4
    try clear N4
    have hEE := hE.trans hE1
    have hlen := heach.len
    refine Zk ?_
    have his : ∀ x e, SoundIs n l H1 x e ↔ (match Xt n.toNat l with | [] => x = .slice none 0 0 ∧ e = 5 | c :: _ => e = 0 ∧ BelAt H1 x c) := fun x e => by rw [SoundIs, if_pos hval]
    cases hc : Xt n.toNat l with
    | nil =>
      rw [hc] at hlen heach
      have h0 : (((ws.length : Nat) : Int) == 0) = true := by simp [hlen]
      simp (maxSteps := 2000000) only [↓Za, ↓Zu, ↓Zw, ↓Zz, ↓Zb, ↓Zc, ↓vdn, vup, List.map_cons, List.map_nil, cond_true, cond_false, aop, Zg, ev, sput, Zf, Yg, Yl, Zl, Nat.reduceBEq, Zv, Xw, tup, tyf, hor.val.len, h0]
      exact ⟨hEE, _, _, rfl, (his _ _).2 (by rw [hc]; exact ⟨rfl, rfl⟩)⟩
    | cons c0 cs =>
      rw [hc] at hlen heach
      have hpos : 0 < ws.length := by rw [hlen]; simp
      have h0 : (((ws.length : Nat) : Int) == 0) = false := beq_eq_false_iff_ne.2 (by omega)
      have hi0 : ∀ K : Value → Prop, Xf prog 88 r (.int .i64 0) K = K (Vl r 1 0) := fun K => by
        have := hor.val.idx el_88 esz_90 (k := .i64) hpos K
        simpa using this
      simp (maxSteps := 2000000) only [↓Za, ↓Zu, ↓Zw, ↓Zz, ↓Zb, ↓Zc, ↓vdn, vup, List.map_cons, List.map_nil, cond_true, cond_false, aop, Zg, ev, sput, Zf, Yg, Yl, Zl, Nat.reduceBEq, Zv, Xw, tup, tyf, hor.val.len, h0, hi0, hor.val.load shp_90 hpos]
      have hbel := heach.get undef [] (k := 0) (by simp)
      exact ⟨hEE, _, _, rfl, (his _ _).2 (by rw [hc]; exact ⟨rfl, hbel⟩)⟩

theorem s21_callW [Tabs Try.prog] {args : List Value} {h : Zh} {Q : Value → Zh → Prop} (hsz : args.length ≤ 18) (hk : AWS Try.prog 18 s21 (Zv Try.prog [.tmp 0] Q) (Zt 0 args) h) : ACall Try.prog 21 args h Q :=
  Yn Try.func21 rfl (enters_of Try.func21 (by kernel_rfl) rfl) rfl rfl (by decide) s21_strip s21_ok hsz hk
theorem awake_call [Tabs prog] {h : Zh} : Xi prog 21 [] h (.bool true) := by
  refine ACall.forget (Low.bool _) ?_
  refine s21_callW (by simp) ?_
  simp only [s21]
  have bldB : ∀ {x y : Int} {K : Value → Prop}, Vc prog 92 [(0, Zd x), (1, Zd y)] K = K (.agg #[Zd x, Zd y]) := fun {x y K} => by
    simp [Vc, zero_92, fillL, pl_92_0, pl_92_1, Wr, cellsOf, Ye]
  have lit : ∀ {K : Value → Zh → Prop}, Yp prog h 30 1 [(0, .agg #[Zd 1, Zd 6])] K = K (.slice (some ⟨h.length, 0, none⟩) 1 1) (h ++ [.ints [1, 6] 92 false]) := fun {K} => by
    simp only [Yp, el_30, zero_92, esz_92, reps, fillL, mkb, Wr, cellsOf, List.length_cons, List.length_nil, Nat.zero_add, Nat.zero_mul, Ye]
    refine propext ⟨fun h => ?_, fun h => ⟨trivial, by decide, by decide, ?_⟩⟩
    · simpa [Xk] using h.2.2.2
    · simpa [Xk] using h
  have hp : PairSl (h ++ [.ints [1, 6] 92 false]) (.slice (some ⟨h.length, 0, none⟩) 1 1) [(1, 6)] := .inr ⟨h.length, 0, none, 1, [Zd 1, Zd 6], 92, false, rfl, Nat.le_refl _, by simp [view, Blk.view], fun i hi => by
    obtain rfl : i = 0 := by simpa using hi
    exact ⟨rfl, rfl⟩⟩
  have hv : Yz 2 [(1, 6)] = true := by decide
  refine Ze fun N5 hN5 => ?_
  simp (maxSteps := 2000000) only [↓Za, ↓Zb, ↓Zc, vup, aop, Zg, Zt, ev, sput, Zf]
  refine hN5 [(0, .bool false)] _ _ ?_ (by simp (maxSteps := 2000000) only [vup, cond_true, Nat.reduceBEq])
  clear hN5
  try clear N5
  refine Ze fun N6 hN6 => ?_
  simp (maxSteps := 2000000) only [↓Za, ↓Zb, ↓Zc, vup, List.map_cons, List.map_nil, cond_true, cond_false, aop, Zg, ev, sput, Zf, Nat.reduceBEq, bldB, lit, Yv, List.nil_append, List.append_nil]
  refine (sound_call (n := 2) hp (by decide) fun _ => tame_awake).mono ?_
  rintro r h1 ⟨hE1, x, e, rfl, hs⟩
  rw [SoundIs, if_pos hv, show (2 : Int).toNat = 2 from rfl, corners_awake] at hs
  simp only at hs
  obtain ⟨rfl, bl, rfl, hbl⟩ := hs
  have hE : Ext (fun _ => False) h h1 := (Ext.app _ _ _).trans hE1
  have px := pairSl_cells hbl
  have hlist : ([1 / 2, 1 / 2] : List Rat).map ofQ = [(1, 2), (1, 2)] := by decide +kernel
  rw [hlist] at px
  simp (maxSteps := 2000000) only [extr_20, extr_21, Nat.reduceAdd, List.length_cons, List.length_nil]
  refine hN6 [(0, .bool false), (1, .slice (some ⟨bl, 0, none⟩) 2 2), (2, .int .i64 0)] _ _ ?_ (by simp (maxSteps := 2000000) only [vup, cond_true, cond_false, Nat.reduceBEq])
  clear hN6
  try clear N6
  have lit2 : ∀ {K : Value → Zh → Prop}, Yp prog h1 47 2 [(0, .agg #[Zd 1, Zd 2]), (1, .agg #[Zd 1, Zd 2])] K = K (.slice (some ⟨h1.length, 0, none⟩) 2 2) (h1 ++ [.ints [1, 2, 1, 2] 26 false]) := fun {K} => by
    simp [Yp, el_47, zero_26, Vk, reps, fillL, mkb, Wr, cellsOf, Ye, Xk]
  have p2 : PairSl (h1 ++ [.ints [1, 2, 1, 2] 26 false]) (.slice (some ⟨h1.length, 0, none⟩) 2 2) [(1, 2), (1, 2)] := .inr ⟨h1.length, 0, none, 2, [Zd 1, Zd 2, Zd 1, Zd 2], 26, false, rfl, Nat.le_refl _, by simp [view, Blk.view], fun i hi => by
    have : i = 0 ∨ i = 1 := by simp at hi; omega
    rcases this with rfl | rfl <;> exact ⟨rfl, rfl⟩⟩
  have eq := equalF_call (px.ext (Ext.app _ _ _)) p2 (by decide)
  refine Zk ?_
  simp (maxSteps := 2000000) only [↓Za, ↓Zw, ↓Zz, ↓Zb, ↓Zc, ↓vdn, vup, List.map_cons, List.map_nil, cond_true, cond_false, aop, Zg, ev, sput, Zf, Yg, Yl, Nat.reduceBEq, Int.reduceBEq, Zv, Xw, tup, Yv, List.nil_append, List.append_nil, bldF, lit2]
  refine (eq).mono ?_
  rintro _ _ ⟨rfl, rfl⟩
  simp (maxSteps := 2000000) only [vup]
  exact hE.trans (Ext.app _ _ _)
end Go.Proofs.Try.Am
