/-
  bets: averages of scores.
  bets: the reference's averages and scores.
  Printed by gen.py: the code of some functions, without what no step looks at; held against the program's own by the kernel.
  bets, plain: what a forecast loses against the belief.
  bets: law Proper.
-/
import Derived.Test.YtcmindinomacbaaPk12
import Derived.Test.YtcmindinomacbaaPk5
import Derived.Test.YtcmindinomacbaaPk3
import Derived.Test.YtcmindinomacbaaProg
import Derived.KernelRfl
import Derived.Shelf.Abstract
import Derived.Test.YtcmindinomacbaaPk6
set_option linter.all false
namespace Go.Proofs.Try.Am
open Go.Am Bq
set_option maxRecDepth 100000
set_option maxHeartbeats 1000000

theorem big_small {m k : Nat} (hm : m ≤ 27885) (hk : k ≤ 27885) : k * (m * m) ≤ 21682629379125 := by
  have h1 := nat_small hm
  have := Nat.mul_le_mul hk h1; omega
theorem score_fits {f : List (Int × Int)} (c : Fc f) {w : Nat} (hw : w < f.length) : Fits (scoreQ f w) := by
  have hm := Nat.pos_of_ne_zero c.c.m
  have hsm := nat_small c.small
  exact fits_b (C := 1) (Nat.mul_pos hm hm) (c.scoreTo_den hw (Nat.le_refl _)) (Rat.le_trans (by decide) (c.score_le hw).1) (c.score_le hw).2 (by omega) (by omega)

theorem s31_callW [Tabs Try.prog] {args : List Value} {h : Heap} {Q : Value → Heap → Prop} (hsz : args.length ≤ 42) (hk : AWS Try.prog 42 s31 (aPost Try.prog [.cell 4 26, .tmp 5] Q) (argEnv 0 args) h) : ACall Try.prog 31 args h Q :=
  acall_w Try.func31 rfl (enters_of Try.func31 (by kernel_rfl) rfl) rfl rfl (by decide) s31_strip s31_ok hsz hk
theorem progMean_call [Tabs prog] {h : Heap} {u v : Value} {f b : List (Int × Int)} (hu : PairSl h u f) (hv : PairSl h v b) (hlf : f.length < 9223372036854775808) (hlb : b.length < 9223372036854775808) :
    APure prog 31 [u, v] h (if fcB f = true ∧ fcB b = true ∧ f.length = b.length then .tuple #[qV (meanQ f b), .int .i64 0] else .tuple #[frV 0 0, .int .i64 2]) := by
  refine ACall.forget (by split <;> exact Low.pair (low_frV _ _) (Low.int _ _)) ?_
  obtain ⟨R, hR⟩ : ∃ R, (if fcB f = true ∧ fcB b = true ∧ f.length = b.length then Value.tuple #[qV (meanQ f b), .int .i64 0] else .tuple #[frV 0 0, .int .i64 2]) = R := ⟨_, rfl⟩
  rw [hR]
  obtain ⟨H, hH⟩ : ∃ H, H = h ++ [z0] := ⟨_, rfl⟩
  have hE : Ext (fun _ => False) h H := by rw [hH]; exact Ext.app _ _ _
  have huH := hu.ext hE
  have hvH := hv.ext hE
  have hlH : H.length = h.length + 1 := by rw [hH]; simp
  have c4 : H[h.length]? = some z0 := by rw [hH]; exact get_new _ _
  refine s31_callW (by simp) ?_
  simp only [s31]
  refine aws_cut fun N1 hN1 => ?_
  simp (maxSteps := 2000000) only [s31, ↓aw_region, ↓aw_skip, ↓aw_seq, ↓aw_block, ↓aw_exit, ↓aw_ret, ↓sops_nil, ↓sops_go, ↓dops_nil, ↓dopsX_nil, ↓dopsR_nil, ↓vdn, vup, extr_20, extr_21, extr_30, extr_31, extr_32, List.map_cons, List.map_nil, cond_true, cond_false, aop, aThen, aBlock, argEnv, ev, sput, sputO, binK, binI, unK, builtinK, pickK, Nat.reduceBEq, Nat.reduceAdd, Int.reduceBEq, Int.reduceBNe, Int.reduceLT, aPost, resK, tup, tyf, allocK, newPtr, zero_26]
  rw [← hH]
  refine hN1 [(0, u), (1, v), (4, .pointer (some ⟨h.length, 0, none⟩)), (5, .int .i64 0)] _ _ ?_ (by simp (maxSteps := 2000000) only [↓aw_region, ↓aw_skip, ↓aw_seq, ↓aw_block, ↓aw_exit, ↓aw_ret, ↓sops_nil, ↓sops_go, ↓dops_nil, ↓dopsX_nil, ↓dopsR_nil, ↓vdn, vup, extr_20, extr_21, extr_30, extr_31, extr_32, List.map_cons, List.map_nil, cond_true, cond_false, aop, aThen, aBlock, argEnv, ev, sput, sputO, binK, binI, unK, builtinK, pickK, Nat.reduceBEq, Nat.reduceAdd, Int.reduceBEq, Int.reduceBNe, Int.reduceLT, aPost, resK, tup, tyf])
  clear hN1
  try clear N1
  refine aws_cut fun M hM => ?_
  simp (maxSteps := 2000000) only [s31, ↓aw_region, ↓aw_skip, ↓aw_seq, ↓aw_block, ↓aw_exit, ↓aw_ret, ↓sops_nil, ↓sops_go, ↓dops_nil, ↓dopsX_nil, ↓dopsR_nil, ↓vdn, vup, extr_20, extr_21, extr_30, extr_31, extr_32, List.map_cons, List.map_nil, cond_true, cond_false, aop, aThen, aBlock, argEnv, ev, sput, sputO, binK, binI, unK, builtinK, pickK, Nat.reduceBEq, Nat.reduceAdd, Int.reduceBEq, Int.reduceBNe, Int.reduceLT, aPost, resK, tup, tyf, callK, List.nil_append, List.append_nil, List.toList_toArray, List.cons_append, huH.len]
  refine (isfc_call huH hlf).mono ?_
  rintro _ H ⟨rfl, rfl⟩
  cases hf : fcB f with
  | false =>
    simp (maxSteps := 2000000) only [s31, ↓aw_region, ↓aw_skip, ↓aw_seq, ↓aw_block, ↓aw_exit, ↓aw_ret, ↓sops_nil, ↓sops_go, ↓dops_nil, ↓dopsX_nil, ↓dopsR_nil, ↓vdn, vup, extr_20, extr_21, extr_30, extr_31, extr_32, List.map_cons, List.map_nil, cond_true, cond_false, aop, aThen, aBlock, argEnv, ev, sput, sputO, binK, binI, unK, builtinK, pickK, Nat.reduceBEq, Nat.reduceAdd, Int.reduceBEq, Int.reduceBNe, Int.reduceLT, aPost, resK, tup, tyf, Bool.not_false, bldF0, List.map_toArray, storeF c4 rfl, loadF (get_set (get_lt c4) _)]
    rw [← hR, hf, if_neg (by simp)]
    exact ⟨rfl, hE.set_ge (Nat.le_refl _) _⟩
  | true =>
    have cf := fc_of hf
    simp (maxSteps := 2000000) only [s31, ↓aw_region, ↓aw_skip, ↓aw_seq, ↓aw_block, ↓aw_exit, ↓aw_ret, ↓sops_nil, ↓sops_go, ↓dops_nil, ↓dopsX_nil, ↓dopsR_nil, ↓vdn, vup, extr_20, extr_21, extr_30, extr_31, extr_32, List.map_cons, List.map_nil, cond_true, cond_false, aop, aThen, aBlock, argEnv, ev, sput, sputO, binK, binI, unK, builtinK, pickK, Nat.reduceBEq, Nat.reduceAdd, Int.reduceBEq, Int.reduceBNe, Int.reduceLT, aPost, resK, tup, tyf, Bool.not_true, callK, List.nil_append, List.append_nil, List.toList_toArray, List.cons_append]
    refine (isfc_call hvH hlb).mono ?_
    rintro _ H ⟨rfl, rfl⟩
    cases hb : fcB b with
    | false =>
      simp (maxSteps := 2000000) only [s31, ↓aw_region, ↓aw_skip, ↓aw_seq, ↓aw_block, ↓aw_exit, ↓aw_ret, ↓sops_nil, ↓sops_go, ↓dops_nil, ↓dopsX_nil, ↓dopsR_nil, ↓vdn, vup, extr_20, extr_21, extr_30, extr_31, extr_32, List.map_cons, List.map_nil, cond_true, cond_false, aop, aThen, aBlock, argEnv, ev, sput, sputO, binK, binI, unK, builtinK, pickK, Nat.reduceBEq, Nat.reduceAdd, Int.reduceBEq, Int.reduceBNe, Int.reduceLT, aPost, resK, tup, tyf, Bool.not_false, bldF0, List.map_toArray, storeF c4 rfl, loadF (get_set (get_lt c4) _)]
      rw [← hR, hb, if_neg (by simp)]
      exact ⟨rfl, hE.set_ge (Nat.le_refl _) _⟩
    | true =>
      have cb := fc_of hb
      by_cases hl : f.length = b.length
      · have hne : (((f.length : Nat) : Int) != ((b.length : Nat) : Int)) = false := by rw [hl]; simp
        rw [if_pos ⟨hf, hb, hl⟩] at hR
        have hmf := Nat.pos_of_ne_zero cf.c.m
        have hmb := Nat.pos_of_ne_zero cb.c.m
        have hNN := Nat.mul_pos hmb (Nat.mul_pos hmf hmf)
        have hsm := big_small cf.small cb.small
        have hNlt : mult b * (mult f * mult f) < 9223372036854775808 := by omega
        have hlen := cb.len
        simp (maxSteps := 2000000) only [s31, ↓aw_region, ↓aw_skip, ↓aw_seq, ↓aw_block, ↓aw_exit, ↓aw_ret, ↓sops_nil, ↓sops_go, ↓dops_nil, ↓dopsX_nil, ↓dopsR_nil, ↓vdn, vup, extr_20, extr_21, extr_30, extr_31, extr_32, List.map_cons, List.map_nil, cond_true, cond_false, aop, aThen, aBlock, argEnv, ev, sput, sputO, binK, binI, unK, builtinK, pickK, Nat.reduceBEq, Nat.reduceAdd, Int.reduceBEq, Int.reduceBNe, Int.reduceLT, aPost, resK, tup, tyf, Bool.not_true, huH.len, hvH.len, hne]
        refine hM [(0, u), (1, v), (4, .pointer (some ⟨h.length, 0, none⟩)), (5, .int .i64 0)] _ _ ?_ (by simp (maxSteps := 2000000) only [↓aw_region, ↓aw_skip, ↓aw_seq, ↓aw_block, ↓aw_exit, ↓aw_ret, ↓sops_nil, ↓sops_go, ↓dops_nil, ↓dopsX_nil, ↓dopsR_nil, ↓vdn, vup, extr_20, extr_21, extr_30, extr_31, extr_32, List.map_cons, List.map_nil, cond_true, cond_false, aop, aThen, aBlock, argEnv, ev, sput, sputO, binK, binI, unK, builtinK, pickK, Nat.reduceBEq, Nat.reduceAdd, Int.reduceBEq, Int.reduceBNe, Int.reduceLT, aPost, resK, tup, tyf])
        clear hM
        try clear M
        refine aws_cut fun N2 hN2 => ?_
        simp (maxSteps := 2000000) only [s31, ↓aw_region, ↓aw_skip, ↓aw_seq, ↓aw_block, ↓aw_exit, ↓aw_ret, ↓sops_nil, ↓sops_go, ↓dops_nil, ↓dopsX_nil, ↓dopsR_nil, ↓vdn, vup, extr_20, extr_21, extr_30, extr_31, extr_32, List.map_cons, List.map_nil, cond_true, cond_false, aop, aThen, aBlock, argEnv, ev, sput, sputO, binK, binI, unK, builtinK, pickK, Nat.reduceBEq, Nat.reduceAdd, Int.reduceBEq, Int.reduceBNe, Int.reduceLT, aPost, resK, tup, tyf, callK, List.nil_append, List.append_nil, List.toList_toArray, List.cons_append]
        refine ((show APure prog 70 [.int .i64 0] H (qV ((0 : Int) : Rat)) from whole_call)).mono ?_
        rintro _ H ⟨rfl, rfl⟩
        have q0 : qV ((0 : Int) : Rat) = .agg #[vint 0, vint 1] := rfl
        simp (maxSteps := 2000000) only [s31, ↓aw_region, ↓aw_skip, ↓aw_seq, ↓aw_block, ↓aw_exit, ↓aw_ret, ↓sops_nil, ↓sops_go, ↓dops_nil, ↓dopsX_nil, ↓dopsR_nil, ↓vdn, vup, extr_20, extr_21, extr_30, extr_31, extr_32, List.map_cons, List.map_nil, cond_true, cond_false, aop, aThen, aBlock, argEnv, ev, sput, sputO, binK, binI, unK, builtinK, pickK, Nat.reduceBEq, Nat.reduceAdd, Int.reduceBEq, Int.reduceBNe, Int.reduceLT, aPost, resK, tup, tyf, allocK, newPtr, zero_26, q0, storeF (get_new H z0) rfl, set_new]
        rw [hlH]
        obtain ⟨H0, hH0⟩ : ∃ H0, H0 = H ++ [fC 0 1] := ⟨_, rfl⟩
        have d4 : H0[h.length]? = some z0 := by rw [hH0]; exact get_old c4 _
        have d6 : H0[h.length + 1]? = some (fC 0 1) := by rw [hH0, ← hlH]; exact get_new _ _
        have dE : Ext (fun _ => False) h H0 := by rw [hH0]; exact hE.trans (Ext.app _ _ _)
        rw [← hH0]
        refine hN2 [(0, u), (1, v), (4, .pointer (some ⟨h.length, 0, none⟩)), (5, .int .i64 0), (6, .pointer (some ⟨h.length + 1, 0, none⟩))] _ _ ?_ (by simp (maxSteps := 2000000) only [↓aw_region, ↓aw_skip, ↓aw_seq, ↓aw_block, ↓aw_exit, ↓aw_ret, ↓sops_nil, ↓sops_go, ↓dops_nil, ↓dopsX_nil, ↓dopsR_nil, ↓vdn, vup, extr_20, extr_21, extr_30, extr_31, extr_32, List.map_cons, List.map_nil, cond_true, cond_false, aop, aThen, aBlock, argEnv, ev, sput, sputO, binK, binI, unK, builtinK, pickK, Nat.reduceBEq, Nat.reduceAdd, Int.reduceBEq, Int.reduceBNe, Int.reduceLT, aPost, resK, tup, tyf])
        clear hN2
        try clear N2
        refine aws_cutW fun Z hZ => ?_
        refine aws_cut fun N3 hN3 => ?_
        simp (maxSteps := 2000000) only [s31, ↓aw_region, ↓aw_skip, ↓aw_seq, ↓aw_block, ↓aw_exit, ↓aw_ret, ↓sops_nil, ↓sops_go, ↓dops_nil, ↓dopsX_nil, ↓dopsR_nil, ↓vdn, vup, extr_20, extr_21, extr_30, extr_31, extr_32, List.map_cons, List.map_nil, cond_true, cond_false, aop, aThen, aBlock, argEnv, ev, sput, sputO, binK, binI, unK, builtinK, pickK, Nat.reduceBEq, Nat.reduceAdd, Int.reduceBEq, Int.reduceBNe, Int.reduceLT, aPost, resK, tup, tyf, (hv.ext dE).len]
        refine hN3 [(0, u), (1, v), (4, .pointer (some ⟨h.length, 0, none⟩)), (5, .int .i64 0), (6, .pointer (some ⟨h.length + 1, 0, none⟩)), (26, v), (27, vint b.length), (28, .int .i64 0)] _ _ ?_ (by simp (maxSteps := 2000000) only [↓aw_region, ↓aw_skip, ↓aw_seq, ↓aw_block, ↓aw_exit, ↓aw_ret, ↓sops_nil, ↓sops_go, ↓dops_nil, ↓dopsX_nil, ↓dopsR_nil, ↓vdn, vup, extr_20, extr_21, extr_30, extr_31, extr_32, List.map_cons, List.map_nil, cond_true, cond_false, aop, aThen, aBlock, argEnv, ev, sput, sputO, binK, binI, unK, builtinK, pickK, Nat.reduceBEq, Nat.reduceAdd, Int.reduceBEq, Int.reduceBNe, Int.reduceLT, aPost, resK, tup, tyf])
        clear hN3
        try clear N3
        refine aws_block ?_
        refine aws_hide fun Q hQ => ?_
        refine aw_loopW (γ := Nat × Heap) (fun s => s.1 ≤ b.length ∧ Ext (fun _ => False) h s.2 ∧ s.2[h.length]? = some z0 ∧ s.2[h.length + 1]? = some (fC (meanTo f b s.1).num (meanTo f b s.1).den))
          (fun s => ([(0, u), (1, v), (4, .pointer (some ⟨h.length, 0, none⟩)), (5, .int .i64 0), (6, .pointer (some ⟨h.length + 1, 0, none⟩)), (26, v), (27, vint b.length), (28, vint (s.1 : Nat))], s.2)) (fun s => b.length - s.1) (0, H0) ⟨Nat.zero_le _, dE, d4, d6⟩ (by simp (maxSteps := 2000000) only [↓aw_region, ↓aw_skip, ↓aw_seq, ↓aw_block, ↓aw_exit, ↓aw_ret, ↓sops_nil, ↓sops_go, ↓dops_nil, ↓dopsX_nil, ↓dopsR_nil, ↓vdn, vup, extr_20, extr_21, extr_30, extr_31, extr_32, List.map_cons, List.map_nil, cond_true, cond_false, aop, aThen, aBlock, argEnv, ev, sput, sputO, binK, binI, unK, builtinK, pickK, Nat.reduceBEq, Nat.reduceAdd, Int.reduceBEq, Int.reduceBNe, Int.reduceLT, aPost, resK, tup, tyf, Int.natCast_zero]) rfl ?_
        rintro ⟨k, hp⟩ ⟨hk, hEp, k4, k6⟩
        simp only at hk hEp k4 k6
        refine aws_hide fun Q2 hQ2 => ?_
        simp only [l31_0]
        by_cases hin : (k : Int) < b.length
        · have hk' : k < b.length := by omega
          have hvp := hv.ext hEp
          obtain ⟨⟨x, y⟩, hxy⟩ : ∃ p, b.getD k (0, 0) = p := ⟨_, rfl⟩
          have hmem : (x, y) ∈ b := hxy ▸ getD_mem hk'
          have hxq := frV_q (cb.c.vld _ hmem)
          have hfq : fq b k = toQ (x, y) := by rw [fq, hxy]
          have hfit := chn_fits cb.c hk'
          have sfit := score_fits cf (show k < f.length by omega)
          obtain ⟨t1, t2, t3⟩ := cb.c.unit hk'
          obtain ⟨u1, u2⟩ := cf.score_le (show k < f.length by omega)
          have dpr : (fq b k * scoreQ f k).den ∣ mult b * (mult f * mult f) := mul_den_dvd hmb (Nat.mul_pos hmf hmf) t3 (cf.scoreTo_den (by omega) (Nat.le_refl _))
          have pr1 : -((1 : Nat) : Rat) ≤ fq b k * scoreQ f k := by
            have h1 := Rat.mul_le_mul_of_nonneg_left u1 t1
            have e : ((1 : Nat) : Rat) = 1 := rfl
            rw [e]; grind
          have pr2 : fq b k * scoreQ f k ≤ ((1 : Nat) : Rat) := by
            have h1 := Rat.mul_le_mul_of_nonneg_left u2 t1
            have e : ((1 : Nat) : Rat) = 1 := rfl
            rw [e]; grind
          have tc : ∀ h', APure prog 72 [qV (fq b k), qV (scoreQ f k)] h' (qV (fq b k * scoreQ f k)) := fun h' => times_call hfit sfit (fits_b (C := 1) hNN dpr pr1 pr2 (by omega) hNlt)
          have hnext : meanTo f b (k + 1) = meanTo f b k + ((1 : Int) : Rat) * (fq b k * scoreQ f k) := by
            rw [show (((1 : Int)) : Rat) = 1 from rfl, Rat.one_mul]; rfl
          obtain ⟨b1, b2⟩ := mean_le cf cb hl k hk
          have b3 := sumTo_mono (g := fq b) hk fun i hi => (cb.unit hi).1
          rw [cb.sum] at b3
          have pl : ∀ h', APure prog 71 [qV (meanTo f b k), vint 1, qV (fq b k * scoreQ f k)] h' (qV (meanTo f b (k + 1))) := fun h' => by
            rw [hnext]
            refine plus_fits (A := 1) (B := 1) hNN hNlt (mean_den cf cb hl hk) dpr ?_ ?_ pr1 pr2 (by simp; omega)
            · have e : ((1 : Nat) : Rat) = 1 := rfl
              rw [e]; grind
            · have e : ((1 : Nat) : Rat) = 1 := rfl
              rw [e]; grind
          rw [hfq, ← hxq] at tc
          rw [hfq] at pl
          obtain ⟨q, hqq⟩ : ∃ q, meanTo f b (k + 1) = q := ⟨_, rfl⟩
          obtain ⟨s, hss⟩ : ∃ s, meanTo f b k = s := ⟨_, rfl⟩
          obtain ⟨r, hrr⟩ : ∃ r, toQ (x, y) * scoreQ f k = r := ⟨_, rfl⟩
          rw [hrr] at tc pl
          rw [hqq, hss] at pl
          rw [hss] at k6
          obtain ⟨H, hH⟩ : ∃ H, H = hp ++ [fC x y] := ⟨_, rfl⟩
          have c8 : H[hp.length]? = some (fC x y) := by rw [hH]; exact get_new _ _
          have c4 : H[h.length]? = some z0 := by rw [hH]; exact get_old k4 _
          have c6 : H[h.length + 1]? = some (fC s.num s.den) := by rw [hH]; exact get_old k6 _
          have hEH : Ext (fun _ => False) h H := by rw [hH]; exact hEp.trans (Ext.app _ _ _)
          have sc := score_call (w := k) (hu.ext hEH) cf (by omega)
          obtain ⟨w, hww⟩ : ∃ w, scoreQ f k = w := ⟨_, rfl⟩
          rw [hww] at sc tc
          refine aws_cut fun N4 hN4 => ?_
          simp (maxSteps := 2000000) only [s31, ↓aw_region, ↓aw_skip, ↓aw_seq, ↓aw_block, ↓aw_exit, ↓aw_ret, ↓sops_nil, ↓sops_go, ↓dops_nil, ↓dopsX_nil, ↓dopsR_nil, ↓vdn, vup, extr_20, extr_21, extr_30, extr_31, extr_32, List.map_cons, List.map_nil, cond_true, cond_false, aop, aThen, aBlock, argEnv, ev, sput, sputO, binK, binI, unK, builtinK, pickK, Nat.reduceBEq, Nat.reduceAdd, Int.reduceBEq, Int.reduceBNe, Int.reduceLT, aPost, resK, tup, tyf, hin]
          refine hN4 [(0, u), (1, v), (4, .pointer (some ⟨h.length, 0, none⟩)), (5, .int .i64 0), (6, .pointer (some ⟨h.length + 1, 0, none⟩)), (26, v), (27, vint b.length), (28, vint (k : Nat)), (29, .bool true)] _ _ ?_ (by simp (maxSteps := 2000000) only [↓aw_region, ↓aw_skip, ↓aw_seq, ↓aw_block, ↓aw_exit, ↓aw_ret, ↓sops_nil, ↓sops_go, ↓dops_nil, ↓dopsX_nil, ↓dopsR_nil, ↓vdn, vup, extr_20, extr_21, extr_30, extr_31, extr_32, List.map_cons, List.map_nil, cond_true, cond_false, aop, aThen, aBlock, argEnv, ev, sput, sputO, binK, binI, unK, builtinK, pickK, Nat.reduceBEq, Nat.reduceAdd, Int.reduceBEq, Int.reduceBNe, Int.reduceLT, aPost, resK, tup, tyf])
          clear hN4
          try clear N4
          refine aws_cut fun N5 hN5 => ?_
          simp (maxSteps := 2000000) only [s31, ↓aw_region, ↓aw_skip, ↓aw_seq, ↓aw_block, ↓aw_exit, ↓aw_ret, ↓sops_nil, ↓sops_go, ↓dops_nil, ↓dopsX_nil, ↓dopsR_nil, ↓vdn, vup, extr_20, extr_21, extr_30, extr_31, extr_32, List.map_cons, List.map_nil, cond_true, cond_false, aop, aThen, aBlock, argEnv, ev, sput, sputO, binK, binI, unK, builtinK, pickK, Nat.reduceBEq, Nat.reduceAdd, Int.reduceBEq, Int.reduceBNe, Int.reduceLT, aPost, resK, tup, tyf]
          refine hN5 [(0, u), (1, v), (4, .pointer (some ⟨h.length, 0, none⟩)), (5, .int .i64 0), (6, .pointer (some ⟨h.length + 1, 0, none⟩)), (26, v), (27, vint b.length), (28, vint (k : Nat))] _ _ ?_ (by simp (maxSteps := 2000000) only [↓aw_region, ↓aw_skip, ↓aw_seq, ↓aw_block, ↓aw_exit, ↓aw_ret, ↓sops_nil, ↓sops_go, ↓dops_nil, ↓dopsX_nil, ↓dopsR_nil, ↓vdn, vup, extr_20, extr_21, extr_30, extr_31, extr_32, List.map_cons, List.map_nil, cond_true, cond_false, aop, aThen, aBlock, argEnv, ev, sput, sputO, binK, binI, unK, builtinK, pickK, Nat.reduceBEq, Nat.reduceAdd, Int.reduceBEq, Int.reduceBNe, Int.reduceLT, aPost, resK, tup, tyf])
          clear hN5
          try clear N5
          refine aws_cutW fun B hB => ?_
          refine aws_block ?_
          refine aws_cut fun N6 hN6 => ?_
          simp (maxSteps := 2000000) only [s31, ↓aw_region, ↓aw_skip, ↓aw_seq, ↓aw_block, ↓aw_exit, ↓aw_ret, ↓sops_nil, ↓sops_go, ↓dops_nil, ↓dopsX_nil, ↓dopsR_nil, ↓vdn, vup, extr_20, extr_21, extr_30, extr_31, extr_32, List.map_cons, List.map_nil, cond_true, cond_false, aop, aThen, aBlock, argEnv, ev, sput, sputO, binK, binI, unK, builtinK, pickK, Nat.reduceBEq, Nat.reduceAdd, Int.reduceBEq, Int.reduceBNe, Int.reduceLT, aPost, resK, tup, tyf, hvp.idx el_47 esz_26 hk', hvp.load shp_26 hk', hxy, allocK, newPtr, zero_26, storeF (get_new hp z0) rfl, set_new]
          rw [← hH]
          refine hN6 [(0, u), (1, v), (4, .pointer (some ⟨h.length, 0, none⟩)), (5, .int .i64 0), (6, .pointer (some ⟨h.length + 1, 0, none⟩)), (7, vint (k : Nat)), (8, .pointer (some ⟨hp.length, 0, none⟩)), (26, v), (27, vint b.length), (28, vint (k : Nat))] _ _ ?_ (by simp (maxSteps := 2000000) only [↓aw_region, ↓aw_skip, ↓aw_seq, ↓aw_block, ↓aw_exit, ↓aw_ret, ↓sops_nil, ↓sops_go, ↓dops_nil, ↓dopsX_nil, ↓dopsR_nil, ↓vdn, vup, extr_20, extr_21, extr_30, extr_31, extr_32, List.map_cons, List.map_nil, cond_true, cond_false, aop, aThen, aBlock, argEnv, ev, sput, sputO, binK, binI, unK, builtinK, pickK, Nat.reduceBEq, Nat.reduceAdd, Int.reduceBEq, Int.reduceBNe, Int.reduceLT, aPost, resK, tup, tyf])
          clear hN6
          try clear N6
          refine aw_aws ?_
          simp only [q31_7]
          refine aw_drawX [(4, 1), (5, 1), (6, 1)] (by kernel_rfl) (by kernel_rfl) (by kernel_rfl) (by kernel_rfl) ?_
          simp (maxSteps := 2000000) only [s31, ↓aw_region, ↓aw_skip, ↓aw_seq, ↓aw_block, ↓aw_exit, ↓aw_ret, ↓sops_nil, ↓sops_go, ↓dops_nil, ↓dopsX_nil, ↓dopsR_nil, ↓vdn, vup, extr_20, extr_21, extr_30, extr_31, extr_32, List.map_cons, List.map_nil, cond_true, cond_false, aop, aThen, aBlock, argEnv, ev, sput, sputO, binK, binI, unK, builtinK, pickK, Nat.reduceBEq, Nat.reduceAdd, Int.reduceBEq, Int.reduceBNe, Int.reduceLT, aPost, resK, tup, tyf, loadF c6, loadF c8, callK, List.nil_append, List.append_nil, List.toList_toArray, List.cons_append]
          refine ⟨_, _, sc, rfl, _, _, tc _, rfl, _, _, pl _, rfl, ?_⟩
          simp only [qV, frV, storeF c6 rfl]
          refine hB [(0, u), (1, v), (4, .pointer (some ⟨h.length, 0, none⟩)), (5, .int .i64 0), (6, .pointer (some ⟨h.length + 1, 0, none⟩)), (26, v), (27, vint b.length), (28, vint (k : Nat))] _ _ ?_ (by simp (maxSteps := 2000000) only [↓aw_region, ↓aw_skip, ↓aw_seq, ↓aw_block, ↓aw_exit, ↓aw_ret, ↓sops_nil, ↓sops_go, ↓dops_nil, ↓dopsX_nil, ↓dopsR_nil, ↓vdn, vup, extr_20, extr_21, extr_30, extr_31, extr_32, List.map_cons, List.map_nil, cond_true, cond_false, aop, aThen, aBlock, argEnv, ev, sput, sputO, binK, binI, unK, builtinK, pickK, Nat.reduceBEq, Nat.reduceAdd, Int.reduceBEq, Int.reduceBNe, Int.reduceLT, aPost, resK, tup, tyf])
          clear hB
          try clear B
          refine aw_aws ?_
          simp (maxSteps := 2000000) only [s31, ↓aw_region, ↓aw_skip, ↓aw_seq, ↓aw_block, ↓aw_exit, ↓aw_ret, ↓sops_nil, ↓sops_go, ↓dops_nil, ↓dopsX_nil, ↓dopsR_nil, ↓vdn, vup, extr_20, extr_21, extr_30, extr_31, extr_32, List.map_cons, List.map_nil, cond_true, cond_false, aop, aThen, aBlock, argEnv, ev, sput, sputO, binK, binI, unK, builtinK, pickK, Nat.reduceBEq, Nat.reduceAdd, Int.reduceBEq, Int.reduceBNe, Int.reduceLT, aPost, resK, tup, tyf, add1 (show k < 9223372036854775807 by omega)]
          exact hQ2 _ _ _ ⟨(k + 1, H.set (h.length + 1) (fC q.num q.den)), ⟨hk', hEH.set_ge (by omega) _, by rw [List.getElem?_set_ne (by omega)]; exact c4, by simp only; rw [hqq]; exact get_set (get_lt c6) _⟩, by simp only; omega, by simp (maxSteps := 2000000) only [↓aw_region, ↓aw_skip, ↓aw_seq, ↓aw_block, ↓aw_exit, ↓aw_ret, ↓sops_nil, ↓sops_go, ↓dops_nil, ↓dopsX_nil, ↓dopsR_nil, ↓vdn, vup, extr_20, extr_21, extr_30, extr_31, extr_32, List.map_cons, List.map_nil, cond_true, cond_false, aop, aThen, aBlock, argEnv, ev, sput, sputO, binK, binI, unK, builtinK, pickK, Nat.reduceBEq, Nat.reduceAdd, Int.reduceBEq, Int.reduceBNe, Int.reduceLT, aPost, resK, tup, tyf], rfl⟩
        · obtain rfl : k = b.length := by omega
          refine aws_cut fun N7 hN7 => ?_
          simp (maxSteps := 2000000) only [s31, ↓aw_region, ↓aw_skip, ↓aw_seq, ↓aw_block, ↓aw_exit, ↓aw_ret, ↓sops_nil, ↓sops_go, ↓dops_nil, ↓dopsX_nil, ↓dopsR_nil, ↓vdn, vup, extr_20, extr_21, extr_30, extr_31, extr_32, List.map_cons, List.map_nil, cond_true, cond_false, aop, aThen, aBlock, argEnv, ev, sput, sputO, binK, binI, unK, builtinK, pickK, Nat.reduceBEq, Nat.reduceAdd, Int.reduceBEq, Int.reduceBNe, Int.reduceLT, aPost, resK, tup, tyf, hin]
          refine hN7 [(0, u), (1, v), (4, .pointer (some ⟨h.length, 0, none⟩)), (5, .int .i64 0), (6, .pointer (some ⟨h.length + 1, 0, none⟩)), (26, v), (27, vint b.length), (28, vint b.length), (29, .bool false)] _ _ ?_ (by simp (maxSteps := 2000000) only [↓aw_region, ↓aw_skip, ↓aw_seq, ↓aw_block, ↓aw_exit, ↓aw_ret, ↓sops_nil, ↓sops_go, ↓dops_nil, ↓dopsX_nil, ↓dopsR_nil, ↓vdn, vup, extr_20, extr_21, extr_30, extr_31, extr_32, List.map_cons, List.map_nil, cond_true, cond_false, aop, aThen, aBlock, argEnv, ev, sput, sputO, binK, binI, unK, builtinK, pickK, Nat.reduceBEq, Nat.reduceAdd, Int.reduceBEq, Int.reduceBNe, Int.reduceLT, aPost, resK, tup, tyf])
          clear hN7
          try clear N7
          refine aws_cut fun N8 hN8 => ?_
          simp (maxSteps := 2000000) only [s31, ↓aw_region, ↓aw_skip, ↓aw_seq, ↓aw_block, ↓aw_exit, ↓aw_ret, ↓sops_nil, ↓sops_go, ↓dops_nil, ↓dopsX_nil, ↓dopsR_nil, ↓vdn, vup, extr_20, extr_21, extr_30, extr_31, extr_32, List.map_cons, List.map_nil, cond_true, cond_false, aop, aThen, aBlock, argEnv, ev, sput, sputO, binK, binI, unK, builtinK, pickK, Nat.reduceBEq, Nat.reduceAdd, Int.reduceBEq, Int.reduceBNe, Int.reduceLT, aPost, resK, tup, tyf]
          refine hQ2 _ _ _ (hQ _ _ _ ?_)
          simp (maxSteps := 2000000) only [s31, ↓aw_region, ↓aw_skip, ↓aw_seq, ↓aw_block, ↓aw_exit, ↓aw_ret, ↓sops_nil, ↓sops_go, ↓dops_nil, ↓dopsX_nil, ↓dopsR_nil, ↓vdn, vup, extr_20, extr_21, extr_30, extr_31, extr_32, List.map_cons, List.map_nil, cond_true, cond_false, aop, aThen, aBlock, argEnv, ev, sput, sputO, binK, binI, unK, builtinK, pickK, Nat.reduceBEq, Nat.reduceAdd, Int.reduceBEq, Int.reduceBNe, Int.reduceLT, aPost, resK, tup, tyf, if_true]
          refine hZ [(0, u), (1, v), (4, .pointer (some ⟨h.length, 0, none⟩)), (5, .int .i64 0), (6, .pointer (some ⟨h.length + 1, 0, none⟩)), (26, v), (27, vint b.length), (28, vint b.length), (29, .bool false)] _ _ ?_ (by simp (maxSteps := 2000000) only [↓aw_region, ↓aw_skip, ↓aw_seq, ↓aw_block, ↓aw_exit, ↓aw_ret, ↓sops_nil, ↓sops_go, ↓dops_nil, ↓dopsX_nil, ↓dopsR_nil, ↓vdn, vup, extr_20, extr_21, extr_30, extr_31, extr_32, List.map_cons, List.map_nil, cond_true, cond_false, aop, aThen, aBlock, argEnv, ev, sput, sputO, binK, binI, unK, builtinK, pickK, Nat.reduceBEq, Nat.reduceAdd, Int.reduceBEq, Int.reduceBNe, Int.reduceLT, aPost, resK, tup, tyf])
          clear hZ
          try clear Z
          rw [← meanQ] at k6
          obtain ⟨q, hqq⟩ : ∃ q, meanQ f b = q := ⟨_, rfl⟩
          rw [hqq] at k6 hR
          refine aw_aws ?_
          simp (maxSteps := 2000000) only [s31, ↓aw_region, ↓aw_skip, ↓aw_seq, ↓aw_block, ↓aw_exit, ↓aw_ret, ↓sops_nil, ↓sops_go, ↓dops_nil, ↓dopsX_nil, ↓dopsR_nil, ↓vdn, vup, extr_20, extr_21, extr_30, extr_31, extr_32, List.map_cons, List.map_nil, cond_true, cond_false, aop, aThen, aBlock, argEnv, ev, sput, sputO, binK, binI, unK, builtinK, pickK, Nat.reduceBEq, Nat.reduceAdd, Int.reduceBEq, Int.reduceBNe, Int.reduceLT, aPost, resK, tup, tyf, loadF k6, storeF k4 rfl, loadF (get_set (get_lt k4) _)]
          exact ⟨hR, hEp.set_ge (Nat.le_refl _) _⟩
      · have hne : (((f.length : Nat) : Int) != ((b.length : Nat) : Int)) = true := by
          have : ¬ ((f.length : Nat) : Int) = ((b.length : Nat) : Int) := by omega
          simpa [bne] using this
        simp (maxSteps := 2000000) only [s31, ↓aw_region, ↓aw_skip, ↓aw_seq, ↓aw_block, ↓aw_exit, ↓aw_ret, ↓sops_nil, ↓sops_go, ↓dops_nil, ↓dopsX_nil, ↓dopsR_nil, ↓vdn, vup, extr_20, extr_21, extr_30, extr_31, extr_32, List.map_cons, List.map_nil, cond_true, cond_false, aop, aThen, aBlock, argEnv, ev, sput, sputO, binK, binI, unK, builtinK, pickK, Nat.reduceBEq, Nat.reduceAdd, Int.reduceBEq, Int.reduceBNe, Int.reduceLT, aPost, resK, tup, tyf, Bool.not_true, huH.len, hvH.len, hne, bldF0, List.map_toArray, storeF c4 rfl, loadF (get_set (get_lt c4) _)]
        rw [← hR, if_neg (by simp [hl])]
        exact ⟨rfl, hE.set_ge (Nat.le_refl _) _⟩
end Go.Proofs.Try.Am

namespace Go.Proofs.Try.Am
open Go.Am Bq
set_option maxRecDepth 100000
set_option maxHeartbeats 1000000

end Go.Proofs.Try.Am

namespace Go.Proofs.Try.Am
open Go.Am
set_option maxRecDepth 100000
/-! 5: planchet planchetlaw09.BetsProper -/
@[reducible] def q5_0 : SCode := .region [⟨some 4, .assign (.const (.bool false)), none⟩]
@[reducible] def q5_1 : SCode := .region [⟨some 18, .move (.tmp 0), none⟩,
    ⟨some 19, .call { callee := .value (.func 32), args := #[.tmp 18], argTypes := #[47] }, none⟩,
    ⟨some 20, .move (.tmp 1), none⟩,
    ⟨some 21, .call { callee := .value (.func 32), args := #[.tmp 20], argTypes := #[47] }, none⟩,
    ⟨some 22, .call { callee := .value (.func 31), args := #[.tmp 19, .tmp 21], argTypes := #[47, 47] }, none⟩,
    ⟨some 17, .move (.tmp 22), none⟩,
    ⟨some 23, .extract (.tmp 17) 0, none⟩,
    ⟨some 24, .extract (.tmp 17) 1, none⟩,
    ⟨some 5, .alloc 26, none⟩,
    ⟨none, .store 26 (.tmp 5) (.tmp 23), none⟩,
    ⟨some 6, .assign (.tmp 24), none⟩]
@[reducible] def q5_2 : SCode := .region [⟨some 26, .move (.tmp 1), none⟩,
    ⟨some 27, .call { callee := .value (.func 32), args := #[.tmp 26], argTypes := #[47] }, none⟩,
    ⟨some 28, .move (.tmp 1), none⟩,
    ⟨some 29, .call { callee := .value (.func 32), args := #[.tmp 28], argTypes := #[47] }, none⟩,
    ⟨some 30, .call { callee := .value (.func 31), args := #[.tmp 27, .tmp 29], argTypes := #[47, 47] }, none⟩,
    ⟨some 25, .move (.tmp 30), none⟩,
    ⟨some 31, .extract (.tmp 25) 0, none⟩,
    ⟨some 32, .extract (.tmp 25) 1, none⟩,
    ⟨some 7, .alloc 26, none⟩,
    ⟨none, .store 26 (.tmp 7) (.tmp 31), none⟩,
    ⟨some 8, .assign (.tmp 32), none⟩]
@[reducible] def q5_3 : SCode := .region [⟨some 33, .move (.tmp 6), none⟩,
    ⟨some 34, .binOp .neq 27 (.tmp 33) (.const (.int .i64 0)) 27, none⟩,
    ⟨some 35, .move (.tmp 34), none⟩,
    ⟨some 36, .move (.tmp 8), some (35, false)⟩,
    ⟨some 37, .binOp .neq 27 (.tmp 36) (.const (.int .i64 0)) 27, some (35, false)⟩,
    ⟨some 38, .pick (.tmp 35) (.const (.bool true)) (.tmp 37), none⟩,
    ⟨some 39, .move (.tmp 38), none⟩,
    ⟨some 40, .move (.tmp 0), some (39, false)⟩,
    ⟨some 41, .call { callee := .value (.func 33), args := #[.tmp 40], argTypes := #[47] }, some (39, false)⟩,
    ⟨some 42, .unOp .not 4 (.tmp 41), some (39, false)⟩,
    ⟨some 43, .pick (.tmp 39) (.const (.bool true)) (.tmp 42), none⟩,
    ⟨some 44, .move (.tmp 43), none⟩,
    ⟨some 45, .move (.tmp 1), some (44, false)⟩,
    ⟨some 46, .call { callee := .value (.func 33), args := #[.tmp 45], argTypes := #[47] }, some (44, false)⟩,
    ⟨some 47, .unOp .not 4 (.tmp 46), some (44, false)⟩,
    ⟨some 48, .pick (.tmp 44) (.const (.bool true)) (.tmp 47), none⟩,
    ⟨some 49, .move (.tmp 48), none⟩,
    ⟨some 50, .move (.tmp 0), some (49, false)⟩,
    ⟨some 51, .call { callee := .builtin .len, args := #[.tmp 50], argTypes := #[47] }, some (49, false)⟩,
    ⟨some 52, .move (.tmp 1), some (49, false)⟩,
    ⟨some 53, .call { callee := .builtin .len, args := #[.tmp 52], argTypes := #[47] }, some (49, false)⟩,
    ⟨some 54, .binOp .neq 3 (.tmp 51) (.tmp 53) 3, some (49, false)⟩,
    ⟨some 55, .pick (.tmp 49) (.const (.bool true)) (.tmp 54), none⟩]
@[reducible] def q5_4 : SCode := .region [⟨some 56, .move (.tmp 6), none⟩,
    ⟨some 57, .binOp .eql 27 (.tmp 56) (.const (.int .i64 2)) 27, none⟩,
    ⟨some 58, .move (.tmp 57), none⟩,
    ⟨some 59, .call { callee := .value (.func 21), args := #[], argTypes := #[] }, some (58, true)⟩,
    ⟨some 60, .pick (.tmp 58) (.tmp 59) (.const (.bool false)), none⟩,
    ⟨some 4, .assign (.tmp 60), none⟩]
@[reducible] def q5_5 : SCode := .region [⟨some 61, .move (.tmp 0), none⟩,
    ⟨some 62, .call { callee := .value (.func 32), args := #[.tmp 61], argTypes := #[47] }, none⟩,
    ⟨some 63, .move (.tmp 1), none⟩,
    ⟨some 64, .call { callee := .value (.func 32), args := #[.tmp 63], argTypes := #[47] }, none⟩,
    ⟨some 65, .call { callee := .builtin .append, args := #[.tmp 62, .tmp 64], argTypes := #[47, 47] }, none⟩,
    ⟨some 66, .call { callee := .value (.func 34), args := #[.tmp 65], argTypes := #[47] }, none⟩,
    ⟨some 9, .assign (.tmp 66), none⟩]
@[reducible] def q5_6 : SCode := .region [⟨some 67, .fieldAddr 26 (.tmp 5) 1, none⟩,
    ⟨some 68, .load 3 (.tmp 67), none⟩,
    ⟨some 69, .binOp .lss 3 (.tmp 68) (.const (.int .i64 1)) 3, none⟩,
    ⟨some 70, .move (.tmp 69), none⟩,
    ⟨some 71, .fieldAddr 26 (.tmp 7) 1, some (70, false)⟩,
    ⟨some 72, .load 3 (.tmp 71), some (70, false)⟩,
    ⟨some 73, .binOp .lss 3 (.tmp 72) (.const (.int .i64 1)) 3, some (70, false)⟩,
    ⟨some 74, .pick (.tmp 70) (.const (.bool true)) (.tmp 73), none⟩]
@[reducible] def q5_7 : SCode := .region [⟨some 4, .assign (.const (.bool false)), none⟩]
@[reducible] def q5_8 : SCode := .region [⟨some 75, .move (.tmp 9), none⟩,
    ⟨some 76, .binOp .eql 3 (.tmp 75) (.const (.int .i64 0)) 3, none⟩,
    ⟨some 77, .move (.tmp 76), none⟩,
    ⟨some 78, .move (.tmp 9), some (77, false)⟩,
    ⟨some 79, .binOp .gtr 3 (.tmp 78) (.const (.int .i64 1000)) 3, some (77, false)⟩,
    ⟨some 80, .pick (.tmp 77) (.const (.bool true)) (.tmp 79), none⟩]
@[reducible] def q5_9 : SCode := .region [⟨some 81, .call { callee := .value (.func 21), args := #[], argTypes := #[] }, none⟩,
    ⟨some 4, .assign (.tmp 81), none⟩]
@[reducible] def q5_10 : SCode := .region [⟨some 82, .fieldAddr 26 (.tmp 5) 1, none⟩,
    ⟨some 83, .load 3 (.tmp 82), none⟩,
    ⟨some 84, .binOp .gtr 3 (.tmp 83) (.const (.int .i64 1000000000)) 3, none⟩,
    ⟨some 85, .move (.tmp 84), none⟩,
    ⟨some 86, .fieldAddr 26 (.tmp 7) 1, some (85, false)⟩,
    ⟨some 87, .load 3 (.tmp 86), some (85, false)⟩,
    ⟨some 88, .binOp .gtr 3 (.tmp 87) (.const (.int .i64 1000000000)) 3, some (85, false)⟩,
    ⟨some 89, .pick (.tmp 85) (.const (.bool true)) (.tmp 88), none⟩,
    ⟨some 90, .move (.tmp 89), none⟩,
    ⟨some 91, .fieldAddr 26 (.tmp 5) 0, some (90, false)⟩,
    ⟨some 92, .load 3 (.tmp 91), some (90, false)⟩,
    ⟨some 93, .fieldAddr 26 (.tmp 5) 1, some (90, false)⟩,
    ⟨some 94, .load 3 (.tmp 93), some (90, false)⟩,
    ⟨some 95, .binOp .gtr 3 (.tmp 92) (.tmp 94) 3, some (90, false)⟩,
    ⟨some 96, .pick (.tmp 90) (.const (.bool true)) (.tmp 95), none⟩,
    ⟨some 97, .move (.tmp 96), none⟩,
    ⟨some 98, .fieldAddr 26 (.tmp 5) 0, some (97, false)⟩,
    ⟨some 99, .load 3 (.tmp 98), some (97, false)⟩,
    ⟨some 100, .fieldAddr 26 (.tmp 5) 1, some (97, false)⟩,
    ⟨some 101, .load 3 (.tmp 100), some (97, false)⟩,
    ⟨some 102, .unOp .neg 3 (.tmp 101), some (97, false)⟩,
    ⟨some 103, .binOp .lss 3 (.tmp 99) (.tmp 102) 3, some (97, false)⟩,
    ⟨some 104, .pick (.tmp 97) (.const (.bool true)) (.tmp 103), none⟩,
    ⟨some 105, .move (.tmp 104), none⟩,
    ⟨some 106, .fieldAddr 26 (.tmp 7) 0, some (105, false)⟩,
    ⟨some 107, .load 3 (.tmp 106), some (105, false)⟩,
    ⟨some 108, .fieldAddr 26 (.tmp 7) 1, some (105, false)⟩,
    ⟨some 109, .load 3 (.tmp 108), some (105, false)⟩,
    ⟨some 110, .binOp .gtr 3 (.tmp 107) (.tmp 109) 3, some (105, false)⟩,
    ⟨some 111, .pick (.tmp 105) (.const (.bool true)) (.tmp 110), none⟩,
    ⟨some 112, .move (.tmp 111), none⟩,
    ⟨some 113, .fieldAddr 26 (.tmp 7) 0, some (112, false)⟩,
    ⟨some 114, .load 3 (.tmp 113), some (112, false)⟩,
    ⟨some 115, .fieldAddr 26 (.tmp 7) 1, some (112, false)⟩,
    ⟨some 116, .load 3 (.tmp 115), some (112, false)⟩,
    ⟨some 117, .unOp .neg 3 (.tmp 116), some (112, false)⟩,
    ⟨some 118, .binOp .lss 3 (.tmp 114) (.tmp 117) 3, some (112, false)⟩,
    ⟨some 119, .pick (.tmp 112) (.const (.bool true)) (.tmp 118), none⟩]
@[reducible] def q5_11 : SCode := .region [⟨some 4, .assign (.const (.bool false)), none⟩]
@[reducible] def q5_12 : SCode := .region [⟨some 10, .assign (.const (.int .i64 0)), none⟩]
@[reducible] def q5_13 : SCode := .region [⟨some 120, .move (.tmp 0), none⟩,
    ⟨some 121, .call { callee := .builtin .len, args := #[.tmp 120], argTypes := #[47] }, none⟩,
    ⟨some 122, .move (.const (.int .i64 0)), none⟩]
@[reducible] def q5_14 : SCode := .region [⟨some 123, .binOp .lss 3 (.tmp 122) (.tmp 121) 3, none⟩]
@[reducible] def q5_15 : SCode := .region [⟨some 124, .move (.tmp 122), none⟩,
    ⟨some 11, .assign (.tmp 124), none⟩]
def q5_16 : SCode := .draw [⟨some 125, .move (.tmp 9), none⟩,
    ⟨some 126, .move (.tmp 0), none⟩,
    ⟨some 127, .move (.tmp 11), none⟩,
    ⟨some 128, .indexAddr 47 (.tmp 126) (.tmp 127), none⟩,
    ⟨some 129, .fieldAddr 26 (.tmp 128) 1, none⟩,
    ⟨some 130, .load 3 (.tmp 129), none⟩,
    ⟨some 131, .binOp .quo 3 (.tmp 125) (.tmp 130) 3, none⟩,
    ⟨some 132, .move (.tmp 0), none⟩,
    ⟨some 133, .move (.tmp 11), none⟩,
    ⟨some 134, .indexAddr 47 (.tmp 132) (.tmp 133), none⟩,
    ⟨some 135, .fieldAddr 26 (.tmp 134) 0, none⟩,
    ⟨some 136, .load 3 (.tmp 135), none⟩,
    ⟨some 137, .binOp .mul 3 (.tmp 131) (.tmp 136) 3, none⟩,
    ⟨some 138, .move (.tmp 9), none⟩,
    ⟨some 139, .move (.tmp 1), none⟩,
    ⟨some 140, .move (.tmp 11), none⟩,
    ⟨some 141, .indexAddr 47 (.tmp 139) (.tmp 140), none⟩,
    ⟨some 142, .fieldAddr 26 (.tmp 141) 1, none⟩,
    ⟨some 143, .load 3 (.tmp 142), none⟩,
    ⟨some 144, .binOp .quo 3 (.tmp 138) (.tmp 143) 3, none⟩,
    ⟨some 145, .move (.tmp 1), none⟩,
    ⟨some 146, .move (.tmp 11), none⟩,
    ⟨some 147, .indexAddr 47 (.tmp 145) (.tmp 146), none⟩,
    ⟨some 148, .fieldAddr 26 (.tmp 147) 0, none⟩,
    ⟨some 149, .load 3 (.tmp 148), none⟩,
    ⟨some 150, .binOp .mul 3 (.tmp 144) (.tmp 149) 3, none⟩,
    ⟨some 151, .binOp .sub 3 (.tmp 137) (.tmp 150) 3, none⟩,
    ⟨some 12, .assign (.tmp 151), none⟩]
   [[], [], [], [1, 2], [3], [4], [0, 5], [], [], [7, 8], [9], [10], [6, 11], [], [], [], [14, 15], [16], [17], [13, 18], [], [], [20, 21], [22], [23], [19, 24], [12, 25], [26, 0, 1, 2, 3, 4, 5, 6, 7, 8, 9, 10, 11, 12, 13, 14, 15, 16, 17, 18, 19, 20, 21, 22, 23, 24, 25, 26]]
@[reducible] def q5_17 : SCode := .region [⟨some 152, .move (.tmp 10), none⟩,
    ⟨some 153, .move (.tmp 12), none⟩,
    ⟨some 154, .move (.tmp 12), none⟩,
    ⟨some 155, .binOp .mul 3 (.tmp 153) (.tmp 154) 3, none⟩,
    ⟨some 156, .binOp .add 3 (.tmp 152) (.tmp 155) 3, none⟩,
    ⟨some 10, .assign (.tmp 156), none⟩]
@[reducible] def q5_18 : SCode := .region [⟨some 157, .binOp .add 3 (.tmp 122) (.const (.int .i64 1)) 3, none⟩,
    ⟨some 122, .move (.tmp 157), none⟩]
def l5_0 : SCode := (.seq q5_14 (.seq (.cond (.tmp 123) .skip (.exit 0)) (.seq (.block 1 (.seq q5_15 (.seq q5_16 q5_17))) q5_18)))
@[reducible] def q5_19 : SCode := .region [⟨some 158, .move (.tmp 10), none⟩,
    ⟨some 159, .binOp .eql 3 (.tmp 158) (.const (.int .i64 0)) 3, none⟩,
    ⟨some 160, .move (.tmp 0), none⟩,
    ⟨some 161, .move (.tmp 1), none⟩,
    ⟨some 162, .call { callee := .value (.func 35), args := #[.tmp 160, .tmp 161], argTypes := #[47, 47] }, none⟩,
    ⟨some 163, .binOp .neq 4 (.tmp 159) (.tmp 162) 4, none⟩,
    ⟨some 164, .move (.tmp 163), none⟩,
    ⟨some 165, .load 26 (.tmp 7), some (164, false)⟩,
    ⟨some 166, .load 26 (.tmp 5), some (164, false)⟩,
    ⟨some 167, .call { callee := .value (.func 23), args := #[.tmp 165, .tmp 166], argTypes := #[26, 26] }, some (164, false)⟩,
    ⟨some 168, .pick (.tmp 164) (.const (.bool true)) (.tmp 167), none⟩]
@[reducible] def q5_20 : SCode := .region [⟨some 4, .assign (.const (.bool false)), none⟩]
def q5_21 : SCode := .draw [⟨some 169, .fieldAddr 26 (.tmp 7) 0, none⟩,
    ⟨some 170, .load 3 (.tmp 169), none⟩,
    ⟨some 171, .fieldAddr 26 (.tmp 5) 1, none⟩,
    ⟨some 172, .load 3 (.tmp 171), none⟩,
    ⟨some 173, .binOp .mul 3 (.tmp 170) (.tmp 172) 3, none⟩,
    ⟨some 174, .fieldAddr 26 (.tmp 5) 0, none⟩,
    ⟨some 175, .load 3 (.tmp 174), none⟩,
    ⟨some 176, .fieldAddr 26 (.tmp 7) 1, none⟩,
    ⟨some 177, .load 3 (.tmp 176), none⟩,
    ⟨some 178, .binOp .mul 3 (.tmp 175) (.tmp 177) 3, none⟩,
    ⟨some 179, .binOp .sub 3 (.tmp 173) (.tmp 178) 3, none⟩,
    ⟨some 180, .fieldAddr 26 (.tmp 5) 1, none⟩,
    ⟨some 181, .load 3 (.tmp 180), none⟩,
    ⟨some 182, .fieldAddr 26 (.tmp 7) 1, none⟩,
    ⟨some 183, .load 3 (.tmp 182), none⟩,
    ⟨some 184, .binOp .mul 3 (.tmp 181) (.tmp 183) 3, none⟩,
    ⟨some 13, .assign (.tmp 179), none⟩,
    ⟨some 14, .assign (.tmp 184), none⟩]
   [[], [0], [], [2], [1, 3], [], [5], [], [7], [6, 8], [4, 9], [], [11], [], [13], [12, 14], [10, 0, 1, 2, 3, 4, 5, 6, 7, 8, 9, 10], [15, 16, 0, 1, 2, 3, 4, 5, 6, 7, 8, 9, 10, 11, 12, 13, 14, 15, 16]]
@[reducible] def q5_22 : SCode := .region [⟨some 185, .move (.tmp 13), none⟩,
    ⟨some 186, .move (.tmp 13), none⟩,
    ⟨some 187, .unOp .neg 3 (.tmp 186), none⟩,
    ⟨some 188, .call { callee := .builtin .max, args := #[.tmp 185, .tmp 187], argTypes := #[3, 3] }, none⟩,
    ⟨some 189, .move (.tmp 14), none⟩,
    ⟨some 15, .assign (.tmp 188), none⟩,
    ⟨some 16, .assign (.tmp 189), none⟩]
@[reducible] def q5_23 : SCode := .region [⟨some 190, .move (.tmp 16), none⟩,
    ⟨some 191, .binOp .neq 3 (.tmp 190) (.const (.int .i64 0)) 3, none⟩]
def q5_24 : SCode := .draw [⟨some 192, .move (.tmp 16), none⟩,
    ⟨some 193, .move (.tmp 15), none⟩,
    ⟨some 194, .move (.tmp 16), none⟩,
    ⟨some 195, .binOp .rem 3 (.tmp 193) (.tmp 194) 3, none⟩,
    ⟨some 15, .assign (.tmp 192), none⟩,
    ⟨some 16, .assign (.tmp 195), none⟩]
   [[], [], [], [1, 2], [0, 0, 1], [3, 4, 0, 1, 2, 3, 4]]
def l5_1 : SCode := (.seq (.seq q5_23 (.cond (.tmp 191) .skip (.exit 2))) (.block 3 q5_24))
def q5_25 : SCode := .draw [⟨some 196, .move (.tmp 13), none⟩,
    ⟨some 197, .move (.tmp 15), none⟩,
    ⟨some 198, .binOp .quo 3 (.tmp 196) (.tmp 197) 3, none⟩,
    ⟨some 199, .move (.tmp 14), none⟩,
    ⟨some 200, .move (.tmp 15), none⟩,
    ⟨some 201, .binOp .quo 3 (.tmp 199) (.tmp 200) 3, none⟩,
    ⟨some 13, .assign (.tmp 198), none⟩,
    ⟨some 14, .assign (.tmp 201), none⟩]
   [[], [], [0, 1], [], [], [3, 4], [2, 0, 1, 2], [5, 6, 0, 1, 2, 3, 4, 5, 6]]
@[reducible] def q5_26 : SCode := .region [⟨some 202, .move (.tmp 9), none⟩,
    ⟨some 203, .move (.tmp 9), none⟩,
    ⟨some 204, .binOp .mul 3 (.tmp 202) (.tmp 203) 3, none⟩,
    ⟨some 205, .move (.tmp 14), none⟩,
    ⟨some 206, .binOp .rem 3 (.tmp 204) (.tmp 205) 3, none⟩,
    ⟨some 207, .binOp .eql 3 (.tmp 206) (.const (.int .i64 0)) 3, none⟩,
    ⟨some 208, .move (.tmp 207), none⟩,
    ⟨some 209, .move (.tmp 9), some (208, true)⟩,
    ⟨some 210, .move (.tmp 9), some (208, true)⟩,
    ⟨some 211, .binOp .mul 3 (.tmp 209) (.tmp 210) 3, some (208, true)⟩,
    ⟨some 212, .move (.tmp 14), some (208, true)⟩,
    ⟨some 213, .binOp .quo 3 (.tmp 211) (.tmp 212) 3, some (208, true)⟩,
    ⟨some 214, .move (.tmp 13), some (208, true)⟩,
    ⟨some 215, .binOp .mul 3 (.tmp 213) (.tmp 214) 3, some (208, true)⟩,
    ⟨some 216, .move (.tmp 10), some (208, true)⟩,
    ⟨some 217, .binOp .eql 3 (.tmp 215) (.tmp 216) 3, some (208, true)⟩,
    ⟨some 218, .pick (.tmp 208) (.tmp 217) (.const (.bool false)), none⟩,
    ⟨some 219, .move (.tmp 218), none⟩,
    ⟨some 220, .call { callee := .value (.func 21), args := #[], argTypes := #[] }, some (219, true)⟩,
    ⟨some 221, .pick (.tmp 219) (.tmp 220) (.const (.bool false)), none⟩,
    ⟨some 4, .assign (.tmp 221), none⟩]
def s5 : SCode := (.seq q5_0 (.seq q5_1 (.seq q5_2 (.seq (.seq q5_3 (.cond (.tmp 55) (.seq q5_4 .ret) .skip)) (.seq q5_5 (.seq (.seq q5_6 (.cond (.tmp 74) (.seq q5_7 .ret) .skip)) (.seq (.seq q5_8 (.cond (.tmp 80) (.seq q5_9 .ret) .skip)) (.seq (.seq q5_10 (.cond (.tmp 119) (.seq q5_11 .ret) .skip)) (.seq q5_12 (.seq (.seq q5_13 (.block 0 (.loop l5_0))) (.seq (.seq q5_19 (.cond (.tmp 168) (.seq q5_20 .ret) .skip)) (.seq q5_21 (.seq q5_22 (.seq (.block 2 (.loop l5_1)) (.seq q5_25 (.seq q5_26 .ret))))))))))))))))
theorem s5_strip : stripC (bodyOf Try.f5) = s5 := by kernel_rfl
theorem s5_ok : codeOK 222 (bodyOf Try.f5) = true := by kernel_rfl
end Go.Proofs.Try.Am

namespace Bq
theorem num_le {q : Rat} (h : q ≤ 1) : q.num ≤ (q.den : Int) := by
  have := (Rat.le_iff q 1).1 h
  simpa using this
theorem num_ge {q : Rat} (h : -1 ≤ q) : -(q.den : Int) ≤ q.num := by
  have := (Rat.le_iff (-1) q).1 h
  have e1 : (-1 : Rat).num = -1 := by decide
  have e2 : (-1 : Rat).den = 1 := by decide
  rw [e1, e2] at this
  omega
theorem mean_dot {f b : List (Int × Int)} (cf : Fc f) (cb : Fc b) (hl : f.length = b.length) :
    meanQ f b = 2 * sumTo (fun i => fq f i * fq b i) f.length - sumTo (fun i => fq f i * fq f i) f.length := by
  have e1 : ∀ k, meanTo f b k = 2 * sumTo (fun i => fq f i * fq b i) k - sumTo (fq b) k * sumTo (fun i => fq f i * fq f i) f.length := by
    intro k
    induction k with
    | zero => simp only [meanTo, sumTo]; grind
    | succ k ih =>
      have hs : scoreQ f k = 2 * fq f k - sumTo (fun i => fq f i * fq f i) f.length := rfl
      have e3 : meanTo f b (k + 1) = meanTo f b k + fq b k * scoreQ f k := rfl
      rw [e3, ih, hs]
      simp only [sumTo]
      generalize sumTo (fun i => fq f i * fq f i) f.length = S
      generalize sumTo (fun i => fq f i * fq b i) k = D
      grind
  rw [meanQ, e1, cb.sum, hl]; grind
theorem gap_eq {f b : List (Int × Int)} (cf : Fc f) (cb : Fc b) (hl : f.length = b.length) :
    meanQ b b - meanQ f b = sumTo (fun i => (fq f i - fq b i) * (fq f i - fq b i)) f.length := by
  rw [mean_dot cf cb hl, mean_dot cb cb rfl, ← hl]
  have e : ∀ k, sumTo (fun i => (fq f i - fq b i) * (fq f i - fq b i)) k = sumTo (fun i => fq f i * fq f i) k - 2 * sumTo (fun i => fq f i * fq b i) k + sumTo (fun i => fq b i * fq b i) k := by
    intro k
    induction k with
    | zero => simp only [sumTo]; grind
    | succ k ih => rw [sumTo, ih]; simp only [sumTo]; grind
  rw [e]; grind
/-- The difference in whole parts. -/
def difX (f b : List (Int × Int)) (M : Nat) (k : Nat) : Int := (M : Int) / (f.getD k (0, 0)).2 * (f.getD k (0, 0)).1 - (M : Int) / (b.getD k (0, 0)).2 * (b.getD k (0, 0)).1
def difTo (f b : List (Int × Int)) (M : Nat) : Nat → Int
  | 0 => 0
  | k + 1 => difTo f b M k + difX f b M k * difX f b M k
section
variable {f b : List (Int × Int)} (c : Chn (f ++ b)) (hl : f.length = b.length)
include c hl
theorem difX_rp {k : Nat} (hk : k < f.length) : Rp (mult (f ++ b)) (difX f b (mult (f ++ b)) k) (fq f k - fq b k) ∧ (difX f b (mult (f ++ b)) k).natAbs ≤ mult (f ++ b) := by
  have h1 := c.rp (List.mem_append_left b (getD_mem hk))
  have h2 := c.rp (List.mem_append_right f (getD_mem (ps := b) (k := k) (by omega)))
  obtain ⟨r1, a1, a2, _⟩ := h1
  obtain ⟨r2, b1, b2, _⟩ := h2
  have r := r1.plus r2 (-1)
  have e : toQ (f.getD k (0, 0)) + ((-1 : Int) : Rat) * toQ (b.getD k (0, 0)) = fq f k - fq b k := by
    rw [show (((-1 : Int)) : Rat) = -1 from rfl, fq, fq]; grind
  rw [e] at r
  have e2 : (mult (f ++ b) : Int) / (f.getD k (0, 0)).2 * (f.getD k (0, 0)).1 + (-1) * ((mult (f ++ b) : Int) / (b.getD k (0, 0)).2 * (b.getD k (0, 0)).1) = difX f b (mult (f ++ b)) k := by
    rw [difX]; omega
  rw [e2] at r
  refine ⟨r, ?_⟩
  rw [difX]; omega
theorem difTo_rp (hm : mult (f ++ b) ≤ 1000) : ∀ k, k ≤ f.length → Rp (mult (f ++ b) * mult (f ++ b)) (difTo f b (mult (f ++ b)) k) (sumTo (fun i => (fq f i - fq b i) * (fq f i - fq b i)) k) ∧ 0 ≤ difTo f b (mult (f ++ b)) k ∧ difTo f b (mult (f ++ b)) k ≤ k * 1000000
  | 0, _ => ⟨⟨Nat.mul_pos (Nat.pos_of_ne_zero c.m) (Nat.pos_of_ne_zero c.m), by rw [sumTo, difTo]; simp only [Rat.zero_mul]; rfl⟩, Int.le_refl 0, by rw [difTo]; omega⟩
  | k + 1, hk => by
    obtain ⟨h1, h2, h3⟩ := difTo_rp hm k (by omega)
    obtain ⟨r, hb⟩ := difX_rp c hl (show k < f.length by omega)
    have r2 := h1.plus (r.mul r) 1
    rw [show (((1 : Int)) : Rat) = 1 from rfl, Rat.one_mul, Int.one_mul] at r2
    have e : ((difX f b (mult (f ++ b)) k).natAbs : Int) * (difX f b (mult (f ++ b)) k).natAbs = difX f b (mult (f ++ b)) k * difX f b (mult (f ++ b)) k := Int.natAbs_mul_self' _
    have e2 := Nat.mul_le_mul (Nat.le_trans hb hm) (Nat.le_trans hb hm)
    have e3 : ((difX f b (mult (f ++ b)) k).natAbs : Int) * (difX f b (mult (f ++ b)) k).natAbs ≤ 1000000 := by have h9 := Int.ofNat_le.2 e2; rw [Int.natCast_mul] at h9; exact Int.le_trans h9 (by decide)
    have e4 : 0 ≤ ((difX f b (mult (f ++ b)) k).natAbs : Int) * (difX f b (mult (f ++ b)) k).natAbs := by exact_mod_cast Nat.zero_le _
    rw [e] at e3 e4
    refine ⟨r2, by rw [difTo]; omega, by rw [difTo]; omega⟩
theorem dens_small (hm : mult (f ++ b) ≤ 1000) (cf : Fc f) (cb : Fc b) : (meanQ f b).den ≤ 1000000000 ∧ (meanQ b b).den ≤ 1000000000 := by
  have hle : ∀ g : List (Int × Int), (∀ p ∈ g, p ∈ f ++ b) → Fc g → mult g ≤ 1000 := by
    intro g hg cg
    rw [(mult_spec cg.c.m).2.1]
    refine Nat.le_trans (Nat.le_of_dvd (Nat.pos_of_ne_zero c.m) (foldl_lcm_least (Nat.one_dvd _) fun d hd => ?_)) hm
    obtain ⟨p, hp, rfl⟩ := List.mem_map.1 hd
    exact Int.natAbs_dvd_natAbs.2 (c.rp (hg p hp)).2.2.2.2.2
  have hf := hle f (fun p hp => List.mem_append_left _ hp) cf
  have hb := hle b (fun p hp => List.mem_append_right _ hp) cb
  have pf := Nat.pos_of_ne_zero cf.c.m
  have pb := Nat.pos_of_ne_zero cb.c.m
  have key : ∀ x y q : Nat, x ≤ 1000 → y ≤ 1000 → 0 < x → 0 < y → q ∣ x * (y * y) → q ≤ 1000000000 := by
    intro x y q hx hy px py hq
    have h1 := Nat.le_of_dvd (Nat.mul_pos px (Nat.mul_pos py py)) hq
    have h2 := Nat.mul_le_mul hx (Nat.mul_le_mul hy hy)
    omega
  exact ⟨key _ _ _ hb hf pb pf (mean_den cf cb hl (Nat.le_refl _)), key _ _ _ hb hb pb pb (mean_den cb cb rfl (Nat.le_refl _))⟩
theorem difTo_zero (hm : mult (f ++ b) ≤ 1000) (cf : Fc f) (cb : Fc b) : difTo f b (mult (f ++ b)) f.length = 0 ↔ ∀ i, i < f.length → f.getD i (0, 0) = b.getD i (0, 0) := by
  constructor
  · intro h
    have key : ∀ k, k ≤ f.length → difTo f b (mult (f ++ b)) k = 0 → ∀ i, i < k → f.getD i (0, 0) = b.getD i (0, 0) := by
      intro k
      induction k with
      | zero => intro _ _ i hi; omega
      | succ k ih =>
        intro hk hz i hi
        obtain ⟨_, h2, _⟩ := difTo_rp c hl hm k (by omega)
        obtain ⟨r, _⟩ := difX_rp c hl (show k < f.length by omega)
        rw [difTo] at hz
        have hs : 0 ≤ difX f b (mult (f ++ b)) k * difX f b (mult (f ++ b)) k := by
          rw [← Int.natAbs_mul_self' (difX f b (mult (f ++ b)) k)]; exact_mod_cast Nat.zero_le _
        have hx : difX f b (mult (f ++ b)) k = 0 := by
          have : difX f b (mult (f ++ b)) k * difX f b (mult (f ++ b)) k = 0 := by omega
          rcases Int.mul_eq_zero.1 this with h | h <;> exact h
        by_cases hik : i = k
        · subst hik
          rw [hx] at r
          have r0 : Rp (mult (f ++ b)) 0 (0 : Rat) := ⟨Nat.pos_of_ne_zero c.m, by simp⟩
          have e0 := r.uniq r0
          have e1 := cf.c.vld _ (getD_mem (k := i) (by omega))
          have e2 := cb.c.vld _ (getD_mem (k := i) (by omega))
          have e3 : toQ (f.getD i (0, 0)) = toQ (b.getD i (0, 0)) := by
            have : fq f i - fq b i = 0 := e0
            rw [fq, fq] at this; grind
          rw [← e1, ← e2, e3]
        · exact ih (by omega) (by omega) i (by omega)
    exact key _ (Nat.le_refl _) h
  · intro h
    have key : ∀ k, k ≤ f.length → difTo f b (mult (f ++ b)) k = 0 := by
      intro k
      induction k with
      | zero => intro _; rfl
      | succ k ih =>
        intro hk
        rw [difTo, ih (by omega), difX, h k (by omega)]; simp
    exact key _ (Nat.le_refl _)
end
end Bq

namespace Go.Proofs.Try.Am
open Go.Am Bq
set_option maxRecDepth 100000
set_option maxHeartbeats 4000000

theorem cloneFO_call [Tabs prog] {h : Heap} {v : Value} {ps : List (Int × Int)} (hv : PairSl h v ps) (hx : ps ≠ []) (hl : ps.length < 1099511627776) : ACall prog 57 [v] h fun r h' => OwnP 26 h' r ps ∧ Ext (fun _ => False) h h' ∧ ∀ b, blkOf r = some b → h.length ≤ b := by
  refine s57_call (by simp) ?_
  have hv' := hv
  rcases hv with ⟨rfl, rfl⟩ | ⟨b, o, sp, cap, c, e, ro, rfl, hc, hb, _⟩
  · exact absurd rfl hx
  · simp (maxSteps := 2000000) only [s57, ↓aw_region, ↓aw_skip, ↓aw_seq, ↓aw_block, ↓aw_exit, ↓aw_ret, ↓sops_nil, ↓sops_go, ↓dops_nil, ↓dopsX_nil, ↓dopsR_nil, ↓vdn, vup, extr_20, extr_21, extr_30, extr_31, extr_32, List.map_cons, List.map_nil, cond_true, cond_false, aop, aThen, aBlock, argEnv, ev, sput, sputO, binK, binI, unK, builtinK, pickK, Nat.reduceBEq, Nat.reduceAdd, Int.reduceBEq, Int.reduceBNe, Int.reduceLT, aPost, resK, tup, tyf, Option.isSome_some]
    simp only [buildSliceK, el_47, zero_26, esz_26, reps, fillL, mkb, intsOf]
    refine And.intro rfl (And.intro (by decide) (And.intro (Nat.zero_le _) ?_))
    refine (hv'.grow [.ints [] 26 false]).copyO hx app_47_47 hl (by rw [List.getElem?_append_right (Nat.le_refl _)]; simp) ?_
    intro r g hr hb
    exact ⟨hr, by rw [List.append_assoc]; exact Ext.app _ _ _, fun b h1 => by rw [hb] at h1; cases h1; simp⟩
theorem fracsO_call [Tabs prog] {h : Heap} {v : Value} {ps : List (Int × Int)} (hv : PairSl h v ps) (hx : ps ≠ []) (hl : ps.length ≤ 8) : ACall prog 32 [v] h fun r h' => OwnP 26 h' r ps ∧ Ext (fun _ => False) h h' ∧ ∀ b, blkOf r = some b → h.length ≤ b := by
  refine s32_call (by simp) ?_
  simp (maxSteps := 2000000) only [s32, ↓aw_region, ↓aw_skip, ↓aw_seq, ↓aw_block, ↓aw_exit, ↓aw_ret, ↓sops_nil, ↓sops_go, ↓dops_nil, ↓dopsX_nil, ↓dopsR_nil, ↓vdn, vup, extr_20, extr_21, extr_30, extr_31, extr_32, List.map_cons, List.map_nil, cond_true, cond_false, aop, aThen, aBlock, argEnv, ev, sput, sputO, binK, binI, unK, builtinK, pickK, Nat.reduceBEq, Nat.reduceAdd, Int.reduceBEq, Int.reduceBNe, Int.reduceLT, aPost, resK, tup, tyf, hv.len, mmK, Bool.false_eq_true, if_false, gt_iff_lt, min8, Option.map_none, Option.map_some]
  refine hv.pre el_47 esz_26 (Nat.min_le_left _ _) ?_
  intro v' hv'
  rw [Nat.min_eq_left hl, List.take_length] at hv'
  simp (maxSteps := 2000000) only [↓aw_region, ↓aw_skip, ↓aw_seq, ↓aw_block, ↓aw_exit, ↓aw_ret, ↓sops_nil, ↓sops_go, ↓dops_nil, ↓dopsX_nil, ↓dopsR_nil, ↓vdn, vup, extr_20, extr_21, extr_30, extr_31, extr_32, List.map_cons, List.map_nil, cond_true, cond_false, aop, aThen, aBlock, argEnv, ev, sput, sputO, binK, binI, unK, builtinK, pickK, Nat.reduceBEq, Nat.reduceAdd, Int.reduceBEq, Int.reduceBNe, Int.reduceLT, aPost, resK, tup, tyf, callK, List.nil_append, List.append_nil]
  exact cloneFO_call hv' hx (by omega)
theorem InR.app {f b : List (Int × Int)} (h1 : InR f) (h2 : InR b) : InR (f ++ b) := fun p hp => (List.mem_append.1 hp).elim (h1 p) (h2 p)

theorem fA1o {b o : Nat} {K : Value → Prop} : fieldAddrK prog 26 (.pointer (some ⟨b, o, none⟩)) 1 K = K (.pointer (some ⟨b, o + 1, none⟩)) := by
  simp [fieldAddrK, fld_26_1, esz_3]
theorem pairFlds {h : Heap} {v : Value} {ps : List (Int × Int)} {i : Nat} (hv : PairSl h v ps) (hi : i < ps.length) : ∃ p0 p1 : Value, (∀ K : Value → Prop, idxAddrK prog 47 v (vint (i : Nat)) K = K p0) ∧ (∀ K : Value → Prop, fieldAddrK prog 26 p0 0 K = K p0) ∧ (∀ K : Value → Prop, fieldAddrK prog 26 p0 1 K = K p1) ∧
    (∀ K : Value → Prop, loadK prog h 3 p0 K = K (vint (ps.getD i (0, 0)).1)) ∧ (∀ K : Value → Prop, loadK prog h 3 p1 K = K (vint (ps.getD i (0, 0)).2)) := by
  have hidx := fun K => hv.idx el_47 esz_26 (k := .i64) hi K
  rcases hv with ⟨rfl, rfl⟩ | ⟨b, o, sp, cap, c, e', ro, rfl, _, hvw, hc⟩
  · simp at hi
  · obtain ⟨h1, h2⟩ := hc i hi
    refine ⟨.pointer (some ⟨b, o + i * 2, none⟩), .pointer (some ⟨b, o + i * 2 + 1, none⟩), hidx, fun K => fA0o, fun K => fA1o, fun K => ?_, fun K => ?_⟩
    · simp only [loadK, shp_3]; exact view_cell hvw h1
    · simp only [loadK, shp_3]; exact view_cell hvw h2
theorem sq_nn (t : Rat) : 0 ≤ t * t := by
  by_cases h : 0 ≤ t
  · exact Rat.mul_nonneg h h
  · have := Rat.mul_nonneg (show 0 ≤ -t by grind) (show 0 ≤ -t by grind)
    grind
theorem sub_frac (y x : Rat) : Rat.divInt (y.num * x.den - x.num * y.den) ((x.den * y.den : Nat) : Int) = y - x := by
  have r1 := (Rp.own y).up x.den x.den_pos
  have r2 := (Rp.own x).up y.den y.den_pos
  rw [Nat.mul_comm] at r1
  have r := r1.plus r2 (-1)
  have e : y + ((-1 : Int) : Rat) * x = y - x := by rw [show (((-1 : Int)) : Rat) = -1 from rfl]; grind
  rw [e] at r
  rw [← r.frac]
  congr 1
  omega

theorem s5_callW [Tabs Try.prog] {args : List Value} {h : Heap} {Q : Value → Heap → Prop} (hsz : args.length ≤ 222) (hk : AWS Try.prog 222 s5 (aPost Try.prog [.tmp 4] Q) (argEnv 0 args) h) : ACall Try.prog 5 args h Q :=
  acall_w Try.func5 rfl (enters_of Try.func5 (by kernel_rfl) rfl) rfl rfl (by decide) s5_strip s5_ok hsz hk
theorem law_proper [Tabs prog] {h : Heap} {u v : Value} {f b : List (Int × Int)} (hu : PairSl h u f) (hlf : f.length < 9223372036854775808) (hxf : InR f) (hv : PairSl h v b) (hlb : b.length < 9223372036854775808) (hxb : InR b) : ACall prog 5 [u, v] h fun r _ => r = .bool true := by
  refine s5_callW (by simp) ?_
  simp only [s5]
  refine aws_cut fun N1 hN1 => ?_
  simp (maxSteps := 2000000) only [s5, ↓aw_region, ↓aw_skip, ↓aw_seq, ↓aw_block, ↓aw_exit, ↓aw_ret, ↓sops_nil, ↓sops_go, ↓dops_nil, ↓dopsX_nil, ↓dopsR_nil, ↓vdn, vup, extr_20, extr_21, extr_30, extr_31, extr_32, List.map_cons, List.map_nil, cond_true, cond_false, aop, aThen, aBlock, argEnv, ev, sput, sputO, binK, binI, unK, builtinK, pickK, Nat.reduceBEq, Nat.reduceAdd, Int.reduceBEq, Int.reduceBNe, Int.reduceLT, aPost, resK, tup, tyf]
  refine hN1 [(0, u), (1, v), (4, .bool false)] _ _ ?_ (by simp (maxSteps := 2000000) only [↓aw_region, ↓aw_skip, ↓aw_seq, ↓aw_block, ↓aw_exit, ↓aw_ret, ↓sops_nil, ↓sops_go, ↓dops_nil, ↓dopsX_nil, ↓dopsR_nil, ↓vdn, vup, extr_20, extr_21, extr_30, extr_31, extr_32, List.map_cons, List.map_nil, cond_true, cond_false, aop, aThen, aBlock, argEnv, ev, sput, sputO, binK, binI, unK, builtinK, pickK, Nat.reduceBEq, Nat.reduceAdd, Int.reduceBEq, Int.reduceBNe, Int.reduceLT, aPost, resK, tup, tyf])
  clear hN1
  try clear N1
  refine aws_cut fun N2 hN2 => ?_
  simp (maxSteps := 2000000) only [s5, ↓aw_region, ↓aw_skip, ↓aw_seq, ↓aw_block, ↓aw_exit, ↓aw_ret, ↓sops_nil, ↓sops_go, ↓dops_nil, ↓dopsX_nil, ↓dopsR_nil, ↓vdn, vup, extr_20, extr_21, extr_30, extr_31, extr_32, List.map_cons, List.map_nil, cond_true, cond_false, aop, aThen, aBlock, argEnv, ev, sput, sputO, binK, binI, unK, builtinK, pickK, Nat.reduceBEq, Nat.reduceAdd, Int.reduceBEq, Int.reduceBNe, Int.reduceLT, aPost, resK, tup, tyf, callK, List.nil_append, List.append_nil, List.toList_toArray, List.cons_append]
  refine (fracs_call hu).mono ?_
  rintro u1 h1 ⟨hu1, hE1⟩
  refine (fracs_call (hv.ext hE1)).mono ?_
  rintro v2 h2 ⟨hv2, hE2⟩
  have mn := progMean_call (hu1.ext hE2) hv2 (by rw [List.length_take]; omega) (by rw [List.length_take]; omega)
  by_cases hc : fcB f = true ∧ fcB b = true ∧ f.length = b.length
  · obtain ⟨hf, hb, hl⟩ := hc
    have cf := fc_of hf
    have cb := fc_of hb
    have lf := cf.len
    have hf8 : f.take 8 = f := List.take_of_length_le (by omega)
    have hb8 : b.take 8 = b := List.take_of_length_le (by omega)
    rw [hf8, hb8, if_pos ⟨hf, hb, hl⟩] at mn
    obtain ⟨x, hx⟩ : ∃ x, meanQ f b = x := ⟨_, rfl⟩
    obtain ⟨y, hy⟩ : ∃ y, meanQ b b = y := ⟨_, rfl⟩
    rw [hx] at mn
    refine mn.mono ?_
    rintro _ h2 ⟨rfl, rfl⟩
    simp (maxSteps := 2000000) only [s5, ↓aw_region, ↓aw_skip, ↓aw_seq, ↓aw_block, ↓aw_exit, ↓aw_ret, ↓sops_nil, ↓sops_go, ↓dops_nil, ↓dopsX_nil, ↓dopsR_nil, ↓vdn, vup, extr_20, extr_21, extr_30, extr_31, extr_32, List.map_cons, List.map_nil, cond_true, cond_false, aop, aThen, aBlock, argEnv, ev, sput, sputO, binK, binI, unK, builtinK, pickK, Nat.reduceBEq, Nat.reduceAdd, Int.reduceBEq, Int.reduceBNe, Int.reduceLT, aPost, resK, tup, tyf, qV, frV, allocK, newPtr, zero_26, storeF (get_new h2 z0) rfl, set_new]
    obtain ⟨H1, hH1⟩ : ∃ H1, H1 = h2 ++ [fC x.num x.den] := ⟨_, rfl⟩
    have b5 : H1[h2.length]? = some (fC x.num x.den) := by rw [hH1]; exact get_new _ _
    have hE3 : Ext (fun _ => False) h H1 := by rw [hH1]; exact hE1.trans (hE2.trans (Ext.app _ _ _))
    rw [← hH1]
    refine hN2 [(0, u), (1, v), (4, .bool false), (5, .pointer (some ⟨h2.length, 0, none⟩)), (6, .int .i64 0)] _ _ ?_ (by simp (maxSteps := 2000000) only [↓aw_region, ↓aw_skip, ↓aw_seq, ↓aw_block, ↓aw_exit, ↓aw_ret, ↓sops_nil, ↓sops_go, ↓dops_nil, ↓dopsX_nil, ↓dopsR_nil, ↓vdn, vup, extr_20, extr_21, extr_30, extr_31, extr_32, List.map_cons, List.map_nil, cond_true, cond_false, aop, aThen, aBlock, argEnv, ev, sput, sputO, binK, binI, unK, builtinK, pickK, Nat.reduceBEq, Nat.reduceAdd, Int.reduceBEq, Int.reduceBNe, Int.reduceLT, aPost, resK, tup, tyf])
    clear hN2
    try clear N2
    obtain ⟨p5, hp5⟩ : ∃ p, h2.length = p := ⟨_, rfl⟩
    rw [hp5] at b5 ⊢
    clear mn hu1 hv2 hE1 hE2 hH1 hp5
    clear h2
    refine aws_cut fun N3 hN3 => ?_
    simp (maxSteps := 2000000) only [s5, ↓aw_region, ↓aw_skip, ↓aw_seq, ↓aw_block, ↓aw_exit, ↓aw_ret, ↓sops_nil, ↓sops_go, ↓dops_nil, ↓dopsX_nil, ↓dopsR_nil, ↓vdn, vup, extr_20, extr_21, extr_30, extr_31, extr_32, List.map_cons, List.map_nil, cond_true, cond_false, aop, aThen, aBlock, argEnv, ev, sput, sputO, binK, binI, unK, builtinK, pickK, Nat.reduceBEq, Nat.reduceAdd, Int.reduceBEq, Int.reduceBNe, Int.reduceLT, aPost, resK, tup, tyf, callK, List.nil_append, List.append_nil, List.toList_toArray, List.cons_append]
    refine (fracs_call (hv.ext hE3)).mono ?_
    rintro u3 h3 ⟨hu3, hE4⟩
    refine (fracs_call (hv.ext (hE3.trans hE4))).mono ?_
    rintro v4 h4 ⟨hv4, hE5⟩
    have mn := progMean_call (hu3.ext hE5) hv4 (by rw [List.length_take]; omega) (by rw [List.length_take]; omega)
    rw [hb8, if_pos ⟨hb, hb, rfl⟩, hy] at mn
    refine mn.mono ?_
    rintro _ h4 ⟨rfl, rfl⟩
    simp (maxSteps := 2000000) only [s5, ↓aw_region, ↓aw_skip, ↓aw_seq, ↓aw_block, ↓aw_exit, ↓aw_ret, ↓sops_nil, ↓sops_go, ↓dops_nil, ↓dopsX_nil, ↓dopsR_nil, ↓vdn, vup, extr_20, extr_21, extr_30, extr_31, extr_32, List.map_cons, List.map_nil, cond_true, cond_false, aop, aThen, aBlock, argEnv, ev, sput, sputO, binK, binI, unK, builtinK, pickK, Nat.reduceBEq, Nat.reduceAdd, Int.reduceBEq, Int.reduceBNe, Int.reduceLT, aPost, resK, tup, tyf, qV, frV, allocK, newPtr, zero_26, storeF (get_new h4 z0) rfl, set_new]
    obtain ⟨H, hH⟩ : ∃ H, H = h4 ++ [fC y.num y.den] := ⟨_, rfl⟩
    have c7 : H[h4.length]? = some (fC y.num y.den) := by rw [hH]; exact get_new _ _
    have hE6 : Ext (fun _ => False) H1 H := by rw [hH]; exact hE4.trans (hE5.trans (Ext.app _ _ _))
    have c5 : H[p5]? = some (fC x.num x.den) := (hE6.2 _ (get_lt b5) id).trans b5
    have hE := hE3.trans hE6
    have huH := hu.ext hE
    have hvH := hv.ext hE
    rw [← hH]
    refine hN3 [(0, u), (1, v), (4, .bool false), (5, .pointer (some ⟨p5, 0, none⟩)), (6, .int .i64 0), (7, .pointer (some ⟨h4.length, 0, none⟩)), (8, .int .i64 0)] _ _ ?_ (by simp (maxSteps := 2000000) only [↓aw_region, ↓aw_skip, ↓aw_seq, ↓aw_block, ↓aw_exit, ↓aw_ret, ↓sops_nil, ↓sops_go, ↓dops_nil, ↓dopsX_nil, ↓dopsR_nil, ↓vdn, vup, extr_20, extr_21, extr_30, extr_31, extr_32, List.map_cons, List.map_nil, cond_true, cond_false, aop, aThen, aBlock, argEnv, ev, sput, sputO, binK, binI, unK, builtinK, pickK, Nat.reduceBEq, Nat.reduceAdd, Int.reduceBEq, Int.reduceBNe, Int.reduceLT, aPost, resK, tup, tyf])
    clear hN3
    try clear N3
    obtain ⟨p7, hp7⟩ : ∃ p, h4.length = p := ⟨_, rfl⟩
    rw [hp7] at c7 ⊢
    clear mn hu3 hv4 hE4 hE5 hE3 hE6 hH hp7 b5
    clear h4 H1
    have hne : (((f.length : Nat) : Int) != ((b.length : Nat) : Int)) = false := by rw [hl]; simp
    refine aws_cutW fun M hM => ?_
    refine aws_cut fun N4 hN4 => ?_
    simp (maxSteps := 2000000) only [s5, ↓aw_region, ↓aw_skip, ↓aw_seq, ↓aw_block, ↓aw_exit, ↓aw_ret, ↓sops_nil, ↓sops_go, ↓dops_nil, ↓dopsX_nil, ↓dopsR_nil, ↓vdn, vup, extr_20, extr_21, extr_30, extr_31, extr_32, List.map_cons, List.map_nil, cond_true, cond_false, aop, aThen, aBlock, argEnv, ev, sput, sputO, binK, binI, unK, builtinK, pickK, Nat.reduceBEq, Nat.reduceAdd, Int.reduceBEq, Int.reduceBNe, Int.reduceLT, aPost, resK, tup, tyf, callK, List.nil_append, List.append_nil, List.toList_toArray, List.cons_append]
    refine (rfc_call huH hlf hxf).mono ?_
    rintro _ H ⟨rfl, rfl⟩
    simp (maxSteps := 2000000) only [s5, ↓aw_region, ↓aw_skip, ↓aw_seq, ↓aw_block, ↓aw_exit, ↓aw_ret, ↓sops_nil, ↓sops_go, ↓dops_nil, ↓dopsX_nil, ↓dopsR_nil, ↓vdn, vup, extr_20, extr_21, extr_30, extr_31, extr_32, List.map_cons, List.map_nil, cond_true, cond_false, aop, aThen, aBlock, argEnv, ev, sput, sputO, binK, binI, unK, builtinK, pickK, Nat.reduceBEq, Nat.reduceAdd, Int.reduceBEq, Int.reduceBNe, Int.reduceLT, aPost, resK, tup, tyf, hf, Bool.not_true]
    refine (rfc_call hvH hlb hxb).mono ?_
    rintro _ H ⟨rfl, rfl⟩
    simp (maxSteps := 2000000) only [s5, ↓aw_region, ↓aw_skip, ↓aw_seq, ↓aw_block, ↓aw_exit, ↓aw_ret, ↓sops_nil, ↓sops_go, ↓dops_nil, ↓dopsX_nil, ↓dopsR_nil, ↓vdn, vup, extr_20, extr_21, extr_30, extr_31, extr_32, List.map_cons, List.map_nil, cond_true, cond_false, aop, aThen, aBlock, argEnv, ev, sput, sputO, binK, binI, unK, builtinK, pickK, Nat.reduceBEq, Nat.reduceAdd, Int.reduceBEq, Int.reduceBNe, Int.reduceLT, aPost, resK, tup, tyf, hb, Bool.not_true, huH.len, hvH.len, hne]
    refine hN4 [(0, u), (1, v), (4, .bool false), (5, .pointer (some ⟨p5, 0, none⟩)), (6, .int .i64 0), (7, .pointer (some ⟨p7, 0, none⟩)), (8, .int .i64 0), (55, .bool false)] _ _ ?_ (by simp (maxSteps := 2000000) only [↓aw_region, ↓aw_skip, ↓aw_seq, ↓aw_block, ↓aw_exit, ↓aw_ret, ↓sops_nil, ↓sops_go, ↓dops_nil, ↓dopsX_nil, ↓dopsR_nil, ↓vdn, vup, extr_20, extr_21, extr_30, extr_31, extr_32, List.map_cons, List.map_nil, cond_true, cond_false, aop, aThen, aBlock, argEnv, ev, sput, sputO, binK, binI, unK, builtinK, pickK, Nat.reduceBEq, Nat.reduceAdd, Int.reduceBEq, Int.reduceBNe, Int.reduceLT, aPost, resK, tup, tyf])
    clear hN4
    try clear N4
    refine aws_false rfl ?_
    refine aw_aws ?_
    simp (maxSteps := 2000000) only [s5, ↓aw_region, ↓aw_skip, ↓aw_seq, ↓aw_block, ↓aw_exit, ↓aw_ret, ↓sops_nil, ↓sops_go, ↓dops_nil, ↓dopsX_nil, ↓dopsR_nil, ↓vdn, vup, extr_20, extr_21, extr_30, extr_31, extr_32, List.map_cons, List.map_nil, cond_true, cond_false, aop, aThen, aBlock, argEnv, ev, sput, sputO, binK, binI, unK, builtinK, pickK, Nat.reduceBEq, Nat.reduceAdd, Int.reduceBEq, Int.reduceBNe, Int.reduceLT, aPost, resK, tup, tyf]
    refine hM [(0, u), (1, v), (4, .bool false), (5, .pointer (some ⟨p5, 0, none⟩)), (6, .int .i64 0), (7, .pointer (some ⟨p7, 0, none⟩)), (8, .int .i64 0)] _ _ ?_ (by simp (maxSteps := 2000000) only [↓aw_region, ↓aw_skip, ↓aw_seq, ↓aw_block, ↓aw_exit, ↓aw_ret, ↓sops_nil, ↓sops_go, ↓dops_nil, ↓dopsX_nil, ↓dopsR_nil, ↓vdn, vup, extr_20, extr_21, extr_30, extr_31, extr_32, List.map_cons, List.map_nil, cond_true, cond_false, aop, aThen, aBlock, argEnv, ev, sput, sputO, binK, binI, unK, builtinK, pickK, Nat.reduceBEq, Nat.reduceAdd, Int.reduceBEq, Int.reduceBNe, Int.reduceLT, aPost, resK, tup, tyf])
    clear hM
    try clear M
    have nf : f ≠ [] := by intro h; subst h; simp at lf
    have nb : b ≠ [] := by intro h; have h9 := cb.len; rw [h] at h9; simp at h9
    refine aws_cut fun N5 hN5 => ?_
    simp (maxSteps := 2000000) only [s5, ↓aw_region, ↓aw_skip, ↓aw_seq, ↓aw_block, ↓aw_exit, ↓aw_ret, ↓sops_nil, ↓sops_go, ↓dops_nil, ↓dopsX_nil, ↓dopsR_nil, ↓vdn, vup, extr_20, extr_21, extr_30, extr_31, extr_32, List.map_cons, List.map_nil, cond_true, cond_false, aop, aThen, aBlock, argEnv, ev, sput, sputO, binK, binI, unK, builtinK, pickK, Nat.reduceBEq, Nat.reduceAdd, Int.reduceBEq, Int.reduceBNe, Int.reduceLT, aPost, resK, tup, tyf, callK, List.nil_append, List.append_nil, List.toList_toArray, List.cons_append]
    refine (fracsO_call huH nf (by omega)).mono ?_
    rintro u5 h5 ⟨hu5, hE7, hq5⟩
    refine (fracs_call (hvH.ext hE7)).mono ?_
    rintro v6 h6 ⟨hv6, hE8⟩
    rw [hb8] at hv6
    refine (hu5.ext hE8).app hv6 nb app_47_47 (by omega) ?_
    intro v7 h7 hv7 hE9
    have hE10 : Ext (fun _ => False) H h7 := by
      have h78 := hE7.trans hE8
      refine ⟨Nat.le_trans h78.1 hE9.1, fun i hi _ => ?_⟩
      rw [hE9.2 i (Nat.lt_of_lt_of_le hi h78.1) (fun hb => by have := hq5 i hb; omega)]
      exact h78.2 i hi id
    refine (mult_call hv7.pair (by rw [List.length_append]; omega) (hxf.app hxb)).mono ?_
    rintro _ h7 ⟨rfl, rfl⟩
    obtain ⟨M, hM⟩ : ∃ M, mult (f ++ b) = M := ⟨_, rfl⟩
    rw [hM]
    have d5 := (hE10.2 _ (get_lt c5) id).trans c5
    have d7 := (hE10.2 _ (get_lt c7) id).trans c7
    have hu7 := huH.ext hE10
    have hv7' := hvH.ext hE10
    refine hN5 [(0, u), (1, v), (4, .bool false), (5, .pointer (some ⟨p5, 0, none⟩)), (6, .int .i64 0), (7, .pointer (some ⟨p7, 0, none⟩)), (8, .int .i64 0), (9, vint (M : Nat))] _ _ ?_ (by simp (maxSteps := 2000000) only [↓aw_region, ↓aw_skip, ↓aw_seq, ↓aw_block, ↓aw_exit, ↓aw_ret, ↓sops_nil, ↓sops_go, ↓dops_nil, ↓dopsX_nil, ↓dopsR_nil, ↓vdn, vup, extr_20, extr_21, extr_30, extr_31, extr_32, List.map_cons, List.map_nil, cond_true, cond_false, aop, aThen, aBlock, argEnv, ev, sput, sputO, binK, binI, unK, builtinK, pickK, Nat.reduceBEq, Nat.reduceAdd, Int.reduceBEq, Int.reduceBNe, Int.reduceLT, aPost, resK, tup, tyf])
    clear hN5
    try clear N5
    clear hE10 hE9 hv7 hE8 hE7 hv6 hu5 hq5 c5 c7 huH hvH hE
    clear u5 v6 h5 h6 v7 H
    obtain ⟨H, hH⟩ : ∃ H, h7 = H := ⟨_, rfl⟩
    subst hH
    have g1 : ¬ (x.den : Int) < 1 := by have := x.den_pos; omega
    have g2 : ¬ (y.den : Int) < 1 := by have := y.den_pos; omega
    refine aws_cutW fun N hN => ?_
    refine aws_cut fun N6 hN6 => ?_
    simp (maxSteps := 2000000) only [s5, ↓aw_region, ↓aw_skip, ↓aw_seq, ↓aw_block, ↓aw_exit, ↓aw_ret, ↓sops_nil, ↓sops_go, ↓dops_nil, ↓dopsX_nil, ↓dopsR_nil, ↓vdn, vup, extr_20, extr_21, extr_30, extr_31, extr_32, List.map_cons, List.map_nil, cond_true, cond_false, aop, aThen, aBlock, argEnv, ev, sput, sputO, binK, binI, unK, builtinK, pickK, Nat.reduceBEq, Nat.reduceAdd, Int.reduceBEq, Int.reduceBNe, Int.reduceLT, aPost, resK, tup, tyf, fA1, loadF1 d5, loadF1 d7, g1, g2]
    refine hN6 [(0, u), (1, v), (4, .bool false), (5, .pointer (some ⟨p5, 0, none⟩)), (6, .int .i64 0), (7, .pointer (some ⟨p7, 0, none⟩)), (8, .int .i64 0), (9, vint (M : Nat)), (74, .bool false)] _ _ ?_ (by simp (maxSteps := 2000000) only [↓aw_region, ↓aw_skip, ↓aw_seq, ↓aw_block, ↓aw_exit, ↓aw_ret, ↓sops_nil, ↓sops_go, ↓dops_nil, ↓dopsX_nil, ↓dopsR_nil, ↓vdn, vup, extr_20, extr_21, extr_30, extr_31, extr_32, List.map_cons, List.map_nil, cond_true, cond_false, aop, aThen, aBlock, argEnv, ev, sput, sputO, binK, binI, unK, builtinK, pickK, Nat.reduceBEq, Nat.reduceAdd, Int.reduceBEq, Int.reduceBNe, Int.reduceLT, aPost, resK, tup, tyf])
    clear hN6
    try clear N6
    refine aws_false rfl ?_
    refine aw_aws ?_
    simp (maxSteps := 2000000) only [s5, ↓aw_region, ↓aw_skip, ↓aw_seq, ↓aw_block, ↓aw_exit, ↓aw_ret, ↓sops_nil, ↓sops_go, ↓dops_nil, ↓dopsX_nil, ↓dopsR_nil, ↓vdn, vup, extr_20, extr_21, extr_30, extr_31, extr_32, List.map_cons, List.map_nil, cond_true, cond_false, aop, aThen, aBlock, argEnv, ev, sput, sputO, binK, binI, unK, builtinK, pickK, Nat.reduceBEq, Nat.reduceAdd, Int.reduceBEq, Int.reduceBNe, Int.reduceLT, aPost, resK, tup, tyf]
    refine hN [(0, u), (1, v), (4, .bool false), (5, .pointer (some ⟨p5, 0, none⟩)), (6, .int .i64 0), (7, .pointer (some ⟨p7, 0, none⟩)), (8, .int .i64 0), (9, vint (M : Nat))] _ _ ?_ (by simp (maxSteps := 2000000) only [↓aw_region, ↓aw_skip, ↓aw_seq, ↓aw_block, ↓aw_exit, ↓aw_ret, ↓sops_nil, ↓sops_go, ↓dops_nil, ↓dopsX_nil, ↓dopsR_nil, ↓vdn, vup, extr_20, extr_21, extr_30, extr_31, extr_32, List.map_cons, List.map_nil, cond_true, cond_false, aop, aThen, aBlock, argEnv, ev, sput, sputO, binK, binI, unK, builtinK, pickK, Nat.reduceBEq, Nat.reduceAdd, Int.reduceBEq, Int.reduceBNe, Int.reduceLT, aPost, resK, tup, tyf])
    clear hN
    try clear N
    refine aws_cutW fun N hN => ?_
    refine aws_cut fun N7 hN7 => ?_
    have early : ∀ e, ELe e [(0, u), (1, v), (4, .bool false), (5, .pointer (some ⟨p5, 0, none⟩)), (6, .int .i64 0), (7, .pointer (some ⟨p7, 0, none⟩)), (8, .int .i64 0), (9, vint (M : Nat)), (80, .bool true)] → N7 e h7 := by
      intro e he
      refine hN7 _ _ _ ?_ he
      refine aws_true rfl ?_
      refine aw_aws ?_
      simp (maxSteps := 2000000) only [s5, ↓aw_region, ↓aw_skip, ↓aw_seq, ↓aw_block, ↓aw_exit, ↓aw_ret, ↓sops_nil, ↓sops_go, ↓dops_nil, ↓dopsX_nil, ↓dopsR_nil, ↓vdn, vup, extr_20, extr_21, extr_30, extr_31, extr_32, List.map_cons, List.map_nil, cond_true, cond_false, aop, aThen, aBlock, argEnv, ev, sput, sputO, binK, binI, unK, builtinK, pickK, Nat.reduceBEq, Nat.reduceAdd, Int.reduceBEq, Int.reduceBNe, Int.reduceLT, aPost, resK, tup, tyf, callK, List.nil_append, List.append_nil, List.toList_toArray, List.cons_append]
      refine ((show APure prog 21 [] h7 (.bool true) from awake_call)).mono ?_
      rintro _ h7 ⟨rfl, rfl⟩
      simp (maxSteps := 2000000) only [s5, ↓aw_region, ↓aw_skip, ↓aw_seq, ↓aw_block, ↓aw_exit, ↓aw_ret, ↓sops_nil, ↓sops_go, ↓dops_nil, ↓dopsX_nil, ↓dopsR_nil, ↓vdn, vup, extr_20, extr_21, extr_30, extr_31, extr_32, List.map_cons, List.map_nil, cond_true, cond_false, aop, aThen, aBlock, argEnv, ev, sput, sputO, binK, binI, unK, builtinK, pickK, Nat.reduceBEq, Nat.reduceAdd, Int.reduceBEq, Int.reduceBNe, Int.reduceLT, aPost, resK, tup, tyf]
    by_cases hM0 : M = 0
    · have e0 : (((M : Nat) : Int) == 0) = true := by rw [hM0]; rfl
      simp (maxSteps := 2000000) only [s5, ↓aw_region, ↓aw_skip, ↓aw_seq, ↓aw_block, ↓aw_exit, ↓aw_ret, ↓sops_nil, ↓sops_go, ↓dops_nil, ↓dopsX_nil, ↓dopsR_nil, ↓vdn, vup, extr_20, extr_21, extr_30, extr_31, extr_32, List.map_cons, List.map_nil, cond_true, cond_false, aop, aThen, aBlock, argEnv, ev, sput, sputO, binK, binI, unK, builtinK, pickK, Nat.reduceBEq, Nat.reduceAdd, Int.reduceBEq, Int.reduceBNe, Int.reduceLT, aPost, resK, tup, tyf, e0]
      exact early _ (by simp (maxSteps := 2000000) only [↓aw_region, ↓aw_skip, ↓aw_seq, ↓aw_block, ↓aw_exit, ↓aw_ret, ↓sops_nil, ↓sops_go, ↓dops_nil, ↓dopsX_nil, ↓dopsR_nil, ↓vdn, vup, extr_20, extr_21, extr_30, extr_31, extr_32, List.map_cons, List.map_nil, cond_true, cond_false, aop, aThen, aBlock, argEnv, ev, sput, sputO, binK, binI, unK, builtinK, pickK, Nat.reduceBEq, Nat.reduceAdd, Int.reduceBEq, Int.reduceBNe, Int.reduceLT, aPost, resK, tup, tyf])
    have e0 : (((M : Nat) : Int) == 0) = false := by
      have : ¬ ((M : Nat) : Int) = 0 := by omega
      simpa using this
    by_cases hM1 : ((M : Nat) : Int) > 1000
    · simp (maxSteps := 2000000) only [s5, ↓aw_region, ↓aw_skip, ↓aw_seq, ↓aw_block, ↓aw_exit, ↓aw_ret, ↓sops_nil, ↓sops_go, ↓dops_nil, ↓dopsX_nil, ↓dopsR_nil, ↓vdn, vup, extr_20, extr_21, extr_30, extr_31, extr_32, List.map_cons, List.map_nil, cond_true, cond_false, aop, aThen, aBlock, argEnv, ev, sput, sputO, binK, binI, unK, builtinK, pickK, Nat.reduceBEq, Nat.reduceAdd, Int.reduceBEq, Int.reduceBNe, Int.reduceLT, aPost, resK, tup, tyf, e0, hM1]
      exact early _ (by simp (maxSteps := 2000000) only [↓aw_region, ↓aw_skip, ↓aw_seq, ↓aw_block, ↓aw_exit, ↓aw_ret, ↓sops_nil, ↓sops_go, ↓dops_nil, ↓dopsX_nil, ↓dopsR_nil, ↓vdn, vup, extr_20, extr_21, extr_30, extr_31, extr_32, List.map_cons, List.map_nil, cond_true, cond_false, aop, aThen, aBlock, argEnv, ev, sput, sputO, binK, binI, unK, builtinK, pickK, Nat.reduceBEq, Nat.reduceAdd, Int.reduceBEq, Int.reduceBNe, Int.reduceLT, aPost, resK, tup, tyf])
    clear early
    simp (maxSteps := 2000000) only [s5, ↓aw_region, ↓aw_skip, ↓aw_seq, ↓aw_block, ↓aw_exit, ↓aw_ret, ↓sops_nil, ↓sops_go, ↓dops_nil, ↓dopsX_nil, ↓dopsR_nil, ↓vdn, vup, extr_20, extr_21, extr_30, extr_31, extr_32, List.map_cons, List.map_nil, cond_true, cond_false, aop, aThen, aBlock, argEnv, ev, sput, sputO, binK, binI, unK, builtinK, pickK, Nat.reduceBEq, Nat.reduceAdd, Int.reduceBEq, Int.reduceBNe, Int.reduceLT, aPost, resK, tup, tyf, e0, hM1]
    refine hN7 [(0, u), (1, v), (4, .bool false), (5, .pointer (some ⟨p5, 0, none⟩)), (6, .int .i64 0), (7, .pointer (some ⟨p7, 0, none⟩)), (8, .int .i64 0), (9, vint (M : Nat)), (80, .bool false)] _ _ ?_ (by simp (maxSteps := 2000000) only [↓aw_region, ↓aw_skip, ↓aw_seq, ↓aw_block, ↓aw_exit, ↓aw_ret, ↓sops_nil, ↓sops_go, ↓dops_nil, ↓dopsX_nil, ↓dopsR_nil, ↓vdn, vup, extr_20, extr_21, extr_30, extr_31, extr_32, List.map_cons, List.map_nil, cond_true, cond_false, aop, aThen, aBlock, argEnv, ev, sput, sputO, binK, binI, unK, builtinK, pickK, Nat.reduceBEq, Nat.reduceAdd, Int.reduceBEq, Int.reduceBNe, Int.reduceLT, aPost, resK, tup, tyf])
    clear hN7
    try clear N7
    refine aws_false rfl ?_
    refine aw_aws ?_
    simp (maxSteps := 2000000) only [s5, ↓aw_region, ↓aw_skip, ↓aw_seq, ↓aw_block, ↓aw_exit, ↓aw_ret, ↓sops_nil, ↓sops_go, ↓dops_nil, ↓dopsX_nil, ↓dopsR_nil, ↓vdn, vup, extr_20, extr_21, extr_30, extr_31, extr_32, List.map_cons, List.map_nil, cond_true, cond_false, aop, aThen, aBlock, argEnv, ev, sput, sputO, binK, binI, unK, builtinK, pickK, Nat.reduceBEq, Nat.reduceAdd, Int.reduceBEq, Int.reduceBNe, Int.reduceLT, aPost, resK, tup, tyf]
    refine hN [(0, u), (1, v), (4, .bool false), (5, .pointer (some ⟨p5, 0, none⟩)), (6, .int .i64 0), (7, .pointer (some ⟨p7, 0, none⟩)), (8, .int .i64 0), (9, vint (M : Nat))] _ _ ?_ (by simp (maxSteps := 2000000) only [↓aw_region, ↓aw_skip, ↓aw_seq, ↓aw_block, ↓aw_exit, ↓aw_ret, ↓sops_nil, ↓sops_go, ↓dops_nil, ↓dopsX_nil, ↓dopsR_nil, ↓vdn, vup, extr_20, extr_21, extr_30, extr_31, extr_32, List.map_cons, List.map_nil, cond_true, cond_false, aop, aThen, aBlock, argEnv, ev, sput, sputO, binK, binI, unK, builtinK, pickK, Nat.reduceBEq, Nat.reduceAdd, Int.reduceBEq, Int.reduceBNe, Int.reduceLT, aPost, resK, tup, tyf])
    clear hN
    try clear N
    have hM1000 : M ≤ 1000 := by omega
    have cc : Chn (f ++ b) := ⟨by rw [hM]; exact hM0, fun p hp => (List.mem_append.1 hp).elim (cf.c.le p) (cb.c.le p)⟩
    have ds := dens_small cc hl (by rw [hM]; exact hM1000) cf cb
    rw [hx, hy] at ds
    have mlx := mean_le cf cb hl b.length (Nat.le_refl _)
    have mly := mean_le cb cb rfl b.length (Nat.le_refl _)
    rw [cb.sum] at mlx mly
    rw [show meanTo f b b.length = x from hx] at mlx
    rw [show meanTo b b b.length = y from hy] at mly
    have x1 := num_ge mlx.1
    have x2 := num_le mlx.2
    have y1 := num_ge mly.1
    have y2 := num_le mly.2
    have xp := x.den_pos
    have yp := y.den_pos
    have k1 : ¬ (x.den : Int) > 1000000000 := by omega
    have k2 : ¬ (y.den : Int) > 1000000000 := by omega
    have k3 : ¬ x.num > (x.den : Int) := by omega
    have k4 : ¬ x.num < -(x.den : Int) := by omega
    have k5 : ¬ y.num > (y.den : Int) := by omega
    have k6 : ¬ y.num < -(y.den : Int) := by omega
    have n1 : subV .i64 0 (x.den : Int) = -(x.den : Int) := by rw [subN (by omega)]; omega
    have n2 : subV .i64 0 (y.den : Int) = -(y.den : Int) := by rw [subN (by omega)]; omega
    refine aws_cutW fun N hN => ?_
    refine aws_cut fun N8 hN8 => ?_
    simp only [q5_10]
    refine aw_regcut 19 fun N1 hN1 => ?_
    simp (maxSteps := 2000000) only [s5, ↓aw_region, ↓aw_skip, ↓aw_seq, ↓aw_block, ↓aw_exit, ↓aw_ret, ↓sops_nil, ↓sops_go, ↓dops_nil, ↓dopsX_nil, ↓dopsR_nil, ↓vdn, vup, extr_20, extr_21, extr_30, extr_31, extr_32, List.map_cons, List.map_nil, cond_true, cond_false, aop, aThen, aBlock, argEnv, ev, sput, sputO, binK, binI, unK, builtinK, pickK, Nat.reduceBEq, Nat.reduceAdd, Int.reduceBEq, Int.reduceBNe, Int.reduceLT, aPost, resK, tup, tyf, List.take_succ_cons, List.take_zero, fA0, fA1, loadF1 d5, loadF0 d5, loadF1 d7, k1, k2, k3]
    refine hN1 _ _ ?_
    clear hN1 N1
    simp (maxSteps := 2000000) only [s5, ↓aw_region, ↓aw_skip, ↓aw_seq, ↓aw_block, ↓aw_exit, ↓aw_ret, ↓sops_nil, ↓sops_go, ↓dops_nil, ↓dopsX_nil, ↓dopsR_nil, ↓vdn, vup, extr_20, extr_21, extr_30, extr_31, extr_32, List.map_cons, List.map_nil, cond_true, cond_false, aop, aThen, aBlock, argEnv, ev, sput, sputO, binK, binI, unK, builtinK, pickK, Nat.reduceBEq, Nat.reduceAdd, Int.reduceBEq, Int.reduceBNe, Int.reduceLT, aPost, resK, tup, tyf, List.drop_succ_cons, List.drop_zero, fA0, fA1, loadF1 d5, loadF0 d5, loadF1 d7, loadF0 d7, n1, n2, k4, k5, k6]
    refine hN8 [(0, u), (1, v), (4, .bool false), (5, .pointer (some ⟨p5, 0, none⟩)), (6, .int .i64 0), (7, .pointer (some ⟨p7, 0, none⟩)), (8, .int .i64 0), (9, vint (M : Nat)), (119, .bool false)] _ _ ?_ (by simp (maxSteps := 2000000) only [↓aw_region, ↓aw_skip, ↓aw_seq, ↓aw_block, ↓aw_exit, ↓aw_ret, ↓sops_nil, ↓sops_go, ↓dops_nil, ↓dopsX_nil, ↓dopsR_nil, ↓vdn, vup, extr_20, extr_21, extr_30, extr_31, extr_32, List.map_cons, List.map_nil, cond_true, cond_false, aop, aThen, aBlock, argEnv, ev, sput, sputO, binK, binI, unK, builtinK, pickK, Nat.reduceBEq, Nat.reduceAdd, Int.reduceBEq, Int.reduceBNe, Int.reduceLT, aPost, resK, tup, tyf])
    clear hN8
    try clear N8
    refine aws_false rfl ?_
    refine aw_aws ?_
    simp (maxSteps := 2000000) only [s5, ↓aw_region, ↓aw_skip, ↓aw_seq, ↓aw_block, ↓aw_exit, ↓aw_ret, ↓sops_nil, ↓sops_go, ↓dops_nil, ↓dopsX_nil, ↓dopsR_nil, ↓vdn, vup, extr_20, extr_21, extr_30, extr_31, extr_32, List.map_cons, List.map_nil, cond_true, cond_false, aop, aThen, aBlock, argEnv, ev, sput, sputO, binK, binI, unK, builtinK, pickK, Nat.reduceBEq, Nat.reduceAdd, Int.reduceBEq, Int.reduceBNe, Int.reduceLT, aPost, resK, tup, tyf]
    refine hN [(0, u), (1, v), (4, .bool false), (5, .pointer (some ⟨p5, 0, none⟩)), (6, .int .i64 0), (7, .pointer (some ⟨p7, 0, none⟩)), (8, .int .i64 0), (9, vint (M : Nat))] _ _ ?_ (by simp (maxSteps := 2000000) only [↓aw_region, ↓aw_skip, ↓aw_seq, ↓aw_block, ↓aw_exit, ↓aw_ret, ↓sops_nil, ↓sops_go, ↓dops_nil, ↓dopsX_nil, ↓dopsR_nil, ↓vdn, vup, extr_20, extr_21, extr_30, extr_31, extr_32, List.map_cons, List.map_nil, cond_true, cond_false, aop, aThen, aBlock, argEnv, ev, sput, sputO, binK, binI, unK, builtinK, pickK, Nat.reduceBEq, Nat.reduceAdd, Int.reduceBEq, Int.reduceBNe, Int.reduceLT, aPost, resK, tup, tyf])
    clear hN
    try clear N
    refine aws_cut fun N9 hN9 => ?_
    simp (maxSteps := 2000000) only [s5, ↓aw_region, ↓aw_skip, ↓aw_seq, ↓aw_block, ↓aw_exit, ↓aw_ret, ↓sops_nil, ↓sops_go, ↓dops_nil, ↓dopsX_nil, ↓dopsR_nil, ↓vdn, vup, extr_20, extr_21, extr_30, extr_31, extr_32, List.map_cons, List.map_nil, cond_true, cond_false, aop, aThen, aBlock, argEnv, ev, sput, sputO, binK, binI, unK, builtinK, pickK, Nat.reduceBEq, Nat.reduceAdd, Int.reduceBEq, Int.reduceBNe, Int.reduceLT, aPost, resK, tup, tyf]
    refine hN9 [(0, u), (1, v), (4, .bool false), (5, .pointer (some ⟨p5, 0, none⟩)), (6, .int .i64 0), (7, .pointer (some ⟨p7, 0, none⟩)), (8, .int .i64 0), (9, vint (M : Nat)), (10, .int .i64 0)] _ _ ?_ (by simp (maxSteps := 2000000) only [↓aw_region, ↓aw_skip, ↓aw_seq, ↓aw_block, ↓aw_exit, ↓aw_ret, ↓sops_nil, ↓sops_go, ↓dops_nil, ↓dopsX_nil, ↓dopsR_nil, ↓vdn, vup, extr_20, extr_21, extr_30, extr_31, extr_32, List.map_cons, List.map_nil, cond_true, cond_false, aop, aThen, aBlock, argEnv, ev, sput, sputO, binK, binI, unK, builtinK, pickK, Nat.reduceBEq, Nat.reduceAdd, Int.reduceBEq, Int.reduceBNe, Int.reduceLT, aPost, resK, tup, tyf])
    clear hN9
    try clear N9
    -- the sum of squares
    refine aws_cutW fun Z hZ => ?_
    refine aws_cut fun N10 hN10 => ?_
    simp (maxSteps := 2000000) only [s5, ↓aw_region, ↓aw_skip, ↓aw_seq, ↓aw_block, ↓aw_exit, ↓aw_ret, ↓sops_nil, ↓sops_go, ↓dops_nil, ↓dopsX_nil, ↓dopsR_nil, ↓vdn, vup, extr_20, extr_21, extr_30, extr_31, extr_32, List.map_cons, List.map_nil, cond_true, cond_false, aop, aThen, aBlock, argEnv, ev, sput, sputO, binK, binI, unK, builtinK, pickK, Nat.reduceBEq, Nat.reduceAdd, Int.reduceBEq, Int.reduceBNe, Int.reduceLT, aPost, resK, tup, tyf, hu7.len]
    refine hN10 [(0, u), (1, v), (4, .bool false), (5, .pointer (some ⟨p5, 0, none⟩)), (6, .int .i64 0), (7, .pointer (some ⟨p7, 0, none⟩)), (8, .int .i64 0), (9, vint (M : Nat)), (10, .int .i64 0), (120, u), (121, vint f.length), (122, .int .i64 0)] _ _ ?_ (by simp (maxSteps := 2000000) only [↓aw_region, ↓aw_skip, ↓aw_seq, ↓aw_block, ↓aw_exit, ↓aw_ret, ↓sops_nil, ↓sops_go, ↓dops_nil, ↓dopsX_nil, ↓dopsR_nil, ↓vdn, vup, extr_20, extr_21, extr_30, extr_31, extr_32, List.map_cons, List.map_nil, cond_true, cond_false, aop, aThen, aBlock, argEnv, ev, sput, sputO, binK, binI, unK, builtinK, pickK, Nat.reduceBEq, Nat.reduceAdd, Int.reduceBEq, Int.reduceBNe, Int.reduceLT, aPost, resK, tup, tyf])
    clear hN10
    try clear N10
    refine aws_block ?_
    refine aws_hide fun Q hQ => ?_
    refine aw_loopW (γ := Nat) (fun k => k ≤ f.length)
      (fun k => ([(0, u), (1, v), (4, .bool false), (5, .pointer (some ⟨p5, 0, none⟩)), (6, .int .i64 0), (7, .pointer (some ⟨p7, 0, none⟩)), (8, .int .i64 0), (9, vint (M : Nat)), (10, vint (difTo f b M k)), (120, u), (121, vint f.length), (122, vint (k : Nat))], h7)) (fun k => f.length - k) 0 (Nat.zero_le _) (by simp (maxSteps := 2000000) only [↓aw_region, ↓aw_skip, ↓aw_seq, ↓aw_block, ↓aw_exit, ↓aw_ret, ↓sops_nil, ↓sops_go, ↓dops_nil, ↓dopsX_nil, ↓dopsR_nil, ↓vdn, vup, extr_20, extr_21, extr_30, extr_31, extr_32, List.map_cons, List.map_nil, cond_true, cond_false, aop, aThen, aBlock, argEnv, ev, sput, sputO, binK, binI, unK, builtinK, pickK, Nat.reduceBEq, Nat.reduceAdd, Int.reduceBEq, Int.reduceBNe, Int.reduceLT, aPost, resK, tup, tyf, Int.natCast_zero, difTo]) rfl ?_
    rintro k hk
    refine aws_hide fun Q2 hQ2 => ?_
    simp only [l5_0]
    by_cases hin : (k : Int) < f.length
    · have hk' : k < f.length := by omega
      have hkb : k < b.length := by omega
      obtain ⟨⟨p1, p2⟩, hp⟩ : ∃ p, f.getD k (0, 0) = p := ⟨_, rfl⟩
      obtain ⟨⟨r1, r2⟩, hr⟩ : ∃ p, b.getD k (0, 0) = p := ⟨_, rfl⟩
      obtain ⟨_, s1, s2, s3, _, s4⟩ := cc.rp (List.mem_append_left b (getD_mem hk'))
      obtain ⟨_, t1, t2, t3, _, t4⟩ := cc.rp (List.mem_append_right f (getD_mem hkb))
      rw [hM, hp] at s1 s2 s4
      rw [hM, hr] at t1 t2 t4
      rw [hp] at s3
      rw [hr] at t3
      simp only at s1 s2 s3 s4 t1 t2 t3 t4
      have hdx : difX f b M k = (M : Int) / p2 * p1 - (M : Int) / r2 * r1 := by rw [difX, hp, hr]
      have db := (difX_rp cc hl hk').2
      obtain ⟨_, e1, e2⟩ := difTo_rp cc hl (by rw [hM]; exact hM1000) k (by omega)
      rw [hM] at db e1 e2
      obtain ⟨D, hD⟩ : ∃ D, difX f b M k = D := ⟨_, rfl⟩
      obtain ⟨T, hT⟩ : ∃ T, difTo f b M k = T := ⟨_, rfl⟩
      rw [hD] at hdx db
      rw [hT] at e1 e2
      rw [hT]
      have z1 : ¬ p2 = 0 := by omega
      have z2 : ¬ r2 = 0 := by omega
      have q1 : quoV .i64 ((M : Nat) : Int) p2 = (M : Int) / p2 := quo_dvd (by omega) s4
      have q2 : quoV .i64 ((M : Nat) : Int) r2 = (M : Int) / r2 := quo_dvd (by omega) t4
      have m1 : mulV .i64 ((M : Int) / p2) p1 = (M : Int) / p2 * p1 := mulN (by omega)
      have m2 : mulV .i64 ((M : Int) / r2) r1 = (M : Int) / r2 * r1 := mulN (by omega)
      have m3 : subV .i64 ((M : Int) / p2 * p1) ((M : Int) / r2 * r1) = D := by rw [subN (by omega), hdx]
      have hDD : (D * D).natAbs ≤ 1000000 := by
        rw [Int.natAbs_mul]; exact Nat.mul_le_mul (Nat.le_trans db hM1000) (Nat.le_trans db hM1000)
      have m4 : mulV .i64 D D = D * D := mulN (by omega)
      have m5 : addV .i64 T (D * D) = difTo f b M (k + 1) := by rw [addN (by omega), difTo, hT, hD]
      obtain ⟨_, _, i0, i1, i2, i3, i4⟩ := pairFlds hu7 hk'
      obtain ⟨_, _, j0, j1, j2, j3, j4⟩ := pairFlds hv7' hkb
      rw [hp] at i3 i4
      rw [hr] at j3 j4
      refine aws_cut fun N11 hN11 => ?_
      simp (maxSteps := 2000000) only [s5, ↓aw_region, ↓aw_skip, ↓aw_seq, ↓aw_block, ↓aw_exit, ↓aw_ret, ↓sops_nil, ↓sops_go, ↓dops_nil, ↓dopsX_nil, ↓dopsR_nil, ↓vdn, vup, extr_20, extr_21, extr_30, extr_31, extr_32, List.map_cons, List.map_nil, cond_true, cond_false, aop, aThen, aBlock, argEnv, ev, sput, sputO, binK, binI, unK, builtinK, pickK, Nat.reduceBEq, Nat.reduceAdd, Int.reduceBEq, Int.reduceBNe, Int.reduceLT, aPost, resK, tup, tyf, hin]
      refine hN11 [(0, u), (1, v), (4, .bool false), (5, .pointer (some ⟨p5, 0, none⟩)), (6, .int .i64 0), (7, .pointer (some ⟨p7, 0, none⟩)), (8, .int .i64 0), (9, vint (M : Nat)), (10, vint T), (120, u), (121, vint f.length), (122, vint (k : Nat)), (123, .bool true)] _ _ ?_ (by simp (maxSteps := 2000000) only [↓aw_region, ↓aw_skip, ↓aw_seq, ↓aw_block, ↓aw_exit, ↓aw_ret, ↓sops_nil, ↓sops_go, ↓dops_nil, ↓dopsX_nil, ↓dopsR_nil, ↓vdn, vup, extr_20, extr_21, extr_30, extr_31, extr_32, List.map_cons, List.map_nil, cond_true, cond_false, aop, aThen, aBlock, argEnv, ev, sput, sputO, binK, binI, unK, builtinK, pickK, Nat.reduceBEq, Nat.reduceAdd, Int.reduceBEq, Int.reduceBNe, Int.reduceLT, aPost, resK, tup, tyf])
      clear hN11
      try clear N11
      refine aws_cut fun N12 hN12 => ?_
      simp (maxSteps := 2000000) only [s5, ↓aw_region, ↓aw_skip, ↓aw_seq, ↓aw_block, ↓aw_exit, ↓aw_ret, ↓sops_nil, ↓sops_go, ↓dops_nil, ↓dopsX_nil, ↓dopsR_nil, ↓vdn, vup, extr_20, extr_21, extr_30, extr_31, extr_32, List.map_cons, List.map_nil, cond_true, cond_false, aop, aThen, aBlock, argEnv, ev, sput, sputO, binK, binI, unK, builtinK, pickK, Nat.reduceBEq, Nat.reduceAdd, Int.reduceBEq, Int.reduceBNe, Int.reduceLT, aPost, resK, tup, tyf]
      refine hN12 [(0, u), (1, v), (4, .bool false), (5, .pointer (some ⟨p5, 0, none⟩)), (6, .int .i64 0), (7, .pointer (some ⟨p7, 0, none⟩)), (8, .int .i64 0), (9, vint (M : Nat)), (10, vint T), (120, u), (121, vint f.length), (122, vint (k : Nat))] _ _ ?_ (by simp (maxSteps := 2000000) only [↓aw_region, ↓aw_skip, ↓aw_seq, ↓aw_block, ↓aw_exit, ↓aw_ret, ↓sops_nil, ↓sops_go, ↓dops_nil, ↓dopsX_nil, ↓dopsR_nil, ↓vdn, vup, extr_20, extr_21, extr_30, extr_31, extr_32, List.map_cons, List.map_nil, cond_true, cond_false, aop, aThen, aBlock, argEnv, ev, sput, sputO, binK, binI, unK, builtinK, pickK, Nat.reduceBEq, Nat.reduceAdd, Int.reduceBEq, Int.reduceBNe, Int.reduceLT, aPost, resK, tup, tyf])
      clear hN12
      try clear N12
      refine aws_cutW fun B hB => ?_
      refine aws_block ?_
      refine aws_cut fun N13 hN13 => ?_
      simp (maxSteps := 2000000) only [s5, ↓aw_region, ↓aw_skip, ↓aw_seq, ↓aw_block, ↓aw_exit, ↓aw_ret, ↓sops_nil, ↓sops_go, ↓dops_nil, ↓dopsX_nil, ↓dopsR_nil, ↓vdn, vup, extr_20, extr_21, extr_30, extr_31, extr_32, List.map_cons, List.map_nil, cond_true, cond_false, aop, aThen, aBlock, argEnv, ev, sput, sputO, binK, binI, unK, builtinK, pickK, Nat.reduceBEq, Nat.reduceAdd, Int.reduceBEq, Int.reduceBNe, Int.reduceLT, aPost, resK, tup, tyf]
      refine hN13 [(0, u), (1, v), (4, .bool false), (5, .pointer (some ⟨p5, 0, none⟩)), (6, .int .i64 0), (7, .pointer (some ⟨p7, 0, none⟩)), (8, .int .i64 0), (9, vint (M : Nat)), (10, vint T), (11, vint (k : Nat)), (120, u), (121, vint f.length), (122, vint (k : Nat))] _ _ ?_ (by simp (maxSteps := 2000000) only [↓aw_region, ↓aw_skip, ↓aw_seq, ↓aw_block, ↓aw_exit, ↓aw_ret, ↓sops_nil, ↓sops_go, ↓dops_nil, ↓dopsX_nil, ↓dopsR_nil, ↓vdn, vup, extr_20, extr_21, extr_30, extr_31, extr_32, List.map_cons, List.map_nil, cond_true, cond_false, aop, aThen, aBlock, argEnv, ev, sput, sputO, binK, binI, unK, builtinK, pickK, Nat.reduceBEq, Nat.reduceAdd, Int.reduceBEq, Int.reduceBNe, Int.reduceLT, aPost, resK, tup, tyf])
      clear hN13
      try clear N13
      refine aws_cut fun N14 hN14 => ?_
      simp only [q5_16]
      refine aw_drawX [] (by kernel_rfl) (by kernel_rfl) (by kernel_rfl) (by kernel_rfl) ?_
      simp (maxSteps := 2000000) only [s5, ↓aw_region, ↓aw_skip, ↓aw_seq, ↓aw_block, ↓aw_exit, ↓aw_ret, ↓sops_nil, ↓sops_go, ↓dops_nil, ↓dopsX_nil, ↓dopsR_nil, ↓vdn, vup, extr_20, extr_21, extr_30, extr_31, extr_32, List.map_cons, List.map_nil, cond_true, cond_false, aop, aThen, aBlock, argEnv, ev, sput, sputO, binK, binI, unK, builtinK, pickK, Nat.reduceBEq, Nat.reduceAdd, Int.reduceBEq, Int.reduceBNe, Int.reduceLT, aPost, resK, tup, tyf, i0, i1, i2, i3, i4, j0, j1, j2, j3, j4, ne_eq, z1, z2, not_false_eq_true, q1, q2, m1, m2, m3]
      refine hN14 [(0, u), (1, v), (4, .bool false), (5, .pointer (some ⟨p5, 0, none⟩)), (6, .int .i64 0), (7, .pointer (some ⟨p7, 0, none⟩)), (8, .int .i64 0), (9, vint (M : Nat)), (10, vint T), (11, vint (k : Nat)), (12, vint D), (120, u), (121, vint f.length), (122, vint (k : Nat))] _ _ ?_ (by simp (maxSteps := 2000000) only [↓aw_region, ↓aw_skip, ↓aw_seq, ↓aw_block, ↓aw_exit, ↓aw_ret, ↓sops_nil, ↓sops_go, ↓dops_nil, ↓dopsX_nil, ↓dopsR_nil, ↓vdn, vup, extr_20, extr_21, extr_30, extr_31, extr_32, List.map_cons, List.map_nil, cond_true, cond_false, aop, aThen, aBlock, argEnv, ev, sput, sputO, binK, binI, unK, builtinK, pickK, Nat.reduceBEq, Nat.reduceAdd, Int.reduceBEq, Int.reduceBNe, Int.reduceLT, aPost, resK, tup, tyf])
      clear hN14
      try clear N14
      refine aw_aws ?_
      simp (maxSteps := 2000000) only [s5, ↓aw_region, ↓aw_skip, ↓aw_seq, ↓aw_block, ↓aw_exit, ↓aw_ret, ↓sops_nil, ↓sops_go, ↓dops_nil, ↓dopsX_nil, ↓dopsR_nil, ↓vdn, vup, extr_20, extr_21, extr_30, extr_31, extr_32, List.map_cons, List.map_nil, cond_true, cond_false, aop, aThen, aBlock, argEnv, ev, sput, sputO, binK, binI, unK, builtinK, pickK, Nat.reduceBEq, Nat.reduceAdd, Int.reduceBEq, Int.reduceBNe, Int.reduceLT, aPost, resK, tup, tyf, m4, m5]
      refine hB [(0, u), (1, v), (4, .bool false), (5, .pointer (some ⟨p5, 0, none⟩)), (6, .int .i64 0), (7, .pointer (some ⟨p7, 0, none⟩)), (8, .int .i64 0), (9, vint (M : Nat)), (10, vint (difTo f b M (k + 1))), (120, u), (121, vint f.length), (122, vint (k : Nat))] _ _ ?_ (by simp (maxSteps := 2000000) only [↓aw_region, ↓aw_skip, ↓aw_seq, ↓aw_block, ↓aw_exit, ↓aw_ret, ↓sops_nil, ↓sops_go, ↓dops_nil, ↓dopsX_nil, ↓dopsR_nil, ↓vdn, vup, extr_20, extr_21, extr_30, extr_31, extr_32, List.map_cons, List.map_nil, cond_true, cond_false, aop, aThen, aBlock, argEnv, ev, sput, sputO, binK, binI, unK, builtinK, pickK, Nat.reduceBEq, Nat.reduceAdd, Int.reduceBEq, Int.reduceBNe, Int.reduceLT, aPost, resK, tup, tyf])
      clear hB
      try clear B
      refine aw_aws ?_
      simp (maxSteps := 2000000) only [s5, ↓aw_region, ↓aw_skip, ↓aw_seq, ↓aw_block, ↓aw_exit, ↓aw_ret, ↓sops_nil, ↓sops_go, ↓dops_nil, ↓dopsX_nil, ↓dopsR_nil, ↓vdn, vup, extr_20, extr_21, extr_30, extr_31, extr_32, List.map_cons, List.map_nil, cond_true, cond_false, aop, aThen, aBlock, argEnv, ev, sput, sputO, binK, binI, unK, builtinK, pickK, Nat.reduceBEq, Nat.reduceAdd, Int.reduceBEq, Int.reduceBNe, Int.reduceLT, aPost, resK, tup, tyf, add1 (show k < 9223372036854775807 by omega)]
      exact hQ2 _ _ _ ⟨k + 1, hk', by omega, by simp (maxSteps := 2000000) only [↓aw_region, ↓aw_skip, ↓aw_seq, ↓aw_block, ↓aw_exit, ↓aw_ret, ↓sops_nil, ↓sops_go, ↓dops_nil, ↓dopsX_nil, ↓dopsR_nil, ↓vdn, vup, extr_20, extr_21, extr_30, extr_31, extr_32, List.map_cons, List.map_nil, cond_true, cond_false, aop, aThen, aBlock, argEnv, ev, sput, sputO, binK, binI, unK, builtinK, pickK, Nat.reduceBEq, Nat.reduceAdd, Int.reduceBEq, Int.reduceBNe, Int.reduceLT, aPost, resK, tup, tyf], rfl⟩
    · obtain rfl : k = f.length := by omega
      refine aws_cut fun N15 hN15 => ?_
      simp (maxSteps := 2000000) only [s5, ↓aw_region, ↓aw_skip, ↓aw_seq, ↓aw_block, ↓aw_exit, ↓aw_ret, ↓sops_nil, ↓sops_go, ↓dops_nil, ↓dopsX_nil, ↓dopsR_nil, ↓vdn, vup, extr_20, extr_21, extr_30, extr_31, extr_32, List.map_cons, List.map_nil, cond_true, cond_false, aop, aThen, aBlock, argEnv, ev, sput, sputO, binK, binI, unK, builtinK, pickK, Nat.reduceBEq, Nat.reduceAdd, Int.reduceBEq, Int.reduceBNe, Int.reduceLT, aPost, resK, tup, tyf, hin]
      refine hN15 [(0, u), (1, v), (4, .bool false), (5, .pointer (some ⟨p5, 0, none⟩)), (6, .int .i64 0), (7, .pointer (some ⟨p7, 0, none⟩)), (8, .int .i64 0), (9, vint (M : Nat)), (10, vint (difTo f b M f.length)), (120, u), (121, vint f.length), (122, vint f.length), (123, .bool false)] _ _ ?_ (by simp (maxSteps := 2000000) only [↓aw_region, ↓aw_skip, ↓aw_seq, ↓aw_block, ↓aw_exit, ↓aw_ret, ↓sops_nil, ↓sops_go, ↓dops_nil, ↓dopsX_nil, ↓dopsR_nil, ↓vdn, vup, extr_20, extr_21, extr_30, extr_31, extr_32, List.map_cons, List.map_nil, cond_true, cond_false, aop, aThen, aBlock, argEnv, ev, sput, sputO, binK, binI, unK, builtinK, pickK, Nat.reduceBEq, Nat.reduceAdd, Int.reduceBEq, Int.reduceBNe, Int.reduceLT, aPost, resK, tup, tyf])
      clear hN15
      try clear N15
      refine aws_cut fun N16 hN16 => ?_
      simp (maxSteps := 2000000) only [s5, ↓aw_region, ↓aw_skip, ↓aw_seq, ↓aw_block, ↓aw_exit, ↓aw_ret, ↓sops_nil, ↓sops_go, ↓dops_nil, ↓dopsX_nil, ↓dopsR_nil, ↓vdn, vup, extr_20, extr_21, extr_30, extr_31, extr_32, List.map_cons, List.map_nil, cond_true, cond_false, aop, aThen, aBlock, argEnv, ev, sput, sputO, binK, binI, unK, builtinK, pickK, Nat.reduceBEq, Nat.reduceAdd, Int.reduceBEq, Int.reduceBNe, Int.reduceLT, aPost, resK, tup, tyf]
      refine hQ2 _ _ _ (hQ _ _ _ ?_)
      simp (maxSteps := 2000000) only [s5, ↓aw_region, ↓aw_skip, ↓aw_seq, ↓aw_block, ↓aw_exit, ↓aw_ret, ↓sops_nil, ↓sops_go, ↓dops_nil, ↓dopsX_nil, ↓dopsR_nil, ↓vdn, vup, extr_20, extr_21, extr_30, extr_31, extr_32, List.map_cons, List.map_nil, cond_true, cond_false, aop, aThen, aBlock, argEnv, ev, sput, sputO, binK, binI, unK, builtinK, pickK, Nat.reduceBEq, Nat.reduceAdd, Int.reduceBEq, Int.reduceBNe, Int.reduceLT, aPost, resK, tup, tyf, if_true]
      refine hZ [(0, u), (1, v), (4, .bool false), (5, .pointer (some ⟨p5, 0, none⟩)), (6, .int .i64 0), (7, .pointer (some ⟨p7, 0, none⟩)), (8, .int .i64 0), (9, vint (M : Nat)), (10, vint (difTo f b M f.length)), (123, .bool false)] _ _ ?_ (by simp (maxSteps := 2000000) only [↓aw_region, ↓aw_skip, ↓aw_seq, ↓aw_block, ↓aw_exit, ↓aw_ret, ↓sops_nil, ↓sops_go, ↓dops_nil, ↓dopsX_nil, ↓dopsR_nil, ↓vdn, vup, extr_20, extr_21, extr_30, extr_31, extr_32, List.map_cons, List.map_nil, cond_true, cond_false, aop, aThen, aBlock, argEnv, ev, sput, sputO, binK, binI, unK, builtinK, pickK, Nat.reduceBEq, Nat.reduceAdd, Int.reduceBEq, Int.reduceBNe, Int.reduceLT, aPost, resK, tup, tyf])
      clear hZ
      try clear Z
      obtain ⟨rd, d1, d2⟩ := difTo_rp cc hl (by rw [hM]; exact hM1000) f.length (Nat.le_refl _)
      have dz := difTo_zero cc hl (by rw [hM]; exact hM1000) cf cb
      rw [← gap_eq cf cb hl, hx, hy] at rd
      rw [hM] at rd d1 d2 dz
      have hnn : 0 ≤ y - x := by
        rw [← hx, ← hy, gap_eq cf cb hl]
        exact sumTo_nonneg fun i _ => sq_nn _
      have hlt : decide (y < x) = false := by
        rw [decide_eq_false_iff_not]; intro hc; grind
      obtain ⟨T, hT⟩ : ∃ T, difTo f b M f.length = T := ⟨_, rfl⟩
      rw [hT] at rd d1 d2 dz
      rw [hT]
      obtain ⟨B, hB⟩ : ∃ B, decide (f = b) = B := ⟨_, rfl⟩
      have hTB : (T == 0) = B := by
        rw [← hB, Bool.eq_iff_iff, beq_iff_eq, decide_eq_true_eq, dz]
        exact ⟨fun h => pairs_eq hl f.length (Nat.le_refl _) h rfl, fun h i _ => by rw [h]⟩
      have eqc := equalF_call hu7 hv7' (by omega)
      rw [hB] at eqc
      have bn : ∀ b : Bool, (b != b) = false := fun b => by cases b <;> rfl
      have rl := rless_call (h := h7) (a := y) (b := x) (by rw [Int.natAbs_mul]; have := Nat.mul_le_mul (show y.num.natAbs ≤ 1000000000 by omega) (show (x.den : Int).natAbs ≤ 1000000000 by omega); omega) (by rw [Int.natAbs_mul]; have := Nat.mul_le_mul (show x.num.natAbs ≤ 1000000000 by omega) (show (y.den : Int).natAbs ≤ 1000000000 by omega); omega)
      rw [hlt] at rl
      refine aws_cutW fun N hN => ?_
      refine aws_cut fun N17 hN17 => ?_
      simp (maxSteps := 2000000) only [s5, ↓aw_region, ↓aw_skip, ↓aw_seq, ↓aw_block, ↓aw_exit, ↓aw_ret, ↓sops_nil, ↓sops_go, ↓dops_nil, ↓dopsX_nil, ↓dopsR_nil, ↓vdn, vup, extr_20, extr_21, extr_30, extr_31, extr_32, List.map_cons, List.map_nil, cond_true, cond_false, aop, aThen, aBlock, argEnv, ev, sput, sputO, binK, binI, unK, builtinK, pickK, Nat.reduceBEq, Nat.reduceAdd, Int.reduceBEq, Int.reduceBNe, Int.reduceLT, aPost, resK, tup, tyf, hTB, callK, List.nil_append, List.append_nil, List.toList_toArray, List.cons_append]
      refine eqc.mono ?_
      rintro _ h7 ⟨rfl, rfl⟩
      simp (maxSteps := 2000000) only [s5, ↓aw_region, ↓aw_skip, ↓aw_seq, ↓aw_block, ↓aw_exit, ↓aw_ret, ↓sops_nil, ↓sops_go, ↓dops_nil, ↓dopsX_nil, ↓dopsR_nil, ↓vdn, vup, extr_20, extr_21, extr_30, extr_31, extr_32, List.map_cons, List.map_nil, cond_true, cond_false, aop, aThen, aBlock, argEnv, ev, sput, sputO, binK, binI, unK, builtinK, pickK, Nat.reduceBEq, Nat.reduceAdd, Int.reduceBEq, Int.reduceBNe, Int.reduceLT, aPost, resK, tup, tyf, bn, loadF d5, loadF d7, callK, List.nil_append, List.append_nil, List.toList_toArray, List.cons_append]
      refine rl.mono ?_
      rintro _ h7 ⟨rfl, rfl⟩
      refine hN17 [(0, u), (1, v), (4, .bool false), (5, .pointer (some ⟨p5, 0, none⟩)), (6, .int .i64 0), (7, .pointer (some ⟨p7, 0, none⟩)), (8, .int .i64 0), (9, vint (M : Nat)), (10, vint T), (123, .bool false), (168, .bool false)] _ _ ?_ (by simp (maxSteps := 2000000) only [↓aw_region, ↓aw_skip, ↓aw_seq, ↓aw_block, ↓aw_exit, ↓aw_ret, ↓sops_nil, ↓sops_go, ↓dops_nil, ↓dopsX_nil, ↓dopsR_nil, ↓vdn, vup, extr_20, extr_21, extr_30, extr_31, extr_32, List.map_cons, List.map_nil, cond_true, cond_false, aop, aThen, aBlock, argEnv, ev, sput, sputO, binK, binI, unK, builtinK, pickK, Nat.reduceBEq, Nat.reduceAdd, Int.reduceBEq, Int.reduceBNe, Int.reduceLT, aPost, resK, tup, tyf])
      clear hN17
      try clear N17
      refine aws_false rfl ?_
      refine aw_aws ?_
      simp (maxSteps := 2000000) only [s5, ↓aw_region, ↓aw_skip, ↓aw_seq, ↓aw_block, ↓aw_exit, ↓aw_ret, ↓sops_nil, ↓sops_go, ↓dops_nil, ↓dopsX_nil, ↓dopsR_nil, ↓vdn, vup, extr_20, extr_21, extr_30, extr_31, extr_32, List.map_cons, List.map_nil, cond_true, cond_false, aop, aThen, aBlock, argEnv, ev, sput, sputO, binK, binI, unK, builtinK, pickK, Nat.reduceBEq, Nat.reduceAdd, Int.reduceBEq, Int.reduceBNe, Int.reduceLT, aPost, resK, tup, tyf]
      refine hN [(0, u), (1, v), (4, .bool false), (5, .pointer (some ⟨p5, 0, none⟩)), (6, .int .i64 0), (7, .pointer (some ⟨p7, 0, none⟩)), (8, .int .i64 0), (9, vint (M : Nat)), (10, vint T), (123, .bool false)] _ _ ?_ (by simp (maxSteps := 2000000) only [↓aw_region, ↓aw_skip, ↓aw_seq, ↓aw_block, ↓aw_exit, ↓aw_ret, ↓sops_nil, ↓sops_go, ↓dops_nil, ↓dopsX_nil, ↓dopsR_nil, ↓vdn, vup, extr_20, extr_21, extr_30, extr_31, extr_32, List.map_cons, List.map_nil, cond_true, cond_false, aop, aThen, aBlock, argEnv, ev, sput, sputO, binK, binI, unK, builtinK, pickK, Nat.reduceBEq, Nat.reduceAdd, Int.reduceBEq, Int.reduceBNe, Int.reduceLT, aPost, resK, tup, tyf])
      clear hN
      try clear N
      -- the gap in least terms
      have a1 := Nat.mul_le_mul (show y.num.natAbs ≤ 1000000000 by omega) (show x.den ≤ 1000000000 by omega)
      have a2 := Nat.mul_le_mul (show x.num.natAbs ≤ 1000000000 by omega) (show y.den ≤ 1000000000 by omega)
      have a3 := Nat.mul_le_mul (show x.den ≤ 1000000000 by omega) (show y.den ≤ 1000000000 by omega)
      have b1 : (y.num * (x.den : Int)).natAbs ≤ 1000000000 * 1000000000 := by rw [Int.natAbs_mul, Int.natAbs_natCast]; exact a1
      have b2 : (x.num * (y.den : Int)).natAbs ≤ 1000000000 * 1000000000 := by rw [Int.natAbs_mul, Int.natAbs_natCast]; exact a2
      have m1 : mulV .i64 y.num (x.den : Int) = y.num * (x.den : Int) := mulN (by omega)
      have m2 : mulV .i64 x.num (y.den : Int) = x.num * (y.den : Int) := mulN (by omega)
      have m3 : mulV .i64 (x.den : Int) (y.den : Int) = ((x.den * y.den : Nat) : Int) := by
        rw [mulN (by rw [← Int.natCast_mul]; omega), Int.natCast_mul]
      have m4 : subV .i64 (y.num * (x.den : Int)) (x.num * (y.den : Int)) = y.num * x.den - x.num * y.den := subN (by omega)
      have sf := sub_frac y x
      have hDp : 0 < x.den * y.den := Nat.mul_pos xp yp
      obtain ⟨N, hN⟩ : ∃ N, y.num * (x.den : Int) - x.num * (y.den : Int) = N := ⟨_, rfl⟩
      have hNb : N.natAbs < 9223372036854775808 := by omega
      obtain ⟨D, hD⟩ : ∃ D, x.den * y.den = D := ⟨_, rfl⟩
      rw [hN, hD] at sf
      rw [hN] at m4
      rw [hD] at m3 hDp a3
      refine aws_cut fun N18 hN18 => ?_
      simp only [q5_21]
      refine aw_drawX [] (by kernel_rfl) (by kernel_rfl) (by kernel_rfl) (by kernel_rfl) ?_
      simp (maxSteps := 2000000) only [s5, ↓aw_region, ↓aw_skip, ↓aw_seq, ↓aw_block, ↓aw_exit, ↓aw_ret, ↓sops_nil, ↓sops_go, ↓dops_nil, ↓dopsX_nil, ↓dopsR_nil, ↓vdn, vup, extr_20, extr_21, extr_30, extr_31, extr_32, List.map_cons, List.map_nil, cond_true, cond_false, aop, aThen, aBlock, argEnv, ev, sput, sputO, binK, binI, unK, builtinK, pickK, Nat.reduceBEq, Nat.reduceAdd, Int.reduceBEq, Int.reduceBNe, Int.reduceLT, aPost, resK, tup, tyf, fA0, fA1, loadF0 d5, loadF1 d5, loadF0 d7, loadF1 d7, m1, m2, m3, m4]
      refine hN18 [(0, u), (1, v), (4, .bool false), (5, .pointer (some ⟨p5, 0, none⟩)), (6, .int .i64 0), (7, .pointer (some ⟨p7, 0, none⟩)), (8, .int .i64 0), (9, vint (M : Nat)), (10, vint T), (13, vint N), (14, vint (D : Nat)), (123, .bool false)] _ _ ?_ (by simp (maxSteps := 2000000) only [↓aw_region, ↓aw_skip, ↓aw_seq, ↓aw_block, ↓aw_exit, ↓aw_ret, ↓sops_nil, ↓sops_go, ↓dops_nil, ↓dopsX_nil, ↓dopsR_nil, ↓vdn, vup, extr_20, extr_21, extr_30, extr_31, extr_32, List.map_cons, List.map_nil, cond_true, cond_false, aop, aThen, aBlock, argEnv, ev, sput, sputO, binK, binI, unK, builtinK, pickK, Nat.reduceBEq, Nat.reduceAdd, Int.reduceBEq, Int.reduceBNe, Int.reduceLT, aPost, resK, tup, tyf])
      clear hN18
      try clear N18
      refine aws_cut fun N19 hN19 => ?_
      simp (maxSteps := 2000000) only [s5, ↓aw_region, ↓aw_skip, ↓aw_seq, ↓aw_block, ↓aw_exit, ↓aw_ret, ↓sops_nil, ↓sops_go, ↓dops_nil, ↓dopsX_nil, ↓dopsR_nil, ↓vdn, vup, extr_20, extr_21, extr_30, extr_31, extr_32, List.map_cons, List.map_nil, cond_true, cond_false, aop, aThen, aBlock, argEnv, ev, sput, sputO, binK, binI, unK, builtinK, pickK, Nat.reduceBEq, Nat.reduceAdd, Int.reduceBEq, Int.reduceBNe, Int.reduceLT, aPost, resK, tup, tyf, if_true, mmK, max_abs hNb]
      refine hN19 [(0, u), (1, v), (4, .bool false), (5, .pointer (some ⟨p5, 0, none⟩)), (6, .int .i64 0), (7, .pointer (some ⟨p7, 0, none⟩)), (8, .int .i64 0), (9, vint (M : Nat)), (10, vint T), (13, vint N), (14, vint (D : Nat)), (15, vint (N.natAbs : Nat)), (16, vint (D : Nat)), (123, .bool false)] _ _ ?_ (by simp (maxSteps := 2000000) only [↓aw_region, ↓aw_skip, ↓aw_seq, ↓aw_block, ↓aw_exit, ↓aw_ret, ↓sops_nil, ↓sops_go, ↓dops_nil, ↓dopsX_nil, ↓dopsR_nil, ↓vdn, vup, extr_20, extr_21, extr_30, extr_31, extr_32, List.map_cons, List.map_nil, cond_true, cond_false, aop, aThen, aBlock, argEnv, ev, sput, sputO, binK, binI, unK, builtinK, pickK, Nat.reduceBEq, Nat.reduceAdd, Int.reduceBEq, Int.reduceBNe, Int.reduceLT, aPost, resK, tup, tyf])
      clear hN19
      try clear N19
      obtain ⟨A, hA⟩ : ∃ A, N.natAbs = A := ⟨_, rfl⟩
      rw [hA] at hNb ⊢
      refine aws_cutW fun G hG => ?_
      refine aws_block ?_
      refine aws_hide fun Q3 hQ3 => ?_
      refine aw_loopW (γ := Nat × Nat) (fun s => Nat.gcd s.1 s.2 = Nat.gcd A D ∧ s.1 < 9223372036854775808 ∧ s.2 < 9223372036854775808)
        (fun s => ([(0, u), (1, v), (4, .bool false), (5, .pointer (some ⟨p5, 0, none⟩)), (6, .int .i64 0), (7, .pointer (some ⟨p7, 0, none⟩)), (8, .int .i64 0), (9, vint (M : Nat)), (10, vint T), (13, vint N), (14, vint (D : Nat)), (15, vint (s.1 : Nat)), (16, vint (s.2 : Nat)), (123, .bool false)], h7)) (fun s => s.2) (A, D) ⟨rfl, hNb, by simp only; omega⟩ (by simp (maxSteps := 2000000) only [↓aw_region, ↓aw_skip, ↓aw_seq, ↓aw_block, ↓aw_exit, ↓aw_ret, ↓sops_nil, ↓sops_go, ↓dops_nil, ↓dopsX_nil, ↓dopsR_nil, ↓vdn, vup, extr_20, extr_21, extr_30, extr_31, extr_32, List.map_cons, List.map_nil, cond_true, cond_false, aop, aThen, aBlock, argEnv, ev, sput, sputO, binK, binI, unK, builtinK, pickK, Nat.reduceBEq, Nat.reduceAdd, Int.reduceBEq, Int.reduceBNe, Int.reduceLT, aPost, resK, tup, tyf]) rfl ?_
      rintro ⟨m, w⟩ ⟨huw, hmb, hw⟩
      simp only at huw hmb hw
      refine aws_hide fun Q4 hQ4 => ?_
      simp only [l5_1]
      by_cases hw0 : w = 0
      · subst hw0
        have e0 : (((0 : Nat) : Int) != 0) = false := rfl
        rw [Nat.gcd_zero_right] at huw
        subst huw
        refine aws_cut fun N20 hN20 => ?_
        simp (maxSteps := 2000000) only [s5, ↓aw_region, ↓aw_skip, ↓aw_seq, ↓aw_block, ↓aw_exit, ↓aw_ret, ↓sops_nil, ↓sops_go, ↓dops_nil, ↓dopsX_nil, ↓dopsR_nil, ↓vdn, vup, extr_20, extr_21, extr_30, extr_31, extr_32, List.map_cons, List.map_nil, cond_true, cond_false, aop, aThen, aBlock, argEnv, ev, sput, sputO, binK, binI, unK, builtinK, pickK, Nat.reduceBEq, Nat.reduceAdd, Int.reduceBEq, Int.reduceBNe, Int.reduceLT, aPost, resK, tup, tyf, e0]
        refine hQ4 _ _ _ (hQ3 _ _ _ ?_)
        simp (maxSteps := 2000000) only [s5, ↓aw_region, ↓aw_skip, ↓aw_seq, ↓aw_block, ↓aw_exit, ↓aw_ret, ↓sops_nil, ↓sops_go, ↓dops_nil, ↓dopsX_nil, ↓dopsR_nil, ↓vdn, vup, extr_20, extr_21, extr_30, extr_31, extr_32, List.map_cons, List.map_nil, cond_true, cond_false, aop, aThen, aBlock, argEnv, ev, sput, sputO, binK, binI, unK, builtinK, pickK, Nat.reduceBEq, Nat.reduceAdd, Int.reduceBEq, Int.reduceBNe, Int.reduceLT, aPost, resK, tup, tyf, if_true]
        refine hG [(0, u), (1, v), (4, .bool false), (5, .pointer (some ⟨p5, 0, none⟩)), (6, .int .i64 0), (7, .pointer (some ⟨p7, 0, none⟩)), (8, .int .i64 0), (9, vint (M : Nat)), (10, vint T), (13, vint N), (14, vint (D : Nat)), (15, vint (Nat.gcd A D : Nat)), (123, .bool false)] _ _ ?_ (by simp (maxSteps := 2000000) only [↓aw_region, ↓aw_skip, ↓aw_seq, ↓aw_block, ↓aw_exit, ↓aw_ret, ↓sops_nil, ↓sops_go, ↓dops_nil, ↓dopsX_nil, ↓dopsR_nil, ↓vdn, vup, extr_20, extr_21, extr_30, extr_31, extr_32, List.map_cons, List.map_nil, cond_true, cond_false, aop, aThen, aBlock, argEnv, ev, sput, sputO, binK, binI, unK, builtinK, pickK, Nat.reduceBEq, Nat.reduceAdd, Int.reduceBEq, Int.reduceBNe, Int.reduceLT, aPost, resK, tup, tyf])
        clear hG
        try clear G
        have hgp := Nat.gcd_pos_of_pos_right A hDp
        have hg0 : ¬ ((Nat.gcd A D : Nat) : Int) = 0 := by omega
        have tr := terms (x := N) hDp
        rw [hA, sf] at tr
        have q1 : quoV .i64 N ((Nat.gcd A D : Nat) : Int) = (y - x).num := by
          rw [quo_dvd (by omega) (by rw [← hA]; exact gcd_dvd_int N D), tr.1]
        have q2 : quoV .i64 ((D : Nat) : Int) ((Nat.gcd A D : Nat) : Int) = ((y - x).den : Int) := by
          rw [quoD (by omega) (Nat.gcd_dvd_right _ _), tr.2]
        obtain ⟨q, hq⟩ : ∃ q, y - x = q := ⟨_, rfl⟩
        rw [hq] at q1 q2 rd
        refine aws_cut fun N21 hN21 => ?_
        simp only [q5_25]
        refine aw_drawX [] (by kernel_rfl) (by kernel_rfl) (by kernel_rfl) (by kernel_rfl) ?_
        simp (maxSteps := 2000000) only [s5, ↓aw_region, ↓aw_skip, ↓aw_seq, ↓aw_block, ↓aw_exit, ↓aw_ret, ↓sops_nil, ↓sops_go, ↓dops_nil, ↓dopsX_nil, ↓dopsR_nil, ↓vdn, vup, extr_20, extr_21, extr_30, extr_31, extr_32, List.map_cons, List.map_nil, cond_true, cond_false, aop, aThen, aBlock, argEnv, ev, sput, sputO, binK, binI, unK, builtinK, pickK, Nat.reduceBEq, Nat.reduceAdd, Int.reduceBEq, Int.reduceBNe, Int.reduceLT, aPost, resK, tup, tyf, ne_eq, hg0, not_false_eq_true, q1, q2]
        refine hN21 [(0, u), (1, v), (4, .bool false), (5, .pointer (some ⟨p5, 0, none⟩)), (6, .int .i64 0), (7, .pointer (some ⟨p7, 0, none⟩)), (8, .int .i64 0), (9, vint (M : Nat)), (10, vint T), (13, vint q.num), (14, vint (q.den : Nat)), (123, .bool false)] _ _ ?_ (by simp (maxSteps := 2000000) only [↓aw_region, ↓aw_skip, ↓aw_seq, ↓aw_block, ↓aw_exit, ↓aw_ret, ↓sops_nil, ↓sops_go, ↓dops_nil, ↓dopsX_nil, ↓dopsR_nil, ↓vdn, vup, extr_20, extr_21, extr_30, extr_31, extr_32, List.map_cons, List.map_nil, cond_true, cond_false, aop, aThen, aBlock, argEnv, ev, sput, sputO, binK, binI, unK, builtinK, pickK, Nat.reduceBEq, Nat.reduceAdd, Int.reduceBEq, Int.reduceBNe, Int.reduceLT, aPost, resK, tup, tyf])
        clear hN21
        try clear N21
        have hMM := Nat.mul_le_mul hM1000 hM1000
        have p1 : mulV .i64 ((M : Nat) : Int) ((M : Nat) : Int) = ((M * M : Nat) : Int) := by rw [mulN (by rw [← Int.natCast_mul]; omega), Int.natCast_mul]
        have qp := q.den_pos
        have p2 : ¬ ((q.den : Nat) : Int) = 0 := by omega
        have p3 : (((M * M : Nat) : Int).tmod ((q.den : Nat) : Int) == 0) = true := by
          rw [Int.tmod_eq_emod_of_nonneg (by omega), beq_iff_eq, ← Int.natCast_emod, Nat.mod_eq_zero_of_dvd rd.dvd]; rfl
        have p4 := quoD (x := M * M) (y := q.den) (by omega) rd.dvd
        have p5 : mulV .i64 ((M * M / q.den : Nat) : Int) q.num = T := by
          have := rd.num
          rw [mulN (by rw [Int.mul_comm, this]; omega), Int.mul_comm, this]
        have p6 : (T == T) = true := by simp
        refine aw_aws ?_
        simp only [q5_26]
        refine aw_cut fun N0 hN0 => ?_
        refine aw_regcut 17 fun N1 hN1 => ?_
        simp (maxSteps := 2000000) only [s5, ↓aw_region, ↓aw_skip, ↓aw_seq, ↓aw_block, ↓aw_exit, ↓aw_ret, ↓sops_nil, ↓sops_go, ↓dops_nil, ↓dopsX_nil, ↓dopsR_nil, ↓vdn, vup, extr_20, extr_21, extr_30, extr_31, extr_32, List.map_cons, List.map_nil, cond_true, cond_false, aop, aThen, aBlock, argEnv, ev, sput, sputO, binK, binI, unK, builtinK, pickK, Nat.reduceBEq, Nat.reduceAdd, Int.reduceBEq, Int.reduceBNe, Int.reduceLT, aPost, resK, tup, tyf, List.take_succ_cons, List.take_zero, ne_eq, p1, p2, not_false_eq_true, p3, p4, p5, p6]
        refine hN1 _ _ ?_
        clear hN1 N1
        simp (maxSteps := 2000000) only [s5, ↓aw_region, ↓aw_skip, ↓aw_seq, ↓aw_block, ↓aw_exit, ↓aw_ret, ↓sops_nil, ↓sops_go, ↓dops_nil, ↓dopsX_nil, ↓dopsR_nil, ↓vdn, vup, extr_20, extr_21, extr_30, extr_31, extr_32, List.map_cons, List.map_nil, cond_true, cond_false, aop, aThen, aBlock, argEnv, ev, sput, sputO, binK, binI, unK, builtinK, pickK, Nat.reduceBEq, Nat.reduceAdd, Int.reduceBEq, Int.reduceBNe, Int.reduceLT, aPost, resK, tup, tyf, List.drop_succ_cons, List.drop_zero, callK, List.nil_append, List.append_nil, List.toList_toArray, List.cons_append]
        refine (show APure prog 21 [] h7 (.bool true) from awake_call).mono ?_
        rintro _ H ⟨rfl, rfl⟩
        refine hN0 _ _ ?_
        simp (maxSteps := 2000000) only [s5, ↓aw_region, ↓aw_skip, ↓aw_seq, ↓aw_block, ↓aw_exit, ↓aw_ret, ↓sops_nil, ↓sops_go, ↓dops_nil, ↓dopsX_nil, ↓dopsR_nil, ↓vdn, vup, extr_20, extr_21, extr_30, extr_31, extr_32, List.map_cons, List.map_nil, cond_true, cond_false, aop, aThen, aBlock, argEnv, ev, sput, sputO, binK, binI, unK, builtinK, pickK, Nat.reduceBEq, Nat.reduceAdd, Int.reduceBEq, Int.reduceBNe, Int.reduceLT, aPost, resK, tup, tyf]
      · have e0 : (((w : Nat) : Int) != 0) = true := by
          have : ((w : Nat) : Int) ≠ 0 := by omega
          simpa using this
        have e1 : ¬ ((w : Nat) : Int) = 0 := by omega
        have etm : ((m : Nat) : Int).tmod ((w : Nat) : Int) = ((m % w : Nat) : Int) := by rw [Int.tmod_eq_emod_of_nonneg (by omega)]; rfl
        have hlt := Nat.mod_lt m (show w > 0 by omega)
        refine aws_cut fun N22 hN22 => ?_
        simp (maxSteps := 2000000) only [s5, ↓aw_region, ↓aw_skip, ↓aw_seq, ↓aw_block, ↓aw_exit, ↓aw_ret, ↓sops_nil, ↓sops_go, ↓dops_nil, ↓dopsX_nil, ↓dopsR_nil, ↓vdn, vup, extr_20, extr_21, extr_30, extr_31, extr_32, List.map_cons, List.map_nil, cond_true, cond_false, aop, aThen, aBlock, argEnv, ev, sput, sputO, binK, binI, unK, builtinK, pickK, Nat.reduceBEq, Nat.reduceAdd, Int.reduceBEq, Int.reduceBNe, Int.reduceLT, aPost, resK, tup, tyf, e0]
        refine hN22 [(0, u), (1, v), (4, .bool false), (5, .pointer (some ⟨p5, 0, none⟩)), (6, .int .i64 0), (7, .pointer (some ⟨p7, 0, none⟩)), (8, .int .i64 0), (9, vint (M : Nat)), (10, vint T), (13, vint N), (14, vint (D : Nat)), (15, vint (m : Nat)), (16, vint (w : Nat)), (123, .bool false)] _ _ ?_ (by simp (maxSteps := 2000000) only [↓aw_region, ↓aw_skip, ↓aw_seq, ↓aw_block, ↓aw_exit, ↓aw_ret, ↓sops_nil, ↓sops_go, ↓dops_nil, ↓dopsX_nil, ↓dopsR_nil, ↓vdn, vup, extr_20, extr_21, extr_30, extr_31, extr_32, List.map_cons, List.map_nil, cond_true, cond_false, aop, aThen, aBlock, argEnv, ev, sput, sputO, binK, binI, unK, builtinK, pickK, Nat.reduceBEq, Nat.reduceAdd, Int.reduceBEq, Int.reduceBNe, Int.reduceLT, aPost, resK, tup, tyf])
        clear hN22
        try clear N22
        refine aw_aws ?_
        simp only [q5_24, aw_block]
        refine aw_drawX [] (by kernel_rfl) (by kernel_rfl) (by kernel_rfl) (by kernel_rfl) ?_
        simp (maxSteps := 2000000) only [s5, ↓aw_region, ↓aw_skip, ↓aw_seq, ↓aw_block, ↓aw_exit, ↓aw_ret, ↓sops_nil, ↓sops_go, ↓dops_nil, ↓dopsX_nil, ↓dopsR_nil, ↓vdn, vup, extr_20, extr_21, extr_30, extr_31, extr_32, List.map_cons, List.map_nil, cond_true, cond_false, aop, aThen, aBlock, argEnv, ev, sput, sputO, binK, binI, unK, builtinK, pickK, Nat.reduceBEq, Nat.reduceAdd, Int.reduceBEq, Int.reduceBNe, Int.reduceLT, aPost, resK, tup, tyf, ne_eq, e1, not_false_eq_true, etm]
        refine hQ4 _ _ _ ⟨(w, m % w), ⟨?_, hw, by simp only; omega⟩, hlt, by simp (maxSteps := 2000000) only [↓aw_region, ↓aw_skip, ↓aw_seq, ↓aw_block, ↓aw_exit, ↓aw_ret, ↓sops_nil, ↓sops_go, ↓dops_nil, ↓dopsX_nil, ↓dopsR_nil, ↓vdn, vup, extr_20, extr_21, extr_30, extr_31, extr_32, List.map_cons, List.map_nil, cond_true, cond_false, aop, aThen, aBlock, argEnv, ev, sput, sputO, binK, binI, unK, builtinK, pickK, Nat.reduceBEq, Nat.reduceAdd, Int.reduceBEq, Int.reduceBNe, Int.reduceLT, aPost, resK, tup, tyf], rfl⟩
        simp only
        rw [← huw, Nat.gcd_comm m w, Nat.gcd_rec w m, Nat.gcd_comm]
  · have hc8 : ¬ (fcB (f.take 8) = true ∧ fcB (b.take 8) = true ∧ (f.take 8).length = (b.take 8).length) := by
      rintro ⟨y1, y2, y3⟩
      have key : ∀ g : List (Int × Int), fcB (g.take 8) = true → g.take 8 = g := by
        intro g hg
        by_cases h8 : g.length ≤ 8
        · exact List.take_of_length_le h8
        · have := (fc_of hg).len; rw [List.length_take] at this; omega
      have k1 := key f y1
      have k2 := key b y2
      rw [k1] at y1 y3
      rw [k2] at y2 y3
      exact hc ⟨y1, y2, y3⟩
    rw [if_neg hc8] at mn
    refine mn.mono ?_
    rintro _ h2 ⟨rfl, rfl⟩
    simp (maxSteps := 2000000) only [s5, ↓aw_region, ↓aw_skip, ↓aw_seq, ↓aw_block, ↓aw_exit, ↓aw_ret, ↓sops_nil, ↓sops_go, ↓dops_nil, ↓dopsX_nil, ↓dopsR_nil, ↓vdn, vup, extr_20, extr_21, extr_30, extr_31, extr_32, List.map_cons, List.map_nil, cond_true, cond_false, aop, aThen, aBlock, argEnv, ev, sput, sputO, binK, binI, unK, builtinK, pickK, Nat.reduceBEq, Nat.reduceAdd, Int.reduceBEq, Int.reduceBNe, Int.reduceLT, aPost, resK, tup, tyf, frV, allocK, newPtr, zero_26, storeF (get_new h2 z0) rfl, set_new]
    obtain ⟨H1, hH1⟩ : ∃ H1, H1 = h2 ++ [fC 0 0] := ⟨_, rfl⟩
    have hE3 : Ext (fun _ => False) h H1 := by rw [hH1]; exact hE1.trans (hE2.trans (Ext.app _ _ _))
    rw [← hH1]
    refine hN2 [(0, u), (1, v), (4, .bool false), (5, .pointer (some ⟨h2.length, 0, none⟩)), (6, .int .i64 2)] _ _ ?_ (by simp (maxSteps := 2000000) only [↓aw_region, ↓aw_skip, ↓aw_seq, ↓aw_block, ↓aw_exit, ↓aw_ret, ↓sops_nil, ↓sops_go, ↓dops_nil, ↓dopsX_nil, ↓dopsR_nil, ↓vdn, vup, extr_20, extr_21, extr_30, extr_31, extr_32, List.map_cons, List.map_nil, cond_true, cond_false, aop, aThen, aBlock, argEnv, ev, sput, sputO, binK, binI, unK, builtinK, pickK, Nat.reduceBEq, Nat.reduceAdd, Int.reduceBEq, Int.reduceBNe, Int.reduceLT, aPost, resK, tup, tyf])
    clear hN2
    try clear N2
    clear mn hu1 hv2 hE1 hE2 hH1
    refine aws_cut fun N23 hN23 => ?_
    simp (maxSteps := 2000000) only [s5, ↓aw_region, ↓aw_skip, ↓aw_seq, ↓aw_block, ↓aw_exit, ↓aw_ret, ↓sops_nil, ↓sops_go, ↓dops_nil, ↓dopsX_nil, ↓dopsR_nil, ↓vdn, vup, extr_20, extr_21, extr_30, extr_31, extr_32, List.map_cons, List.map_nil, cond_true, cond_false, aop, aThen, aBlock, argEnv, ev, sput, sputO, binK, binI, unK, builtinK, pickK, Nat.reduceBEq, Nat.reduceAdd, Int.reduceBEq, Int.reduceBNe, Int.reduceLT, aPost, resK, tup, tyf, callK, List.nil_append, List.append_nil, List.toList_toArray, List.cons_append]
    refine (fracs_call (hv.ext hE3)).mono ?_
    rintro u3 h3 ⟨hu3, hE4⟩
    refine (fracs_call (hv.ext (hE3.trans hE4))).mono ?_
    rintro v4 h4 ⟨hv4, hE5⟩
    have mn := progMean_call (hu3.ext hE5) hv4 (by rw [List.length_take]; omega) (by rw [List.length_take]; omega)
    obtain ⟨Y, hY⟩ : ∃ Y : Int × Int × Int, (if fcB (b.take 8) = true ∧ fcB (b.take 8) = true ∧ (b.take 8).length = (b.take 8).length then Value.tuple #[qV (meanQ (b.take 8) (b.take 8)), .int .i64 0] else Value.tuple #[frV 0 0, .int .i64 2]) = .tuple #[frV Y.1 Y.2.1, .int .i64 Y.2.2] := by
      split
      · exact ⟨((meanQ (b.take 8) (b.take 8)).num, (meanQ (b.take 8) (b.take 8)).den, 0), rfl⟩
      · exact ⟨(0, 0, 2), rfl⟩
    rw [hY] at mn
    obtain ⟨y1, y2, y3⟩ := Y
    simp only at mn
    refine mn.mono ?_
    rintro _ h4 ⟨rfl, rfl⟩
    simp (maxSteps := 2000000) only [s5, ↓aw_region, ↓aw_skip, ↓aw_seq, ↓aw_block, ↓aw_exit, ↓aw_ret, ↓sops_nil, ↓sops_go, ↓dops_nil, ↓dopsX_nil, ↓dopsR_nil, ↓vdn, vup, extr_20, extr_21, extr_30, extr_31, extr_32, List.map_cons, List.map_nil, cond_true, cond_false, aop, aThen, aBlock, argEnv, ev, sput, sputO, binK, binI, unK, builtinK, pickK, Nat.reduceBEq, Nat.reduceAdd, Int.reduceBEq, Int.reduceBNe, Int.reduceLT, aPost, resK, tup, tyf, frV, allocK, newPtr, zero_26, storeF (get_new h4 z0) rfl, set_new]
    obtain ⟨H, hH⟩ : ∃ H, H = h4 ++ [fC y1 y2] := ⟨_, rfl⟩
    rw [← hH]
    refine hN23 [(0, u), (1, v), (4, .bool false), (5, .pointer (some ⟨h2.length, 0, none⟩)), (6, .int .i64 2), (7, .pointer (some ⟨h4.length, 0, none⟩)), (8, .int .i64 y3)] _ _ ?_ (by simp (maxSteps := 2000000) only [↓aw_region, ↓aw_skip, ↓aw_seq, ↓aw_block, ↓aw_exit, ↓aw_ret, ↓sops_nil, ↓sops_go, ↓dops_nil, ↓dopsX_nil, ↓dopsR_nil, ↓vdn, vup, extr_20, extr_21, extr_30, extr_31, extr_32, List.map_cons, List.map_nil, cond_true, cond_false, aop, aThen, aBlock, argEnv, ev, sput, sputO, binK, binI, unK, builtinK, pickK, Nat.reduceBEq, Nat.reduceAdd, Int.reduceBEq, Int.reduceBNe, Int.reduceLT, aPost, resK, tup, tyf])
    clear hN23
    try clear N23
    clear mn hu3 hv4 hE4 hE5 hE3 hY
    refine aws_cutW fun M hM => ?_
    refine aws_cut fun N24 hN24 => ?_
    simp (maxSteps := 2000000) only [s5, ↓aw_region, ↓aw_skip, ↓aw_seq, ↓aw_block, ↓aw_exit, ↓aw_ret, ↓sops_nil, ↓sops_go, ↓dops_nil, ↓dopsX_nil, ↓dopsR_nil, ↓vdn, vup, extr_20, extr_21, extr_30, extr_31, extr_32, List.map_cons, List.map_nil, cond_true, cond_false, aop, aThen, aBlock, argEnv, ev, sput, sputO, binK, binI, unK, builtinK, pickK, Nat.reduceBEq, Nat.reduceAdd, Int.reduceBEq, Int.reduceBNe, Int.reduceLT, aPost, resK, tup, tyf]
    refine hN24 [(0, u), (1, v), (4, .bool false), (5, .pointer (some ⟨h2.length, 0, none⟩)), (6, .int .i64 2), (7, .pointer (some ⟨h4.length, 0, none⟩)), (8, .int .i64 y3), (55, .bool true)] _ _ ?_ (by simp (maxSteps := 2000000) only [↓aw_region, ↓aw_skip, ↓aw_seq, ↓aw_block, ↓aw_exit, ↓aw_ret, ↓sops_nil, ↓sops_go, ↓dops_nil, ↓dopsX_nil, ↓dopsR_nil, ↓vdn, vup, extr_20, extr_21, extr_30, extr_31, extr_32, List.map_cons, List.map_nil, cond_true, cond_false, aop, aThen, aBlock, argEnv, ev, sput, sputO, binK, binI, unK, builtinK, pickK, Nat.reduceBEq, Nat.reduceAdd, Int.reduceBEq, Int.reduceBNe, Int.reduceLT, aPost, resK, tup, tyf])
    clear hN24
    try clear N24
    refine aws_true rfl ?_
    refine aw_aws ?_
    simp (maxSteps := 2000000) only [s5, ↓aw_region, ↓aw_skip, ↓aw_seq, ↓aw_block, ↓aw_exit, ↓aw_ret, ↓sops_nil, ↓sops_go, ↓dops_nil, ↓dopsX_nil, ↓dopsR_nil, ↓vdn, vup, extr_20, extr_21, extr_30, extr_31, extr_32, List.map_cons, List.map_nil, cond_true, cond_false, aop, aThen, aBlock, argEnv, ev, sput, sputO, binK, binI, unK, builtinK, pickK, Nat.reduceBEq, Nat.reduceAdd, Int.reduceBEq, Int.reduceBNe, Int.reduceLT, aPost, resK, tup, tyf, callK, List.nil_append, List.append_nil, List.toList_toArray, List.cons_append]
    refine ((show APure prog 21 [] H (.bool true) from awake_call)).mono ?_
    rintro _ H ⟨rfl, rfl⟩
    simp (maxSteps := 2000000) only [s5, ↓aw_region, ↓aw_skip, ↓aw_seq, ↓aw_block, ↓aw_exit, ↓aw_ret, ↓sops_nil, ↓sops_go, ↓dops_nil, ↓dopsX_nil, ↓dopsR_nil, ↓vdn, vup, extr_20, extr_21, extr_30, extr_31, extr_32, List.map_cons, List.map_nil, cond_true, cond_false, aop, aThen, aBlock, argEnv, ev, sput, sputO, binK, binI, unK, builtinK, pickK, Nat.reduceBEq, Nat.reduceAdd, Int.reduceBEq, Int.reduceBNe, Int.reduceLT, aPost, resK, tup, tyf]
end Go.Proofs.Try.Am
