/-
  bets: scores and averages, in the program and in the reference.
  bets: averages of scores.
  bets: the reference's averages and scores.
  Printed by gen.py: the code of some functions, without what no step looks at; held against the program's own by the kernel.
  bets: law Averages.
-/
import Derived.Test.YtcmindinomacbaaPk10
import Derived.Test.YtcmindinomacbaaPk5
import Derived.Test.YtcmindinomacbaaPk3
import Derived.Test.YtcmindinomacbaaProg
import Derived.KernelRfl
import Derived.Shelf.Abstract
import Derived.Test.YtcmindinomacbaaPk12
set_option linter.all false
namespace Go.Proofs.Try.Am
open Go.Am Bq
set_option maxRecDepth 100000
set_option maxHeartbeats 1000000

theorem nat_small {m : Nat} (h : m ≤ 27885) : m * m ≤ 777573225 := by
  have := Nat.mul_le_mul h h; omega
theorem two_q : (((2 : Int)) : Rat) = 2 := rfl
theorem neg_one_q : (((-1 : Int)) : Rat) = -1 := rfl
/-- A chance fits. -/
theorem chn_fits {ps : List (Int × Int)} (c : Chn ps) {k : Nat} (hk : k < ps.length) : Fits (fq ps k) :=
  fits_b (C := 1) (Nat.pos_of_ne_zero c.m) (c.unit hk).2.2 (Rat.le_trans (by decide) (c.unit hk).1) (c.unit hk).2.1 (by have := (mult_spec c.m).2.2; omega) (by have := (mult_spec c.m).2.2; omega)

theorem s73_callW [Tabs Try.prog] {args : List Value} {h : Heap} {Q : Value → Heap → Prop} (hsz : args.length ≤ 27) (hk : AWS Try.prog 27 s73 (aPost Try.prog [.cell 4 26] Q) (argEnv 0 args) h) : ACall Try.prog 73 args h Q :=
  acall_w Try.func73 rfl (enters_of Try.func73 (by kernel_rfl) rfl) rfl rfl (by decide) s73_strip s73_ok hsz hk
theorem score_call [Tabs prog] {h : Heap} {v : Value} {ps : List (Int × Int)} {w : Nat} (hv : PairSl h v ps) (c : Fc ps) (hw : w < ps.length) : APure prog 73 [v, vint (w : Nat)] h (qV (scoreQ ps w)) := by
  have hm := Nat.pos_of_ne_zero c.c.m
  have hmm := Nat.mul_pos hm hm
  have hsm := nat_small c.small
  have hN : mult ps * mult ps < 9223372036854775808 := by omega
  have hlen := c.len
  refine ACall.forget (low_frV _ _) ?_
  refine s73_callW (by simp) ?_
  simp only [s73]
  refine aws_cut fun N1 hN1 => ?_
  simp (maxSteps := 2000000) only [s73, ↓aw_region, ↓aw_skip, ↓aw_seq, ↓aw_block, ↓aw_exit, ↓aw_ret, ↓sops_nil, ↓sops_go, ↓dops_nil, ↓dopsX_nil, ↓dopsR_nil, ↓vdn, vup, extr_20, extr_21, extr_30, extr_31, extr_32, List.map_cons, List.map_nil, cond_true, cond_false, aop, aThen, aBlock, argEnv, ev, sput, sputO, binK, binI, unK, builtinK, pickK, Nat.reduceBEq, Nat.reduceAdd, Int.reduceBEq, Int.reduceBNe, Int.reduceLT, aPost, resK, tup, tyf, allocK, newPtr, zero_26]
  refine hN1 [(0, v), (1, vint (w : Nat)), (4, .pointer (some ⟨h.length, 0, none⟩))] _ _ ?_ (by simp (maxSteps := 2000000) only [↓aw_region, ↓aw_skip, ↓aw_seq, ↓aw_block, ↓aw_exit, ↓aw_ret, ↓sops_nil, ↓sops_go, ↓dops_nil, ↓dopsX_nil, ↓dopsR_nil, ↓vdn, vup, extr_20, extr_21, extr_30, extr_31, extr_32, List.map_cons, List.map_nil, cond_true, cond_false, aop, aThen, aBlock, argEnv, ev, sput, sputO, binK, binI, unK, builtinK, pickK, Nat.reduceBEq, Nat.reduceAdd, Int.reduceBEq, Int.reduceBNe, Int.reduceLT, aPost, resK, tup, tyf])
  clear hN1
  try clear N1
  obtain ⟨⟨x, y⟩, hxy⟩ : ∃ p, ps.getD w (0, 0) = p := ⟨_, rfl⟩
  have hmem : (x, y) ∈ ps := hxy ▸ getD_mem hw
  have hxq := frV_q (c.c.vld _ hmem)
  have hfq : fq ps w = toQ (x, y) := by rw [fq, hxy]
  have hfit := chn_fits c.c hw
  have s0 : scoreTo ps w 0 = ((2 : Int) : Rat) * fq ps w := by rw [scoreTo, two_q]; simp only [sumTo]; grind
  have tc : ∀ h', APure prog 72 [qV ((2 : Int) : Rat), qV (fq ps w)] h' (qV (scoreTo ps w 0)) := fun h' => by
    rw [s0]
    refine times_call ⟨by decide, by decide⟩ hfit ?_
    rw [← s0]
    exact fits_b (C := 2) hmm (c.scoreTo_den hw (Nat.zero_le _)) (Rat.le_trans (by decide) (c.scoreTo_le hw (Nat.zero_le _)).1) (c.scoreTo_le hw (Nat.zero_le _)).2 (by omega) hN
  rw [hfq, ← hxq] at tc
  obtain ⟨q0, hq0⟩ : ∃ q, scoreTo ps w 0 = q := ⟨_, rfl⟩
  rw [hq0] at tc
  obtain ⟨H, hH⟩ : ∃ H, H = h ++ [z0] := ⟨_, rfl⟩
  have hE : Ext (fun _ => False) h H := by rw [hH]; exact Ext.app _ _ _
  have hvH := hv.ext hE
  have hlH : H.length = h.length + 1 := by rw [hH]; simp
  have c4 : H[h.length]? = some z0 := by rw [hH]; exact get_new _ _
  rw [← hH]
  refine aws_cut fun N2 hN2 => ?_
  refine aw_drawE (fun _ => True) [(0, 2), (5, 2)] 6 5 [4] (by kernel_rfl) (by kernel_rfl) (by kernel_rfl) (by kernel_rfl) (by kernel_rfl) (by rfl) trivial ?_
  simp (maxSteps := 2000000) only [s73, ↓aw_region, ↓aw_skip, ↓aw_seq, ↓aw_block, ↓aw_exit, ↓aw_ret, ↓sops_nil, ↓sops_go, ↓dops_nil, ↓dopsX_nil, ↓dopsR_nil, ↓vdn, vup, extr_20, extr_21, extr_30, extr_31, extr_32, List.map_cons, List.map_nil, cond_true, cond_false, aop, aThen, aBlock, argEnv, ev, sput, sputO, binK, binI, unK, builtinK, pickK, Nat.reduceBEq, Nat.reduceAdd, Int.reduceBEq, Int.reduceBNe, Int.reduceLT, aPost, resK, tup, tyf, callK, List.nil_append, List.append_nil, List.toList_toArray, List.cons_append, hvH.idx el_47 esz_26 hw, hvH.load shp_26 hw, hxy]
  refine ⟨qV ((2 : Int) : Rat), fun _ _ => ⟨_, _, whole_call, rfl, rfl⟩, qV q0, fun _ _ => ⟨_, _, tc _, rfl, rfl⟩, ?_⟩
  simp (maxSteps := 2000000) only [s73, ↓aw_region, ↓aw_skip, ↓aw_seq, ↓aw_block, ↓aw_exit, ↓aw_ret, ↓sops_nil, ↓sops_go, ↓dops_nil, ↓dopsX_nil, ↓dopsR_nil, ↓vdn, vup, extr_20, extr_21, extr_30, extr_31, extr_32, List.map_cons, List.map_nil, cond_true, cond_false, aop, aThen, aBlock, argEnv, ev, sput, sputO, binK, binI, unK, builtinK, pickK, Nat.reduceBEq, Nat.reduceAdd, Int.reduceBEq, Int.reduceBNe, Int.reduceLT, aPost, resK, tup, tyf, allocK, newPtr, zero_26, qV, frV, storeF (get_new H z0) rfl, set_new]
  rw [hlH]
  obtain ⟨H0, hH0⟩ : ∃ H0, H0 = H ++ [fC q0.num q0.den] := ⟨_, rfl⟩
  have d4 : H0[h.length]? = some z0 := by rw [hH0]; exact get_old c4 _
  have d5 : H0[h.length + 1]? = some (fC q0.num q0.den) := by rw [hH0, ← hlH]; exact get_new _ _
  have dE : Ext (fun _ => False) h H0 := by rw [hH0]; exact hE.trans (Ext.app _ _ _)
  rw [← hH0]
  refine hN2 [(0, v), (1, vint (w : Nat)), (4, .pointer (some ⟨h.length, 0, none⟩)), (5, .pointer (some ⟨h.length + 1, 0, none⟩))] _ _ ?_ (by simp (maxSteps := 2000000) only [↓aw_region, ↓aw_skip, ↓aw_seq, ↓aw_block, ↓aw_exit, ↓aw_ret, ↓sops_nil, ↓sops_go, ↓dops_nil, ↓dopsX_nil, ↓dopsR_nil, ↓vdn, vup, extr_20, extr_21, extr_30, extr_31, extr_32, List.map_cons, List.map_nil, cond_true, cond_false, aop, aThen, aBlock, argEnv, ev, sput, sputO, binK, binI, unK, builtinK, pickK, Nat.reduceBEq, Nat.reduceAdd, Int.reduceBEq, Int.reduceBNe, Int.reduceLT, aPost, resK, tup, tyf])
  clear hN2
  try clear N2
  refine aws_cutW fun Z hZ => ?_
  refine aws_cut fun N3 hN3 => ?_
  simp (maxSteps := 2000000) only [s73, ↓aw_region, ↓aw_skip, ↓aw_seq, ↓aw_block, ↓aw_exit, ↓aw_ret, ↓sops_nil, ↓sops_go, ↓dops_nil, ↓dopsX_nil, ↓dopsR_nil, ↓vdn, vup, extr_20, extr_21, extr_30, extr_31, extr_32, List.map_cons, List.map_nil, cond_true, cond_false, aop, aThen, aBlock, argEnv, ev, sput, sputO, binK, binI, unK, builtinK, pickK, Nat.reduceBEq, Nat.reduceAdd, Int.reduceBEq, Int.reduceBNe, Int.reduceLT, aPost, resK, tup, tyf, hv.len]
  refine hN3 [(0, v), (1, vint (w : Nat)), (4, .pointer (some ⟨h.length, 0, none⟩)), (5, .pointer (some ⟨h.length + 1, 0, none⟩)), (14, v), (15, vint ps.length), (16, .int .i64 0)] _ _ ?_ (by simp (maxSteps := 2000000) only [↓aw_region, ↓aw_skip, ↓aw_seq, ↓aw_block, ↓aw_exit, ↓aw_ret, ↓sops_nil, ↓sops_go, ↓dops_nil, ↓dopsX_nil, ↓dopsR_nil, ↓vdn, vup, extr_20, extr_21, extr_30, extr_31, extr_32, List.map_cons, List.map_nil, cond_true, cond_false, aop, aThen, aBlock, argEnv, ev, sput, sputO, binK, binI, unK, builtinK, pickK, Nat.reduceBEq, Nat.reduceAdd, Int.reduceBEq, Int.reduceBNe, Int.reduceLT, aPost, resK, tup, tyf])
  clear hN3
  try clear N3
  refine aws_block ?_
  refine aws_hide fun Q hQ => ?_
  refine aw_loopW (γ := Nat × Heap) (fun s => s.1 ≤ ps.length ∧ Ext (fun _ => False) h s.2 ∧ s.2[h.length]? = some z0 ∧ s.2[h.length + 1]? = some (fC (scoreTo ps w s.1).num (scoreTo ps w s.1).den))
    (fun s => ([(0, v), (1, vint (w : Nat)), (4, .pointer (some ⟨h.length, 0, none⟩)), (5, .pointer (some ⟨h.length + 1, 0, none⟩)), (14, v), (15, vint ps.length), (16, vint (s.1 : Nat))], s.2)) (fun s => ps.length - s.1) (0, H0) ⟨Nat.zero_le _, dE, d4, by rw [hq0]; exact d5⟩ (by simp (maxSteps := 2000000) only [↓aw_region, ↓aw_skip, ↓aw_seq, ↓aw_block, ↓aw_exit, ↓aw_ret, ↓sops_nil, ↓sops_go, ↓dops_nil, ↓dopsX_nil, ↓dopsR_nil, ↓vdn, vup, extr_20, extr_21, extr_30, extr_31, extr_32, List.map_cons, List.map_nil, cond_true, cond_false, aop, aThen, aBlock, argEnv, ev, sput, sputO, binK, binI, unK, builtinK, pickK, Nat.reduceBEq, Nat.reduceAdd, Int.reduceBEq, Int.reduceBNe, Int.reduceLT, aPost, resK, tup, tyf, Int.natCast_zero]) rfl ?_
  rintro ⟨k, hp⟩ ⟨hk, hEp, k4, k5⟩
  simp only at hk hEp k4 k5
  refine aws_hide fun Q2 hQ2 => ?_
  simp only [l73_0]
  by_cases hin : (k : Int) < ps.length
  · have hk' : k < ps.length := by omega
    have hvp := hv.ext hEp
    clear hxy hmem hxq hfq tc x y
    obtain ⟨⟨x, y⟩, hxy⟩ : ∃ p, ps.getD k (0, 0) = p := ⟨_, rfl⟩
    have hmem : (x, y) ∈ ps := hxy ▸ getD_mem hk'
    have hxq := frV_q (c.c.vld _ hmem)
    have hfq : fq ps k = toQ (x, y) := by rw [fq, hxy]
    have hfit := chn_fits c.c hk'
    obtain ⟨t1, t2, t3⟩ := c.c.unit hk'
    have dsq : (fq ps k * fq ps k).den ∣ mult ps * mult ps := mul_den_dvd hm hm t3 t3
    have sq0 : 0 ≤ fq ps k * fq ps k := Rat.mul_nonneg t1 t1
    have sq1 : fq ps k * fq ps k ≤ 1 := by have := Rat.mul_le_mul_of_nonneg_left t2 t1; grind
    have tc : ∀ h', APure prog 72 [qV (fq ps k), qV (fq ps k)] h' (qV (fq ps k * fq ps k)) := fun h' => times_call hfit hfit (fits_b (C := 1) hmm dsq (Rat.le_trans (by decide) sq0) sq1 (by omega) hN)
    have hnext : scoreTo ps w (k + 1) = scoreTo ps w k + ((-1 : Int) : Rat) * (fq ps k * fq ps k) := by
      rw [scoreTo, scoreTo, neg_one_q]; simp only [sumTo]; grind
    obtain ⟨b1, b2⟩ := c.scoreTo_le hw hk
    have pl : ∀ h', APure prog 71 [qV (scoreTo ps w k), vint (-1), qV (fq ps k * fq ps k)] h' (qV (scoreTo ps w (k + 1))) := fun h' => by
      rw [hnext]
      exact plus_fits (A := 2) (B := 1) hmm hN (c.scoreTo_den hw hk) dsq (Rat.le_trans (by decide) b1) b2 (Rat.le_trans (by decide) sq0) sq1 (by simp; omega)
    rw [hfq, ← hxq] at tc
    rw [hfq] at pl
    obtain ⟨q, hqq⟩ : ∃ q, scoreTo ps w (k + 1) = q := ⟨_, rfl⟩
    obtain ⟨s, hss⟩ : ∃ s, scoreTo ps w k = s := ⟨_, rfl⟩
    obtain ⟨r, hrr⟩ : ∃ r, toQ (x, y) * toQ (x, y) = r := ⟨_, rfl⟩
    rw [hrr] at tc pl
    rw [hqq, hss] at pl
    rw [hss] at k5
    obtain ⟨H, hH⟩ : ∃ H, H = hp ++ [fC x y] := ⟨_, rfl⟩
    have c7 : H[hp.length]? = some (fC x y) := by rw [hH]; exact get_new _ _
    have c4 : H[h.length]? = some z0 := by rw [hH]; exact get_old k4 _
    have c5 : H[h.length + 1]? = some (fC s.num s.den) := by rw [hH]; exact get_old k5 _
    have hEH : Ext (fun _ => False) h H := by rw [hH]; exact hEp.trans (Ext.app _ _ _)
    refine aws_cut fun N4 hN4 => ?_
    simp (maxSteps := 2000000) only [s73, ↓aw_region, ↓aw_skip, ↓aw_seq, ↓aw_block, ↓aw_exit, ↓aw_ret, ↓sops_nil, ↓sops_go, ↓dops_nil, ↓dopsX_nil, ↓dopsR_nil, ↓vdn, vup, extr_20, extr_21, extr_30, extr_31, extr_32, List.map_cons, List.map_nil, cond_true, cond_false, aop, aThen, aBlock, argEnv, ev, sput, sputO, binK, binI, unK, builtinK, pickK, Nat.reduceBEq, Nat.reduceAdd, Int.reduceBEq, Int.reduceBNe, Int.reduceLT, aPost, resK, tup, tyf, hin]
    refine hN4 [(0, v), (1, vint (w : Nat)), (4, .pointer (some ⟨h.length, 0, none⟩)), (5, .pointer (some ⟨h.length + 1, 0, none⟩)), (14, v), (15, vint ps.length), (16, vint (k : Nat)), (17, .bool true)] _ _ ?_ (by simp (maxSteps := 2000000) only [↓aw_region, ↓aw_skip, ↓aw_seq, ↓aw_block, ↓aw_exit, ↓aw_ret, ↓sops_nil, ↓sops_go, ↓dops_nil, ↓dopsX_nil, ↓dopsR_nil, ↓vdn, vup, extr_20, extr_21, extr_30, extr_31, extr_32, List.map_cons, List.map_nil, cond_true, cond_false, aop, aThen, aBlock, argEnv, ev, sput, sputO, binK, binI, unK, builtinK, pickK, Nat.reduceBEq, Nat.reduceAdd, Int.reduceBEq, Int.reduceBNe, Int.reduceLT, aPost, resK, tup, tyf])
    clear hN4
    try clear N4
    refine aws_cut fun N5 hN5 => ?_
    simp (maxSteps := 2000000) only [s73, ↓aw_region, ↓aw_skip, ↓aw_seq, ↓aw_block, ↓aw_exit, ↓aw_ret, ↓sops_nil, ↓sops_go, ↓dops_nil, ↓dopsX_nil, ↓dopsR_nil, ↓vdn, vup, extr_20, extr_21, extr_30, extr_31, extr_32, List.map_cons, List.map_nil, cond_true, cond_false, aop, aThen, aBlock, argEnv, ev, sput, sputO, binK, binI, unK, builtinK, pickK, Nat.reduceBEq, Nat.reduceAdd, Int.reduceBEq, Int.reduceBNe, Int.reduceLT, aPost, resK, tup, tyf]
    refine hN5 [(0, v), (1, vint (w : Nat)), (4, .pointer (some ⟨h.length, 0, none⟩)), (5, .pointer (some ⟨h.length + 1, 0, none⟩)), (14, v), (15, vint ps.length), (16, vint (k : Nat))] _ _ ?_ (by simp (maxSteps := 2000000) only [↓aw_region, ↓aw_skip, ↓aw_seq, ↓aw_block, ↓aw_exit, ↓aw_ret, ↓sops_nil, ↓sops_go, ↓dops_nil, ↓dopsX_nil, ↓dopsR_nil, ↓vdn, vup, extr_20, extr_21, extr_30, extr_31, extr_32, List.map_cons, List.map_nil, cond_true, cond_false, aop, aThen, aBlock, argEnv, ev, sput, sputO, binK, binI, unK, builtinK, pickK, Nat.reduceBEq, Nat.reduceAdd, Int.reduceBEq, Int.reduceBNe, Int.reduceLT, aPost, resK, tup, tyf])
    clear hN5
    try clear N5
    refine aws_cutW fun B hB => ?_
    refine aws_block ?_
    refine aws_cut fun N6 hN6 => ?_
    simp (maxSteps := 2000000) only [s73, ↓aw_region, ↓aw_skip, ↓aw_seq, ↓aw_block, ↓aw_exit, ↓aw_ret, ↓sops_nil, ↓sops_go, ↓dops_nil, ↓dopsX_nil, ↓dopsR_nil, ↓vdn, vup, extr_20, extr_21, extr_30, extr_31, extr_32, List.map_cons, List.map_nil, cond_true, cond_false, aop, aThen, aBlock, argEnv, ev, sput, sputO, binK, binI, unK, builtinK, pickK, Nat.reduceBEq, Nat.reduceAdd, Int.reduceBEq, Int.reduceBNe, Int.reduceLT, aPost, resK, tup, tyf, hvp.idx el_47 esz_26 hk', hvp.load shp_26 hk', hxy, allocK, newPtr, zero_26, storeF (get_new hp z0) rfl, set_new]
    rw [← hH]
    refine hN6 [(0, v), (1, vint (w : Nat)), (4, .pointer (some ⟨h.length, 0, none⟩)), (5, .pointer (some ⟨h.length + 1, 0, none⟩)), (7, .pointer (some ⟨hp.length, 0, none⟩)), (14, v), (15, vint ps.length), (16, vint (k : Nat))] _ _ ?_ (by simp (maxSteps := 2000000) only [↓aw_region, ↓aw_skip, ↓aw_seq, ↓aw_block, ↓aw_exit, ↓aw_ret, ↓sops_nil, ↓sops_go, ↓dops_nil, ↓dopsX_nil, ↓dopsR_nil, ↓vdn, vup, extr_20, extr_21, extr_30, extr_31, extr_32, List.map_cons, List.map_nil, cond_true, cond_false, aop, aThen, aBlock, argEnv, ev, sput, sputO, binK, binI, unK, builtinK, pickK, Nat.reduceBEq, Nat.reduceAdd, Int.reduceBEq, Int.reduceBNe, Int.reduceLT, aPost, resK, tup, tyf])
    clear hN6
    try clear N6
    refine aw_aws ?_
    simp only [q73_5]
    refine aw_drawX [(3, 1), (4, 1)] (by kernel_rfl) (by kernel_rfl) (by kernel_rfl) (by kernel_rfl) ?_
    simp (maxSteps := 2000000) only [s73, ↓aw_region, ↓aw_skip, ↓aw_seq, ↓aw_block, ↓aw_exit, ↓aw_ret, ↓sops_nil, ↓sops_go, ↓dops_nil, ↓dopsX_nil, ↓dopsR_nil, ↓vdn, vup, extr_20, extr_21, extr_30, extr_31, extr_32, List.map_cons, List.map_nil, cond_true, cond_false, aop, aThen, aBlock, argEnv, ev, sput, sputO, binK, binI, unK, builtinK, pickK, Nat.reduceBEq, Nat.reduceAdd, Int.reduceBEq, Int.reduceBNe, Int.reduceLT, aPost, resK, tup, tyf, loadF c5, loadF c7, callK, List.nil_append, List.append_nil, List.toList_toArray, List.cons_append]
    refine ⟨_, _, tc _, rfl, _, _, pl _, rfl, ?_⟩
    simp only [qV, frV, storeF c5 rfl]
    refine hB [(0, v), (1, vint (w : Nat)), (4, .pointer (some ⟨h.length, 0, none⟩)), (5, .pointer (some ⟨h.length + 1, 0, none⟩)), (14, v), (15, vint ps.length), (16, vint (k : Nat))] _ _ ?_ (by simp (maxSteps := 2000000) only [↓aw_region, ↓aw_skip, ↓aw_seq, ↓aw_block, ↓aw_exit, ↓aw_ret, ↓sops_nil, ↓sops_go, ↓dops_nil, ↓dopsX_nil, ↓dopsR_nil, ↓vdn, vup, extr_20, extr_21, extr_30, extr_31, extr_32, List.map_cons, List.map_nil, cond_true, cond_false, aop, aThen, aBlock, argEnv, ev, sput, sputO, binK, binI, unK, builtinK, pickK, Nat.reduceBEq, Nat.reduceAdd, Int.reduceBEq, Int.reduceBNe, Int.reduceLT, aPost, resK, tup, tyf])
    clear hB
    try clear B
    refine aw_aws ?_
    simp (maxSteps := 2000000) only [s73, ↓aw_region, ↓aw_skip, ↓aw_seq, ↓aw_block, ↓aw_exit, ↓aw_ret, ↓sops_nil, ↓sops_go, ↓dops_nil, ↓dopsX_nil, ↓dopsR_nil, ↓vdn, vup, extr_20, extr_21, extr_30, extr_31, extr_32, List.map_cons, List.map_nil, cond_true, cond_false, aop, aThen, aBlock, argEnv, ev, sput, sputO, binK, binI, unK, builtinK, pickK, Nat.reduceBEq, Nat.reduceAdd, Int.reduceBEq, Int.reduceBNe, Int.reduceLT, aPost, resK, tup, tyf, add1 (show k < 9223372036854775807 by omega)]
    exact hQ2 _ _ _ ⟨(k + 1, H.set (h.length + 1) (fC q.num q.den)), ⟨hk', hEH.set_ge (by omega) _, by rw [List.getElem?_set_ne (by omega)]; exact c4, by simp only; rw [hqq]; exact get_set (get_lt c5) _⟩, by simp only; omega, by simp (maxSteps := 2000000) only [↓aw_region, ↓aw_skip, ↓aw_seq, ↓aw_block, ↓aw_exit, ↓aw_ret, ↓sops_nil, ↓sops_go, ↓dops_nil, ↓dopsX_nil, ↓dopsR_nil, ↓vdn, vup, extr_20, extr_21, extr_30, extr_31, extr_32, List.map_cons, List.map_nil, cond_true, cond_false, aop, aThen, aBlock, argEnv, ev, sput, sputO, binK, binI, unK, builtinK, pickK, Nat.reduceBEq, Nat.reduceAdd, Int.reduceBEq, Int.reduceBNe, Int.reduceLT, aPost, resK, tup, tyf], rfl⟩
  · obtain rfl : k = ps.length := by omega
    refine aws_cut fun N7 hN7 => ?_
    simp (maxSteps := 2000000) only [s73, ↓aw_region, ↓aw_skip, ↓aw_seq, ↓aw_block, ↓aw_exit, ↓aw_ret, ↓sops_nil, ↓sops_go, ↓dops_nil, ↓dopsX_nil, ↓dopsR_nil, ↓vdn, vup, extr_20, extr_21, extr_30, extr_31, extr_32, List.map_cons, List.map_nil, cond_true, cond_false, aop, aThen, aBlock, argEnv, ev, sput, sputO, binK, binI, unK, builtinK, pickK, Nat.reduceBEq, Nat.reduceAdd, Int.reduceBEq, Int.reduceBNe, Int.reduceLT, aPost, resK, tup, tyf, hin]
    refine hN7 [(0, v), (1, vint (w : Nat)), (4, .pointer (some ⟨h.length, 0, none⟩)), (5, .pointer (some ⟨h.length + 1, 0, none⟩)), (14, v), (15, vint ps.length), (16, vint ps.length), (17, .bool false)] _ _ ?_ (by simp (maxSteps := 2000000) only [↓aw_region, ↓aw_skip, ↓aw_seq, ↓aw_block, ↓aw_exit, ↓aw_ret, ↓sops_nil, ↓sops_go, ↓dops_nil, ↓dopsX_nil, ↓dopsR_nil, ↓vdn, vup, extr_20, extr_21, extr_30, extr_31, extr_32, List.map_cons, List.map_nil, cond_true, cond_false, aop, aThen, aBlock, argEnv, ev, sput, sputO, binK, binI, unK, builtinK, pickK, Nat.reduceBEq, Nat.reduceAdd, Int.reduceBEq, Int.reduceBNe, Int.reduceLT, aPost, resK, tup, tyf])
    clear hN7
    try clear N7
    refine aws_cut fun N8 hN8 => ?_
    simp (maxSteps := 2000000) only [s73, ↓aw_region, ↓aw_skip, ↓aw_seq, ↓aw_block, ↓aw_exit, ↓aw_ret, ↓sops_nil, ↓sops_go, ↓dops_nil, ↓dopsX_nil, ↓dopsR_nil, ↓vdn, vup, extr_20, extr_21, extr_30, extr_31, extr_32, List.map_cons, List.map_nil, cond_true, cond_false, aop, aThen, aBlock, argEnv, ev, sput, sputO, binK, binI, unK, builtinK, pickK, Nat.reduceBEq, Nat.reduceAdd, Int.reduceBEq, Int.reduceBNe, Int.reduceLT, aPost, resK, tup, tyf]
    refine hQ2 _ _ _ (hQ _ _ _ ?_)
    simp (maxSteps := 2000000) only [s73, ↓aw_region, ↓aw_skip, ↓aw_seq, ↓aw_block, ↓aw_exit, ↓aw_ret, ↓sops_nil, ↓sops_go, ↓dops_nil, ↓dopsX_nil, ↓dopsR_nil, ↓vdn, vup, extr_20, extr_21, extr_30, extr_31, extr_32, List.map_cons, List.map_nil, cond_true, cond_false, aop, aThen, aBlock, argEnv, ev, sput, sputO, binK, binI, unK, builtinK, pickK, Nat.reduceBEq, Nat.reduceAdd, Int.reduceBEq, Int.reduceBNe, Int.reduceLT, aPost, resK, tup, tyf, if_true]
    refine hZ [(0, v), (1, vint (w : Nat)), (4, .pointer (some ⟨h.length, 0, none⟩)), (5, .pointer (some ⟨h.length + 1, 0, none⟩)), (14, v), (15, vint ps.length), (16, vint ps.length), (17, .bool false)] _ _ ?_ (by simp (maxSteps := 2000000) only [↓aw_region, ↓aw_skip, ↓aw_seq, ↓aw_block, ↓aw_exit, ↓aw_ret, ↓sops_nil, ↓sops_go, ↓dops_nil, ↓dopsX_nil, ↓dopsR_nil, ↓vdn, vup, extr_20, extr_21, extr_30, extr_31, extr_32, List.map_cons, List.map_nil, cond_true, cond_false, aop, aThen, aBlock, argEnv, ev, sput, sputO, binK, binI, unK, builtinK, pickK, Nat.reduceBEq, Nat.reduceAdd, Int.reduceBEq, Int.reduceBNe, Int.reduceLT, aPost, resK, tup, tyf])
    clear hZ
    try clear Z
    rw [← scoreQ] at k5
    obtain ⟨q, hqq⟩ : ∃ q, scoreQ ps w = q := ⟨_, rfl⟩
    rw [hqq] at k5 ⊢
    refine aw_aws ?_
    simp (maxSteps := 2000000) only [s73, ↓aw_region, ↓aw_skip, ↓aw_seq, ↓aw_block, ↓aw_exit, ↓aw_ret, ↓sops_nil, ↓sops_go, ↓dops_nil, ↓dopsX_nil, ↓dopsR_nil, ↓vdn, vup, extr_20, extr_21, extr_30, extr_31, extr_32, List.map_cons, List.map_nil, cond_true, cond_false, aop, aThen, aBlock, argEnv, ev, sput, sputO, binK, binI, unK, builtinK, pickK, Nat.reduceBEq, Nat.reduceAdd, Int.reduceBEq, Int.reduceBNe, Int.reduceLT, aPost, resK, tup, tyf, loadF k5, storeF k4 rfl, loadF (get_set (get_lt k4) _)]
    exact ⟨rfl, hEp.set_ge (Nat.le_refl _) _⟩

theorem s40_callW [Tabs Try.prog] {args : List Value} {h : Heap} {Q : Value → Heap → Prop} (hsz : args.length ≤ 23) (hk : AWS Try.prog 23 s40 (aPost Try.prog [.cell 4 26, .tmp 5] Q) (argEnv 0 args) h) : ACall Try.prog 40 args h Q :=
  acall_w Try.func40 rfl (enters_of Try.func40 (by kernel_rfl) rfl) rfl rfl (by decide) s40_strip s40_ok hsz hk
theorem progScore_call [Tabs prog] {h : Heap} {v : Value} {ps : List (Int × Int)} {w : Int} (hv : PairSl h v ps) (hl : ps.length < 9223372036854775808) :
    APure prog 40 [v, vint w] h (if fcB ps = true ∧ 0 ≤ w ∧ w < ps.length then .tuple #[qV (scoreQ ps w.toNat), .int .i64 0] else .tuple #[frV 0 0, .int .i64 2]) := by
  refine ACall.forget (by split <;> exact Low.pair (low_frV _ _) (Low.int _ _)) ?_
  obtain ⟨R, hR⟩ : ∃ R, (if fcB ps = true ∧ 0 ≤ w ∧ w < ps.length then Value.tuple #[qV (scoreQ ps w.toNat), .int .i64 0] else .tuple #[frV 0 0, .int .i64 2]) = R := ⟨_, rfl⟩
  rw [hR]
  obtain ⟨H, hH⟩ : ∃ H, H = h ++ [z0] := ⟨_, rfl⟩
  have hE : Ext (fun _ => False) h H := by rw [hH]; exact Ext.app _ _ _
  have hvH := hv.ext hE
  have c4 : H[h.length]? = some z0 := by rw [hH]; exact get_new _ _
  refine s40_callW (by simp) ?_
  simp only [s40]
  refine aws_cut fun N9 hN9 => ?_
  simp (maxSteps := 2000000) only [s40, ↓aw_region, ↓aw_skip, ↓aw_seq, ↓aw_block, ↓aw_exit, ↓aw_ret, ↓sops_nil, ↓sops_go, ↓dops_nil, ↓dopsX_nil, ↓dopsR_nil, ↓vdn, vup, extr_20, extr_21, extr_30, extr_31, extr_32, List.map_cons, List.map_nil, cond_true, cond_false, aop, aThen, aBlock, argEnv, ev, sput, sputO, binK, binI, unK, builtinK, pickK, Nat.reduceBEq, Nat.reduceAdd, Int.reduceBEq, Int.reduceBNe, Int.reduceLT, aPost, resK, tup, tyf, allocK, newPtr, zero_26]
  rw [← hH]
  refine hN9 [(0, v), (1, vint w), (4, .pointer (some ⟨h.length, 0, none⟩)), (5, .int .i64 0)] _ _ ?_ (by simp (maxSteps := 2000000) only [↓aw_region, ↓aw_skip, ↓aw_seq, ↓aw_block, ↓aw_exit, ↓aw_ret, ↓sops_nil, ↓sops_go, ↓dops_nil, ↓dopsX_nil, ↓dopsR_nil, ↓vdn, vup, extr_20, extr_21, extr_30, extr_31, extr_32, List.map_cons, List.map_nil, cond_true, cond_false, aop, aThen, aBlock, argEnv, ev, sput, sputO, binK, binI, unK, builtinK, pickK, Nat.reduceBEq, Nat.reduceAdd, Int.reduceBEq, Int.reduceBNe, Int.reduceLT, aPost, resK, tup, tyf])
  clear hN9
  try clear N9
  refine aws_cut fun M hM => ?_
  simp (maxSteps := 2000000) only [s40, ↓aw_region, ↓aw_skip, ↓aw_seq, ↓aw_block, ↓aw_exit, ↓aw_ret, ↓sops_nil, ↓sops_go, ↓dops_nil, ↓dopsX_nil, ↓dopsR_nil, ↓vdn, vup, extr_20, extr_21, extr_30, extr_31, extr_32, List.map_cons, List.map_nil, cond_true, cond_false, aop, aThen, aBlock, argEnv, ev, sput, sputO, binK, binI, unK, builtinK, pickK, Nat.reduceBEq, Nat.reduceAdd, Int.reduceBEq, Int.reduceBNe, Int.reduceLT, aPost, resK, tup, tyf, callK, List.nil_append, List.append_nil, List.toList_toArray, List.cons_append, hvH.len]
  refine (isfc_call hvH hl).mono ?_
  rintro _ H ⟨rfl, rfl⟩
  cases hf : fcB ps with
  | false =>
    simp (maxSteps := 2000000) only [s40, ↓aw_region, ↓aw_skip, ↓aw_seq, ↓aw_block, ↓aw_exit, ↓aw_ret, ↓sops_nil, ↓sops_go, ↓dops_nil, ↓dopsX_nil, ↓dopsR_nil, ↓vdn, vup, extr_20, extr_21, extr_30, extr_31, extr_32, List.map_cons, List.map_nil, cond_true, cond_false, aop, aThen, aBlock, argEnv, ev, sput, sputO, binK, binI, unK, builtinK, pickK, Nat.reduceBEq, Nat.reduceAdd, Int.reduceBEq, Int.reduceBNe, Int.reduceLT, aPost, resK, tup, tyf, Bool.not_false, bldF0, List.map_toArray, storeF c4 rfl, loadF (get_set (get_lt c4) _)]
    rw [← hR, hf, if_neg (by simp)]
    exact ⟨rfl, hE.set_ge (Nat.le_refl _) _⟩
  | true =>
    have c := fc_of hf
    by_cases h1 : w < 0
    · simp (maxSteps := 2000000) only [s40, ↓aw_region, ↓aw_skip, ↓aw_seq, ↓aw_block, ↓aw_exit, ↓aw_ret, ↓sops_nil, ↓sops_go, ↓dops_nil, ↓dopsX_nil, ↓dopsR_nil, ↓vdn, vup, extr_20, extr_21, extr_30, extr_31, extr_32, List.map_cons, List.map_nil, cond_true, cond_false, aop, aThen, aBlock, argEnv, ev, sput, sputO, binK, binI, unK, builtinK, pickK, Nat.reduceBEq, Nat.reduceAdd, Int.reduceBEq, Int.reduceBNe, Int.reduceLT, aPost, resK, tup, tyf, Bool.not_true, h1, bldF0, List.map_toArray, storeF c4 rfl, loadF (get_set (get_lt c4) _)]
      rw [← hR, if_neg (by omega)]
      exact ⟨rfl, hE.set_ge (Nat.le_refl _) _⟩
    · by_cases h2 : w ≥ ps.length
      · simp (maxSteps := 2000000) only [s40, ↓aw_region, ↓aw_skip, ↓aw_seq, ↓aw_block, ↓aw_exit, ↓aw_ret, ↓sops_nil, ↓sops_go, ↓dops_nil, ↓dopsX_nil, ↓dopsR_nil, ↓vdn, vup, extr_20, extr_21, extr_30, extr_31, extr_32, List.map_cons, List.map_nil, cond_true, cond_false, aop, aThen, aBlock, argEnv, ev, sput, sputO, binK, binI, unK, builtinK, pickK, Nat.reduceBEq, Nat.reduceAdd, Int.reduceBEq, Int.reduceBNe, Int.reduceLT, aPost, resK, tup, tyf, Bool.not_true, h1, hvH.len, h2, bldF0, List.map_toArray, storeF c4 rfl, loadF (get_set (get_lt c4) _)]
        rw [← hR, if_neg (by omega)]
        exact ⟨rfl, hE.set_ge (Nat.le_refl _) _⟩
      · obtain ⟨n, rfl⟩ : ∃ n : Nat, w = n := ⟨w.toNat, by omega⟩
        have sc := score_call (w := n) hvH c (by omega)
        obtain ⟨q, hqq⟩ : ∃ q, scoreQ ps n = q := ⟨_, rfl⟩
        rw [hqq] at sc
        simp (maxSteps := 2000000) only [s40, ↓aw_region, ↓aw_skip, ↓aw_seq, ↓aw_block, ↓aw_exit, ↓aw_ret, ↓sops_nil, ↓sops_go, ↓dops_nil, ↓dopsX_nil, ↓dopsR_nil, ↓vdn, vup, extr_20, extr_21, extr_30, extr_31, extr_32, List.map_cons, List.map_nil, cond_true, cond_false, aop, aThen, aBlock, argEnv, ev, sput, sputO, binK, binI, unK, builtinK, pickK, Nat.reduceBEq, Nat.reduceAdd, Int.reduceBEq, Int.reduceBNe, Int.reduceLT, aPost, resK, tup, tyf, Bool.not_true, h1, hvH.len, h2]
        refine hM [(0, v), (1, vint (n : Nat)), (4, .pointer (some ⟨h.length, 0, none⟩)), (5, .int .i64 0)] _ _ ?_ (by simp (maxSteps := 2000000) only [↓aw_region, ↓aw_skip, ↓aw_seq, ↓aw_block, ↓aw_exit, ↓aw_ret, ↓sops_nil, ↓sops_go, ↓dops_nil, ↓dopsX_nil, ↓dopsR_nil, ↓vdn, vup, extr_20, extr_21, extr_30, extr_31, extr_32, List.map_cons, List.map_nil, cond_true, cond_false, aop, aThen, aBlock, argEnv, ev, sput, sputO, binK, binI, unK, builtinK, pickK, Nat.reduceBEq, Nat.reduceAdd, Int.reduceBEq, Int.reduceBNe, Int.reduceLT, aPost, resK, tup, tyf])
        clear hM
        try clear M
        refine aw_aws ?_
        simp (maxSteps := 2000000) only [s40, ↓aw_region, ↓aw_skip, ↓aw_seq, ↓aw_block, ↓aw_exit, ↓aw_ret, ↓sops_nil, ↓sops_go, ↓dops_nil, ↓dopsX_nil, ↓dopsR_nil, ↓vdn, vup, extr_20, extr_21, extr_30, extr_31, extr_32, List.map_cons, List.map_nil, cond_true, cond_false, aop, aThen, aBlock, argEnv, ev, sput, sputO, binK, binI, unK, builtinK, pickK, Nat.reduceBEq, Nat.reduceAdd, Int.reduceBEq, Int.reduceBNe, Int.reduceLT, aPost, resK, tup, tyf, callK, List.nil_append, List.append_nil, List.toList_toArray, List.cons_append]
        refine (sc).mono ?_
        rintro _ H ⟨rfl, rfl⟩
        simp (maxSteps := 2000000) only [s40, ↓aw_region, ↓aw_skip, ↓aw_seq, ↓aw_block, ↓aw_exit, ↓aw_ret, ↓sops_nil, ↓sops_go, ↓dops_nil, ↓dopsX_nil, ↓dopsR_nil, ↓vdn, vup, extr_20, extr_21, extr_30, extr_31, extr_32, List.map_cons, List.map_nil, cond_true, cond_false, aop, aThen, aBlock, argEnv, ev, sput, sputO, binK, binI, unK, builtinK, pickK, Nat.reduceBEq, Nat.reduceAdd, Int.reduceBEq, Int.reduceBNe, Int.reduceLT, aPost, resK, tup, tyf, qV, frV, storeF c4 rfl, loadF (get_set (get_lt c4) _)]
        have hc : fcB ps = true ∧ 0 ≤ (n : Int) ∧ (n : Int) < ps.length := ⟨hf, by omega, by omega⟩
        rw [← hR, if_pos hc, Int.toNat_natCast, hqq]
        exact ⟨rfl, hE.set_ge (Nat.le_refl _) _⟩
end Go.Proofs.Try.Am

namespace Go.Proofs.Try.Am
open Go.Am Bq
set_option maxRecDepth 100000
set_option maxHeartbeats 1000000

theorem big_small {m k : Nat} (hm : m ≤ 27885) (hk : k ≤ 27885) : k * (m * m) ≤ 21682629379125 := by
  have h1 := nat_small hm
  have := Nat.mul_le_mul hk h1; omega
theorem score_fits {f : List (Int × Int)} (c : Fc f) {w : Nat} (hw : w < f.length) : Fits (scoreQ f w) := by
  have hm := Nat.pos_of_ne_zero c.c.m
  have hsm := nat_small c.small
  exact fits_b (C := 1) (Nat.mul_pos hm hm) (c.scoreTo_den hw (Nat.le_refl _)) (Rat.le_trans (by decide) (c.score_le hw).1) (c.score_le hw).2 (by omega) (by omega)

theorem s31_callW [Tabs Try.prog] {args : List Value} {h : Heap} {Q : Value → Heap → Prop} (hsz : args.length ≤ 42) (hk : AWS Try.prog 42 s31 (aPost Try.prog [.cell 4 26, .tmp 5] Q) (argEnv 0 args) h) : ACall Try.prog 31 args h Q :=
  acall_w Try.func31 rfl (enters_of Try.func31 (by kernel_rfl) rfl) rfl rfl (by decide) s31_strip s31_ok hsz hk
theorem progMean_call [Tabs prog] {h : Heap} {u v : Value} {f b : List (Int × Int)} (hu : PairSl h u f) (hv : PairSl h v b) (hlf : f.length < 9223372036854775808) (hlb : b.length < 9223372036854775808) :
    APure prog 31 [u, v] h (if fcB f = true ∧ fcB b = true ∧ f.length = b.length then .tuple #[qV (meanQ f b), .int .i64 0] else .tuple #[frV 0 0, .int .i64 2]) := by
  refine ACall.forget (by split <;> exact Low.pair (low_frV _ _) (Low.int _ _)) ?_
  obtain ⟨R, hR⟩ : ∃ R, (if fcB f = true ∧ fcB b = true ∧ f.length = b.length then Value.tuple #[qV (meanQ f b), .int .i64 0] else .tuple #[frV 0 0, .int .i64 2]) = R := ⟨_, rfl⟩
  rw [hR]
  obtain ⟨H, hH⟩ : ∃ H, H = h ++ [z0] := ⟨_, rfl⟩
  have hE : Ext (fun _ => False) h H := by rw [hH]; exact Ext.app _ _ _
  have huH := hu.ext hE
  have hvH := hv.ext hE
  have hlH : H.length = h.length + 1 := by rw [hH]; simp
  have c4 : H[h.length]? = some z0 := by rw [hH]; exact get_new _ _
  refine s31_callW (by simp) ?_
  simp only [s31]
  refine aws_cut fun N1 hN1 => ?_
  simp (maxSteps := 2000000) only [s31, ↓aw_region, ↓aw_skip, ↓aw_seq, ↓aw_block, ↓aw_exit, ↓aw_ret, ↓sops_nil, ↓sops_go, ↓dops_nil, ↓dopsX_nil, ↓dopsR_nil, ↓vdn, vup, extr_20, extr_21, extr_30, extr_31, extr_32, List.map_cons, List.map_nil, cond_true, cond_false, aop, aThen, aBlock, argEnv, ev, sput, sputO, binK, binI, unK, builtinK, pickK, Nat.reduceBEq, Nat.reduceAdd, Int.reduceBEq, Int.reduceBNe, Int.reduceLT, aPost, resK, tup, tyf, allocK, newPtr, zero_26]
  rw [← hH]
  refine hN1 [(0, u), (1, v), (4, .pointer (some ⟨h.length, 0, none⟩)), (5, .int .i64 0)] _ _ ?_ (by simp (maxSteps := 2000000) only [↓aw_region, ↓aw_skip, ↓aw_seq, ↓aw_block, ↓aw_exit, ↓aw_ret, ↓sops_nil, ↓sops_go, ↓dops_nil, ↓dopsX_nil, ↓dopsR_nil, ↓vdn, vup, extr_20, extr_21, extr_30, extr_31, extr_32, List.map_cons, List.map_nil, cond_true, cond_false, aop, aThen, aBlock, argEnv, ev, sput, sputO, binK, binI, unK, builtinK, pickK, Nat.reduceBEq, Nat.reduceAdd, Int.reduceBEq, Int.reduceBNe, Int.reduceLT, aPost, resK, tup, tyf])
  clear hN1
  try clear N1
  refine aws_cut fun M hM => ?_
  simp (maxSteps := 2000000) only [s31, ↓aw_region, ↓aw_skip, ↓aw_seq, ↓aw_block, ↓aw_exit, ↓aw_ret, ↓sops_nil, ↓sops_go, ↓dops_nil, ↓dopsX_nil, ↓dopsR_nil, ↓vdn, vup, extr_20, extr_21, extr_30, extr_31, extr_32, List.map_cons, List.map_nil, cond_true, cond_false, aop, aThen, aBlock, argEnv, ev, sput, sputO, binK, binI, unK, builtinK, pickK, Nat.reduceBEq, Nat.reduceAdd, Int.reduceBEq, Int.reduceBNe, Int.reduceLT, aPost, resK, tup, tyf, callK, List.nil_append, List.append_nil, List.toList_toArray, List.cons_append, huH.len]
  refine (isfc_call huH hlf).mono ?_
  rintro _ H ⟨rfl, rfl⟩
  cases hf : fcB f with
  | false =>
    simp (maxSteps := 2000000) only [s31, ↓aw_region, ↓aw_skip, ↓aw_seq, ↓aw_block, ↓aw_exit, ↓aw_ret, ↓sops_nil, ↓sops_go, ↓dops_nil, ↓dopsX_nil, ↓dopsR_nil, ↓vdn, vup, extr_20, extr_21, extr_30, extr_31, extr_32, List.map_cons, List.map_nil, cond_true, cond_false, aop, aThen, aBlock, argEnv, ev, sput, sputO, binK, binI, unK, builtinK, pickK, Nat.reduceBEq, Nat.reduceAdd, Int.reduceBEq, Int.reduceBNe, Int.reduceLT, aPost, resK, tup, tyf, Bool.not_false, bldF0, List.map_toArray, storeF c4 rfl, loadF (get_set (get_lt c4) _)]
    rw [← hR, hf, if_neg (by simp)]
    exact ⟨rfl, hE.set_ge (Nat.le_refl _) _⟩
  | true =>
    have cf := fc_of hf
    simp (maxSteps := 2000000) only [s31, ↓aw_region, ↓aw_skip, ↓aw_seq, ↓aw_block, ↓aw_exit, ↓aw_ret, ↓sops_nil, ↓sops_go, ↓dops_nil, ↓dopsX_nil, ↓dopsR_nil, ↓vdn, vup, extr_20, extr_21, extr_30, extr_31, extr_32, List.map_cons, List.map_nil, cond_true, cond_false, aop, aThen, aBlock, argEnv, ev, sput, sputO, binK, binI, unK, builtinK, pickK, Nat.reduceBEq, Nat.reduceAdd, Int.reduceBEq, Int.reduceBNe, Int.reduceLT, aPost, resK, tup, tyf, Bool.not_true, callK, List.nil_append, List.append_nil, List.toList_toArray, List.cons_append]
    refine (isfc_call hvH hlb).mono ?_
    rintro _ H ⟨rfl, rfl⟩
    cases hb : fcB b with
    | false =>
      simp (maxSteps := 2000000) only [s31, ↓aw_region, ↓aw_skip, ↓aw_seq, ↓aw_block, ↓aw_exit, ↓aw_ret, ↓sops_nil, ↓sops_go, ↓dops_nil, ↓dopsX_nil, ↓dopsR_nil, ↓vdn, vup, extr_20, extr_21, extr_30, extr_31, extr_32, List.map_cons, List.map_nil, cond_true, cond_false, aop, aThen, aBlock, argEnv, ev, sput, sputO, binK, binI, unK, builtinK, pickK, Nat.reduceBEq, Nat.reduceAdd, Int.reduceBEq, Int.reduceBNe, Int.reduceLT, aPost, resK, tup, tyf, Bool.not_false, bldF0, List.map_toArray, storeF c4 rfl, loadF (get_set (get_lt c4) _)]
      rw [← hR, hb, if_neg (by simp)]
      exact ⟨rfl, hE.set_ge (Nat.le_refl _) _⟩
    | true =>
      have cb := fc_of hb
      by_cases hl : f.length = b.length
      · have hne : (((f.length : Nat) : Int) != ((b.length : Nat) : Int)) = false := by rw [hl]; simp
        rw [if_pos ⟨hf, hb, hl⟩] at hR
        have hmf := Nat.pos_of_ne_zero cf.c.m
        have hmb := Nat.pos_of_ne_zero cb.c.m
        have hNN := Nat.mul_pos hmb (Nat.mul_pos hmf hmf)
        have hsm := big_small cf.small cb.small
        have hNlt : mult b * (mult f * mult f) < 9223372036854775808 := by omega
        have hlen := cb.len
        simp (maxSteps := 2000000) only [s31, ↓aw_region, ↓aw_skip, ↓aw_seq, ↓aw_block, ↓aw_exit, ↓aw_ret, ↓sops_nil, ↓sops_go, ↓dops_nil, ↓dopsX_nil, ↓dopsR_nil, ↓vdn, vup, extr_20, extr_21, extr_30, extr_31, extr_32, List.map_cons, List.map_nil, cond_true, cond_false, aop, aThen, aBlock, argEnv, ev, sput, sputO, binK, binI, unK, builtinK, pickK, Nat.reduceBEq, Nat.reduceAdd, Int.reduceBEq, Int.reduceBNe, Int.reduceLT, aPost, resK, tup, tyf, Bool.not_true, huH.len, hvH.len, hne]
        refine hM [(0, u), (1, v), (4, .pointer (some ⟨h.length, 0, none⟩)), (5, .int .i64 0)] _ _ ?_ (by simp (maxSteps := 2000000) only [↓aw_region, ↓aw_skip, ↓aw_seq, ↓aw_block, ↓aw_exit, ↓aw_ret, ↓sops_nil, ↓sops_go, ↓dops_nil, ↓dopsX_nil, ↓dopsR_nil, ↓vdn, vup, extr_20, extr_21, extr_30, extr_31, extr_32, List.map_cons, List.map_nil, cond_true, cond_false, aop, aThen, aBlock, argEnv, ev, sput, sputO, binK, binI, unK, builtinK, pickK, Nat.reduceBEq, Nat.reduceAdd, Int.reduceBEq, Int.reduceBNe, Int.reduceLT, aPost, resK, tup, tyf])
        clear hM
        try clear M
        refine aws_cut fun N2 hN2 => ?_
        simp (maxSteps := 2000000) only [s31, ↓aw_region, ↓aw_skip, ↓aw_seq, ↓aw_block, ↓aw_exit, ↓aw_ret, ↓sops_nil, ↓sops_go, ↓dops_nil, ↓dopsX_nil, ↓dopsR_nil, ↓vdn, vup, extr_20, extr_21, extr_30, extr_31, extr_32, List.map_cons, List.map_nil, cond_true, cond_false, aop, aThen, aBlock, argEnv, ev, sput, sputO, binK, binI, unK, builtinK, pickK, Nat.reduceBEq, Nat.reduceAdd, Int.reduceBEq, Int.reduceBNe, Int.reduceLT, aPost, resK, tup, tyf, callK, List.nil_append, List.append_nil, List.toList_toArray, List.cons_append]
        refine ((show APure prog 70 [.int .i64 0] H (qV ((0 : Int) : Rat)) from whole_call)).mono ?_
        rintro _ H ⟨rfl, rfl⟩
        have q0 : qV ((0 : Int) : Rat) = .agg #[vint 0, vint 1] := rfl
        simp (maxSteps := 2000000) only [s31, ↓aw_region, ↓aw_skip, ↓aw_seq, ↓aw_block, ↓aw_exit, ↓aw_ret, ↓sops_nil, ↓sops_go, ↓dops_nil, ↓dopsX_nil, ↓dopsR_nil, ↓vdn, vup, extr_20, extr_21, extr_30, extr_31, extr_32, List.map_cons, List.map_nil, cond_true, cond_false, aop, aThen, aBlock, argEnv, ev, sput, sputO, binK, binI, unK, builtinK, pickK, Nat.reduceBEq, Nat.reduceAdd, Int.reduceBEq, Int.reduceBNe, Int.reduceLT, aPost, resK, tup, tyf, allocK, newPtr, zero_26, q0, storeF (get_new H z0) rfl, set_new]
        rw [hlH]
        obtain ⟨H0, hH0⟩ : ∃ H0, H0 = H ++ [fC 0 1] := ⟨_, rfl⟩
        have d4 : H0[h.length]? = some z0 := by rw [hH0]; exact get_old c4 _
        have d6 : H0[h.length + 1]? = some (fC 0 1) := by rw [hH0, ← hlH]; exact get_new _ _
        have dE : Ext (fun _ => False) h H0 := by rw [hH0]; exact hE.trans (Ext.app _ _ _)
        rw [← hH0]
        refine hN2 [(0, u), (1, v), (4, .pointer (some ⟨h.length, 0, none⟩)), (5, .int .i64 0), (6, .pointer (some ⟨h.length + 1, 0, none⟩))] _ _ ?_ (by simp (maxSteps := 2000000) only [↓aw_region, ↓aw_skip, ↓aw_seq, ↓aw_block, ↓aw_exit, ↓aw_ret, ↓sops_nil, ↓sops_go, ↓dops_nil, ↓dopsX_nil, ↓dopsR_nil, ↓vdn, vup, extr_20, extr_21, extr_30, extr_31, extr_32, List.map_cons, List.map_nil, cond_true, cond_false, aop, aThen, aBlock, argEnv, ev, sput, sputO, binK, binI, unK, builtinK, pickK, Nat.reduceBEq, Nat.reduceAdd, Int.reduceBEq, Int.reduceBNe, Int.reduceLT, aPost, resK, tup, tyf])
        clear hN2
        try clear N2
        refine aws_cutW fun Z hZ => ?_
        refine aws_cut fun N3 hN3 => ?_
        simp (maxSteps := 2000000) only [s31, ↓aw_region, ↓aw_skip, ↓aw_seq, ↓aw_block, ↓aw_exit, ↓aw_ret, ↓sops_nil, ↓sops_go, ↓dops_nil, ↓dopsX_nil, ↓dopsR_nil, ↓vdn, vup, extr_20, extr_21, extr_30, extr_31, extr_32, List.map_cons, List.map_nil, cond_true, cond_false, aop, aThen, aBlock, argEnv, ev, sput, sputO, binK, binI, unK, builtinK, pickK, Nat.reduceBEq, Nat.reduceAdd, Int.reduceBEq, Int.reduceBNe, Int.reduceLT, aPost, resK, tup, tyf, (hv.ext dE).len]
        refine hN3 [(0, u), (1, v), (4, .pointer (some ⟨h.length, 0, none⟩)), (5, .int .i64 0), (6, .pointer (some ⟨h.length + 1, 0, none⟩)), (26, v), (27, vint b.length), (28, .int .i64 0)] _ _ ?_ (by simp (maxSteps := 2000000) only [↓aw_region, ↓aw_skip, ↓aw_seq, ↓aw_block, ↓aw_exit, ↓aw_ret, ↓sops_nil, ↓sops_go, ↓dops_nil, ↓dopsX_nil, ↓dopsR_nil, ↓vdn, vup, extr_20, extr_21, extr_30, extr_31, extr_32, List.map_cons, List.map_nil, cond_true, cond_false, aop, aThen, aBlock, argEnv, ev, sput, sputO, binK, binI, unK, builtinK, pickK, Nat.reduceBEq, Nat.reduceAdd, Int.reduceBEq, Int.reduceBNe, Int.reduceLT, aPost, resK, tup, tyf])
        clear hN3
        try clear N3
        refine aws_block ?_
        refine aws_hide fun Q hQ => ?_
        refine aw_loopW (γ := Nat × Heap) (fun s => s.1 ≤ b.length ∧ Ext (fun _ => False) h s.2 ∧ s.2[h.length]? = some z0 ∧ s.2[h.length + 1]? = some (fC (meanTo f b s.1).num (meanTo f b s.1).den))
          (fun s => ([(0, u), (1, v), (4, .pointer (some ⟨h.length, 0, none⟩)), (5, .int .i64 0), (6, .pointer (some ⟨h.length + 1, 0, none⟩)), (26, v), (27, vint b.length), (28, vint (s.1 : Nat))], s.2)) (fun s => b.length - s.1) (0, H0) ⟨Nat.zero_le _, dE, d4, d6⟩ (by simp (maxSteps := 2000000) only [↓aw_region, ↓aw_skip, ↓aw_seq, ↓aw_block, ↓aw_exit, ↓aw_ret, ↓sops_nil, ↓sops_go, ↓dops_nil, ↓dopsX_nil, ↓dopsR_nil, ↓vdn, vup, extr_20, extr_21, extr_30, extr_31, extr_32, List.map_cons, List.map_nil, cond_true, cond_false, aop, aThen, aBlock, argEnv, ev, sput, sputO, binK, binI, unK, builtinK, pickK, Nat.reduceBEq, Nat.reduceAdd, Int.reduceBEq, Int.reduceBNe, Int.reduceLT, aPost, resK, tup, tyf, Int.natCast_zero]) rfl ?_
        rintro ⟨k, hp⟩ ⟨hk, hEp, k4, k6⟩
        simp only at hk hEp k4 k6
        refine aws_hide fun Q2 hQ2 => ?_
        simp only [l31_0]
        by_cases hin : (k : Int) < b.length
        · have hk' : k < b.length := by omega
          have hvp := hv.ext hEp
          obtain ⟨⟨x, y⟩, hxy⟩ : ∃ p, b.getD k (0, 0) = p := ⟨_, rfl⟩
          have hmem : (x, y) ∈ b := hxy ▸ getD_mem hk'
          have hxq := frV_q (cb.c.vld _ hmem)
          have hfq : fq b k = toQ (x, y) := by rw [fq, hxy]
          have hfit := chn_fits cb.c hk'
          have sfit := score_fits cf (show k < f.length by omega)
          obtain ⟨t1, t2, t3⟩ := cb.c.unit hk'
          obtain ⟨u1, u2⟩ := cf.score_le (show k < f.length by omega)
          have dpr : (fq b k * scoreQ f k).den ∣ mult b * (mult f * mult f) := mul_den_dvd hmb (Nat.mul_pos hmf hmf) t3 (cf.scoreTo_den (by omega) (Nat.le_refl _))
          have pr1 : -((1 : Nat) : Rat) ≤ fq b k * scoreQ f k := by
            have h1 := Rat.mul_le_mul_of_nonneg_left u1 t1
            have e : ((1 : Nat) : Rat) = 1 := rfl
            rw [e]; grind
          have pr2 : fq b k * scoreQ f k ≤ ((1 : Nat) : Rat) := by
            have h1 := Rat.mul_le_mul_of_nonneg_left u2 t1
            have e : ((1 : Nat) : Rat) = 1 := rfl
            rw [e]; grind
          have tc : ∀ h', APure prog 72 [qV (fq b k), qV (scoreQ f k)] h' (qV (fq b k * scoreQ f k)) := fun h' => times_call hfit sfit (fits_b (C := 1) hNN dpr pr1 pr2 (by omega) hNlt)
          have hnext : meanTo f b (k + 1) = meanTo f b k + ((1 : Int) : Rat) * (fq b k * scoreQ f k) := by
            rw [show (((1 : Int)) : Rat) = 1 from rfl, Rat.one_mul]; rfl
          obtain ⟨b1, b2⟩ := mean_le cf cb hl k hk
          have b3 := sumTo_mono (g := fq b) hk fun i hi => (cb.unit hi).1
          rw [cb.sum] at b3
          have pl : ∀ h', APure prog 71 [qV (meanTo f b k), vint 1, qV (fq b k * scoreQ f k)] h' (qV (meanTo f b (k + 1))) := fun h' => by
            rw [hnext]
            refine plus_fits (A := 1) (B := 1) hNN hNlt (mean_den cf cb hl hk) dpr ?_ ?_ pr1 pr2 (by simp; omega)
            · have e : ((1 : Nat) : Rat) = 1 := rfl
              rw [e]; grind
            · have e : ((1 : Nat) : Rat) = 1 := rfl
              rw [e]; grind
          rw [hfq, ← hxq] at tc
          rw [hfq] at pl
          obtain ⟨q, hqq⟩ : ∃ q, meanTo f b (k + 1) = q := ⟨_, rfl⟩
          obtain ⟨s, hss⟩ : ∃ s, meanTo f b k = s := ⟨_, rfl⟩
          obtain ⟨r, hrr⟩ : ∃ r, toQ (x, y) * scoreQ f k = r := ⟨_, rfl⟩
          rw [hrr] at tc pl
          rw [hqq, hss] at pl
          rw [hss] at k6
          obtain ⟨H, hH⟩ : ∃ H, H = hp ++ [fC x y] := ⟨_, rfl⟩
          have c8 : H[hp.length]? = some (fC x y) := by rw [hH]; exact get_new _ _
          have c4 : H[h.length]? = some z0 := by rw [hH]; exact get_old k4 _
          have c6 : H[h.length + 1]? = some (fC s.num s.den) := by rw [hH]; exact get_old k6 _
          have hEH : Ext (fun _ => False) h H := by rw [hH]; exact hEp.trans (Ext.app _ _ _)
          have sc := score_call (w := k) (hu.ext hEH) cf (by omega)
          obtain ⟨w, hww⟩ : ∃ w, scoreQ f k = w := ⟨_, rfl⟩
          rw [hww] at sc tc
          refine aws_cut fun N4 hN4 => ?_
          simp (maxSteps := 2000000) only [s31, ↓aw_region, ↓aw_skip, ↓aw_seq, ↓aw_block, ↓aw_exit, ↓aw_ret, ↓sops_nil, ↓sops_go, ↓dops_nil, ↓dopsX_nil, ↓dopsR_nil, ↓vdn, vup, extr_20, extr_21, extr_30, extr_31, extr_32, List.map_cons, List.map_nil, cond_true, cond_false, aop, aThen, aBlock, argEnv, ev, sput, sputO, binK, binI, unK, builtinK, pickK, Nat.reduceBEq, Nat.reduceAdd, Int.reduceBEq, Int.reduceBNe, Int.reduceLT, aPost, resK, tup, tyf, hin]
          refine hN4 [(0, u), (1, v), (4, .pointer (some ⟨h.length, 0, none⟩)), (5, .int .i64 0), (6, .pointer (some ⟨h.length + 1, 0, none⟩)), (26, v), (27, vint b.length), (28, vint (k : Nat)), (29, .bool true)] _ _ ?_ (by simp (maxSteps := 2000000) only [↓aw_region, ↓aw_skip, ↓aw_seq, ↓aw_block, ↓aw_exit, ↓aw_ret, ↓sops_nil, ↓sops_go, ↓dops_nil, ↓dopsX_nil, ↓dopsR_nil, ↓vdn, vup, extr_20, extr_21, extr_30, extr_31, extr_32, List.map_cons, List.map_nil, cond_true, cond_false, aop, aThen, aBlock, argEnv, ev, sput, sputO, binK, binI, unK, builtinK, pickK, Nat.reduceBEq, Nat.reduceAdd, Int.reduceBEq, Int.reduceBNe, Int.reduceLT, aPost, resK, tup, tyf])
          clear hN4
          try clear N4
          refine aws_cut fun N5 hN5 => ?_
          simp (maxSteps := 2000000) only [s31, ↓aw_region, ↓aw_skip, ↓aw_seq, ↓aw_block, ↓aw_exit, ↓aw_ret, ↓sops_nil, ↓sops_go, ↓dops_nil, ↓dopsX_nil, ↓dopsR_nil, ↓vdn, vup, extr_20, extr_21, extr_30, extr_31, extr_32, List.map_cons, List.map_nil, cond_true, cond_false, aop, aThen, aBlock, argEnv, ev, sput, sputO, binK, binI, unK, builtinK, pickK, Nat.reduceBEq, Nat.reduceAdd, Int.reduceBEq, Int.reduceBNe, Int.reduceLT, aPost, resK, tup, tyf]
          refine hN5 [(0, u), (1, v), (4, .pointer (some ⟨h.length, 0, none⟩)), (5, .int .i64 0), (6, .pointer (some ⟨h.length + 1, 0, none⟩)), (26, v), (27, vint b.length), (28, vint (k : Nat))] _ _ ?_ (by simp (maxSteps := 2000000) only [↓aw_region, ↓aw_skip, ↓aw_seq, ↓aw_block, ↓aw_exit, ↓aw_ret, ↓sops_nil, ↓sops_go, ↓dops_nil, ↓dopsX_nil, ↓dopsR_nil, ↓vdn, vup, extr_20, extr_21, extr_30, extr_31, extr_32, List.map_cons, List.map_nil, cond_true, cond_false, aop, aThen, aBlock, argEnv, ev, sput, sputO, binK, binI, unK, builtinK, pickK, Nat.reduceBEq, Nat.reduceAdd, Int.reduceBEq, Int.reduceBNe, Int.reduceLT, aPost, resK, tup, tyf])
          clear hN5
          try clear N5
          refine aws_cutW fun B hB => ?_
          refine aws_block ?_
          refine aws_cut fun N6 hN6 => ?_
          simp (maxSteps := 2000000) only [s31, ↓aw_region, ↓aw_skip, ↓aw_seq, ↓aw_block, ↓aw_exit, ↓aw_ret, ↓sops_nil, ↓sops_go, ↓dops_nil, ↓dopsX_nil, ↓dopsR_nil, ↓vdn, vup, extr_20, extr_21, extr_30, extr_31, extr_32, List.map_cons, List.map_nil, cond_true, cond_false, aop, aThen, aBlock, argEnv, ev, sput, sputO, binK, binI, unK, builtinK, pickK, Nat.reduceBEq, Nat.reduceAdd, Int.reduceBEq, Int.reduceBNe, Int.reduceLT, aPost, resK, tup, tyf, hvp.idx el_47 esz_26 hk', hvp.load shp_26 hk', hxy, allocK, newPtr, zero_26, storeF (get_new hp z0) rfl, set_new]
          rw [← hH]
          refine hN6 [(0, u), (1, v), (4, .pointer (some ⟨h.length, 0, none⟩)), (5, .int .i64 0), (6, .pointer (some ⟨h.length + 1, 0, none⟩)), (7, vint (k : Nat)), (8, .pointer (some ⟨hp.length, 0, none⟩)), (26, v), (27, vint b.length), (28, vint (k : Nat))] _ _ ?_ (by simp (maxSteps := 2000000) only [↓aw_region, ↓aw_skip, ↓aw_seq, ↓aw_block, ↓aw_exit, ↓aw_ret, ↓sops_nil, ↓sops_go, ↓dops_nil, ↓dopsX_nil, ↓dopsR_nil, ↓vdn, vup, extr_20, extr_21, extr_30, extr_31, extr_32, List.map_cons, List.map_nil, cond_true, cond_false, aop, aThen, aBlock, argEnv, ev, sput, sputO, binK, binI, unK, builtinK, pickK, Nat.reduceBEq, Nat.reduceAdd, Int.reduceBEq, Int.reduceBNe, Int.reduceLT, aPost, resK, tup, tyf])
          clear hN6
          try clear N6
          refine aw_aws ?_
          simp only [q31_7]
          refine aw_drawX [(4, 1), (5, 1), (6, 1)] (by kernel_rfl) (by kernel_rfl) (by kernel_rfl) (by kernel_rfl) ?_
          simp (maxSteps := 2000000) only [s31, ↓aw_region, ↓aw_skip, ↓aw_seq, ↓aw_block, ↓aw_exit, ↓aw_ret, ↓sops_nil, ↓sops_go, ↓dops_nil, ↓dopsX_nil, ↓dopsR_nil, ↓vdn, vup, extr_20, extr_21, extr_30, extr_31, extr_32, List.map_cons, List.map_nil, cond_true, cond_false, aop, aThen, aBlock, argEnv, ev, sput, sputO, binK, binI, unK, builtinK, pickK, Nat.reduceBEq, Nat.reduceAdd, Int.reduceBEq, Int.reduceBNe, Int.reduceLT, aPost, resK, tup, tyf, loadF c6, loadF c8, callK, List.nil_append, List.append_nil, List.toList_toArray, List.cons_append]
          refine ⟨_, _, sc, rfl, _, _, tc _, rfl, _, _, pl _, rfl, ?_⟩
          simp only [qV, frV, storeF c6 rfl]
          refine hB [(0, u), (1, v), (4, .pointer (some ⟨h.length, 0, none⟩)), (5, .int .i64 0), (6, .pointer (some ⟨h.length + 1, 0, none⟩)), (26, v), (27, vint b.length), (28, vint (k : Nat))] _ _ ?_ (by simp (maxSteps := 2000000) only [↓aw_region, ↓aw_skip, ↓aw_seq, ↓aw_block, ↓aw_exit, ↓aw_ret, ↓sops_nil, ↓sops_go, ↓dops_nil, ↓dopsX_nil, ↓dopsR_nil, ↓vdn, vup, extr_20, extr_21, extr_30, extr_31, extr_32, List.map_cons, List.map_nil, cond_true, cond_false, aop, aThen, aBlock, argEnv, ev, sput, sputO, binK, binI, unK, builtinK, pickK, Nat.reduceBEq, Nat.reduceAdd, Int.reduceBEq, Int.reduceBNe, Int.reduceLT, aPost, resK, tup, tyf])
          clear hB
          try clear B
          refine aw_aws ?_
          simp (maxSteps := 2000000) only [s31, ↓aw_region, ↓aw_skip, ↓aw_seq, ↓aw_block, ↓aw_exit, ↓aw_ret, ↓sops_nil, ↓sops_go, ↓dops_nil, ↓dopsX_nil, ↓dopsR_nil, ↓vdn, vup, extr_20, extr_21, extr_30, extr_31, extr_32, List.map_cons, List.map_nil, cond_true, cond_false, aop, aThen, aBlock, argEnv, ev, sput, sputO, binK, binI, unK, builtinK, pickK, Nat.reduceBEq, Nat.reduceAdd, Int.reduceBEq, Int.reduceBNe, Int.reduceLT, aPost, resK, tup, tyf, add1 (show k < 9223372036854775807 by omega)]
          exact hQ2 _ _ _ ⟨(k + 1, H.set (h.length + 1) (fC q.num q.den)), ⟨hk', hEH.set_ge (by omega) _, by rw [List.getElem?_set_ne (by omega)]; exact c4, by simp only; rw [hqq]; exact get_set (get_lt c6) _⟩, by simp only; omega, by simp (maxSteps := 2000000) only [↓aw_region, ↓aw_skip, ↓aw_seq, ↓aw_block, ↓aw_exit, ↓aw_ret, ↓sops_nil, ↓sops_go, ↓dops_nil, ↓dopsX_nil, ↓dopsR_nil, ↓vdn, vup, extr_20, extr_21, extr_30, extr_31, extr_32, List.map_cons, List.map_nil, cond_true, cond_false, aop, aThen, aBlock, argEnv, ev, sput, sputO, binK, binI, unK, builtinK, pickK, Nat.reduceBEq, Nat.reduceAdd, Int.reduceBEq, Int.reduceBNe, Int.reduceLT, aPost, resK, tup, tyf], rfl⟩
        · obtain rfl : k = b.length := by omega
          refine aws_cut fun N7 hN7 => ?_
          simp (maxSteps := 2000000) only [s31, ↓aw_region, ↓aw_skip, ↓aw_seq, ↓aw_block, ↓aw_exit, ↓aw_ret, ↓sops_nil, ↓sops_go, ↓dops_nil, ↓dopsX_nil, ↓dopsR_nil, ↓vdn, vup, extr_20, extr_21, extr_30, extr_31, extr_32, List.map_cons, List.map_nil, cond_true, cond_false, aop, aThen, aBlock, argEnv, ev, sput, sputO, binK, binI, unK, builtinK, pickK, Nat.reduceBEq, Nat.reduceAdd, Int.reduceBEq, Int.reduceBNe, Int.reduceLT, aPost, resK, tup, tyf, hin]
          refine hN7 [(0, u), (1, v), (4, .pointer (some ⟨h.length, 0, none⟩)), (5, .int .i64 0), (6, .pointer (some ⟨h.length + 1, 0, none⟩)), (26, v), (27, vint b.length), (28, vint b.length), (29, .bool false)] _ _ ?_ (by simp (maxSteps := 2000000) only [↓aw_region, ↓aw_skip, ↓aw_seq, ↓aw_block, ↓aw_exit, ↓aw_ret, ↓sops_nil, ↓sops_go, ↓dops_nil, ↓dopsX_nil, ↓dopsR_nil, ↓vdn, vup, extr_20, extr_21, extr_30, extr_31, extr_32, List.map_cons, List.map_nil, cond_true, cond_false, aop, aThen, aBlock, argEnv, ev, sput, sputO, binK, binI, unK, builtinK, pickK, Nat.reduceBEq, Nat.reduceAdd, Int.reduceBEq, Int.reduceBNe, Int.reduceLT, aPost, resK, tup, tyf])
          clear hN7
          try clear N7
          refine aws_cut fun N8 hN8 => ?_
          simp (maxSteps := 2000000) only [s31, ↓aw_region, ↓aw_skip, ↓aw_seq, ↓aw_block, ↓aw_exit, ↓aw_ret, ↓sops_nil, ↓sops_go, ↓dops_nil, ↓dopsX_nil, ↓dopsR_nil, ↓vdn, vup, extr_20, extr_21, extr_30, extr_31, extr_32, List.map_cons, List.map_nil, cond_true, cond_false, aop, aThen, aBlock, argEnv, ev, sput, sputO, binK, binI, unK, builtinK, pickK, Nat.reduceBEq, Nat.reduceAdd, Int.reduceBEq, Int.reduceBNe, Int.reduceLT, aPost, resK, tup, tyf]
          refine hQ2 _ _ _ (hQ _ _ _ ?_)
          simp (maxSteps := 2000000) only [s31, ↓aw_region, ↓aw_skip, ↓aw_seq, ↓aw_block, ↓aw_exit, ↓aw_ret, ↓sops_nil, ↓sops_go, ↓dops_nil, ↓dopsX_nil, ↓dopsR_nil, ↓vdn, vup, extr_20, extr_21, extr_30, extr_31, extr_32, List.map_cons, List.map_nil, cond_true, cond_false, aop, aThen, aBlock, argEnv, ev, sput, sputO, binK, binI, unK, builtinK, pickK, Nat.reduceBEq, Nat.reduceAdd, Int.reduceBEq, Int.reduceBNe, Int.reduceLT, aPost, resK, tup, tyf, if_true]
          refine hZ [(0, u), (1, v), (4, .pointer (some ⟨h.length, 0, none⟩)), (5, .int .i64 0), (6, .pointer (some ⟨h.length + 1, 0, none⟩)), (26, v), (27, vint b.length), (28, vint b.length), (29, .bool false)] _ _ ?_ (by simp (maxSteps := 2000000) only [↓aw_region, ↓aw_skip, ↓aw_seq, ↓aw_block, ↓aw_exit, ↓aw_ret, ↓sops_nil, ↓sops_go, ↓dops_nil, ↓dopsX_nil, ↓dopsR_nil, ↓vdn, vup, extr_20, extr_21, extr_30, extr_31, extr_32, List.map_cons, List.map_nil, cond_true, cond_false, aop, aThen, aBlock, argEnv, ev, sput, sputO, binK, binI, unK, builtinK, pickK, Nat.reduceBEq, Nat.reduceAdd, Int.reduceBEq, Int.reduceBNe, Int.reduceLT, aPost, resK, tup, tyf])
          clear hZ
          try clear Z
          rw [← meanQ] at k6
          obtain ⟨q, hqq⟩ : ∃ q, meanQ f b = q := ⟨_, rfl⟩
          rw [hqq] at k6 hR
          refine aw_aws ?_
          simp (maxSteps := 2000000) only [s31, ↓aw_region, ↓aw_skip, ↓aw_seq, ↓aw_block, ↓aw_exit, ↓aw_ret, ↓sops_nil, ↓sops_go, ↓dops_nil, ↓dopsX_nil, ↓dopsR_nil, ↓vdn, vup, extr_20, extr_21, extr_30, extr_31, extr_32, List.map_cons, List.map_nil, cond_true, cond_false, aop, aThen, aBlock, argEnv, ev, sput, sputO, binK, binI, unK, builtinK, pickK, Nat.reduceBEq, Nat.reduceAdd, Int.reduceBEq, Int.reduceBNe, Int.reduceLT, aPost, resK, tup, tyf, loadF k6, storeF k4 rfl, loadF (get_set (get_lt k4) _)]
          exact ⟨hR, hEp.set_ge (Nat.le_refl _) _⟩
      · have hne : (((f.length : Nat) : Int) != ((b.length : Nat) : Int)) = true := by
          have : ¬ ((f.length : Nat) : Int) = ((b.length : Nat) : Int) := by omega
          simpa [bne] using this
        simp (maxSteps := 2000000) only [s31, ↓aw_region, ↓aw_skip, ↓aw_seq, ↓aw_block, ↓aw_exit, ↓aw_ret, ↓sops_nil, ↓sops_go, ↓dops_nil, ↓dopsX_nil, ↓dopsR_nil, ↓vdn, vup, extr_20, extr_21, extr_30, extr_31, extr_32, List.map_cons, List.map_nil, cond_true, cond_false, aop, aThen, aBlock, argEnv, ev, sput, sputO, binK, binI, unK, builtinK, pickK, Nat.reduceBEq, Nat.reduceAdd, Int.reduceBEq, Int.reduceBNe, Int.reduceLT, aPost, resK, tup, tyf, Bool.not_true, huH.len, hvH.len, hne, bldF0, List.map_toArray, storeF c4 rfl, loadF (get_set (get_lt c4) _)]
        rw [← hR, if_neg (by simp [hl])]
        exact ⟨rfl, hE.set_ge (Nat.le_refl _) _⟩
end Go.Proofs.Try.Am

namespace Go.Proofs.Try.Am
open Go.Am Bq
set_option maxRecDepth 100000
set_option maxHeartbeats 1000000

/-- The sure forecast. -/
def sureL (n w : Nat) : List (Int × Int) := (List.replicate n ((0 : Int), (1 : Int))).set w (1, 1)
theorem sureL_len (n w : Nat) : (sureL n w).length = n := by simp [sureL]
theorem sure_fc {n w : Nat} (h1 : 2 ≤ n) (h2 : n ≤ 5) (hw : w < n) : fcB (sureL n w) = true := by
  have key : ∀ n, n < 6 → 2 ≤ n → ∀ w, w < n → fcB (sureL n w) = true := by decide +kernel
  exact key n (by omega) h1 w hw
theorem sure_fq {n w i : Nat} (hi : i < n) : fq (sureL n w) i = if i = w then 1 else 0 := by
  have e : (sureL n w).getD i (0, 0) = if i = w then (1, 1) else (0, 1) := by
    rw [sureL, List.getD, List.getElem?_set]
    by_cases h : w = i
    · subst h; simp [hi]
    · rw [if_neg h, if_neg (Ne.symm h)]; simp [hi]
  rw [fq, e]
  split <;> decide
theorem sure_sum {n w : Nat} (g : Nat → Rat) : ∀ k, k ≤ n → sumTo (fun i => fq (sureL n w) i * g i) k = if w < k then g w else 0
  | 0, _ => rfl
  | k + 1, hk => by
    have ih := sure_sum g k (show k ≤ n by omega) (w := w)
    rw [sumTo, ih, sure_fq (show k < n by omega)]
    rcases Nat.lt_trichotomy w k with h | h | h
    · rw [if_pos h, if_neg (by omega), if_pos (by omega)]; grind
    · subst h; rw [if_neg (by omega), if_pos rfl, if_pos (by omega)]; grind
    · rw [if_neg (by omega), if_neg (by omega), if_neg (by omega)]; grind
theorem sure_mean {f : List (Int × Int)} {w : Nat} (hw : w < f.length) : meanQ f (sureL f.length w) = scoreQ f w := by
  rw [meanQ, meanTo, sureL_len, sure_sum _ _ (Nat.le_refl _), if_pos hw]
theorem set_replicate {k n : Nat} (hk : k < n) : (List.replicate k ((0 : Int), (1 : Int)) ++ List.replicate (n - k) (0, 0)).set k (0, 1) = List.replicate (k + 1) (0, 1) ++ List.replicate (n - (k + 1)) (0, 0) := by
  rw [List.set_append_right _ _ (by simp), List.length_replicate, Nat.sub_self, show n - k = (n - (k + 1)) + 1 by omega, List.replicate_succ, List.set_cons_zero, List.replicate_succ' (n := k), List.append_assoc]
  rfl

end Go.Proofs.Try.Am

namespace Go.Proofs.Try.Am
open Go.Am
set_option maxRecDepth 100000
/-! 8: planchet planchetlaw09.BetsAverages -/
@[reducible] def q8_0 : SCode := .region [⟨some 4, .assign (.const (.bool false)), none⟩]
@[reducible] def q8_1 : SCode := .region [⟨some 14, .move (.tmp 0), none⟩,
    ⟨some 15, .call { callee := .value (.func 32), args := #[.tmp 14], argTypes := #[47] }, none⟩,
    ⟨some 16, .move (.tmp 1), none⟩,
    ⟨some 17, .call { callee := .value (.func 40), args := #[.tmp 15, .tmp 16], argTypes := #[47, 3] }, none⟩,
    ⟨some 13, .move (.tmp 17), none⟩,
    ⟨some 18, .extract (.tmp 13) 0, none⟩,
    ⟨some 19, .extract (.tmp 13) 1, none⟩,
    ⟨some 5, .alloc 26, none⟩,
    ⟨none, .store 26 (.tmp 5) (.tmp 18), none⟩,
    ⟨some 6, .assign (.tmp 19), none⟩]
@[reducible] def q8_2 : SCode := .region [⟨some 20, .move (.tmp 6), none⟩,
    ⟨some 21, .binOp .neq 27 (.tmp 20) (.const (.int .i64 0)) 27, none⟩,
    ⟨some 22, .move (.tmp 21), none⟩,
    ⟨some 23, .move (.tmp 0), some (22, false)⟩,
    ⟨some 24, .call { callee := .value (.func 33), args := #[.tmp 23], argTypes := #[47] }, some (22, false)⟩,
    ⟨some 25, .unOp .not 4 (.tmp 24), some (22, false)⟩,
    ⟨some 26, .pick (.tmp 22) (.const (.bool true)) (.tmp 25), none⟩,
    ⟨some 27, .move (.tmp 26), none⟩,
    ⟨some 28, .move (.tmp 1), some (27, false)⟩,
    ⟨some 29, .binOp .lss 3 (.tmp 28) (.const (.int .i64 0)) 3, some (27, false)⟩,
    ⟨some 30, .pick (.tmp 27) (.const (.bool true)) (.tmp 29), none⟩,
    ⟨some 31, .move (.tmp 30), none⟩,
    ⟨some 32, .move (.tmp 1), some (31, false)⟩,
    ⟨some 33, .move (.tmp 0), some (31, false)⟩,
    ⟨some 34, .call { callee := .builtin .len, args := #[.tmp 33], argTypes := #[47] }, some (31, false)⟩,
    ⟨some 35, .binOp .geq 3 (.tmp 32) (.tmp 34) 3, some (31, false)⟩,
    ⟨some 36, .pick (.tmp 31) (.const (.bool true)) (.tmp 35), none⟩]
@[reducible] def q8_3 : SCode := .region [⟨some 37, .move (.tmp 6), none⟩,
    ⟨some 38, .binOp .eql 27 (.tmp 37) (.const (.int .i64 2)) 27, none⟩,
    ⟨some 39, .move (.tmp 38), none⟩,
    ⟨some 40, .call { callee := .value (.func 21), args := #[], argTypes := #[] }, some (39, true)⟩,
    ⟨some 41, .pick (.tmp 39) (.tmp 40) (.const (.bool false)), none⟩,
    ⟨some 4, .assign (.tmp 41), none⟩]
@[reducible] def q8_4 : SCode := .region [⟨some 42, .move (.tmp 0), none⟩,
    ⟨some 43, .call { callee := .builtin .len, args := #[.tmp 42], argTypes := #[47] }, none⟩,
    ⟨some 44, .makeSlice 47 (.tmp 43) (.tmp 43), none⟩,
    ⟨some 7, .assign (.tmp 44), none⟩]
@[reducible] def q8_5 : SCode := .region [⟨some 45, .move (.tmp 7), none⟩,
    ⟨some 46, .call { callee := .builtin .len, args := #[.tmp 45], argTypes := #[47] }, none⟩,
    ⟨some 47, .move (.const (.int .i64 0)), none⟩]
@[reducible] def q8_6 : SCode := .region [⟨some 48, .binOp .lss 3 (.tmp 47) (.tmp 46) 3, none⟩]
@[reducible] def q8_7 : SCode := .region [⟨some 49, .move (.tmp 47), none⟩,
    ⟨some 8, .assign (.tmp 49), none⟩]
@[reducible] def q8_8 : SCode := .region [⟨some 50, .move (.tmp 7), none⟩,
    ⟨some 51, .move (.tmp 8), none⟩,
    ⟨some 52, .build 26 #[(1, .const (.int .i64 1))], none⟩,
    ⟨some 53, .indexAddr 47 (.tmp 50) (.tmp 51), none⟩,
    ⟨none, .store 26 (.tmp 53) (.tmp 52), none⟩]
@[reducible] def q8_9 : SCode := .region [⟨some 54, .binOp .add 3 (.tmp 47) (.const (.int .i64 1)) 3, none⟩,
    ⟨some 47, .move (.tmp 54), none⟩]
def l8_0 : SCode := (.seq q8_6 (.seq (.cond (.tmp 48) .skip (.exit 0)) (.seq (.block 1 (.seq q8_7 q8_8)) q8_9)))
@[reducible] def q8_10 : SCode := .region [⟨some 55, .move (.tmp 7), none⟩,
    ⟨some 56, .move (.tmp 1), none⟩,
    ⟨some 57, .indexAddr 47 (.tmp 55) (.tmp 56), none⟩,
    ⟨some 58, .fieldAddr 26 (.tmp 57) 0, none⟩,
    ⟨none, .store 3 (.tmp 58) (.const (.int .i64 1)), none⟩]
@[reducible] def q8_11 : SCode := .region [⟨some 60, .move (.tmp 0), none⟩,
    ⟨some 61, .call { callee := .value (.func 32), args := #[.tmp 60], argTypes := #[47] }, none⟩,
    ⟨some 62, .move (.tmp 7), none⟩,
    ⟨some 63, .call { callee := .value (.func 32), args := #[.tmp 62], argTypes := #[47] }, none⟩,
    ⟨some 64, .call { callee := .value (.func 31), args := #[.tmp 61, .tmp 63], argTypes := #[47, 47] }, none⟩,
    ⟨some 59, .move (.tmp 64), none⟩,
    ⟨some 65, .extract (.tmp 59) 0, none⟩,
    ⟨some 66, .extract (.tmp 59) 1, none⟩,
    ⟨some 9, .alloc 26, none⟩,
    ⟨none, .store 26 (.tmp 9) (.tmp 65), none⟩,
    ⟨some 10, .assign (.tmp 66), none⟩]
@[reducible] def q8_12 : SCode := .region [⟨some 68, .move (.tmp 7), none⟩,
    ⟨some 69, .call { callee := .value (.func 32), args := #[.tmp 68], argTypes := #[47] }, none⟩,
    ⟨some 70, .move (.tmp 1), none⟩,
    ⟨some 71, .call { callee := .value (.func 40), args := #[.tmp 69, .tmp 70], argTypes := #[47, 3] }, none⟩,
    ⟨some 67, .move (.tmp 71), none⟩,
    ⟨some 72, .extract (.tmp 67) 0, none⟩,
    ⟨some 73, .extract (.tmp 67) 1, none⟩,
    ⟨some 11, .alloc 26, none⟩,
    ⟨none, .store 26 (.tmp 11) (.tmp 72), none⟩,
    ⟨some 12, .assign (.tmp 73), none⟩]
def q8_13 : SCode := .draw [⟨some 74, .move (.tmp 10), none⟩,
    ⟨some 75, .binOp .eql 27 (.tmp 74) (.const (.int .i64 0)) 27, none⟩,
    ⟨some 76, .move (.tmp 75), none⟩,
    ⟨some 77, .move (.tmp 12), some (76, true)⟩,
    ⟨some 78, .binOp .eql 27 (.tmp 77) (.const (.int .i64 0)) 27, some (76, true)⟩,
    ⟨some 79, .pick (.tmp 76) (.tmp 78) (.const (.bool false)), none⟩,
    ⟨some 80, .move (.tmp 79), none⟩,
    ⟨some 81, .load 26 (.tmp 5), some (80, true)⟩,
    ⟨some 82, .load 26 (.tmp 9), some (80, true)⟩,
    ⟨some 83, .binOp .eql 26 (.tmp 81) (.tmp 82) 26, some (80, true)⟩,
    ⟨some 84, .pick (.tmp 80) (.tmp 83) (.const (.bool false)), none⟩,
    ⟨some 85, .move (.tmp 84), none⟩,
    ⟨some 86, .load 26 (.tmp 11), some (85, true)⟩,
    ⟨some 87, .build 26 #[(0, .const (.int .i64 1)), (1, .const (.int .i64 1))], some (85, true)⟩,
    ⟨some 88, .binOp .eql 26 (.tmp 86) (.tmp 87) 26, some (85, true)⟩,
    ⟨some 89, .pick (.tmp 85) (.tmp 88) (.const (.bool false)), none⟩,
    ⟨some 90, .move (.tmp 89), none⟩,
    ⟨some 91, .fieldAddr 26 (.tmp 5) 1, some (90, true)⟩,
    ⟨some 92, .load 3 (.tmp 91), some (90, true)⟩,
    ⟨some 93, .binOp .geq 3 (.tmp 92) (.const (.int .i64 1)) 3, some (90, true)⟩,
    ⟨some 94, .pick (.tmp 90) (.tmp 93) (.const (.bool false)), none⟩,
    ⟨some 95, .move (.tmp 94), none⟩,
    ⟨some 96, .fieldAddr 26 (.tmp 5) 0, some (95, true)⟩,
    ⟨some 97, .load 3 (.tmp 96), some (95, true)⟩,
    ⟨some 98, .fieldAddr 26 (.tmp 5) 1, some (95, true)⟩,
    ⟨some 99, .load 3 (.tmp 98), some (95, true)⟩,
    ⟨some 100, .unOp .neg 3 (.tmp 99), some (95, true)⟩,
    ⟨some 101, .binOp .geq 3 (.tmp 97) (.tmp 100) 3, some (95, true)⟩,
    ⟨some 102, .pick (.tmp 95) (.tmp 101) (.const (.bool false)), none⟩,
    ⟨some 103, .move (.tmp 102), none⟩,
    ⟨some 104, .fieldAddr 26 (.tmp 5) 0, some (103, true)⟩,
    ⟨some 105, .load 3 (.tmp 104), some (103, true)⟩,
    ⟨some 106, .fieldAddr 26 (.tmp 5) 1, some (103, true)⟩,
    ⟨some 107, .load 3 (.tmp 106), some (103, true)⟩,
    ⟨some 108, .binOp .leq 3 (.tmp 105) (.tmp 107) 3, some (103, true)⟩,
    ⟨some 109, .pick (.tmp 103) (.tmp 108) (.const (.bool false)), none⟩,
    ⟨some 110, .move (.tmp 109), none⟩,
    ⟨some 111, .load 26 (.tmp 5), some (110, true)⟩,
    ⟨some 112, .load 26 (.tmp 11), some (110, true)⟩,
    ⟨some 113, .binOp .eql 26 (.tmp 111) (.tmp 112) 26, some (110, true)⟩,
    ⟨some 114, .move (.tmp 0), some (110, true)⟩,
    ⟨some 115, .move (.tmp 7), some (110, true)⟩,
    ⟨some 116, .call { callee := .value (.func 35), args := #[.tmp 114, .tmp 115], argTypes := #[47, 47] }, some (110, true)⟩,
    ⟨some 117, .binOp .eql 4 (.tmp 113) (.tmp 116) 4, some (110, true)⟩,
    ⟨some 118, .pick (.tmp 110) (.tmp 117) (.const (.bool false)), none⟩,
    ⟨some 119, .move (.tmp 118), none⟩,
    ⟨some 120, .call { callee := .value (.func 21), args := #[], argTypes := #[] }, some (119, true)⟩,
    ⟨some 121, .pick (.tmp 119) (.tmp 120) (.const (.bool false)), none⟩,
    ⟨some 4, .assign (.tmp 121), none⟩]
   [[], [0], [1], [2], [3, 2], [2, 4], [5, 2], [6], [6], [7, 8, 6], [6, 9], [10, 6], [11], [11], [12, 13, 11], [11, 14], [15, 11], [16], [17, 16], [18, 16], [16, 19], [20, 16], [21], [22, 21], [21], [24, 21], [25, 21], [23, 26, 21], [21, 27], [28, 21], [29], [30, 29], [29], [32, 29], [31, 33, 29], [29, 34], [35, 29], [36], [36], [37, 38, 36], [36], [36], [40, 41, 36, 36], [39, 42, 36], [36, 43], [44, 42], [45, 45], [45, 46], [47, 46, 0, 1, 2, 3, 4, 5, 6, 7, 8, 9, 10, 11, 12, 13, 14, 15, 16, 17, 18, 19, 20, 21, 22, 23, 24, 25, 26, 27, 28, 29, 30, 31, 32, 33, 34, 35, 36, 37, 38, 39, 40, 41, 42, 43, 44, 45, 46, 47]]
def s8 : SCode := (.seq q8_0 (.seq q8_1 (.seq (.seq q8_2 (.cond (.tmp 36) (.seq q8_3 .ret) .skip)) (.seq q8_4 (.seq (.seq q8_5 (.block 0 (.loop l8_0))) (.seq q8_10 (.seq q8_11 (.seq q8_12 (.seq q8_13 .ret)))))))))
theorem s8_strip : stripC (bodyOf Try.f8) = s8 := by kernel_rfl
theorem s8_ok : codeOK 122 (bodyOf Try.f8) = true := by kernel_rfl
end Go.Proofs.Try.Am

namespace Go.Proofs.Try.Am
open Go.Am Bq
set_option maxRecDepth 100000
set_option maxHeartbeats 4000000

theorem sure_one {n w : Nat} (hw : w < n) : scoreQ (sureL n w) w = 1 := by
  rw [scoreQ, scoreTo, sureL_len, sure_sum (fun i => fq (sureL n w) i) n (Nat.le_refl _), if_pos hw, sure_fq hw, if_pos rfl]
  decide +kernel
theorem sumTo_two {g : Nat → Rat} {n i j : Nat} (hi : i < j) (hj : j < n) (h : ∀ i, i < n → 0 ≤ g i) : g i + g j ≤ sumTo g n := by
  have h1 := sumTo_mono (show j + 1 ≤ n by omega) h
  have h2 := sumTo_one hi (fun k hk => h k (show k < n by omega))
  rw [sumTo] at h1; grind
theorem score_one {f : List (Int × Int)} (c : Fc f) {w : Nat} (hw : w < f.length) : scoreQ f w = 1 ↔ f = sureL f.length w := by
  constructor
  · intro h
    have hu := fun i (hi : i < f.length) => c.unit hi
    have h1 := sumTo_one (g := fun i => fq f i * fq f i) hw fun i hi => Rat.mul_nonneg (hu i hi).1 (hu i hi).1
    have h2 : 2 * fq f w - sumTo (fun i => fq f i * fq f i) f.length = 1 := h
    have h3 : fq f w = 1 := by
      have h4 : (1 - fq f w) * (1 - fq f w) ≤ 0 := by grind
      have h5 : 0 ≤ 1 - fq f w := by have := (hu w hw).2; grind
      by_cases h6 : 1 - fq f w = 0
      · grind
      · have h7 : 0 < 1 - fq f w := by grind
        have := Rat.mul_pos h7 h7
        grind
    have h0 : ∀ i, i < f.length → fq f i = if i = w then 1 else 0 := by
      intro i hi
      by_cases hiw : i = w
      · rw [if_pos hiw, hiw, h3]
      · rw [if_neg hiw]
        have hs := c.sum
        have hnn : ∀ i, i < f.length → 0 ≤ fq f i := fun i hi => (hu i hi).1
        rcases Nat.lt_or_gt_of_ne hiw with hlt | hlt
        · have := sumTo_two hlt hw hnn; have := hnn i hi; grind
        · have := sumTo_two hlt hi hnn; have := hnn i hi; grind
    have cs := (fc_of (sure_fc c.len.1 c.len.2 hw)).c.vld
    refine pairs_eq (by rw [sureL_len]) f.length (Nat.le_refl _) (fun i hi => ?_) rfl
    have e1 := c.c.vld _ (getD_mem hi)
    have e2 := cs _ (getD_mem (k := i) (by rw [sureL_len]; exact hi))
    have e3 : toQ (f.getD i (0, 0)) = toQ ((sureL f.length w).getD i (0, 0)) := (h0 i hi).trans (sure_fq hi).symm
    rw [← e1, ← e2, e3]
  · intro h
    have := sure_one hw
    rw [← h] at this
    exact this
theorem flatP_set0 : ∀ (ps : List (Int × Int)) (i : Nat) (x : Int), i < ps.length → flatP (ps.set i (x, (ps.getD i (0, 0)).2)) = (flatP ps).set (i * 2) x
  | [], i, _, h => by simp at h
  | p :: ps, 0, x, _ => rfl
  | p :: ps, i + 1, x, h => by
    have ih := flatP_set0 ps i x (by simpa using h)
    have e1 : ∀ l : List (Int × Int), flatP (p :: l) = p.1 :: p.2 :: flatP l := fun l => rfl
    rw [List.set_cons_succ, List.getD_cons_succ, e1, e1, ih, show (i + 1) * 2 = i * 2 + 1 + 1 by omega]
    rfl
theorem storeP0 {h : Heap} {b i : Nat} {e : TypeId} {ps : List (Int × Int)} {x y : Int} {K : Heap → Prop} (hb : h[b]? = some (.cells ((flatP ps).map vint) e false)) (hi : i < ps.length) (hy : (ps.getD i (0, 0)).2 = y) :
    storeK prog h 3 (.pointer (some ⟨b, i * 2, none⟩)) (vint x) K = K (h.set b (.cells ((flatP (ps.set i (x, y))).map vint) e false)) := by
  rw [storeC hb shp_3 rfl (by rw [List.length_map, flatP_len]; omega), ← hy, flatP_set0 _ _ _ hi, List.map_set]
theorem q_le {q : Rat} (h : q ≤ 1) : q.num ≤ (q.den : Int) := by
  have := (Rat.le_iff q 1).1 h
  simpa using this
theorem q_ge {q : Rat} (h : -1 ≤ q) : -(q.den : Int) ≤ q.num := by
  have := (Rat.le_iff (-1) q).1 h
  have e1 : (-1 : Rat).num = -1 := by decide
  have e2 : (-1 : Rat).den = 1 := by decide
  rw [e1, e2] at this
  omega

theorem bldFd {x : Int} {K : Value → Prop} : buildK prog 26 [(1, vint x)] K = K (.agg #[vint 0, vint x]) := by
  simp [buildK, zero_26, fillL, pl_26_1, notTuple, cellsOf, splice]

theorem s8_callW [Tabs Try.prog] {args : List Value} {h : Heap} {Q : Value → Heap → Prop} (hsz : args.length ≤ 122) (hk : AWS Try.prog 122 s8 (aPost Try.prog [.tmp 4] Q) (argEnv 0 args) h) : ACall Try.prog 8 args h Q :=
  acall_w Try.func8 rfl (enters_of Try.func8 (by kernel_rfl) rfl) rfl rfl (by decide) s8_strip s8_ok hsz hk
theorem law_averages [Tabs prog] {h : Heap} {u : Value} {f : List (Int × Int)} (hu : PairSl h u f) (hlf : f.length < 9223372036854775808) (hxf : InR f) (w : Int) : ACall prog 8 [u, vint w] h fun r _ => r = .bool true := by
  refine s8_callW (by simp) ?_
  simp only [s8]
  refine aws_cut fun N1 hN1 => ?_
  simp (maxSteps := 2000000) only [s8, ↓aw_region, ↓aw_skip, ↓aw_seq, ↓aw_block, ↓aw_exit, ↓aw_ret, ↓sops_nil, ↓sops_go, ↓dops_nil, ↓dopsX_nil, ↓dopsR_nil, ↓vdn, vup, extr_20, extr_21, extr_30, extr_31, extr_32, List.map_cons, List.map_nil, cond_true, cond_false, aop, aThen, aBlock, argEnv, ev, sput, sputO, binK, binI, unK, builtinK, pickK, Nat.reduceBEq, Nat.reduceAdd, Int.reduceBEq, Int.reduceBNe, Int.reduceLT, aPost, resK, tup, tyf]
  refine hN1 [(0, u), (1, vint w), (4, .bool false)] _ _ ?_ (by simp (maxSteps := 2000000) only [↓aw_region, ↓aw_skip, ↓aw_seq, ↓aw_block, ↓aw_exit, ↓aw_ret, ↓sops_nil, ↓sops_go, ↓dops_nil, ↓dopsX_nil, ↓dopsR_nil, ↓vdn, vup, extr_20, extr_21, extr_30, extr_31, extr_32, List.map_cons, List.map_nil, cond_true, cond_false, aop, aThen, aBlock, argEnv, ev, sput, sputO, binK, binI, unK, builtinK, pickK, Nat.reduceBEq, Nat.reduceAdd, Int.reduceBEq, Int.reduceBNe, Int.reduceLT, aPost, resK, tup, tyf])
  clear hN1
  try clear N1
  refine aws_cut fun N2 hN2 => ?_
  simp (maxSteps := 2000000) only [s8, ↓aw_region, ↓aw_skip, ↓aw_seq, ↓aw_block, ↓aw_exit, ↓aw_ret, ↓sops_nil, ↓sops_go, ↓dops_nil, ↓dopsX_nil, ↓dopsR_nil, ↓vdn, vup, extr_20, extr_21, extr_30, extr_31, extr_32, List.map_cons, List.map_nil, cond_true, cond_false, aop, aThen, aBlock, argEnv, ev, sput, sputO, binK, binI, unK, builtinK, pickK, Nat.reduceBEq, Nat.reduceAdd, Int.reduceBEq, Int.reduceBNe, Int.reduceLT, aPost, resK, tup, tyf, callK, List.nil_append, List.append_nil, List.toList_toArray, List.cons_append]
  refine (fracs_call hu).mono ?_
  rintro u1 h1 ⟨hu1, hE1⟩
  have sc := progScore_call (w := w) hu1 (by rw [List.length_take]; omega)
  have awk : ∀ {H : Heap}, APure prog 21 [] H (.bool true) := awake_call
  by_cases hc : fcB f = true ∧ 0 ≤ w ∧ w < f.length
  · obtain ⟨hf, hw0, hwl⟩ := hc
    have cf := fc_of hf
    have hlen := cf.len
    have hf8 : f.take 8 = f := List.take_of_length_le (by omega)
    obtain ⟨w, rfl⟩ : ∃ k : Nat, w = k := ⟨w.toNat, by omega⟩
    have hw : w < f.length := by omega
    have w1 : ¬ ((w : Nat) : Int) < 0 := by omega
    have w2 : ¬ ((w : Nat) : Int) ≥ f.length := by omega
    rw [hf8] at sc hu1
    rw [if_pos ⟨hf, by omega, by omega⟩, Int.toNat_natCast] at sc
    obtain ⟨q, hq⟩ : ∃ q, scoreQ f w = q := ⟨_, rfl⟩
    rw [hq] at sc
    refine sc.mono ?_
    rintro _ h1 ⟨rfl, rfl⟩
    simp (maxSteps := 2000000) only [s8, ↓aw_region, ↓aw_skip, ↓aw_seq, ↓aw_block, ↓aw_exit, ↓aw_ret, ↓sops_nil, ↓sops_go, ↓dops_nil, ↓dopsX_nil, ↓dopsR_nil, ↓vdn, vup, extr_20, extr_21, extr_30, extr_31, extr_32, List.map_cons, List.map_nil, cond_true, cond_false, aop, aThen, aBlock, argEnv, ev, sput, sputO, binK, binI, unK, builtinK, pickK, Nat.reduceBEq, Nat.reduceAdd, Int.reduceBEq, Int.reduceBNe, Int.reduceLT, aPost, resK, tup, tyf, qV, frV, allocK, newPtr, zero_26, storeF (get_new h1 z0) rfl, set_new]
    obtain ⟨H, hH⟩ : ∃ H, H = h1 ++ [fC q.num q.den] := ⟨_, rfl⟩
    have b5 : H[h1.length]? = some (fC q.num q.den) := by rw [hH]; exact get_new _ _
    have hE : Ext (fun _ => False) h H := by rw [hH]; exact hE1.trans (Ext.app _ _ _)
    rw [← hH]
    refine hN2 [(0, u), (1, vint (w : Nat)), (4, .bool false), (5, .pointer (some ⟨h1.length, 0, none⟩)), (6, .int .i64 0)] _ _ ?_ (by simp (maxSteps := 2000000) only [↓aw_region, ↓aw_skip, ↓aw_seq, ↓aw_block, ↓aw_exit, ↓aw_ret, ↓sops_nil, ↓sops_go, ↓dops_nil, ↓dopsX_nil, ↓dopsR_nil, ↓vdn, vup, extr_20, extr_21, extr_30, extr_31, extr_32, List.map_cons, List.map_nil, cond_true, cond_false, aop, aThen, aBlock, argEnv, ev, sput, sputO, binK, binI, unK, builtinK, pickK, Nat.reduceBEq, Nat.reduceAdd, Int.reduceBEq, Int.reduceBNe, Int.reduceLT, aPost, resK, tup, tyf])
    clear hN2
    try clear N2
    obtain ⟨p5, hp5⟩ : ∃ p, h1.length = p := ⟨_, rfl⟩
    rw [hp5] at b5 ⊢
    have huH := hu.ext hE
    clear sc hu1 hE1 hH hp5
    clear h1
    refine aws_cutW fun M hM => ?_
    refine aws_cut fun N3 hN3 => ?_
    simp (maxSteps := 2000000) only [s8, ↓aw_region, ↓aw_skip, ↓aw_seq, ↓aw_block, ↓aw_exit, ↓aw_ret, ↓sops_nil, ↓sops_go, ↓dops_nil, ↓dopsX_nil, ↓dopsR_nil, ↓vdn, vup, extr_20, extr_21, extr_30, extr_31, extr_32, List.map_cons, List.map_nil, cond_true, cond_false, aop, aThen, aBlock, argEnv, ev, sput, sputO, binK, binI, unK, builtinK, pickK, Nat.reduceBEq, Nat.reduceAdd, Int.reduceBEq, Int.reduceBNe, Int.reduceLT, aPost, resK, tup, tyf, callK, List.nil_append, List.append_nil, List.toList_toArray, List.cons_append]
    refine (rfc_call huH hlf hxf).mono ?_
    rintro _ H ⟨rfl, rfl⟩
    simp (maxSteps := 2000000) only [s8, ↓aw_region, ↓aw_skip, ↓aw_seq, ↓aw_block, ↓aw_exit, ↓aw_ret, ↓sops_nil, ↓sops_go, ↓dops_nil, ↓dopsX_nil, ↓dopsR_nil, ↓vdn, vup, extr_20, extr_21, extr_30, extr_31, extr_32, List.map_cons, List.map_nil, cond_true, cond_false, aop, aThen, aBlock, argEnv, ev, sput, sputO, binK, binI, unK, builtinK, pickK, Nat.reduceBEq, Nat.reduceAdd, Int.reduceBEq, Int.reduceBNe, Int.reduceLT, aPost, resK, tup, tyf, hf, Bool.not_true, w1, huH.len, w2]
    refine hN3 [(0, u), (1, vint (w : Nat)), (4, .bool false), (5, .pointer (some ⟨p5, 0, none⟩)), (6, .int .i64 0), (36, .bool false)] _ _ ?_ (by simp (maxSteps := 2000000) only [↓aw_region, ↓aw_skip, ↓aw_seq, ↓aw_block, ↓aw_exit, ↓aw_ret, ↓sops_nil, ↓sops_go, ↓dops_nil, ↓dopsX_nil, ↓dopsR_nil, ↓vdn, vup, extr_20, extr_21, extr_30, extr_31, extr_32, List.map_cons, List.map_nil, cond_true, cond_false, aop, aThen, aBlock, argEnv, ev, sput, sputO, binK, binI, unK, builtinK, pickK, Nat.reduceBEq, Nat.reduceAdd, Int.reduceBEq, Int.reduceBNe, Int.reduceLT, aPost, resK, tup, tyf])
    clear hN3
    try clear N3
    refine aws_false rfl ?_
    refine aw_aws ?_
    simp (maxSteps := 2000000) only [s8, ↓aw_region, ↓aw_skip, ↓aw_seq, ↓aw_block, ↓aw_exit, ↓aw_ret, ↓sops_nil, ↓sops_go, ↓dops_nil, ↓dopsX_nil, ↓dopsR_nil, ↓vdn, vup, extr_20, extr_21, extr_30, extr_31, extr_32, List.map_cons, List.map_nil, cond_true, cond_false, aop, aThen, aBlock, argEnv, ev, sput, sputO, binK, binI, unK, builtinK, pickK, Nat.reduceBEq, Nat.reduceAdd, Int.reduceBEq, Int.reduceBNe, Int.reduceLT, aPost, resK, tup, tyf]
    refine hM [(0, u), (1, vint (w : Nat)), (4, .bool false), (5, .pointer (some ⟨p5, 0, none⟩)), (6, .int .i64 0)] _ _ ?_ (by simp (maxSteps := 2000000) only [↓aw_region, ↓aw_skip, ↓aw_seq, ↓aw_block, ↓aw_exit, ↓aw_ret, ↓sops_nil, ↓sops_go, ↓dops_nil, ↓dopsX_nil, ↓dopsR_nil, ↓vdn, vup, extr_20, extr_21, extr_30, extr_31, extr_32, List.map_cons, List.map_nil, cond_true, cond_false, aop, aThen, aBlock, argEnv, ev, sput, sputO, binK, binI, unK, builtinK, pickK, Nat.reduceBEq, Nat.reduceAdd, Int.reduceBEq, Int.reduceBNe, Int.reduceLT, aPost, resK, tup, tyf])
    clear hM
    try clear M
    -- the sure forecast
    obtain ⟨n, hn⟩ : ∃ n, f.length = n := ⟨_, rfl⟩
    rw [hn] at hw hlen
    have hlv : ∀ {K : Value → Prop}, lenK u K = K (vint n) := fun {K} => by rw [← hn]; exact huH.len K
    have hmk : ∀ {K : Value → Heap → Prop}, makeK prog H 47 (vint n) (vint n) K = K (.slice (some ⟨H.length, 0, none⟩) n n) (H ++ [.cells ((flatP (List.replicate n (0, 0))).map vint) 26 false]) := fun {K} => makeP el_47 zero_26 info_26 rfl (by omega)
    refine aws_cut fun N4 hN4 => ?_
    simp (maxSteps := 2000000) only [s8, ↓aw_region, ↓aw_skip, ↓aw_seq, ↓aw_block, ↓aw_exit, ↓aw_ret, ↓sops_nil, ↓sops_go, ↓dops_nil, ↓dopsX_nil, ↓dopsR_nil, ↓vdn, vup, extr_20, extr_21, extr_30, extr_31, extr_32, List.map_cons, List.map_nil, cond_true, cond_false, aop, aThen, aBlock, argEnv, ev, sput, sputO, binK, binI, unK, builtinK, pickK, Nat.reduceBEq, Nat.reduceAdd, Int.reduceBEq, Int.reduceBNe, Int.reduceLT, aPost, resK, tup, tyf, hlv, hmk]
    refine hN4 [(0, u), (1, vint (w : Nat)), (4, .bool false), (5, .pointer (some ⟨p5, 0, none⟩)), (6, .int .i64 0), (7, .slice (some ⟨H.length, 0, none⟩) n n)] _ _ ?_ (by simp (maxSteps := 2000000) only [↓aw_region, ↓aw_skip, ↓aw_seq, ↓aw_block, ↓aw_exit, ↓aw_ret, ↓sops_nil, ↓sops_go, ↓dops_nil, ↓dopsX_nil, ↓dopsR_nil, ↓vdn, vup, extr_20, extr_21, extr_30, extr_31, extr_32, List.map_cons, List.map_nil, cond_true, cond_false, aop, aThen, aBlock, argEnv, ev, sput, sputO, binK, binI, unK, builtinK, pickK, Nat.reduceBEq, Nat.reduceAdd, Int.reduceBEq, Int.reduceBNe, Int.reduceLT, aPost, resK, tup, tyf])
    clear hN4
    try clear N4
    refine aws_cutW fun Z hZ => ?_
    refine aws_cut fun N5 hN5 => ?_
    simp (maxSteps := 2000000) only [s8, ↓aw_region, ↓aw_skip, ↓aw_seq, ↓aw_block, ↓aw_exit, ↓aw_ret, ↓sops_nil, ↓sops_go, ↓dops_nil, ↓dopsX_nil, ↓dopsR_nil, ↓vdn, vup, extr_20, extr_21, extr_30, extr_31, extr_32, List.map_cons, List.map_nil, cond_true, cond_false, aop, aThen, aBlock, argEnv, ev, sput, sputO, binK, binI, unK, builtinK, pickK, Nat.reduceBEq, Nat.reduceAdd, Int.reduceBEq, Int.reduceBNe, Int.reduceLT, aPost, resK, tup, tyf, lenK]
    refine hN5 [(0, u), (1, vint (w : Nat)), (4, .bool false), (5, .pointer (some ⟨p5, 0, none⟩)), (6, .int .i64 0), (7, .slice (some ⟨H.length, 0, none⟩) n n), (45, .slice (some ⟨H.length, 0, none⟩) n n), (46, vint n), (47, .int .i64 0)] _ _ ?_ (by simp (maxSteps := 2000000) only [↓aw_region, ↓aw_skip, ↓aw_seq, ↓aw_block, ↓aw_exit, ↓aw_ret, ↓sops_nil, ↓sops_go, ↓dops_nil, ↓dopsX_nil, ↓dopsR_nil, ↓vdn, vup, extr_20, extr_21, extr_30, extr_31, extr_32, List.map_cons, List.map_nil, cond_true, cond_false, aop, aThen, aBlock, argEnv, ev, sput, sputO, binK, binI, unK, builtinK, pickK, Nat.reduceBEq, Nat.reduceAdd, Int.reduceBEq, Int.reduceBNe, Int.reduceLT, aPost, resK, tup, tyf])
    clear hN5
    try clear N5
    refine aws_block ?_
    refine aws_hide fun Q hQ => ?_
    refine aw_loopW (γ := Nat) (fun k => k ≤ n)
      (fun k => ([(0, u), (1, vint (w : Nat)), (4, .bool false), (5, .pointer (some ⟨p5, 0, none⟩)), (6, .int .i64 0), (7, .slice (some ⟨H.length, 0, none⟩) n n), (45, .slice (some ⟨H.length, 0, none⟩) n n), (46, vint n), (47, vint (k : Nat))], H ++ [.cells ((flatP (List.replicate k ((0 : Int), (1 : Int)) ++ List.replicate (n - k) (0, 0))).map vint) 26 false])) (fun k => n - k) 0 (Nat.zero_le _) (by simp (maxSteps := 2000000) only [↓aw_region, ↓aw_skip, ↓aw_seq, ↓aw_block, ↓aw_exit, ↓aw_ret, ↓sops_nil, ↓sops_go, ↓dops_nil, ↓dopsX_nil, ↓dopsR_nil, ↓vdn, vup, extr_20, extr_21, extr_30, extr_31, extr_32, List.map_cons, List.map_nil, cond_true, cond_false, aop, aThen, aBlock, argEnv, ev, sput, sputO, binK, binI, unK, builtinK, pickK, Nat.reduceBEq, Nat.reduceAdd, Int.reduceBEq, Int.reduceBNe, Int.reduceLT, aPost, resK, tup, tyf, Int.natCast_zero]) (by simp) ?_
    rintro k hk
    refine aws_hide fun Q2 hQ2 => ?_
    simp only [l8_0]
    by_cases hin : (k : Int) < n
    · have hk' : k < n := by omega
      obtain ⟨L, hL⟩ : ∃ L, L = List.replicate k ((0 : Int), (1 : Int)) ++ List.replicate (n - k) (0, 0) := ⟨_, rfl⟩
      have hLl : L.length = n := by rw [hL]; simp; omega
      have hset := set_replicate hk'
      rw [← hL] at hset ⊢
      have ps := pairSl_cells (e := 26) (ro := false) (get_new H (.cells ((flatP L).map vint) 26 false))
      rw [hLl] at ps
      refine aws_cut fun N6 hN6 => ?_
      simp (maxSteps := 2000000) only [s8, ↓aw_region, ↓aw_skip, ↓aw_seq, ↓aw_block, ↓aw_exit, ↓aw_ret, ↓sops_nil, ↓sops_go, ↓dops_nil, ↓dopsX_nil, ↓dopsR_nil, ↓vdn, vup, extr_20, extr_21, extr_30, extr_31, extr_32, List.map_cons, List.map_nil, cond_true, cond_false, aop, aThen, aBlock, argEnv, ev, sput, sputO, binK, binI, unK, builtinK, pickK, Nat.reduceBEq, Nat.reduceAdd, Int.reduceBEq, Int.reduceBNe, Int.reduceLT, aPost, resK, tup, tyf, hin]
      refine hN6 [(0, u), (1, vint (w : Nat)), (4, .bool false), (5, .pointer (some ⟨p5, 0, none⟩)), (6, .int .i64 0), (7, .slice (some ⟨H.length, 0, none⟩) n n), (45, .slice (some ⟨H.length, 0, none⟩) n n), (46, vint n), (47, vint (k : Nat)), (48, .bool true)] _ _ ?_ (by simp (maxSteps := 2000000) only [↓aw_region, ↓aw_skip, ↓aw_seq, ↓aw_block, ↓aw_exit, ↓aw_ret, ↓sops_nil, ↓sops_go, ↓dops_nil, ↓dopsX_nil, ↓dopsR_nil, ↓vdn, vup, extr_20, extr_21, extr_30, extr_31, extr_32, List.map_cons, List.map_nil, cond_true, cond_false, aop, aThen, aBlock, argEnv, ev, sput, sputO, binK, binI, unK, builtinK, pickK, Nat.reduceBEq, Nat.reduceAdd, Int.reduceBEq, Int.reduceBNe, Int.reduceLT, aPost, resK, tup, tyf])
      clear hN6
      try clear N6
      refine aws_cut fun N7 hN7 => ?_
      simp (maxSteps := 2000000) only [s8, ↓aw_region, ↓aw_skip, ↓aw_seq, ↓aw_block, ↓aw_exit, ↓aw_ret, ↓sops_nil, ↓sops_go, ↓dops_nil, ↓dopsX_nil, ↓dopsR_nil, ↓vdn, vup, extr_20, extr_21, extr_30, extr_31, extr_32, List.map_cons, List.map_nil, cond_true, cond_false, aop, aThen, aBlock, argEnv, ev, sput, sputO, binK, binI, unK, builtinK, pickK, Nat.reduceBEq, Nat.reduceAdd, Int.reduceBEq, Int.reduceBNe, Int.reduceLT, aPost, resK, tup, tyf]
      refine hN7 [(0, u), (1, vint (w : Nat)), (4, .bool false), (5, .pointer (some ⟨p5, 0, none⟩)), (6, .int .i64 0), (7, .slice (some ⟨H.length, 0, none⟩) n n), (45, .slice (some ⟨H.length, 0, none⟩) n n), (46, vint n), (47, vint (k : Nat))] _ _ ?_ (by simp (maxSteps := 2000000) only [↓aw_region, ↓aw_skip, ↓aw_seq, ↓aw_block, ↓aw_exit, ↓aw_ret, ↓sops_nil, ↓sops_go, ↓dops_nil, ↓dopsX_nil, ↓dopsR_nil, ↓vdn, vup, extr_20, extr_21, extr_30, extr_31, extr_32, List.map_cons, List.map_nil, cond_true, cond_false, aop, aThen, aBlock, argEnv, ev, sput, sputO, binK, binI, unK, builtinK, pickK, Nat.reduceBEq, Nat.reduceAdd, Int.reduceBEq, Int.reduceBNe, Int.reduceLT, aPost, resK, tup, tyf])
      clear hN7
      try clear N7
      refine aws_cutW fun B hB => ?_
      refine aws_block ?_
      refine aws_cut fun N8 hN8 => ?_
      simp (maxSteps := 2000000) only [s8, ↓aw_region, ↓aw_skip, ↓aw_seq, ↓aw_block, ↓aw_exit, ↓aw_ret, ↓sops_nil, ↓sops_go, ↓dops_nil, ↓dopsX_nil, ↓dopsR_nil, ↓vdn, vup, extr_20, extr_21, extr_30, extr_31, extr_32, List.map_cons, List.map_nil, cond_true, cond_false, aop, aThen, aBlock, argEnv, ev, sput, sputO, binK, binI, unK, builtinK, pickK, Nat.reduceBEq, Nat.reduceAdd, Int.reduceBEq, Int.reduceBNe, Int.reduceLT, aPost, resK, tup, tyf]
      refine hN8 [(0, u), (1, vint (w : Nat)), (4, .bool false), (5, .pointer (some ⟨p5, 0, none⟩)), (6, .int .i64 0), (7, .slice (some ⟨H.length, 0, none⟩) n n), (8, vint (k : Nat)), (45, .slice (some ⟨H.length, 0, none⟩) n n), (46, vint n), (47, vint (k : Nat))] _ _ ?_ (by simp (maxSteps := 2000000) only [↓aw_region, ↓aw_skip, ↓aw_seq, ↓aw_block, ↓aw_exit, ↓aw_ret, ↓sops_nil, ↓sops_go, ↓dops_nil, ↓dopsX_nil, ↓dopsR_nil, ↓vdn, vup, extr_20, extr_21, extr_30, extr_31, extr_32, List.map_cons, List.map_nil, cond_true, cond_false, aop, aThen, aBlock, argEnv, ev, sput, sputO, binK, binI, unK, builtinK, pickK, Nat.reduceBEq, Nat.reduceAdd, Int.reduceBEq, Int.reduceBNe, Int.reduceLT, aPost, resK, tup, tyf])
      clear hN8
      try clear N8
      refine aw_aws ?_
      have hnb : (H ++ [Blk.cells ((flatP L).map vint) 26 false])[H.length]? = some (.cells ((flatP L).map vint) 26 false) := get_new _ _
      have hst : ∀ {K : Heap → Prop}, storeK prog (H ++ [Blk.cells ((flatP L).map vint) 26 false]) 26 (.pointer (some ⟨H.length, k * 2, none⟩)) (.agg #[vint 0, vint 1]) K = K (H ++ [Blk.cells ((flatP (L.set k (0, 1))).map vint) 26 false]) := fun {K} => by
        rw [storePC hnb shp_26 (by omega), set_new]
      simp (maxSteps := 2000000) only [s8, ↓aw_region, ↓aw_skip, ↓aw_seq, ↓aw_block, ↓aw_exit, ↓aw_ret, ↓sops_nil, ↓sops_go, ↓dops_nil, ↓dopsX_nil, ↓dopsR_nil, ↓vdn, vup, extr_20, extr_21, extr_30, extr_31, extr_32, List.map_cons, List.map_nil, cond_true, cond_false, aop, aThen, aBlock, argEnv, ev, sput, sputO, binK, binI, unK, builtinK, pickK, Nat.reduceBEq, Nat.reduceAdd, Int.reduceBEq, Int.reduceBNe, Int.reduceLT, aPost, resK, tup, tyf, bldFd, ps.idx el_47 esz_26 (show k < L.length by omega), elemP_pair, hst, hset]
      refine hB [(0, u), (1, vint (w : Nat)), (4, .bool false), (5, .pointer (some ⟨p5, 0, none⟩)), (6, .int .i64 0), (7, .slice (some ⟨H.length, 0, none⟩) n n), (45, .slice (some ⟨H.length, 0, none⟩) n n), (46, vint n), (47, vint (k : Nat))] _ _ ?_ (by simp (maxSteps := 2000000) only [↓aw_region, ↓aw_skip, ↓aw_seq, ↓aw_block, ↓aw_exit, ↓aw_ret, ↓sops_nil, ↓sops_go, ↓dops_nil, ↓dopsX_nil, ↓dopsR_nil, ↓vdn, vup, extr_20, extr_21, extr_30, extr_31, extr_32, List.map_cons, List.map_nil, cond_true, cond_false, aop, aThen, aBlock, argEnv, ev, sput, sputO, binK, binI, unK, builtinK, pickK, Nat.reduceBEq, Nat.reduceAdd, Int.reduceBEq, Int.reduceBNe, Int.reduceLT, aPost, resK, tup, tyf])
      clear hB
      try clear B
      refine aw_aws ?_
      simp (maxSteps := 2000000) only [s8, ↓aw_region, ↓aw_skip, ↓aw_seq, ↓aw_block, ↓aw_exit, ↓aw_ret, ↓sops_nil, ↓sops_go, ↓dops_nil, ↓dopsX_nil, ↓dopsR_nil, ↓vdn, vup, extr_20, extr_21, extr_30, extr_31, extr_32, List.map_cons, List.map_nil, cond_true, cond_false, aop, aThen, aBlock, argEnv, ev, sput, sputO, binK, binI, unK, builtinK, pickK, Nat.reduceBEq, Nat.reduceAdd, Int.reduceBEq, Int.reduceBNe, Int.reduceLT, aPost, resK, tup, tyf, add1 (show k < 9223372036854775807 by omega)]
      exact hQ2 _ _ _ ⟨k + 1, hk', by omega, by simp (maxSteps := 2000000) only [↓aw_region, ↓aw_skip, ↓aw_seq, ↓aw_block, ↓aw_exit, ↓aw_ret, ↓sops_nil, ↓sops_go, ↓dops_nil, ↓dopsX_nil, ↓dopsR_nil, ↓vdn, vup, extr_20, extr_21, extr_30, extr_31, extr_32, List.map_cons, List.map_nil, cond_true, cond_false, aop, aThen, aBlock, argEnv, ev, sput, sputO, binK, binI, unK, builtinK, pickK, Nat.reduceBEq, Nat.reduceAdd, Int.reduceBEq, Int.reduceBNe, Int.reduceLT, aPost, resK, tup, tyf], rfl⟩
    · obtain rfl : n = k := by omega
      refine aws_cut fun N9 hN9 => ?_
      simp (maxSteps := 2000000) only [s8, ↓aw_region, ↓aw_skip, ↓aw_seq, ↓aw_block, ↓aw_exit, ↓aw_ret, ↓sops_nil, ↓sops_go, ↓dops_nil, ↓dopsX_nil, ↓dopsR_nil, ↓vdn, vup, extr_20, extr_21, extr_30, extr_31, extr_32, List.map_cons, List.map_nil, cond_true, cond_false, aop, aThen, aBlock, argEnv, ev, sput, sputO, binK, binI, unK, builtinK, pickK, Nat.reduceBEq, Nat.reduceAdd, Int.reduceBEq, Int.reduceBNe, Int.reduceLT, aPost, resK, tup, tyf, hin]
      refine hN9 [(0, u), (1, vint (w : Nat)), (4, .bool false), (5, .pointer (some ⟨p5, 0, none⟩)), (6, .int .i64 0), (7, .slice (some ⟨H.length, 0, none⟩) n n), (45, .slice (some ⟨H.length, 0, none⟩) n n), (46, vint n), (47, vint (n : Nat)), (48, .bool false)] _ _ ?_ (by simp (maxSteps := 2000000) only [↓aw_region, ↓aw_skip, ↓aw_seq, ↓aw_block, ↓aw_exit, ↓aw_ret, ↓sops_nil, ↓sops_go, ↓dops_nil, ↓dopsX_nil, ↓dopsR_nil, ↓vdn, vup, extr_20, extr_21, extr_30, extr_31, extr_32, List.map_cons, List.map_nil, cond_true, cond_false, aop, aThen, aBlock, argEnv, ev, sput, sputO, binK, binI, unK, builtinK, pickK, Nat.reduceBEq, Nat.reduceAdd, Int.reduceBEq, Int.reduceBNe, Int.reduceLT, aPost, resK, tup, tyf])
      clear hN9
      try clear N9
      refine aws_cut fun N10 hN10 => ?_
      simp (maxSteps := 2000000) only [s8, ↓aw_region, ↓aw_skip, ↓aw_seq, ↓aw_block, ↓aw_exit, ↓aw_ret, ↓sops_nil, ↓sops_go, ↓dops_nil, ↓dopsX_nil, ↓dopsR_nil, ↓vdn, vup, extr_20, extr_21, extr_30, extr_31, extr_32, List.map_cons, List.map_nil, cond_true, cond_false, aop, aThen, aBlock, argEnv, ev, sput, sputO, binK, binI, unK, builtinK, pickK, Nat.reduceBEq, Nat.reduceAdd, Int.reduceBEq, Int.reduceBNe, Int.reduceLT, aPost, resK, tup, tyf]
      refine hQ2 _ _ _ (hQ _ _ _ ?_)
      simp (maxSteps := 2000000) only [s8, ↓aw_region, ↓aw_skip, ↓aw_seq, ↓aw_block, ↓aw_exit, ↓aw_ret, ↓sops_nil, ↓sops_go, ↓dops_nil, ↓dopsX_nil, ↓dopsR_nil, ↓vdn, vup, extr_20, extr_21, extr_30, extr_31, extr_32, List.map_cons, List.map_nil, cond_true, cond_false, aop, aThen, aBlock, argEnv, ev, sput, sputO, binK, binI, unK, builtinK, pickK, Nat.reduceBEq, Nat.reduceAdd, Int.reduceBEq, Int.reduceBNe, Int.reduceLT, aPost, resK, tup, tyf, if_true, Nat.sub_self, List.replicate_zero, List.append_nil]
      refine hZ [(0, u), (1, vint (w : Nat)), (4, .bool false), (5, .pointer (some ⟨p5, 0, none⟩)), (6, .int .i64 0), (7, .slice (some ⟨H.length, 0, none⟩) n n), (48, .bool false)] _ _ ?_ (by simp (maxSteps := 2000000) only [↓aw_region, ↓aw_skip, ↓aw_seq, ↓aw_block, ↓aw_exit, ↓aw_ret, ↓sops_nil, ↓sops_go, ↓dops_nil, ↓dopsX_nil, ↓dopsR_nil, ↓vdn, vup, extr_20, extr_21, extr_30, extr_31, extr_32, List.map_cons, List.map_nil, cond_true, cond_false, aop, aThen, aBlock, argEnv, ev, sput, sputO, binK, binI, unK, builtinK, pickK, Nat.reduceBEq, Nat.reduceAdd, Int.reduceBEq, Int.reduceBNe, Int.reduceLT, aPost, resK, tup, tyf])
      clear hZ
      try clear Z
      have ps := pairSl_cells (e := 26) (ro := false) (get_new H (.cells ((flatP (List.replicate n ((0 : Int), (1 : Int)))).map vint) 26 false))
      rw [List.length_replicate] at ps
      have hnb : (H ++ [Blk.cells ((flatP (List.replicate n ((0 : Int), (1 : Int)))).map vint) 26 false])[H.length]? = some (.cells ((flatP (List.replicate n ((0 : Int), (1 : Int)))).map vint) 26 false) := get_new _ _
      have hst : ∀ {K : Heap → Prop}, storeK prog (H ++ [Blk.cells ((flatP (List.replicate n ((0 : Int), (1 : Int)))).map vint) 26 false]) 3 (.pointer (some ⟨H.length, w * 2, none⟩)) (.int .i64 1) K = K (H ++ [Blk.cells ((flatP (sureL n w)).map vint) 26 false]) := fun {K} => by
        rw [storeP0 hnb (by simp; omega) (y := 1) (by simp [List.getD, hw]), set_new]; rfl
      refine aws_cut fun N11 hN11 => ?_
      simp (maxSteps := 2000000) only [s8, ↓aw_region, ↓aw_skip, ↓aw_seq, ↓aw_block, ↓aw_exit, ↓aw_ret, ↓sops_nil, ↓sops_go, ↓dops_nil, ↓dopsX_nil, ↓dopsR_nil, ↓vdn, vup, extr_20, extr_21, extr_30, extr_31, extr_32, List.map_cons, List.map_nil, cond_true, cond_false, aop, aThen, aBlock, argEnv, ev, sput, sputO, binK, binI, unK, builtinK, pickK, Nat.reduceBEq, Nat.reduceAdd, Int.reduceBEq, Int.reduceBNe, Int.reduceLT, aPost, resK, tup, tyf, ps.idx el_47 esz_26 (show w < (List.replicate n ((0 : Int), (1 : Int))).length by simp; omega), elemP_pair, fA0o, hst]
      refine hN11 [(0, u), (1, vint (w : Nat)), (4, .bool false), (5, .pointer (some ⟨p5, 0, none⟩)), (6, .int .i64 0), (7, .slice (some ⟨H.length, 0, none⟩) n n), (48, .bool false)] _ _ ?_ (by simp (maxSteps := 2000000) only [↓aw_region, ↓aw_skip, ↓aw_seq, ↓aw_block, ↓aw_exit, ↓aw_ret, ↓sops_nil, ↓sops_go, ↓dops_nil, ↓dopsX_nil, ↓dopsR_nil, ↓vdn, vup, extr_20, extr_21, extr_30, extr_31, extr_32, List.map_cons, List.map_nil, cond_true, cond_false, aop, aThen, aBlock, argEnv, ev, sput, sputO, binK, binI, unK, builtinK, pickK, Nat.reduceBEq, Nat.reduceAdd, Int.reduceBEq, Int.reduceBNe, Int.reduceLT, aPost, resK, tup, tyf])
      clear hN11
      try clear N11
      obtain ⟨H4, hH4⟩ : ∃ H4, H4 = H ++ [Blk.cells ((flatP (sureL n w)).map vint) 26 false] := ⟨_, rfl⟩
      have pf := pairSl_cells (e := 26) (ro := false) (get_new H (.cells ((flatP (sureL n w)).map vint) 26 false))
      rw [sureL_len, ← hH4] at pf
      have hE4 : Ext (fun _ => False) H H4 := by rw [hH4]; exact Ext.app _ _ _
      have b54 : H4[p5]? = some (fC q.num q.den) := (hE4.2 _ (get_lt b5) id).trans b5
      rw [← hH4]
      have hs8 : (sureL n w).take 8 = sureL n w := List.take_of_length_le (by rw [sureL_len]; omega)
      -- Mean
      refine aws_cut fun N12 hN12 => ?_
      simp (maxSteps := 2000000) only [s8, ↓aw_region, ↓aw_skip, ↓aw_seq, ↓aw_block, ↓aw_exit, ↓aw_ret, ↓sops_nil, ↓sops_go, ↓dops_nil, ↓dopsX_nil, ↓dopsR_nil, ↓vdn, vup, extr_20, extr_21, extr_30, extr_31, extr_32, List.map_cons, List.map_nil, cond_true, cond_false, aop, aThen, aBlock, argEnv, ev, sput, sputO, binK, binI, unK, builtinK, pickK, Nat.reduceBEq, Nat.reduceAdd, Int.reduceBEq, Int.reduceBNe, Int.reduceLT, aPost, resK, tup, tyf, callK, List.nil_append, List.append_nil, List.toList_toArray, List.cons_append]
      refine (fracs_call (huH.ext hE4)).mono ?_
      rintro u3 h3 ⟨hu3, hE3⟩
      refine (fracs_call (pf.ext hE3)).mono ?_
      rintro v4 h4 ⟨hv4, hE5⟩
      rw [hf8] at hu3
      rw [hs8] at hv4
      have mn := progMean_call (hu3.ext hE5) hv4 (by omega) (by rw [sureL_len]; omega)
      have hsm := sure_mean (f := f) (w := w) (by omega)
      rw [hn] at hsm
      rw [if_pos ⟨hf, sure_fc hlen.1 hlen.2 hw, by rw [sureL_len]; exact hn⟩, hsm, hq] at mn
      refine mn.mono ?_
      rintro _ h4 ⟨rfl, rfl⟩
      simp (maxSteps := 2000000) only [s8, ↓aw_region, ↓aw_skip, ↓aw_seq, ↓aw_block, ↓aw_exit, ↓aw_ret, ↓sops_nil, ↓sops_go, ↓dops_nil, ↓dopsX_nil, ↓dopsR_nil, ↓vdn, vup, extr_20, extr_21, extr_30, extr_31, extr_32, List.map_cons, List.map_nil, cond_true, cond_false, aop, aThen, aBlock, argEnv, ev, sput, sputO, binK, binI, unK, builtinK, pickK, Nat.reduceBEq, Nat.reduceAdd, Int.reduceBEq, Int.reduceBNe, Int.reduceLT, aPost, resK, tup, tyf, qV, frV, allocK, newPtr, zero_26, storeF (get_new h4 z0) rfl, set_new]
      obtain ⟨H5, hH5⟩ : ∃ H5, H5 = h4 ++ [fC q.num q.den] := ⟨_, rfl⟩
      have b9 : H5[h4.length]? = some (fC q.num q.den) := by rw [hH5]; exact get_new _ _
      have hE6 : Ext (fun _ => False) H4 H5 := by rw [hH5]; exact hE3.trans (hE5.trans (Ext.app _ _ _))
      have b55 : H5[p5]? = some (fC q.num q.den) := (hE6.2 _ (get_lt b54) id).trans b54
      have pf5 := pf.ext hE6
      have hu5 := huH.ext (hE4.trans hE6)
      rw [← hH5]
      refine hN12 [(0, u), (1, vint (w : Nat)), (4, .bool false), (5, .pointer (some ⟨p5, 0, none⟩)), (6, .int .i64 0), (7, .slice (some ⟨H.length, 0, none⟩) n n), (9, .pointer (some ⟨h4.length, 0, none⟩)), (10, .int .i64 0), (48, .bool false)] _ _ ?_ (by simp (maxSteps := 2000000) only [↓aw_region, ↓aw_skip, ↓aw_seq, ↓aw_block, ↓aw_exit, ↓aw_ret, ↓sops_nil, ↓sops_go, ↓dops_nil, ↓dopsX_nil, ↓dopsR_nil, ↓vdn, vup, extr_20, extr_21, extr_30, extr_31, extr_32, List.map_cons, List.map_nil, cond_true, cond_false, aop, aThen, aBlock, argEnv, ev, sput, sputO, binK, binI, unK, builtinK, pickK, Nat.reduceBEq, Nat.reduceAdd, Int.reduceBEq, Int.reduceBNe, Int.reduceLT, aPost, resK, tup, tyf])
      clear hN12
      try clear N12
      clear mn hu3 hE3 hv4 hE5 hH5
      -- Score of the sure
      refine aws_cut fun N13 hN13 => ?_
      simp (maxSteps := 2000000) only [s8, ↓aw_region, ↓aw_skip, ↓aw_seq, ↓aw_block, ↓aw_exit, ↓aw_ret, ↓sops_nil, ↓sops_go, ↓dops_nil, ↓dopsX_nil, ↓dopsR_nil, ↓vdn, vup, extr_20, extr_21, extr_30, extr_31, extr_32, List.map_cons, List.map_nil, cond_true, cond_false, aop, aThen, aBlock, argEnv, ev, sput, sputO, binK, binI, unK, builtinK, pickK, Nat.reduceBEq, Nat.reduceAdd, Int.reduceBEq, Int.reduceBNe, Int.reduceLT, aPost, resK, tup, tyf, callK, List.nil_append, List.append_nil, List.toList_toArray, List.cons_append]
      refine (fracs_call pf5).mono ?_
      rintro u7 h7 ⟨hu7, hE7⟩
      rw [hs8] at hu7
      have sc := progScore_call (w := (w : Nat)) hu7 (by rw [sureL_len]; omega)
      rw [if_pos ⟨sure_fc hlen.1 hlen.2 hw, by omega, by rw [sureL_len]; omega⟩, Int.toNat_natCast, sure_one hw] at sc
      refine sc.mono ?_
      rintro _ h7 ⟨rfl, rfl⟩
      have q1' : qV (1 : Rat) = .agg #[vint 1, vint 1] := rfl
      simp (maxSteps := 2000000) only [s8, ↓aw_region, ↓aw_skip, ↓aw_seq, ↓aw_block, ↓aw_exit, ↓aw_ret, ↓sops_nil, ↓sops_go, ↓dops_nil, ↓dopsX_nil, ↓dopsR_nil, ↓vdn, vup, extr_20, extr_21, extr_30, extr_31, extr_32, List.map_cons, List.map_nil, cond_true, cond_false, aop, aThen, aBlock, argEnv, ev, sput, sputO, binK, binI, unK, builtinK, pickK, Nat.reduceBEq, Nat.reduceAdd, Int.reduceBEq, Int.reduceBNe, Int.reduceLT, aPost, resK, tup, tyf, q1', frV, allocK, newPtr, zero_26, storeF (get_new h7 z0) rfl, set_new]
      obtain ⟨H8, hH8⟩ : ∃ H8, H8 = h7 ++ [fC 1 1] := ⟨_, rfl⟩
      have c11 : H8[h7.length]? = some (fC 1 1) := by rw [hH8]; exact get_new _ _
      have hE8 : Ext (fun _ => False) H5 H8 := by rw [hH8]; exact hE7.trans (Ext.app _ _ _)
      have c9 : H8[h4.length]? = some (fC q.num q.den) := (hE8.2 _ (get_lt b9) id).trans b9
      have c5 : H8[p5]? = some (fC q.num q.den) := (hE8.2 _ (get_lt b55) id).trans b55
      have pf8 := pf5.ext hE8
      have hu8 := hu5.ext hE8
      rw [← hH8]
      refine hN13 [(0, u), (1, vint (w : Nat)), (4, .bool false), (5, .pointer (some ⟨p5, 0, none⟩)), (6, .int .i64 0), (7, .slice (some ⟨H.length, 0, none⟩) n n), (9, .pointer (some ⟨h4.length, 0, none⟩)), (10, .int .i64 0), (11, .pointer (some ⟨h7.length, 0, none⟩)), (12, .int .i64 0), (48, .bool false)] _ _ ?_ (by simp (maxSteps := 2000000) only [↓aw_region, ↓aw_skip, ↓aw_seq, ↓aw_block, ↓aw_exit, ↓aw_ret, ↓sops_nil, ↓sops_go, ↓dops_nil, ↓dopsX_nil, ↓dopsR_nil, ↓vdn, vup, extr_20, extr_21, extr_30, extr_31, extr_32, List.map_cons, List.map_nil, cond_true, cond_false, aop, aThen, aBlock, argEnv, ev, sput, sputO, binK, binI, unK, builtinK, pickK, Nat.reduceBEq, Nat.reduceAdd, Int.reduceBEq, Int.reduceBNe, Int.reduceLT, aPost, resK, tup, tyf])
      clear hN13
      try clear N13
      clear sc hu7 hE7 hH8 hE8 hE6 hE4 hst hnb ps hH4 hsm
      obtain ⟨p9, hp9⟩ : ∃ p, h4.length = p := ⟨_, rfl⟩
      obtain ⟨p11, hp11⟩ : ∃ p, h7.length = p := ⟨_, rfl⟩
      rw [hp9] at c9
      rw [hp11] at c11
      rw [hp9, hp11]
      have hsl := cf.score_le (w := w) (by omega)
      rw [hq] at hsl
      have g1 : 1 ≤ (q.den : Int) := by have := q.den_pos; omega
      have g2 : -(q.den : Int) ≤ q.num := q_ge hsl.1
      have hd := Nat.le_of_dvd (Nat.mul_pos (Nat.pos_of_ne_zero cf.c.m) (Nat.pos_of_ne_zero cf.c.m)) (cf.scoreTo_den (w := w) (k := f.length) (by omega) (Nat.le_refl _))
      have hd2 := Nat.mul_le_mul cf.small cf.small
      rw [show scoreTo f w f.length = q from hq] at hd
      have gn : subV .i64 0 (q.den : Int) = -(q.den : Int) := by rw [subN (by omega)]; omega
      have g3 := q_le hsl.2
      have g4 : decide (q = 1) = decide (f = sureL n w) := by
        rw [decide_eq_decide, ← hq, ← hn]; exact score_one cf (by omega)
      have g5 : (([q.num, (q.den : Int)] : List Int) == [1, 1]) = decide (f = sureL n w) := by
        rw [← g4]; exact qeq q 1
      have g6 : (([1, 1] : List Int) == [1, 1]) = true := rfl
      have eqc := equalF_call (hu8) (pf8) (by omega)
      have bo : ∀ b : Bool, (b == b) = true := fun b => by cases b <;> rfl
      obtain ⟨B, hB⟩ : ∃ B, decide (f = sureL n w) = B := ⟨_, rfl⟩
      rw [hB] at eqc g5
      refine aw_aws ?_
      simp only [q8_13]
      refine aw_cut fun N hN => ?_
      refine aw_drawX [(42, 1), (46, 1)] (by kernel_rfl) (by kernel_rfl) (by kernel_rfl) (by kernel_rfl) ?_
      refine dops_cut 25 rfl fun N1 hN1 => ?_
      simp (maxSteps := 2000000) only [s8, ↓aw_region, ↓aw_skip, ↓aw_seq, ↓aw_block, ↓aw_exit, ↓aw_ret, ↓sops_nil, ↓sops_go, ↓dops_nil, ↓dopsX_nil, ↓dopsR_nil, ↓vdn, vup, extr_20, extr_21, extr_30, extr_31, extr_32, List.map_cons, List.map_nil, cond_true, cond_false, aop, aThen, aBlock, argEnv, ev, sput, sputO, binK, binI, unK, builtinK, pickK, Nat.reduceBEq, Nat.reduceAdd, Int.reduceBEq, Int.reduceBNe, Int.reduceLT, aPost, resK, tup, tyf, List.take_succ_cons, List.take_zero, loadF c5, loadF c9, loadF c11, fA0, fA1, loadF0 c5, loadF1 c5, bldF, intsOf, Option.map_some, List.length_cons, List.length_nil, Nat.zero_add, eqF, beq_self_eq_true, ge_iff_le, g1, g6]
      refine hN1 _ _ ?_
      clear hN1 N1
      refine dops_cut 12 rfl fun N1 hN1 => ?_
      simp (maxSteps := 2000000) only [s8, ↓aw_region, ↓aw_skip, ↓aw_seq, ↓aw_block, ↓aw_exit, ↓aw_ret, ↓sops_nil, ↓sops_go, ↓dops_nil, ↓dopsX_nil, ↓dopsR_nil, ↓vdn, vup, extr_20, extr_21, extr_30, extr_31, extr_32, List.map_cons, List.map_nil, cond_true, cond_false, aop, aThen, aBlock, argEnv, ev, sput, sputO, binK, binI, unK, builtinK, pickK, Nat.reduceBEq, Nat.reduceAdd, Int.reduceBEq, Int.reduceBNe, Int.reduceLT, aPost, resK, tup, tyf, List.drop_succ_cons, List.drop_zero, List.take_succ_cons, List.take_zero, fA0, fA1, loadF0 c5, loadF1 c5, gn, ge_iff_le, g2, g3]
      refine hN1 _ _ ?_
      clear hN1 N1
      refine dops_cut 5 rfl fun N1 hN1 => ?_
      simp (maxSteps := 2000000) only [s8, ↓aw_region, ↓aw_skip, ↓aw_seq, ↓aw_block, ↓aw_exit, ↓aw_ret, ↓sops_nil, ↓sops_go, ↓dops_nil, ↓dopsX_nil, ↓dopsR_nil, ↓vdn, vup, extr_20, extr_21, extr_30, extr_31, extr_32, List.map_cons, List.map_nil, cond_true, cond_false, aop, aThen, aBlock, argEnv, ev, sput, sputO, binK, binI, unK, builtinK, pickK, Nat.reduceBEq, Nat.reduceAdd, Int.reduceBEq, Int.reduceBNe, Int.reduceLT, aPost, resK, tup, tyf, List.drop_succ_cons, List.drop_zero, List.take_succ_cons, List.take_zero, loadF c5, loadF c11, intsOf, Option.map_some, List.length_cons, List.length_nil, Nat.zero_add, eqF, g5]
      refine hN1 _ _ ?_
      clear hN1 N1
      refine dops_cut 1 rfl fun N1 hN1 => ?_
      simp (maxSteps := 2000000) only [s8, ↓aw_region, ↓aw_skip, ↓aw_seq, ↓aw_block, ↓aw_exit, ↓aw_ret, ↓sops_nil, ↓sops_go, ↓dops_nil, ↓dopsX_nil, ↓dopsR_nil, ↓vdn, vup, extr_20, extr_21, extr_30, extr_31, extr_32, List.map_cons, List.map_nil, cond_true, cond_false, aop, aThen, aBlock, argEnv, ev, sput, sputO, binK, binI, unK, builtinK, pickK, Nat.reduceBEq, Nat.reduceAdd, Int.reduceBEq, Int.reduceBNe, Int.reduceLT, aPost, resK, tup, tyf, List.drop_succ_cons, List.drop_zero, List.take_succ_cons, List.take_zero, callK, List.nil_append, List.append_nil, List.toList_toArray, List.cons_append]
      refine ⟨_, _, eqc, rfl, ?_⟩
      refine hN1 _ _ ?_
      clear hN1 N1
      refine dops_cut 4 rfl fun N1 hN1 => ?_
      simp (maxSteps := 2000000) only [s8, ↓aw_region, ↓aw_skip, ↓aw_seq, ↓aw_block, ↓aw_exit, ↓aw_ret, ↓sops_nil, ↓sops_go, ↓dops_nil, ↓dopsX_nil, ↓dopsR_nil, ↓vdn, vup, extr_20, extr_21, extr_30, extr_31, extr_32, List.map_cons, List.map_nil, cond_true, cond_false, aop, aThen, aBlock, argEnv, ev, sput, sputO, binK, binI, unK, builtinK, pickK, Nat.reduceBEq, Nat.reduceAdd, Int.reduceBEq, Int.reduceBNe, Int.reduceLT, aPost, resK, tup, tyf, List.drop_succ_cons, List.drop_zero, List.take_succ_cons, List.take_zero, bo, callK, List.nil_append, List.append_nil, List.toList_toArray, List.cons_append]
      refine ⟨_, _, awk, rfl, ?_⟩
      refine hN1 _ _ ?_
      simp (maxSteps := 2000000) only [s8, ↓aw_region, ↓aw_skip, ↓aw_seq, ↓aw_block, ↓aw_exit, ↓aw_ret, ↓sops_nil, ↓sops_go, ↓dops_nil, ↓dopsX_nil, ↓dopsR_nil, ↓vdn, vup, extr_20, extr_21, extr_30, extr_31, extr_32, List.map_cons, List.map_nil, cond_true, cond_false, aop, aThen, aBlock, argEnv, ev, sput, sputO, binK, binI, unK, builtinK, pickK, Nat.reduceBEq, Nat.reduceAdd, Int.reduceBEq, Int.reduceBNe, Int.reduceLT, aPost, resK, tup, tyf, List.drop_succ_cons, List.drop_zero]
      refine hN _ _ ?_
      simp (maxSteps := 2000000) only [s8, ↓aw_region, ↓aw_skip, ↓aw_seq, ↓aw_block, ↓aw_exit, ↓aw_ret, ↓sops_nil, ↓sops_go, ↓dops_nil, ↓dopsX_nil, ↓dopsR_nil, ↓vdn, vup, extr_20, extr_21, extr_30, extr_31, extr_32, List.map_cons, List.map_nil, cond_true, cond_false, aop, aThen, aBlock, argEnv, ev, sput, sputO, binK, binI, unK, builtinK, pickK, Nat.reduceBEq, Nat.reduceAdd, Int.reduceBEq, Int.reduceBNe, Int.reduceLT, aPost, resK, tup, tyf]
  · have hc8 : ¬ (fcB (f.take 8) = true ∧ 0 ≤ w ∧ w < (f.take 8).length) := by
      rintro ⟨x1, x2, x3⟩
      by_cases h8 : f.length ≤ 8
      · rw [List.take_of_length_le h8] at x1 x3; exact hc ⟨x1, x2, x3⟩
      · have := (fc_of x1).len; rw [List.length_take] at this; omega
    rw [if_neg hc8] at sc
    refine sc.mono ?_
    rintro _ h1 ⟨rfl, rfl⟩
    simp (maxSteps := 2000000) only [s8, ↓aw_region, ↓aw_skip, ↓aw_seq, ↓aw_block, ↓aw_exit, ↓aw_ret, ↓sops_nil, ↓sops_go, ↓dops_nil, ↓dopsX_nil, ↓dopsR_nil, ↓vdn, vup, extr_20, extr_21, extr_30, extr_31, extr_32, List.map_cons, List.map_nil, cond_true, cond_false, aop, aThen, aBlock, argEnv, ev, sput, sputO, binK, binI, unK, builtinK, pickK, Nat.reduceBEq, Nat.reduceAdd, Int.reduceBEq, Int.reduceBNe, Int.reduceLT, aPost, resK, tup, tyf, frV, allocK, newPtr, zero_26, storeF (get_new h1 z0) rfl, set_new]
    obtain ⟨H, hH⟩ : ∃ H, H = h1 ++ [fC 0 0] := ⟨_, rfl⟩
    have hE : Ext (fun _ => False) h H := by rw [hH]; exact hE1.trans (Ext.app _ _ _)
    rw [← hH]
    refine hN2 [(0, u), (1, vint w), (4, .bool false), (5, .pointer (some ⟨h1.length, 0, none⟩)), (6, .int .i64 2)] _ _ ?_ (by simp (maxSteps := 2000000) only [↓aw_region, ↓aw_skip, ↓aw_seq, ↓aw_block, ↓aw_exit, ↓aw_ret, ↓sops_nil, ↓sops_go, ↓dops_nil, ↓dopsX_nil, ↓dopsR_nil, ↓vdn, vup, extr_20, extr_21, extr_30, extr_31, extr_32, List.map_cons, List.map_nil, cond_true, cond_false, aop, aThen, aBlock, argEnv, ev, sput, sputO, binK, binI, unK, builtinK, pickK, Nat.reduceBEq, Nat.reduceAdd, Int.reduceBEq, Int.reduceBNe, Int.reduceLT, aPost, resK, tup, tyf])
    clear hN2
    try clear N2
    clear sc hu1 hE1 hH
    refine aws_cutW fun M hM => ?_
    refine aws_cut fun N14 hN14 => ?_
    simp (maxSteps := 2000000) only [s8, ↓aw_region, ↓aw_skip, ↓aw_seq, ↓aw_block, ↓aw_exit, ↓aw_ret, ↓sops_nil, ↓sops_go, ↓dops_nil, ↓dopsX_nil, ↓dopsR_nil, ↓vdn, vup, extr_20, extr_21, extr_30, extr_31, extr_32, List.map_cons, List.map_nil, cond_true, cond_false, aop, aThen, aBlock, argEnv, ev, sput, sputO, binK, binI, unK, builtinK, pickK, Nat.reduceBEq, Nat.reduceAdd, Int.reduceBEq, Int.reduceBNe, Int.reduceLT, aPost, resK, tup, tyf]
    refine hN14 [(0, u), (1, vint w), (4, .bool false), (5, .pointer (some ⟨h1.length, 0, none⟩)), (6, .int .i64 2), (36, .bool true)] _ _ ?_ (by simp (maxSteps := 2000000) only [↓aw_region, ↓aw_skip, ↓aw_seq, ↓aw_block, ↓aw_exit, ↓aw_ret, ↓sops_nil, ↓sops_go, ↓dops_nil, ↓dopsX_nil, ↓dopsR_nil, ↓vdn, vup, extr_20, extr_21, extr_30, extr_31, extr_32, List.map_cons, List.map_nil, cond_true, cond_false, aop, aThen, aBlock, argEnv, ev, sput, sputO, binK, binI, unK, builtinK, pickK, Nat.reduceBEq, Nat.reduceAdd, Int.reduceBEq, Int.reduceBNe, Int.reduceLT, aPost, resK, tup, tyf])
    clear hN14
    try clear N14
    refine aws_true rfl ?_
    refine aw_aws ?_
    simp (maxSteps := 2000000) only [s8, ↓aw_region, ↓aw_skip, ↓aw_seq, ↓aw_block, ↓aw_exit, ↓aw_ret, ↓sops_nil, ↓sops_go, ↓dops_nil, ↓dopsX_nil, ↓dopsR_nil, ↓vdn, vup, extr_20, extr_21, extr_30, extr_31, extr_32, List.map_cons, List.map_nil, cond_true, cond_false, aop, aThen, aBlock, argEnv, ev, sput, sputO, binK, binI, unK, builtinK, pickK, Nat.reduceBEq, Nat.reduceAdd, Int.reduceBEq, Int.reduceBNe, Int.reduceLT, aPost, resK, tup, tyf, callK, List.nil_append, List.append_nil, List.toList_toArray, List.cons_append]
    refine ((show APure prog 21 [] H (.bool true) from awake_call)).mono ?_
    rintro _ H ⟨rfl, rfl⟩
    simp (maxSteps := 2000000) only [s8, ↓aw_region, ↓aw_skip, ↓aw_seq, ↓aw_block, ↓aw_exit, ↓aw_ret, ↓sops_nil, ↓sops_go, ↓dops_nil, ↓dopsX_nil, ↓dopsR_nil, ↓vdn, vup, extr_20, extr_21, extr_30, extr_31, extr_32, List.map_cons, List.map_nil, cond_true, cond_false, aop, aThen, aBlock, argEnv, ev, sput, sputO, binK, binI, unK, builtinK, pickK, Nat.reduceBEq, Nat.reduceAdd, Int.reduceBEq, Int.reduceBNe, Int.reduceLT, aPost, resK, tup, tyf]
end Go.Proofs.Try.Am
