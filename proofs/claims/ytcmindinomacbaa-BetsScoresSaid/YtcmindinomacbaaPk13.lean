/-
  bets: scores and averages, in the program and in the reference.
  bets: averages of scores.
  bets: the reference's averages and scores.
  Printed by gen.py: the code of some functions, without what no step looks at; held against the program's own by the kernel.
  bets: law Scores.
-/
import Derived.Test.YtcmindinomacbaaPk10
import Derived.Test.YtcmindinomacbaaPk5
import Derived.Test.YtcmindinomacbaaPk3
import Derived.Test.YtcmindinomacbaaProg
import Derived.KernelRfl
import Derived.Shelf.Abstract
import Derived.Test.YtcmindinomacbaaPk12
set_option linter.all false
namespace Go.Proofs.Try.Am
open Go.Am Bq
set_option maxRecDepth 100000
set_option maxHeartbeats 1000000

theorem nat_small {m : Nat} (h : m ≤ 27885) : m * m ≤ 777573225 := by
  have := Nat.mul_le_mul h h; omega
theorem two_q : (((2 : Int)) : Rat) = 2 := rfl
theorem neg_one_q : (((-1 : Int)) : Rat) = -1 := rfl
/-- A chance fits. -/
theorem chn_fits {ps : List (Int × Int)} (c : Chn ps) {k : Nat} (hk : k < ps.length) : Fits (fq ps k) :=
  fits_b (C := 1) (Nat.pos_of_ne_zero c.m) (c.unit hk).2.2 (Rat.le_trans (by decide) (c.unit hk).1) (c.unit hk).2.1 (by have := (mult_spec c.m).2.2; omega) (by have := (mult_spec c.m).2.2; omega)

theorem s73_callW [Tabs Try.prog] {args : List Value} {h : Heap} {Q : Value → Heap → Prop} (hsz : args.length ≤ 27) (hk : AWS Try.prog 27 s73 (aPost Try.prog [.cell 4 26] Q) (argEnv 0 args) h) : ACall Try.prog 73 args h Q :=
  acall_w Try.func73 rfl (enters_of Try.func73 (by kernel_rfl) rfl) rfl rfl (by decide) s73_strip s73_ok hsz hk
theorem score_call [Tabs prog] {h : Heap} {v : Value} {ps : List (Int × Int)} {w : Nat} (hv : PairSl h v ps) (c : Fc ps) (hw : w < ps.length) : APure prog 73 [v, vint (w : Nat)] h (qV (scoreQ ps w)) := by
  have hm := Nat.pos_of_ne_zero c.c.m
  have hmm := Nat.mul_pos hm hm
  have hsm := nat_small c.small
  have hN : mult ps * mult ps < 9223372036854775808 := by omega
  have hlen := c.len
  refine ACall.forget (low_frV _ _) ?_
  refine s73_callW (by simp) ?_
  simp only [s73]
  refine aws_cut fun N1 hN1 => ?_
  simp (maxSteps := 2000000) only [s73, ↓aw_region, ↓aw_skip, ↓aw_seq, ↓aw_block, ↓aw_exit, ↓aw_ret, ↓sops_nil, ↓sops_go, ↓dops_nil, ↓dopsX_nil, ↓dopsR_nil, ↓vdn, vup, extr_20, extr_21, extr_30, extr_31, extr_32, List.map_cons, List.map_nil, cond_true, cond_false, aop, aThen, aBlock, argEnv, ev, sput, sputO, binK, binI, unK, builtinK, pickK, Nat.reduceBEq, Nat.reduceAdd, Int.reduceBEq, Int.reduceBNe, Int.reduceLT, aPost, resK, tup, tyf, allocK, newPtr, zero_26]
  refine hN1 [(0, v), (1, vint (w : Nat)), (4, .pointer (some ⟨h.length, 0, none⟩))] _ _ ?_ (by simp (maxSteps := 2000000) only [↓aw_region, ↓aw_skip, ↓aw_seq, ↓aw_block, ↓aw_exit, ↓aw_ret, ↓sops_nil, ↓sops_go, ↓dops_nil, ↓dopsX_nil, ↓dopsR_nil, ↓vdn, vup, extr_20, extr_21, extr_30, extr_31, extr_32, List.map_cons, List.map_nil, cond_true, cond_false, aop, aThen, aBlock, argEnv, ev, sput, sputO, binK, binI, unK, builtinK, pickK, Nat.reduceBEq, Nat.reduceAdd, Int.reduceBEq, Int.reduceBNe, Int.reduceLT, aPost, resK, tup, tyf])
  clear hN1
  try clear N1
  obtain ⟨⟨x, y⟩, hxy⟩ : ∃ p, ps.getD w (0, 0) = p := ⟨_, rfl⟩
  have hmem : (x, y) ∈ ps := hxy ▸ getD_mem hw
  have hxq := frV_q (c.c.vld _ hmem)
  have hfq : fq ps w = toQ (x, y) := by rw [fq, hxy]
  have hfit := chn_fits c.c hw
  have s0 : scoreTo ps w 0 = ((2 : Int) : Rat) * fq ps w := by rw [scoreTo, two_q]; simp only [sumTo]; grind
  have tc : ∀ h', APure prog 72 [qV ((2 : Int) : Rat), qV (fq ps w)] h' (qV (scoreTo ps w 0)) := fun h' => by
    rw [s0]
    refine times_call ⟨by decide, by decide⟩ hfit ?_
    rw [← s0]
    exact fits_b (C := 2) hmm (c.scoreTo_den hw (Nat.zero_le _)) (Rat.le_trans (by decide) (c.scoreTo_le hw (Nat.zero_le _)).1) (c.scoreTo_le hw (Nat.zero_le _)).2 (by omega) hN
  rw [hfq, ← hxq] at tc
  obtain ⟨q0, hq0⟩ : ∃ q, scoreTo ps w 0 = q := ⟨_, rfl⟩
  rw [hq0] at tc
  obtain ⟨H, hH⟩ : ∃ H, H = h ++ [z0] := ⟨_, rfl⟩
  have hE : Ext (fun _ => False) h H := by rw [hH]; exact Ext.app _ _ _
  have hvH := hv.ext hE
  have hlH : H.length = h.length + 1 := by rw [hH]; simp
  have c4 : H[h.length]? = some z0 := by rw [hH]; exact get_new _ _
  rw [← hH]
  refine aws_cut fun N2 hN2 => ?_
  refine aw_drawE (fun _ => True) [(0, 2), (5, 2)] 6 5 [4] (by kernel_rfl) (by kernel_rfl) (by kernel_rfl) (by kernel_rfl) (by kernel_rfl) (by rfl) trivial ?_
  simp (maxSteps := 2000000) only [s73, ↓aw_region, ↓aw_skip, ↓aw_seq, ↓aw_block, ↓aw_exit, ↓aw_ret, ↓sops_nil, ↓sops_go, ↓dops_nil, ↓dopsX_nil, ↓dopsR_nil, ↓vdn, vup, extr_20, extr_21, extr_30, extr_31, extr_32, List.map_cons, List.map_nil, cond_true, cond_false, aop, aThen, aBlock, argEnv, ev, sput, sputO, binK, binI, unK, builtinK, pickK, Nat.reduceBEq, Nat.reduceAdd, Int.reduceBEq, Int.reduceBNe, Int.reduceLT, aPost, resK, tup, tyf, callK, List.nil_append, List.append_nil, List.toList_toArray, List.cons_append, hvH.idx el_47 esz_26 hw, hvH.load shp_26 hw, hxy]
  refine ⟨qV ((2 : Int) : Rat), fun _ _ => ⟨_, _, whole_call, rfl, rfl⟩, qV q0, fun _ _ => ⟨_, _, tc _, rfl, rfl⟩, ?_⟩
  simp (maxSteps := 2000000) only [s73, ↓aw_region, ↓aw_skip, ↓aw_seq, ↓aw_block, ↓aw_exit, ↓aw_ret, ↓sops_nil, ↓sops_go, ↓dops_nil, ↓dopsX_nil, ↓dopsR_nil, ↓vdn, vup, extr_20, extr_21, extr_30, extr_31, extr_32, List.map_cons, List.map_nil, cond_true, cond_false, aop, aThen, aBlock, argEnv, ev, sput, sputO, binK, binI, unK, builtinK, pickK, Nat.reduceBEq, Nat.reduceAdd, Int.reduceBEq, Int.reduceBNe, Int.reduceLT, aPost, resK, tup, tyf, allocK, newPtr, zero_26, qV, frV, storeF (get_new H z0) rfl, set_new]
  rw [hlH]
  obtain ⟨H0, hH0⟩ : ∃ H0, H0 = H ++ [fC q0.num q0.den] := ⟨_, rfl⟩
  have d4 : H0[h.length]? = some z0 := by rw [hH0]; exact get_old c4 _
  have d5 : H0[h.length + 1]? = some (fC q0.num q0.den) := by rw [hH0, ← hlH]; exact get_new _ _
  have dE : Ext (fun _ => False) h H0 := by rw [hH0]; exact hE.trans (Ext.app _ _ _)
  rw [← hH0]
  refine hN2 [(0, v), (1, vint (w : Nat)), (4, .pointer (some ⟨h.length, 0, none⟩)), (5, .pointer (some ⟨h.length + 1, 0, none⟩))] _ _ ?_ (by simp (maxSteps := 2000000) only [↓aw_region, ↓aw_skip, ↓aw_seq, ↓aw_block, ↓aw_exit, ↓aw_ret, ↓sops_nil, ↓sops_go, ↓dops_nil, ↓dopsX_nil, ↓dopsR_nil, ↓vdn, vup, extr_20, extr_21, extr_30, extr_31, extr_32, List.map_cons, List.map_nil, cond_true, cond_false, aop, aThen, aBlock, argEnv, ev, sput, sputO, binK, binI, unK, builtinK, pickK, Nat.reduceBEq, Nat.reduceAdd, Int.reduceBEq, Int.reduceBNe, Int.reduceLT, aPost, resK, tup, tyf])
  clear hN2
  try clear N2
  refine aws_cutW fun Z hZ => ?_
  refine aws_cut fun N3 hN3 => ?_
  simp (maxSteps := 2000000) only [s73, ↓aw_region, ↓aw_skip, ↓aw_seq, ↓aw_block, ↓aw_exit, ↓aw_ret, ↓sops_nil, ↓sops_go, ↓dops_nil, ↓dopsX_nil, ↓dopsR_nil, ↓vdn, vup, extr_20, extr_21, extr_30, extr_31, extr_32, List.map_cons, List.map_nil, cond_true, cond_false, aop, aThen, aBlock, argEnv, ev, sput, sputO, binK, binI, unK, builtinK, pickK, Nat.reduceBEq, Nat.reduceAdd, Int.reduceBEq, Int.reduceBNe, Int.reduceLT, aPost, resK, tup, tyf, hv.len]
  refine hN3 [(0, v), (1, vint (w : Nat)), (4, .pointer (some ⟨h.length, 0, none⟩)), (5, .pointer (some ⟨h.length + 1, 0, none⟩)), (14, v), (15, vint ps.length), (16, .int .i64 0)] _ _ ?_ (by simp (maxSteps := 2000000) only [↓aw_region, ↓aw_skip, ↓aw_seq, ↓aw_block, ↓aw_exit, ↓aw_ret, ↓sops_nil, ↓sops_go, ↓dops_nil, ↓dopsX_nil, ↓dopsR_nil, ↓vdn, vup, extr_20, extr_21, extr_30, extr_31, extr_32, List.map_cons, List.map_nil, cond_true, cond_false, aop, aThen, aBlock, argEnv, ev, sput, sputO, binK, binI, unK, builtinK, pickK, Nat.reduceBEq, Nat.reduceAdd, Int.reduceBEq, Int.reduceBNe, Int.reduceLT, aPost, resK, tup, tyf])
  clear hN3
  try clear N3
  refine aws_block ?_
  refine aws_hide fun Q hQ => ?_
  refine aw_loopW (γ := Nat × Heap) (fun s => s.1 ≤ ps.length ∧ Ext (fun _ => False) h s.2 ∧ s.2[h.length]? = some z0 ∧ s.2[h.length + 1]? = some (fC (scoreTo ps w s.1).num (scoreTo ps w s.1).den))
    (fun s => ([(0, v), (1, vint (w : Nat)), (4, .pointer (some ⟨h.length, 0, none⟩)), (5, .pointer (some ⟨h.length + 1, 0, none⟩)), (14, v), (15, vint ps.length), (16, vint (s.1 : Nat))], s.2)) (fun s => ps.length - s.1) (0, H0) ⟨Nat.zero_le _, dE, d4, by rw [hq0]; exact d5⟩ (by simp (maxSteps := 2000000) only [↓aw_region, ↓aw_skip, ↓aw_seq, ↓aw_block, ↓aw_exit, ↓aw_ret, ↓sops_nil, ↓sops_go, ↓dops_nil, ↓dopsX_nil, ↓dopsR_nil, ↓vdn, vup, extr_20, extr_21, extr_30, extr_31, extr_32, List.map_cons, List.map_nil, cond_true, cond_false, aop, aThen, aBlock, argEnv, ev, sput, sputO, binK, binI, unK, builtinK, pickK, Nat.reduceBEq, Nat.reduceAdd, Int.reduceBEq, Int.reduceBNe, Int.reduceLT, aPost, resK, tup, tyf, Int.natCast_zero]) rfl ?_
  rintro ⟨k, hp⟩ ⟨hk, hEp, k4, k5⟩
  simp only at hk hEp k4 k5
  refine aws_hide fun Q2 hQ2 => ?_
  simp only [l73_0]
  by_cases hin : (k : Int) < ps.length
  · have hk' : k < ps.length := by omega
    have hvp := hv.ext hEp
    clear hxy hmem hxq hfq tc x y
    obtain ⟨⟨x, y⟩, hxy⟩ : ∃ p, ps.getD k (0, 0) = p := ⟨_, rfl⟩
    have hmem : (x, y) ∈ ps := hxy ▸ getD_mem hk'
    have hxq := frV_q (c.c.vld _ hmem)
    have hfq : fq ps k = toQ (x, y) := by rw [fq, hxy]
    have hfit := chn_fits c.c hk'
    obtain ⟨t1, t2, t3⟩ := c.c.unit hk'
    have dsq : (fq ps k * fq ps k).den ∣ mult ps * mult ps := mul_den_dvd hm hm t3 t3
    have sq0 : 0 ≤ fq ps k * fq ps k := Rat.mul_nonneg t1 t1
    have sq1 : fq ps k * fq ps k ≤ 1 := by have := Rat.mul_le_mul_of_nonneg_left t2 t1; grind
    have tc : ∀ h', APure prog 72 [qV (fq ps k), qV (fq ps k)] h' (qV (fq ps k * fq ps k)) := fun h' => times_call hfit hfit (fits_b (C := 1) hmm dsq (Rat.le_trans (by decide) sq0) sq1 (by omega) hN)
    have hnext : scoreTo ps w (k + 1) = scoreTo ps w k + ((-1 : Int) : Rat) * (fq ps k * fq ps k) := by
      rw [scoreTo, scoreTo, neg_one_q]; simp only [sumTo]; grind
    obtain ⟨b1, b2⟩ := c.scoreTo_le hw hk
    have pl : ∀ h', APure prog 71 [qV (scoreTo ps w k), vint (-1), qV (fq ps k * fq ps k)] h' (qV (scoreTo ps w (k + 1))) := fun h' => by
      rw [hnext]
      exact plus_fits (A := 2) (B := 1) hmm hN (c.scoreTo_den hw hk) dsq (Rat.le_trans (by decide) b1) b2 (Rat.le_trans (by decide) sq0) sq1 (by simp; omega)
    rw [hfq, ← hxq] at tc
    rw [hfq] at pl
    obtain ⟨q, hqq⟩ : ∃ q, scoreTo ps w (k + 1) = q := ⟨_, rfl⟩
    obtain ⟨s, hss⟩ : ∃ s, scoreTo ps w k = s := ⟨_, rfl⟩
    obtain ⟨r, hrr⟩ : ∃ r, toQ (x, y) * toQ (x, y) = r := ⟨_, rfl⟩
    rw [hrr] at tc pl
    rw [hqq, hss] at pl
    rw [hss] at k5
    obtain ⟨H, hH⟩ : ∃ H, H = hp ++ [fC x y] := ⟨_, rfl⟩
    have c7 : H[hp.length]? = some (fC x y) := by rw [hH]; exact get_new _ _
    have c4 : H[h.length]? = some z0 := by rw [hH]; exact get_old k4 _
    have c5 : H[h.length + 1]? = some (fC s.num s.den) := by rw [hH]; exact get_old k5 _
    have hEH : Ext (fun _ => False) h H := by rw [hH]; exact hEp.trans (Ext.app _ _ _)
    refine aws_cut fun N4 hN4 => ?_
    simp (maxSteps := 2000000) only [s73, ↓aw_region, ↓aw_skip, ↓aw_seq, ↓aw_block, ↓aw_exit, ↓aw_ret, ↓sops_nil, ↓sops_go, ↓dops_nil, ↓dopsX_nil, ↓dopsR_nil, ↓vdn, vup, extr_20, extr_21, extr_30, extr_31, extr_32, List.map_cons, List.map_nil, cond_true, cond_false, aop, aThen, aBlock, argEnv, ev, sput, sputO, binK, binI, unK, builtinK, pickK, Nat.reduceBEq, Nat.reduceAdd, Int.reduceBEq, Int.reduceBNe, Int.reduceLT, aPost, resK, tup, tyf, hin]
    refine hN4 [(0, v), (1, vint (w : Nat)), (4, .pointer (some ⟨h.length, 0, none⟩)), (5, .pointer (some ⟨h.length + 1, 0, none⟩)), (14, v), (15, vint ps.length), (16, vint (k : Nat)), (17, .bool true)] _ _ ?_ (by simp (maxSteps := 2000000) only [↓aw_region, ↓aw_skip, ↓aw_seq, ↓aw_block, ↓aw_exit, ↓aw_ret, ↓sops_nil, ↓sops_go, ↓dops_nil, ↓dopsX_nil, ↓dopsR_nil, ↓vdn, vup, extr_20, extr_21, extr_30, extr_31, extr_32, List.map_cons, List.map_nil, cond_true, cond_false, aop, aThen, aBlock, argEnv, ev, sput, sputO, binK, binI, unK, builtinK, pickK, Nat.reduceBEq, Nat.reduceAdd, Int.reduceBEq, Int.reduceBNe, Int.reduceLT, aPost, resK, tup, tyf])
    clear hN4
    try clear N4
    refine aws_cut fun N5 hN5 => ?_
    simp (maxSteps := 2000000) only [s73, ↓aw_region, ↓aw_skip, ↓aw_seq, ↓aw_block, ↓aw_exit, ↓aw_ret, ↓sops_nil, ↓sops_go, ↓dops_nil, ↓dopsX_nil, ↓dopsR_nil, ↓vdn, vup, extr_20, extr_21, extr_30, extr_31, extr_32, List.map_cons, List.map_nil, cond_true, cond_false, aop, aThen, aBlock, argEnv, ev, sput, sputO, binK, binI, unK, builtinK, pickK, Nat.reduceBEq, Nat.reduceAdd, Int.reduceBEq, Int.reduceBNe, Int.reduceLT, aPost, resK, tup, tyf]
    refine hN5 [(0, v), (1, vint (w : Nat)), (4, .pointer (some ⟨h.length, 0, none⟩)), (5, .pointer (some ⟨h.length + 1, 0, none⟩)), (14, v), (15, vint ps.length), (16, vint (k : Nat))] _ _ ?_ (by simp (maxSteps := 2000000) only [↓aw_region, ↓aw_skip, ↓aw_seq, ↓aw_block, ↓aw_exit, ↓aw_ret, ↓sops_nil, ↓sops_go, ↓dops_nil, ↓dopsX_nil, ↓dopsR_nil, ↓vdn, vup, extr_20, extr_21, extr_30, extr_31, extr_32, List.map_cons, List.map_nil, cond_true, cond_false, aop, aThen, aBlock, argEnv, ev, sput, sputO, binK, binI, unK, builtinK, pickK, Nat.reduceBEq, Nat.reduceAdd, Int.reduceBEq, Int.reduceBNe, Int.reduceLT, aPost, resK, tup, tyf])
    clear hN5
    try clear N5
    refine aws_cutW fun B hB => ?_
    refine aws_block ?_
    refine aws_cut fun N6 hN6 => ?_
    simp (maxSteps := 2000000) only [s73, ↓aw_region, ↓aw_skip, ↓aw_seq, ↓aw_block, ↓aw_exit, ↓aw_ret, ↓sops_nil, ↓sops_go, ↓dops_nil, ↓dopsX_nil, ↓dopsR_nil, ↓vdn, vup, extr_20, extr_21, extr_30, extr_31, extr_32, List.map_cons, List.map_nil, cond_true, cond_false, aop, aThen, aBlock, argEnv, ev, sput, sputO, binK, binI, unK, builtinK, pickK, Nat.reduceBEq, Nat.reduceAdd, Int.reduceBEq, Int.reduceBNe, Int.reduceLT, aPost, resK, tup, tyf, hvp.idx el_47 esz_26 hk', hvp.load shp_26 hk', hxy, allocK, newPtr, zero_26, storeF (get_new hp z0) rfl, set_new]
    rw [← hH]
    refine hN6 [(0, v), (1, vint (w : Nat)), (4, .pointer (some ⟨h.length, 0, none⟩)), (5, .pointer (some ⟨h.length + 1, 0, none⟩)), (7, .pointer (some ⟨hp.length, 0, none⟩)), (14, v), (15, vint ps.length), (16, vint (k : Nat))] _ _ ?_ (by simp (maxSteps := 2000000) only [↓aw_region, ↓aw_skip, ↓aw_seq, ↓aw_block, ↓aw_exit, ↓aw_ret, ↓sops_nil, ↓sops_go, ↓dops_nil, ↓dopsX_nil, ↓dopsR_nil, ↓vdn, vup, extr_20, extr_21, extr_30, extr_31, extr_32, List.map_cons, List.map_nil, cond_true, cond_false, aop, aThen, aBlock, argEnv, ev, sput, sputO, binK, binI, unK, builtinK, pickK, Nat.reduceBEq, Nat.reduceAdd, Int.reduceBEq, Int.reduceBNe, Int.reduceLT, aPost, resK, tup, tyf])
    clear hN6
    try clear N6
    refine aw_aws ?_
    simp only [q73_5]
    refine aw_drawX [(3, 1), (4, 1)] (by kernel_rfl) (by kernel_rfl) (by kernel_rfl) (by kernel_rfl) ?_
    simp (maxSteps := 2000000) only [s73, ↓aw_region, ↓aw_skip, ↓aw_seq, ↓aw_block, ↓aw_exit, ↓aw_ret, ↓sops_nil, ↓sops_go, ↓dops_nil, ↓dopsX_nil, ↓dopsR_nil, ↓vdn, vup, extr_20, extr_21, extr_30, extr_31, extr_32, List.map_cons, List.map_nil, cond_true, cond_false, aop, aThen, aBlock, argEnv, ev, sput, sputO, binK, binI, unK, builtinK, pickK, Nat.reduceBEq, Nat.reduceAdd, Int.reduceBEq, Int.reduceBNe, Int.reduceLT, aPost, resK, tup, tyf, loadF c5, loadF c7, callK, List.nil_append, List.append_nil, List.toList_toArray, List.cons_append]
    refine ⟨_, _, tc _, rfl, _, _, pl _, rfl, ?_⟩
    simp only [qV, frV, storeF c5 rfl]
    refine hB [(0, v), (1, vint (w : Nat)), (4, .pointer (some ⟨h.length, 0, none⟩)), (5, .pointer (some ⟨h.length + 1, 0, none⟩)), (14, v), (15, vint ps.length), (16, vint (k : Nat))] _ _ ?_ (by simp (maxSteps := 2000000) only [↓aw_region, ↓aw_skip, ↓aw_seq, ↓aw_block, ↓aw_exit, ↓aw_ret, ↓sops_nil, ↓sops_go, ↓dops_nil, ↓dopsX_nil, ↓dopsR_nil, ↓vdn, vup, extr_20, extr_21, extr_30, extr_31, extr_32, List.map_cons, List.map_nil, cond_true, cond_false, aop, aThen, aBlock, argEnv, ev, sput, sputO, binK, binI, unK, builtinK, pickK, Nat.reduceBEq, Nat.reduceAdd, Int.reduceBEq, Int.reduceBNe, Int.reduceLT, aPost, resK, tup, tyf])
    clear hB
    try clear B
    refine aw_aws ?_
    simp (maxSteps := 2000000) only [s73, ↓aw_region, ↓aw_skip, ↓aw_seq, ↓aw_block, ↓aw_exit, ↓aw_ret, ↓sops_nil, ↓sops_go, ↓dops_nil, ↓dopsX_nil, ↓dopsR_nil, ↓vdn, vup, extr_20, extr_21, extr_30, extr_31, extr_32, List.map_cons, List.map_nil, cond_true, cond_false, aop, aThen, aBlock, argEnv, ev, sput, sputO, binK, binI, unK, builtinK, pickK, Nat.reduceBEq, Nat.reduceAdd, Int.reduceBEq, Int.reduceBNe, Int.reduceLT, aPost, resK, tup, tyf, add1 (show k < 9223372036854775807 by omega)]
    exact hQ2 _ _ _ ⟨(k + 1, H.set (h.length + 1) (fC q.num q.den)), ⟨hk', hEH.set_ge (by omega) _, by rw [List.getElem?_set_ne (by omega)]; exact c4, by simp only; rw [hqq]; exact get_set (get_lt c5) _⟩, by simp only; omega, by simp (maxSteps := 2000000) only [↓aw_region, ↓aw_skip, ↓aw_seq, ↓aw_block, ↓aw_exit, ↓aw_ret, ↓sops_nil, ↓sops_go, ↓dops_nil, ↓dopsX_nil, ↓dopsR_nil, ↓vdn, vup, extr_20, extr_21, extr_30, extr_31, extr_32, List.map_cons, List.map_nil, cond_true, cond_false, aop, aThen, aBlock, argEnv, ev, sput, sputO, binK, binI, unK, builtinK, pickK, Nat.reduceBEq, Nat.reduceAdd, Int.reduceBEq, Int.reduceBNe, Int.reduceLT, aPost, resK, tup, tyf], rfl⟩
  · obtain rfl : k = ps.length := by omega
    refine aws_cut fun N7 hN7 => ?_
    simp (maxSteps := 2000000) only [s73, ↓aw_region, ↓aw_skip, ↓aw_seq, ↓aw_block, ↓aw_exit, ↓aw_ret, ↓sops_nil, ↓sops_go, ↓dops_nil, ↓dopsX_nil, ↓dopsR_nil, ↓vdn, vup, extr_20, extr_21, extr_30, extr_31, extr_32, List.map_cons, List.map_nil, cond_true, cond_false, aop, aThen, aBlock, argEnv, ev, sput, sputO, binK, binI, unK, builtinK, pickK, Nat.reduceBEq, Nat.reduceAdd, Int.reduceBEq, Int.reduceBNe, Int.reduceLT, aPost, resK, tup, tyf, hin]
    refine hN7 [(0, v), (1, vint (w : Nat)), (4, .pointer (some ⟨h.length, 0, none⟩)), (5, .pointer (some ⟨h.length + 1, 0, none⟩)), (14, v), (15, vint ps.length), (16, vint ps.length), (17, .bool false)] _ _ ?_ (by simp (maxSteps := 2000000) only [↓aw_region, ↓aw_skip, ↓aw_seq, ↓aw_block, ↓aw_exit, ↓aw_ret, ↓sops_nil, ↓sops_go, ↓dops_nil, ↓dopsX_nil, ↓dopsR_nil, ↓vdn, vup, extr_20, extr_21, extr_30, extr_31, extr_32, List.map_cons, List.map_nil, cond_true, cond_false, aop, aThen, aBlock, argEnv, ev, sput, sputO, binK, binI, unK, builtinK, pickK, Nat.reduceBEq, Nat.reduceAdd, Int.reduceBEq, Int.reduceBNe, Int.reduceLT, aPost, resK, tup, tyf])
    clear hN7
    try clear N7
    refine aws_cut fun N8 hN8 => ?_
    simp (maxSteps := 2000000) only [s73, ↓aw_region, ↓aw_skip, ↓aw_seq, ↓aw_block, ↓aw_exit, ↓aw_ret, ↓sops_nil, ↓sops_go, ↓dops_nil, ↓dopsX_nil, ↓dopsR_nil, ↓vdn, vup, extr_20, extr_21, extr_30, extr_31, extr_32, List.map_cons, List.map_nil, cond_true, cond_false, aop, aThen, aBlock, argEnv, ev, sput, sputO, binK, binI, unK, builtinK, pickK, Nat.reduceBEq, Nat.reduceAdd, Int.reduceBEq, Int.reduceBNe, Int.reduceLT, aPost, resK, tup, tyf]
    refine hQ2 _ _ _ (hQ _ _ _ ?_)
    simp (maxSteps := 2000000) only [s73, ↓aw_region, ↓aw_skip, ↓aw_seq, ↓aw_block, ↓aw_exit, ↓aw_ret, ↓sops_nil, ↓sops_go, ↓dops_nil, ↓dopsX_nil, ↓dopsR_nil, ↓vdn, vup, extr_20, extr_21, extr_30, extr_31, extr_32, List.map_cons, List.map_nil, cond_true, cond_false, aop, aThen, aBlock, argEnv, ev, sput, sputO, binK, binI, unK, builtinK, pickK, Nat.reduceBEq, Nat.reduceAdd, Int.reduceBEq, Int.reduceBNe, Int.reduceLT, aPost, resK, tup, tyf, if_true]
    refine hZ [(0, v), (1, vint (w : Nat)), (4, .pointer (some ⟨h.length, 0, none⟩)), (5, .pointer (some ⟨h.length + 1, 0, none⟩)), (14, v), (15, vint ps.length), (16, vint ps.length), (17, .bool false)] _ _ ?_ (by simp (maxSteps := 2000000) only [↓aw_region, ↓aw_skip, ↓aw_seq, ↓aw_block, ↓aw_exit, ↓aw_ret, ↓sops_nil, ↓sops_go, ↓dops_nil, ↓dopsX_nil, ↓dopsR_nil, ↓vdn, vup, extr_20, extr_21, extr_30, extr_31, extr_32, List.map_cons, List.map_nil, cond_true, cond_false, aop, aThen, aBlock, argEnv, ev, sput, sputO, binK, binI, unK, builtinK, pickK, Nat.reduceBEq, Nat.reduceAdd, Int.reduceBEq, Int.reduceBNe, Int.reduceLT, aPost, resK, tup, tyf])
    clear hZ
    try clear Z
    rw [← scoreQ] at k5
    obtain ⟨q, hqq⟩ : ∃ q, scoreQ ps w = q := ⟨_, rfl⟩
    rw [hqq] at k5 ⊢
    refine aw_aws ?_
    simp (maxSteps := 2000000) only [s73, ↓aw_region, ↓aw_skip, ↓aw_seq, ↓aw_block, ↓aw_exit, ↓aw_ret, ↓sops_nil, ↓sops_go, ↓dops_nil, ↓dopsX_nil, ↓dopsR_nil, ↓vdn, vup, extr_20, extr_21, extr_30, extr_31, extr_32, List.map_cons, List.map_nil, cond_true, cond_false, aop, aThen, aBlock, argEnv, ev, sput, sputO, binK, binI, unK, builtinK, pickK, Nat.reduceBEq, Nat.reduceAdd, Int.reduceBEq, Int.reduceBNe, Int.reduceLT, aPost, resK, tup, tyf, loadF k5, storeF k4 rfl, loadF (get_set (get_lt k4) _)]
    exact ⟨rfl, hEp.set_ge (Nat.le_refl _) _⟩

theorem s40_callW [Tabs Try.prog] {args : List Value} {h : Heap} {Q : Value → Heap → Prop} (hsz : args.length ≤ 23) (hk : AWS Try.prog 23 s40 (aPost Try.prog [.cell 4 26, .tmp 5] Q) (argEnv 0 args) h) : ACall Try.prog 40 args h Q :=
  acall_w Try.func40 rfl (enters_of Try.func40 (by kernel_rfl) rfl) rfl rfl (by decide) s40_strip s40_ok hsz hk
theorem progScore_call [Tabs prog] {h : Heap} {v : Value} {ps : List (Int × Int)} {w : Int} (hv : PairSl h v ps) (hl : ps.length < 9223372036854775808) :
    APure prog 40 [v, vint w] h (if fcB ps = true ∧ 0 ≤ w ∧ w < ps.length then .tuple #[qV (scoreQ ps w.toNat), .int .i64 0] else .tuple #[frV 0 0, .int .i64 2]) := by
  refine ACall.forget (by split <;> exact Low.pair (low_frV _ _) (Low.int _ _)) ?_
  obtain ⟨R, hR⟩ : ∃ R, (if fcB ps = true ∧ 0 ≤ w ∧ w < ps.length then Value.tuple #[qV (scoreQ ps w.toNat), .int .i64 0] else .tuple #[frV 0 0, .int .i64 2]) = R := ⟨_, rfl⟩
  rw [hR]
  obtain ⟨H, hH⟩ : ∃ H, H = h ++ [z0] := ⟨_, rfl⟩
  have hE : Ext (fun _ => False) h H := by rw [hH]; exact Ext.app _ _ _
  have hvH := hv.ext hE
  have c4 : H[h.length]? = some z0 := by rw [hH]; exact get_new _ _
  refine s40_callW (by simp) ?_
  simp only [s40]
  refine aws_cut fun N9 hN9 => ?_
  simp (maxSteps := 2000000) only [s40, ↓aw_region, ↓aw_skip, ↓aw_seq, ↓aw_block, ↓aw_exit, ↓aw_ret, ↓sops_nil, ↓sops_go, ↓dops_nil, ↓dopsX_nil, ↓dopsR_nil, ↓vdn, vup, extr_20, extr_21, extr_30, extr_31, extr_32, List.map_cons, List.map_nil, cond_true, cond_false, aop, aThen, aBlock, argEnv, ev, sput, sputO, binK, binI, unK, builtinK, pickK, Nat.reduceBEq, Nat.reduceAdd, Int.reduceBEq, Int.reduceBNe, Int.reduceLT, aPost, resK, tup, tyf, allocK, newPtr, zero_26]
  rw [← hH]
  refine hN9 [(0, v), (1, vint w), (4, .pointer (some ⟨h.length, 0, none⟩)), (5, .int .i64 0)] _ _ ?_ (by simp (maxSteps := 2000000) only [↓aw_region, ↓aw_skip, ↓aw_seq, ↓aw_block, ↓aw_exit, ↓aw_ret, ↓sops_nil, ↓sops_go, ↓dops_nil, ↓dopsX_nil, ↓dopsR_nil, ↓vdn, vup, extr_20, extr_21, extr_30, extr_31, extr_32, List.map_cons, List.map_nil, cond_true, cond_false, aop, aThen, aBlock, argEnv, ev, sput, sputO, binK, binI, unK, builtinK, pickK, Nat.reduceBEq, Nat.reduceAdd, Int.reduceBEq, Int.reduceBNe, Int.reduceLT, aPost, resK, tup, tyf])
  clear hN9
  try clear N9
  refine aws_cut fun M hM => ?_
  simp (maxSteps := 2000000) only [s40, ↓aw_region, ↓aw_skip, ↓aw_seq, ↓aw_block, ↓aw_exit, ↓aw_ret, ↓sops_nil, ↓sops_go, ↓dops_nil, ↓dopsX_nil, ↓dopsR_nil, ↓vdn, vup, extr_20, extr_21, extr_30, extr_31, extr_32, List.map_cons, List.map_nil, cond_true, cond_false, aop, aThen, aBlock, argEnv, ev, sput, sputO, binK, binI, unK, builtinK, pickK, Nat.reduceBEq, Nat.reduceAdd, Int.reduceBEq, Int.reduceBNe, Int.reduceLT, aPost, resK, tup, tyf, callK, List.nil_append, List.append_nil, List.toList_toArray, List.cons_append, hvH.len]
  refine (isfc_call hvH hl).mono ?_
  rintro _ H ⟨rfl, rfl⟩
  cases hf : fcB ps with
  | false =>
    simp (maxSteps := 2000000) only [s40, ↓aw_region, ↓aw_skip, ↓aw_seq, ↓aw_block, ↓aw_exit, ↓aw_ret, ↓sops_nil, ↓sops_go, ↓dops_nil, ↓dopsX_nil, ↓dopsR_nil, ↓vdn, vup, extr_20, extr_21, extr_30, extr_31, extr_32, List.map_cons, List.map_nil, cond_true, cond_false, aop, aThen, aBlock, argEnv, ev, sput, sputO, binK, binI, unK, builtinK, pickK, Nat.reduceBEq, Nat.reduceAdd, Int.reduceBEq, Int.reduceBNe, Int.reduceLT, aPost, resK, tup, tyf, Bool.not_false, bldF0, List.map_toArray, storeF c4 rfl, loadF (get_set (get_lt c4) _)]
    rw [← hR, hf, if_neg (by simp)]
    exact ⟨rfl, hE.set_ge (Nat.le_refl _) _⟩
  | true =>
    have c := fc_of hf
    by_cases h1 : w < 0
    · simp (maxSteps := 2000000) only [s40, ↓aw_region, ↓aw_skip, ↓aw_seq, ↓aw_block, ↓aw_exit, ↓aw_ret, ↓sops_nil, ↓sops_go, ↓dops_nil, ↓dopsX_nil, ↓dopsR_nil, ↓vdn, vup, extr_20, extr_21, extr_30, extr_31, extr_32, List.map_cons, List.map_nil, cond_true, cond_false, aop, aThen, aBlock, argEnv, ev, sput, sputO, binK, binI, unK, builtinK, pickK, Nat.reduceBEq, Nat.reduceAdd, Int.reduceBEq, Int.reduceBNe, Int.reduceLT, aPost, resK, tup, tyf, Bool.not_true, h1, bldF0, List.map_toArray, storeF c4 rfl, loadF (get_set (get_lt c4) _)]
      rw [← hR, if_neg (by omega)]
      exact ⟨rfl, hE.set_ge (Nat.le_refl _) _⟩
    · by_cases h2 : w ≥ ps.length
      · simp (maxSteps := 2000000) only [s40, ↓aw_region, ↓aw_skip, ↓aw_seq, ↓aw_block, ↓aw_exit, ↓aw_ret, ↓sops_nil, ↓sops_go, ↓dops_nil, ↓dopsX_nil, ↓dopsR_nil, ↓vdn, vup, extr_20, extr_21, extr_30, extr_31, extr_32, List.map_cons, List.map_nil, cond_true, cond_false, aop, aThen, aBlock, argEnv, ev, sput, sputO, binK, binI, unK, builtinK, pickK, Nat.reduceBEq, Nat.reduceAdd, Int.reduceBEq, Int.reduceBNe, Int.reduceLT, aPost, resK, tup, tyf, Bool.not_true, h1, hvH.len, h2, bldF0, List.map_toArray, storeF c4 rfl, loadF (get_set (get_lt c4) _)]
        rw [← hR, if_neg (by omega)]
        exact ⟨rfl, hE.set_ge (Nat.le_refl _) _⟩
      · obtain ⟨n, rfl⟩ : ∃ n : Nat, w = n := ⟨w.toNat, by omega⟩
        have sc := score_call (w := n) hvH c (by omega)
        obtain ⟨q, hqq⟩ : ∃ q, scoreQ ps n = q := ⟨_, rfl⟩
        rw [hqq] at sc
        simp (maxSteps := 2000000) only [s40, ↓aw_region, ↓aw_skip, ↓aw_seq, ↓aw_block, ↓aw_exit, ↓aw_ret, ↓sops_nil, ↓sops_go, ↓dops_nil, ↓dopsX_nil, ↓dopsR_nil, ↓vdn, vup, extr_20, extr_21, extr_30, extr_31, extr_32, List.map_cons, List.map_nil, cond_true, cond_false, aop, aThen, aBlock, argEnv, ev, sput, sputO, binK, binI, unK, builtinK, pickK, Nat.reduceBEq, Nat.reduceAdd, Int.reduceBEq, Int.reduceBNe, Int.reduceLT, aPost, resK, tup, tyf, Bool.not_true, h1, hvH.len, h2]
        refine hM [(0, v), (1, vint (n : Nat)), (4, .pointer (some ⟨h.length, 0, none⟩)), (5, .int .i64 0)] _ _ ?_ (by simp (maxSteps := 2000000) only [↓aw_region, ↓aw_skip, ↓aw_seq, ↓aw_block, ↓aw_exit, ↓aw_ret, ↓sops_nil, ↓sops_go, ↓dops_nil, ↓dopsX_nil, ↓dopsR_nil, ↓vdn, vup, extr_20, extr_21, extr_30, extr_31, extr_32, List.map_cons, List.map_nil, cond_true, cond_false, aop, aThen, aBlock, argEnv, ev, sput, sputO, binK, binI, unK, builtinK, pickK, Nat.reduceBEq, Nat.reduceAdd, Int.reduceBEq, Int.reduceBNe, Int.reduceLT, aPost, resK, tup, tyf])
        clear hM
        try clear M
        refine aw_aws ?_
        simp (maxSteps := 2000000) only [s40, ↓aw_region, ↓aw_skip, ↓aw_seq, ↓aw_block, ↓aw_exit, ↓aw_ret, ↓sops_nil, ↓sops_go, ↓dops_nil, ↓dopsX_nil, ↓dopsR_nil, ↓vdn, vup, extr_20, extr_21, extr_30, extr_31, extr_32, List.map_cons, List.map_nil, cond_true, cond_false, aop, aThen, aBlock, argEnv, ev, sput, sputO, binK, binI, unK, builtinK, pickK, Nat.reduceBEq, Nat.reduceAdd, Int.reduceBEq, Int.reduceBNe, Int.reduceLT, aPost, resK, tup, tyf, callK, List.nil_append, List.append_nil, List.toList_toArray, List.cons_append]
        refine (sc).mono ?_
        rintro _ H ⟨rfl, rfl⟩
        simp (maxSteps := 2000000) only [s40, ↓aw_region, ↓aw_skip, ↓aw_seq, ↓aw_block, ↓aw_exit, ↓aw_ret, ↓sops_nil, ↓sops_go, ↓dops_nil, ↓dopsX_nil, ↓dopsR_nil, ↓vdn, vup, extr_20, extr_21, extr_30, extr_31, extr_32, List.map_cons, List.map_nil, cond_true, cond_false, aop, aThen, aBlock, argEnv, ev, sput, sputO, binK, binI, unK, builtinK, pickK, Nat.reduceBEq, Nat.reduceAdd, Int.reduceBEq, Int.reduceBNe, Int.reduceLT, aPost, resK, tup, tyf, qV, frV, storeF c4 rfl, loadF (get_set (get_lt c4) _)]
        have hc : fcB ps = true ∧ 0 ≤ (n : Int) ∧ (n : Int) < ps.length := ⟨hf, by omega, by omega⟩
        rw [← hR, if_pos hc, Int.toNat_natCast, hqq]
        exact ⟨rfl, hE.set_ge (Nat.le_refl _) _⟩
end Go.Proofs.Try.Am

namespace Go.Proofs.Try.Am
open Go.Am Bq
set_option maxRecDepth 100000
set_option maxHeartbeats 1000000

theorem big_small {m k : Nat} (hm : m ≤ 27885) (hk : k ≤ 27885) : k * (m * m) ≤ 21682629379125 := by
  have h1 := nat_small hm
  have := Nat.mul_le_mul hk h1; omega
theorem score_fits {f : List (Int × Int)} (c : Fc f) {w : Nat} (hw : w < f.length) : Fits (scoreQ f w) := by
  have hm := Nat.pos_of_ne_zero c.c.m
  have hsm := nat_small c.small
  exact fits_b (C := 1) (Nat.mul_pos hm hm) (c.scoreTo_den hw (Nat.le_refl _)) (Rat.le_trans (by decide) (c.score_le hw).1) (c.score_le hw).2 (by omega) (by omega)

theorem s31_callW [Tabs Try.prog] {args : List Value} {h : Heap} {Q : Value → Heap → Prop} (hsz : args.length ≤ 42) (hk : AWS Try.prog 42 s31 (aPost Try.prog [.cell 4 26, .tmp 5] Q) (argEnv 0 args) h) : ACall Try.prog 31 args h Q :=
  acall_w Try.func31 rfl (enters_of Try.func31 (by kernel_rfl) rfl) rfl rfl (by decide) s31_strip s31_ok hsz hk
theorem progMean_call [Tabs prog] {h : Heap} {u v : Value} {f b : List (Int × Int)} (hu : PairSl h u f) (hv : PairSl h v b) (hlf : f.length < 9223372036854775808) (hlb : b.length < 9223372036854775808) :
    APure prog 31 [u, v] h (if fcB f = true ∧ fcB b = true ∧ f.length = b.length then .tuple #[qV (meanQ f b), .int .i64 0] else .tuple #[frV 0 0, .int .i64 2]) := by
  refine ACall.forget (by split <;> exact Low.pair (low_frV _ _) (Low.int _ _)) ?_
  obtain ⟨R, hR⟩ : ∃ R, (if fcB f = true ∧ fcB b = true ∧ f.length = b.length then Value.tuple #[qV (meanQ f b), .int .i64 0] else .tuple #[frV 0 0, .int .i64 2]) = R := ⟨_, rfl⟩
  rw [hR]
  obtain ⟨H, hH⟩ : ∃ H, H = h ++ [z0] := ⟨_, rfl⟩
  have hE : Ext (fun _ => False) h H := by rw [hH]; exact Ext.app _ _ _
  have huH := hu.ext hE
  have hvH := hv.ext hE
  have hlH : H.length = h.length + 1 := by rw [hH]; simp
  have c4 : H[h.length]? = some z0 := by rw [hH]; exact get_new _ _
  refine s31_callW (by simp) ?_
  simp only [s31]
  refine aws_cut fun N1 hN1 => ?_
  simp (maxSteps := 2000000) only [s31, ↓aw_region, ↓aw_skip, ↓aw_seq, ↓aw_block, ↓aw_exit, ↓aw_ret, ↓sops_nil, ↓sops_go, ↓dops_nil, ↓dopsX_nil, ↓dopsR_nil, ↓vdn, vup, extr_20, extr_21, extr_30, extr_31, extr_32, List.map_cons, List.map_nil, cond_true, cond_false, aop, aThen, aBlock, argEnv, ev, sput, sputO, binK, binI, unK, builtinK, pickK, Nat.reduceBEq, Nat.reduceAdd, Int.reduceBEq, Int.reduceBNe, Int.reduceLT, aPost, resK, tup, tyf, allocK, newPtr, zero_26]
  rw [← hH]
  refine hN1 [(0, u), (1, v), (4, .pointer (some ⟨h.length, 0, none⟩)), (5, .int .i64 0)] _ _ ?_ (by simp (maxSteps := 2000000) only [↓aw_region, ↓aw_skip, ↓aw_seq, ↓aw_block, ↓aw_exit, ↓aw_ret, ↓sops_nil, ↓sops_go, ↓dops_nil, ↓dopsX_nil, ↓dopsR_nil, ↓vdn, vup, extr_20, extr_21, extr_30, extr_31, extr_32, List.map_cons, List.map_nil, cond_true, cond_false, aop, aThen, aBlock, argEnv, ev, sput, sputO, binK, binI, unK, builtinK, pickK, Nat.reduceBEq, Nat.reduceAdd, Int.reduceBEq, Int.reduceBNe, Int.reduceLT, aPost, resK, tup, tyf])
  clear hN1
  try clear N1
  refine aws_cut fun M hM => ?_
  simp (maxSteps := 2000000) only [s31, ↓aw_region, ↓aw_skip, ↓aw_seq, ↓aw_block, ↓aw_exit, ↓aw_ret, ↓sops_nil, ↓sops_go, ↓dops_nil, ↓dopsX_nil, ↓dopsR_nil, ↓vdn, vup, extr_20, extr_21, extr_30, extr_31, extr_32, List.map_cons, List.map_nil, cond_true, cond_false, aop, aThen, aBlock, argEnv, ev, sput, sputO, binK, binI, unK, builtinK, pickK, Nat.reduceBEq, Nat.reduceAdd, Int.reduceBEq, Int.reduceBNe, Int.reduceLT, aPost, resK, tup, tyf, callK, List.nil_append, List.append_nil, List.toList_toArray, List.cons_append, huH.len]
  refine (isfc_call huH hlf).mono ?_
  rintro _ H ⟨rfl, rfl⟩
  cases hf : fcB f with
  | false =>
    simp (maxSteps := 2000000) only [s31, ↓aw_region, ↓aw_skip, ↓aw_seq, ↓aw_block, ↓aw_exit, ↓aw_ret, ↓sops_nil, ↓sops_go, ↓dops_nil, ↓dopsX_nil, ↓dopsR_nil, ↓vdn, vup, extr_20, extr_21, extr_30, extr_31, extr_32, List.map_cons, List.map_nil, cond_true, cond_false, aop, aThen, aBlock, argEnv, ev, sput, sputO, binK, binI, unK, builtinK, pickK, Nat.reduceBEq, Nat.reduceAdd, Int.reduceBEq, Int.reduceBNe, Int.reduceLT, aPost, resK, tup, tyf, Bool.not_false, bldF0, List.map_toArray, storeF c4 rfl, loadF (get_set (get_lt c4) _)]
    rw [← hR, hf, if_neg (by simp)]
    exact ⟨rfl, hE.set_ge (Nat.le_refl _) _⟩
  | true =>
    have cf := fc_of hf
    simp (maxSteps := 2000000) only [s31, ↓aw_region, ↓aw_skip, ↓aw_seq, ↓aw_block, ↓aw_exit, ↓aw_ret, ↓sops_nil, ↓sops_go, ↓dops_nil, ↓dopsX_nil, ↓dopsR_nil, ↓vdn, vup, extr_20, extr_21, extr_30, extr_31, extr_32, List.map_cons, List.map_nil, cond_true, cond_false, aop, aThen, aBlock, argEnv, ev, sput, sputO, binK, binI, unK, builtinK, pickK, Nat.reduceBEq, Nat.reduceAdd, Int.reduceBEq, Int.reduceBNe, Int.reduceLT, aPost, resK, tup, tyf, Bool.not_true, callK, List.nil_append, List.append_nil, List.toList_toArray, List.cons_append]
    refine (isfc_call hvH hlb).mono ?_
    rintro _ H ⟨rfl, rfl⟩
    cases hb : fcB b with
    | false =>
      simp (maxSteps := 2000000) only [s31, ↓aw_region, ↓aw_skip, ↓aw_seq, ↓aw_block, ↓aw_exit, ↓aw_ret, ↓sops_nil, ↓sops_go, ↓dops_nil, ↓dopsX_nil, ↓dopsR_nil, ↓vdn, vup, extr_20, extr_21, extr_30, extr_31, extr_32, List.map_cons, List.map_nil, cond_true, cond_false, aop, aThen, aBlock, argEnv, ev, sput, sputO, binK, binI, unK, builtinK, pickK, Nat.reduceBEq, Nat.reduceAdd, Int.reduceBEq, Int.reduceBNe, Int.reduceLT, aPost, resK, tup, tyf, Bool.not_false, bldF0, List.map_toArray, storeF c4 rfl, loadF (get_set (get_lt c4) _)]
      rw [← hR, hb, if_neg (by simp)]
      exact ⟨rfl, hE.set_ge (Nat.le_refl _) _⟩
    | true =>
      have cb := fc_of hb
      by_cases hl : f.length = b.length
      · have hne : (((f.length : Nat) : Int) != ((b.length : Nat) : Int)) = false := by rw [hl]; simp
        rw [if_pos ⟨hf, hb, hl⟩] at hR
        have hmf := Nat.pos_of_ne_zero cf.c.m
        have hmb := Nat.pos_of_ne_zero cb.c.m
        have hNN := Nat.mul_pos hmb (Nat.mul_pos hmf hmf)
        have hsm := big_small cf.small cb.small
        have hNlt : mult b * (mult f * mult f) < 9223372036854775808 := by omega
        have hlen := cb.len
        simp (maxSteps := 2000000) only [s31, ↓aw_region, ↓aw_skip, ↓aw_seq, ↓aw_block, ↓aw_exit, ↓aw_ret, ↓sops_nil, ↓sops_go, ↓dops_nil, ↓dopsX_nil, ↓dopsR_nil, ↓vdn, vup, extr_20, extr_21, extr_30, extr_31, extr_32, List.map_cons, List.map_nil, cond_true, cond_false, aop, aThen, aBlock, argEnv, ev, sput, sputO, binK, binI, unK, builtinK, pickK, Nat.reduceBEq, Nat.reduceAdd, Int.reduceBEq, Int.reduceBNe, Int.reduceLT, aPost, resK, tup, tyf, Bool.not_true, huH.len, hvH.len, hne]
        refine hM [(0, u), (1, v), (4, .pointer (some ⟨h.length, 0, none⟩)), (5, .int .i64 0)] _ _ ?_ (by simp (maxSteps := 2000000) only [↓aw_region, ↓aw_skip, ↓aw_seq, ↓aw_block, ↓aw_exit, ↓aw_ret, ↓sops_nil, ↓sops_go, ↓dops_nil, ↓dopsX_nil, ↓dopsR_nil, ↓vdn, vup, extr_20, extr_21, extr_30, extr_31, extr_32, List.map_cons, List.map_nil, cond_true, cond_false, aop, aThen, aBlock, argEnv, ev, sput, sputO, binK, binI, unK, builtinK, pickK, Nat.reduceBEq, Nat.reduceAdd, Int.reduceBEq, Int.reduceBNe, Int.reduceLT, aPost, resK, tup, tyf])
        clear hM
        try clear M
        refine aws_cut fun N2 hN2 => ?_
        simp (maxSteps := 2000000) only [s31, ↓aw_region, ↓aw_skip, ↓aw_seq, ↓aw_block, ↓aw_exit, ↓aw_ret, ↓sops_nil, ↓sops_go, ↓dops_nil, ↓dopsX_nil, ↓dopsR_nil, ↓vdn, vup, extr_20, extr_21, extr_30, extr_31, extr_32, List.map_cons, List.map_nil, cond_true, cond_false, aop, aThen, aBlock, argEnv, ev, sput, sputO, binK, binI, unK, builtinK, pickK, Nat.reduceBEq, Nat.reduceAdd, Int.reduceBEq, Int.reduceBNe, Int.reduceLT, aPost, resK, tup, tyf, callK, List.nil_append, List.append_nil, List.toList_toArray, List.cons_append]
        refine ((show APure prog 70 [.int .i64 0] H (qV ((0 : Int) : Rat)) from whole_call)).mono ?_
        rintro _ H ⟨rfl, rfl⟩
        have q0 : qV ((0 : Int) : Rat) = .agg #[vint 0, vint 1] := rfl
        simp (maxSteps := 2000000) only [s31, ↓aw_region, ↓aw_skip, ↓aw_seq, ↓aw_block, ↓aw_exit, ↓aw_ret, ↓sops_nil, ↓sops_go, ↓dops_nil, ↓dopsX_nil, ↓dopsR_nil, ↓vdn, vup, extr_20, extr_21, extr_30, extr_31, extr_32, List.map_cons, List.map_nil, cond_true, cond_false, aop, aThen, aBlock, argEnv, ev, sput, sputO, binK, binI, unK, builtinK, pickK, Nat.reduceBEq, Nat.reduceAdd, Int.reduceBEq, Int.reduceBNe, Int.reduceLT, aPost, resK, tup, tyf, allocK, newPtr, zero_26, q0, storeF (get_new H z0) rfl, set_new]
        rw [hlH]
        obtain ⟨H0, hH0⟩ : ∃ H0, H0 = H ++ [fC 0 1] := ⟨_, rfl⟩
        have d4 : H0[h.length]? = some z0 := by rw [hH0]; exact get_old c4 _
        have d6 : H0[h.length + 1]? = some (fC 0 1) := by rw [hH0, ← hlH]; exact get_new _ _
        have dE : Ext (fun _ => False) h H0 := by rw [hH0]; exact hE.trans (Ext.app _ _ _)
        rw [← hH0]
        refine hN2 [(0, u), (1, v), (4, .pointer (some ⟨h.length, 0, none⟩)), (5, .int .i64 0), (6, .pointer (some ⟨h.length + 1, 0, none⟩))] _ _ ?_ (by simp (maxSteps := 2000000) only [↓aw_region, ↓aw_skip, ↓aw_seq, ↓aw_block, ↓aw_exit, ↓aw_ret, ↓sops_nil, ↓sops_go, ↓dops_nil, ↓dopsX_nil, ↓dopsR_nil, ↓vdn, vup, extr_20, extr_21, extr_30, extr_31, extr_32, List.map_cons, List.map_nil, cond_true, cond_false, aop, aThen, aBlock, argEnv, ev, sput, sputO, binK, binI, unK, builtinK, pickK, Nat.reduceBEq, Nat.reduceAdd, Int.reduceBEq, Int.reduceBNe, Int.reduceLT, aPost, resK, tup, tyf])
        clear hN2
        try clear N2
        refine aws_cutW fun Z hZ => ?_
        refine aws_cut fun N3 hN3 => ?_
        simp (maxSteps := 2000000) only [s31, ↓aw_region, ↓aw_skip, ↓aw_seq, ↓aw_block, ↓aw_exit, ↓aw_ret, ↓sops_nil, ↓sops_go, ↓dops_nil, ↓dopsX_nil, ↓dopsR_nil, ↓vdn, vup, extr_20, extr_21, extr_30, extr_31, extr_32, List.map_cons, List.map_nil, cond_true, cond_false, aop, aThen, aBlock, argEnv, ev, sput, sputO, binK, binI, unK, builtinK, pickK, Nat.reduceBEq, Nat.reduceAdd, Int.reduceBEq, Int.reduceBNe, Int.reduceLT, aPost, resK, tup, tyf, (hv.ext dE).len]
        refine hN3 [(0, u), (1, v), (4, .pointer (some ⟨h.length, 0, none⟩)), (5, .int .i64 0), (6, .pointer (some ⟨h.length + 1, 0, none⟩)), (26, v), (27, vint b.length), (28, .int .i64 0)] _ _ ?_ (by simp (maxSteps := 2000000) only [↓aw_region, ↓aw_skip, ↓aw_seq, ↓aw_block, ↓aw_exit, ↓aw_ret, ↓sops_nil, ↓sops_go, ↓dops_nil, ↓dopsX_nil, ↓dopsR_nil, ↓vdn, vup, extr_20, extr_21, extr_30, extr_31, extr_32, List.map_cons, List.map_nil, cond_true, cond_false, aop, aThen, aBlock, argEnv, ev, sput, sputO, binK, binI, unK, builtinK, pickK, Nat.reduceBEq, Nat.reduceAdd, Int.reduceBEq, Int.reduceBNe, Int.reduceLT, aPost, resK, tup, tyf])
        clear hN3
        try clear N3
        refine aws_block ?_
        refine aws_hide fun Q hQ => ?_
        refine aw_loopW (γ := Nat × Heap) (fun s => s.1 ≤ b.length ∧ Ext (fun _ => False) h s.2 ∧ s.2[h.length]? = some z0 ∧ s.2[h.length + 1]? = some (fC (meanTo f b s.1).num (meanTo f b s.1).den))
          (fun s => ([(0, u), (1, v), (4, .pointer (some ⟨h.length, 0, none⟩)), (5, .int .i64 0), (6, .pointer (some ⟨h.length + 1, 0, none⟩)), (26, v), (27, vint b.length), (28, vint (s.1 : Nat))], s.2)) (fun s => b.length - s.1) (0, H0) ⟨Nat.zero_le _, dE, d4, d6⟩ (by simp (maxSteps := 2000000) only [↓aw_region, ↓aw_skip, ↓aw_seq, ↓aw_block, ↓aw_exit, ↓aw_ret, ↓sops_nil, ↓sops_go, ↓dops_nil, ↓dopsX_nil, ↓dopsR_nil, ↓vdn, vup, extr_20, extr_21, extr_30, extr_31, extr_32, List.map_cons, List.map_nil, cond_true, cond_false, aop, aThen, aBlock, argEnv, ev, sput, sputO, binK, binI, unK, builtinK, pickK, Nat.reduceBEq, Nat.reduceAdd, Int.reduceBEq, Int.reduceBNe, Int.reduceLT, aPost, resK, tup, tyf, Int.natCast_zero]) rfl ?_
        rintro ⟨k, hp⟩ ⟨hk, hEp, k4, k6⟩
        simp only at hk hEp k4 k6
        refine aws_hide fun Q2 hQ2 => ?_
        simp only [l31_0]
        by_cases hin : (k : Int) < b.length
        · have hk' : k < b.length := by omega
          have hvp := hv.ext hEp
          obtain ⟨⟨x, y⟩, hxy⟩ : ∃ p, b.getD k (0, 0) = p := ⟨_, rfl⟩
          have hmem : (x, y) ∈ b := hxy ▸ getD_mem hk'
          have hxq := frV_q (cb.c.vld _ hmem)
          have hfq : fq b k = toQ (x, y) := by rw [fq, hxy]
          have hfit := chn_fits cb.c hk'
          have sfit := score_fits cf (show k < f.length by omega)
          obtain ⟨t1, t2, t3⟩ := cb.c.unit hk'
          obtain ⟨u1, u2⟩ := cf.score_le (show k < f.length by omega)
          have dpr : (fq b k * scoreQ f k).den ∣ mult b * (mult f * mult f) := mul_den_dvd hmb (Nat.mul_pos hmf hmf) t3 (cf.scoreTo_den (by omega) (Nat.le_refl _))
          have pr1 : -((1 : Nat) : Rat) ≤ fq b k * scoreQ f k := by
            have h1 := Rat.mul_le_mul_of_nonneg_left u1 t1
            have e : ((1 : Nat) : Rat) = 1 := rfl
            rw [e]; grind
          have pr2 : fq b k * scoreQ f k ≤ ((1 : Nat) : Rat) := by
            have h1 := Rat.mul_le_mul_of_nonneg_left u2 t1
            have e : ((1 : Nat) : Rat) = 1 := rfl
            rw [e]; grind
          have tc : ∀ h', APure prog 72 [qV (fq b k), qV (scoreQ f k)] h' (qV (fq b k * scoreQ f k)) := fun h' => times_call hfit sfit (fits_b (C := 1) hNN dpr pr1 pr2 (by omega) hNlt)
          have hnext : meanTo f b (k + 1) = meanTo f b k + ((1 : Int) : Rat) * (fq b k * scoreQ f k) := by
            rw [show (((1 : Int)) : Rat) = 1 from rfl, Rat.one_mul]; rfl
          obtain ⟨b1, b2⟩ := mean_le cf cb hl k hk
          have b3 := sumTo_mono (g := fq b) hk fun i hi => (cb.unit hi).1
          rw [cb.sum] at b3
          have pl : ∀ h', APure prog 71 [qV (meanTo f b k), vint 1, qV (fq b k * scoreQ f k)] h' (qV (meanTo f b (k + 1))) := fun h' => by
            rw [hnext]
            refine plus_fits (A := 1) (B := 1) hNN hNlt (mean_den cf cb hl hk) dpr ?_ ?_ pr1 pr2 (by simp; omega)
            · have e : ((1 : Nat) : Rat) = 1 := rfl
              rw [e]; grind
            · have e : ((1 : Nat) : Rat) = 1 := rfl
              rw [e]; grind
          rw [hfq, ← hxq] at tc
          rw [hfq] at pl
          obtain ⟨q, hqq⟩ : ∃ q, meanTo f b (k + 1) = q := ⟨_, rfl⟩
          obtain ⟨s, hss⟩ : ∃ s, meanTo f b k = s := ⟨_, rfl⟩
          obtain ⟨r, hrr⟩ : ∃ r, toQ (x, y) * scoreQ f k = r := ⟨_, rfl⟩
          rw [hrr] at tc pl
          rw [hqq, hss] at pl
          rw [hss] at k6
          obtain ⟨H, hH⟩ : ∃ H, H = hp ++ [fC x y] := ⟨_, rfl⟩
          have c8 : H[hp.length]? = some (fC x y) := by rw [hH]; exact get_new _ _
          have c4 : H[h.length]? = some z0 := by rw [hH]; exact get_old k4 _
          have c6 : H[h.length + 1]? = some (fC s.num s.den) := by rw [hH]; exact get_old k6 _
          have hEH : Ext (fun _ => False) h H := by rw [hH]; exact hEp.trans (Ext.app _ _ _)
          have sc := score_call (w := k) (hu.ext hEH) cf (by omega)
          obtain ⟨w, hww⟩ : ∃ w, scoreQ f k = w := ⟨_, rfl⟩
          rw [hww] at sc tc
          refine aws_cut fun N4 hN4 => ?_
          simp (maxSteps := 2000000) only [s31, ↓aw_region, ↓aw_skip, ↓aw_seq, ↓aw_block, ↓aw_exit, ↓aw_ret, ↓sops_nil, ↓sops_go, ↓dops_nil, ↓dopsX_nil, ↓dopsR_nil, ↓vdn, vup, extr_20, extr_21, extr_30, extr_31, extr_32, List.map_cons, List.map_nil, cond_true, cond_false, aop, aThen, aBlock, argEnv, ev, sput, sputO, binK, binI, unK, builtinK, pickK, Nat.reduceBEq, Nat.reduceAdd, Int.reduceBEq, Int.reduceBNe, Int.reduceLT, aPost, resK, tup, tyf, hin]
          refine hN4 [(0, u), (1, v), (4, .pointer (some ⟨h.length, 0, none⟩)), (5, .int .i64 0), (6, .pointer (some ⟨h.length + 1, 0, none⟩)), (26, v), (27, vint b.length), (28, vint (k : Nat)), (29, .bool true)] _ _ ?_ (by simp (maxSteps := 2000000) only [↓aw_region, ↓aw_skip, ↓aw_seq, ↓aw_block, ↓aw_exit, ↓aw_ret, ↓sops_nil, ↓sops_go, ↓dops_nil, ↓dopsX_nil, ↓dopsR_nil, ↓vdn, vup, extr_20, extr_21, extr_30, extr_31, extr_32, List.map_cons, List.map_nil, cond_true, cond_false, aop, aThen, aBlock, argEnv, ev, sput, sputO, binK, binI, unK, builtinK, pickK, Nat.reduceBEq, Nat.reduceAdd, Int.reduceBEq, Int.reduceBNe, Int.reduceLT, aPost, resK, tup, tyf])
          clear hN4
          try clear N4
          refine aws_cut fun N5 hN5 => ?_
          simp (maxSteps := 2000000) only [s31, ↓aw_region, ↓aw_skip, ↓aw_seq, ↓aw_block, ↓aw_exit, ↓aw_ret, ↓sops_nil, ↓sops_go, ↓dops_nil, ↓dopsX_nil, ↓dopsR_nil, ↓vdn, vup, extr_20, extr_21, extr_30, extr_31, extr_32, List.map_cons, List.map_nil, cond_true, cond_false, aop, aThen, aBlock, argEnv, ev, sput, sputO, binK, binI, unK, builtinK, pickK, Nat.reduceBEq, Nat.reduceAdd, Int.reduceBEq, Int.reduceBNe, Int.reduceLT, aPost, resK, tup, tyf]
          refine hN5 [(0, u), (1, v), (4, .pointer (some ⟨h.length, 0, none⟩)), (5, .int .i64 0), (6, .pointer (some ⟨h.length + 1, 0, none⟩)), (26, v), (27, vint b.length), (28, vint (k : Nat))] _ _ ?_ (by simp (maxSteps := 2000000) only [↓aw_region, ↓aw_skip, ↓aw_seq, ↓aw_block, ↓aw_exit, ↓aw_ret, ↓sops_nil, ↓sops_go, ↓dops_nil, ↓dopsX_nil, ↓dopsR_nil, ↓vdn, vup, extr_20, extr_21, extr_30, extr_31, extr_32, List.map_cons, List.map_nil, cond_true, cond_false, aop, aThen, aBlock, argEnv, ev, sput, sputO, binK, binI, unK, builtinK, pickK, Nat.reduceBEq, Nat.reduceAdd, Int.reduceBEq, Int.reduceBNe, Int.reduceLT, aPost, resK, tup, tyf])
          clear hN5
          try clear N5
          refine aws_cutW fun B hB => ?_
          refine aws_block ?_
          refine aws_cut fun N6 hN6 => ?_
          simp (maxSteps := 2000000) only [s31, ↓aw_region, ↓aw_skip, ↓aw_seq, ↓aw_block, ↓aw_exit, ↓aw_ret, ↓sops_nil, ↓sops_go, ↓dops_nil, ↓dopsX_nil, ↓dopsR_nil, ↓vdn, vup, extr_20, extr_21, extr_30, extr_31, extr_32, List.map_cons, List.map_nil, cond_true, cond_false, aop, aThen, aBlock, argEnv, ev, sput, sputO, binK, binI, unK, builtinK, pickK, Nat.reduceBEq, Nat.reduceAdd, Int.reduceBEq, Int.reduceBNe, Int.reduceLT, aPost, resK, tup, tyf, hvp.idx el_47 esz_26 hk', hvp.load shp_26 hk', hxy, allocK, newPtr, zero_26, storeF (get_new hp z0) rfl, set_new]
          rw [← hH]
          refine hN6 [(0, u), (1, v), (4, .pointer (some ⟨h.length, 0, none⟩)), (5, .int .i64 0), (6, .pointer (some ⟨h.length + 1, 0, none⟩)), (7, vint (k : Nat)), (8, .pointer (some ⟨hp.length, 0, none⟩)), (26, v), (27, vint b.length), (28, vint (k : Nat))] _ _ ?_ (by simp (maxSteps := 2000000) only [↓aw_region, ↓aw_skip, ↓aw_seq, ↓aw_block, ↓aw_exit, ↓aw_ret, ↓sops_nil, ↓sops_go, ↓dops_nil, ↓dopsX_nil, ↓dopsR_nil, ↓vdn, vup, extr_20, extr_21, extr_30, extr_31, extr_32, List.map_cons, List.map_nil, cond_true, cond_false, aop, aThen, aBlock, argEnv, ev, sput, sputO, binK, binI, unK, builtinK, pickK, Nat.reduceBEq, Nat.reduceAdd, Int.reduceBEq, Int.reduceBNe, Int.reduceLT, aPost, resK, tup, tyf])
          clear hN6
          try clear N6
          refine aw_aws ?_
          simp only [q31_7]
          refine aw_drawX [(4, 1), (5, 1), (6, 1)] (by kernel_rfl) (by kernel_rfl) (by kernel_rfl) (by kernel_rfl) ?_
          simp (maxSteps := 2000000) only [s31, ↓aw_region, ↓aw_skip, ↓aw_seq, ↓aw_block, ↓aw_exit, ↓aw_ret, ↓sops_nil, ↓sops_go, ↓dops_nil, ↓dopsX_nil, ↓dopsR_nil, ↓vdn, vup, extr_20, extr_21, extr_30, extr_31, extr_32, List.map_cons, List.map_nil, cond_true, cond_false, aop, aThen, aBlock, argEnv, ev, sput, sputO, binK, binI, unK, builtinK, pickK, Nat.reduceBEq, Nat.reduceAdd, Int.reduceBEq, Int.reduceBNe, Int.reduceLT, aPost, resK, tup, tyf, loadF c6, loadF c8, callK, List.nil_append, List.append_nil, List.toList_toArray, List.cons_append]
          refine ⟨_, _, sc, rfl, _, _, tc _, rfl, _, _, pl _, rfl, ?_⟩
          simp only [qV, frV, storeF c6 rfl]
          refine hB [(0, u), (1, v), (4, .pointer (some ⟨h.length, 0, none⟩)), (5, .int .i64 0), (6, .pointer (some ⟨h.length + 1, 0, none⟩)), (26, v), (27, vint b.length), (28, vint (k : Nat))] _ _ ?_ (by simp (maxSteps := 2000000) only [↓aw_region, ↓aw_skip, ↓aw_seq, ↓aw_block, ↓aw_exit, ↓aw_ret, ↓sops_nil, ↓sops_go, ↓dops_nil, ↓dopsX_nil, ↓dopsR_nil, ↓vdn, vup, extr_20, extr_21, extr_30, extr_31, extr_32, List.map_cons, List.map_nil, cond_true, cond_false, aop, aThen, aBlock, argEnv, ev, sput, sputO, binK, binI, unK, builtinK, pickK, Nat.reduceBEq, Nat.reduceAdd, Int.reduceBEq, Int.reduceBNe, Int.reduceLT, aPost, resK, tup, tyf])
          clear hB
          try clear B
          refine aw_aws ?_
          simp (maxSteps := 2000000) only [s31, ↓aw_region, ↓aw_skip, ↓aw_seq, ↓aw_block, ↓aw_exit, ↓aw_ret, ↓sops_nil, ↓sops_go, ↓dops_nil, ↓dopsX_nil, ↓dopsR_nil, ↓vdn, vup, extr_20, extr_21, extr_30, extr_31, extr_32, List.map_cons, List.map_nil, cond_true, cond_false, aop, aThen, aBlock, argEnv, ev, sput, sputO, binK, binI, unK, builtinK, pickK, Nat.reduceBEq, Nat.reduceAdd, Int.reduceBEq, Int.reduceBNe, Int.reduceLT, aPost, resK, tup, tyf, add1 (show k < 9223372036854775807 by omega)]
          exact hQ2 _ _ _ ⟨(k + 1, H.set (h.length + 1) (fC q.num q.den)), ⟨hk', hEH.set_ge (by omega) _, by rw [List.getElem?_set_ne (by omega)]; exact c4, by simp only; rw [hqq]; exact get_set (get_lt c6) _⟩, by simp only; omega, by simp (maxSteps := 2000000) only [↓aw_region, ↓aw_skip, ↓aw_seq, ↓aw_block, ↓aw_exit, ↓aw_ret, ↓sops_nil, ↓sops_go, ↓dops_nil, ↓dopsX_nil, ↓dopsR_nil, ↓vdn, vup, extr_20, extr_21, extr_30, extr_31, extr_32, List.map_cons, List.map_nil, cond_true, cond_false, aop, aThen, aBlock, argEnv, ev, sput, sputO, binK, binI, unK, builtinK, pickK, Nat.reduceBEq, Nat.reduceAdd, Int.reduceBEq, Int.reduceBNe, Int.reduceLT, aPost, resK, tup, tyf], rfl⟩
        · obtain rfl : k = b.length := by omega
          refine aws_cut fun N7 hN7 => ?_
          simp (maxSteps := 2000000) only [s31, ↓aw_region, ↓aw_skip, ↓aw_seq, ↓aw_block, ↓aw_exit, ↓aw_ret, ↓sops_nil, ↓sops_go, ↓dops_nil, ↓dopsX_nil, ↓dopsR_nil, ↓vdn, vup, extr_20, extr_21, extr_30, extr_31, extr_32, List.map_cons, List.map_nil, cond_true, cond_false, aop, aThen, aBlock, argEnv, ev, sput, sputO, binK, binI, unK, builtinK, pickK, Nat.reduceBEq, Nat.reduceAdd, Int.reduceBEq, Int.reduceBNe, Int.reduceLT, aPost, resK, tup, tyf, hin]
          refine hN7 [(0, u), (1, v), (4, .pointer (some ⟨h.length, 0, none⟩)), (5, .int .i64 0), (6, .pointer (some ⟨h.length + 1, 0, none⟩)), (26, v), (27, vint b.length), (28, vint b.length), (29, .bool false)] _ _ ?_ (by simp (maxSteps := 2000000) only [↓aw_region, ↓aw_skip, ↓aw_seq, ↓aw_block, ↓aw_exit, ↓aw_ret, ↓sops_nil, ↓sops_go, ↓dops_nil, ↓dopsX_nil, ↓dopsR_nil, ↓vdn, vup, extr_20, extr_21, extr_30, extr_31, extr_32, List.map_cons, List.map_nil, cond_true, cond_false, aop, aThen, aBlock, argEnv, ev, sput, sputO, binK, binI, unK, builtinK, pickK, Nat.reduceBEq, Nat.reduceAdd, Int.reduceBEq, Int.reduceBNe, Int.reduceLT, aPost, resK, tup, tyf])
          clear hN7
          try clear N7
          refine aws_cut fun N8 hN8 => ?_
          simp (maxSteps := 2000000) only [s31, ↓aw_region, ↓aw_skip, ↓aw_seq, ↓aw_block, ↓aw_exit, ↓aw_ret, ↓sops_nil, ↓sops_go, ↓dops_nil, ↓dopsX_nil, ↓dopsR_nil, ↓vdn, vup, extr_20, extr_21, extr_30, extr_31, extr_32, List.map_cons, List.map_nil, cond_true, cond_false, aop, aThen, aBlock, argEnv, ev, sput, sputO, binK, binI, unK, builtinK, pickK, Nat.reduceBEq, Nat.reduceAdd, Int.reduceBEq, Int.reduceBNe, Int.reduceLT, aPost, resK, tup, tyf]
          refine hQ2 _ _ _ (hQ _ _ _ ?_)
          simp (maxSteps := 2000000) only [s31, ↓aw_region, ↓aw_skip, ↓aw_seq, ↓aw_block, ↓aw_exit, ↓aw_ret, ↓sops_nil, ↓sops_go, ↓dops_nil, ↓dopsX_nil, ↓dopsR_nil, ↓vdn, vup, extr_20, extr_21, extr_30, extr_31, extr_32, List.map_cons, List.map_nil, cond_true, cond_false, aop, aThen, aBlock, argEnv, ev, sput, sputO, binK, binI, unK, builtinK, pickK, Nat.reduceBEq, Nat.reduceAdd, Int.reduceBEq, Int.reduceBNe, Int.reduceLT, aPost, resK, tup, tyf, if_true]
          refine hZ [(0, u), (1, v), (4, .pointer (some ⟨h.length, 0, none⟩)), (5, .int .i64 0), (6, .pointer (some ⟨h.length + 1, 0, none⟩)), (26, v), (27, vint b.length), (28, vint b.length), (29, .bool false)] _ _ ?_ (by simp (maxSteps := 2000000) only [↓aw_region, ↓aw_skip, ↓aw_seq, ↓aw_block, ↓aw_exit, ↓aw_ret, ↓sops_nil, ↓sops_go, ↓dops_nil, ↓dopsX_nil, ↓dopsR_nil, ↓vdn, vup, extr_20, extr_21, extr_30, extr_31, extr_32, List.map_cons, List.map_nil, cond_true, cond_false, aop, aThen, aBlock, argEnv, ev, sput, sputO, binK, binI, unK, builtinK, pickK, Nat.reduceBEq, Nat.reduceAdd, Int.reduceBEq, Int.reduceBNe, Int.reduceLT, aPost, resK, tup, tyf])
          clear hZ
          try clear Z
          rw [← meanQ] at k6
          obtain ⟨q, hqq⟩ : ∃ q, meanQ f b = q := ⟨_, rfl⟩
          rw [hqq] at k6 hR
          refine aw_aws ?_
          simp (maxSteps := 2000000) only [s31, ↓aw_region, ↓aw_skip, ↓aw_seq, ↓aw_block, ↓aw_exit, ↓aw_ret, ↓sops_nil, ↓sops_go, ↓dops_nil, ↓dopsX_nil, ↓dopsR_nil, ↓vdn, vup, extr_20, extr_21, extr_30, extr_31, extr_32, List.map_cons, List.map_nil, cond_true, cond_false, aop, aThen, aBlock, argEnv, ev, sput, sputO, binK, binI, unK, builtinK, pickK, Nat.reduceBEq, Nat.reduceAdd, Int.reduceBEq, Int.reduceBNe, Int.reduceLT, aPost, resK, tup, tyf, loadF k6, storeF k4 rfl, loadF (get_set (get_lt k4) _)]
          exact ⟨hR, hEp.set_ge (Nat.le_refl _) _⟩
      · have hne : (((f.length : Nat) : Int) != ((b.length : Nat) : Int)) = true := by
          have : ¬ ((f.length : Nat) : Int) = ((b.length : Nat) : Int) := by omega
          simpa [bne] using this
        simp (maxSteps := 2000000) only [s31, ↓aw_region, ↓aw_skip, ↓aw_seq, ↓aw_block, ↓aw_exit, ↓aw_ret, ↓sops_nil, ↓sops_go, ↓dops_nil, ↓dopsX_nil, ↓dopsR_nil, ↓vdn, vup, extr_20, extr_21, extr_30, extr_31, extr_32, List.map_cons, List.map_nil, cond_true, cond_false, aop, aThen, aBlock, argEnv, ev, sput, sputO, binK, binI, unK, builtinK, pickK, Nat.reduceBEq, Nat.reduceAdd, Int.reduceBEq, Int.reduceBNe, Int.reduceLT, aPost, resK, tup, tyf, Bool.not_true, huH.len, hvH.len, hne, bldF0, List.map_toArray, storeF c4 rfl, loadF (get_set (get_lt c4) _)]
        rw [← hR, if_neg (by simp [hl])]
        exact ⟨rfl, hE.set_ge (Nat.le_refl _) _⟩
end Go.Proofs.Try.Am

namespace Go.Proofs.Try.Am
open Go.Am Bq
set_option maxRecDepth 100000
set_option maxHeartbeats 1000000

/-- Products of parts, summed. -/
def dotTo (f b : List (Int × Int)) : Nat → Int
  | 0 => 0
  | k + 1 => dotTo f b k + (partL f).getD k 0 * (partL b).getD k 0
theorem partL_rp {f : List (Int × Int)} (c : Chn f) {k : Nat} (hk : k < f.length) : Rp (mult f) ((partL f).getD k 0) (fq f k) ∧ 0 ≤ (partL f).getD k 0 ∧ (partL f).getD k 0 ≤ mult f := by
  obtain ⟨r, h1, h2, _⟩ := c.rp (getD_mem hk)
  rw [partL_getD hk]; exact ⟨r, h1, h2⟩
theorem dotTo_rp {f b : List (Int × Int)} (cf : Chn f) (cb : Chn b) (hl : f.length = b.length) : ∀ k, k ≤ f.length → Rp (mult f * mult b) (dotTo f b k) (sumTo (fun i => fq f i * fq b i) k)
  | 0, _ => ⟨Nat.mul_pos (Nat.pos_of_ne_zero cf.m) (Nat.pos_of_ne_zero cb.m), by simp [sumTo, dotTo]⟩
  | k + 1, hk => by
    have ih := dotTo_rp cf cb hl k (by omega)
    have h1 := (partL_rp cf (show k < f.length by omega)).1
    have h2 := (partL_rp cb (show k < b.length by omega)).1
    have := ih.plus (h1.mul h2) 1
    rw [show (((1 : Int)) : Rat) = 1 from rfl, Rat.one_mul, Int.one_mul] at this
    exact this
theorem dot_le {f b : List (Int × Int)} (cf : Fc f) (cb : Fc b) (hl : f.length = b.length) (k : Nat) (hk : k ≤ f.length) : 0 ≤ sumTo (fun i => fq f i * fq b i) k ∧ sumTo (fun i => fq f i * fq b i) k ≤ 1 := by
  refine ⟨sumTo_nonneg fun i hi => Rat.mul_nonneg (cf.unit (by omega)).1 (cb.unit (by omega)).1, ?_⟩
  have h1 : sumTo (fun i => fq f i * fq b i) k ≤ sumTo (fq b) k := sumTo_le fun i hi => by
    have h1 := (cf.unit (show i < f.length by omega)).2
    have h2 := (cb.unit (show i < b.length by omega)).1
    have := Rat.mul_le_mul_of_nonneg_right h1 h2
    rwa [Rat.one_mul] at this
  have h2 := sumTo_mono (g := fq b) (show k ≤ b.length by omega) fun i hi => (cb.unit hi).1
  rw [cb.sum] at h2
  exact Rat.le_trans h1 h2
/-- The average in whole parts. -/
theorem mean_parts {f b : List (Int × Int)} (cf : Fc f) (cb : Fc b) (hl : f.length = b.length) :
    Rat.divInt (2 * (mult f : Int) * dotTo f b f.length - (mult b : Int) * dotTo f f f.length) ((mult f : Int) * mult f * mult b) = meanQ f b := by
  have hmf := Nat.pos_of_ne_zero cf.c.m
  have hmb := Nat.pos_of_ne_zero cb.c.m
  have r1 := (dotTo_rp cf.c cb.c hl f.length (Nat.le_refl _)).2
  have r2 := (dotTo_rp cf.c cf.c rfl f.length (Nat.le_refl _)).2
  have e : meanQ f b = 2 * sumTo (fun i => fq f i * fq b i) f.length - sumTo (fun i => fq f i * fq f i) f.length := by
    have e1 : ∀ k, meanTo f b k = 2 * sumTo (fun i => fq f i * fq b i) k - sumTo (fq b) k * sumTo (fun i => fq f i * fq f i) f.length := by
      intro k
      induction k with
      | zero => simp only [meanTo, sumTo]; grind
      | succ k ih =>
        have hs : scoreQ f k = 2 * fq f k - sumTo (fun i => fq f i * fq f i) f.length := rfl
        have e3 : meanTo f b (k + 1) = meanTo f b k + fq b k * scoreQ f k := rfl
        rw [e3, ih, hs]
        simp only [sumTo]
        generalize sumTo (fun i => fq f i * fq f i) f.length = S
        generalize sumTo (fun i => fq f i * fq b i) k = D
        grind
    rw [meanQ, e1, cb.sum, hl]; grind
  refine divInt_of_mul ?_ ?_
  · exact Int.mul_ne_zero (Int.mul_ne_zero (by omega) (by omega)) (by omega)
  · rw [e]
    push_cast at r1 r2 ⊢
    rw [← r1, ← r2]
    generalize sumTo (fun i => fq f i * fq b i) f.length = A
    generalize sumTo (fun i => fq f i * fq f i) f.length = B
    grind

theorem s42_callW [Tabs Try.prog] {args : List Value} {h : Heap} {Q : Value → Heap → Prop} (hsz : args.length ≤ 62) (hk : AWS Try.prog 62 s42 (aPost Try.prog [.cell 4 26] Q) (argEnv 0 args) h) : ACall Try.prog 42 args h Q :=
  acall_w Try.func42 rfl (enters_of Try.func42 (by kernel_rfl) rfl) rfl rfl (by decide) s42_strip s42_ok hsz hk
theorem rmean_call [Tabs prog] {h : Heap} {u v : Value} {f b : List (Int × Int)} (hu : PairSl h u f) (hv : PairSl h v b) (cf : Fc f) (cb : Fc b) (hl : f.length = b.length) (hxf : InR f) (hxb : InR b) : APure prog 42 [u, v] h (qV (meanQ f b)) := by
  have hlen := cf.len
  have hmf := Nat.pos_of_ne_zero cf.c.m
  have hmb := Nat.pos_of_ne_zero cb.c.m
  have sf := cf.small
  have sb := cb.small
  have hff := nat_small sf
  have hbig := big_small sf sb
  have hfb : mult f * mult b ≤ 777573225 := by have := Nat.mul_le_mul sf sb; omega
  have bnd1 : ∀ k, k ≤ f.length → (dotTo f b k).natAbs ≤ mult f * mult b := fun k hk => by
    have r := dotTo_rp cf.c cb.c hl k hk
    obtain ⟨h1, h2⟩ := dot_le cf cb hl k hk
    have := r.bound (C := 1) (Rat.le_trans (by decide) h1) h2
    omega
  have bnd2 : ∀ k, k ≤ f.length → (dotTo f f k).natAbs ≤ mult f * mult f := fun k hk => by
    have r := dotTo_rp cf.c cf.c rfl k hk
    obtain ⟨h1, h2⟩ := dot_le cf cf rfl k hk
    have := r.bound (C := 1) (Rat.le_trans (by decide) h1) h2
    omega
  have hpf : (partL f).length = f.length := by simp [partL]
  have hpb : (partL b).length = b.length := by simp [partL]
  have hmp := mean_parts cf cb hl
  refine ACall.forget (low_frV _ _) ?_
  obtain ⟨q, hqq⟩ : ∃ q, meanQ f b = q := ⟨_, rfl⟩
  rw [hqq] at hmp ⊢
  obtain ⟨H, hH⟩ : ∃ H, H = h ++ [z0] := ⟨_, rfl⟩
  have hE : Ext (fun _ => False) h H := by rw [hH]; exact Ext.app _ _ _
  have c4 : H[h.length]? = some z0 := by rw [hH]; exact get_new _ _
  have m1 := mult_call (hu.ext hE) (by omega) hxf
  have m2 := mult_call (hv.ext hE) (by omega) hxb
  refine s42_callW (by simp) ?_
  simp only [s42]
  refine aws_cut fun N1 hN1 => ?_
  simp (maxSteps := 2000000) only [s42, ↓aw_region, ↓aw_skip, ↓aw_seq, ↓aw_block, ↓aw_exit, ↓aw_ret, ↓sops_nil, ↓sops_go, ↓dops_nil, ↓dopsX_nil, ↓dopsR_nil, ↓vdn, vup, extr_20, extr_21, extr_30, extr_31, extr_32, List.map_cons, List.map_nil, cond_true, cond_false, aop, aThen, aBlock, argEnv, ev, sput, sputO, binK, binI, unK, builtinK, pickK, Nat.reduceBEq, Nat.reduceAdd, Int.reduceBEq, Int.reduceBNe, Int.reduceLT, aPost, resK, tup, tyf, allocK, newPtr, zero_26]
  rw [← hH]
  refine hN1 [(0, u), (1, v), (4, .pointer (some ⟨h.length, 0, none⟩))] _ _ ?_ (by simp (maxSteps := 2000000) only [↓aw_region, ↓aw_skip, ↓aw_seq, ↓aw_block, ↓aw_exit, ↓aw_ret, ↓sops_nil, ↓sops_go, ↓dops_nil, ↓dopsX_nil, ↓dopsR_nil, ↓vdn, vup, extr_20, extr_21, extr_30, extr_31, extr_32, List.map_cons, List.map_nil, cond_true, cond_false, aop, aThen, aBlock, argEnv, ev, sput, sputO, binK, binI, unK, builtinK, pickK, Nat.reduceBEq, Nat.reduceAdd, Int.reduceBEq, Int.reduceBNe, Int.reduceLT, aPost, resK, tup, tyf])
  clear hN1
  try clear N1
  refine aws_cut fun N2 hN2 => ?_
  simp (maxSteps := 2000000) only [s42, ↓aw_region, ↓aw_skip, ↓aw_seq, ↓aw_block, ↓aw_exit, ↓aw_ret, ↓sops_nil, ↓sops_go, ↓dops_nil, ↓dopsX_nil, ↓dopsR_nil, ↓vdn, vup, extr_20, extr_21, extr_30, extr_31, extr_32, List.map_cons, List.map_nil, cond_true, cond_false, aop, aThen, aBlock, argEnv, ev, sput, sputO, binK, binI, unK, builtinK, pickK, Nat.reduceBEq, Nat.reduceAdd, Int.reduceBEq, Int.reduceBNe, Int.reduceLT, aPost, resK, tup, tyf, callK, List.nil_append, List.append_nil, List.toList_toArray, List.cons_append]
  refine (m1).mono ?_
  rintro _ H ⟨rfl, rfl⟩
  refine m2.mono ?_
  rintro _ H ⟨rfl, rfl⟩
  refine hN2 [(0, u), (1, v), (4, .pointer (some ⟨h.length, 0, none⟩)), (5, vint (mult f : Nat)), (6, vint (mult b : Nat))] _ _ ?_ (by simp (maxSteps := 2000000) only [↓aw_region, ↓aw_skip, ↓aw_seq, ↓aw_block, ↓aw_exit, ↓aw_ret, ↓sops_nil, ↓sops_go, ↓dops_nil, ↓dopsX_nil, ↓dopsR_nil, ↓vdn, vup, extr_20, extr_21, extr_30, extr_31, extr_32, List.map_cons, List.map_nil, cond_true, cond_false, aop, aThen, aBlock, argEnv, ev, sput, sputO, binK, binI, unK, builtinK, pickK, Nat.reduceBEq, Nat.reduceAdd, Int.reduceBEq, Int.reduceBNe, Int.reduceLT, aPost, resK, tup, tyf])
  clear hN2
  try clear N2
  refine aws_cut fun N3 hN3 => ?_
  simp (maxSteps := 2000000) only [s42, ↓aw_region, ↓aw_skip, ↓aw_seq, ↓aw_block, ↓aw_exit, ↓aw_ret, ↓sops_nil, ↓sops_go, ↓dops_nil, ↓dopsX_nil, ↓dopsR_nil, ↓vdn, vup, extr_20, extr_21, extr_30, extr_31, extr_32, List.map_cons, List.map_nil, cond_true, cond_false, aop, aThen, aBlock, argEnv, ev, sput, sputO, binK, binI, unK, builtinK, pickK, Nat.reduceBEq, Nat.reduceAdd, Int.reduceBEq, Int.reduceBNe, Int.reduceLT, aPost, resK, tup, tyf, callK, List.nil_append, List.append_nil, List.toList_toArray, List.cons_append]
  refine (parts_call (hu.ext hE) (by omega) hxf cf.c).mono ?_
  rintro x H1 ⟨ox, hE1⟩
  refine (parts_call (hv.ext (hE.trans hE1)) (by omega) hxb cb.c).mono ?_
  rintro y H2 ⟨oy, hE2⟩
  have ox2 := ox.ext (S := fun _ => False) hE2 (fun _ _ => id)
  have d4 : H2[h.length]? = some z0 := by
    have := get_lt c4
    rw [hE2.2 _ (by have := hE1.1; omega) id, hE1.2 _ this id]; exact c4
  have hEd := hE.trans (hE1.trans hE2)
  refine hN3 [(0, u), (1, v), (4, .pointer (some ⟨h.length, 0, none⟩)), (5, vint (mult f : Nat)), (6, vint (mult b : Nat)), (7, x), (8, y)] _ _ ?_ (by simp (maxSteps := 2000000) only [↓aw_region, ↓aw_skip, ↓aw_seq, ↓aw_block, ↓aw_exit, ↓aw_ret, ↓sops_nil, ↓sops_go, ↓dops_nil, ↓dopsX_nil, ↓dopsR_nil, ↓vdn, vup, extr_20, extr_21, extr_30, extr_31, extr_32, List.map_cons, List.map_nil, cond_true, cond_false, aop, aThen, aBlock, argEnv, ev, sput, sputO, binK, binI, unK, builtinK, pickK, Nat.reduceBEq, Nat.reduceAdd, Int.reduceBEq, Int.reduceBNe, Int.reduceLT, aPost, resK, tup, tyf])
  clear hN3
  try clear N3
  refine aws_cut fun N4 hN4 => ?_
  simp (maxSteps := 2000000) only [s42, ↓aw_region, ↓aw_skip, ↓aw_seq, ↓aw_block, ↓aw_exit, ↓aw_ret, ↓sops_nil, ↓sops_go, ↓dops_nil, ↓dopsX_nil, ↓dopsR_nil, ↓vdn, vup, extr_20, extr_21, extr_30, extr_31, extr_32, List.map_cons, List.map_nil, cond_true, cond_false, aop, aThen, aBlock, argEnv, ev, sput, sputO, binK, binI, unK, builtinK, pickK, Nat.reduceBEq, Nat.reduceAdd, Int.reduceBEq, Int.reduceBNe, Int.reduceLT, aPost, resK, tup, tyf]
  refine hN4 [(0, u), (1, v), (4, .pointer (some ⟨h.length, 0, none⟩)), (5, vint (mult f : Nat)), (6, vint (mult b : Nat)), (7, x), (8, y), (9, .int .i64 0), (10, .int .i64 0)] _ _ ?_ (by simp (maxSteps := 2000000) only [↓aw_region, ↓aw_skip, ↓aw_seq, ↓aw_block, ↓aw_exit, ↓aw_ret, ↓sops_nil, ↓sops_go, ↓dops_nil, ↓dopsX_nil, ↓dopsR_nil, ↓vdn, vup, extr_20, extr_21, extr_30, extr_31, extr_32, List.map_cons, List.map_nil, cond_true, cond_false, aop, aThen, aBlock, argEnv, ev, sput, sputO, binK, binI, unK, builtinK, pickK, Nat.reduceBEq, Nat.reduceAdd, Int.reduceBEq, Int.reduceBNe, Int.reduceLT, aPost, resK, tup, tyf])
  clear hN4
  try clear N4
  refine aws_cutW fun Z hZ => ?_
  refine aws_cut fun N5 hN5 => ?_
  simp (maxSteps := 2000000) only [s42, ↓aw_region, ↓aw_skip, ↓aw_seq, ↓aw_block, ↓aw_exit, ↓aw_ret, ↓sops_nil, ↓sops_go, ↓dops_nil, ↓dopsX_nil, ↓dopsR_nil, ↓vdn, vup, extr_20, extr_21, extr_30, extr_31, extr_32, List.map_cons, List.map_nil, cond_true, cond_false, aop, aThen, aBlock, argEnv, ev, sput, sputO, binK, binI, unK, builtinK, pickK, Nat.reduceBEq, Nat.reduceAdd, Int.reduceBEq, Int.reduceBNe, Int.reduceLT, aPost, resK, tup, tyf, ox2.int.len, hpf]
  refine hN5 [(0, u), (1, v), (4, .pointer (some ⟨h.length, 0, none⟩)), (5, vint (mult f : Nat)), (6, vint (mult b : Nat)), (7, x), (8, y), (9, .int .i64 0), (10, .int .i64 0), (20, x), (21, vint f.length), (22, .int .i64 0)] _ _ ?_ (by simp (maxSteps := 2000000) only [↓aw_region, ↓aw_skip, ↓aw_seq, ↓aw_block, ↓aw_exit, ↓aw_ret, ↓sops_nil, ↓sops_go, ↓dops_nil, ↓dopsX_nil, ↓dopsR_nil, ↓vdn, vup, extr_20, extr_21, extr_30, extr_31, extr_32, List.map_cons, List.map_nil, cond_true, cond_false, aop, aThen, aBlock, argEnv, ev, sput, sputO, binK, binI, unK, builtinK, pickK, Nat.reduceBEq, Nat.reduceAdd, Int.reduceBEq, Int.reduceBNe, Int.reduceLT, aPost, resK, tup, tyf])
  clear hN5
  try clear N5
  refine aws_block ?_
  refine aws_hide fun Q hQ => ?_
  refine aw_loopW (γ := Nat) (fun k => k ≤ f.length)
    (fun k => ([(0, u), (1, v), (4, .pointer (some ⟨h.length, 0, none⟩)), (5, vint (mult f : Nat)), (6, vint (mult b : Nat)), (7, x), (8, y), (9, vint (dotTo f b k)), (10, vint (dotTo f f k)), (20, x), (21, vint f.length), (22, vint (k : Nat))], H2)) (fun k => f.length - k) 0 (Nat.zero_le _) (by simp (maxSteps := 2000000) only [↓aw_region, ↓aw_skip, ↓aw_seq, ↓aw_block, ↓aw_exit, ↓aw_ret, ↓sops_nil, ↓sops_go, ↓dops_nil, ↓dopsX_nil, ↓dopsR_nil, ↓vdn, vup, extr_20, extr_21, extr_30, extr_31, extr_32, List.map_cons, List.map_nil, cond_true, cond_false, aop, aThen, aBlock, argEnv, ev, sput, sputO, binK, binI, unK, builtinK, pickK, Nat.reduceBEq, Nat.reduceAdd, Int.reduceBEq, Int.reduceBNe, Int.reduceLT, aPost, resK, tup, tyf, Int.natCast_zero, dotTo]) rfl ?_
  rintro k hk
  refine aws_hide fun Q2 hQ2 => ?_
  simp only [l42_0]
  by_cases hin : (k : Int) < f.length
  · have hk' : k < f.length := by omega
    have hkx : k < (partL f).length := by omega
    have hky : k < (partL b).length := by omega
    obtain ⟨-, x1, x2⟩ := partL_rp cf.c hk'
    obtain ⟨-, y1, y2⟩ := partL_rp cb.c (show k < b.length by omega)
    have b1 := bnd1 k hk
    have b2 := bnd2 k hk
    have b3 := bnd1 (k + 1) hk'
    have b4 := bnd2 (k + 1) hk'
    have n1 : dotTo f b (k + 1) = dotTo f b k + (partL f).getD k 0 * (partL b).getD k 0 := rfl
    have n2 : dotTo f f (k + 1) = dotTo f f k + (partL f).getD k 0 * (partL f).getD k 0 := rfl
    obtain ⟨X, hX⟩ : ∃ X, (partL f).getD k 0 = X := ⟨_, rfl⟩
    obtain ⟨Y, hY⟩ : ∃ Y, (partL b).getD k 0 = Y := ⟨_, rfl⟩
    rw [hX] at x1 x2 n1 n2
    rw [hY] at y1 y2 n1
    have p1 : mulV .i64 X Y = X * Y := mulN (by omega)
    have p2 : mulV .i64 X X = X * X := mulN (by omega)
    have a1 : addV .i64 (dotTo f b k) (X * Y) = dotTo f b (k + 1) := by rw [n1]; exact addN (by omega)
    have a2 : addV .i64 (dotTo f f k) (X * X) = dotTo f f (k + 1) := by rw [n2]; exact addN (by omega)
    refine aws_cut fun N6 hN6 => ?_
    simp (maxSteps := 2000000) only [s42, ↓aw_region, ↓aw_skip, ↓aw_seq, ↓aw_block, ↓aw_exit, ↓aw_ret, ↓sops_nil, ↓sops_go, ↓dops_nil, ↓dopsX_nil, ↓dopsR_nil, ↓vdn, vup, extr_20, extr_21, extr_30, extr_31, extr_32, List.map_cons, List.map_nil, cond_true, cond_false, aop, aThen, aBlock, argEnv, ev, sput, sputO, binK, binI, unK, builtinK, pickK, Nat.reduceBEq, Nat.reduceAdd, Int.reduceBEq, Int.reduceBNe, Int.reduceLT, aPost, resK, tup, tyf, hin]
    refine hN6 [(0, u), (1, v), (4, .pointer (some ⟨h.length, 0, none⟩)), (5, vint (mult f : Nat)), (6, vint (mult b : Nat)), (7, x), (8, y), (9, vint (dotTo f b k)), (10, vint (dotTo f f k)), (20, x), (21, vint f.length), (22, vint (k : Nat)), (23, .bool true)] _ _ ?_ (by simp (maxSteps := 2000000) only [↓aw_region, ↓aw_skip, ↓aw_seq, ↓aw_block, ↓aw_exit, ↓aw_ret, ↓sops_nil, ↓sops_go, ↓dops_nil, ↓dopsX_nil, ↓dopsR_nil, ↓vdn, vup, extr_20, extr_21, extr_30, extr_31, extr_32, List.map_cons, List.map_nil, cond_true, cond_false, aop, aThen, aBlock, argEnv, ev, sput, sputO, binK, binI, unK, builtinK, pickK, Nat.reduceBEq, Nat.reduceAdd, Int.reduceBEq, Int.reduceBNe, Int.reduceLT, aPost, resK, tup, tyf])
    clear hN6
    try clear N6
    refine aws_cut fun N7 hN7 => ?_
    simp (maxSteps := 2000000) only [s42, ↓aw_region, ↓aw_skip, ↓aw_seq, ↓aw_block, ↓aw_exit, ↓aw_ret, ↓sops_nil, ↓sops_go, ↓dops_nil, ↓dopsX_nil, ↓dopsR_nil, ↓vdn, vup, extr_20, extr_21, extr_30, extr_31, extr_32, List.map_cons, List.map_nil, cond_true, cond_false, aop, aThen, aBlock, argEnv, ev, sput, sputO, binK, binI, unK, builtinK, pickK, Nat.reduceBEq, Nat.reduceAdd, Int.reduceBEq, Int.reduceBNe, Int.reduceLT, aPost, resK, tup, tyf]
    refine hN7 [(0, u), (1, v), (4, .pointer (some ⟨h.length, 0, none⟩)), (5, vint (mult f : Nat)), (6, vint (mult b : Nat)), (7, x), (8, y), (9, vint (dotTo f b k)), (10, vint (dotTo f f k)), (20, x), (21, vint f.length), (22, vint (k : Nat))] _ _ ?_ (by simp (maxSteps := 2000000) only [↓aw_region, ↓aw_skip, ↓aw_seq, ↓aw_block, ↓aw_exit, ↓aw_ret, ↓sops_nil, ↓sops_go, ↓dops_nil, ↓dopsX_nil, ↓dopsR_nil, ↓vdn, vup, extr_20, extr_21, extr_30, extr_31, extr_32, List.map_cons, List.map_nil, cond_true, cond_false, aop, aThen, aBlock, argEnv, ev, sput, sputO, binK, binI, unK, builtinK, pickK, Nat.reduceBEq, Nat.reduceAdd, Int.reduceBEq, Int.reduceBNe, Int.reduceLT, aPost, resK, tup, tyf])
    clear hN7
    try clear N7
    refine aws_cutW fun B hB => ?_
    refine aws_block ?_
    refine aws_cut fun N8 hN8 => ?_
    simp (maxSteps := 2000000) only [s42, ↓aw_region, ↓aw_skip, ↓aw_seq, ↓aw_block, ↓aw_exit, ↓aw_ret, ↓sops_nil, ↓sops_go, ↓dops_nil, ↓dopsX_nil, ↓dopsR_nil, ↓vdn, vup, extr_20, extr_21, extr_30, extr_31, extr_32, List.map_cons, List.map_nil, cond_true, cond_false, aop, aThen, aBlock, argEnv, ev, sput, sputO, binK, binI, unK, builtinK, pickK, Nat.reduceBEq, Nat.reduceAdd, Int.reduceBEq, Int.reduceBNe, Int.reduceLT, aPost, resK, tup, tyf]
    refine hN8 [(0, u), (1, v), (4, .pointer (some ⟨h.length, 0, none⟩)), (5, vint (mult f : Nat)), (6, vint (mult b : Nat)), (7, x), (8, y), (9, vint (dotTo f b k)), (10, vint (dotTo f f k)), (11, vint (k : Nat)), (20, x), (21, vint f.length), (22, vint (k : Nat))] _ _ ?_ (by simp (maxSteps := 2000000) only [↓aw_region, ↓aw_skip, ↓aw_seq, ↓aw_block, ↓aw_exit, ↓aw_ret, ↓sops_nil, ↓sops_go, ↓dops_nil, ↓dopsX_nil, ↓dopsR_nil, ↓vdn, vup, extr_20, extr_21, extr_30, extr_31, extr_32, List.map_cons, List.map_nil, cond_true, cond_false, aop, aThen, aBlock, argEnv, ev, sput, sputO, binK, binI, unK, builtinK, pickK, Nat.reduceBEq, Nat.reduceAdd, Int.reduceBEq, Int.reduceBNe, Int.reduceLT, aPost, resK, tup, tyf])
    clear hN8
    try clear N8
    refine aws_cut fun N9 hN9 => ?_
    simp only [q42_7]
    refine aw_drawX [] (by kernel_rfl) (by kernel_rfl) (by kernel_rfl) (by kernel_rfl) ?_
    simp (maxSteps := 2000000) only [s42, ↓aw_region, ↓aw_skip, ↓aw_seq, ↓aw_block, ↓aw_exit, ↓aw_ret, ↓sops_nil, ↓sops_go, ↓dops_nil, ↓dopsX_nil, ↓dopsR_nil, ↓vdn, vup, extr_20, extr_21, extr_30, extr_31, extr_32, List.map_cons, List.map_nil, cond_true, cond_false, aop, aThen, aBlock, argEnv, ev, sput, sputO, binK, binI, unK, builtinK, pickK, Nat.reduceBEq, Nat.reduceAdd, Int.reduceBEq, Int.reduceBNe, Int.reduceLT, aPost, resK, tup, tyf, ox2.int.idx el_38 esz_3 hkx, ox2.int.load shp_3 hkx, oy.int.idx el_38 esz_3 hky, oy.int.load shp_3 hky, hX, hY, p1, a1]
    refine hN9 [(0, u), (1, v), (4, .pointer (some ⟨h.length, 0, none⟩)), (5, vint (mult f : Nat)), (6, vint (mult b : Nat)), (7, x), (8, y), (9, vint (dotTo f b (k + 1))), (10, vint (dotTo f f k)), (11, vint (k : Nat)), (20, x), (21, vint f.length), (22, vint (k : Nat))] _ _ ?_ (by simp (maxSteps := 2000000) only [↓aw_region, ↓aw_skip, ↓aw_seq, ↓aw_block, ↓aw_exit, ↓aw_ret, ↓sops_nil, ↓sops_go, ↓dops_nil, ↓dopsX_nil, ↓dopsR_nil, ↓vdn, vup, extr_20, extr_21, extr_30, extr_31, extr_32, List.map_cons, List.map_nil, cond_true, cond_false, aop, aThen, aBlock, argEnv, ev, sput, sputO, binK, binI, unK, builtinK, pickK, Nat.reduceBEq, Nat.reduceAdd, Int.reduceBEq, Int.reduceBNe, Int.reduceLT, aPost, resK, tup, tyf])
    clear hN9
    try clear N9
    refine aw_aws ?_
    simp only [q42_8]
    refine aw_drawX [] (by kernel_rfl) (by kernel_rfl) (by kernel_rfl) (by kernel_rfl) ?_
    simp (maxSteps := 2000000) only [s42, ↓aw_region, ↓aw_skip, ↓aw_seq, ↓aw_block, ↓aw_exit, ↓aw_ret, ↓sops_nil, ↓sops_go, ↓dops_nil, ↓dopsX_nil, ↓dopsR_nil, ↓vdn, vup, extr_20, extr_21, extr_30, extr_31, extr_32, List.map_cons, List.map_nil, cond_true, cond_false, aop, aThen, aBlock, argEnv, ev, sput, sputO, binK, binI, unK, builtinK, pickK, Nat.reduceBEq, Nat.reduceAdd, Int.reduceBEq, Int.reduceBNe, Int.reduceLT, aPost, resK, tup, tyf, ox2.int.idx el_38 esz_3 hkx, ox2.int.load shp_3 hkx, hX, p2, a2]
    refine hB [(0, u), (1, v), (4, .pointer (some ⟨h.length, 0, none⟩)), (5, vint (mult f : Nat)), (6, vint (mult b : Nat)), (7, x), (8, y), (9, vint (dotTo f b (k + 1))), (10, vint (dotTo f f (k + 1))), (11, vint (k : Nat)), (20, x), (21, vint f.length), (22, vint (k : Nat))] _ _ ?_ (by simp (maxSteps := 2000000) only [↓aw_region, ↓aw_skip, ↓aw_seq, ↓aw_block, ↓aw_exit, ↓aw_ret, ↓sops_nil, ↓sops_go, ↓dops_nil, ↓dopsX_nil, ↓dopsR_nil, ↓vdn, vup, extr_20, extr_21, extr_30, extr_31, extr_32, List.map_cons, List.map_nil, cond_true, cond_false, aop, aThen, aBlock, argEnv, ev, sput, sputO, binK, binI, unK, builtinK, pickK, Nat.reduceBEq, Nat.reduceAdd, Int.reduceBEq, Int.reduceBNe, Int.reduceLT, aPost, resK, tup, tyf])
    clear hB
    try clear B
    refine aw_aws ?_
    simp (maxSteps := 2000000) only [s42, ↓aw_region, ↓aw_skip, ↓aw_seq, ↓aw_block, ↓aw_exit, ↓aw_ret, ↓sops_nil, ↓sops_go, ↓dops_nil, ↓dopsX_nil, ↓dopsR_nil, ↓vdn, vup, extr_20, extr_21, extr_30, extr_31, extr_32, List.map_cons, List.map_nil, cond_true, cond_false, aop, aThen, aBlock, argEnv, ev, sput, sputO, binK, binI, unK, builtinK, pickK, Nat.reduceBEq, Nat.reduceAdd, Int.reduceBEq, Int.reduceBNe, Int.reduceLT, aPost, resK, tup, tyf, add1 (show k < 9223372036854775807 by omega)]
    exact hQ2 _ _ _ ⟨k + 1, hk', by omega, by simp (maxSteps := 2000000) only [↓aw_region, ↓aw_skip, ↓aw_seq, ↓aw_block, ↓aw_exit, ↓aw_ret, ↓sops_nil, ↓sops_go, ↓dops_nil, ↓dopsX_nil, ↓dopsR_nil, ↓vdn, vup, extr_20, extr_21, extr_30, extr_31, extr_32, List.map_cons, List.map_nil, cond_true, cond_false, aop, aThen, aBlock, argEnv, ev, sput, sputO, binK, binI, unK, builtinK, pickK, Nat.reduceBEq, Nat.reduceAdd, Int.reduceBEq, Int.reduceBNe, Int.reduceLT, aPost, resK, tup, tyf], rfl⟩
  · obtain rfl : k = f.length := by omega
    refine aws_cut fun N10 hN10 => ?_
    simp (maxSteps := 2000000) only [s42, ↓aw_region, ↓aw_skip, ↓aw_seq, ↓aw_block, ↓aw_exit, ↓aw_ret, ↓sops_nil, ↓sops_go, ↓dops_nil, ↓dopsX_nil, ↓dopsR_nil, ↓vdn, vup, extr_20, extr_21, extr_30, extr_31, extr_32, List.map_cons, List.map_nil, cond_true, cond_false, aop, aThen, aBlock, argEnv, ev, sput, sputO, binK, binI, unK, builtinK, pickK, Nat.reduceBEq, Nat.reduceAdd, Int.reduceBEq, Int.reduceBNe, Int.reduceLT, aPost, resK, tup, tyf, hin]
    refine hN10 [(0, u), (1, v), (4, .pointer (some ⟨h.length, 0, none⟩)), (5, vint (mult f : Nat)), (6, vint (mult b : Nat)), (7, x), (8, y), (9, vint (dotTo f b f.length)), (10, vint (dotTo f f f.length)), (20, x), (21, vint f.length), (22, vint f.length), (23, .bool false)] _ _ ?_ (by simp (maxSteps := 2000000) only [↓aw_region, ↓aw_skip, ↓aw_seq, ↓aw_block, ↓aw_exit, ↓aw_ret, ↓sops_nil, ↓sops_go, ↓dops_nil, ↓dopsX_nil, ↓dopsR_nil, ↓vdn, vup, extr_20, extr_21, extr_30, extr_31, extr_32, List.map_cons, List.map_nil, cond_true, cond_false, aop, aThen, aBlock, argEnv, ev, sput, sputO, binK, binI, unK, builtinK, pickK, Nat.reduceBEq, Nat.reduceAdd, Int.reduceBEq, Int.reduceBNe, Int.reduceLT, aPost, resK, tup, tyf])
    clear hN10
    try clear N10
    refine aws_cut fun N11 hN11 => ?_
    simp (maxSteps := 2000000) only [s42, ↓aw_region, ↓aw_skip, ↓aw_seq, ↓aw_block, ↓aw_exit, ↓aw_ret, ↓sops_nil, ↓sops_go, ↓dops_nil, ↓dopsX_nil, ↓dopsR_nil, ↓vdn, vup, extr_20, extr_21, extr_30, extr_31, extr_32, List.map_cons, List.map_nil, cond_true, cond_false, aop, aThen, aBlock, argEnv, ev, sput, sputO, binK, binI, unK, builtinK, pickK, Nat.reduceBEq, Nat.reduceAdd, Int.reduceBEq, Int.reduceBNe, Int.reduceLT, aPost, resK, tup, tyf]
    refine hQ2 _ _ _ (hQ _ _ _ ?_)
    simp (maxSteps := 2000000) only [s42, ↓aw_region, ↓aw_skip, ↓aw_seq, ↓aw_block, ↓aw_exit, ↓aw_ret, ↓sops_nil, ↓sops_go, ↓dops_nil, ↓dopsX_nil, ↓dopsR_nil, ↓vdn, vup, extr_20, extr_21, extr_30, extr_31, extr_32, List.map_cons, List.map_nil, cond_true, cond_false, aop, aThen, aBlock, argEnv, ev, sput, sputO, binK, binI, unK, builtinK, pickK, Nat.reduceBEq, Nat.reduceAdd, Int.reduceBEq, Int.reduceBNe, Int.reduceLT, aPost, resK, tup, tyf, if_true]
    refine hZ [(0, u), (1, v), (4, .pointer (some ⟨h.length, 0, none⟩)), (5, vint (mult f : Nat)), (6, vint (mult b : Nat)), (7, x), (8, y), (9, vint (dotTo f b f.length)), (10, vint (dotTo f f f.length)), (23, .bool false)] _ _ ?_ (by simp (maxSteps := 2000000) only [↓aw_region, ↓aw_skip, ↓aw_seq, ↓aw_block, ↓aw_exit, ↓aw_ret, ↓sops_nil, ↓sops_go, ↓dops_nil, ↓dopsX_nil, ↓dopsR_nil, ↓vdn, vup, extr_20, extr_21, extr_30, extr_31, extr_32, List.map_cons, List.map_nil, cond_true, cond_false, aop, aThen, aBlock, argEnv, ev, sput, sputO, binK, binI, unK, builtinK, pickK, Nat.reduceBEq, Nat.reduceAdd, Int.reduceBEq, Int.reduceBNe, Int.reduceLT, aPost, resK, tup, tyf])
    clear hZ
    try clear Z
    have b1 := bnd1 f.length (Nat.le_refl _)
    have b2 := bnd2 f.length (Nat.le_refl _)
    generalize dotTo f b f.length = A at *
    generalize dotTo f f f.length = B at *
    have hA : (2 * (mult f : Int) * A).natAbs ≤ 2 * (mult b * (mult f * mult f)) := by
      rw [Int.natAbs_mul, Int.natAbs_mul, Int.natAbs_natCast]
      have := Nat.mul_le_mul_left (2 * mult f) b1
      have e : 2 * mult f * (mult f * mult b) = 2 * (mult b * (mult f * mult f)) := by grind
      rw [e] at this
      exact this
    have hB : ((mult b : Int) * B).natAbs ≤ mult b * (mult f * mult f) := by
      rw [Int.natAbs_mul, Int.natAbs_natCast]
      exact Nat.mul_le_mul_left _ b2
    have e5 : (mult f : Int) * mult f * mult b = ((mult b * (mult f * mult f) : Nat) : Int) := by push_cast; grind
    have w1 : mulV .i64 2 (mult f : Int) = 2 * mult f := mulN (by omega)
    have w2 : mulV .i64 (2 * (mult f : Int)) A = 2 * mult f * A := mulN (by omega)
    have w3 : mulV .i64 (mult b : Int) B = mult b * B := mulN (by omega)
    have w4 : subV .i64 (2 * (mult f : Int) * A) (mult b * B) = 2 * mult f * A - mult b * B := subN (by omega)
    have w5 : mulV .i64 (mult f : Int) (mult f : Int) = mult f * mult f := mulN (by rw [← Int.natCast_mul]; omega)
    have w6 : mulV .i64 ((mult f : Int) * mult f) (mult b : Int) = mult f * mult f * mult b := mulN (by rw [e5]; omega)
    have fr := rfrac_call (h := H2) (a := 2 * (mult f : Int) * A - mult b * B) (b := (mult f : Int) * mult f * mult b) (by rw [e5]; have := Nat.mul_pos hmb (Nat.mul_pos hmf hmf); omega) (by omega) (by rw [e5]; omega)
    rw [hmp] at fr
    refine aw_aws ?_
    simp (maxSteps := 2000000) only [s42, ↓aw_region, ↓aw_skip, ↓aw_seq, ↓aw_block, ↓aw_exit, ↓aw_ret, ↓sops_nil, ↓sops_go, ↓dops_nil, ↓dopsX_nil, ↓dopsR_nil, ↓vdn, vup, extr_20, extr_21, extr_30, extr_31, extr_32, List.map_cons, List.map_nil, cond_true, cond_false, aop, aThen, aBlock, argEnv, ev, sput, sputO, binK, binI, unK, builtinK, pickK, Nat.reduceBEq, Nat.reduceAdd, Int.reduceBEq, Int.reduceBNe, Int.reduceLT, aPost, resK, tup, tyf, callK, List.nil_append, List.append_nil, List.toList_toArray, List.cons_append, w1, w2, w3, w4, w5, w6]
    refine (fr).mono ?_
    rintro _ H2 ⟨rfl, rfl⟩
    simp (maxSteps := 2000000) only [s42, ↓aw_region, ↓aw_skip, ↓aw_seq, ↓aw_block, ↓aw_exit, ↓aw_ret, ↓sops_nil, ↓sops_go, ↓dops_nil, ↓dopsX_nil, ↓dopsR_nil, ↓vdn, vup, extr_20, extr_21, extr_30, extr_31, extr_32, List.map_cons, List.map_nil, cond_true, cond_false, aop, aThen, aBlock, argEnv, ev, sput, sputO, binK, binI, unK, builtinK, pickK, Nat.reduceBEq, Nat.reduceAdd, Int.reduceBEq, Int.reduceBNe, Int.reduceLT, aPost, resK, tup, tyf, qV, frV, storeF d4 rfl, loadF (get_set (get_lt d4) _)]
    exact hEd.set_ge (Nat.le_refl _) _

/-- The sure forecast. -/
def sureL (n w : Nat) : List (Int × Int) := (List.replicate n ((0 : Int), (1 : Int))).set w (1, 1)
theorem sureL_len (n w : Nat) : (sureL n w).length = n := by simp [sureL]
theorem sure_fc {n w : Nat} (h1 : 2 ≤ n) (h2 : n ≤ 5) (hw : w < n) : fcB (sureL n w) = true := by
  have key : ∀ n, n < 6 → 2 ≤ n → ∀ w, w < n → fcB (sureL n w) = true := by decide +kernel
  exact key n (by omega) h1 w hw
theorem sure_fq {n w i : Nat} (hi : i < n) : fq (sureL n w) i = if i = w then 1 else 0 := by
  have e : (sureL n w).getD i (0, 0) = if i = w then (1, 1) else (0, 1) := by
    rw [sureL, List.getD, List.getElem?_set]
    by_cases h : w = i
    · subst h; simp [hi]
    · rw [if_neg h, if_neg (Ne.symm h)]; simp [hi]
  rw [fq, e]
  split <;> decide
theorem sure_sum {n w : Nat} (g : Nat → Rat) : ∀ k, k ≤ n → sumTo (fun i => fq (sureL n w) i * g i) k = if w < k then g w else 0
  | 0, _ => rfl
  | k + 1, hk => by
    have ih := sure_sum g k (show k ≤ n by omega) (w := w)
    rw [sumTo, ih, sure_fq (show k < n by omega)]
    rcases Nat.lt_trichotomy w k with h | h | h
    · rw [if_pos h, if_neg (by omega), if_pos (by omega)]; grind
    · subst h; rw [if_neg (by omega), if_pos rfl, if_pos (by omega)]; grind
    · rw [if_neg (by omega), if_neg (by omega), if_neg (by omega)]; grind
theorem sure_mean {f : List (Int × Int)} {w : Nat} (hw : w < f.length) : meanQ f (sureL f.length w) = scoreQ f w := by
  rw [meanQ, meanTo, sureL_len, sure_sum _ _ (Nat.le_refl _), if_pos hw]
theorem sure_inr (n w : Nat) : InR (sureL n w) := by
  intro p hp
  rcases List.mem_or_eq_of_mem_set hp with h | h
  · rw [List.eq_of_mem_replicate h]; decide
  · subst h; decide
theorem set_replicate {k n : Nat} (hk : k < n) : (List.replicate k ((0 : Int), (1 : Int)) ++ List.replicate (n - k) (0, 0)).set k (0, 1) = List.replicate (k + 1) (0, 1) ++ List.replicate (n - (k + 1)) (0, 0) := by
  rw [List.set_append_right _ _ (by simp), List.length_replicate, Nat.sub_self, show n - k = (n - (k + 1)) + 1 by omega, List.replicate_succ, List.set_cons_zero, List.replicate_succ' (n := k), List.append_assoc]
  rfl

theorem s41_callW [Tabs Try.prog] {args : List Value} {h : Heap} {Q : Value → Heap → Prop} (hsz : args.length ≤ 27) (hk : AWS Try.prog 27 s41 (aPost Try.prog [.cell 4 26] Q) (argEnv 0 args) h) : ACall Try.prog 41 args h Q :=
  acall_w Try.func41 rfl (enters_of Try.func41 (by kernel_rfl) rfl) rfl rfl (by decide) s41_strip s41_ok hsz hk
theorem rscore_call [Tabs prog] {h : Heap} {v : Value} {f : List (Int × Int)} {w : Nat} (hv : PairSl h v f) (c : Fc f) (hw : w < f.length) (hx : InR f) : APure prog 41 [v, vint (w : Nat)] h (qV (scoreQ f w)) := by
  have hlen := c.len
  refine ACall.forget (low_frV _ _) ?_
  obtain ⟨H, hH⟩ : ∃ H, H = h ++ [z0] := ⟨_, rfl⟩
  have hE : Ext (fun _ => False) h H := by rw [hH]; exact Ext.app _ _ _
  have c4 : H[h.length]? = some z0 := by rw [hH]; exact get_new _ _
  have hlH : H.length = h.length + 1 := by rw [hH]; simp
  have q0 : qV ((0 : Int) : Rat) = .agg #[vint 0, vint 1] := rfl
  have q1 : qV ((1 : Int) : Rat) = .agg #[vint 1, vint 1] := rfl
  refine s41_callW (by simp) ?_
  simp only [s41]
  refine aws_cut fun N12 hN12 => ?_
  simp (maxSteps := 2000000) only [s41, ↓aw_region, ↓aw_skip, ↓aw_seq, ↓aw_block, ↓aw_exit, ↓aw_ret, ↓sops_nil, ↓sops_go, ↓dops_nil, ↓dopsX_nil, ↓dopsR_nil, ↓vdn, vup, extr_20, extr_21, extr_30, extr_31, extr_32, List.map_cons, List.map_nil, cond_true, cond_false, aop, aThen, aBlock, argEnv, ev, sput, sputO, binK, binI, unK, builtinK, pickK, Nat.reduceBEq, Nat.reduceAdd, Int.reduceBEq, Int.reduceBNe, Int.reduceLT, aPost, resK, tup, tyf, allocK, newPtr, zero_26]
  rw [← hH]
  refine hN12 [(0, v), (1, vint (w : Nat)), (4, .pointer (some ⟨h.length, 0, none⟩))] _ _ ?_ (by simp (maxSteps := 2000000) only [↓aw_region, ↓aw_skip, ↓aw_seq, ↓aw_block, ↓aw_exit, ↓aw_ret, ↓sops_nil, ↓sops_go, ↓dops_nil, ↓dopsX_nil, ↓dopsR_nil, ↓vdn, vup, extr_20, extr_21, extr_30, extr_31, extr_32, List.map_cons, List.map_nil, cond_true, cond_false, aop, aThen, aBlock, argEnv, ev, sput, sputO, binK, binI, unK, builtinK, pickK, Nat.reduceBEq, Nat.reduceAdd, Int.reduceBEq, Int.reduceBNe, Int.reduceLT, aPost, resK, tup, tyf])
  clear hN12
  try clear N12
  obtain ⟨n, hn⟩ : ∃ n, f.length = n := ⟨_, rfl⟩
  rw [hn] at hw hlen
  have hlv : ∀ {K : Value → Prop}, lenK v K = K (vint n) := fun {K} => by rw [← hn]; exact hv.len K
  have hmk : ∀ {K : Value → Heap → Prop}, makeK prog H 47 (vint n) (vint n) K = K (.slice (some ⟨H.length, 0, none⟩) n n) (H ++ [.cells ((flatP (List.replicate n (0, 0))).map vint) 26 false]) := fun {K} => makeP el_47 zero_26 info_26 rfl (by omega)
  refine aws_cut fun N13 hN13 => ?_
  simp (maxSteps := 2000000) only [s41, ↓aw_region, ↓aw_skip, ↓aw_seq, ↓aw_block, ↓aw_exit, ↓aw_ret, ↓sops_nil, ↓sops_go, ↓dops_nil, ↓dopsX_nil, ↓dopsR_nil, ↓vdn, vup, extr_20, extr_21, extr_30, extr_31, extr_32, List.map_cons, List.map_nil, cond_true, cond_false, aop, aThen, aBlock, argEnv, ev, sput, sputO, binK, binI, unK, builtinK, pickK, Nat.reduceBEq, Nat.reduceAdd, Int.reduceBEq, Int.reduceBNe, Int.reduceLT, aPost, resK, tup, tyf, hlv, hmk, hlH]
  refine hN13 [(0, v), (1, vint (w : Nat)), (4, .pointer (some ⟨h.length, 0, none⟩)), (5, .slice (some ⟨h.length + 1, 0, none⟩) n n)] _ _ ?_ (by simp (maxSteps := 2000000) only [↓aw_region, ↓aw_skip, ↓aw_seq, ↓aw_block, ↓aw_exit, ↓aw_ret, ↓sops_nil, ↓sops_go, ↓dops_nil, ↓dopsX_nil, ↓dopsR_nil, ↓vdn, vup, extr_20, extr_21, extr_30, extr_31, extr_32, List.map_cons, List.map_nil, cond_true, cond_false, aop, aThen, aBlock, argEnv, ev, sput, sputO, binK, binI, unK, builtinK, pickK, Nat.reduceBEq, Nat.reduceAdd, Int.reduceBEq, Int.reduceBNe, Int.reduceLT, aPost, resK, tup, tyf])
  clear hN13
  try clear N13
  refine aws_cutW fun Z hZ => ?_
  refine aws_cut fun N14 hN14 => ?_
  simp (maxSteps := 2000000) only [s41, ↓aw_region, ↓aw_skip, ↓aw_seq, ↓aw_block, ↓aw_exit, ↓aw_ret, ↓sops_nil, ↓sops_go, ↓dops_nil, ↓dopsX_nil, ↓dopsR_nil, ↓vdn, vup, extr_20, extr_21, extr_30, extr_31, extr_32, List.map_cons, List.map_nil, cond_true, cond_false, aop, aThen, aBlock, argEnv, ev, sput, sputO, binK, binI, unK, builtinK, pickK, Nat.reduceBEq, Nat.reduceAdd, Int.reduceBEq, Int.reduceBNe, Int.reduceLT, aPost, resK, tup, tyf, lenK]
  refine hN14 [(0, v), (1, vint (w : Nat)), (4, .pointer (some ⟨h.length, 0, none⟩)), (5, .slice (some ⟨h.length + 1, 0, none⟩) n n), (10, .slice (some ⟨h.length + 1, 0, none⟩) n n), (11, vint n), (12, .int .i64 0)] _ _ ?_ (by simp (maxSteps := 2000000) only [↓aw_region, ↓aw_skip, ↓aw_seq, ↓aw_block, ↓aw_exit, ↓aw_ret, ↓sops_nil, ↓sops_go, ↓dops_nil, ↓dopsX_nil, ↓dopsR_nil, ↓vdn, vup, extr_20, extr_21, extr_30, extr_31, extr_32, List.map_cons, List.map_nil, cond_true, cond_false, aop, aThen, aBlock, argEnv, ev, sput, sputO, binK, binI, unK, builtinK, pickK, Nat.reduceBEq, Nat.reduceAdd, Int.reduceBEq, Int.reduceBNe, Int.reduceLT, aPost, resK, tup, tyf])
  clear hN14
  try clear N14
  refine aws_block ?_
  refine aws_hide fun Q hQ => ?_
  refine aw_loopW (γ := Nat) (fun k => k ≤ n)
    (fun k => ([(0, v), (1, vint (w : Nat)), (4, .pointer (some ⟨h.length, 0, none⟩)), (5, .slice (some ⟨h.length + 1, 0, none⟩) n n), (10, .slice (some ⟨h.length + 1, 0, none⟩) n n), (11, vint n), (12, vint (k : Nat))], H ++ [.cells ((flatP (List.replicate k ((0 : Int), (1 : Int)) ++ List.replicate (n - k) (0, 0))).map vint) 26 false])) (fun k => n - k) 0 (Nat.zero_le _) (by simp (maxSteps := 2000000) only [↓aw_region, ↓aw_skip, ↓aw_seq, ↓aw_block, ↓aw_exit, ↓aw_ret, ↓sops_nil, ↓sops_go, ↓dops_nil, ↓dopsX_nil, ↓dopsR_nil, ↓vdn, vup, extr_20, extr_21, extr_30, extr_31, extr_32, List.map_cons, List.map_nil, cond_true, cond_false, aop, aThen, aBlock, argEnv, ev, sput, sputO, binK, binI, unK, builtinK, pickK, Nat.reduceBEq, Nat.reduceAdd, Int.reduceBEq, Int.reduceBNe, Int.reduceLT, aPost, resK, tup, tyf, Int.natCast_zero]) (by simp) ?_
  rintro k hk
  refine aws_hide fun Q2 hQ2 => ?_
  simp only [l41_0]
  by_cases hin : (k : Int) < n
  · have hk' : k < n := by omega
    obtain ⟨L, hL⟩ : ∃ L, L = List.replicate k ((0 : Int), (1 : Int)) ++ List.replicate (n - k) (0, 0) := ⟨_, rfl⟩
    have hLl : L.length = n := by rw [hL]; simp; omega
    have hset := set_replicate hk'
    rw [← hL] at hset ⊢
    have ps := pairSl_cells (e := 26) (ro := false) (get_new H (.cells ((flatP L).map vint) 26 false))
    rw [hLl, hlH] at ps
    refine aws_cut fun N15 hN15 => ?_
    simp (maxSteps := 2000000) only [s41, ↓aw_region, ↓aw_skip, ↓aw_seq, ↓aw_block, ↓aw_exit, ↓aw_ret, ↓sops_nil, ↓sops_go, ↓dops_nil, ↓dopsX_nil, ↓dopsR_nil, ↓vdn, vup, extr_20, extr_21, extr_30, extr_31, extr_32, List.map_cons, List.map_nil, cond_true, cond_false, aop, aThen, aBlock, argEnv, ev, sput, sputO, binK, binI, unK, builtinK, pickK, Nat.reduceBEq, Nat.reduceAdd, Int.reduceBEq, Int.reduceBNe, Int.reduceLT, aPost, resK, tup, tyf, hin]
    refine hN15 [(0, v), (1, vint (w : Nat)), (4, .pointer (some ⟨h.length, 0, none⟩)), (5, .slice (some ⟨h.length + 1, 0, none⟩) n n), (10, .slice (some ⟨h.length + 1, 0, none⟩) n n), (11, vint n), (12, vint (k : Nat)), (13, .bool true)] _ _ ?_ (by simp (maxSteps := 2000000) only [↓aw_region, ↓aw_skip, ↓aw_seq, ↓aw_block, ↓aw_exit, ↓aw_ret, ↓sops_nil, ↓sops_go, ↓dops_nil, ↓dopsX_nil, ↓dopsR_nil, ↓vdn, vup, extr_20, extr_21, extr_30, extr_31, extr_32, List.map_cons, List.map_nil, cond_true, cond_false, aop, aThen, aBlock, argEnv, ev, sput, sputO, binK, binI, unK, builtinK, pickK, Nat.reduceBEq, Nat.reduceAdd, Int.reduceBEq, Int.reduceBNe, Int.reduceLT, aPost, resK, tup, tyf])
    clear hN15
    try clear N15
    refine aws_cut fun N16 hN16 => ?_
    simp (maxSteps := 2000000) only [s41, ↓aw_region, ↓aw_skip, ↓aw_seq, ↓aw_block, ↓aw_exit, ↓aw_ret, ↓sops_nil, ↓sops_go, ↓dops_nil, ↓dopsX_nil, ↓dopsR_nil, ↓vdn, vup, extr_20, extr_21, extr_30, extr_31, extr_32, List.map_cons, List.map_nil, cond_true, cond_false, aop, aThen, aBlock, argEnv, ev, sput, sputO, binK, binI, unK, builtinK, pickK, Nat.reduceBEq, Nat.reduceAdd, Int.reduceBEq, Int.reduceBNe, Int.reduceLT, aPost, resK, tup, tyf]
    refine hN16 [(0, v), (1, vint (w : Nat)), (4, .pointer (some ⟨h.length, 0, none⟩)), (5, .slice (some ⟨h.length + 1, 0, none⟩) n n), (10, .slice (some ⟨h.length + 1, 0, none⟩) n n), (11, vint n), (12, vint (k : Nat))] _ _ ?_ (by simp (maxSteps := 2000000) only [↓aw_region, ↓aw_skip, ↓aw_seq, ↓aw_block, ↓aw_exit, ↓aw_ret, ↓sops_nil, ↓sops_go, ↓dops_nil, ↓dopsX_nil, ↓dopsR_nil, ↓vdn, vup, extr_20, extr_21, extr_30, extr_31, extr_32, List.map_cons, List.map_nil, cond_true, cond_false, aop, aThen, aBlock, argEnv, ev, sput, sputO, binK, binI, unK, builtinK, pickK, Nat.reduceBEq, Nat.reduceAdd, Int.reduceBEq, Int.reduceBNe, Int.reduceLT, aPost, resK, tup, tyf])
    clear hN16
    try clear N16
    refine aws_cutW fun B hB => ?_
    refine aws_block ?_
    refine aws_cut fun N17 hN17 => ?_
    simp (maxSteps := 2000000) only [s41, ↓aw_region, ↓aw_skip, ↓aw_seq, ↓aw_block, ↓aw_exit, ↓aw_ret, ↓sops_nil, ↓sops_go, ↓dops_nil, ↓dopsX_nil, ↓dopsR_nil, ↓vdn, vup, extr_20, extr_21, extr_30, extr_31, extr_32, List.map_cons, List.map_nil, cond_true, cond_false, aop, aThen, aBlock, argEnv, ev, sput, sputO, binK, binI, unK, builtinK, pickK, Nat.reduceBEq, Nat.reduceAdd, Int.reduceBEq, Int.reduceBNe, Int.reduceLT, aPost, resK, tup, tyf]
    refine hN17 [(0, v), (1, vint (w : Nat)), (4, .pointer (some ⟨h.length, 0, none⟩)), (5, .slice (some ⟨h.length + 1, 0, none⟩) n n), (6, vint (k : Nat)), (10, .slice (some ⟨h.length + 1, 0, none⟩) n n), (11, vint n), (12, vint (k : Nat))] _ _ ?_ (by simp (maxSteps := 2000000) only [↓aw_region, ↓aw_skip, ↓aw_seq, ↓aw_block, ↓aw_exit, ↓aw_ret, ↓sops_nil, ↓sops_go, ↓dops_nil, ↓dopsX_nil, ↓dopsR_nil, ↓vdn, vup, extr_20, extr_21, extr_30, extr_31, extr_32, List.map_cons, List.map_nil, cond_true, cond_false, aop, aThen, aBlock, argEnv, ev, sput, sputO, binK, binI, unK, builtinK, pickK, Nat.reduceBEq, Nat.reduceAdd, Int.reduceBEq, Int.reduceBNe, Int.reduceLT, aPost, resK, tup, tyf])
    clear hN17
    try clear N17
    refine aw_aws ?_
    have hnb : (H ++ [Blk.cells ((flatP L).map vint) 26 false])[h.length + 1]? = some (.cells ((flatP L).map vint) 26 false) := by rw [← hlH]; exact get_new _ _
    have hst : ∀ {K : Heap → Prop}, storeK prog (H ++ [Blk.cells ((flatP L).map vint) 26 false]) 26 (.pointer (some ⟨h.length + 1, k * 2, none⟩)) (.agg #[vint 0, vint 1]) K = K (H ++ [Blk.cells ((flatP (L.set k (0, 1))).map vint) 26 false]) := fun {K} => by
      rw [storePC hnb shp_26 (by omega), ← hlH, set_new]
    simp (maxSteps := 2000000) only [s41, ↓aw_region, ↓aw_skip, ↓aw_seq, ↓aw_block, ↓aw_exit, ↓aw_ret, ↓sops_nil, ↓sops_go, ↓dops_nil, ↓dopsX_nil, ↓dopsR_nil, ↓vdn, vup, extr_20, extr_21, extr_30, extr_31, extr_32, List.map_cons, List.map_nil, cond_true, cond_false, aop, aThen, aBlock, argEnv, ev, sput, sputO, binK, binI, unK, builtinK, pickK, Nat.reduceBEq, Nat.reduceAdd, Int.reduceBEq, Int.reduceBNe, Int.reduceLT, aPost, resK, tup, tyf, callK, List.nil_append, List.append_nil, List.toList_toArray, List.cons_append]
    refine ((show APure prog 66 [.int .i64 0] (H ++ [.cells ((flatP L).map vint) 26 false]) (qV ((0 : Int) : Rat)) from rwhole_call)).mono ?_
    rintro _ H3 ⟨rfl, hH3⟩
    subst hH3
    simp (maxSteps := 2000000) only [s41, ↓aw_region, ↓aw_skip, ↓aw_seq, ↓aw_block, ↓aw_exit, ↓aw_ret, ↓sops_nil, ↓sops_go, ↓dops_nil, ↓dopsX_nil, ↓dopsR_nil, ↓vdn, vup, extr_20, extr_21, extr_30, extr_31, extr_32, List.map_cons, List.map_nil, cond_true, cond_false, aop, aThen, aBlock, argEnv, ev, sput, sputO, binK, binI, unK, builtinK, pickK, Nat.reduceBEq, Nat.reduceAdd, Int.reduceBEq, Int.reduceBNe, Int.reduceLT, aPost, resK, tup, tyf, ps.idx el_47 esz_26 (show k < L.length by omega), elemP_pair, q0, hst, hset]
    refine hB [(0, v), (1, vint (w : Nat)), (4, .pointer (some ⟨h.length, 0, none⟩)), (5, .slice (some ⟨h.length + 1, 0, none⟩) n n), (10, .slice (some ⟨h.length + 1, 0, none⟩) n n), (11, vint n), (12, vint (k : Nat))] _ _ ?_ (by simp (maxSteps := 2000000) only [↓aw_region, ↓aw_skip, ↓aw_seq, ↓aw_block, ↓aw_exit, ↓aw_ret, ↓sops_nil, ↓sops_go, ↓dops_nil, ↓dopsX_nil, ↓dopsR_nil, ↓vdn, vup, extr_20, extr_21, extr_30, extr_31, extr_32, List.map_cons, List.map_nil, cond_true, cond_false, aop, aThen, aBlock, argEnv, ev, sput, sputO, binK, binI, unK, builtinK, pickK, Nat.reduceBEq, Nat.reduceAdd, Int.reduceBEq, Int.reduceBNe, Int.reduceLT, aPost, resK, tup, tyf])
    clear hB
    try clear B
    refine aw_aws ?_
    simp (maxSteps := 2000000) only [s41, ↓aw_region, ↓aw_skip, ↓aw_seq, ↓aw_block, ↓aw_exit, ↓aw_ret, ↓sops_nil, ↓sops_go, ↓dops_nil, ↓dopsX_nil, ↓dopsR_nil, ↓vdn, vup, extr_20, extr_21, extr_30, extr_31, extr_32, List.map_cons, List.map_nil, cond_true, cond_false, aop, aThen, aBlock, argEnv, ev, sput, sputO, binK, binI, unK, builtinK, pickK, Nat.reduceBEq, Nat.reduceAdd, Int.reduceBEq, Int.reduceBNe, Int.reduceLT, aPost, resK, tup, tyf, add1 (show k < 9223372036854775807 by omega)]
    exact hQ2 _ _ _ ⟨k + 1, hk', by omega, by simp (maxSteps := 2000000) only [↓aw_region, ↓aw_skip, ↓aw_seq, ↓aw_block, ↓aw_exit, ↓aw_ret, ↓sops_nil, ↓sops_go, ↓dops_nil, ↓dopsX_nil, ↓dopsR_nil, ↓vdn, vup, extr_20, extr_21, extr_30, extr_31, extr_32, List.map_cons, List.map_nil, cond_true, cond_false, aop, aThen, aBlock, argEnv, ev, sput, sputO, binK, binI, unK, builtinK, pickK, Nat.reduceBEq, Nat.reduceAdd, Int.reduceBEq, Int.reduceBNe, Int.reduceLT, aPost, resK, tup, tyf], rfl⟩
  · obtain rfl : n = k := by omega
    refine aws_cut fun N18 hN18 => ?_
    simp (maxSteps := 2000000) only [s41, ↓aw_region, ↓aw_skip, ↓aw_seq, ↓aw_block, ↓aw_exit, ↓aw_ret, ↓sops_nil, ↓sops_go, ↓dops_nil, ↓dopsX_nil, ↓dopsR_nil, ↓vdn, vup, extr_20, extr_21, extr_30, extr_31, extr_32, List.map_cons, List.map_nil, cond_true, cond_false, aop, aThen, aBlock, argEnv, ev, sput, sputO, binK, binI, unK, builtinK, pickK, Nat.reduceBEq, Nat.reduceAdd, Int.reduceBEq, Int.reduceBNe, Int.reduceLT, aPost, resK, tup, tyf, hin]
    refine hN18 [(0, v), (1, vint (w : Nat)), (4, .pointer (some ⟨h.length, 0, none⟩)), (5, .slice (some ⟨h.length + 1, 0, none⟩) n n), (10, .slice (some ⟨h.length + 1, 0, none⟩) n n), (11, vint n), (12, vint (n : Nat)), (13, .bool false)] _ _ ?_ (by simp (maxSteps := 2000000) only [↓aw_region, ↓aw_skip, ↓aw_seq, ↓aw_block, ↓aw_exit, ↓aw_ret, ↓sops_nil, ↓sops_go, ↓dops_nil, ↓dopsX_nil, ↓dopsR_nil, ↓vdn, vup, extr_20, extr_21, extr_30, extr_31, extr_32, List.map_cons, List.map_nil, cond_true, cond_false, aop, aThen, aBlock, argEnv, ev, sput, sputO, binK, binI, unK, builtinK, pickK, Nat.reduceBEq, Nat.reduceAdd, Int.reduceBEq, Int.reduceBNe, Int.reduceLT, aPost, resK, tup, tyf])
    clear hN18
    try clear N18
    refine aws_cut fun N19 hN19 => ?_
    simp (maxSteps := 2000000) only [s41, ↓aw_region, ↓aw_skip, ↓aw_seq, ↓aw_block, ↓aw_exit, ↓aw_ret, ↓sops_nil, ↓sops_go, ↓dops_nil, ↓dopsX_nil, ↓dopsR_nil, ↓vdn, vup, extr_20, extr_21, extr_30, extr_31, extr_32, List.map_cons, List.map_nil, cond_true, cond_false, aop, aThen, aBlock, argEnv, ev, sput, sputO, binK, binI, unK, builtinK, pickK, Nat.reduceBEq, Nat.reduceAdd, Int.reduceBEq, Int.reduceBNe, Int.reduceLT, aPost, resK, tup, tyf]
    refine hQ2 _ _ _ (hQ _ _ _ ?_)
    simp (maxSteps := 2000000) only [s41, ↓aw_region, ↓aw_skip, ↓aw_seq, ↓aw_block, ↓aw_exit, ↓aw_ret, ↓sops_nil, ↓sops_go, ↓dops_nil, ↓dopsX_nil, ↓dopsR_nil, ↓vdn, vup, extr_20, extr_21, extr_30, extr_31, extr_32, List.map_cons, List.map_nil, cond_true, cond_false, aop, aThen, aBlock, argEnv, ev, sput, sputO, binK, binI, unK, builtinK, pickK, Nat.reduceBEq, Nat.reduceAdd, Int.reduceBEq, Int.reduceBNe, Int.reduceLT, aPost, resK, tup, tyf, if_true, Nat.sub_self, List.replicate_zero, List.append_nil]
    refine hZ [(0, v), (1, vint (w : Nat)), (4, .pointer (some ⟨h.length, 0, none⟩)), (5, .slice (some ⟨h.length + 1, 0, none⟩) n n), (13, .bool false)] _ _ ?_ (by simp (maxSteps := 2000000) only [↓aw_region, ↓aw_skip, ↓aw_seq, ↓aw_block, ↓aw_exit, ↓aw_ret, ↓sops_nil, ↓sops_go, ↓dops_nil, ↓dopsX_nil, ↓dopsR_nil, ↓vdn, vup, extr_20, extr_21, extr_30, extr_31, extr_32, List.map_cons, List.map_nil, cond_true, cond_false, aop, aThen, aBlock, argEnv, ev, sput, sputO, binK, binI, unK, builtinK, pickK, Nat.reduceBEq, Nat.reduceAdd, Int.reduceBEq, Int.reduceBNe, Int.reduceLT, aPost, resK, tup, tyf])
    clear hZ
    try clear Z
    have ps := pairSl_cells (e := 26) (ro := false) (get_new H (.cells ((flatP (List.replicate n ((0 : Int), (1 : Int)))).map vint) 26 false))
    rw [List.length_replicate, hlH] at ps
    have hnb : (H ++ [Blk.cells ((flatP (List.replicate n ((0 : Int), (1 : Int)))).map vint) 26 false])[h.length + 1]? = some (.cells ((flatP (List.replicate n ((0 : Int), (1 : Int)))).map vint) 26 false) := by rw [← hlH]; exact get_new _ _
    have hst : ∀ {K : Heap → Prop}, storeK prog (H ++ [Blk.cells ((flatP (List.replicate n ((0 : Int), (1 : Int)))).map vint) 26 false]) 26 (.pointer (some ⟨h.length + 1, w * 2, none⟩)) (.agg #[vint 1, vint 1]) K = K (H ++ [Blk.cells ((flatP (sureL n w)).map vint) 26 false]) := fun {K} => by
      rw [storePC hnb shp_26 (by simp; omega), ← hlH, set_new]; rfl
    refine aws_cut fun N20 hN20 => ?_
    simp (maxSteps := 2000000) only [s41, ↓aw_region, ↓aw_skip, ↓aw_seq, ↓aw_block, ↓aw_exit, ↓aw_ret, ↓sops_nil, ↓sops_go, ↓dops_nil, ↓dopsX_nil, ↓dopsR_nil, ↓vdn, vup, extr_20, extr_21, extr_30, extr_31, extr_32, List.map_cons, List.map_nil, cond_true, cond_false, aop, aThen, aBlock, argEnv, ev, sput, sputO, binK, binI, unK, builtinK, pickK, Nat.reduceBEq, Nat.reduceAdd, Int.reduceBEq, Int.reduceBNe, Int.reduceLT, aPost, resK, tup, tyf, callK, List.nil_append, List.append_nil, List.toList_toArray, List.cons_append]
    refine ((show APure prog 66 [.int .i64 1] (H ++ [.cells ((flatP (List.replicate n ((0 : Int), (1 : Int)))).map vint) 26 false]) (qV ((1 : Int) : Rat)) from rwhole_call)).mono ?_
    rintro _ H3 ⟨rfl, hH3⟩
    subst hH3
    simp (maxSteps := 2000000) only [s41, ↓aw_region, ↓aw_skip, ↓aw_seq, ↓aw_block, ↓aw_exit, ↓aw_ret, ↓sops_nil, ↓sops_go, ↓dops_nil, ↓dopsX_nil, ↓dopsR_nil, ↓vdn, vup, extr_20, extr_21, extr_30, extr_31, extr_32, List.map_cons, List.map_nil, cond_true, cond_false, aop, aThen, aBlock, argEnv, ev, sput, sputO, binK, binI, unK, builtinK, pickK, Nat.reduceBEq, Nat.reduceAdd, Int.reduceBEq, Int.reduceBNe, Int.reduceLT, aPost, resK, tup, tyf, ps.idx el_47 esz_26 (show w < (List.replicate n ((0 : Int), (1 : Int))).length by simp; omega), elemP_pair, q1, hst]
    refine hN20 [(0, v), (1, vint (w : Nat)), (4, .pointer (some ⟨h.length, 0, none⟩)), (5, .slice (some ⟨h.length + 1, 0, none⟩) n n), (13, .bool false)] _ _ ?_ (by simp (maxSteps := 2000000) only [↓aw_region, ↓aw_skip, ↓aw_seq, ↓aw_block, ↓aw_exit, ↓aw_ret, ↓sops_nil, ↓sops_go, ↓dops_nil, ↓dopsX_nil, ↓dopsR_nil, ↓vdn, vup, extr_20, extr_21, extr_30, extr_31, extr_32, List.map_cons, List.map_nil, cond_true, cond_false, aop, aThen, aBlock, argEnv, ev, sput, sputO, binK, binI, unK, builtinK, pickK, Nat.reduceBEq, Nat.reduceAdd, Int.reduceBEq, Int.reduceBNe, Int.reduceLT, aPost, resK, tup, tyf])
    clear hN20
    try clear N20
    obtain ⟨H4, hH4⟩ : ∃ H4, H4 = H ++ [Blk.cells ((flatP (sureL n w)).map vint) 26 false] := ⟨_, rfl⟩
    have pf := pairSl_cells (e := 26) (ro := false) (get_new H (.cells ((flatP (sureL n w)).map vint) 26 false))
    rw [sureL_len, hlH, ← hH4] at pf
    have d4 : H4[h.length]? = some z0 := by rw [hH4]; exact get_old c4 _
    have hE4 : Ext (fun _ => False) h H4 := by rw [hH4]; exact hE.trans (Ext.app _ _ _)
    rw [← hH4]
    have rm := rmean_call (hv.ext hE4) pf c (fc_of (sure_fc hlen.1 hlen.2 hw)) (by rw [sureL_len]; exact hn) hx (sure_inr _ _)
    have hsm := sure_mean (f := f) (w := w) (by omega)
    rw [hn] at hsm
    rw [hsm] at rm
    obtain ⟨q, hqq⟩ : ∃ q, scoreQ f w = q := ⟨_, rfl⟩
    rw [hqq] at rm ⊢
    refine aw_aws ?_
    simp (maxSteps := 2000000) only [s41, ↓aw_region, ↓aw_skip, ↓aw_seq, ↓aw_block, ↓aw_exit, ↓aw_ret, ↓sops_nil, ↓sops_go, ↓dops_nil, ↓dopsX_nil, ↓dopsR_nil, ↓vdn, vup, extr_20, extr_21, extr_30, extr_31, extr_32, List.map_cons, List.map_nil, cond_true, cond_false, aop, aThen, aBlock, argEnv, ev, sput, sputO, binK, binI, unK, builtinK, pickK, Nat.reduceBEq, Nat.reduceAdd, Int.reduceBEq, Int.reduceBNe, Int.reduceLT, aPost, resK, tup, tyf, callK, List.nil_append, List.append_nil, List.toList_toArray, List.cons_append]
    refine (rm).mono ?_
    rintro _ H4 ⟨rfl, rfl⟩
    simp (maxSteps := 2000000) only [s41, ↓aw_region, ↓aw_skip, ↓aw_seq, ↓aw_block, ↓aw_exit, ↓aw_ret, ↓sops_nil, ↓sops_go, ↓dops_nil, ↓dopsX_nil, ↓dopsR_nil, ↓vdn, vup, extr_20, extr_21, extr_30, extr_31, extr_32, List.map_cons, List.map_nil, cond_true, cond_false, aop, aThen, aBlock, argEnv, ev, sput, sputO, binK, binI, unK, builtinK, pickK, Nat.reduceBEq, Nat.reduceAdd, Int.reduceBEq, Int.reduceBNe, Int.reduceLT, aPost, resK, tup, tyf, qV, frV, storeF d4 rfl, loadF (get_set (get_lt d4) _)]
    exact hE4.set_ge (Nat.le_refl _) _
end Go.Proofs.Try.Am

namespace Go.Proofs.Try.Am
open Go.Am
set_option maxRecDepth 100000
end Go.Proofs.Try.Am

namespace Go.Proofs.Try.Am
open Go.Am Bq
set_option maxRecDepth 100000
set_option maxHeartbeats 4000000

theorem fcB_len {f : List (Int × Int)} (h : 5 < f.length) : fcB f = false := by
  rw [fcB, show decide (f.length ≤ 5) = false by rw [decide_eq_false_iff_not]; omega]; simp
/-- What is cut off is no forecast either way. -/
theorem fcB_take (f : List (Int × Int)) : fcB (f.take 8) = fcB f ∧ (fcB f = true → f.take 8 = f) := by
  by_cases h : f.length ≤ 8
  · rw [List.take_of_length_le h]; exact ⟨rfl, fun _ => rfl⟩
  · have h1 : fcB f = false := fcB_len (by omega)
    refine ⟨by rw [h1]; exact fcB_len (by rw [List.length_take]; omega), fun h2 => by rw [h1] at h2; cases h2⟩
theorem s7_callW [Tabs Try.prog] {args : List Value} {h : Heap} {Q : Value → Heap → Prop} (hsz : args.length ≤ 101) (hk : AWS Try.prog 101 s7 (aPost Try.prog [.tmp 6] Q) (argEnv 0 args) h) : ACall Try.prog 7 args h Q :=
  acall_w Try.func7 rfl (enters_of Try.func7 (by kernel_rfl) rfl) rfl rfl (by decide) s7_strip s7_ok hsz hk
theorem law_scores [Tabs prog] {h : Heap} {u v : Value} {f b : List (Int × Int)} (hu : PairSl h u f) (hlf : f.length < 9223372036854775808) (hxf : InR f) (hv : PairSl h v b) (hlb : b.length < 9223372036854775808) (hxb : InR b) (w : Int) : ACall prog 7 [u, v, vint w] h fun r _ => r = .bool true := by
  obtain ⟨tf, tf2⟩ := fcB_take f
  obtain ⟨tb, tb2⟩ := fcB_take b
  refine s7_callW (by simp) ?_
  simp only [s7]
  refine aws_cut fun N1 hN1 => ?_
  simp (maxSteps := 2000000) only [s7, ↓aw_region, ↓aw_skip, ↓aw_seq, ↓aw_block, ↓aw_exit, ↓aw_ret, ↓sops_nil, ↓sops_go, ↓dops_nil, ↓dopsX_nil, ↓dopsR_nil, ↓vdn, vup, extr_20, extr_21, extr_30, extr_31, extr_32, List.map_cons, List.map_nil, cond_true, cond_false, aop, aThen, aBlock, argEnv, ev, sput, sputO, binK, binI, unK, builtinK, pickK, Nat.reduceBEq, Nat.reduceAdd, Int.reduceBEq, Int.reduceBNe, Int.reduceLT, aPost, resK, tup, tyf]
  refine hN1 [(0, u), (1, v), (2, vint w), (6, .bool false)] _ _ ?_ (by simp (maxSteps := 2000000) only [↓aw_region, ↓aw_skip, ↓aw_seq, ↓aw_block, ↓aw_exit, ↓aw_ret, ↓sops_nil, ↓sops_go, ↓dops_nil, ↓dopsX_nil, ↓dopsR_nil, ↓vdn, vup, extr_20, extr_21, extr_30, extr_31, extr_32, List.map_cons, List.map_nil, cond_true, cond_false, aop, aThen, aBlock, argEnv, ev, sput, sputO, binK, binI, unK, builtinK, pickK, Nat.reduceBEq, Nat.reduceAdd, Int.reduceBEq, Int.reduceBNe, Int.reduceLT, aPost, resK, tup, tyf])
  clear hN1
  try clear N1
  -- Score
  refine aws_cut fun N2 hN2 => ?_
  simp (maxSteps := 2000000) only [s7, ↓aw_region, ↓aw_skip, ↓aw_seq, ↓aw_block, ↓aw_exit, ↓aw_ret, ↓sops_nil, ↓sops_go, ↓dops_nil, ↓dopsX_nil, ↓dopsR_nil, ↓vdn, vup, extr_20, extr_21, extr_30, extr_31, extr_32, List.map_cons, List.map_nil, cond_true, cond_false, aop, aThen, aBlock, argEnv, ev, sput, sputO, binK, binI, unK, builtinK, pickK, Nat.reduceBEq, Nat.reduceAdd, Int.reduceBEq, Int.reduceBNe, Int.reduceLT, aPost, resK, tup, tyf, callK, List.nil_append, List.append_nil, List.toList_toArray, List.cons_append]
  refine (fracs_call hu).mono ?_
  rintro u1 h1 ⟨hu1, hE1⟩
  have sc := progScore_call (w := w) hu1 (by rw [List.length_take]; omega)
  rw [tf] at sc
  obtain ⟨X, hX⟩ : ∃ X : Int × Int × Int, (if fcB f = true ∧ 0 ≤ w ∧ w < (f.take 8).length then Value.tuple #[qV (scoreQ (f.take 8) w.toNat), .int .i64 0] else Value.tuple #[frV 0 0, .int .i64 2]) = .tuple #[frV X.1 X.2.1, .int .i64 X.2.2] := by
    split
    · exact ⟨((scoreQ (f.take 8) w.toNat).num, (scoreQ (f.take 8) w.toNat).den, 0), rfl⟩
    · exact ⟨(0, 0, 2), rfl⟩
  rw [hX] at sc
  obtain ⟨x1, x2, x3⟩ := X
  simp only at sc hX
  refine sc.mono ?_
  rintro _ h1 ⟨rfl, rfl⟩
  simp (maxSteps := 2000000) only [s7, ↓aw_region, ↓aw_skip, ↓aw_seq, ↓aw_block, ↓aw_exit, ↓aw_ret, ↓sops_nil, ↓sops_go, ↓dops_nil, ↓dopsX_nil, ↓dopsR_nil, ↓vdn, vup, extr_20, extr_21, extr_30, extr_31, extr_32, List.map_cons, List.map_nil, cond_true, cond_false, aop, aThen, aBlock, argEnv, ev, sput, sputO, binK, binI, unK, builtinK, pickK, Nat.reduceBEq, Nat.reduceAdd, Int.reduceBEq, Int.reduceBNe, Int.reduceLT, aPost, resK, tup, tyf, frV, allocK, newPtr, zero_26, storeF (get_new h1 z0) rfl, set_new]
  obtain ⟨H1, hH1⟩ : ∃ H1, H1 = h1 ++ [fC x1 x2] := ⟨_, rfl⟩
  have b7 : H1[h1.length]? = some (fC x1 x2) := by rw [hH1]; exact get_new _ _
  have hE2 : Ext (fun _ => False) h H1 := by rw [hH1]; exact hE1.trans (Ext.app _ _ _)
  rw [← hH1]
  refine hN2 [(0, u), (1, v), (2, vint w), (6, .bool false), (7, .pointer (some ⟨h1.length, 0, none⟩)), (8, .int .i64 x3)] _ _ ?_ (by simp (maxSteps := 2000000) only [↓aw_region, ↓aw_skip, ↓aw_seq, ↓aw_block, ↓aw_exit, ↓aw_ret, ↓sops_nil, ↓sops_go, ↓dops_nil, ↓dopsX_nil, ↓dopsR_nil, ↓vdn, vup, extr_20, extr_21, extr_30, extr_31, extr_32, List.map_cons, List.map_nil, cond_true, cond_false, aop, aThen, aBlock, argEnv, ev, sput, sputO, binK, binI, unK, builtinK, pickK, Nat.reduceBEq, Nat.reduceAdd, Int.reduceBEq, Int.reduceBNe, Int.reduceLT, aPost, resK, tup, tyf])
  clear hN2
  try clear N2
  -- Mean
  refine aws_cut fun N3 hN3 => ?_
  simp (maxSteps := 2000000) only [s7, ↓aw_region, ↓aw_skip, ↓aw_seq, ↓aw_block, ↓aw_exit, ↓aw_ret, ↓sops_nil, ↓sops_go, ↓dops_nil, ↓dopsX_nil, ↓dopsR_nil, ↓vdn, vup, extr_20, extr_21, extr_30, extr_31, extr_32, List.map_cons, List.map_nil, cond_true, cond_false, aop, aThen, aBlock, argEnv, ev, sput, sputO, binK, binI, unK, builtinK, pickK, Nat.reduceBEq, Nat.reduceAdd, Int.reduceBEq, Int.reduceBNe, Int.reduceLT, aPost, resK, tup, tyf, callK, List.nil_append, List.append_nil, List.toList_toArray, List.cons_append]
  refine (fracs_call (hu.ext hE2)).mono ?_
  rintro u3 h3 ⟨hu3, hE3⟩
  refine (fracs_call (hv.ext (hE2.trans hE3))).mono ?_
  rintro v4 h4 ⟨hv4, hE4⟩
  have mn := progMean_call (hu3.ext hE4) hv4 (by rw [List.length_take]; omega) (by rw [List.length_take]; omega)
  rw [tf, tb] at mn
  obtain ⟨Y, hY⟩ : ∃ Y : Int × Int × Int, (if fcB f = true ∧ fcB b = true ∧ (f.take 8).length = (b.take 8).length then Value.tuple #[qV (meanQ (f.take 8) (b.take 8)), .int .i64 0] else Value.tuple #[frV 0 0, .int .i64 2]) = .tuple #[frV Y.1 Y.2.1, .int .i64 Y.2.2] := by
    split
    · exact ⟨((meanQ (f.take 8) (b.take 8)).num, (meanQ (f.take 8) (b.take 8)).den, 0), rfl⟩
    · exact ⟨(0, 0, 2), rfl⟩
  rw [hY] at mn
  obtain ⟨y1, y2, y3⟩ := Y
  simp only at mn hY
  refine mn.mono ?_
  rintro _ h4 ⟨rfl, rfl⟩
  simp (maxSteps := 2000000) only [s7, ↓aw_region, ↓aw_skip, ↓aw_seq, ↓aw_block, ↓aw_exit, ↓aw_ret, ↓sops_nil, ↓sops_go, ↓dops_nil, ↓dopsX_nil, ↓dopsR_nil, ↓vdn, vup, extr_20, extr_21, extr_30, extr_31, extr_32, List.map_cons, List.map_nil, cond_true, cond_false, aop, aThen, aBlock, argEnv, ev, sput, sputO, binK, binI, unK, builtinK, pickK, Nat.reduceBEq, Nat.reduceAdd, Int.reduceBEq, Int.reduceBNe, Int.reduceLT, aPost, resK, tup, tyf, frV, allocK, newPtr, zero_26, storeF (get_new h4 z0) rfl, set_new]
  obtain ⟨H, hH⟩ : ∃ H, H = h4 ++ [fC y1 y2] := ⟨_, rfl⟩
  have b9 : H[h4.length]? = some (fC y1 y2) := by rw [hH]; exact get_new _ _
  have hE5 : Ext (fun _ => False) H1 H := by rw [hH]; exact hE3.trans (hE4.trans (Ext.app _ _ _))
  have b7 : H[h1.length]? = some (fC x1 x2) := (hE5.2 _ (get_lt b7) id).trans b7
  have hE := hE2.trans hE5
  have huH := hu.ext hE
  have hvH := hv.ext hE
  rw [← hH]
  refine hN3 [(0, u), (1, v), (2, vint w), (6, .bool false), (7, .pointer (some ⟨h1.length, 0, none⟩)), (8, .int .i64 x3), (9, .pointer (some ⟨h4.length, 0, none⟩)), (10, .int .i64 y3)] _ _ ?_ (by simp (maxSteps := 2000000) only [↓aw_region, ↓aw_skip, ↓aw_seq, ↓aw_block, ↓aw_exit, ↓aw_ret, ↓sops_nil, ↓sops_go, ↓dops_nil, ↓dopsX_nil, ↓dopsR_nil, ↓vdn, vup, extr_20, extr_21, extr_30, extr_31, extr_32, List.map_cons, List.map_nil, cond_true, cond_false, aop, aThen, aBlock, argEnv, ev, sput, sputO, binK, binI, unK, builtinK, pickK, Nat.reduceBEq, Nat.reduceAdd, Int.reduceBEq, Int.reduceBNe, Int.reduceLT, aPost, resK, tup, tyf])
  clear hN3
  try clear N3
  clear sc mn hu1 hE1 hE2 hE3 hE4 hE5 hu3 hv4 hH1 hH
  have nn : (([0, 0] : List Int) == [0, 0]) = true := rfl
  refine aws_cutW fun M hM => ?_
  refine aws_cut fun N4 hN4 => ?_
  simp (maxSteps := 2000000) only [s7, ↓aw_region, ↓aw_skip, ↓aw_seq, ↓aw_block, ↓aw_exit, ↓aw_ret, ↓sops_nil, ↓sops_go, ↓dops_nil, ↓dopsX_nil, ↓dopsR_nil, ↓vdn, vup, extr_20, extr_21, extr_30, extr_31, extr_32, List.map_cons, List.map_nil, cond_true, cond_false, aop, aThen, aBlock, argEnv, ev, sput, sputO, binK, binI, unK, builtinK, pickK, Nat.reduceBEq, Nat.reduceAdd, Int.reduceBEq, Int.reduceBNe, Int.reduceLT, aPost, resK, tup, tyf, callK, List.nil_append, List.append_nil, List.toList_toArray, List.cons_append]
  refine (rfc_call huH hlf hxf).mono ?_
  rintro _ H ⟨rfl, rfl⟩
  refine hN4 [(0, u), (1, v), (2, vint w), (6, .bool false), (7, .pointer (some ⟨h1.length, 0, none⟩)), (8, .int .i64 x3), (9, .pointer (some ⟨h4.length, 0, none⟩)), (10, .int .i64 y3), (28, .bool (!fcB f))] _ _ ?_ (by simp (maxSteps := 2000000) only [↓aw_region, ↓aw_skip, ↓aw_seq, ↓aw_block, ↓aw_exit, ↓aw_ret, ↓sops_nil, ↓sops_go, ↓dops_nil, ↓dopsX_nil, ↓dopsR_nil, ↓vdn, vup, extr_20, extr_21, extr_30, extr_31, extr_32, List.map_cons, List.map_nil, cond_true, cond_false, aop, aThen, aBlock, argEnv, ev, sput, sputO, binK, binI, unK, builtinK, pickK, Nat.reduceBEq, Nat.reduceAdd, Int.reduceBEq, Int.reduceBNe, Int.reduceLT, aPost, resK, tup, tyf])
  clear hN4
  try clear N4
  cases hf : fcB f with
  | false =>
    rw [hf, if_neg (by simp)] at hX hY
    simp only [Value.tuple.injEq, frV] at hX hY
    obtain ⟨⟨rfl, rfl⟩, rfl⟩ : (0 = x1 ∧ 0 = x2) ∧ 2 = x3 := by simpa using hX
    obtain ⟨⟨rfl, rfl⟩, rfl⟩ : (0 = y1 ∧ 0 = y2) ∧ 2 = y3 := by simpa using hY
    refine aws_true rfl ?_
    refine aw_aws ?_
    simp (maxSteps := 2000000) only [s7, ↓aw_region, ↓aw_skip, ↓aw_seq, ↓aw_block, ↓aw_exit, ↓aw_ret, ↓sops_nil, ↓sops_go, ↓dops_nil, ↓dopsX_nil, ↓dopsR_nil, ↓vdn, vup, extr_20, extr_21, extr_30, extr_31, extr_32, List.map_cons, List.map_nil, cond_true, cond_false, aop, aThen, aBlock, argEnv, ev, sput, sputO, binK, binI, unK, builtinK, pickK, Nat.reduceBEq, Nat.reduceAdd, Int.reduceBEq, Int.reduceBNe, Int.reduceLT, aPost, resK, tup, tyf, callK, List.nil_append, List.append_nil, List.toList_toArray, List.cons_append, loadF b7]
    refine ((show APure prog 26 [.agg #[vint 0, vint 0]] H _ from none_call)).mono ?_
    rintro _ H ⟨rfl, rfl⟩
    simp (maxSteps := 2000000) only [s7, ↓aw_region, ↓aw_skip, ↓aw_seq, ↓aw_block, ↓aw_exit, ↓aw_ret, ↓sops_nil, ↓sops_go, ↓dops_nil, ↓dopsX_nil, ↓dopsR_nil, ↓vdn, vup, extr_20, extr_21, extr_30, extr_31, extr_32, List.map_cons, List.map_nil, cond_true, cond_false, aop, aThen, aBlock, argEnv, ev, sput, sputO, binK, binI, unK, builtinK, pickK, Nat.reduceBEq, Nat.reduceAdd, Int.reduceBEq, Int.reduceBNe, Int.reduceLT, aPost, resK, tup, tyf, nn, loadF b9, callK, List.nil_append, List.append_nil, List.toList_toArray, List.cons_append]
    refine (show APure prog 26 [.agg #[vint 0, vint 0]] H _ from none_call).mono ?_
    rintro _ H ⟨rfl, rfl⟩
    simp (maxSteps := 2000000) only [s7, ↓aw_region, ↓aw_skip, ↓aw_seq, ↓aw_block, ↓aw_exit, ↓aw_ret, ↓sops_nil, ↓sops_go, ↓dops_nil, ↓dopsX_nil, ↓dopsR_nil, ↓vdn, vup, extr_20, extr_21, extr_30, extr_31, extr_32, List.map_cons, List.map_nil, cond_true, cond_false, aop, aThen, aBlock, argEnv, ev, sput, sputO, binK, binI, unK, builtinK, pickK, Nat.reduceBEq, Nat.reduceAdd, Int.reduceBEq, Int.reduceBNe, Int.reduceLT, aPost, resK, tup, tyf, nn, callK, List.nil_append, List.append_nil, List.toList_toArray, List.cons_append]
    exact awake_call.mono fun _ _ h => h.1
  | true =>
    have cf := fc_of hf
    have hf8 := tf2 hf
    refine aws_false rfl ?_
    refine aw_aws ?_
    simp (maxSteps := 2000000) only [s7, ↓aw_region, ↓aw_skip, ↓aw_seq, ↓aw_block, ↓aw_exit, ↓aw_ret, ↓sops_nil, ↓sops_go, ↓dops_nil, ↓dopsX_nil, ↓dopsR_nil, ↓vdn, vup, extr_20, extr_21, extr_30, extr_31, extr_32, List.map_cons, List.map_nil, cond_true, cond_false, aop, aThen, aBlock, argEnv, ev, sput, sputO, binK, binI, unK, builtinK, pickK, Nat.reduceBEq, Nat.reduceAdd, Int.reduceBEq, Int.reduceBNe, Int.reduceLT, aPost, resK, tup, tyf]
    refine hM [(0, u), (1, v), (2, vint w), (6, .bool false), (7, .pointer (some ⟨h1.length, 0, none⟩)), (8, .int .i64 x3), (9, .pointer (some ⟨h4.length, 0, none⟩)), (10, .int .i64 y3)] _ _ ?_ (by simp (maxSteps := 2000000) only [↓aw_region, ↓aw_skip, ↓aw_seq, ↓aw_block, ↓aw_exit, ↓aw_ret, ↓sops_nil, ↓sops_go, ↓dops_nil, ↓dopsX_nil, ↓dopsR_nil, ↓vdn, vup, extr_20, extr_21, extr_30, extr_31, extr_32, List.map_cons, List.map_nil, cond_true, cond_false, aop, aThen, aBlock, argEnv, ev, sput, sputO, binK, binI, unK, builtinK, pickK, Nat.reduceBEq, Nat.reduceAdd, Int.reduceBEq, Int.reduceBNe, Int.reduceLT, aPost, resK, tup, tyf])
    clear hM
    try clear M
    -- behind the check of Score
    have back : ∀ e, ELe e [(0, u), (1, v), (2, vint w), (6, .bool false), (7, .pointer (some ⟨h1.length, 0, none⟩)), (8, .int .i64 x3), (9, .pointer (some ⟨h4.length, 0, none⟩)), (10, .int .i64 y3)] → AWS prog 101 (.seq (.seq q7_10 (.cond (.tmp 79) (.seq q7_11 .ret) .skip)) (.seq q7_12 .ret)) (aPost prog [.tmp 6] fun r _ => r = .bool true) e H := by
      intro e he
      refine aws_le ?_ he
      refine aws_cutW fun M hM => ?_
      refine aws_cut fun N5 hN5 => ?_
      simp (maxSteps := 2000000) only [s7, ↓aw_region, ↓aw_skip, ↓aw_seq, ↓aw_block, ↓aw_exit, ↓aw_ret, ↓sops_nil, ↓sops_go, ↓dops_nil, ↓dopsX_nil, ↓dopsR_nil, ↓vdn, vup, extr_20, extr_21, extr_30, extr_31, extr_32, List.map_cons, List.map_nil, cond_true, cond_false, aop, aThen, aBlock, argEnv, ev, sput, sputO, binK, binI, unK, builtinK, pickK, Nat.reduceBEq, Nat.reduceAdd, Int.reduceBEq, Int.reduceBNe, Int.reduceLT, aPost, resK, tup, tyf, callK, List.nil_append, List.append_nil, List.toList_toArray, List.cons_append, hvH.len, huH.len]
      refine (rfc_call hvH hlb hxb).mono ?_
      rintro _ H ⟨rfl, rfl⟩
      have no : ¬ (fcB f = true ∧ fcB b = true ∧ (f.take 8).length = (b.take 8).length) → ∀ e, ELe e [(0, u), (1, v), (2, vint w), (6, .bool false), (7, .pointer (some ⟨h1.length, 0, none⟩)), (8, .int .i64 x3), (9, .pointer (some ⟨h4.length, 0, none⟩)), (10, .int .i64 y3), (79, .bool true)] → N5 e H := by
        intro hn e he
        rw [if_neg hn] at hY
        simp only [Value.tuple.injEq, frV] at hY
        obtain ⟨⟨rfl, rfl⟩, rfl⟩ : (0 = y1 ∧ 0 = y2) ∧ 2 = y3 := by simpa using hY
        refine hN5 _ _ _ ?_ he
        refine aws_true rfl ?_
        refine aw_aws ?_
        simp (maxSteps := 2000000) only [s7, ↓aw_region, ↓aw_skip, ↓aw_seq, ↓aw_block, ↓aw_exit, ↓aw_ret, ↓sops_nil, ↓sops_go, ↓dops_nil, ↓dopsX_nil, ↓dopsR_nil, ↓vdn, vup, extr_20, extr_21, extr_30, extr_31, extr_32, List.map_cons, List.map_nil, cond_true, cond_false, aop, aThen, aBlock, argEnv, ev, sput, sputO, binK, binI, unK, builtinK, pickK, Nat.reduceBEq, Nat.reduceAdd, Int.reduceBEq, Int.reduceBNe, Int.reduceLT, aPost, resK, tup, tyf, callK, List.nil_append, List.append_nil, List.toList_toArray, List.cons_append, loadF b9]
        refine ((show APure prog 26 [.agg #[vint 0, vint 0]] H _ from none_call)).mono ?_
        rintro _ H ⟨rfl, rfl⟩
        simp (maxSteps := 2000000) only [s7, ↓aw_region, ↓aw_skip, ↓aw_seq, ↓aw_block, ↓aw_exit, ↓aw_ret, ↓sops_nil, ↓sops_go, ↓dops_nil, ↓dopsX_nil, ↓dopsR_nil, ↓vdn, vup, extr_20, extr_21, extr_30, extr_31, extr_32, List.map_cons, List.map_nil, cond_true, cond_false, aop, aThen, aBlock, argEnv, ev, sput, sputO, binK, binI, unK, builtinK, pickK, Nat.reduceBEq, Nat.reduceAdd, Int.reduceBEq, Int.reduceBNe, Int.reduceLT, aPost, resK, tup, tyf, nn, callK, List.nil_append, List.append_nil, List.toList_toArray, List.cons_append]
        exact awake_call.mono fun _ _ h => h.1
      cases hb : fcB b with
      | false =>
        simp (maxSteps := 2000000) only [s7, ↓aw_region, ↓aw_skip, ↓aw_seq, ↓aw_block, ↓aw_exit, ↓aw_ret, ↓sops_nil, ↓sops_go, ↓dops_nil, ↓dopsX_nil, ↓dopsR_nil, ↓vdn, vup, extr_20, extr_21, extr_30, extr_31, extr_32, List.map_cons, List.map_nil, cond_true, cond_false, aop, aThen, aBlock, argEnv, ev, sput, sputO, binK, binI, unK, builtinK, pickK, Nat.reduceBEq, Nat.reduceAdd, Int.reduceBEq, Int.reduceBNe, Int.reduceLT, aPost, resK, tup, tyf, Bool.not_false]
        exact no (by simp [hb]) _ (by simp (maxSteps := 2000000) only [↓aw_region, ↓aw_skip, ↓aw_seq, ↓aw_block, ↓aw_exit, ↓aw_ret, ↓sops_nil, ↓sops_go, ↓dops_nil, ↓dopsX_nil, ↓dopsR_nil, ↓vdn, vup, extr_20, extr_21, extr_30, extr_31, extr_32, List.map_cons, List.map_nil, cond_true, cond_false, aop, aThen, aBlock, argEnv, ev, sput, sputO, binK, binI, unK, builtinK, pickK, Nat.reduceBEq, Nat.reduceAdd, Int.reduceBEq, Int.reduceBNe, Int.reduceLT, aPost, resK, tup, tyf])
      | true =>
        have cb := fc_of hb
        have hb8 := tb2 hb
        by_cases hl : f.length = b.length
        · have hne : (((b.length : Nat) : Int) != ((f.length : Nat) : Int)) = false := by rw [hl]; simp
          simp (maxSteps := 2000000) only [s7, ↓aw_region, ↓aw_skip, ↓aw_seq, ↓aw_block, ↓aw_exit, ↓aw_ret, ↓sops_nil, ↓sops_go, ↓dops_nil, ↓dopsX_nil, ↓dopsR_nil, ↓vdn, vup, extr_20, extr_21, extr_30, extr_31, extr_32, List.map_cons, List.map_nil, cond_true, cond_false, aop, aThen, aBlock, argEnv, ev, sput, sputO, binK, binI, unK, builtinK, pickK, Nat.reduceBEq, Nat.reduceAdd, Int.reduceBEq, Int.reduceBNe, Int.reduceLT, aPost, resK, tup, tyf, Bool.not_true, hvH.len, huH.len, hne]
          refine hN5 [(0, u), (1, v), (2, vint w), (6, .bool false), (7, .pointer (some ⟨h1.length, 0, none⟩)), (8, .int .i64 x3), (9, .pointer (some ⟨h4.length, 0, none⟩)), (10, .int .i64 y3), (79, .bool false)] _ _ ?_ (by simp (maxSteps := 2000000) only [↓aw_region, ↓aw_skip, ↓aw_seq, ↓aw_block, ↓aw_exit, ↓aw_ret, ↓sops_nil, ↓sops_go, ↓dops_nil, ↓dopsX_nil, ↓dopsR_nil, ↓vdn, vup, extr_20, extr_21, extr_30, extr_31, extr_32, List.map_cons, List.map_nil, cond_true, cond_false, aop, aThen, aBlock, argEnv, ev, sput, sputO, binK, binI, unK, builtinK, pickK, Nat.reduceBEq, Nat.reduceAdd, Int.reduceBEq, Int.reduceBNe, Int.reduceLT, aPost, resK, tup, tyf])
          clear hN5
          try clear N5
          refine aws_false rfl ?_
          refine aw_aws ?_
          simp (maxSteps := 2000000) only [s7, ↓aw_region, ↓aw_skip, ↓aw_seq, ↓aw_block, ↓aw_exit, ↓aw_ret, ↓sops_nil, ↓sops_go, ↓dops_nil, ↓dopsX_nil, ↓dopsR_nil, ↓vdn, vup, extr_20, extr_21, extr_30, extr_31, extr_32, List.map_cons, List.map_nil, cond_true, cond_false, aop, aThen, aBlock, argEnv, ev, sput, sputO, binK, binI, unK, builtinK, pickK, Nat.reduceBEq, Nat.reduceAdd, Int.reduceBEq, Int.reduceBNe, Int.reduceLT, aPost, resK, tup, tyf]
          refine hM [(0, u), (1, v), (2, vint w), (6, .bool false), (7, .pointer (some ⟨h1.length, 0, none⟩)), (8, .int .i64 x3), (9, .pointer (some ⟨h4.length, 0, none⟩)), (10, .int .i64 y3)] _ _ ?_ (by simp (maxSteps := 2000000) only [↓aw_region, ↓aw_skip, ↓aw_seq, ↓aw_block, ↓aw_exit, ↓aw_ret, ↓sops_nil, ↓sops_go, ↓dops_nil, ↓dopsX_nil, ↓dopsR_nil, ↓vdn, vup, extr_20, extr_21, extr_30, extr_31, extr_32, List.map_cons, List.map_nil, cond_true, cond_false, aop, aThen, aBlock, argEnv, ev, sput, sputO, binK, binI, unK, builtinK, pickK, Nat.reduceBEq, Nat.reduceAdd, Int.reduceBEq, Int.reduceBNe, Int.reduceLT, aPost, resK, tup, tyf])
          clear hM
          try clear M
          rw [if_pos ⟨hf, hb, by rw [hf8, hb8]; exact hl⟩, hf8, hb8] at hY
          simp only [Value.tuple.injEq, frV, qV] at hY
          obtain ⟨⟨hy1, hy2⟩, rfl⟩ : ((meanQ f b).num = y1 ∧ ((meanQ f b).den : Int) = y2) ∧ 0 = y3 := by simpa using hY
          have rm := rmean_call huH hvH cf cb hl hxf hxb
          obtain ⟨q, hq⟩ : ∃ q, meanQ f b = q := ⟨_, rfl⟩
          rw [hq] at rm hy1 hy2
          have awc : APure prog 21 [] H (.bool true) := awake_call
          refine aw_aws ?_
          simp only [q7_12]
          refine aw_cut fun N hN => ?_
          refine aw_drawX [(3, 1), (10, 1)] (by kernel_rfl) (by kernel_rfl) (by kernel_rfl) (by kernel_rfl) ?_
          simp (maxSteps := 2000000) only [s7, ↓aw_region, ↓aw_skip, ↓aw_seq, ↓aw_block, ↓aw_exit, ↓aw_ret, ↓sops_nil, ↓sops_go, ↓dops_nil, ↓dopsX_nil, ↓dopsR_nil, ↓vdn, vup, extr_20, extr_21, extr_30, extr_31, extr_32, List.map_cons, List.map_nil, cond_true, cond_false, aop, aThen, aBlock, argEnv, ev, sput, sputO, binK, binI, unK, builtinK, pickK, Nat.reduceBEq, Nat.reduceAdd, Int.reduceBEq, Int.reduceBNe, Int.reduceLT, aPost, resK, tup, tyf, loadF b9, callK, List.nil_append, List.append_nil, List.toList_toArray, List.cons_append]
          refine ⟨_, _, rm, rfl, ?_⟩
          rw [← hy1, ← hy2]
          simp (maxSteps := 2000000) only [s7, ↓aw_region, ↓aw_skip, ↓aw_seq, ↓aw_block, ↓aw_exit, ↓aw_ret, ↓sops_nil, ↓sops_go, ↓dops_nil, ↓dopsX_nil, ↓dopsR_nil, ↓vdn, vup, extr_20, extr_21, extr_30, extr_31, extr_32, List.map_cons, List.map_nil, cond_true, cond_false, aop, aThen, aBlock, argEnv, ev, sput, sputO, binK, binI, unK, builtinK, pickK, Nat.reduceBEq, Nat.reduceAdd, Int.reduceBEq, Int.reduceBNe, Int.reduceLT, aPost, resK, tup, tyf, qV, frV, intsOf, Option.map_some, List.length_cons, List.length_nil, Nat.zero_add, eqF, beq_self_eq_true, callK, List.nil_append, List.append_nil, List.toList_toArray, List.cons_append]
          refine ⟨_, _, awc, rfl, ?_⟩
          refine hN _ _ ?_
          simp (maxSteps := 2000000) only [s7, ↓aw_region, ↓aw_skip, ↓aw_seq, ↓aw_block, ↓aw_exit, ↓aw_ret, ↓sops_nil, ↓sops_go, ↓dops_nil, ↓dopsX_nil, ↓dopsR_nil, ↓vdn, vup, extr_20, extr_21, extr_30, extr_31, extr_32, List.map_cons, List.map_nil, cond_true, cond_false, aop, aThen, aBlock, argEnv, ev, sput, sputO, binK, binI, unK, builtinK, pickK, Nat.reduceBEq, Nat.reduceAdd, Int.reduceBEq, Int.reduceBNe, Int.reduceLT, aPost, resK, tup, tyf]
        · have hne : (((b.length : Nat) : Int) != ((f.length : Nat) : Int)) = true := by
            have : ¬ ((b.length : Nat) : Int) = ((f.length : Nat) : Int) := by omega
            simpa [bne] using this
          simp (maxSteps := 2000000) only [s7, ↓aw_region, ↓aw_skip, ↓aw_seq, ↓aw_block, ↓aw_exit, ↓aw_ret, ↓sops_nil, ↓sops_go, ↓dops_nil, ↓dopsX_nil, ↓dopsR_nil, ↓vdn, vup, extr_20, extr_21, extr_30, extr_31, extr_32, List.map_cons, List.map_nil, cond_true, cond_false, aop, aThen, aBlock, argEnv, ev, sput, sputO, binK, binI, unK, builtinK, pickK, Nat.reduceBEq, Nat.reduceAdd, Int.reduceBEq, Int.reduceBNe, Int.reduceLT, aPost, resK, tup, tyf, Bool.not_true, hvH.len, huH.len, hne]
          exact no (by rw [hf8, hb8]; simp [hl]) _ (by simp (maxSteps := 2000000) only [↓aw_region, ↓aw_skip, ↓aw_seq, ↓aw_block, ↓aw_exit, ↓aw_ret, ↓sops_nil, ↓sops_go, ↓dops_nil, ↓dopsX_nil, ↓dopsR_nil, ↓vdn, vup, extr_20, extr_21, extr_30, extr_31, extr_32, List.map_cons, List.map_nil, cond_true, cond_false, aop, aThen, aBlock, argEnv, ev, sput, sputO, binK, binI, unK, builtinK, pickK, Nat.reduceBEq, Nat.reduceAdd, Int.reduceBEq, Int.reduceBNe, Int.reduceLT, aPost, resK, tup, tyf])
    refine aws_cutW fun L hL => ?_
    have skip : ∀ e, ELe e [(0, u), (1, v), (2, vint w), (6, .bool false), (7, .pointer (some ⟨h1.length, 0, none⟩)), (8, .int .i64 x3), (9, .pointer (some ⟨h4.length, 0, none⟩)), (10, .int .i64 y3)] → L e H := fun e he => hL _ _ _ (back _ (by simp (maxSteps := 2000000) only [↓aw_region, ↓aw_skip, ↓aw_seq, ↓aw_block, ↓aw_exit, ↓aw_ret, ↓sops_nil, ↓sops_go, ↓dops_nil, ↓dopsX_nil, ↓dopsR_nil, ↓vdn, vup, extr_20, extr_21, extr_30, extr_31, extr_32, List.map_cons, List.map_nil, cond_true, cond_false, aop, aThen, aBlock, argEnv, ev, sput, sputO, binK, binI, unK, builtinK, pickK, Nat.reduceBEq, Nat.reduceAdd, Int.reduceBEq, Int.reduceBNe, Int.reduceLT, aPost, resK, tup, tyf])) he
    by_cases hw : 0 ≤ w ∧ w < f.length
    · have w1 : ¬ w < 0 := by omega
      have w2 : ¬ w ≥ f.length := by omega
      obtain ⟨n, rfl⟩ : ∃ n : Nat, w = n := ⟨w.toNat, by omega⟩
      refine aws_cut fun N6 hN6 => ?_
      simp (maxSteps := 2000000) only [s7, ↓aw_region, ↓aw_skip, ↓aw_seq, ↓aw_block, ↓aw_exit, ↓aw_ret, ↓sops_nil, ↓sops_go, ↓dops_nil, ↓dopsX_nil, ↓dopsR_nil, ↓vdn, vup, extr_20, extr_21, extr_30, extr_31, extr_32, List.map_cons, List.map_nil, cond_true, cond_false, aop, aThen, aBlock, argEnv, ev, sput, sputO, binK, binI, unK, builtinK, pickK, Nat.reduceBEq, Nat.reduceAdd, Int.reduceBEq, Int.reduceBNe, Int.reduceLT, aPost, resK, tup, tyf, w1, huH.len, w2]
      refine hN6 [(0, u), (1, v), (2, vint (n : Nat)), (6, .bool false), (7, .pointer (some ⟨h1.length, 0, none⟩)), (8, .int .i64 x3), (9, .pointer (some ⟨h4.length, 0, none⟩)), (10, .int .i64 y3), (53, .bool false)] _ _ ?_ (by simp (maxSteps := 2000000) only [↓aw_region, ↓aw_skip, ↓aw_seq, ↓aw_block, ↓aw_exit, ↓aw_ret, ↓sops_nil, ↓sops_go, ↓dops_nil, ↓dopsX_nil, ↓dopsR_nil, ↓vdn, vup, extr_20, extr_21, extr_30, extr_31, extr_32, List.map_cons, List.map_nil, cond_true, cond_false, aop, aThen, aBlock, argEnv, ev, sput, sputO, binK, binI, unK, builtinK, pickK, Nat.reduceBEq, Nat.reduceAdd, Int.reduceBEq, Int.reduceBNe, Int.reduceLT, aPost, resK, tup, tyf])
      clear hN6
      try clear N6
      refine aws_false rfl ?_
      have hc : fcB f = true ∧ 0 ≤ (n : Int) ∧ (n : Int) < (f.take 8).length := ⟨hf, by omega, by rw [hf8]; omega⟩
      rw [if_pos hc, hf8, Int.toNat_natCast] at hX
      simp only [Value.tuple.injEq, frV, qV] at hX
      obtain ⟨⟨hx1, hx2⟩, rfl⟩ : ((scoreQ f n).num = x1 ∧ ((scoreQ f n).den : Int) = x2) ∧ 0 = x3 := by simpa using hX
      have rs := rscore_call huH cf (show n < f.length by omega) hxf
      obtain ⟨q, hq⟩ : ∃ q, scoreQ f n = q := ⟨_, rfl⟩
      rw [hq] at rs hx1 hx2
      refine aws_cut fun N7 hN7 => ?_
      simp only [q7_8]
      refine aw_drawX [(3, 1)] (by kernel_rfl) (by kernel_rfl) (by kernel_rfl) (by kernel_rfl) ?_
      simp (maxSteps := 2000000) only [s7, ↓aw_region, ↓aw_skip, ↓aw_seq, ↓aw_block, ↓aw_exit, ↓aw_ret, ↓sops_nil, ↓sops_go, ↓dops_nil, ↓dopsX_nil, ↓dopsR_nil, ↓vdn, vup, extr_20, extr_21, extr_30, extr_31, extr_32, List.map_cons, List.map_nil, cond_true, cond_false, aop, aThen, aBlock, argEnv, ev, sput, sputO, binK, binI, unK, builtinK, pickK, Nat.reduceBEq, Nat.reduceAdd, Int.reduceBEq, Int.reduceBNe, Int.reduceLT, aPost, resK, tup, tyf, loadF b7, callK, List.nil_append, List.append_nil, List.toList_toArray, List.cons_append]
      refine ⟨_, _, rs, rfl, ?_⟩
      rw [← hx1, ← hx2]
      have hne : (([q.num, (q.den : Int)] : List Int) != [q.num, (q.den : Int)]) = false := by simp
      simp (maxSteps := 2000000) only [s7, ↓aw_region, ↓aw_skip, ↓aw_seq, ↓aw_block, ↓aw_exit, ↓aw_ret, ↓sops_nil, ↓sops_go, ↓dops_nil, ↓dopsX_nil, ↓dopsR_nil, ↓vdn, vup, extr_20, extr_21, extr_30, extr_31, extr_32, List.map_cons, List.map_nil, cond_true, cond_false, aop, aThen, aBlock, argEnv, ev, sput, sputO, binK, binI, unK, builtinK, pickK, Nat.reduceBEq, Nat.reduceAdd, Int.reduceBEq, Int.reduceBNe, Int.reduceLT, aPost, resK, tup, tyf, qV, frV, intsOf, Option.map_some, List.length_cons, List.length_nil, Nat.zero_add, eqF, hne]
      refine hN7 [(0, u), (1, v), (2, vint (n : Nat)), (6, .bool false), (7, .pointer (some ⟨h1.length, 0, none⟩)), (8, .int .i64 0), (9, .pointer (some ⟨h4.length, 0, none⟩)), (10, .int .i64 y3), (53, .bool false), (69, .bool false)] _ _ ?_ (by simp (maxSteps := 2000000) only [↓aw_region, ↓aw_skip, ↓aw_seq, ↓aw_block, ↓aw_exit, ↓aw_ret, ↓sops_nil, ↓sops_go, ↓dops_nil, ↓dopsX_nil, ↓dopsR_nil, ↓vdn, vup, extr_20, extr_21, extr_30, extr_31, extr_32, List.map_cons, List.map_nil, cond_true, cond_false, aop, aThen, aBlock, argEnv, ev, sput, sputO, binK, binI, unK, builtinK, pickK, Nat.reduceBEq, Nat.reduceAdd, Int.reduceBEq, Int.reduceBNe, Int.reduceLT, aPost, resK, tup, tyf])
      clear hN7
      try clear N7
      refine aw_aws ?_
      simp (maxSteps := 2000000) only [s7, ↓aw_region, ↓aw_skip, ↓aw_seq, ↓aw_block, ↓aw_exit, ↓aw_ret, ↓sops_nil, ↓sops_go, ↓dops_nil, ↓dopsX_nil, ↓dopsR_nil, ↓vdn, vup, extr_20, extr_21, extr_30, extr_31, extr_32, List.map_cons, List.map_nil, cond_true, cond_false, aop, aThen, aBlock, argEnv, ev, sput, sputO, binK, binI, unK, builtinK, pickK, Nat.reduceBEq, Nat.reduceAdd, Int.reduceBEq, Int.reduceBNe, Int.reduceLT, aPost, resK, tup, tyf]
      exact skip _ (by simp (maxSteps := 2000000) only [↓aw_region, ↓aw_skip, ↓aw_seq, ↓aw_block, ↓aw_exit, ↓aw_ret, ↓sops_nil, ↓sops_go, ↓dops_nil, ↓dopsX_nil, ↓dopsR_nil, ↓vdn, vup, extr_20, extr_21, extr_30, extr_31, extr_32, List.map_cons, List.map_nil, cond_true, cond_false, aop, aThen, aBlock, argEnv, ev, sput, sputO, binK, binI, unK, builtinK, pickK, Nat.reduceBEq, Nat.reduceAdd, Int.reduceBEq, Int.reduceBNe, Int.reduceLT, aPost, resK, tup, tyf])
    · have hx : ¬ (fcB f = true ∧ 0 ≤ w ∧ w < (f.take 8).length) := by rw [hf8]; rintro ⟨_, h1⟩; exact hw h1
      rw [if_neg hx] at hX
      simp only [Value.tuple.injEq, frV] at hX
      obtain ⟨⟨rfl, rfl⟩, rfl⟩ : (0 = x1 ∧ 0 = x2) ∧ 2 = x3 := by simpa using hX
      refine aws_cut fun N8 hN8 => ?_
      have go : ∀ e, ELe e [(0, u), (1, v), (2, vint w), (6, .bool false), (7, .pointer (some ⟨h1.length, 0, none⟩)), (8, .int .i64 2), (9, .pointer (some ⟨h4.length, 0, none⟩)), (10, .int .i64 y3), (53, .bool true)] → N8 e H := by
        intro e he
        refine hN8 _ _ _ ?_ he
        refine aws_true rfl ?_
        refine aws_cut fun N9 hN9 => ?_
        simp (maxSteps := 2000000) only [s7, ↓aw_region, ↓aw_skip, ↓aw_seq, ↓aw_block, ↓aw_exit, ↓aw_ret, ↓sops_nil, ↓sops_go, ↓dops_nil, ↓dopsX_nil, ↓dopsR_nil, ↓vdn, vup, extr_20, extr_21, extr_30, extr_31, extr_32, List.map_cons, List.map_nil, cond_true, cond_false, aop, aThen, aBlock, argEnv, ev, sput, sputO, binK, binI, unK, builtinK, pickK, Nat.reduceBEq, Nat.reduceAdd, Int.reduceBEq, Int.reduceBNe, Int.reduceLT, aPost, resK, tup, tyf, callK, List.nil_append, List.append_nil, List.toList_toArray, List.cons_append, loadF b7]
        refine ((show APure prog 26 [.agg #[vint 0, vint 0]] H _ from none_call)).mono ?_
        rintro _ H ⟨rfl, rfl⟩
        simp (maxSteps := 2000000) only [s7, ↓aw_region, ↓aw_skip, ↓aw_seq, ↓aw_block, ↓aw_exit, ↓aw_ret, ↓sops_nil, ↓sops_go, ↓dops_nil, ↓dopsX_nil, ↓dopsR_nil, ↓vdn, vup, extr_20, extr_21, extr_30, extr_31, extr_32, List.map_cons, List.map_nil, cond_true, cond_false, aop, aThen, aBlock, argEnv, ev, sput, sputO, binK, binI, unK, builtinK, pickK, Nat.reduceBEq, Nat.reduceAdd, Int.reduceBEq, Int.reduceBNe, Int.reduceLT, aPost, resK, tup, tyf, nn, Bool.not_true]
        refine hN9 [(0, u), (1, v), (2, vint w), (6, .bool false), (7, .pointer (some ⟨h1.length, 0, none⟩)), (8, .int .i64 2), (9, .pointer (some ⟨h4.length, 0, none⟩)), (10, .int .i64 y3), (53, .bool true), (60, .bool false)] _ _ ?_ (by simp (maxSteps := 2000000) only [↓aw_region, ↓aw_skip, ↓aw_seq, ↓aw_block, ↓aw_exit, ↓aw_ret, ↓sops_nil, ↓sops_go, ↓dops_nil, ↓dopsX_nil, ↓dopsR_nil, ↓vdn, vup, extr_20, extr_21, extr_30, extr_31, extr_32, List.map_cons, List.map_nil, cond_true, cond_false, aop, aThen, aBlock, argEnv, ev, sput, sputO, binK, binI, unK, builtinK, pickK, Nat.reduceBEq, Nat.reduceAdd, Int.reduceBEq, Int.reduceBNe, Int.reduceLT, aPost, resK, tup, tyf])
        clear hN9
        try clear N9
        refine aw_aws ?_
        simp (maxSteps := 2000000) only [s7, ↓aw_region, ↓aw_skip, ↓aw_seq, ↓aw_block, ↓aw_exit, ↓aw_ret, ↓sops_nil, ↓sops_go, ↓dops_nil, ↓dopsX_nil, ↓dopsR_nil, ↓vdn, vup, extr_20, extr_21, extr_30, extr_31, extr_32, List.map_cons, List.map_nil, cond_true, cond_false, aop, aThen, aBlock, argEnv, ev, sput, sputO, binK, binI, unK, builtinK, pickK, Nat.reduceBEq, Nat.reduceAdd, Int.reduceBEq, Int.reduceBNe, Int.reduceLT, aPost, resK, tup, tyf]
        exact skip _ (by simp (maxSteps := 2000000) only [↓aw_region, ↓aw_skip, ↓aw_seq, ↓aw_block, ↓aw_exit, ↓aw_ret, ↓sops_nil, ↓sops_go, ↓dops_nil, ↓dopsX_nil, ↓dopsR_nil, ↓vdn, vup, extr_20, extr_21, extr_30, extr_31, extr_32, List.map_cons, List.map_nil, cond_true, cond_false, aop, aThen, aBlock, argEnv, ev, sput, sputO, binK, binI, unK, builtinK, pickK, Nat.reduceBEq, Nat.reduceAdd, Int.reduceBEq, Int.reduceBNe, Int.reduceLT, aPost, resK, tup, tyf])
      by_cases w1 : w < 0
      · simp (maxSteps := 2000000) only [s7, ↓aw_region, ↓aw_skip, ↓aw_seq, ↓aw_block, ↓aw_exit, ↓aw_ret, ↓sops_nil, ↓sops_go, ↓dops_nil, ↓dopsX_nil, ↓dopsR_nil, ↓vdn, vup, extr_20, extr_21, extr_30, extr_31, extr_32, List.map_cons, List.map_nil, cond_true, cond_false, aop, aThen, aBlock, argEnv, ev, sput, sputO, binK, binI, unK, builtinK, pickK, Nat.reduceBEq, Nat.reduceAdd, Int.reduceBEq, Int.reduceBNe, Int.reduceLT, aPost, resK, tup, tyf, w1]
        exact go _ (by simp (maxSteps := 2000000) only [↓aw_region, ↓aw_skip, ↓aw_seq, ↓aw_block, ↓aw_exit, ↓aw_ret, ↓sops_nil, ↓sops_go, ↓dops_nil, ↓dopsX_nil, ↓dopsR_nil, ↓vdn, vup, extr_20, extr_21, extr_30, extr_31, extr_32, List.map_cons, List.map_nil, cond_true, cond_false, aop, aThen, aBlock, argEnv, ev, sput, sputO, binK, binI, unK, builtinK, pickK, Nat.reduceBEq, Nat.reduceAdd, Int.reduceBEq, Int.reduceBNe, Int.reduceLT, aPost, resK, tup, tyf])
      · have w2 : w ≥ f.length := by omega
        simp (maxSteps := 2000000) only [s7, ↓aw_region, ↓aw_skip, ↓aw_seq, ↓aw_block, ↓aw_exit, ↓aw_ret, ↓sops_nil, ↓sops_go, ↓dops_nil, ↓dopsX_nil, ↓dopsR_nil, ↓vdn, vup, extr_20, extr_21, extr_30, extr_31, extr_32, List.map_cons, List.map_nil, cond_true, cond_false, aop, aThen, aBlock, argEnv, ev, sput, sputO, binK, binI, unK, builtinK, pickK, Nat.reduceBEq, Nat.reduceAdd, Int.reduceBEq, Int.reduceBNe, Int.reduceLT, aPost, resK, tup, tyf, w1, huH.len, w2]
        exact go _ (by simp (maxSteps := 2000000) only [↓aw_region, ↓aw_skip, ↓aw_seq, ↓aw_block, ↓aw_exit, ↓aw_ret, ↓sops_nil, ↓sops_go, ↓dops_nil, ↓dopsX_nil, ↓dopsR_nil, ↓vdn, vup, extr_20, extr_21, extr_30, extr_31, extr_32, List.map_cons, List.map_nil, cond_true, cond_false, aop, aThen, aBlock, argEnv, ev, sput, sputO, binK, binI, unK, builtinK, pickK, Nat.reduceBEq, Nat.reduceAdd, Int.reduceBEq, Int.reduceBNe, Int.reduceLT, aPost, resK, tup, tyf])
end Go.Proofs.Try.Am
