/-
  bets: the corners, found.
  Printed by gen.py: the code of some functions, without what no step looks at; held against the program's own by the kernel.
  Printed by gen.py: the code of some functions, without what no step looks at; held against the program's own by the kernel.
  bets: copies of slices; slices held against each other.
  bets: Sound; that the program is awake.
  bets: scores and averages, in the program and in the reference.
-/
import Derived.Test.YtcmindinomacbaaPk11
import Derived.Test.YtcmindinomacbaaPk3
import Derived.Test.YtcmindinomacbaaProg
import Derived.KernelRfl
import Derived.Shelf.Abstract
import Derived.Test.YtcmindinomacbaaPk6
import Derived.Test.YtcmindinomacbaaPk9
import Derived.Test.YtcmindinomacbaaPk10
set_option linter.all false
namespace Go.Proofs.Try.Am
open Go.Am Bq
set_option maxRecDepth 100000
set_option maxHeartbeats 4000000

theorem loopEnd {a b : Nat} (h1 : ¬ (a : Int) < b) (h2 : a ≤ b) : b = a := by omega
theorem castI_snoc (L : List Nat) (k : Nat) : castI (L ++ [k]) = castI L ++ [(k : Int)] := by simp [castI]

theorem s60_callW [Tabs Try.prog] {args : List Value} {h : Heap} {Q : Value → Heap → Prop} (hsz : args.length ≤ 103) (hk : AWS Try.prog 103 s60 (aPost Try.prog [.tmp 2] Q) (argEnv 0 args) h) : ACall Try.prog 60 args h Q :=
  acall_w Try.func60 rfl (enters_of Try.func60 (by kernel_rfl) rfl) rfl rfl (by decide) s60_strip s60_ok hsz hk
theorem corners_call [Tabs prog] {h : Heap} {n : Nat} {v : Value} {l : List (Int × Int)} (hv : PairSl h v l) (hval : validB n l = true) (htame : TameAll n l) :
    ACall prog 60 [.agg #[vint (n : Nat), v]] h fun r h' => Ext (fun _ => False) h h' ∧ CornSl h' r (cornersB n l) ∧ ∀ b, blkOf r = some b → h.length ≤ b := by
  obtain ⟨hn2, hn5, hl1, hl6, hok⟩ := valid_spec hval
  have hpn : (2 : Nat) ^ n ≤ 2 ^ 5 := Nat.pow_le_pow_right (by decide) hn5
  have hp32 : (2 : Nat) ^ n ≤ 32 := hpn
  have hpp := Nat.two_pow_pos n
  have hsh : shlV .i64 1 (n : Int) = ((2 ^ n : Nat) : Int) := by rw [shl1 (by omega), pow_cast]
  have hsub : subV .i64 ((2 ^ n : Nat) : Int) 1 = ((2 ^ n - 1 : Nat) : Int) := by rw [subN (by omega)]; omega
  obtain ⟨H, hH⟩ : ∃ H, H = h ++ [Blk.cells [vint (n : Nat), v] 86 false] := ⟨_, rfl⟩
  have hE : Ext (fun _ => False) h H := by rw [hH]; exact Ext.app _ _ _
  have t1 : H[h.length]? = some (.cells [vint (n : Nat), v] 86 false) := by rw [hH]; exact get_new _ _
  refine s60_callW (by simp) ?_
  simp only [s60]
  refine aws_cut fun N1 hN1 => ?_
  simp (maxSteps := 2000000) only [s60, ↓aw_region, ↓aw_skip, ↓aw_seq, ↓aw_block, ↓aw_exit, ↓aw_ret, ↓sops_nil, ↓sops_go, ↓dops_nil, ↓dopsX_nil, ↓dopsR_nil, ↓vdn, vup, extr_20, extr_21, extr_30, extr_31, extr_32, List.map_cons, List.map_nil, cond_true, cond_false, aop, aThen, aBlock, argEnv, ev, sput, sputO, binK, binI, unK, builtinK, pickK, Nat.reduceBEq, Nat.reduceAdd, Int.reduceBEq, Int.reduceBNe, Int.reduceLT, aPost, resK, tup, tyf, boxT, newPtr]
  rw [← hH]
  refine hN1 [(1, .pointer (some ⟨h.length, 0, none⟩)), (2, .slice none 0 0)] _ _ ?_ (by simp (maxSteps := 2000000) only [↓aw_region, ↓aw_skip, ↓aw_seq, ↓aw_block, ↓aw_exit, ↓aw_ret, ↓sops_nil, ↓sops_go, ↓dops_nil, ↓dopsX_nil, ↓dopsR_nil, ↓vdn, vup, extr_20, extr_21, extr_30, extr_31, extr_32, List.map_cons, List.map_nil, cond_true, cond_false, aop, aThen, aBlock, argEnv, ev, sput, sputO, binK, binI, unK, builtinK, pickK, Nat.reduceBEq, Nat.reduceAdd, Int.reduceBEq, Int.reduceBNe, Int.reduceLT, aPost, resK, tup, tyf])
  clear hN1
  try clear N1
  refine aws_cut fun N2 hN2 => ?_
  simp (maxSteps := 2000000) only [s60, ↓aw_region, ↓aw_skip, ↓aw_seq, ↓aw_block, ↓aw_exit, ↓aw_ret, ↓sops_nil, ↓sops_go, ↓dops_nil, ↓dopsX_nil, ↓dopsR_nil, ↓vdn, vup, extr_20, extr_21, extr_30, extr_31, extr_32, List.map_cons, List.map_nil, cond_true, cond_false, aop, aThen, aBlock, argEnv, ev, sput, sputO, binK, binI, unK, builtinK, pickK, Nat.reduceBEq, Nat.reduceAdd, Int.reduceBEq, Int.reduceBNe, Int.reduceLT, aPost, resK, tup, tyf]
  refine hN2 [(1, .pointer (some ⟨h.length, 0, none⟩)), (2, .slice none 0 0), (3, .slice none 0 0)] _ _ ?_ (by simp (maxSteps := 2000000) only [↓aw_region, ↓aw_skip, ↓aw_seq, ↓aw_block, ↓aw_exit, ↓aw_ret, ↓sops_nil, ↓sops_go, ↓dops_nil, ↓dopsX_nil, ↓dopsR_nil, ↓vdn, vup, extr_20, extr_21, extr_30, extr_31, extr_32, List.map_cons, List.map_nil, cond_true, cond_false, aop, aThen, aBlock, argEnv, ev, sput, sputO, binK, binI, unK, builtinK, pickK, Nat.reduceBEq, Nat.reduceAdd, Int.reduceBEq, Int.reduceBNe, Int.reduceLT, aPost, resK, tup, tyf])
  clear hN2
  try clear N2
  refine aws_cutW fun Z hZ => ?_
  refine aws_cut fun N3 hN3 => ?_
  simp (maxSteps := 2000000) only [s60, ↓aw_region, ↓aw_skip, ↓aw_seq, ↓aw_block, ↓aw_exit, ↓aw_ret, ↓sops_nil, ↓sops_go, ↓dops_nil, ↓dopsX_nil, ↓dopsR_nil, ↓vdn, vup, extr_20, extr_21, extr_30, extr_31, extr_32, List.map_cons, List.map_nil, cond_true, cond_false, aop, aThen, aBlock, argEnv, ev, sput, sputO, binK, binI, unK, builtinK, pickK, Nat.reduceBEq, Nat.reduceAdd, Int.reduceBEq, Int.reduceBNe, Int.reduceLT, aPost, resK, tup, tyf]
  refine hN3 [(1, .pointer (some ⟨h.length, 0, none⟩)), (2, .slice none 0 0), (3, .slice none 0 0), (4, .int .i64 1)] _ _ ?_ (by simp (maxSteps := 2000000) only [↓aw_region, ↓aw_skip, ↓aw_seq, ↓aw_block, ↓aw_exit, ↓aw_ret, ↓sops_nil, ↓sops_go, ↓dops_nil, ↓dopsX_nil, ↓dopsR_nil, ↓vdn, vup, extr_20, extr_21, extr_30, extr_31, extr_32, List.map_cons, List.map_nil, cond_true, cond_false, aop, aThen, aBlock, argEnv, ev, sput, sputO, binK, binI, unK, builtinK, pickK, Nat.reduceBEq, Nat.reduceAdd, Int.reduceBEq, Int.reduceBNe, Int.reduceLT, aPost, resK, tup, tyf])
  clear hN3
  try clear N3
  refine aws_block ?_
  refine aws_hide fun Q hQ => ?_
  refine aw_loopW (γ := Nat × Value × Heap) (fun s => 1 ≤ s.1 ∧ s.1 ≤ 2 ^ n ∧ CornSl s.2.2 s.2.1 (cornersTo n l (s.1 - 1)) ∧ Ext (fun _ => False) H s.2.2 ∧ ∀ b, blkOf s.2.1 = some b → H.length ≤ b)
    (fun s => ([(1, .pointer (some ⟨h.length, 0, none⟩)), (2, .slice none 0 0), (3, s.2.1), (4, vint (s.1 : Nat))], s.2.2)) (fun s => 2 ^ n - s.1) (1, .slice none 0 0, H) ⟨Nat.le_refl _, hpp, ⟨[], .inl ⟨rfl, rfl⟩, trivial⟩, Ext.refl _ _, fun b hb => by cases hb⟩ (by simp (maxSteps := 2000000) only [↓aw_region, ↓aw_skip, ↓aw_seq, ↓aw_block, ↓aw_exit, ↓aw_ret, ↓sops_nil, ↓sops_go, ↓dops_nil, ↓dopsX_nil, ↓dopsR_nil, ↓vdn, vup, extr_20, extr_21, extr_30, extr_31, extr_32, List.map_cons, List.map_nil, cond_true, cond_false, aop, aThen, aBlock, argEnv, ev, sput, sputO, binK, binI, unK, builtinK, pickK, Nat.reduceBEq, Nat.reduceAdd, Int.reduceBEq, Int.reduceBNe, Int.reduceLT, aPost, resK, tup, tyf, Int.natCast_one]) rfl ?_
  rintro ⟨s, out, hp⟩ ⟨hs1, hs, hcs, hEp, hbo⟩
  simp only at hs1 hs hcs hEp hbo
  refine aws_hide fun Q2 hQ2 => ?_
  simp only [l60_3]
  have t1p : hp[h.length]? = some (.cells [vint (n : Nat), v] 86 false) := (hEp.2 _ (get_lt t1) id).trans t1
  have hHl : h.length < H.length := get_lt t1
  by_cases hin : (s : Int) < ((2 ^ n : Nat) : Int)
  · have hs' : s < 2 ^ n := by omega
    refine aws_cut fun N4 hN4 => ?_
    simp (maxSteps := 2000000) only [s60, ↓aw_region, ↓aw_skip, ↓aw_seq, ↓aw_block, ↓aw_exit, ↓aw_ret, ↓sops_nil, ↓sops_go, ↓dops_nil, ↓dopsX_nil, ↓dopsR_nil, ↓vdn, vup, extr_20, extr_21, extr_30, extr_31, extr_32, List.map_cons, List.map_nil, cond_true, cond_false, aop, aThen, aBlock, argEnv, ev, sput, sputO, binK, binI, unK, builtinK, pickK, Nat.reduceBEq, Nat.reduceAdd, Int.reduceBEq, Int.reduceBNe, Int.reduceLT, aPost, resK, tup, tyf, tA0, loadT0 t1p, Int.natCast_nonneg, hsh, hin]
    refine hN4 [(1, .pointer (some ⟨h.length, 0, none⟩)), (2, .slice none 0 0), (3, out), (4, vint (s : Nat))] _ _ ?_ (by simp (maxSteps := 2000000) only [↓aw_region, ↓aw_skip, ↓aw_seq, ↓aw_block, ↓aw_exit, ↓aw_ret, ↓sops_nil, ↓sops_go, ↓dops_nil, ↓dopsX_nil, ↓dopsR_nil, ↓vdn, vup, extr_20, extr_21, extr_30, extr_31, extr_32, List.map_cons, List.map_nil, cond_true, cond_false, aop, aThen, aBlock, argEnv, ev, sput, sputO, binK, binI, unK, builtinK, pickK, Nat.reduceBEq, Nat.reduceAdd, Int.reduceBEq, Int.reduceBNe, Int.reduceLT, aPost, resK, tup, tyf])
    clear hN4
    try clear N4
    refine aws_cutW fun Y hY => ?_
    refine aws_block ?_
    -- the worlds' box
    obtain ⟨H1, hH1⟩ : ∃ H1, H1 = hp ++ [Blk.cells [.slice none 0 0] 38 false] := ⟨_, rfl⟩
    have b5 : H1[hp.length]? = some (.cells [.slice none 0 0] 38 false) := by rw [hH1]; exact get_new _ _
    have hE1 : Ext (fun _ => False) hp H1 := by rw [hH1]; exact Ext.app _ _ _
    have hH1l : H1.length = hp.length + 1 := by rw [hH1]; simp
    refine aws_cut fun N5 hN5 => ?_
    simp (maxSteps := 2000000) only [s60, ↓aw_region, ↓aw_skip, ↓aw_seq, ↓aw_block, ↓aw_exit, ↓aw_ret, ↓sops_nil, ↓sops_go, ↓dops_nil, ↓dopsX_nil, ↓dopsR_nil, ↓vdn, vup, extr_20, extr_21, extr_30, extr_31, extr_32, List.map_cons, List.map_nil, cond_true, cond_false, aop, aThen, aBlock, argEnv, ev, sput, sputO, binK, binI, unK, builtinK, pickK, Nat.reduceBEq, Nat.reduceAdd, Int.reduceBEq, Int.reduceBNe, Int.reduceLT, aPost, resK, tup, tyf, allocK, newPtr, zero_38]
    rw [← hH1]
    refine hN5 [(1, .pointer (some ⟨h.length, 0, none⟩)), (2, .slice none 0 0), (3, out), (4, vint (s : Nat)), (5, .pointer (some ⟨hp.length, 0, none⟩))] _ _ ?_ (by simp (maxSteps := 2000000) only [↓aw_region, ↓aw_skip, ↓aw_seq, ↓aw_block, ↓aw_exit, ↓aw_ret, ↓sops_nil, ↓sops_go, ↓dops_nil, ↓dopsX_nil, ↓dopsR_nil, ↓vdn, vup, extr_20, extr_21, extr_30, extr_31, extr_32, List.map_cons, List.map_nil, cond_true, cond_false, aop, aThen, aBlock, argEnv, ev, sput, sputO, binK, binI, unK, builtinK, pickK, Nat.reduceBEq, Nat.reduceAdd, Int.reduceBEq, Int.reduceBNe, Int.reduceLT, aPost, resK, tup, tyf])
    clear hN5
    try clear N5
    -- the worlds
    refine aws_cutW fun X hX => ?_
    refine aws_cut fun N6 hN6 => ?_
    simp (maxSteps := 2000000) only [s60, ↓aw_region, ↓aw_skip, ↓aw_seq, ↓aw_block, ↓aw_exit, ↓aw_ret, ↓sops_nil, ↓sops_go, ↓dops_nil, ↓dopsX_nil, ↓dopsR_nil, ↓vdn, vup, extr_20, extr_21, extr_30, extr_31, extr_32, List.map_cons, List.map_nil, cond_true, cond_false, aop, aThen, aBlock, argEnv, ev, sput, sputO, binK, binI, unK, builtinK, pickK, Nat.reduceBEq, Nat.reduceAdd, Int.reduceBEq, Int.reduceBNe, Int.reduceLT, aPost, resK, tup, tyf, tA0, loadT0 ((hE1.2 _ (get_lt t1p) id).trans t1p)]
    refine hN6 [(1, .pointer (some ⟨h.length, 0, none⟩)), (2, .slice none 0 0), (3, out), (4, vint (s : Nat)), (5, .pointer (some ⟨hp.length, 0, none⟩)), (24, vint (n : Nat)), (25, .int .i64 0)] _ _ ?_ (by simp (maxSteps := 2000000) only [↓aw_region, ↓aw_skip, ↓aw_seq, ↓aw_block, ↓aw_exit, ↓aw_ret, ↓sops_nil, ↓sops_go, ↓dops_nil, ↓dopsX_nil, ↓dopsR_nil, ↓vdn, vup, extr_20, extr_21, extr_30, extr_31, extr_32, List.map_cons, List.map_nil, cond_true, cond_false, aop, aThen, aBlock, argEnv, ev, sput, sputO, binK, binI, unK, builtinK, pickK, Nat.reduceBEq, Nat.reduceAdd, Int.reduceBEq, Int.reduceBNe, Int.reduceLT, aPost, resK, tup, tyf])
    clear hN6
    try clear N6
    refine aws_block ?_
    refine aws_hide fun Qa hQa => ?_
    refine aw_loopW (γ := Nat × Value × Heap) (fun g => g.1 ≤ n ∧ g.2.2[hp.length]? = some (.cells [g.2.1] 38 false) ∧ OwnSl 3 g.2.2 g.2.1 (castI (worldsTo s g.1)) ∧ Ext (fun _ => False) hp g.2.2 ∧ (∀ b, blkOf g.2.1 = some b → hp.length < b))
      (fun g => ([(1, .pointer (some ⟨h.length, 0, none⟩)), (2, .slice none 0 0), (3, out), (4, vint (s : Nat)), (5, .pointer (some ⟨hp.length, 0, none⟩)), (24, vint (n : Nat)), (25, vint (g.1 : Nat))], g.2.2)) (fun g => n - g.1) (0, .slice none 0 0, H1) ⟨Nat.zero_le _, b5, .inl ⟨rfl, rfl⟩, hE1, fun b hb => by cases hb⟩ (by simp (maxSteps := 2000000) only [↓aw_region, ↓aw_skip, ↓aw_seq, ↓aw_block, ↓aw_exit, ↓aw_ret, ↓sops_nil, ↓sops_go, ↓dops_nil, ↓dopsX_nil, ↓dopsR_nil, ↓vdn, vup, extr_20, extr_21, extr_30, extr_31, extr_32, List.map_cons, List.map_nil, cond_true, cond_false, aop, aThen, aBlock, argEnv, ev, sput, sputO, binK, binI, unK, builtinK, pickK, Nat.reduceBEq, Nat.reduceAdd, Int.reduceBEq, Int.reduceBNe, Int.reduceLT, aPost, resK, tup, tyf, Int.natCast_zero]) rfl ?_
    rintro ⟨k, wv, G⟩ ⟨hk, g5, how, hEG, hbw⟩
    simp only at hk g5 how hEG hbw
    refine aws_hide fun Qb hQb => ?_
    simp only [l60_0]
    by_cases hkin : (k : Int) < n
    · have hk' : k < n := by omega
      have ht := testV (y := k) (show s < 9223372036854775808 by omega)
      have hnx := worldsTo_succ s k
      refine aws_cut fun N7 hN7 => ?_
      simp (maxSteps := 2000000) only [s60, ↓aw_region, ↓aw_skip, ↓aw_seq, ↓aw_block, ↓aw_exit, ↓aw_ret, ↓sops_nil, ↓sops_go, ↓dops_nil, ↓dopsX_nil, ↓dopsR_nil, ↓vdn, vup, extr_20, extr_21, extr_30, extr_31, extr_32, List.map_cons, List.map_nil, cond_true, cond_false, aop, aThen, aBlock, argEnv, ev, sput, sputO, binK, binI, unK, builtinK, pickK, Nat.reduceBEq, Nat.reduceAdd, Int.reduceBEq, Int.reduceBNe, Int.reduceLT, aPost, resK, tup, tyf, hkin]
      refine hN7 [(1, .pointer (some ⟨h.length, 0, none⟩)), (2, .slice none 0 0), (3, out), (4, vint (s : Nat)), (5, .pointer (some ⟨hp.length, 0, none⟩)), (24, vint (n : Nat)), (25, vint (k : Nat)), (26, .bool true)] _ _ ?_ (by simp (maxSteps := 2000000) only [↓aw_region, ↓aw_skip, ↓aw_seq, ↓aw_block, ↓aw_exit, ↓aw_ret, ↓sops_nil, ↓sops_go, ↓dops_nil, ↓dopsX_nil, ↓dopsR_nil, ↓vdn, vup, extr_20, extr_21, extr_30, extr_31, extr_32, List.map_cons, List.map_nil, cond_true, cond_false, aop, aThen, aBlock, argEnv, ev, sput, sputO, binK, binI, unK, builtinK, pickK, Nat.reduceBEq, Nat.reduceAdd, Int.reduceBEq, Int.reduceBNe, Int.reduceLT, aPost, resK, tup, tyf])
      clear hN7
      try clear N7
      refine aws_cut fun N8 hN8 => ?_
      simp (maxSteps := 2000000) only [s60, ↓aw_region, ↓aw_skip, ↓aw_seq, ↓aw_block, ↓aw_exit, ↓aw_ret, ↓sops_nil, ↓sops_go, ↓dops_nil, ↓dopsX_nil, ↓dopsR_nil, ↓vdn, vup, extr_20, extr_21, extr_30, extr_31, extr_32, List.map_cons, List.map_nil, cond_true, cond_false, aop, aThen, aBlock, argEnv, ev, sput, sputO, binK, binI, unK, builtinK, pickK, Nat.reduceBEq, Nat.reduceAdd, Int.reduceBEq, Int.reduceBNe, Int.reduceLT, aPost, resK, tup, tyf]
      refine hN8 [(1, .pointer (some ⟨h.length, 0, none⟩)), (2, .slice none 0 0), (3, out), (4, vint (s : Nat)), (5, .pointer (some ⟨hp.length, 0, none⟩)), (24, vint (n : Nat)), (25, vint (k : Nat))] _ _ ?_ (by simp (maxSteps := 2000000) only [↓aw_region, ↓aw_skip, ↓aw_seq, ↓aw_block, ↓aw_exit, ↓aw_ret, ↓sops_nil, ↓sops_go, ↓dops_nil, ↓dopsX_nil, ↓dopsR_nil, ↓vdn, vup, extr_20, extr_21, extr_30, extr_31, extr_32, List.map_cons, List.map_nil, cond_true, cond_false, aop, aThen, aBlock, argEnv, ev, sput, sputO, binK, binI, unK, builtinK, pickK, Nat.reduceBEq, Nat.reduceAdd, Int.reduceBEq, Int.reduceBNe, Int.reduceLT, aPost, resK, tup, tyf])
      clear hN8
      try clear N8
      refine aws_cutW fun B hB => ?_
      refine aws_block ?_
      refine aws_cut fun N9 hN9 => ?_
      simp (maxSteps := 2000000) only [s60, ↓aw_region, ↓aw_skip, ↓aw_seq, ↓aw_block, ↓aw_exit, ↓aw_ret, ↓sops_nil, ↓sops_go, ↓dops_nil, ↓dopsX_nil, ↓dopsR_nil, ↓vdn, vup, extr_20, extr_21, extr_30, extr_31, extr_32, List.map_cons, List.map_nil, cond_true, cond_false, aop, aThen, aBlock, argEnv, ev, sput, sputO, binK, binI, unK, builtinK, pickK, Nat.reduceBEq, Nat.reduceAdd, Int.reduceBEq, Int.reduceBNe, Int.reduceLT, aPost, resK, tup, tyf]
      refine hN9 [(1, .pointer (some ⟨h.length, 0, none⟩)), (2, .slice none 0 0), (3, out), (4, vint (s : Nat)), (5, .pointer (some ⟨hp.length, 0, none⟩)), (6, vint (k : Nat)), (24, vint (n : Nat)), (25, vint (k : Nat))] _ _ ?_ (by simp (maxSteps := 2000000) only [↓aw_region, ↓aw_skip, ↓aw_seq, ↓aw_block, ↓aw_exit, ↓aw_ret, ↓sops_nil, ↓sops_go, ↓dops_nil, ↓dopsX_nil, ↓dopsR_nil, ↓vdn, vup, extr_20, extr_21, extr_30, extr_31, extr_32, List.map_cons, List.map_nil, cond_true, cond_false, aop, aThen, aBlock, argEnv, ev, sput, sputO, binK, binI, unK, builtinK, pickK, Nat.reduceBEq, Nat.reduceAdd, Int.reduceBEq, Int.reduceBNe, Int.reduceLT, aPost, resK, tup, tyf])
      clear hN9
      try clear N9
      refine aws_cut fun N10 hN10 => ?_
      simp (maxSteps := 2000000) only [s60, ↓aw_region, ↓aw_skip, ↓aw_seq, ↓aw_block, ↓aw_exit, ↓aw_ret, ↓sops_nil, ↓sops_go, ↓dops_nil, ↓dopsX_nil, ↓dopsR_nil, ↓vdn, vup, extr_20, extr_21, extr_30, extr_31, extr_32, List.map_cons, List.map_nil, cond_true, cond_false, aop, aThen, aBlock, argEnv, ev, sput, sputO, binK, binI, unK, builtinK, pickK, Nat.reduceBEq, Nat.reduceAdd, Int.reduceBEq, Int.reduceBNe, Int.reduceLT, aPost, resK, tup, tyf, ht, beq1, Int.natCast_nonneg]
      refine hN10 [(1, .pointer (some ⟨h.length, 0, none⟩)), (2, .slice none 0 0), (3, out), (4, vint (s : Nat)), (5, .pointer (some ⟨hp.length, 0, none⟩)), (6, vint (k : Nat)), (24, vint (n : Nat)), (25, vint (k : Nat)), (32, .bool (s.testBit k))] _ _ ?_ (by simp (maxSteps := 2000000) only [↓aw_region, ↓aw_skip, ↓aw_seq, ↓aw_block, ↓aw_exit, ↓aw_ret, ↓sops_nil, ↓sops_go, ↓dops_nil, ↓dopsX_nil, ↓dopsR_nil, ↓vdn, vup, extr_20, extr_21, extr_30, extr_31, extr_32, List.map_cons, List.map_nil, cond_true, cond_false, aop, aThen, aBlock, argEnv, ev, sput, sputO, binK, binI, unK, builtinK, pickK, Nat.reduceBEq, Nat.reduceAdd, Int.reduceBEq, Int.reduceBNe, Int.reduceLT, aPost, resK, tup, tyf])
      clear hN10
      try clear N10
      cases hbit : s.testBit k with
      | false =>
        rw [hbit, if_neg (by decide), List.append_nil] at hnx
        refine aws_false rfl ?_
        refine aw_aws ?_
        simp (maxSteps := 2000000) only [s60, ↓aw_region, ↓aw_skip, ↓aw_seq, ↓aw_block, ↓aw_exit, ↓aw_ret, ↓sops_nil, ↓sops_go, ↓dops_nil, ↓dopsX_nil, ↓dopsR_nil, ↓vdn, vup, extr_20, extr_21, extr_30, extr_31, extr_32, List.map_cons, List.map_nil, cond_true, cond_false, aop, aThen, aBlock, argEnv, ev, sput, sputO, binK, binI, unK, builtinK, pickK, Nat.reduceBEq, Nat.reduceAdd, Int.reduceBEq, Int.reduceBNe, Int.reduceLT, aPost, resK, tup, tyf]
        refine hB [(1, .pointer (some ⟨h.length, 0, none⟩)), (2, .slice none 0 0), (3, out), (4, vint (s : Nat)), (5, .pointer (some ⟨hp.length, 0, none⟩)), (24, vint (n : Nat)), (25, vint (k : Nat))] _ _ ?_ (by simp (maxSteps := 2000000) only [↓aw_region, ↓aw_skip, ↓aw_seq, ↓aw_block, ↓aw_exit, ↓aw_ret, ↓sops_nil, ↓sops_go, ↓dops_nil, ↓dopsX_nil, ↓dopsR_nil, ↓vdn, vup, extr_20, extr_21, extr_30, extr_31, extr_32, List.map_cons, List.map_nil, cond_true, cond_false, aop, aThen, aBlock, argEnv, ev, sput, sputO, binK, binI, unK, builtinK, pickK, Nat.reduceBEq, Nat.reduceAdd, Int.reduceBEq, Int.reduceBNe, Int.reduceLT, aPost, resK, tup, tyf])
        clear hB
        try clear B
        refine aw_aws ?_
        simp (maxSteps := 2000000) only [s60, ↓aw_region, ↓aw_skip, ↓aw_seq, ↓aw_block, ↓aw_exit, ↓aw_ret, ↓sops_nil, ↓sops_go, ↓dops_nil, ↓dopsX_nil, ↓dopsR_nil, ↓vdn, vup, extr_20, extr_21, extr_30, extr_31, extr_32, List.map_cons, List.map_nil, cond_true, cond_false, aop, aThen, aBlock, argEnv, ev, sput, sputO, binK, binI, unK, builtinK, pickK, Nat.reduceBEq, Nat.reduceAdd, Int.reduceBEq, Int.reduceBNe, Int.reduceLT, aPost, resK, tup, tyf, add1 (show k < 9223372036854775807 by omega)]
        exact hQb _ _ _ ⟨(k + 1, wv, G), ⟨hk', g5, by simp only; rw [hnx]; exact how, hEG, hbw⟩, by simp only; omega, by simp (maxSteps := 2000000) only [↓aw_region, ↓aw_skip, ↓aw_seq, ↓aw_block, ↓aw_exit, ↓aw_ret, ↓sops_nil, ↓sops_go, ↓dops_nil, ↓dopsX_nil, ↓dopsR_nil, ↓vdn, vup, extr_20, extr_21, extr_30, extr_31, extr_32, List.map_cons, List.map_nil, cond_true, cond_false, aop, aThen, aBlock, argEnv, ev, sput, sputO, binK, binI, unK, builtinK, pickK, Nat.reduceBEq, Nat.reduceAdd, Int.reduceBEq, Int.reduceBNe, Int.reduceLT, aPost, resK, tup, tyf], rfl⟩
      | true =>
        rw [hbit, if_pos rfl] at hnx
        refine aws_true rfl ?_
        refine aw_aws ?_
        simp (maxSteps := 2000000) only [s60, ↓aw_region, ↓aw_skip, ↓aw_seq, ↓aw_block, ↓aw_exit, ↓aw_ret, ↓sops_nil, ↓sops_go, ↓dops_nil, ↓dopsX_nil, ↓dopsR_nil, ↓vdn, vup, extr_20, extr_21, extr_30, extr_31, extr_32, List.map_cons, List.map_nil, cond_true, cond_false, aop, aThen, aBlock, argEnv, ev, sput, sputO, binK, binI, unK, builtinK, pickK, Nat.reduceBEq, Nat.reduceAdd, Int.reduceBEq, Int.reduceBNe, Int.reduceLT, aPost, resK, tup, tyf, load1 g5 shp_38, litI1]
        have hwl := worldsTo_le s k
        refine OwnSl.append (x := (k : Int)) (how.ext (S := fun _ => False) (Ext.app _ _ _) (fun _ _ => id)) app_38_38 (by rw [castI_len]; omega) (get_new _ _) ?_
        intro wv' G' ho' hE' hb'
        rw [← castI_snoc, ← hnx] at ho'
        have g5' : G'[hp.length]? = some (.cells [wv] 38 false) := by
          rw [hE'.2 _ (by rw [List.length_append]; have := get_lt g5; omega) (fun hc => by have := hbw _ hc; omega)]
          exact get_old g5 _
        have hone : one wv' = true := ho'.notI.2
        have hE2 : Ext (fun _ => False) hp G' := ext_app hEG (H' := G ++ [Blk.ints [(k : Int)] 3 false]) (by simp) (fun q hq => List.getElem?_append_left (by have := hEG.1; omega)) (fun b hb => by have := hbw b hb; omega) hE'
        have hbw' : ∀ b, blkOf wv' = some b → hp.length < b := fun b hb => by
          rcases hb' with h1 | ⟨b', h1, h2⟩
          · exact hbw b (h1 ▸ hb)
          · rw [h1] at hb; cases hb
            rw [List.length_append] at h2
            have := get_lt g5; omega
        simp (maxSteps := 2000000) only [s60, ↓aw_region, ↓aw_skip, ↓aw_seq, ↓aw_block, ↓aw_exit, ↓aw_ret, ↓sops_nil, ↓sops_go, ↓dops_nil, ↓dopsX_nil, ↓dopsR_nil, ↓vdn, vup, extr_20, extr_21, extr_30, extr_31, extr_32, List.map_cons, List.map_nil, cond_true, cond_false, aop, aThen, aBlock, argEnv, ev, sput, sputO, binK, binI, unK, builtinK, pickK, Nat.reduceBEq, Nat.reduceAdd, Int.reduceBEq, Int.reduceBNe, Int.reduceLT, aPost, resK, tup, tyf, store1 g5' shp_38 hone]
        refine hB [(1, .pointer (some ⟨h.length, 0, none⟩)), (2, .slice none 0 0), (3, out), (4, vint (s : Nat)), (5, .pointer (some ⟨hp.length, 0, none⟩)), (24, vint (n : Nat)), (25, vint (k : Nat))] _ _ ?_ (by simp (maxSteps := 2000000) only [↓aw_region, ↓aw_skip, ↓aw_seq, ↓aw_block, ↓aw_exit, ↓aw_ret, ↓sops_nil, ↓sops_go, ↓dops_nil, ↓dopsX_nil, ↓dopsR_nil, ↓vdn, vup, extr_20, extr_21, extr_30, extr_31, extr_32, List.map_cons, List.map_nil, cond_true, cond_false, aop, aThen, aBlock, argEnv, ev, sput, sputO, binK, binI, unK, builtinK, pickK, Nat.reduceBEq, Nat.reduceAdd, Int.reduceBEq, Int.reduceBNe, Int.reduceLT, aPost, resK, tup, tyf])
        clear hB
        try clear B
        refine aw_aws ?_
        simp (maxSteps := 2000000) only [s60, ↓aw_region, ↓aw_skip, ↓aw_seq, ↓aw_block, ↓aw_exit, ↓aw_ret, ↓sops_nil, ↓sops_go, ↓dops_nil, ↓dopsX_nil, ↓dopsR_nil, ↓vdn, vup, extr_20, extr_21, extr_30, extr_31, extr_32, List.map_cons, List.map_nil, cond_true, cond_false, aop, aThen, aBlock, argEnv, ev, sput, sputO, binK, binI, unK, builtinK, pickK, Nat.reduceBEq, Nat.reduceAdd, Int.reduceBEq, Int.reduceBNe, Int.reduceLT, aPost, resK, tup, tyf, add1 (show k < 9223372036854775807 by omega)]
        refine hQb _ _ _ ⟨(k + 1, wv', G'.set hp.length (.cells [wv'] 38 false)), ⟨hk', get_set (get_lt g5') _, ?_, hE2.set_ge (Nat.le_refl _) _, hbw'⟩, by simp only; omega, by simp (maxSteps := 2000000) only [↓aw_region, ↓aw_skip, ↓aw_seq, ↓aw_block, ↓aw_exit, ↓aw_ret, ↓sops_nil, ↓sops_go, ↓dops_nil, ↓dopsX_nil, ↓dopsR_nil, ↓vdn, vup, extr_20, extr_21, extr_30, extr_31, extr_32, List.map_cons, List.map_nil, cond_true, cond_false, aop, aThen, aBlock, argEnv, ev, sput, sputO, binK, binI, unK, builtinK, pickK, Nat.reduceBEq, Nat.reduceAdd, Int.reduceBEq, Int.reduceBNe, Int.reduceLT, aPost, resK, tup, tyf], rfl⟩
        exact ho'.ext (S := fun b => b = hp.length) (Ext.set _ rfl) (fun b hb hc => by have := hbw' b hb; omega)
    have hkn := loopEnd hkin hk
    subst hkn
    refine aws_cut fun N11 hN11 => ?_
    simp (maxSteps := 2000000) only [s60, ↓aw_region, ↓aw_skip, ↓aw_seq, ↓aw_block, ↓aw_exit, ↓aw_ret, ↓sops_nil, ↓sops_go, ↓dops_nil, ↓dopsX_nil, ↓dopsR_nil, ↓vdn, vup, extr_20, extr_21, extr_30, extr_31, extr_32, List.map_cons, List.map_nil, cond_true, cond_false, aop, aThen, aBlock, argEnv, ev, sput, sputO, binK, binI, unK, builtinK, pickK, Nat.reduceBEq, Nat.reduceAdd, Int.reduceBEq, Int.reduceBNe, Int.reduceLT, aPost, resK, tup, tyf, hkin]
    refine hN11 [(1, .pointer (some ⟨h.length, 0, none⟩)), (2, .slice none 0 0), (3, out), (4, vint (s : Nat)), (5, .pointer (some ⟨hp.length, 0, none⟩)), (24, vint (n : Nat)), (25, vint (n : Nat)), (26, .bool false)] _ _ ?_ (by simp (maxSteps := 2000000) only [↓aw_region, ↓aw_skip, ↓aw_seq, ↓aw_block, ↓aw_exit, ↓aw_ret, ↓sops_nil, ↓sops_go, ↓dops_nil, ↓dopsX_nil, ↓dopsR_nil, ↓vdn, vup, extr_20, extr_21, extr_30, extr_31, extr_32, List.map_cons, List.map_nil, cond_true, cond_false, aop, aThen, aBlock, argEnv, ev, sput, sputO, binK, binI, unK, builtinK, pickK, Nat.reduceBEq, Nat.reduceAdd, Int.reduceBEq, Int.reduceBNe, Int.reduceLT, aPost, resK, tup, tyf])
    clear hN11
    try clear N11
    refine aws_cut fun N12 hN12 => ?_
    simp (maxSteps := 2000000) only [s60, ↓aw_region, ↓aw_skip, ↓aw_seq, ↓aw_block, ↓aw_exit, ↓aw_ret, ↓sops_nil, ↓sops_go, ↓dops_nil, ↓dopsX_nil, ↓dopsR_nil, ↓vdn, vup, extr_20, extr_21, extr_30, extr_31, extr_32, List.map_cons, List.map_nil, cond_true, cond_false, aop, aThen, aBlock, argEnv, ev, sput, sputO, binK, binI, unK, builtinK, pickK, Nat.reduceBEq, Nat.reduceAdd, Int.reduceBEq, Int.reduceBNe, Int.reduceLT, aPost, resK, tup, tyf]
    refine hQb _ _ _ (hQa _ _ _ ?_)
    simp (maxSteps := 2000000) only [s60, ↓aw_region, ↓aw_skip, ↓aw_seq, ↓aw_block, ↓aw_exit, ↓aw_ret, ↓sops_nil, ↓sops_go, ↓dops_nil, ↓dopsX_nil, ↓dopsR_nil, ↓vdn, vup, extr_20, extr_21, extr_30, extr_31, extr_32, List.map_cons, List.map_nil, cond_true, cond_false, aop, aThen, aBlock, argEnv, ev, sput, sputO, binK, binI, unK, builtinK, pickK, Nat.reduceBEq, Nat.reduceAdd, Int.reduceBEq, Int.reduceBNe, Int.reduceLT, aPost, resK, tup, tyf, if_true]
    refine hX [(1, .pointer (some ⟨h.length, 0, none⟩)), (2, .slice none 0 0), (3, out), (4, vint (s : Nat)), (5, .pointer (some ⟨hp.length, 0, none⟩)), (26, .bool false)] _ _ ?_ (by simp (maxSteps := 2000000) only [↓aw_region, ↓aw_skip, ↓aw_seq, ↓aw_block, ↓aw_exit, ↓aw_ret, ↓sops_nil, ↓sops_go, ↓dops_nil, ↓dopsX_nil, ↓dopsR_nil, ↓vdn, vup, extr_20, extr_21, extr_30, extr_31, extr_32, List.map_cons, List.map_nil, cond_true, cond_false, aop, aThen, aBlock, argEnv, ev, sput, sputO, binK, binI, unK, builtinK, pickK, Nat.reduceBEq, Nat.reduceAdd, Int.reduceBEq, Int.reduceBNe, Int.reduceLT, aPost, resK, tup, tyf])
    clear hX
    try clear X
    obtain ⟨W, hW⟩ : ∃ W, W = worldsTo s n := ⟨_, rfl⟩
    have hWN : worldsN n s = W := hW.symm
    have hWl : W.length ≤ n := by rw [hW]; exact worldsTo_le s n
    have hW1 : 1 ≤ W.length := by rw [← hWN]; exact worldsN_pos hs1 hs'
    have hWlt : ∀ w ∈ W, w < n := fun w hw => (worldsTo_lt (by rw [← hW]; exact hw)).1
    have htm := htame s hs1 hs'
    rw [hWN] at htm
    rw [← hW] at how
    obtain ⟨T, hT⟩ : ∃ T, T = sysB n l W := ⟨_, rfl⟩
    have hcorner : cornerB n l s = (solveT (l.length + 1) W.length T).bind fun x => if x.any (fun q => decide (q < 0)) then none else some (spreadTo n W x W.length) := by rw [cornerB, hWN, hT]
    rw [← hT] at htm
    clear hW hQa hQb
    refine aws_cut fun N13 hN13 => ?_
    simp (maxSteps := 2000000) only [s60, ↓aw_region, ↓aw_skip, ↓aw_seq, ↓aw_block, ↓aw_exit, ↓aw_ret, ↓sops_nil, ↓sops_go, ↓dops_nil, ↓dopsX_nil, ↓dopsR_nil, ↓vdn, vup, extr_20, extr_21, extr_30, extr_31, extr_32, List.map_cons, List.map_nil, cond_true, cond_false, aop, aThen, aBlock, argEnv, ev, sput, sputO, binK, binI, unK, builtinK, pickK, Nat.reduceBEq, Nat.reduceAdd, Int.reduceBEq, Int.reduceBNe, Int.reduceLT, aPost, resK, tup, tyf, List.map_toArray]
    refine hN13 [(1, .pointer (some ⟨h.length, 0, none⟩)), (2, .slice none 0 0), (3, out), (4, vint (s : Nat)), (5, .pointer (some ⟨hp.length, 0, none⟩)), (7, .func (.func 100) #[] #[.pointer (some ⟨hp.length, 0, none⟩)]), (26, .bool false)] _ _ ?_ (by simp (maxSteps := 2000000) only [↓aw_region, ↓aw_skip, ↓aw_seq, ↓aw_block, ↓aw_exit, ↓aw_ret, ↓sops_nil, ↓sops_go, ↓dops_nil, ↓dopsX_nil, ↓dopsR_nil, ↓vdn, vup, extr_20, extr_21, extr_30, extr_31, extr_32, List.map_cons, List.map_nil, cond_true, cond_false, aop, aThen, aBlock, argEnv, ev, sput, sputO, binK, binI, unK, builtinK, pickK, Nat.reduceBEq, Nat.reduceAdd, Int.reduceBEq, Int.reduceBNe, Int.reduceLT, aPost, resK, tup, tyf])
    clear hN13
    try clear N13
    -- the first row
    have hpG : hp.length < G.length := get_lt g5
    have t1G : G[h.length]? = some (.cells [vint (n : Nat), v] 86 false) := (hEG.2 _ (get_lt t1p) id).trans t1p
    refine aws_cut fun N14 hN14 => ?_
    simp only [q60_13]
    refine aw_drawX [(5, 1), (6, 4)] (by kernel_rfl) (by kernel_rfl) (by kernel_rfl) (by kernel_rfl) ?_
    simp (maxSteps := 2000000) only [s60, ↓aw_region, ↓aw_skip, ↓aw_seq, ↓aw_block, ↓aw_exit, ↓aw_ret, ↓sops_nil, ↓sops_go, ↓dops_nil, ↓dopsX_nil, ↓dopsR_nil, ↓vdn, vup, extr_20, extr_21, extr_30, extr_31, extr_32, List.map_cons, List.map_nil, cond_true, cond_false, aop, aThen, aBlock, argEnv, ev, sput, sputO, binK, binI, unK, builtinK, pickK, Nat.reduceBEq, Nat.reduceAdd, Int.reduceBEq, Int.reduceBNe, Int.reduceLT, aPost, resK, tup, tyf, tA0, loadT0 t1G, Int.natCast_nonneg, hsh, hsub, callK, List.nil_append, List.append_nil, List.toList_toArray, List.cons_append]
    refine ⟨_, _, (show APure prog 70 [vint 1] G (qV ((1 : Int) : Rat)) from whole_call), rfl, ?_⟩
    refine (row_call (q := ((1 : Int) : Rat)) g5 how.int (by omega) (show 2 ^ n - 1 < 9223372036854775808 by omega)).mono ?_
    rintro r0 G1 ⟨x1, x2, x3⟩
    have x2' : OwnP 26 G1 r0 (rowC T W.length 0) := by rw [hT, rowC_sum]; exact x2
    obtain ⟨bb, yy, hr0, -⟩ := ownP_shape x2' rowC_ne
    have lit0 : ∀ K : Value → Heap → Prop, buildSliceK prog G1 103 1 [(0, r0)] K = K (.slice (some ⟨G1.length, 0, none⟩) 1 1) (G1 ++ [.cells [r0] 47 false]) := fun K => by rw [hr0]; exact litV el_103 zero_47 esz_47
    simp (maxSteps := 2000000) only [s60, ↓aw_region, ↓aw_skip, ↓aw_seq, ↓aw_block, ↓aw_exit, ↓aw_ret, ↓sops_nil, ↓sops_go, ↓dops_nil, ↓dopsX_nil, ↓dopsR_nil, ↓vdn, vup, extr_20, extr_21, extr_30, extr_31, extr_32, List.map_cons, List.map_nil, cond_true, cond_false, aop, aThen, aBlock, argEnv, ev, sput, sputO, binK, binI, unK, builtinK, pickK, Nat.reduceBEq, Nat.reduceAdd, Int.reduceBEq, Int.reduceBNe, Int.reduceLT, aPost, resK, tup, tyf, lit0]
    refine hN14 [(1, .pointer (some ⟨h.length, 0, none⟩)), (2, .slice none 0 0), (3, out), (4, vint (s : Nat)), (5, .pointer (some ⟨hp.length, 0, none⟩)), (7, .func (.func 100) #[] #[.pointer (some ⟨hp.length, 0, none⟩)]), (8, .slice (some ⟨G1.length, 0, none⟩) 1 1), (26, .bool false)] _ _ ?_ (by simp (maxSteps := 2000000) only [↓aw_region, ↓aw_skip, ↓aw_seq, ↓aw_block, ↓aw_exit, ↓aw_ret, ↓sops_nil, ↓sops_go, ↓dops_nil, ↓dopsX_nil, ↓dopsR_nil, ↓vdn, vup, extr_20, extr_21, extr_30, extr_31, extr_32, List.map_cons, List.map_nil, cond_true, cond_false, aop, aThen, aBlock, argEnv, ev, sput, sputO, binK, binI, unK, builtinK, pickK, Nat.reduceBEq, Nat.reduceAdd, Int.reduceBEq, Int.reduceBNe, Int.reduceLT, aPost, resK, tup, tyf])
    clear hN14
    try clear N14
    have hbr0 : blkOf r0 = some bb := by rw [hr0]; rfl
    have hbb := x3 bb hbr0
    have R0 : Rows hp.length (G1 ++ [.cells [r0] 47 false]) (.slice (some ⟨G1.length, 0, none⟩) 1 1) [r0] W.length T := by
      obtain ⟨b2, y2, e1, e2⟩ := ownP_shape x2' rowC_ne
      have hbl : bb < G1.length := by rw [e1] at hbr0; cases hbr0; exact get_lt e2
      refine ⟨.inl ⟨_, rfl, get_new _ _⟩, by simp, fun i hi => ?_, fun i j hi hj _ => ?_, fun i hi hc => ?_, ⟨fun b hb => ?_, fun i b hi hb => ?_⟩⟩
      · obtain rfl : i = 0 := by simpa using hi
        exact x2'.ext (Ext.app _ _ _)
      · simp at hi hj; omega
      · obtain rfl : i = 0 := by simpa using hi
        simp only [List.getD, List.getElem?_cons_zero, Option.getD_some, hbr0] at hc
        cases hc; omega
      · cases hb; have := x1.1; omega
      · obtain rfl : i = 0 := by simpa using hi
        simp only [List.getD, List.getElem?_cons_zero, Option.getD_some, hbr0] at hb
        cases hb; omega
    have how0 : OwnSl 3 (G1 ++ [.cells [r0] 47 false]) wv (castI W) := how.ext (S := fun _ => False) (x1.trans (Ext.app _ _ _)) (fun _ _ => id)
    have g50 : (G1 ++ [Blk.cells [r0] 47 false])[hp.length]? = some (.cells [wv] 38 false) := get_old ((x1.2 _ hpG id).trans g5) _
    have hE0 : Ext (fun _ => False) hp (G1 ++ [.cells [r0] 47 false]) := hEG.trans (x1.trans (Ext.app _ _ _))
    clear x1 x2 x2' x3 lit0 g5 how hEG t1G b5 hE1 hH1 hH1l H1
    have tI : ∀ G : Heap, Ext (fun _ => False) hp G → G[h.length]? = some (.cells [vint (n : Nat), v] 86 false) ∧ PairSl G v l := fun G hx => ⟨(hx.2 _ (get_lt t1p) id).trans t1p, hv.ext (hE.trans (hEp.trans hx))⟩
    -- a row for each bet
    refine aws_cutW fun X hX => ?_
    refine aws_cut fun N15 hN15 => ?_
    simp (maxSteps := 2000000) only [s60, ↓aw_region, ↓aw_skip, ↓aw_seq, ↓aw_block, ↓aw_exit, ↓aw_ret, ↓sops_nil, ↓sops_go, ↓dops_nil, ↓dopsX_nil, ↓dopsR_nil, ↓vdn, vup, extr_20, extr_21, extr_30, extr_31, extr_32, List.map_cons, List.map_nil, cond_true, cond_false, aop, aThen, aBlock, argEnv, ev, sput, sputO, binK, binI, unK, builtinK, pickK, Nat.reduceBEq, Nat.reduceAdd, Int.reduceBEq, Int.reduceBNe, Int.reduceLT, aPost, resK, tup, tyf, tA1, loadT1 (tI _ hE0).1, hv.len]
    refine hN15 [(1, .pointer (some ⟨h.length, 0, none⟩)), (2, .slice none 0 0), (3, out), (4, vint (s : Nat)), (5, .pointer (some ⟨hp.length, 0, none⟩)), (7, .func (.func 100) #[] #[.pointer (some ⟨hp.length, 0, none⟩)]), (8, .slice (some ⟨G1.length, 0, none⟩) 1 1), (26, .bool false), (48, v), (49, vint l.length), (50, .int .i64 0)] _ _ ?_ (by simp (maxSteps := 2000000) only [↓aw_region, ↓aw_skip, ↓aw_seq, ↓aw_block, ↓aw_exit, ↓aw_ret, ↓sops_nil, ↓sops_go, ↓dops_nil, ↓dopsX_nil, ↓dopsR_nil, ↓vdn, vup, extr_20, extr_21, extr_30, extr_31, extr_32, List.map_cons, List.map_nil, cond_true, cond_false, aop, aThen, aBlock, argEnv, ev, sput, sputO, binK, binI, unK, builtinK, pickK, Nat.reduceBEq, Nat.reduceAdd, Int.reduceBEq, Int.reduceBNe, Int.reduceLT, aPost, resK, tup, tyf])
    clear hN15
    try clear N15
    refine aws_block ?_
    refine aws_hide fun Qa hQa => ?_
    refine aw_loopW (γ := Nat × Value × List Value × Heap) (fun g => g.1 ≤ l.length ∧ g.2.2.1.length = g.1 + 1 ∧ Rows hp.length g.2.2.2 g.2.1 g.2.2.1 W.length T ∧ (1 ≤ g.1 → OwnV 47 g.2.2.2 g.2.1 g.2.2.1) ∧ Ext (fun _ => False) hp g.2.2.2 ∧ g.2.2.2[hp.length]? = some (.cells [wv] 38 false) ∧ OwnSl 3 g.2.2.2 wv (castI W))
      (fun g => ([(1, .pointer (some ⟨h.length, 0, none⟩)), (2, .slice none 0 0), (3, out), (4, vint (s : Nat)), (5, .pointer (some ⟨hp.length, 0, none⟩)), (7, .func (.func 100) #[] #[.pointer (some ⟨hp.length, 0, none⟩)]), (8, g.2.1), (26, .bool false), (48, v), (49, vint l.length), (50, vint (g.1 : Nat))], g.2.2.2)) (fun g => l.length - g.1) (0, .slice (some ⟨G1.length, 0, none⟩) 1 1, [r0], G1 ++ [.cells [r0] 47 false]) ⟨Nat.zero_le _, rfl, R0, fun h0 => absurd h0 (by simp), hE0, g50, how0⟩ (by simp (maxSteps := 2000000) only [↓aw_region, ↓aw_skip, ↓aw_seq, ↓aw_block, ↓aw_exit, ↓aw_ret, ↓sops_nil, ↓sops_go, ↓dops_nil, ↓dopsX_nil, ↓dopsR_nil, ↓vdn, vup, extr_20, extr_21, extr_30, extr_31, extr_32, List.map_cons, List.map_nil, cond_true, cond_false, aop, aThen, aBlock, argEnv, ev, sput, sputO, binK, binI, unK, builtinK, pickK, Nat.reduceBEq, Nat.reduceAdd, Int.reduceBEq, Int.reduceBNe, Int.reduceLT, aPost, resK, tup, tyf, Int.natCast_zero]) rfl ?_
    rintro ⟨i, q, ws, G⟩ ⟨hi, hwsl, R, hOwn, hEG, g5, how⟩
    simp only at hi hwsl R hOwn hEG g5 how
    refine aws_hide fun Qb hQb => ?_
    simp only [l60_1]
    have sepq : blkOf q ≠ some hp.length ∧ ∀ b, blkOf wv = some b → blkOf q ≠ some b := by
      obtain ⟨bq, cq, e1, e2, e3⟩ := R.sl.blk R.ne
      refine ⟨fun hc => ?_, fun b hb hc => ?_⟩
      · rw [e1] at hc; cases hc
        rw [g5] at e2; cases e2
      · rw [e1] at hc; cases hc
        obtain ⟨ys, e4⟩ := how.ints hb
        rw [e4] at e2; cases e2
    by_cases hiin : (i : Int) < l.length
    · have hi' : i < l.length := by omega
      obtain ⟨tG, hvG⟩ := tI G hEG
      obtain ⟨⟨x, y⟩, hxy⟩ : ∃ p, l.getD i (0, 0) = p := ⟨_, rfl⟩
      have hb := hok i hi'
      rw [hxy] at hb
      simp only [okB, Bool.and_eq_true, decide_eq_true_eq] at hb
      obtain ⟨e, he⟩ : ∃ e : Nat, x = e := ⟨x.toNat, by omega⟩
      subst he
      have hee : e < 2 ^ n := by
        have := hb.2.1
        exact_mod_cast this
      refine aws_cut fun N16 hN16 => ?_
      simp (maxSteps := 2000000) only [s60, ↓aw_region, ↓aw_skip, ↓aw_seq, ↓aw_block, ↓aw_exit, ↓aw_ret, ↓sops_nil, ↓sops_go, ↓dops_nil, ↓dopsX_nil, ↓dopsR_nil, ↓vdn, vup, extr_20, extr_21, extr_30, extr_31, extr_32, List.map_cons, List.map_nil, cond_true, cond_false, aop, aThen, aBlock, argEnv, ev, sput, sputO, binK, binI, unK, builtinK, pickK, Nat.reduceBEq, Nat.reduceAdd, Int.reduceBEq, Int.reduceBNe, Int.reduceLT, aPost, resK, tup, tyf, hiin]
      refine hN16 [(1, .pointer (some ⟨h.length, 0, none⟩)), (2, .slice none 0 0), (3, out), (4, vint (s : Nat)), (5, .pointer (some ⟨hp.length, 0, none⟩)), (7, .func (.func 100) #[] #[.pointer (some ⟨hp.length, 0, none⟩)]), (8, q), (26, .bool false), (48, v), (49, vint l.length), (50, vint (i : Nat)), (51, .bool true)] _ _ ?_ (by simp (maxSteps := 2000000) only [↓aw_region, ↓aw_skip, ↓aw_seq, ↓aw_block, ↓aw_exit, ↓aw_ret, ↓sops_nil, ↓sops_go, ↓dops_nil, ↓dopsX_nil, ↓dopsR_nil, ↓vdn, vup, extr_20, extr_21, extr_30, extr_31, extr_32, List.map_cons, List.map_nil, cond_true, cond_false, aop, aThen, aBlock, argEnv, ev, sput, sputO, binK, binI, unK, builtinK, pickK, Nat.reduceBEq, Nat.reduceAdd, Int.reduceBEq, Int.reduceBNe, Int.reduceLT, aPost, resK, tup, tyf])
      clear hN16
      try clear N16
      refine aws_cut fun N17 hN17 => ?_
      simp (maxSteps := 2000000) only [s60, ↓aw_region, ↓aw_skip, ↓aw_seq, ↓aw_block, ↓aw_exit, ↓aw_ret, ↓sops_nil, ↓sops_go, ↓dops_nil, ↓dopsX_nil, ↓dopsR_nil, ↓vdn, vup, extr_20, extr_21, extr_30, extr_31, extr_32, List.map_cons, List.map_nil, cond_true, cond_false, aop, aThen, aBlock, argEnv, ev, sput, sputO, binK, binI, unK, builtinK, pickK, Nat.reduceBEq, Nat.reduceAdd, Int.reduceBEq, Int.reduceBNe, Int.reduceLT, aPost, resK, tup, tyf]
      refine hN17 [(1, .pointer (some ⟨h.length, 0, none⟩)), (2, .slice none 0 0), (3, out), (4, vint (s : Nat)), (5, .pointer (some ⟨hp.length, 0, none⟩)), (7, .func (.func 100) #[] #[.pointer (some ⟨hp.length, 0, none⟩)]), (8, q), (26, .bool false), (48, v), (49, vint l.length), (50, vint (i : Nat))] _ _ ?_ (by simp (maxSteps := 2000000) only [↓aw_region, ↓aw_skip, ↓aw_seq, ↓aw_block, ↓aw_exit, ↓aw_ret, ↓sops_nil, ↓sops_go, ↓dops_nil, ↓dopsX_nil, ↓dopsR_nil, ↓vdn, vup, extr_20, extr_21, extr_30, extr_31, extr_32, List.map_cons, List.map_nil, cond_true, cond_false, aop, aThen, aBlock, argEnv, ev, sput, sputO, binK, binI, unK, builtinK, pickK, Nat.reduceBEq, Nat.reduceAdd, Int.reduceBEq, Int.reduceBNe, Int.reduceLT, aPost, resK, tup, tyf])
      clear hN17
      try clear N17
      refine aws_cutW fun B hB => ?_
      refine aws_block ?_
      obtain ⟨G2, hG2⟩ : ∃ G2, G2 = G ++ [bB e y] := ⟨_, rfl⟩
      have c10 : G2[G.length]? = some (bB e y) := by rw [hG2]; exact get_new _ _
      have hE2 : Ext (fun _ => False) G G2 := by rw [hG2]; exact Ext.app _ _ _
      have hG2l : G2.length = G.length + 1 := by rw [hG2]; simp
      refine aws_cut fun N18 hN18 => ?_
      simp (maxSteps := 2000000) only [s60, ↓aw_region, ↓aw_skip, ↓aw_seq, ↓aw_block, ↓aw_exit, ↓aw_ret, ↓sops_nil, ↓sops_go, ↓dops_nil, ↓dopsX_nil, ↓dopsR_nil, ↓vdn, vup, extr_20, extr_21, extr_30, extr_31, extr_32, List.map_cons, List.map_nil, cond_true, cond_false, aop, aThen, aBlock, argEnv, ev, sput, sputO, binK, binI, unK, builtinK, pickK, Nat.reduceBEq, Nat.reduceAdd, Int.reduceBEq, Int.reduceBNe, Int.reduceLT, aPost, resK, tup, tyf, hvG.idx el_30 esz_92 hi', hvG.load shp_92 hi', hxy, allocK, newPtr, zero_92, storeBt (get_new G zB) rfl, set_new]
      rw [← hG2]
      refine hN18 [(1, .pointer (some ⟨h.length, 0, none⟩)), (2, .slice none 0 0), (3, out), (4, vint (s : Nat)), (5, .pointer (some ⟨hp.length, 0, none⟩)), (7, .func (.func 100) #[] #[.pointer (some ⟨hp.length, 0, none⟩)]), (8, q), (10, .pointer (some ⟨G.length, 0, none⟩)), (26, .bool false), (48, v), (49, vint l.length), (50, vint (i : Nat))] _ _ ?_ (by simp (maxSteps := 2000000) only [↓aw_region, ↓aw_skip, ↓aw_seq, ↓aw_block, ↓aw_exit, ↓aw_ret, ↓sops_nil, ↓sops_go, ↓dops_nil, ↓dopsX_nil, ↓dopsR_nil, ↓vdn, vup, extr_20, extr_21, extr_30, extr_31, extr_32, List.map_cons, List.map_nil, cond_true, cond_false, aop, aThen, aBlock, argEnv, ev, sput, sputO, binK, binI, unK, builtinK, pickK, Nat.reduceBEq, Nat.reduceAdd, Int.reduceBEq, Int.reduceBNe, Int.reduceLT, aPost, resK, tup, tyf])
      clear hN18
      try clear N18
      refine aw_aws ?_
      simp only [q60_17]
      refine aw_drawX [(6, 1), (7, 4)] (by kernel_rfl) (by kernel_rfl) (by kernel_rfl) (by kernel_rfl) ?_
      simp (maxSteps := 2000000) only [s60, ↓aw_region, ↓aw_skip, ↓aw_seq, ↓aw_block, ↓aw_exit, ↓aw_ret, ↓sops_nil, ↓sops_go, ↓dops_nil, ↓dopsX_nil, ↓dopsR_nil, ↓vdn, vup, extr_20, extr_21, extr_30, extr_31, extr_32, List.map_cons, List.map_nil, cond_true, cond_false, aop, aThen, aBlock, argEnv, ev, sput, sputO, binK, binI, unK, builtinK, pickK, Nat.reduceBEq, Nat.reduceAdd, Int.reduceBEq, Int.reduceBNe, Int.reduceLT, aPost, resK, tup, tyf, bA0, bA1, loadB0 c10, loadB1 c10, callK, List.nil_append, List.append_nil, List.toList_toArray, List.cons_append]
      refine ⟨_, _, (show APure prog 64 [vint y, vint 12] G2 (qV (Rat.divInt y 12)) from frac_call (by decide) (by omega) (by decide)), rfl, ?_⟩
      refine (row_call (q := Rat.divInt y 12) ((hE2.2 _ (get_lt g5) id).trans g5) (how.ext (S := fun _ => False) hE2 (fun _ _ => id)).int (by omega) (show e < 9223372036854775808 by omega)).mono ?_
      rintro rv G3 ⟨x1, x2, x3⟩
      have x2' : OwnP 26 G3 rv (rowC T W.length ws.length) := by
        rw [hwsl, hT, rowC_bet, hxy]; exact x2
      obtain ⟨bb, yy, hrv, -⟩ := ownP_shape x2' rowC_ne
      have lit0 : ∀ K : Value → Heap → Prop, buildSliceK prog G3 103 1 [(0, rv)] K = K (.slice (some ⟨G3.length, 0, none⟩) 1 1) (G3 ++ [.cells [rv] 47 false]) := fun K => by rw [hrv]; exact litV el_103 zero_47 esz_47
      simp (maxSteps := 2000000) only [s60, ↓aw_region, ↓aw_skip, ↓aw_seq, ↓aw_block, ↓aw_exit, ↓aw_ret, ↓sops_nil, ↓sops_go, ↓dops_nil, ↓dopsX_nil, ↓dopsR_nil, ↓vdn, vup, extr_20, extr_21, extr_30, extr_31, extr_32, List.map_cons, List.map_nil, cond_true, cond_false, aop, aThen, aBlock, argEnv, ev, sput, sputO, binK, binI, unK, builtinK, pickK, Nat.reduceBEq, Nat.reduceAdd, Int.reduceBEq, Int.reduceBNe, Int.reduceLT, aPost, resK, tup, tyf, lit0]
      have hE34 : Ext (fun _ => False) G (G3 ++ [.cells [rv] 47 false]) := hE2.trans (x1.trans (Ext.app _ _ _))
      refine R.more (by omega) (by have := hEG.1; omega) hE34 (x2'.ext (Ext.app _ _ _)) (fun b hb => by have := x3 b hb; omega) (get_new _ _) fun q' h' ho' R' hEa hEb => ?_
      have keep : ∀ b, b < G.length → blkOf q ≠ some b → h'[b]? = G[b]? := fun b hb hne => by
        rw [hEb.2 b (by have := hE34.1; omega) hne]; exact hE34.2 b hb id
      have hEh : Ext (fun _ => False) hp h' := by
        refine ⟨by have := hEG.1; have := hE34.1; have := hEa.1; omega, fun z hz _ => ?_⟩
        rw [hEa.2 z (by have := hEG.1; have := hE34.1; omega) (by omega), hE34.2 z (by have := hEG.1; omega) id]
        exact hEG.2 z hz id
      have g5' : h'[hp.length]? = some (.cells [wv] 38 false) := by rw [keep _ (get_lt g5) sepq.1]; exact g5
      have how' : OwnSl 3 h' wv (castI W) := how.same fun b hb => keep b (how.lt hb) (sepq.2 b hb)
      refine hB [(1, .pointer (some ⟨h.length, 0, none⟩)), (2, .slice none 0 0), (3, out), (4, vint (s : Nat)), (5, .pointer (some ⟨hp.length, 0, none⟩)), (7, .func (.func 100) #[] #[.pointer (some ⟨hp.length, 0, none⟩)]), (8, q'), (26, .bool false), (48, v), (49, vint l.length), (50, vint (i : Nat))] _ _ ?_ (by simp (maxSteps := 2000000) only [↓aw_region, ↓aw_skip, ↓aw_seq, ↓aw_block, ↓aw_exit, ↓aw_ret, ↓sops_nil, ↓sops_go, ↓dops_nil, ↓dopsX_nil, ↓dopsR_nil, ↓vdn, vup, extr_20, extr_21, extr_30, extr_31, extr_32, List.map_cons, List.map_nil, cond_true, cond_false, aop, aThen, aBlock, argEnv, ev, sput, sputO, binK, binI, unK, builtinK, pickK, Nat.reduceBEq, Nat.reduceAdd, Int.reduceBEq, Int.reduceBNe, Int.reduceLT, aPost, resK, tup, tyf])
      clear hB
      try clear B
      refine aw_aws ?_
      simp (maxSteps := 2000000) only [s60, ↓aw_region, ↓aw_skip, ↓aw_seq, ↓aw_block, ↓aw_exit, ↓aw_ret, ↓sops_nil, ↓sops_go, ↓dops_nil, ↓dopsX_nil, ↓dopsR_nil, ↓vdn, vup, extr_20, extr_21, extr_30, extr_31, extr_32, List.map_cons, List.map_nil, cond_true, cond_false, aop, aThen, aBlock, argEnv, ev, sput, sputO, binK, binI, unK, builtinK, pickK, Nat.reduceBEq, Nat.reduceAdd, Int.reduceBEq, Int.reduceBNe, Int.reduceLT, aPost, resK, tup, tyf, add1 (show i < 9223372036854775807 by omega)]
      exact hQb _ _ _ ⟨(i + 1, q', ws ++ [rv], h'), ⟨hi', by simp [hwsl], R', fun _ => ho', hEh, g5', how'⟩, by simp only; omega, by simp (maxSteps := 2000000) only [↓aw_region, ↓aw_skip, ↓aw_seq, ↓aw_block, ↓aw_exit, ↓aw_ret, ↓sops_nil, ↓sops_go, ↓dops_nil, ↓dopsX_nil, ↓dopsR_nil, ↓vdn, vup, extr_20, extr_21, extr_30, extr_31, extr_32, List.map_cons, List.map_nil, cond_true, cond_false, aop, aThen, aBlock, argEnv, ev, sput, sputO, binK, binI, unK, builtinK, pickK, Nat.reduceBEq, Nat.reduceAdd, Int.reduceBEq, Int.reduceBNe, Int.reduceLT, aPost, resK, tup, tyf], rfl⟩
    have hil := loopEnd hiin hi
    subst hil
    refine aws_cut fun N19 hN19 => ?_
    simp (maxSteps := 2000000) only [s60, ↓aw_region, ↓aw_skip, ↓aw_seq, ↓aw_block, ↓aw_exit, ↓aw_ret, ↓sops_nil, ↓sops_go, ↓dops_nil, ↓dopsX_nil, ↓dopsR_nil, ↓vdn, vup, extr_20, extr_21, extr_30, extr_31, extr_32, List.map_cons, List.map_nil, cond_true, cond_false, aop, aThen, aBlock, argEnv, ev, sput, sputO, binK, binI, unK, builtinK, pickK, Nat.reduceBEq, Nat.reduceAdd, Int.reduceBEq, Int.reduceBNe, Int.reduceLT, aPost, resK, tup, tyf, hiin]
    refine hN19 [(1, .pointer (some ⟨h.length, 0, none⟩)), (2, .slice none 0 0), (3, out), (4, vint (s : Nat)), (5, .pointer (some ⟨hp.length, 0, none⟩)), (7, .func (.func 100) #[] #[.pointer (some ⟨hp.length, 0, none⟩)]), (8, q), (26, .bool false), (48, v), (49, vint l.length), (50, vint (l.length : Nat)), (51, .bool false)] _ _ ?_ (by simp (maxSteps := 2000000) only [↓aw_region, ↓aw_skip, ↓aw_seq, ↓aw_block, ↓aw_exit, ↓aw_ret, ↓sops_nil, ↓sops_go, ↓dops_nil, ↓dopsX_nil, ↓dopsR_nil, ↓vdn, vup, extr_20, extr_21, extr_30, extr_31, extr_32, List.map_cons, List.map_nil, cond_true, cond_false, aop, aThen, aBlock, argEnv, ev, sput, sputO, binK, binI, unK, builtinK, pickK, Nat.reduceBEq, Nat.reduceAdd, Int.reduceBEq, Int.reduceBNe, Int.reduceLT, aPost, resK, tup, tyf])
    clear hN19
    try clear N19
    refine aws_cut fun N20 hN20 => ?_
    simp (maxSteps := 2000000) only [s60, ↓aw_region, ↓aw_skip, ↓aw_seq, ↓aw_block, ↓aw_exit, ↓aw_ret, ↓sops_nil, ↓sops_go, ↓dops_nil, ↓dopsX_nil, ↓dopsR_nil, ↓vdn, vup, extr_20, extr_21, extr_30, extr_31, extr_32, List.map_cons, List.map_nil, cond_true, cond_false, aop, aThen, aBlock, argEnv, ev, sput, sputO, binK, binI, unK, builtinK, pickK, Nat.reduceBEq, Nat.reduceAdd, Int.reduceBEq, Int.reduceBNe, Int.reduceLT, aPost, resK, tup, tyf]
    refine hQb _ _ _ (hQa _ _ _ ?_)
    simp (maxSteps := 2000000) only [s60, ↓aw_region, ↓aw_skip, ↓aw_seq, ↓aw_block, ↓aw_exit, ↓aw_ret, ↓sops_nil, ↓sops_go, ↓dops_nil, ↓dopsX_nil, ↓dopsR_nil, ↓vdn, vup, extr_20, extr_21, extr_30, extr_31, extr_32, List.map_cons, List.map_nil, cond_true, cond_false, aop, aThen, aBlock, argEnv, ev, sput, sputO, binK, binI, unK, builtinK, pickK, Nat.reduceBEq, Nat.reduceAdd, Int.reduceBEq, Int.reduceBNe, Int.reduceLT, aPost, resK, tup, tyf, if_true]
    refine hX [(1, .pointer (some ⟨h.length, 0, none⟩)), (2, .slice none 0 0), (3, out), (4, vint (s : Nat)), (5, .pointer (some ⟨hp.length, 0, none⟩)), (7, .func (.func 100) #[] #[.pointer (some ⟨hp.length, 0, none⟩)]), (8, q), (26, .bool false), (51, .bool false)] _ _ ?_ (by simp (maxSteps := 2000000) only [↓aw_region, ↓aw_skip, ↓aw_seq, ↓aw_block, ↓aw_exit, ↓aw_ret, ↓sops_nil, ↓sops_go, ↓dops_nil, ↓dopsX_nil, ↓dopsR_nil, ↓vdn, vup, extr_20, extr_21, extr_30, extr_31, extr_32, List.map_cons, List.map_nil, cond_true, cond_false, aop, aThen, aBlock, argEnv, ev, sput, sputO, binK, binI, unK, builtinK, pickK, Nat.reduceBEq, Nat.reduceAdd, Int.reduceBEq, Int.reduceBNe, Int.reduceLT, aPost, resK, tup, tyf])
    clear hX
    try clear X
    have ho := hOwn hl1
    obtain ⟨B, C, hqe, hBC, hBp, M, hbkp⟩ := R.mat ho
    rw [hwsl] at hqe hBC M hbkp
    -- it is solved
    have hli : (castI W).length = W.length := castI_len W
    have hsolve := solve_call M hBC (by omega) (by omega) hW1 (by omega) htm
    refine aws_cut fun N21 hN21 => ?_
    simp (maxSteps := 2000000) only [s60, ↓aw_region, ↓aw_skip, ↓aw_seq, ↓aw_block, ↓aw_exit, ↓aw_ret, ↓sops_nil, ↓sops_go, ↓dops_nil, ↓dopsX_nil, ↓dopsR_nil, ↓vdn, vup, extr_20, extr_21, extr_30, extr_31, extr_32, List.map_cons, List.map_nil, cond_true, cond_false, aop, aThen, aBlock, argEnv, ev, sput, sputO, binK, binI, unK, builtinK, pickK, Nat.reduceBEq, Nat.reduceAdd, Int.reduceBEq, Int.reduceBNe, Int.reduceLT, aPost, resK, tup, tyf, load1 g5 shp_38, how.int.len, hli, hqe, callK, List.nil_append, List.append_nil, List.toList_toArray, List.cons_append]
    refine hsolve.mono ?_
    rintro r G' ⟨hEs, x, ok, rfl, hres⟩
    simp (maxSteps := 2000000) only [s60, ↓aw_region, ↓aw_skip, ↓aw_seq, ↓aw_block, ↓aw_exit, ↓aw_ret, ↓sops_nil, ↓sops_go, ↓dops_nil, ↓dopsX_nil, ↓dopsR_nil, ↓vdn, vup, extr_20, extr_21, extr_30, extr_31, extr_32, List.map_cons, List.map_nil, cond_true, cond_false, aop, aThen, aBlock, argEnv, ev, sput, sputO, binK, binI, unK, builtinK, pickK, Nat.reduceBEq, Nat.reduceAdd, Int.reduceBEq, Int.reduceBNe, Int.reduceLT, aPost, resK, tup, tyf]
    refine hN21 [(1, .pointer (some ⟨h.length, 0, none⟩)), (2, .slice none 0 0), (3, out), (4, vint (s : Nat)), (5, .pointer (some ⟨hp.length, 0, none⟩)), (7, .func (.func 100) #[] #[.pointer (some ⟨hp.length, 0, none⟩)]), (11, x), (12, .bool ok), (26, .bool false), (51, .bool false)] _ _ ?_ (by simp (maxSteps := 2000000) only [↓aw_region, ↓aw_skip, ↓aw_seq, ↓aw_block, ↓aw_exit, ↓aw_ret, ↓sops_nil, ↓sops_go, ↓dops_nil, ↓dopsX_nil, ↓dopsR_nil, ↓vdn, vup, extr_20, extr_21, extr_30, extr_31, extr_32, List.map_cons, List.map_nil, cond_true, cond_false, aop, aThen, aBlock, argEnv, ev, sput, sputO, binK, binI, unK, builtinK, pickK, Nat.reduceBEq, Nat.reduceAdd, Int.reduceBEq, Int.reduceBNe, Int.reduceLT, aPost, resK, tup, tyf])
    clear hN21
    try clear N21
    have hBk : ∀ b, Tch B (l.length + 1) (fun i => bkOf (ws.getD i undef)) b → hp.length ≤ b ∧ b ≠ hp.length ∧ ∀ b', blkOf wv = some b' → b ≠ b' := fun b hb => by
      rcases hb with rfl | ⟨j, hj, rfl⟩
      · obtain ⟨us, e2⟩ := M.outer
        refine ⟨hBp, fun hc => ?_, fun b' hb' hc => ?_⟩
        · rw [← hc, e2] at g5
          exact absurd (Blk.cells.inj (Option.some.inj g5)).2.1 (by decide)
        · obtain ⟨ys, e4⟩ := how.ints hb'
          rw [← hc, e2] at e4; cases e4
      · obtain ⟨cc, xs, e1, e3, e2⟩ := M.row j hj
        refine ⟨hbkp j hj, fun hc => ?_, fun b' hb' hc => ?_⟩
        · have e2' : G[bkOf (ws.getD j undef)]? = _ := e2
          have hc' : bkOf (ws.getD j undef) = hp.length := hc
          rw [hc', g5] at e2'; cases e2'
        · obtain ⟨ys, e4⟩ := how.ints hb'
          have e2' : G[bkOf (ws.getD j undef)]? = _ := e2
          have hc' : bkOf (ws.getD j undef) = b' := hc
          rw [hc', e4] at e2'; cases e2'
    have hEG' : Ext (fun _ => False) hp G' := by
      refine ⟨by have := hEG.1; have := hEs.1; omega, fun z hz _ => ?_⟩
      rw [hEs.2 z (by have := hEG.1; omega) (fun hc => by have := (hBk z hc).1; omega)]
      exact hEG.2 z hz id
    have g5' : G'[hp.length]? = some (.cells [wv] 38 false) := by
      rw [hEs.2 _ (get_lt g5) (fun hc => (hBk _ hc).2.1 rfl)]; exact g5
    have how' : OwnSl 3 G' wv (castI W) := how.same fun b hb => hEs.2 b (how.lt hb) (fun hc => (hBk _ hc).2.2 b hb rfl)
    have hlen' : G.length ≤ G'.length := hEs.1
    clear hQa hQb M R hOwn sepq ho hsolve hBk hEs hqe g50 how0 hE0 R0 hlen'
    -- the next set
    have goOn : ∀ e out' G2, CornSl G2 out' (cornersTo n l s) → Ext (fun _ => False) H G2 → (∀ b, blkOf out' = some b → H.length ≤ b) → ELe e [(1, .pointer (some ⟨h.length, 0, none⟩)), (2, .slice none 0 0), (3, out'), (4, vint (s : Nat)), (26, .bool false), (51, .bool false)] → Y e G2 := by
      intro e out' G2 c1 c2 c3 he
      refine hY _ _ _ ?_ he
      refine aw_aws ?_
      have ea : addV .i64 (s : Int) 1 = ((s + 1 : Nat) : Int) := add1 (by omega)
      simp (maxSteps := 2000000) only [s60, ↓aw_region, ↓aw_skip, ↓aw_seq, ↓aw_block, ↓aw_exit, ↓aw_ret, ↓sops_nil, ↓sops_go, ↓dops_nil, ↓dopsX_nil, ↓dopsR_nil, ↓vdn, vup, extr_20, extr_21, extr_30, extr_31, extr_32, List.map_cons, List.map_nil, cond_true, cond_false, aop, aThen, aBlock, argEnv, ev, sput, sputO, binK, binI, unK, builtinK, pickK, Nat.reduceBEq, Nat.reduceAdd, Int.reduceBEq, Int.reduceBNe, Int.reduceLT, aPost, resK, tup, tyf, ea]
      exact hQ2 _ _ _ ⟨(s + 1, out', G2), ⟨by simp only; omega, by simp only; omega, by simpa using c1, c2, c3⟩, by simp only; omega, by simp (maxSteps := 2000000) only [↓aw_region, ↓aw_skip, ↓aw_seq, ↓aw_block, ↓aw_exit, ↓aw_ret, ↓sops_nil, ↓sops_go, ↓dops_nil, ↓dopsX_nil, ↓dopsR_nil, ↓vdn, vup, extr_20, extr_21, extr_30, extr_31, extr_32, List.map_cons, List.map_nil, cond_true, cond_false, aop, aThen, aBlock, argEnv, ev, sput, sputO, binK, binI, unK, builtinK, pickK, Nat.reduceBEq, Nat.reduceAdd, Int.reduceBEq, Int.reduceBNe, Int.reduceLT, aPost, resK, tup, tyf], rfl⟩
    have hcsucc : cornersTo n l s = cornersTo n l (s - 1) ++ (cornerB n l s).toList := by
      obtain ⟨s', rfl⟩ : ∃ s', s = s' + 1 := ⟨s - 1, by omega⟩
      rw [cornersTo]; simp
    have skip : cornerB n l s = none → ∀ e, ELe e [(1, .pointer (some ⟨h.length, 0, none⟩)), (2, .slice none 0 0), (3, out), (4, vint (s : Nat)), (26, .bool false), (51, .bool false)] → Y e G' := fun h0 e he => goOn e out G' (by rw [hcsucc, h0]; simpa using hcs.ext hEG') (hEp.trans hEG') hbo he
    cases hsol : solveT (l.length + 1) W.length T with
    | none =>
      rw [hsol] at hres hcorner
      simp only at hres
      obtain ⟨rfl, rfl⟩ := hres
      refine aw_aws ?_
      simp (maxSteps := 2000000) only [s60, ↓aw_region, ↓aw_skip, ↓aw_seq, ↓aw_block, ↓aw_exit, ↓aw_ret, ↓sops_nil, ↓sops_go, ↓dops_nil, ↓dopsX_nil, ↓dopsR_nil, ↓vdn, vup, extr_20, extr_21, extr_30, extr_31, extr_32, List.map_cons, List.map_nil, cond_true, cond_false, aop, aThen, aBlock, argEnv, ev, sput, sputO, binK, binI, unK, builtinK, pickK, Nat.reduceBEq, Nat.reduceAdd, Int.reduceBEq, Int.reduceBNe, Int.reduceLT, aPost, resK, tup, tyf, Bool.not_false]
      exact skip hcorner _ (by simp (maxSteps := 2000000) only [↓aw_region, ↓aw_skip, ↓aw_seq, ↓aw_block, ↓aw_exit, ↓aw_ret, ↓sops_nil, ↓sops_go, ↓dops_nil, ↓dopsX_nil, ↓dopsR_nil, ↓vdn, vup, extr_20, extr_21, extr_30, extr_31, extr_32, List.map_cons, List.map_nil, cond_true, cond_false, aop, aThen, aBlock, argEnv, ev, sput, sputO, binK, binI, unK, builtinK, pickK, Nat.reduceBEq, Nat.reduceAdd, Int.reduceBEq, Int.reduceBNe, Int.reduceLT, aPost, resK, tup, tyf])
    | some xs =>
      rw [hsol, Option.bind_some] at hcorner
      rw [hsol] at hres
      simp only at hres
      obtain ⟨rfl, hox, hbx⟩ := hres
      have hxl : xs.length = W.length := solveT_len hsol
      have hany : ((xs.map ofQ).any fun p => decide (p.1 < 0)) = xs.any fun q => decide (q < 0) := by
        rw [List.any_map]
        congr 1
        funext q
        refine decide_eq_decide.2 ?_
        show q.num < 0 ↔ q < 0
        rw [← Rat.not_le, ← Rat.num_nonneg]; omega
      have hneg := hasF_call (g := 102) (cap := #[]) (f := fun p => decide (p.1 < 0)) hox.pair (by simp; omega) (fun h' hx p hp => neg_call)
      rw [hany] at hneg
      refine aws_cutW fun X hX => ?_
      refine aws_cut fun N22 hN22 => ?_
      simp (maxSteps := 2000000) only [s60, ↓aw_region, ↓aw_skip, ↓aw_seq, ↓aw_block, ↓aw_exit, ↓aw_ret, ↓sops_nil, ↓sops_go, ↓dops_nil, ↓dopsX_nil, ↓dopsR_nil, ↓vdn, vup, extr_20, extr_21, extr_30, extr_31, extr_32, List.map_cons, List.map_nil, cond_true, cond_false, aop, aThen, aBlock, argEnv, ev, sput, sputO, binK, binI, unK, builtinK, pickK, Nat.reduceBEq, Nat.reduceAdd, Int.reduceBEq, Int.reduceBNe, Int.reduceLT, aPost, resK, tup, tyf, Bool.not_true, callK, List.nil_append, List.append_nil, List.toList_toArray, List.cons_append]
      refine hneg.mono ?_
      rintro _ G' ⟨rfl, rfl⟩
      refine hN22 [(1, .pointer (some ⟨h.length, 0, none⟩)), (2, .slice none 0 0), (3, out), (4, vint (s : Nat)), (5, .pointer (some ⟨hp.length, 0, none⟩)), (7, .func (.func 100) #[] #[.pointer (some ⟨hp.length, 0, none⟩)]), (11, x), (12, .bool true), (26, .bool false), (51, .bool false), (77, .bool (xs.any fun q => decide (q < 0)))] _ _ ?_ (by simp (maxSteps := 2000000) only [↓aw_region, ↓aw_skip, ↓aw_seq, ↓aw_block, ↓aw_exit, ↓aw_ret, ↓sops_nil, ↓sops_go, ↓dops_nil, ↓dopsX_nil, ↓dopsR_nil, ↓vdn, vup, extr_20, extr_21, extr_30, extr_31, extr_32, List.map_cons, List.map_nil, cond_true, cond_false, aop, aThen, aBlock, argEnv, ev, sput, sputO, binK, binI, unK, builtinK, pickK, Nat.reduceBEq, Nat.reduceAdd, Int.reduceBEq, Int.reduceBNe, Int.reduceLT, aPost, resK, tup, tyf])
      clear hN22
      try clear N22
      cases hn : xs.any fun q => decide (q < 0) with
      | true =>
        rw [hn, if_pos rfl] at hcorner
        refine aws_true rfl ?_
        refine aw_aws ?_
        simp (maxSteps := 2000000) only [s60, ↓aw_region, ↓aw_skip, ↓aw_seq, ↓aw_block, ↓aw_exit, ↓aw_ret, ↓sops_nil, ↓sops_go, ↓dops_nil, ↓dopsX_nil, ↓dopsR_nil, ↓vdn, vup, extr_20, extr_21, extr_30, extr_31, extr_32, List.map_cons, List.map_nil, cond_true, cond_false, aop, aThen, aBlock, argEnv, ev, sput, sputO, binK, binI, unK, builtinK, pickK, Nat.reduceBEq, Nat.reduceAdd, Int.reduceBEq, Int.reduceBNe, Int.reduceLT, aPost, resK, tup, tyf]
        exact skip hcorner _ (by simp (maxSteps := 2000000) only [↓aw_region, ↓aw_skip, ↓aw_seq, ↓aw_block, ↓aw_exit, ↓aw_ret, ↓sops_nil, ↓sops_go, ↓dops_nil, ↓dopsX_nil, ↓dopsR_nil, ↓vdn, vup, extr_20, extr_21, extr_30, extr_31, extr_32, List.map_cons, List.map_nil, cond_true, cond_false, aop, aThen, aBlock, argEnv, ev, sput, sputO, binK, binI, unK, builtinK, pickK, Nat.reduceBEq, Nat.reduceAdd, Int.reduceBEq, Int.reduceBNe, Int.reduceLT, aPost, resK, tup, tyf])
      | false =>
        rw [hn, if_neg (by decide)] at hcorner
        refine aws_false rfl ?_
        refine aw_aws ?_
        simp (maxSteps := 2000000) only [s60, ↓aw_region, ↓aw_skip, ↓aw_seq, ↓aw_block, ↓aw_exit, ↓aw_ret, ↓sops_nil, ↓sops_go, ↓dops_nil, ↓dopsX_nil, ↓dopsR_nil, ↓vdn, vup, extr_20, extr_21, extr_30, extr_31, extr_32, List.map_cons, List.map_nil, cond_true, cond_false, aop, aThen, aBlock, argEnv, ev, sput, sputO, binK, binI, unK, builtinK, pickK, Nat.reduceBEq, Nat.reduceAdd, Int.reduceBEq, Int.reduceBNe, Int.reduceLT, aPost, resK, tup, tyf]
        refine hX [(1, .pointer (some ⟨h.length, 0, none⟩)), (2, .slice none 0 0), (3, out), (4, vint (s : Nat)), (5, .pointer (some ⟨hp.length, 0, none⟩)), (7, .func (.func 100) #[] #[.pointer (some ⟨hp.length, 0, none⟩)]), (11, x), (26, .bool false), (51, .bool false)] _ _ ?_ (by simp (maxSteps := 2000000) only [↓aw_region, ↓aw_skip, ↓aw_seq, ↓aw_block, ↓aw_exit, ↓aw_ret, ↓sops_nil, ↓sops_go, ↓dops_nil, ↓dopsX_nil, ↓dopsR_nil, ↓vdn, vup, extr_20, extr_21, extr_30, extr_31, extr_32, List.map_cons, List.map_nil, cond_true, cond_false, aop, aThen, aBlock, argEnv, ev, sput, sputO, binK, binI, unK, builtinK, pickK, Nat.reduceBEq, Nat.reduceAdd, Int.reduceBEq, Int.reduceBNe, Int.reduceLT, aPost, resK, tup, tyf])
        clear hX
        try clear X
        obtain ⟨tG, -⟩ := tI G' hEG'
        -- the belief
        obtain ⟨F, hF⟩ : ∃ F : Nat → Heap, F = fun k => G' ++ [.ints [0, 1] 26 false] ++ [.cells ((flatP ((spreadTo n W xs k).map ofQ)).map vint) 26 false] := ⟨_, rfl⟩
        have hF0 : ∀ k, (F k)[G'.length + 1]? = some (.cells ((flatP ((spreadTo n W xs k).map ofQ)).map vint) 26 false) := fun k => by rw [hF]; exact b2_1 ..
        have hFE : ∀ k, Ext (fun _ => False) G' (F k) := fun k => by rw [hF]; exact e2 ..
        have hFs : ∀ k, (F k).set (G'.length + 1) (.cells ((flatP ((spreadTo n W xs (k + 1)).map ofQ)).map vint) 26 false) = F (k + 1) := fun k => by
          simp only [hF]
          rw [show G'.length + 1 = (G' ++ [Blk.ints [0, 1] 26 false]).length by simp, set_new]
        have hFl : ∀ k, (F k).length = G'.length + 2 := fun k => by rw [hF]; simp
        have hF1 : G' ++ [.ints [0, 1] 26 false] ++ [.cells ((flatP (List.replicate n ((0 : Int), (1 : Int)))).map vint) 26 false] = F 0 := by
          rw [hF]; simp only [spreadTo, List.map_replicate]; rfl
        have rep := repeat_call (h := G' ++ [.ints [0, 1] 26 false]) (b0 := G'.length) (x := 0) (y := 1) (get_new _ _) (show 1 ≤ n by omega) (show n < 6 by omega)
        rw [hF1, List.length_append, List.length_singleton] at rep
        have q0 : qV ((0 : Int) : Rat) = .agg #[vint 0, vint 1] := rfl
        refine aws_cut fun N23 hN23 => ?_
        simp only [q60_21]
        refine aw_drawR (fun z => z[h.length]? = some (Blk.cells [vint (n : Nat), v] 86 false)) [(0, 1), (3, 5)] (by kernel_rfl) (by kernel_rfl) (by kernel_rfl) (by kernel_rfl) tG ?_
        simp (maxSteps := 2000000) only [s60, ↓aw_region, ↓aw_skip, ↓aw_seq, ↓aw_block, ↓aw_exit, ↓aw_ret, ↓sops_nil, ↓sops_go, ↓dops_nil, ↓dopsX_nil, ↓dopsR_nil, ↓vdn, vup, extr_20, extr_21, extr_30, extr_31, extr_32, List.map_cons, List.map_nil, cond_true, cond_false, aop, aThen, aBlock, argEnv, ev, sput, sputO, binK, binI, unK, builtinK, pickK, Nat.reduceBEq, Nat.reduceAdd, Int.reduceBEq, Int.reduceBNe, Int.reduceLT, aPost, resK, tup, tyf, callK, List.nil_append, List.append_nil, List.toList_toArray, List.cons_append]
        refine ⟨_, _, (show APure prog 70 [vint 0] G' (qV ((0 : Int) : Rat)) from whole_call), rfl, ?_⟩
        simp (maxSteps := 2000000) only [s60, ↓aw_region, ↓aw_skip, ↓aw_seq, ↓aw_block, ↓aw_exit, ↓aw_ret, ↓sops_nil, ↓sops_go, ↓dops_nil, ↓dopsX_nil, ↓dopsR_nil, ↓vdn, vup, extr_20, extr_21, extr_30, extr_31, extr_32, List.map_cons, List.map_nil, cond_true, cond_false, aop, aThen, aBlock, argEnv, ev, sput, sputO, binK, binI, unK, builtinK, pickK, Nat.reduceBEq, Nat.reduceAdd, Int.reduceBEq, Int.reduceBNe, Int.reduceLT, aPost, resK, tup, tyf, q0, litF, tA0, callK, List.nil_append, List.append_nil, List.toList_toArray, List.cons_append]
        refine ⟨get_old tG _, vint (n : Nat), fun z hz => by simp only [loadT0 hz], _, _, rep, (hFE 0).2 _ (get_lt tG) id |>.trans tG, ?_⟩
        refine hN23 [(1, .pointer (some ⟨h.length, 0, none⟩)), (2, .slice none 0 0), (3, out), (4, vint (s : Nat)), (5, .pointer (some ⟨hp.length, 0, none⟩)), (7, .func (.func 100) #[] #[.pointer (some ⟨hp.length, 0, none⟩)]), (11, x), (13, .slice (some ⟨G'.length + 1, 0, none⟩) n n), (26, .bool false), (51, .bool false)] _ _ ?_ (by simp (maxSteps := 2000000) only [↓aw_region, ↓aw_skip, ↓aw_seq, ↓aw_block, ↓aw_exit, ↓aw_ret, ↓sops_nil, ↓sops_go, ↓dops_nil, ↓dopsX_nil, ↓dopsR_nil, ↓vdn, vup, extr_20, extr_21, extr_30, extr_31, extr_32, List.map_cons, List.map_nil, cond_true, cond_false, aop, aThen, aBlock, argEnv, ev, sput, sputO, binK, binI, unK, builtinK, pickK, Nat.reduceBEq, Nat.reduceAdd, Int.reduceBEq, Int.reduceBNe, Int.reduceLT, aPost, resK, tup, tyf])
        clear hN23
        try clear N23
        have g5F : ∀ k, (F k)[hp.length]? = some (.cells [wv] 38 false) := fun k => ((hFE k).2 _ (get_lt g5') id).trans g5'
        have howF : ∀ k, OwnSl 3 (F k) wv (castI W) := fun k => how'.ext (S := fun _ => False) (hFE k) (fun _ _ => id)
        refine aws_cutW fun U hU => ?_
        refine aws_cut fun N24 hN24 => ?_
        simp (maxSteps := 2000000) only [s60, ↓aw_region, ↓aw_skip, ↓aw_seq, ↓aw_block, ↓aw_exit, ↓aw_ret, ↓sops_nil, ↓sops_go, ↓dops_nil, ↓dopsX_nil, ↓dopsR_nil, ↓vdn, vup, extr_20, extr_21, extr_30, extr_31, extr_32, List.map_cons, List.map_nil, cond_true, cond_false, aop, aThen, aBlock, argEnv, ev, sput, sputO, binK, binI, unK, builtinK, pickK, Nat.reduceBEq, Nat.reduceAdd, Int.reduceBEq, Int.reduceBNe, Int.reduceLT, aPost, resK, tup, tyf, load1 (g5F 0) shp_38, (howF 0).int.len, hli]
        refine hN24 [(1, .pointer (some ⟨h.length, 0, none⟩)), (2, .slice none 0 0), (3, out), (4, vint (s : Nat)), (5, .pointer (some ⟨hp.length, 0, none⟩)), (7, .func (.func 100) #[] #[.pointer (some ⟨hp.length, 0, none⟩)]), (11, x), (13, .slice (some ⟨G'.length + 1, 0, none⟩) n n), (26, .bool false), (51, .bool false), (83, wv), (84, vint (W.length : Nat)), (85, .int .i64 0)] _ _ ?_ (by simp (maxSteps := 2000000) only [↓aw_region, ↓aw_skip, ↓aw_seq, ↓aw_block, ↓aw_exit, ↓aw_ret, ↓sops_nil, ↓sops_go, ↓dops_nil, ↓dopsX_nil, ↓dopsR_nil, ↓vdn, vup, extr_20, extr_21, extr_30, extr_31, extr_32, List.map_cons, List.map_nil, cond_true, cond_false, aop, aThen, aBlock, argEnv, ev, sput, sputO, binK, binI, unK, builtinK, pickK, Nat.reduceBEq, Nat.reduceAdd, Int.reduceBEq, Int.reduceBNe, Int.reduceLT, aPost, resK, tup, tyf])
        clear hN24
        try clear N24
        refine aws_block ?_
        refine aws_hide fun Qa hQa => ?_
        refine aw_loopW (γ := Nat) (fun k => k ≤ W.length) (fun k => ([(1, .pointer (some ⟨h.length, 0, none⟩)), (2, .slice none 0 0), (3, out), (4, vint (s : Nat)), (5, .pointer (some ⟨hp.length, 0, none⟩)), (7, .func (.func 100) #[] #[.pointer (some ⟨hp.length, 0, none⟩)]), (11, x), (13, .slice (some ⟨G'.length + 1, 0, none⟩) n n), (26, .bool false), (51, .bool false), (83, wv), (84, vint (W.length : Nat)), (85, vint (k : Nat))], F k)) (fun k => W.length - k) 0 (Nat.zero_le _) (by simp (maxSteps := 2000000) only [↓aw_region, ↓aw_skip, ↓aw_seq, ↓aw_block, ↓aw_exit, ↓aw_ret, ↓sops_nil, ↓sops_go, ↓dops_nil, ↓dopsX_nil, ↓dopsR_nil, ↓vdn, vup, extr_20, extr_21, extr_30, extr_31, extr_32, List.map_cons, List.map_nil, cond_true, cond_false, aop, aThen, aBlock, argEnv, ev, sput, sputO, binK, binI, unK, builtinK, pickK, Nat.reduceBEq, Nat.reduceAdd, Int.reduceBEq, Int.reduceBNe, Int.reduceLT, aPost, resK, tup, tyf, Int.natCast_zero]) rfl ?_
        rintro k hk
        refine aws_hide fun Qb hQb => ?_
        simp only [l60_2]
        by_cases hkin : (k : Int) < W.length
        · have hk' : k < W.length := by omega
          have hkc : k < (castI W).length := by omega
          have hw : W.getD k 0 < n := hWlt _ (by rw [List.getD, List.getElem?_eq_getElem hk']; exact List.getElem_mem hk')
          have hxF := (hox.ext (hFE k)).pair
          have hkx : k < (xs.map ofQ).length := by rw [List.length_map]; omega
          have hgx : (xs.map ofQ).getD k (0, 0) = ofQ (xs.getD k 0) := by
            rw [List.getD, List.getElem?_map, List.getElem?_eq_getElem (show k < xs.length by omega), List.getD, List.getElem?_eq_getElem (show k < xs.length by omega)]; rfl
          have hslen : ((spreadTo n W xs k).map ofQ).length = n := by rw [List.length_map, spreadTo_len]
          have pF := pairSl_cells (hF0 k)
          rw [hslen] at pF
          have hidx : ∀ K : Value → Prop, idxAddrK prog 90 (.slice (some ⟨G'.length + 1, 0, none⟩) n n) (vint (W.getD k 0 : Nat)) K = K (.pointer (some ⟨G'.length + 1, W.getD k 0 * 2, none⟩)) := fun K => by
            rw [pF.idx el_90 esz_26 (by rw [hslen]; exact hw), elemP_pair]
          have hst : ∀ K : Heap → Prop, storeK prog (F k) 26 (.pointer (some ⟨G'.length + 1, W.getD k 0 * 2, none⟩)) (.agg #[vint (xs.getD k 0).num, vint ((xs.getD k 0).den : Int)]) K = K (F (k + 1)) := fun K => by
            rw [storePC (hF0 k) shp_26 (by rw [hslen]; exact hw), ← hFs k, spreadTo, List.map_set]; rfl
          refine aws_cut fun N25 hN25 => ?_
          simp (maxSteps := 2000000) only [s60, ↓aw_region, ↓aw_skip, ↓aw_seq, ↓aw_block, ↓aw_exit, ↓aw_ret, ↓sops_nil, ↓sops_go, ↓dops_nil, ↓dopsX_nil, ↓dopsR_nil, ↓vdn, vup, extr_20, extr_21, extr_30, extr_31, extr_32, List.map_cons, List.map_nil, cond_true, cond_false, aop, aThen, aBlock, argEnv, ev, sput, sputO, binK, binI, unK, builtinK, pickK, Nat.reduceBEq, Nat.reduceAdd, Int.reduceBEq, Int.reduceBNe, Int.reduceLT, aPost, resK, tup, tyf, hkin]
          refine hN25 [(1, .pointer (some ⟨h.length, 0, none⟩)), (2, .slice none 0 0), (3, out), (4, vint (s : Nat)), (5, .pointer (some ⟨hp.length, 0, none⟩)), (7, .func (.func 100) #[] #[.pointer (some ⟨hp.length, 0, none⟩)]), (11, x), (13, .slice (some ⟨G'.length + 1, 0, none⟩) n n), (26, .bool false), (51, .bool false), (83, wv), (84, vint (W.length : Nat)), (85, vint (k : Nat)), (86, .bool true)] _ _ ?_ (by simp (maxSteps := 2000000) only [↓aw_region, ↓aw_skip, ↓aw_seq, ↓aw_block, ↓aw_exit, ↓aw_ret, ↓sops_nil, ↓sops_go, ↓dops_nil, ↓dopsX_nil, ↓dopsR_nil, ↓vdn, vup, extr_20, extr_21, extr_30, extr_31, extr_32, List.map_cons, List.map_nil, cond_true, cond_false, aop, aThen, aBlock, argEnv, ev, sput, sputO, binK, binI, unK, builtinK, pickK, Nat.reduceBEq, Nat.reduceAdd, Int.reduceBEq, Int.reduceBNe, Int.reduceLT, aPost, resK, tup, tyf])
          clear hN25
          try clear N25
          refine aws_cut fun N26 hN26 => ?_
          simp (maxSteps := 2000000) only [s60, ↓aw_region, ↓aw_skip, ↓aw_seq, ↓aw_block, ↓aw_exit, ↓aw_ret, ↓sops_nil, ↓sops_go, ↓dops_nil, ↓dopsX_nil, ↓dopsR_nil, ↓vdn, vup, extr_20, extr_21, extr_30, extr_31, extr_32, List.map_cons, List.map_nil, cond_true, cond_false, aop, aThen, aBlock, argEnv, ev, sput, sputO, binK, binI, unK, builtinK, pickK, Nat.reduceBEq, Nat.reduceAdd, Int.reduceBEq, Int.reduceBNe, Int.reduceLT, aPost, resK, tup, tyf]
          refine hN26 [(1, .pointer (some ⟨h.length, 0, none⟩)), (2, .slice none 0 0), (3, out), (4, vint (s : Nat)), (5, .pointer (some ⟨hp.length, 0, none⟩)), (7, .func (.func 100) #[] #[.pointer (some ⟨hp.length, 0, none⟩)]), (11, x), (13, .slice (some ⟨G'.length + 1, 0, none⟩) n n), (26, .bool false), (51, .bool false), (83, wv), (84, vint (W.length : Nat)), (85, vint (k : Nat))] _ _ ?_ (by simp (maxSteps := 2000000) only [↓aw_region, ↓aw_skip, ↓aw_seq, ↓aw_block, ↓aw_exit, ↓aw_ret, ↓sops_nil, ↓sops_go, ↓dops_nil, ↓dopsX_nil, ↓dopsR_nil, ↓vdn, vup, extr_20, extr_21, extr_30, extr_31, extr_32, List.map_cons, List.map_nil, cond_true, cond_false, aop, aThen, aBlock, argEnv, ev, sput, sputO, binK, binI, unK, builtinK, pickK, Nat.reduceBEq, Nat.reduceAdd, Int.reduceBEq, Int.reduceBNe, Int.reduceLT, aPost, resK, tup, tyf])
          clear hN26
          try clear N26
          refine aws_cutW fun B hB => ?_
          refine aws_block ?_
          refine aws_cut fun N27 hN27 => ?_
          simp (maxSteps := 2000000) only [s60, ↓aw_region, ↓aw_skip, ↓aw_seq, ↓aw_block, ↓aw_exit, ↓aw_ret, ↓sops_nil, ↓sops_go, ↓dops_nil, ↓dopsX_nil, ↓dopsR_nil, ↓vdn, vup, extr_20, extr_21, extr_30, extr_31, extr_32, List.map_cons, List.map_nil, cond_true, cond_false, aop, aThen, aBlock, argEnv, ev, sput, sputO, binK, binI, unK, builtinK, pickK, Nat.reduceBEq, Nat.reduceAdd, Int.reduceBEq, Int.reduceBNe, Int.reduceLT, aPost, resK, tup, tyf, (howF k).int.idx el_38 esz_3 hkc, (howF k).int.load shp_3 hkc, castI_getD]
          refine hN27 [(1, .pointer (some ⟨h.length, 0, none⟩)), (2, .slice none 0 0), (3, out), (4, vint (s : Nat)), (5, .pointer (some ⟨hp.length, 0, none⟩)), (7, .func (.func 100) #[] #[.pointer (some ⟨hp.length, 0, none⟩)]), (11, x), (13, .slice (some ⟨G'.length + 1, 0, none⟩) n n), (14, vint (k : Nat)), (15, vint (W.getD k 0 : Nat)), (26, .bool false), (51, .bool false), (83, wv), (84, vint (W.length : Nat)), (85, vint (k : Nat))] _ _ ?_ (by simp (maxSteps := 2000000) only [↓aw_region, ↓aw_skip, ↓aw_seq, ↓aw_block, ↓aw_exit, ↓aw_ret, ↓sops_nil, ↓sops_go, ↓dops_nil, ↓dopsX_nil, ↓dopsR_nil, ↓vdn, vup, extr_20, extr_21, extr_30, extr_31, extr_32, List.map_cons, List.map_nil, cond_true, cond_false, aop, aThen, aBlock, argEnv, ev, sput, sputO, binK, binI, unK, builtinK, pickK, Nat.reduceBEq, Nat.reduceAdd, Int.reduceBEq, Int.reduceBNe, Int.reduceLT, aPost, resK, tup, tyf])
          clear hN27
          try clear N27
          refine aw_aws ?_
          simp (maxSteps := 2000000) only [s60, ↓aw_region, ↓aw_skip, ↓aw_seq, ↓aw_block, ↓aw_exit, ↓aw_ret, ↓sops_nil, ↓sops_go, ↓dops_nil, ↓dopsX_nil, ↓dopsR_nil, ↓vdn, vup, extr_20, extr_21, extr_30, extr_31, extr_32, List.map_cons, List.map_nil, cond_true, cond_false, aop, aThen, aBlock, argEnv, ev, sput, sputO, binK, binI, unK, builtinK, pickK, Nat.reduceBEq, Nat.reduceAdd, Int.reduceBEq, Int.reduceBNe, Int.reduceLT, aPost, resK, tup, tyf, hxF.idx el_47 esz_26 hkx, hxF.load shp_26 hkx, hgx, hidx, ofQ, hst]
          refine hB [(1, .pointer (some ⟨h.length, 0, none⟩)), (2, .slice none 0 0), (3, out), (4, vint (s : Nat)), (5, .pointer (some ⟨hp.length, 0, none⟩)), (7, .func (.func 100) #[] #[.pointer (some ⟨hp.length, 0, none⟩)]), (11, x), (13, .slice (some ⟨G'.length + 1, 0, none⟩) n n), (26, .bool false), (51, .bool false), (83, wv), (84, vint (W.length : Nat)), (85, vint (k : Nat))] _ _ ?_ (by simp (maxSteps := 2000000) only [↓aw_region, ↓aw_skip, ↓aw_seq, ↓aw_block, ↓aw_exit, ↓aw_ret, ↓sops_nil, ↓sops_go, ↓dops_nil, ↓dopsX_nil, ↓dopsR_nil, ↓vdn, vup, extr_20, extr_21, extr_30, extr_31, extr_32, List.map_cons, List.map_nil, cond_true, cond_false, aop, aThen, aBlock, argEnv, ev, sput, sputO, binK, binI, unK, builtinK, pickK, Nat.reduceBEq, Nat.reduceAdd, Int.reduceBEq, Int.reduceBNe, Int.reduceLT, aPost, resK, tup, tyf])
          clear hB
          try clear B
          refine aw_aws ?_
          simp (maxSteps := 2000000) only [s60, ↓aw_region, ↓aw_skip, ↓aw_seq, ↓aw_block, ↓aw_exit, ↓aw_ret, ↓sops_nil, ↓sops_go, ↓dops_nil, ↓dopsX_nil, ↓dopsR_nil, ↓vdn, vup, extr_20, extr_21, extr_30, extr_31, extr_32, List.map_cons, List.map_nil, cond_true, cond_false, aop, aThen, aBlock, argEnv, ev, sput, sputO, binK, binI, unK, builtinK, pickK, Nat.reduceBEq, Nat.reduceAdd, Int.reduceBEq, Int.reduceBNe, Int.reduceLT, aPost, resK, tup, tyf, add1 (show k < 9223372036854775807 by omega)]
          exact hQb _ _ _ ⟨k + 1, hk', by omega, by simp (maxSteps := 2000000) only [↓aw_region, ↓aw_skip, ↓aw_seq, ↓aw_block, ↓aw_exit, ↓aw_ret, ↓sops_nil, ↓sops_go, ↓dops_nil, ↓dopsX_nil, ↓dopsR_nil, ↓vdn, vup, extr_20, extr_21, extr_30, extr_31, extr_32, List.map_cons, List.map_nil, cond_true, cond_false, aop, aThen, aBlock, argEnv, ev, sput, sputO, binK, binI, unK, builtinK, pickK, Nat.reduceBEq, Nat.reduceAdd, Int.reduceBEq, Int.reduceBNe, Int.reduceLT, aPost, resK, tup, tyf], rfl⟩
        have hkk := loopEnd hkin hk
        subst hkk
        refine aws_cut fun N28 hN28 => ?_
        simp (maxSteps := 2000000) only [s60, ↓aw_region, ↓aw_skip, ↓aw_seq, ↓aw_block, ↓aw_exit, ↓aw_ret, ↓sops_nil, ↓sops_go, ↓dops_nil, ↓dopsX_nil, ↓dopsR_nil, ↓vdn, vup, extr_20, extr_21, extr_30, extr_31, extr_32, List.map_cons, List.map_nil, cond_true, cond_false, aop, aThen, aBlock, argEnv, ev, sput, sputO, binK, binI, unK, builtinK, pickK, Nat.reduceBEq, Nat.reduceAdd, Int.reduceBEq, Int.reduceBNe, Int.reduceLT, aPost, resK, tup, tyf, hkin]
        refine hN28 [(1, .pointer (some ⟨h.length, 0, none⟩)), (2, .slice none 0 0), (3, out), (4, vint (s : Nat)), (5, .pointer (some ⟨hp.length, 0, none⟩)), (7, .func (.func 100) #[] #[.pointer (some ⟨hp.length, 0, none⟩)]), (11, x), (13, .slice (some ⟨G'.length + 1, 0, none⟩) n n), (26, .bool false), (51, .bool false), (83, wv), (84, vint (W.length : Nat)), (85, vint (W.length : Nat)), (86, .bool false)] _ _ ?_ (by simp (maxSteps := 2000000) only [↓aw_region, ↓aw_skip, ↓aw_seq, ↓aw_block, ↓aw_exit, ↓aw_ret, ↓sops_nil, ↓sops_go, ↓dops_nil, ↓dopsX_nil, ↓dopsR_nil, ↓vdn, vup, extr_20, extr_21, extr_30, extr_31, extr_32, List.map_cons, List.map_nil, cond_true, cond_false, aop, aThen, aBlock, argEnv, ev, sput, sputO, binK, binI, unK, builtinK, pickK, Nat.reduceBEq, Nat.reduceAdd, Int.reduceBEq, Int.reduceBNe, Int.reduceLT, aPost, resK, tup, tyf])
        clear hN28
        try clear N28
        refine aws_cut fun N29 hN29 => ?_
        simp (maxSteps := 2000000) only [s60, ↓aw_region, ↓aw_skip, ↓aw_seq, ↓aw_block, ↓aw_exit, ↓aw_ret, ↓sops_nil, ↓sops_go, ↓dops_nil, ↓dopsX_nil, ↓dopsR_nil, ↓vdn, vup, extr_20, extr_21, extr_30, extr_31, extr_32, List.map_cons, List.map_nil, cond_true, cond_false, aop, aThen, aBlock, argEnv, ev, sput, sputO, binK, binI, unK, builtinK, pickK, Nat.reduceBEq, Nat.reduceAdd, Int.reduceBEq, Int.reduceBNe, Int.reduceLT, aPost, resK, tup, tyf]
        refine hQb _ _ _ (hQa _ _ _ ?_)
        simp (maxSteps := 2000000) only [s60, ↓aw_region, ↓aw_skip, ↓aw_seq, ↓aw_block, ↓aw_exit, ↓aw_ret, ↓sops_nil, ↓sops_go, ↓dops_nil, ↓dopsX_nil, ↓dopsR_nil, ↓vdn, vup, extr_20, extr_21, extr_30, extr_31, extr_32, List.map_cons, List.map_nil, cond_true, cond_false, aop, aThen, aBlock, argEnv, ev, sput, sputO, binK, binI, unK, builtinK, pickK, Nat.reduceBEq, Nat.reduceAdd, Int.reduceBEq, Int.reduceBNe, Int.reduceLT, aPost, resK, tup, tyf, if_true]
        refine hU [(1, .pointer (some ⟨h.length, 0, none⟩)), (2, .slice none 0 0), (3, out), (4, vint (s : Nat)), (5, .pointer (some ⟨hp.length, 0, none⟩)), (7, .func (.func 100) #[] #[.pointer (some ⟨hp.length, 0, none⟩)]), (11, x), (13, .slice (some ⟨G'.length + 1, 0, none⟩) n n), (26, .bool false), (51, .bool false), (86, .bool false)] _ _ ?_ (by simp (maxSteps := 2000000) only [↓aw_region, ↓aw_skip, ↓aw_seq, ↓aw_block, ↓aw_exit, ↓aw_ret, ↓sops_nil, ↓sops_go, ↓dops_nil, ↓dopsX_nil, ↓dopsR_nil, ↓vdn, vup, extr_20, extr_21, extr_30, extr_31, extr_32, List.map_cons, List.map_nil, cond_true, cond_false, aop, aThen, aBlock, argEnv, ev, sput, sputO, binK, binI, unK, builtinK, pickK, Nat.reduceBEq, Nat.reduceAdd, Int.reduceBEq, Int.reduceBNe, Int.reduceLT, aPost, resK, tup, tyf])
        clear hU
        try clear U
        -- it is noted
        have hcF := (hcs.ext (hEG'.trans (hFE W.length)))
        obtain ⟨us, hou, heach⟩ := hcF
        have hlen3 := heach.len
        have hcl := cornersTo_len n l (s - 1)
        refine aw_aws ?_
        simp (maxSteps := 2000000) only [s60, ↓aw_region, ↓aw_skip, ↓aw_seq, ↓aw_block, ↓aw_exit, ↓aw_ret, ↓sops_nil, ↓sops_go, ↓dops_nil, ↓dopsX_nil, ↓dopsR_nil, ↓vdn, vup, extr_20, extr_21, extr_30, extr_31, extr_32, List.map_cons, List.map_nil, cond_true, cond_false, aop, aThen, aBlock, argEnv, ev, sput, sputO, binK, binI, unK, builtinK, pickK, Nat.reduceBEq, Nat.reduceAdd, Int.reduceBEq, Int.reduceBNe, Int.reduceLT, aPost, resK, tup, tyf, litV el_88 zero_90 esz_90]
        refine OwnV.app (us := [.slice (some ⟨G'.length + 1, 0, none⟩) n n]) (hou.ext (Ext.app _ _ _)) app_88_88 (.inr ⟨(F W.length).length, 0, none, 1, [.slice (some ⟨G'.length + 1, 0, none⟩) n n], 90, false, rfl, Nat.le_refl _, by simp [view, Blk.view], rfl⟩) (fun w hw => ?_) (by simp; omega) ?_
        · rcases List.mem_append.1 hw with h1 | h1
          · obtain ⟨b, bl, rfl, _⟩ := heach.mem w h1
            exact ⟨rfl, rfl⟩
          · rw [List.mem_singleton.1 h1]; exact ⟨rfl, rfl⟩
        · intro out' G3 ho3 hE3 hb3
          have hol : ∀ b, blkOf out = some b → b < (F W.length).length := fun b hb => hou.lt hb
          have hHF := hEp.trans (hEG'.trans (hFE W.length))
          have hFk : Ext (fun _ => False) H G3 := ext_app hHF (H' := F W.length ++ [Blk.cells [.slice (some ⟨G'.length + 1, 0, none⟩) n n] 90 false]) (by simp) (fun z hz => List.getElem?_append_left (by have := hHF.1; omega)) hbo hE3
          have keep : ∀ bl c, (F W.length)[bl]? = some (Blk.cells c 26 false) → G3[bl]? = some (Blk.cells c 26 false) := fun bl c hbl => by
            have hlt := get_lt hbl
            rw [hE3.2 bl (by rw [List.length_append]; omega) (fun hc => ?_), List.getElem?_append_left hlt, hbl]
            obtain ⟨c', hc'⟩ := hou.blk hc
            rw [hbl] at hc'
            exact absurd (Blk.cells.inj (Option.some.inj hc')).2.1 (by decide)
          refine goOn _ out' G3 ⟨us ++ [.slice (some ⟨G'.length + 1, 0, none⟩) n n], ho3, ?_⟩ hFk (fun b hb => ?_) (by simp (maxSteps := 2000000) only [↓aw_region, ↓aw_skip, ↓aw_seq, ↓aw_block, ↓aw_exit, ↓aw_ret, ↓sops_nil, ↓sops_go, ↓dops_nil, ↓dopsX_nil, ↓dopsR_nil, ↓vdn, vup, extr_20, extr_21, extr_30, extr_31, extr_32, List.map_cons, List.map_nil, cond_true, cond_false, aop, aThen, aBlock, argEnv, ev, sput, sputO, binK, binI, unK, builtinK, pickK, Nat.reduceBEq, Nat.reduceAdd, Int.reduceBEq, Int.reduceBNe, Int.reduceLT, aPost, resK, tup, tyf])
          · rw [hcsucc, hcorner]
            refine Each.app (heach.imp fun w b ⟨bl, q1, q2⟩ => ⟨bl, q1, keep bl _ q2⟩) ⟨⟨G'.length + 1, by rw [spreadTo_len], keep _ _ (hF0 _)⟩, trivial⟩
          · rcases hb3 with h1 | ⟨b', h1, h2⟩
            · exact hbo b (h1 ▸ hb)
            · rw [h1] at hb; cases hb
              rw [List.length_append] at h2
              have := hHF.1; omega
  · have hss := loopEnd hin hs
    subst hss
    refine aws_cut fun N30 hN30 => ?_
    simp (maxSteps := 2000000) only [s60, ↓aw_region, ↓aw_skip, ↓aw_seq, ↓aw_block, ↓aw_exit, ↓aw_ret, ↓sops_nil, ↓sops_go, ↓dops_nil, ↓dopsX_nil, ↓dopsR_nil, ↓vdn, vup, extr_20, extr_21, extr_30, extr_31, extr_32, List.map_cons, List.map_nil, cond_true, cond_false, aop, aThen, aBlock, argEnv, ev, sput, sputO, binK, binI, unK, builtinK, pickK, Nat.reduceBEq, Nat.reduceAdd, Int.reduceBEq, Int.reduceBNe, Int.reduceLT, aPost, resK, tup, tyf, tA0, loadT0 t1p, Int.natCast_nonneg, hsh, hin]
    refine hQ2 _ _ _ (hQ _ _ _ ?_)
    simp (maxSteps := 2000000) only [s60, ↓aw_region, ↓aw_skip, ↓aw_seq, ↓aw_block, ↓aw_exit, ↓aw_ret, ↓sops_nil, ↓sops_go, ↓dops_nil, ↓dopsX_nil, ↓dopsR_nil, ↓vdn, vup, extr_20, extr_21, extr_30, extr_31, extr_32, List.map_cons, List.map_nil, cond_true, cond_false, aop, aThen, aBlock, argEnv, ev, sput, sputO, binK, binI, unK, builtinK, pickK, Nat.reduceBEq, Nat.reduceAdd, Int.reduceBEq, Int.reduceBNe, Int.reduceLT, aPost, resK, tup, tyf, if_true]
    refine hZ [(1, .pointer (some ⟨h.length, 0, none⟩)), (2, .slice none 0 0), (3, out), (4, vint (2 ^ n : Nat))] _ _ ?_ (by simp (maxSteps := 2000000) only [↓aw_region, ↓aw_skip, ↓aw_seq, ↓aw_block, ↓aw_exit, ↓aw_ret, ↓sops_nil, ↓sops_go, ↓dops_nil, ↓dopsX_nil, ↓dopsR_nil, ↓vdn, vup, extr_20, extr_21, extr_30, extr_31, extr_32, List.map_cons, List.map_nil, cond_true, cond_false, aop, aThen, aBlock, argEnv, ev, sput, sputO, binK, binI, unK, builtinK, pickK, Nat.reduceBEq, Nat.reduceAdd, Int.reduceBEq, Int.reduceBNe, Int.reduceLT, aPost, resK, tup, tyf])
    clear hZ
    try clear Z
    refine aw_aws ?_
    simp (maxSteps := 2000000) only [s60, ↓aw_region, ↓aw_skip, ↓aw_seq, ↓aw_block, ↓aw_exit, ↓aw_ret, ↓sops_nil, ↓sops_go, ↓dops_nil, ↓dopsX_nil, ↓dopsR_nil, ↓vdn, vup, extr_20, extr_21, extr_30, extr_31, extr_32, List.map_cons, List.map_nil, cond_true, cond_false, aop, aThen, aBlock, argEnv, ev, sput, sputO, binK, binI, unK, builtinK, pickK, Nat.reduceBEq, Nat.reduceAdd, Int.reduceBEq, Int.reduceBNe, Int.reduceLT, aPost, resK, tup, tyf]
    exact ⟨hE.trans hEp, hcs, fun b hb => by have := hbo b hb; omega⟩
end Go.Proofs.Try.Am

namespace Go.Proofs.Try.Am
open Go.Am
set_option maxRecDepth 100000
end Go.Proofs.Try.Am

namespace Go.Proofs.Try.Am
open Go.Am
set_option maxRecDepth 100000
end Go.Proofs.Try.Am

namespace Go.Proofs.Try.Am
open Go.Am
set_option maxRecDepth 100000
set_option maxHeartbeats 1000000

theorem cloneF_call [Tabs prog] {h : Heap} {v : Value} {ps : List (Int × Int)} (hv : PairSl h v ps) (hl : ps.length < 1099511627776) : ACall prog 57 [v] h fun r h' => PairSl h' r ps ∧ Ext (fun _ => False) h h' := by
  refine s57_call (by simp) ?_
  have hv' := hv
  rcases hv with ⟨rfl, rfl⟩ | ⟨b, o, sp, cap, c, e, ro, rfl, hc, hb, hx⟩
  · simp (maxSteps := 2000000) only [s57, ↓aw_region, ↓aw_skip, ↓aw_seq, ↓aw_block, ↓aw_exit, ↓aw_ret, ↓sops_nil, ↓sops_go, ↓dops_nil, ↓dopsX_nil, ↓dopsR_nil, ↓vdn, vup, extr_20, extr_21, extr_30, extr_31, extr_32, List.map_cons, List.map_nil, cond_true, cond_false, aop, aThen, aBlock, argEnv, ev, sput, sputO, binK, binI, unK, builtinK, pickK, Nat.reduceBEq, Nat.reduceAdd, Int.reduceBEq, Int.reduceBNe, Int.reduceLT, aPost, resK, tup, tyf, Option.isSome_some]
    exact ⟨.inl ⟨rfl, rfl⟩, Ext.refl _ _⟩
  · simp (maxSteps := 2000000) only [s57, ↓aw_region, ↓aw_skip, ↓aw_seq, ↓aw_block, ↓aw_exit, ↓aw_ret, ↓sops_nil, ↓sops_go, ↓dops_nil, ↓dopsX_nil, ↓dopsR_nil, ↓vdn, vup, extr_20, extr_21, extr_30, extr_31, extr_32, List.map_cons, List.map_nil, cond_true, cond_false, aop, aThen, aBlock, argEnv, ev, sput, sputO, binK, binI, unK, builtinK, pickK, Nat.reduceBEq, Nat.reduceAdd, Int.reduceBEq, Int.reduceBNe, Int.reduceLT, aPost, resK, tup, tyf, Option.isSome_some]
    simp only [buildSliceK, el_47, zero_26, esz_26, reps, fillL, mkb, intsOf]
    refine And.intro rfl (And.intro (by decide) (And.intro (Nat.zero_le _) ?_))
    refine (hv'.grow [.ints [] 26 false]).copy app_47_47 hl (by rw [List.getElem?_append_right (Nat.le_refl _)]; simp) ?_
    intro r g hr
    exact ⟨hr, by rw [List.append_assoc]; exact Ext.app _ _ _⟩
theorem min8 (n : Nat) : (if (8 : Int) < n then 8 else (n : Int)) = ((min n 8 : Nat) : Int) := by split <;> omega
theorem take_min {α : Type} (l : List α) (k : Nat) : l.take (min l.length k) = l.take k := by
  by_cases h : l.length ≤ k
  · rw [Nat.min_eq_left h, List.take_length, List.take_of_length_le h]
  · rw [Nat.min_eq_right (by omega)]
theorem fracs_call [Tabs prog] {h : Heap} {v : Value} {ps : List (Int × Int)} (hv : PairSl h v ps) : ACall prog 32 [v] h fun r h' => PairSl h' r (ps.take 8) ∧ Ext (fun _ => False) h h' := by
  refine s32_call (by simp) ?_
  simp (maxSteps := 2000000) only [s32, ↓aw_region, ↓aw_skip, ↓aw_seq, ↓aw_block, ↓aw_exit, ↓aw_ret, ↓sops_nil, ↓sops_go, ↓dops_nil, ↓dopsX_nil, ↓dopsR_nil, ↓vdn, vup, extr_20, extr_21, extr_30, extr_31, extr_32, List.map_cons, List.map_nil, cond_true, cond_false, aop, aThen, aBlock, argEnv, ev, sput, sputO, binK, binI, unK, builtinK, pickK, Nat.reduceBEq, Nat.reduceAdd, Int.reduceBEq, Int.reduceBNe, Int.reduceLT, aPost, resK, tup, tyf, hv.len, mmK, Bool.false_eq_true, if_false, gt_iff_lt, min8, Option.map_none, Option.map_some]
  refine hv.pre el_47 esz_26 (Nat.min_le_left _ _) ?_
  intro v' hv'
  rw [take_min] at hv'
  simp (maxSteps := 2000000) only [↓aw_region, ↓aw_skip, ↓aw_seq, ↓aw_block, ↓aw_exit, ↓aw_ret, ↓sops_nil, ↓sops_go, ↓dops_nil, ↓dopsX_nil, ↓dopsR_nil, ↓vdn, vup, extr_20, extr_21, extr_30, extr_31, extr_32, List.map_cons, List.map_nil, cond_true, cond_false, aop, aThen, aBlock, argEnv, ev, sput, sputO, binK, binI, unK, builtinK, pickK, Nat.reduceBEq, Nat.reduceAdd, Int.reduceBEq, Int.reduceBNe, Int.reduceLT, aPost, resK, tup, tyf, callK, List.nil_append, List.append_nil]
  exact cloneF_call hv' (by simp; omega)

theorem pairs_eq {xs ys : List (Int × Int)} (hl : xs.length = ys.length) (k : Nat) (hk : k ≤ xs.length) (h : ∀ i, i < k → xs.getD i (0, 0) = ys.getD i (0, 0)) (hk2 : k = xs.length) : xs = ys := by
  subst hk2
  apply List.ext_getElem hl
  intro i h1 h2
  have := h i h1
  rwa [List.getD, List.getD, List.getElem?_eq_getElem h1, List.getElem?_eq_getElem h2] at this

theorem s35_callW [Tabs Try.prog] {args : List Value} {h : Heap} {Q : Value → Heap → Prop} (hsz : args.length ≤ 26) (hk : AWS Try.prog 26 s35 (aPost Try.prog [.tmp 4] Q) (argEnv 0 args) h) : ACall Try.prog 35 args h Q :=
  acall_w Try.func35 rfl (enters_of Try.func35 (by kernel_rfl) rfl) rfl rfl (by decide) s35_strip s35_ok hsz hk
theorem equalF_call [Tabs prog] {h : Heap} {u v : Value} {xs ys : List (Int × Int)} (hu : PairSl h u xs) (hv : PairSl h v ys) (hl : xs.length < 9223372036854775808) : APure prog 35 [u, v] h (.bool (decide (xs = ys))) := by
  refine s35_callW (by simp) ?_
  simp only [s35]
  refine aws_cut fun N1 hN1 => ?_
  simp (maxSteps := 2000000) only [s35, ↓aw_region, ↓aw_skip, ↓aw_seq, ↓aw_block, ↓aw_exit, ↓aw_ret, ↓sops_nil, ↓sops_go, ↓dops_nil, ↓dopsX_nil, ↓dopsR_nil, ↓vdn, vup, extr_20, extr_21, extr_30, extr_31, extr_32, List.map_cons, List.map_nil, cond_true, cond_false, aop, aThen, aBlock, argEnv, ev, sput, sputO, binK, binI, unK, builtinK, pickK, Nat.reduceBEq, Nat.reduceAdd, Int.reduceBEq, Int.reduceBNe, Int.reduceLT, aPost, resK, tup, tyf]
  refine hN1 [(0, u), (1, v), (4, .bool false)] _ _ ?_ (by simp (maxSteps := 2000000) only [↓aw_region, ↓aw_skip, ↓aw_seq, ↓aw_block, ↓aw_exit, ↓aw_ret, ↓sops_nil, ↓sops_go, ↓dops_nil, ↓dopsX_nil, ↓dopsR_nil, ↓vdn, vup, extr_20, extr_21, extr_30, extr_31, extr_32, List.map_cons, List.map_nil, cond_true, cond_false, aop, aThen, aBlock, argEnv, ev, sput, sputO, binK, binI, unK, builtinK, pickK, Nat.reduceBEq, Nat.reduceAdd, Int.reduceBEq, Int.reduceBNe, Int.reduceLT, aPost, resK, tup, tyf])
  clear hN1
  try clear N1
  by_cases hn : xs.length = ys.length
  · have hne : (((xs.length : Nat) : Int) != ((ys.length : Nat) : Int)) = false := by simp [hn]
    refine aws_cut fun N2 hN2 => ?_
    simp (maxSteps := 2000000) only [s35, ↓aw_region, ↓aw_skip, ↓aw_seq, ↓aw_block, ↓aw_exit, ↓aw_ret, ↓sops_nil, ↓sops_go, ↓dops_nil, ↓dopsX_nil, ↓dopsR_nil, ↓vdn, vup, extr_20, extr_21, extr_30, extr_31, extr_32, List.map_cons, List.map_nil, cond_true, cond_false, aop, aThen, aBlock, argEnv, ev, sput, sputO, binK, binI, unK, builtinK, pickK, Nat.reduceBEq, Nat.reduceAdd, Int.reduceBEq, Int.reduceBNe, Int.reduceLT, aPost, resK, tup, tyf, hu.len, hv.len, hne]
    refine hN2 [(0, u), (1, v), (4, .bool false)] _ _ ?_ (by simp (maxSteps := 2000000) only [↓aw_region, ↓aw_skip, ↓aw_seq, ↓aw_block, ↓aw_exit, ↓aw_ret, ↓sops_nil, ↓sops_go, ↓dops_nil, ↓dopsX_nil, ↓dopsR_nil, ↓vdn, vup, extr_20, extr_21, extr_30, extr_31, extr_32, List.map_cons, List.map_nil, cond_true, cond_false, aop, aThen, aBlock, argEnv, ev, sput, sputO, binK, binI, unK, builtinK, pickK, Nat.reduceBEq, Nat.reduceAdd, Int.reduceBEq, Int.reduceBNe, Int.reduceLT, aPost, resK, tup, tyf])
    clear hN2
    try clear N2
    refine aws_cutW fun Z hZ => ?_
    refine aws_cut fun N3 hN3 => ?_
    simp (maxSteps := 2000000) only [s35, ↓aw_region, ↓aw_skip, ↓aw_seq, ↓aw_block, ↓aw_exit, ↓aw_ret, ↓sops_nil, ↓sops_go, ↓dops_nil, ↓dopsX_nil, ↓dopsR_nil, ↓vdn, vup, extr_20, extr_21, extr_30, extr_31, extr_32, List.map_cons, List.map_nil, cond_true, cond_false, aop, aThen, aBlock, argEnv, ev, sput, sputO, binK, binI, unK, builtinK, pickK, Nat.reduceBEq, Nat.reduceAdd, Int.reduceBEq, Int.reduceBNe, Int.reduceLT, aPost, resK, tup, tyf, hu.len]
    refine hN3 [(0, u), (1, v), (4, .bool false), (11, u), (12, vint xs.length), (13, .int .i64 0)] _ _ ?_ (by simp (maxSteps := 2000000) only [↓aw_region, ↓aw_skip, ↓aw_seq, ↓aw_block, ↓aw_exit, ↓aw_ret, ↓sops_nil, ↓sops_go, ↓dops_nil, ↓dopsX_nil, ↓dopsR_nil, ↓vdn, vup, extr_20, extr_21, extr_30, extr_31, extr_32, List.map_cons, List.map_nil, cond_true, cond_false, aop, aThen, aBlock, argEnv, ev, sput, sputO, binK, binI, unK, builtinK, pickK, Nat.reduceBEq, Nat.reduceAdd, Int.reduceBEq, Int.reduceBNe, Int.reduceLT, aPost, resK, tup, tyf])
    clear hN3
    try clear N3
    refine aws_block ?_
    refine aws_hide fun Q hQ => ?_
    refine aw_loopW (γ := Nat) (fun k => k ≤ xs.length ∧ ∀ i, i < k → xs.getD i (0, 0) = ys.getD i (0, 0))
      (fun k => ([(0, u), (1, v), (4, .bool false), (11, u), (12, vint xs.length), (13, vint (k : Nat))], h)) (fun k => xs.length - k) 0 ⟨Nat.zero_le _, fun i hi => by omega⟩ (by simp (maxSteps := 2000000) only [↓aw_region, ↓aw_skip, ↓aw_seq, ↓aw_block, ↓aw_exit, ↓aw_ret, ↓sops_nil, ↓sops_go, ↓dops_nil, ↓dopsX_nil, ↓dopsR_nil, ↓vdn, vup, extr_20, extr_21, extr_30, extr_31, extr_32, List.map_cons, List.map_nil, cond_true, cond_false, aop, aThen, aBlock, argEnv, ev, sput, sputO, binK, binI, unK, builtinK, pickK, Nat.reduceBEq, Nat.reduceAdd, Int.reduceBEq, Int.reduceBNe, Int.reduceLT, aPost, resK, tup, tyf, Int.natCast_zero]) rfl ?_
    rintro k ⟨hk, hall⟩
    refine aws_hide fun Q2 hQ2 => ?_
    simp only [l35_0]
    by_cases hin : (k : Int) < xs.length
    · have hk' : k < xs.length := by omega
      have hky : k < ys.length := by omega
      refine aws_cut fun N4 hN4 => ?_
      simp (maxSteps := 2000000) only [s35, ↓aw_region, ↓aw_skip, ↓aw_seq, ↓aw_block, ↓aw_exit, ↓aw_ret, ↓sops_nil, ↓sops_go, ↓dops_nil, ↓dopsX_nil, ↓dopsR_nil, ↓vdn, vup, extr_20, extr_21, extr_30, extr_31, extr_32, List.map_cons, List.map_nil, cond_true, cond_false, aop, aThen, aBlock, argEnv, ev, sput, sputO, binK, binI, unK, builtinK, pickK, Nat.reduceBEq, Nat.reduceAdd, Int.reduceBEq, Int.reduceBNe, Int.reduceLT, aPost, resK, tup, tyf, hin]
      refine hN4 [(0, u), (1, v), (4, .bool false), (11, u), (12, vint xs.length), (13, vint (k : Nat)), (14, .bool true)] _ _ ?_ (by simp (maxSteps := 2000000) only [↓aw_region, ↓aw_skip, ↓aw_seq, ↓aw_block, ↓aw_exit, ↓aw_ret, ↓sops_nil, ↓sops_go, ↓dops_nil, ↓dopsX_nil, ↓dopsR_nil, ↓vdn, vup, extr_20, extr_21, extr_30, extr_31, extr_32, List.map_cons, List.map_nil, cond_true, cond_false, aop, aThen, aBlock, argEnv, ev, sput, sputO, binK, binI, unK, builtinK, pickK, Nat.reduceBEq, Nat.reduceAdd, Int.reduceBEq, Int.reduceBNe, Int.reduceLT, aPost, resK, tup, tyf])
      clear hN4
      try clear N4
      refine aws_cut fun N5 hN5 => ?_
      simp (maxSteps := 2000000) only [s35, ↓aw_region, ↓aw_skip, ↓aw_seq, ↓aw_block, ↓aw_exit, ↓aw_ret, ↓sops_nil, ↓sops_go, ↓dops_nil, ↓dopsX_nil, ↓dopsR_nil, ↓vdn, vup, extr_20, extr_21, extr_30, extr_31, extr_32, List.map_cons, List.map_nil, cond_true, cond_false, aop, aThen, aBlock, argEnv, ev, sput, sputO, binK, binI, unK, builtinK, pickK, Nat.reduceBEq, Nat.reduceAdd, Int.reduceBEq, Int.reduceBNe, Int.reduceLT, aPost, resK, tup, tyf]
      refine hN5 [(0, u), (1, v), (4, .bool false), (11, u), (12, vint xs.length), (13, vint (k : Nat))] _ _ ?_ (by simp (maxSteps := 2000000) only [↓aw_region, ↓aw_skip, ↓aw_seq, ↓aw_block, ↓aw_exit, ↓aw_ret, ↓sops_nil, ↓sops_go, ↓dops_nil, ↓dopsX_nil, ↓dopsR_nil, ↓vdn, vup, extr_20, extr_21, extr_30, extr_31, extr_32, List.map_cons, List.map_nil, cond_true, cond_false, aop, aThen, aBlock, argEnv, ev, sput, sputO, binK, binI, unK, builtinK, pickK, Nat.reduceBEq, Nat.reduceAdd, Int.reduceBEq, Int.reduceBNe, Int.reduceLT, aPost, resK, tup, tyf])
      clear hN5
      try clear N5
      refine aws_cutW fun B hB => ?_
      refine aws_block ?_
      refine aws_cut fun N6 hN6 => ?_
      simp (maxSteps := 2000000) only [s35, ↓aw_region, ↓aw_skip, ↓aw_seq, ↓aw_block, ↓aw_exit, ↓aw_ret, ↓sops_nil, ↓sops_go, ↓dops_nil, ↓dopsX_nil, ↓dopsR_nil, ↓vdn, vup, extr_20, extr_21, extr_30, extr_31, extr_32, List.map_cons, List.map_nil, cond_true, cond_false, aop, aThen, aBlock, argEnv, ev, sput, sputO, binK, binI, unK, builtinK, pickK, Nat.reduceBEq, Nat.reduceAdd, Int.reduceBEq, Int.reduceBNe, Int.reduceLT, aPost, resK, tup, tyf]
      refine hN6 [(0, u), (1, v), (4, .bool false), (5, vint (k : Nat)), (11, u), (12, vint xs.length), (13, vint (k : Nat))] _ _ ?_ (by simp (maxSteps := 2000000) only [↓aw_region, ↓aw_skip, ↓aw_seq, ↓aw_block, ↓aw_exit, ↓aw_ret, ↓sops_nil, ↓sops_go, ↓dops_nil, ↓dopsX_nil, ↓dopsR_nil, ↓vdn, vup, extr_20, extr_21, extr_30, extr_31, extr_32, List.map_cons, List.map_nil, cond_true, cond_false, aop, aThen, aBlock, argEnv, ev, sput, sputO, binK, binI, unK, builtinK, pickK, Nat.reduceBEq, Nat.reduceAdd, Int.reduceBEq, Int.reduceBNe, Int.reduceLT, aPost, resK, tup, tyf])
      clear hN6
      try clear N6
      obtain ⟨⟨x, y⟩, hxy⟩ : ∃ p, xs.getD k (0, 0) = p := ⟨_, rfl⟩
      obtain ⟨⟨z, w⟩, hzw⟩ : ∃ p, ys.getD k (0, 0) = p := ⟨_, rfl⟩
      refine aw_aws ?_
      simp only [q35_6]
      refine aw_cut fun D hD => ?_
      refine aw_drawX [] (by kernel_rfl) (by kernel_rfl) (by kernel_rfl) (by kernel_rfl) ?_
      simp (maxSteps := 2000000) only [s35, ↓aw_region, ↓aw_skip, ↓aw_seq, ↓aw_block, ↓aw_exit, ↓aw_ret, ↓sops_nil, ↓sops_go, ↓dops_nil, ↓dopsX_nil, ↓dopsR_nil, ↓vdn, vup, extr_20, extr_21, extr_30, extr_31, extr_32, List.map_cons, List.map_nil, cond_true, cond_false, aop, aThen, aBlock, argEnv, ev, sput, sputO, binK, binI, unK, builtinK, pickK, Nat.reduceBEq, Nat.reduceAdd, Int.reduceBEq, Int.reduceBNe, Int.reduceLT, aPost, resK, tup, tyf, hu.idx el_47 esz_26 hk', hu.load shp_26 hk', hv.idx el_47 esz_26 hky, hv.load shp_26 hky, hxy, hzw, intsOf, Option.map_some, List.length_cons, List.length_nil, Nat.zero_add, eqF]
      refine hD _ _ ?_
      by_cases he : x = z ∧ y = w
      · obtain ⟨rfl, rfl⟩ := he
        have hb : (([x, y] : List Int) != [x, y]) = false := by simp
        simp (maxSteps := 2000000) only [s35, ↓aw_region, ↓aw_skip, ↓aw_seq, ↓aw_block, ↓aw_exit, ↓aw_ret, ↓sops_nil, ↓sops_go, ↓dops_nil, ↓dopsX_nil, ↓dopsR_nil, ↓vdn, vup, extr_20, extr_21, extr_30, extr_31, extr_32, List.map_cons, List.map_nil, cond_true, cond_false, aop, aThen, aBlock, argEnv, ev, sput, sputO, binK, binI, unK, builtinK, pickK, Nat.reduceBEq, Nat.reduceAdd, Int.reduceBEq, Int.reduceBNe, Int.reduceLT, aPost, resK, tup, tyf, hb]
        refine hB [(0, u), (1, v), (4, .bool false), (11, u), (12, vint xs.length), (13, vint (k : Nat))] _ _ ?_ (by simp (maxSteps := 2000000) only [↓aw_region, ↓aw_skip, ↓aw_seq, ↓aw_block, ↓aw_exit, ↓aw_ret, ↓sops_nil, ↓sops_go, ↓dops_nil, ↓dopsX_nil, ↓dopsR_nil, ↓vdn, vup, extr_20, extr_21, extr_30, extr_31, extr_32, List.map_cons, List.map_nil, cond_true, cond_false, aop, aThen, aBlock, argEnv, ev, sput, sputO, binK, binI, unK, builtinK, pickK, Nat.reduceBEq, Nat.reduceAdd, Int.reduceBEq, Int.reduceBNe, Int.reduceLT, aPost, resK, tup, tyf])
        clear hB
        try clear B
        refine aw_aws ?_
        simp (maxSteps := 2000000) only [s35, ↓aw_region, ↓aw_skip, ↓aw_seq, ↓aw_block, ↓aw_exit, ↓aw_ret, ↓sops_nil, ↓sops_go, ↓dops_nil, ↓dopsX_nil, ↓dopsR_nil, ↓vdn, vup, extr_20, extr_21, extr_30, extr_31, extr_32, List.map_cons, List.map_nil, cond_true, cond_false, aop, aThen, aBlock, argEnv, ev, sput, sputO, binK, binI, unK, builtinK, pickK, Nat.reduceBEq, Nat.reduceAdd, Int.reduceBEq, Int.reduceBNe, Int.reduceLT, aPost, resK, tup, tyf, add1 (show k < 9223372036854775807 by omega)]
        refine hQ2 _ _ _ ⟨k + 1, ⟨hk', fun i hi => ?_⟩, by omega, by simp (maxSteps := 2000000) only [↓aw_region, ↓aw_skip, ↓aw_seq, ↓aw_block, ↓aw_exit, ↓aw_ret, ↓sops_nil, ↓sops_go, ↓dops_nil, ↓dopsX_nil, ↓dopsR_nil, ↓vdn, vup, extr_20, extr_21, extr_30, extr_31, extr_32, List.map_cons, List.map_nil, cond_true, cond_false, aop, aThen, aBlock, argEnv, ev, sput, sputO, binK, binI, unK, builtinK, pickK, Nat.reduceBEq, Nat.reduceAdd, Int.reduceBEq, Int.reduceBNe, Int.reduceLT, aPost, resK, tup, tyf], rfl⟩
        rcases Nat.lt_or_ge i k with h1 | h1
        · exact hall i h1
        · rw [show i = k by omega, hxy, hzw]
      · have hb : (([x, y] : List Int) != [z, w]) = true := by
          simp only [bne, Bool.not_eq_true', beq_eq_false_iff_ne, ne_eq, List.cons.injEq, and_true]
          exact he
        simp (maxSteps := 2000000) only [s35, ↓aw_region, ↓aw_skip, ↓aw_seq, ↓aw_block, ↓aw_exit, ↓aw_ret, ↓sops_nil, ↓sops_go, ↓dops_nil, ↓dopsX_nil, ↓dopsR_nil, ↓vdn, vup, extr_20, extr_21, extr_30, extr_31, extr_32, List.map_cons, List.map_nil, cond_true, cond_false, aop, aThen, aBlock, argEnv, ev, sput, sputO, binK, binI, unK, builtinK, pickK, Nat.reduceBEq, Nat.reduceAdd, Int.reduceBEq, Int.reduceBNe, Int.reduceLT, aPost, resK, tup, tyf, hb]
        refine hQ2 _ _ _ (hQ _ _ _ ?_)
        have hd : decide (xs = ys) = false := by
          rw [decide_eq_false_iff_not]
          rintro rfl
          rw [hxy] at hzw
          exact he (Prod.mk.inj hzw)
        simp (maxSteps := 2000000) only [s35, ↓aw_region, ↓aw_skip, ↓aw_seq, ↓aw_block, ↓aw_exit, ↓aw_ret, ↓sops_nil, ↓sops_go, ↓dops_nil, ↓dopsX_nil, ↓dopsR_nil, ↓vdn, vup, extr_20, extr_21, extr_30, extr_31, extr_32, List.map_cons, List.map_nil, cond_true, cond_false, aop, aThen, aBlock, argEnv, ev, sput, sputO, binK, binI, unK, builtinK, pickK, Nat.reduceBEq, Nat.reduceAdd, Int.reduceBEq, Int.reduceBNe, Int.reduceLT, aPost, resK, tup, tyf, hd]
    · obtain rfl : k = xs.length := by omega
      refine aws_cut fun N7 hN7 => ?_
      simp (maxSteps := 2000000) only [s35, ↓aw_region, ↓aw_skip, ↓aw_seq, ↓aw_block, ↓aw_exit, ↓aw_ret, ↓sops_nil, ↓sops_go, ↓dops_nil, ↓dopsX_nil, ↓dopsR_nil, ↓vdn, vup, extr_20, extr_21, extr_30, extr_31, extr_32, List.map_cons, List.map_nil, cond_true, cond_false, aop, aThen, aBlock, argEnv, ev, sput, sputO, binK, binI, unK, builtinK, pickK, Nat.reduceBEq, Nat.reduceAdd, Int.reduceBEq, Int.reduceBNe, Int.reduceLT, aPost, resK, tup, tyf, hin]
      refine hN7 [(0, u), (1, v), (4, .bool false), (11, u), (12, vint xs.length), (13, vint xs.length), (14, .bool false)] _ _ ?_ (by simp (maxSteps := 2000000) only [↓aw_region, ↓aw_skip, ↓aw_seq, ↓aw_block, ↓aw_exit, ↓aw_ret, ↓sops_nil, ↓sops_go, ↓dops_nil, ↓dopsX_nil, ↓dopsR_nil, ↓vdn, vup, extr_20, extr_21, extr_30, extr_31, extr_32, List.map_cons, List.map_nil, cond_true, cond_false, aop, aThen, aBlock, argEnv, ev, sput, sputO, binK, binI, unK, builtinK, pickK, Nat.reduceBEq, Nat.reduceAdd, Int.reduceBEq, Int.reduceBNe, Int.reduceLT, aPost, resK, tup, tyf])
      clear hN7
      try clear N7
      refine aws_cut fun N8 hN8 => ?_
      simp (maxSteps := 2000000) only [s35, ↓aw_region, ↓aw_skip, ↓aw_seq, ↓aw_block, ↓aw_exit, ↓aw_ret, ↓sops_nil, ↓sops_go, ↓dops_nil, ↓dopsX_nil, ↓dopsR_nil, ↓vdn, vup, extr_20, extr_21, extr_30, extr_31, extr_32, List.map_cons, List.map_nil, cond_true, cond_false, aop, aThen, aBlock, argEnv, ev, sput, sputO, binK, binI, unK, builtinK, pickK, Nat.reduceBEq, Nat.reduceAdd, Int.reduceBEq, Int.reduceBNe, Int.reduceLT, aPost, resK, tup, tyf]
      refine hQ2 _ _ _ (hQ _ _ _ ?_)
      simp (maxSteps := 2000000) only [s35, ↓aw_region, ↓aw_skip, ↓aw_seq, ↓aw_block, ↓aw_exit, ↓aw_ret, ↓sops_nil, ↓sops_go, ↓dops_nil, ↓dopsX_nil, ↓dopsR_nil, ↓vdn, vup, extr_20, extr_21, extr_30, extr_31, extr_32, List.map_cons, List.map_nil, cond_true, cond_false, aop, aThen, aBlock, argEnv, ev, sput, sputO, binK, binI, unK, builtinK, pickK, Nat.reduceBEq, Nat.reduceAdd, Int.reduceBEq, Int.reduceBNe, Int.reduceLT, aPost, resK, tup, tyf, if_true]
      refine hZ [(0, u), (1, v), (4, .bool false), (11, u), (12, vint xs.length), (13, vint xs.length), (14, .bool false)] _ _ ?_ (by simp (maxSteps := 2000000) only [↓aw_region, ↓aw_skip, ↓aw_seq, ↓aw_block, ↓aw_exit, ↓aw_ret, ↓sops_nil, ↓sops_go, ↓dops_nil, ↓dopsX_nil, ↓dopsR_nil, ↓vdn, vup, extr_20, extr_21, extr_30, extr_31, extr_32, List.map_cons, List.map_nil, cond_true, cond_false, aop, aThen, aBlock, argEnv, ev, sput, sputO, binK, binI, unK, builtinK, pickK, Nat.reduceBEq, Nat.reduceAdd, Int.reduceBEq, Int.reduceBNe, Int.reduceLT, aPost, resK, tup, tyf])
      clear hZ
      try clear Z
      refine aw_aws ?_
      have hd : decide (xs = ys) = true := by
        rw [decide_eq_true_eq]; exact pairs_eq hn _ (Nat.le_refl _) hall rfl
      simp (maxSteps := 2000000) only [s35, ↓aw_region, ↓aw_skip, ↓aw_seq, ↓aw_block, ↓aw_exit, ↓aw_ret, ↓sops_nil, ↓sops_go, ↓dops_nil, ↓dopsX_nil, ↓dopsR_nil, ↓vdn, vup, extr_20, extr_21, extr_30, extr_31, extr_32, List.map_cons, List.map_nil, cond_true, cond_false, aop, aThen, aBlock, argEnv, ev, sput, sputO, binK, binI, unK, builtinK, pickK, Nat.reduceBEq, Nat.reduceAdd, Int.reduceBEq, Int.reduceBNe, Int.reduceLT, aPost, resK, tup, tyf, hd]
  · have hne : (((xs.length : Nat) : Int) != ((ys.length : Nat) : Int)) = true := by
      have : ¬ ((xs.length : Nat) : Int) = ((ys.length : Nat) : Int) := by omega
      simpa [bne] using this
    refine aw_aws ?_
    have hd : decide (xs = ys) = false := by
      rw [decide_eq_false_iff_not]
      rintro rfl; exact hn rfl
    simp (maxSteps := 2000000) only [s35, ↓aw_region, ↓aw_skip, ↓aw_seq, ↓aw_block, ↓aw_exit, ↓aw_ret, ↓sops_nil, ↓sops_go, ↓dops_nil, ↓dopsX_nil, ↓dopsR_nil, ↓vdn, vup, extr_20, extr_21, extr_30, extr_31, extr_32, List.map_cons, List.map_nil, cond_true, cond_false, aop, aThen, aBlock, argEnv, ev, sput, sputO, binK, binI, unK, builtinK, pickK, Nat.reduceBEq, Nat.reduceAdd, Int.reduceBEq, Int.reduceBNe, Int.reduceLT, aPost, resK, tup, tyf, hu.len, hv.len, hne, hd]
end Go.Proofs.Try.Am

namespace Go.Proofs.Try.Am
open Go.Am Bq
set_option maxRecDepth 100000
set_option maxHeartbeats 2000000

theorem pairSl_shape {h : Heap} {v : Value} {l : List (Int × Int)} (hv : PairSl h v l) : ∃ p n c, v = .slice p n c := by
  rcases hv with ⟨rfl, _⟩ | ⟨b, o, sp, cap, c, e, ro, rfl, _⟩
  · exact ⟨_, _, _, rfl⟩
  · exact ⟨_, _, _, rfl⟩
theorem bldT {n : Int} {p : Option Addr} {m c : Nat} {K : Value → Prop} : buildK prog 86 [(0, vint n), (1, .slice p m c)] K = K (.agg #[vint n, .slice p m c]) := by
  simp [buildK, zero_86, fillL, pl_86_0, pl_86_1, notTuple, cellsOf, splice]
theorem storeT {h : Heap} {b : Nat} {n : Int} {p : Option Addr} {m k : Nat} {e : TypeId} {c : List Value} {K : Heap → Prop} (hb : h[b]? = some (.cells c e false)) (hc : c.length = 2) : storeK prog h 86 (.pointer (some ⟨b, 0, none⟩)) (.agg #[vint n, .slice p m k]) K = K (h.set b (.cells [vint n, .slice p m k] e false)) :=
  storeA (vs := [vint n, .slice p m k]) hb (by rw [shp_86]; rfl) rfl (by rw [hc]; rfl)
theorem loadT {h : Heap} {b : Nat} {n : Int} {v : Value} {K : Value → Prop} (hb : h[b]? = some (.cells [vint n, v] 86 false)) : loadK prog h 86 (.pointer (some ⟨b, 0, none⟩)) K = K (.agg #[vint n, v]) :=
  loadA hb (by rw [shp_86]; rfl)

/-- What Sound hands back. -/
def SoundIs (n : Int) (l : List (Int × Int)) (h' : Heap) (x : Value) (e : Int) : Prop :=
  if validB n l = true then (match cornersB n.toNat l with | [] => x = .slice none 0 0 ∧ e = 5 | c :: _ => e = 0 ∧ BelAt h' x c) else x = .slice none 0 0 ∧ e = 2
theorem s36_callW [Tabs Try.prog] {args : List Value} {h : Heap} {Q : Value → Heap → Prop} (hsz : args.length ≤ 22) (hk : AWS Try.prog 22 s36 (aPost Try.prog [.tmp 4, .tmp 5] Q) (argEnv 0 args) h) : ACall Try.prog 36 args h Q :=
  acall_w Try.func36 rfl (enters_of Try.func36 (by kernel_rfl) rfl) rfl rfl (by decide) s36_strip s36_ok hsz hk
theorem sound_call [Tabs prog] {h : Heap} {n : Int} {v : Value} {l : List (Int × Int)} (hv : PairSl h v l) (hl : l.length < 9223372036854775808) (ht : validB n l = true → TameAll n.toNat l) :
    ACall prog 36 [vint n, v] h fun r h' => Ext (fun _ => False) h h' ∧ ∃ x e, r = .tuple #[x, .int .i64 e] ∧ SoundIs n l h' x e := by
  obtain ⟨p, m, c, rfl⟩ := pairSl_shape hv
  obtain ⟨H, hH⟩ : ∃ H, H = h ++ [Blk.cells [vint n, .slice p m c] 86 false] := ⟨_, rfl⟩
  have hE : Ext (fun _ => False) h H := by rw [hH]; exact Ext.app _ _ _
  have b6 : H[h.length]? = some (.cells [vint n, .slice p m c] 86 false) := by rw [hH]; exact get_new _ _
  have hvH := hv.ext hE
  refine s36_callW (by simp) ?_
  simp only [s36]
  refine aws_cut fun N1 hN1 => ?_
  simp (maxSteps := 2000000) only [s36, ↓aw_region, ↓aw_skip, ↓aw_seq, ↓aw_block, ↓aw_exit, ↓aw_ret, ↓sops_nil, ↓sops_go, ↓dops_nil, ↓dopsX_nil, ↓dopsR_nil, ↓vdn, vup, extr_20, extr_21, extr_30, extr_31, extr_32, List.map_cons, List.map_nil, cond_true, cond_false, aop, aThen, aBlock, argEnv, ev, sput, sputO, binK, binI, unK, builtinK, pickK, Nat.reduceBEq, Nat.reduceAdd, Int.reduceBEq, Int.reduceBNe, Int.reduceLT, aPost, resK, tup, tyf]
  refine hN1 [(0, vint n), (1, .slice p m c), (4, .slice none 0 0), (5, .int .i64 0)] _ _ ?_ (by simp (maxSteps := 2000000) only [↓aw_region, ↓aw_skip, ↓aw_seq, ↓aw_block, ↓aw_exit, ↓aw_ret, ↓sops_nil, ↓sops_go, ↓dops_nil, ↓dopsX_nil, ↓dopsR_nil, ↓vdn, vup, extr_20, extr_21, extr_30, extr_31, extr_32, List.map_cons, List.map_nil, cond_true, cond_false, aop, aThen, aBlock, argEnv, ev, sput, sputO, binK, binI, unK, builtinK, pickK, Nat.reduceBEq, Nat.reduceAdd, Int.reduceBEq, Int.reduceBNe, Int.reduceLT, aPost, resK, tup, tyf])
  clear hN1
  try clear N1
  refine aws_cut fun N2 hN2 => ?_
  simp (maxSteps := 2000000) only [s36, ↓aw_region, ↓aw_skip, ↓aw_seq, ↓aw_block, ↓aw_exit, ↓aw_ret, ↓sops_nil, ↓sops_go, ↓dops_nil, ↓dopsX_nil, ↓dopsR_nil, ↓vdn, vup, extr_20, extr_21, extr_30, extr_31, extr_32, List.map_cons, List.map_nil, cond_true, cond_false, aop, aThen, aBlock, argEnv, ev, sput, sputO, binK, binI, unK, builtinK, pickK, Nat.reduceBEq, Nat.reduceAdd, Int.reduceBEq, Int.reduceBNe, Int.reduceLT, aPost, resK, tup, tyf, List.map_toArray, bldT, allocK, newPtr, zero_86, storeT (get_new h (.cells [.int .i64 0, .slice none 0 0] 86 false)) rfl, set_new]
  rw [← hH]
  refine hN2 [(4, .slice none 0 0), (5, .int .i64 0), (6, .pointer (some ⟨h.length, 0, none⟩))] _ _ ?_ (by simp (maxSteps := 2000000) only [↓aw_region, ↓aw_skip, ↓aw_seq, ↓aw_block, ↓aw_exit, ↓aw_ret, ↓sops_nil, ↓sops_go, ↓dops_nil, ↓dopsX_nil, ↓dopsR_nil, ↓vdn, vup, extr_20, extr_21, extr_30, extr_31, extr_32, List.map_cons, List.map_nil, cond_true, cond_false, aop, aThen, aBlock, argEnv, ev, sput, sputO, binK, binI, unK, builtinK, pickK, Nat.reduceBEq, Nat.reduceAdd, Int.reduceBEq, Int.reduceBNe, Int.reduceLT, aPost, resK, tup, tyf])
  clear hN2
  try clear N2
  refine aws_cutW fun M hM => ?_
  refine aws_cut fun N3 hN3 => ?_
  simp (maxSteps := 2000000) only [s36, ↓aw_region, ↓aw_skip, ↓aw_seq, ↓aw_block, ↓aw_exit, ↓aw_ret, ↓sops_nil, ↓sops_go, ↓dops_nil, ↓dopsX_nil, ↓dopsR_nil, ↓vdn, vup, extr_20, extr_21, extr_30, extr_31, extr_32, List.map_cons, List.map_nil, cond_true, cond_false, aop, aThen, aBlock, argEnv, ev, sput, sputO, binK, binI, unK, builtinK, pickK, Nat.reduceBEq, Nat.reduceAdd, Int.reduceBEq, Int.reduceBNe, Int.reduceLT, aPost, resK, tup, tyf, callK, List.nil_append, List.append_nil, List.toList_toArray, List.cons_append, loadT b6]
  refine (valid_call hvH hl).mono ?_
  rintro _ H ⟨rfl, rfl⟩
  refine hN3 [(4, .slice none 0 0), (5, .int .i64 0), (6, .pointer (some ⟨h.length, 0, none⟩)), (13, .bool (!validB n l))] _ _ ?_ (by simp (maxSteps := 2000000) only [↓aw_region, ↓aw_skip, ↓aw_seq, ↓aw_block, ↓aw_exit, ↓aw_ret, ↓sops_nil, ↓sops_go, ↓dops_nil, ↓dopsX_nil, ↓dopsR_nil, ↓vdn, vup, extr_20, extr_21, extr_30, extr_31, extr_32, List.map_cons, List.map_nil, cond_true, cond_false, aop, aThen, aBlock, argEnv, ev, sput, sputO, binK, binI, unK, builtinK, pickK, Nat.reduceBEq, Nat.reduceAdd, Int.reduceBEq, Int.reduceBNe, Int.reduceLT, aPost, resK, tup, tyf])
  clear hN3
  try clear N3
  cases hval : validB n l with
  | false =>
    refine aws_true rfl ?_
    refine aw_aws ?_
    simp (maxSteps := 2000000) only [s36, ↓aw_region, ↓aw_skip, ↓aw_seq, ↓aw_block, ↓aw_exit, ↓aw_ret, ↓sops_nil, ↓sops_go, ↓dops_nil, ↓dopsX_nil, ↓dopsR_nil, ↓vdn, vup, extr_20, extr_21, extr_30, extr_31, extr_32, List.map_cons, List.map_nil, cond_true, cond_false, aop, aThen, aBlock, argEnv, ev, sput, sputO, binK, binI, unK, builtinK, pickK, Nat.reduceBEq, Nat.reduceAdd, Int.reduceBEq, Int.reduceBNe, Int.reduceLT, aPost, resK, tup, tyf]
    exact ⟨hE, _, _, rfl, by rw [SoundIs, if_neg (by simp [hval])]; exact ⟨rfl, rfl⟩⟩
  | true =>
    refine aws_false rfl ?_
    refine aw_aws ?_
    simp (maxSteps := 2000000) only [s36, ↓aw_region, ↓aw_skip, ↓aw_seq, ↓aw_block, ↓aw_exit, ↓aw_ret, ↓sops_nil, ↓sops_go, ↓dops_nil, ↓dopsX_nil, ↓dopsR_nil, ↓vdn, vup, extr_20, extr_21, extr_30, extr_31, extr_32, List.map_cons, List.map_nil, cond_true, cond_false, aop, aThen, aBlock, argEnv, ev, sput, sputO, binK, binI, unK, builtinK, pickK, Nat.reduceBEq, Nat.reduceAdd, Int.reduceBEq, Int.reduceBNe, Int.reduceLT, aPost, resK, tup, tyf]
    refine hM [(4, .slice none 0 0), (5, .int .i64 0), (6, .pointer (some ⟨h.length, 0, none⟩))] _ _ ?_ (by simp (maxSteps := 2000000) only [↓aw_region, ↓aw_skip, ↓aw_seq, ↓aw_block, ↓aw_exit, ↓aw_ret, ↓sops_nil, ↓sops_go, ↓dops_nil, ↓dopsX_nil, ↓dopsR_nil, ↓vdn, vup, extr_20, extr_21, extr_30, extr_31, extr_32, List.map_cons, List.map_nil, cond_true, cond_false, aop, aThen, aBlock, argEnv, ev, sput, sputO, binK, binI, unK, builtinK, pickK, Nat.reduceBEq, Nat.reduceAdd, Int.reduceBEq, Int.reduceBNe, Int.reduceLT, aPost, resK, tup, tyf])
    clear hM
    try clear M
    have hn : n = (n.toNat : Int) := by
      simp only [validB, Bool.and_eq_true, decide_eq_true_eq] at hval; omega
    have hcor := corners_call (n := n.toNat) hvH (by rw [← hn]; exact hval) (ht hval)
    rw [← hn] at hcor
    refine aws_cut fun N4 hN4 => ?_
    simp (maxSteps := 2000000) only [s36, ↓aw_region, ↓aw_skip, ↓aw_seq, ↓aw_block, ↓aw_exit, ↓aw_ret, ↓sops_nil, ↓sops_go, ↓dops_nil, ↓dopsX_nil, ↓dopsR_nil, ↓vdn, vup, extr_20, extr_21, extr_30, extr_31, extr_32, List.map_cons, List.map_nil, cond_true, cond_false, aop, aThen, aBlock, argEnv, ev, sput, sputO, binK, binI, unK, builtinK, pickK, Nat.reduceBEq, Nat.reduceAdd, Int.reduceBEq, Int.reduceBNe, Int.reduceLT, aPost, resK, tup, tyf, callK, List.nil_append, List.append_nil, List.toList_toArray, List.cons_append, loadT b6]
    refine (hcor).mono ?_
    rintro r H1 ⟨hE1, ⟨ws, hor, heach⟩, hb⟩
    refine hN4 [(4, .slice none 0 0), (5, .int .i64 0), (6, .pointer (some ⟨h.length, 0, none⟩)), (7, r)] _ _ ?_ (by simp (maxSteps := 2000000) only [↓aw_region, ↓aw_skip, ↓aw_seq, ↓aw_block, ↓aw_exit, ↓aw_ret, ↓sops_nil, ↓sops_go, ↓dops_nil, ↓dopsX_nil, ↓dopsR_nil, ↓vdn, vup, extr_20, extr_21, extr_30, extr_31, extr_32, List.map_cons, List.map_nil, cond_true, cond_false, aop, aThen, aBlock, argEnv, ev, sput, sputO, binK, binI, unK, builtinK, pickK, Nat.reduceBEq, Nat.reduceAdd, Int.reduceBEq, Int.reduceBNe, Int.reduceLT, aPost, resK, tup, tyf])
    clear hN4
    try clear N4
    have hEE := hE.trans hE1
    have hlen := heach.len
    refine aw_aws ?_
    have his : ∀ x e, SoundIs n l H1 x e ↔ (match cornersB n.toNat l with | [] => x = .slice none 0 0 ∧ e = 5 | c :: _ => e = 0 ∧ BelAt H1 x c) := fun x e => by rw [SoundIs, if_pos hval]
    cases hc : cornersB n.toNat l with
    | nil =>
      rw [hc] at hlen heach
      have h0 : (((ws.length : Nat) : Int) == 0) = true := by simp [hlen]
      simp (maxSteps := 2000000) only [s36, ↓aw_region, ↓aw_skip, ↓aw_seq, ↓aw_block, ↓aw_exit, ↓aw_ret, ↓sops_nil, ↓sops_go, ↓dops_nil, ↓dopsX_nil, ↓dopsR_nil, ↓vdn, vup, extr_20, extr_21, extr_30, extr_31, extr_32, List.map_cons, List.map_nil, cond_true, cond_false, aop, aThen, aBlock, argEnv, ev, sput, sputO, binK, binI, unK, builtinK, pickK, Nat.reduceBEq, Nat.reduceAdd, Int.reduceBEq, Int.reduceBNe, Int.reduceLT, aPost, resK, tup, tyf, hor.val.len, h0]
      exact ⟨hEE, _, _, rfl, (his _ _).2 (by rw [hc]; exact ⟨rfl, rfl⟩)⟩
    | cons c0 cs =>
      rw [hc] at hlen heach
      have hpos : 0 < ws.length := by rw [hlen]; simp
      have h0 : (((ws.length : Nat) : Int) == 0) = false := beq_eq_false_iff_ne.2 (by omega)
      have hi0 : ∀ K : Value → Prop, idxAddrK prog 88 r (.int .i64 0) K = K (elemP r 1 0) := fun K => by
        have := hor.val.idx el_88 esz_90 (k := .i64) hpos K
        simpa using this
      simp (maxSteps := 2000000) only [s36, ↓aw_region, ↓aw_skip, ↓aw_seq, ↓aw_block, ↓aw_exit, ↓aw_ret, ↓sops_nil, ↓sops_go, ↓dops_nil, ↓dopsX_nil, ↓dopsR_nil, ↓vdn, vup, extr_20, extr_21, extr_30, extr_31, extr_32, List.map_cons, List.map_nil, cond_true, cond_false, aop, aThen, aBlock, argEnv, ev, sput, sputO, binK, binI, unK, builtinK, pickK, Nat.reduceBEq, Nat.reduceAdd, Int.reduceBEq, Int.reduceBNe, Int.reduceLT, aPost, resK, tup, tyf, hor.val.len, h0, hi0, hor.val.load shp_90 hpos]
      have hbel := heach.get undef [] (k := 0) (by simp)
      exact ⟨hEE, _, _, rfl, (his _ _).2 (by rw [hc]; exact ⟨rfl, hbel⟩)⟩

theorem s21_callW [Tabs Try.prog] {args : List Value} {h : Heap} {Q : Value → Heap → Prop} (hsz : args.length ≤ 18) (hk : AWS Try.prog 18 s21 (aPost Try.prog [.tmp 0] Q) (argEnv 0 args) h) : ACall Try.prog 21 args h Q :=
  acall_w Try.func21 rfl (enters_of Try.func21 (by kernel_rfl) rfl) rfl rfl (by decide) s21_strip s21_ok hsz hk
theorem awake_call [Tabs prog] {h : Heap} : APure prog 21 [] h (.bool true) := by
  refine ACall.forget (Low.bool _) ?_
  refine s21_callW (by simp) ?_
  simp only [s21]
  have bldB : ∀ {x y : Int} {K : Value → Prop}, buildK prog 92 [(0, vint x), (1, vint y)] K = K (.agg #[vint x, vint y]) := fun {x y K} => by
    simp [buildK, zero_92, fillL, pl_92_0, pl_92_1, notTuple, cellsOf, splice]
  have lit : ∀ {K : Value → Heap → Prop}, buildSliceK prog h 30 1 [(0, .agg #[vint 1, vint 6])] K = K (.slice (some ⟨h.length, 0, none⟩) 1 1) (h ++ [.ints [1, 6] 92 false]) := fun {K} => by
    simp only [buildSliceK, el_30, zero_92, esz_92, reps, fillL, mkb, notTuple, cellsOf, List.toList_toArray, List.length_cons, List.length_nil, Nat.zero_add, Nat.zero_mul, splice]
    refine propext ⟨fun h => ?_, fun h => ⟨trivial, by decide, by decide, ?_⟩⟩
    · simpa [intsOf] using h.2.2.2
    · simpa [intsOf] using h
  have hp : PairSl (h ++ [.ints [1, 6] 92 false]) (.slice (some ⟨h.length, 0, none⟩) 1 1) [(1, 6)] := .inr ⟨h.length, 0, none, 1, [vint 1, vint 6], 92, false, rfl, Nat.le_refl _, by simp [view, Blk.view], fun i hi => by
    obtain rfl : i = 0 := by simpa using hi
    exact ⟨rfl, rfl⟩⟩
  have hv : validB 2 [(1, 6)] = true := by decide
  refine aws_cut fun N5 hN5 => ?_
  simp (maxSteps := 2000000) only [s21, ↓aw_region, ↓aw_skip, ↓aw_seq, ↓aw_block, ↓aw_exit, ↓aw_ret, ↓sops_nil, ↓sops_go, ↓dops_nil, ↓dopsX_nil, ↓dopsR_nil, ↓vdn, vup, extr_20, extr_21, extr_30, extr_31, extr_32, List.map_cons, List.map_nil, cond_true, cond_false, aop, aThen, aBlock, argEnv, ev, sput, sputO, binK, binI, unK, builtinK, pickK, Nat.reduceBEq, Nat.reduceAdd, Int.reduceBEq, Int.reduceBNe, Int.reduceLT, aPost, resK, tup, tyf]
  refine hN5 [(0, .bool false)] _ _ ?_ (by simp (maxSteps := 2000000) only [↓aw_region, ↓aw_skip, ↓aw_seq, ↓aw_block, ↓aw_exit, ↓aw_ret, ↓sops_nil, ↓sops_go, ↓dops_nil, ↓dopsX_nil, ↓dopsR_nil, ↓vdn, vup, extr_20, extr_21, extr_30, extr_31, extr_32, List.map_cons, List.map_nil, cond_true, cond_false, aop, aThen, aBlock, argEnv, ev, sput, sputO, binK, binI, unK, builtinK, pickK, Nat.reduceBEq, Nat.reduceAdd, Int.reduceBEq, Int.reduceBNe, Int.reduceLT, aPost, resK, tup, tyf])
  clear hN5
  try clear N5
  refine aws_cut fun N6 hN6 => ?_
  simp (maxSteps := 2000000) only [s21, ↓aw_region, ↓aw_skip, ↓aw_seq, ↓aw_block, ↓aw_exit, ↓aw_ret, ↓sops_nil, ↓sops_go, ↓dops_nil, ↓dopsX_nil, ↓dopsR_nil, ↓vdn, vup, extr_20, extr_21, extr_30, extr_31, extr_32, List.map_cons, List.map_nil, cond_true, cond_false, aop, aThen, aBlock, argEnv, ev, sput, sputO, binK, binI, unK, builtinK, pickK, Nat.reduceBEq, Nat.reduceAdd, Int.reduceBEq, Int.reduceBNe, Int.reduceLT, aPost, resK, tup, tyf, List.map_toArray, bldB, lit, callK, List.nil_append, List.append_nil, List.toList_toArray, List.cons_append]
  refine (sound_call (n := 2) hp (by decide) fun _ => tame_awake).mono ?_
  rintro r h1 ⟨hE1, x, e, rfl, hs⟩
  rw [SoundIs, if_pos hv, show (2 : Int).toNat = 2 from rfl, corners_awake] at hs
  simp only at hs
  obtain ⟨rfl, bl, rfl, hbl⟩ := hs
  have hE : Ext (fun _ => False) h h1 := (Ext.app _ _ _).trans hE1
  have px := pairSl_cells hbl
  have hlist : ([1 / 2, 1 / 2] : List Rat).map ofQ = [(1, 2), (1, 2)] := by decide +kernel
  rw [hlist] at px
  simp (maxSteps := 2000000) only [s21, ↓aw_region, ↓aw_skip, ↓aw_seq, ↓aw_block, ↓aw_exit, ↓aw_ret, ↓sops_nil, ↓sops_go, ↓dops_nil, ↓dopsX_nil, ↓dopsR_nil, ↓vdn, vup, extr_20, extr_21, extr_30, extr_31, extr_32, List.map_cons, List.map_nil, cond_true, cond_false, aop, aThen, aBlock, argEnv, ev, sput, sputO, binK, binI, unK, builtinK, pickK, Nat.reduceBEq, Nat.reduceAdd, Int.reduceBEq, Int.reduceBNe, Int.reduceLT, aPost, resK, tup, tyf, List.length_cons, List.length_nil]
  refine hN6 [(0, .bool false), (1, .slice (some ⟨bl, 0, none⟩) 2 2), (2, .int .i64 0)] _ _ ?_ (by simp (maxSteps := 2000000) only [↓aw_region, ↓aw_skip, ↓aw_seq, ↓aw_block, ↓aw_exit, ↓aw_ret, ↓sops_nil, ↓sops_go, ↓dops_nil, ↓dopsX_nil, ↓dopsR_nil, ↓vdn, vup, extr_20, extr_21, extr_30, extr_31, extr_32, List.map_cons, List.map_nil, cond_true, cond_false, aop, aThen, aBlock, argEnv, ev, sput, sputO, binK, binI, unK, builtinK, pickK, Nat.reduceBEq, Nat.reduceAdd, Int.reduceBEq, Int.reduceBNe, Int.reduceLT, aPost, resK, tup, tyf])
  clear hN6
  try clear N6
  have lit2 : ∀ {K : Value → Heap → Prop}, buildSliceK prog h1 47 2 [(0, .agg #[vint 1, vint 2]), (1, .agg #[vint 1, vint 2])] K = K (.slice (some ⟨h1.length, 0, none⟩) 2 2) (h1 ++ [.ints [1, 2, 1, 2] 26 false]) := fun {K} => by
    simp [buildSliceK, el_47, zero_26, esz_26, reps, fillL, mkb, notTuple, cellsOf, splice, intsOf]
  have p2 : PairSl (h1 ++ [.ints [1, 2, 1, 2] 26 false]) (.slice (some ⟨h1.length, 0, none⟩) 2 2) [(1, 2), (1, 2)] := .inr ⟨h1.length, 0, none, 2, [vint 1, vint 2, vint 1, vint 2], 26, false, rfl, Nat.le_refl _, by simp [view, Blk.view], fun i hi => by
    have : i = 0 ∨ i = 1 := by simp at hi; omega
    rcases this with rfl | rfl <;> exact ⟨rfl, rfl⟩⟩
  have eq := equalF_call (px.ext (Ext.app _ _ _)) p2 (by decide)
  refine aw_aws ?_
  simp (maxSteps := 2000000) only [s21, ↓aw_region, ↓aw_skip, ↓aw_seq, ↓aw_block, ↓aw_exit, ↓aw_ret, ↓sops_nil, ↓sops_go, ↓dops_nil, ↓dopsX_nil, ↓dopsR_nil, ↓vdn, vup, extr_20, extr_21, extr_30, extr_31, extr_32, List.map_cons, List.map_nil, cond_true, cond_false, aop, aThen, aBlock, argEnv, ev, sput, sputO, binK, binI, unK, builtinK, pickK, Nat.reduceBEq, Nat.reduceAdd, Int.reduceBEq, Int.reduceBNe, Int.reduceLT, aPost, resK, tup, tyf, callK, List.nil_append, List.append_nil, List.toList_toArray, List.cons_append, List.map_toArray, bldF, lit2]
  refine (eq).mono ?_
  rintro _ _ ⟨rfl, rfl⟩
  simp (maxSteps := 2000000) only [s21, ↓aw_region, ↓aw_skip, ↓aw_seq, ↓aw_block, ↓aw_exit, ↓aw_ret, ↓sops_nil, ↓sops_go, ↓dops_nil, ↓dopsX_nil, ↓dopsR_nil, ↓vdn, vup, extr_20, extr_21, extr_30, extr_31, extr_32, List.map_cons, List.map_nil, cond_true, cond_false, aop, aThen, aBlock, argEnv, ev, sput, sputO, binK, binI, unK, builtinK, pickK, Nat.reduceBEq, Nat.reduceAdd, Int.reduceBEq, Int.reduceBNe, Int.reduceLT, aPost, resK, tup, tyf, decide_true]
  exact hE.trans (Ext.app _ _ _)
end Go.Proofs.Try.Am

namespace Go.Proofs.Try.Am
open Go.Am Bq
set_option maxRecDepth 100000
set_option maxHeartbeats 1000000

theorem nat_small {m : Nat} (h : m ≤ 27885) : m * m ≤ 777573225 := by
  have := Nat.mul_le_mul h h; omega
theorem two_q : (((2 : Int)) : Rat) = 2 := rfl
theorem neg_one_q : (((-1 : Int)) : Rat) = -1 := rfl
/-- A chance fits. -/
theorem chn_fits {ps : List (Int × Int)} (c : Chn ps) {k : Nat} (hk : k < ps.length) : Fits (fq ps k) :=
  fits_b (C := 1) (Nat.pos_of_ne_zero c.m) (c.unit hk).2.2 (Rat.le_trans (by decide) (c.unit hk).1) (c.unit hk).2.1 (by have := (mult_spec c.m).2.2; omega) (by have := (mult_spec c.m).2.2; omega)

theorem s73_callW [Tabs Try.prog] {args : List Value} {h : Heap} {Q : Value → Heap → Prop} (hsz : args.length ≤ 27) (hk : AWS Try.prog 27 s73 (aPost Try.prog [.cell 4 26] Q) (argEnv 0 args) h) : ACall Try.prog 73 args h Q :=
  acall_w Try.func73 rfl (enters_of Try.func73 (by kernel_rfl) rfl) rfl rfl (by decide) s73_strip s73_ok hsz hk
theorem score_call [Tabs prog] {h : Heap} {v : Value} {ps : List (Int × Int)} {w : Nat} (hv : PairSl h v ps) (c : Fc ps) (hw : w < ps.length) : APure prog 73 [v, vint (w : Nat)] h (qV (scoreQ ps w)) := by
  have hm := Nat.pos_of_ne_zero c.c.m
  have hmm := Nat.mul_pos hm hm
  have hsm := nat_small c.small
  have hN : mult ps * mult ps < 9223372036854775808 := by omega
  have hlen := c.len
  refine ACall.forget (low_frV _ _) ?_
  refine s73_callW (by simp) ?_
  simp only [s73]
  refine aws_cut fun N1 hN1 => ?_
  simp (maxSteps := 2000000) only [s73, ↓aw_region, ↓aw_skip, ↓aw_seq, ↓aw_block, ↓aw_exit, ↓aw_ret, ↓sops_nil, ↓sops_go, ↓dops_nil, ↓dopsX_nil, ↓dopsR_nil, ↓vdn, vup, extr_20, extr_21, extr_30, extr_31, extr_32, List.map_cons, List.map_nil, cond_true, cond_false, aop, aThen, aBlock, argEnv, ev, sput, sputO, binK, binI, unK, builtinK, pickK, Nat.reduceBEq, Nat.reduceAdd, Int.reduceBEq, Int.reduceBNe, Int.reduceLT, aPost, resK, tup, tyf, allocK, newPtr, zero_26]
  refine hN1 [(0, v), (1, vint (w : Nat)), (4, .pointer (some ⟨h.length, 0, none⟩))] _ _ ?_ (by simp (maxSteps := 2000000) only [↓aw_region, ↓aw_skip, ↓aw_seq, ↓aw_block, ↓aw_exit, ↓aw_ret, ↓sops_nil, ↓sops_go, ↓dops_nil, ↓dopsX_nil, ↓dopsR_nil, ↓vdn, vup, extr_20, extr_21, extr_30, extr_31, extr_32, List.map_cons, List.map_nil, cond_true, cond_false, aop, aThen, aBlock, argEnv, ev, sput, sputO, binK, binI, unK, builtinK, pickK, Nat.reduceBEq, Nat.reduceAdd, Int.reduceBEq, Int.reduceBNe, Int.reduceLT, aPost, resK, tup, tyf])
  clear hN1
  try clear N1
  obtain ⟨⟨x, y⟩, hxy⟩ : ∃ p, ps.getD w (0, 0) = p := ⟨_, rfl⟩
  have hmem : (x, y) ∈ ps := hxy ▸ getD_mem hw
  have hxq := frV_q (c.c.vld _ hmem)
  have hfq : fq ps w = toQ (x, y) := by rw [fq, hxy]
  have hfit := chn_fits c.c hw
  have s0 : scoreTo ps w 0 = ((2 : Int) : Rat) * fq ps w := by rw [scoreTo, two_q]; simp only [sumTo]; grind
  have tc : ∀ h', APure prog 72 [qV ((2 : Int) : Rat), qV (fq ps w)] h' (qV (scoreTo ps w 0)) := fun h' => by
    rw [s0]
    refine times_call ⟨by decide, by decide⟩ hfit ?_
    rw [← s0]
    exact fits_b (C := 2) hmm (c.scoreTo_den hw (Nat.zero_le _)) (Rat.le_trans (by decide) (c.scoreTo_le hw (Nat.zero_le _)).1) (c.scoreTo_le hw (Nat.zero_le _)).2 (by omega) hN
  rw [hfq, ← hxq] at tc
  obtain ⟨q0, hq0⟩ : ∃ q, scoreTo ps w 0 = q := ⟨_, rfl⟩
  rw [hq0] at tc
  obtain ⟨H, hH⟩ : ∃ H, H = h ++ [z0] := ⟨_, rfl⟩
  have hE : Ext (fun _ => False) h H := by rw [hH]; exact Ext.app _ _ _
  have hvH := hv.ext hE
  have hlH : H.length = h.length + 1 := by rw [hH]; simp
  have c4 : H[h.length]? = some z0 := by rw [hH]; exact get_new _ _
  rw [← hH]
  refine aws_cut fun N2 hN2 => ?_
  refine aw_drawE (fun _ => True) [(0, 2), (5, 2)] 6 5 [4] (by kernel_rfl) (by kernel_rfl) (by kernel_rfl) (by kernel_rfl) (by kernel_rfl) (by rfl) trivial ?_
  simp (maxSteps := 2000000) only [s73, ↓aw_region, ↓aw_skip, ↓aw_seq, ↓aw_block, ↓aw_exit, ↓aw_ret, ↓sops_nil, ↓sops_go, ↓dops_nil, ↓dopsX_nil, ↓dopsR_nil, ↓vdn, vup, extr_20, extr_21, extr_30, extr_31, extr_32, List.map_cons, List.map_nil, cond_true, cond_false, aop, aThen, aBlock, argEnv, ev, sput, sputO, binK, binI, unK, builtinK, pickK, Nat.reduceBEq, Nat.reduceAdd, Int.reduceBEq, Int.reduceBNe, Int.reduceLT, aPost, resK, tup, tyf, callK, List.nil_append, List.append_nil, List.toList_toArray, List.cons_append, hvH.idx el_47 esz_26 hw, hvH.load shp_26 hw, hxy]
  refine ⟨qV ((2 : Int) : Rat), fun _ _ => ⟨_, _, whole_call, rfl, rfl⟩, qV q0, fun _ _ => ⟨_, _, tc _, rfl, rfl⟩, ?_⟩
  simp (maxSteps := 2000000) only [s73, ↓aw_region, ↓aw_skip, ↓aw_seq, ↓aw_block, ↓aw_exit, ↓aw_ret, ↓sops_nil, ↓sops_go, ↓dops_nil, ↓dopsX_nil, ↓dopsR_nil, ↓vdn, vup, extr_20, extr_21, extr_30, extr_31, extr_32, List.map_cons, List.map_nil, cond_true, cond_false, aop, aThen, aBlock, argEnv, ev, sput, sputO, binK, binI, unK, builtinK, pickK, Nat.reduceBEq, Nat.reduceAdd, Int.reduceBEq, Int.reduceBNe, Int.reduceLT, aPost, resK, tup, tyf, allocK, newPtr, zero_26, qV, frV, storeF (get_new H z0) rfl, set_new]
  rw [hlH]
  obtain ⟨H0, hH0⟩ : ∃ H0, H0 = H ++ [fC q0.num q0.den] := ⟨_, rfl⟩
  have d4 : H0[h.length]? = some z0 := by rw [hH0]; exact get_old c4 _
  have d5 : H0[h.length + 1]? = some (fC q0.num q0.den) := by rw [hH0, ← hlH]; exact get_new _ _
  have dE : Ext (fun _ => False) h H0 := by rw [hH0]; exact hE.trans (Ext.app _ _ _)
  rw [← hH0]
  refine hN2 [(0, v), (1, vint (w : Nat)), (4, .pointer (some ⟨h.length, 0, none⟩)), (5, .pointer (some ⟨h.length + 1, 0, none⟩))] _ _ ?_ (by simp (maxSteps := 2000000) only [↓aw_region, ↓aw_skip, ↓aw_seq, ↓aw_block, ↓aw_exit, ↓aw_ret, ↓sops_nil, ↓sops_go, ↓dops_nil, ↓dopsX_nil, ↓dopsR_nil, ↓vdn, vup, extr_20, extr_21, extr_30, extr_31, extr_32, List.map_cons, List.map_nil, cond_true, cond_false, aop, aThen, aBlock, argEnv, ev, sput, sputO, binK, binI, unK, builtinK, pickK, Nat.reduceBEq, Nat.reduceAdd, Int.reduceBEq, Int.reduceBNe, Int.reduceLT, aPost, resK, tup, tyf])
  clear hN2
  try clear N2
  refine aws_cutW fun Z hZ => ?_
  refine aws_cut fun N3 hN3 => ?_
  simp (maxSteps := 2000000) only [s73, ↓aw_region, ↓aw_skip, ↓aw_seq, ↓aw_block, ↓aw_exit, ↓aw_ret, ↓sops_nil, ↓sops_go, ↓dops_nil, ↓dopsX_nil, ↓dopsR_nil, ↓vdn, vup, extr_20, extr_21, extr_30, extr_31, extr_32, List.map_cons, List.map_nil, cond_true, cond_false, aop, aThen, aBlock, argEnv, ev, sput, sputO, binK, binI, unK, builtinK, pickK, Nat.reduceBEq, Nat.reduceAdd, Int.reduceBEq, Int.reduceBNe, Int.reduceLT, aPost, resK, tup, tyf, hv.len]
  refine hN3 [(0, v), (1, vint (w : Nat)), (4, .pointer (some ⟨h.length, 0, none⟩)), (5, .pointer (some ⟨h.length + 1, 0, none⟩)), (14, v), (15, vint ps.length), (16, .int .i64 0)] _ _ ?_ (by simp (maxSteps := 2000000) only [↓aw_region, ↓aw_skip, ↓aw_seq, ↓aw_block, ↓aw_exit, ↓aw_ret, ↓sops_nil, ↓sops_go, ↓dops_nil, ↓dopsX_nil, ↓dopsR_nil, ↓vdn, vup, extr_20, extr_21, extr_30, extr_31, extr_32, List.map_cons, List.map_nil, cond_true, cond_false, aop, aThen, aBlock, argEnv, ev, sput, sputO, binK, binI, unK, builtinK, pickK, Nat.reduceBEq, Nat.reduceAdd, Int.reduceBEq, Int.reduceBNe, Int.reduceLT, aPost, resK, tup, tyf])
  clear hN3
  try clear N3
  refine aws_block ?_
  refine aws_hide fun Q hQ => ?_
  refine aw_loopW (γ := Nat × Heap) (fun s => s.1 ≤ ps.length ∧ Ext (fun _ => False) h s.2 ∧ s.2[h.length]? = some z0 ∧ s.2[h.length + 1]? = some (fC (scoreTo ps w s.1).num (scoreTo ps w s.1).den))
    (fun s => ([(0, v), (1, vint (w : Nat)), (4, .pointer (some ⟨h.length, 0, none⟩)), (5, .pointer (some ⟨h.length + 1, 0, none⟩)), (14, v), (15, vint ps.length), (16, vint (s.1 : Nat))], s.2)) (fun s => ps.length - s.1) (0, H0) ⟨Nat.zero_le _, dE, d4, by rw [hq0]; exact d5⟩ (by simp (maxSteps := 2000000) only [↓aw_region, ↓aw_skip, ↓aw_seq, ↓aw_block, ↓aw_exit, ↓aw_ret, ↓sops_nil, ↓sops_go, ↓dops_nil, ↓dopsX_nil, ↓dopsR_nil, ↓vdn, vup, extr_20, extr_21, extr_30, extr_31, extr_32, List.map_cons, List.map_nil, cond_true, cond_false, aop, aThen, aBlock, argEnv, ev, sput, sputO, binK, binI, unK, builtinK, pickK, Nat.reduceBEq, Nat.reduceAdd, Int.reduceBEq, Int.reduceBNe, Int.reduceLT, aPost, resK, tup, tyf, Int.natCast_zero]) rfl ?_
  rintro ⟨k, hp⟩ ⟨hk, hEp, k4, k5⟩
  simp only at hk hEp k4 k5
  refine aws_hide fun Q2 hQ2 => ?_
  simp only [l73_0]
  by_cases hin : (k : Int) < ps.length
  · have hk' : k < ps.length := by omega
    have hvp := hv.ext hEp
    clear hxy hmem hxq hfq tc x y
    obtain ⟨⟨x, y⟩, hxy⟩ : ∃ p, ps.getD k (0, 0) = p := ⟨_, rfl⟩
    have hmem : (x, y) ∈ ps := hxy ▸ getD_mem hk'
    have hxq := frV_q (c.c.vld _ hmem)
    have hfq : fq ps k = toQ (x, y) := by rw [fq, hxy]
    have hfit := chn_fits c.c hk'
    obtain ⟨t1, t2, t3⟩ := c.c.unit hk'
    have dsq : (fq ps k * fq ps k).den ∣ mult ps * mult ps := mul_den_dvd hm hm t3 t3
    have sq0 : 0 ≤ fq ps k * fq ps k := Rat.mul_nonneg t1 t1
    have sq1 : fq ps k * fq ps k ≤ 1 := by have := Rat.mul_le_mul_of_nonneg_left t2 t1; grind
    have tc : ∀ h', APure prog 72 [qV (fq ps k), qV (fq ps k)] h' (qV (fq ps k * fq ps k)) := fun h' => times_call hfit hfit (fits_b (C := 1) hmm dsq (Rat.le_trans (by decide) sq0) sq1 (by omega) hN)
    have hnext : scoreTo ps w (k + 1) = scoreTo ps w k + ((-1 : Int) : Rat) * (fq ps k * fq ps k) := by
      rw [scoreTo, scoreTo, neg_one_q]; simp only [sumTo]; grind
    obtain ⟨b1, b2⟩ := c.scoreTo_le hw hk
    have pl : ∀ h', APure prog 71 [qV (scoreTo ps w k), vint (-1), qV (fq ps k * fq ps k)] h' (qV (scoreTo ps w (k + 1))) := fun h' => by
      rw [hnext]
      exact plus_fits (A := 2) (B := 1) hmm hN (c.scoreTo_den hw hk) dsq (Rat.le_trans (by decide) b1) b2 (Rat.le_trans (by decide) sq0) sq1 (by simp; omega)
    rw [hfq, ← hxq] at tc
    rw [hfq] at pl
    obtain ⟨q, hqq⟩ : ∃ q, scoreTo ps w (k + 1) = q := ⟨_, rfl⟩
    obtain ⟨s, hss⟩ : ∃ s, scoreTo ps w k = s := ⟨_, rfl⟩
    obtain ⟨r, hrr⟩ : ∃ r, toQ (x, y) * toQ (x, y) = r := ⟨_, rfl⟩
    rw [hrr] at tc pl
    rw [hqq, hss] at pl
    rw [hss] at k5
    obtain ⟨H, hH⟩ : ∃ H, H = hp ++ [fC x y] := ⟨_, rfl⟩
    have c7 : H[hp.length]? = some (fC x y) := by rw [hH]; exact get_new _ _
    have c4 : H[h.length]? = some z0 := by rw [hH]; exact get_old k4 _
    have c5 : H[h.length + 1]? = some (fC s.num s.den) := by rw [hH]; exact get_old k5 _
    have hEH : Ext (fun _ => False) h H := by rw [hH]; exact hEp.trans (Ext.app _ _ _)
    refine aws_cut fun N4 hN4 => ?_
    simp (maxSteps := 2000000) only [s73, ↓aw_region, ↓aw_skip, ↓aw_seq, ↓aw_block, ↓aw_exit, ↓aw_ret, ↓sops_nil, ↓sops_go, ↓dops_nil, ↓dopsX_nil, ↓dopsR_nil, ↓vdn, vup, extr_20, extr_21, extr_30, extr_31, extr_32, List.map_cons, List.map_nil, cond_true, cond_false, aop, aThen, aBlock, argEnv, ev, sput, sputO, binK, binI, unK, builtinK, pickK, Nat.reduceBEq, Nat.reduceAdd, Int.reduceBEq, Int.reduceBNe, Int.reduceLT, aPost, resK, tup, tyf, hin]
    refine hN4 [(0, v), (1, vint (w : Nat)), (4, .pointer (some ⟨h.length, 0, none⟩)), (5, .pointer (some ⟨h.length + 1, 0, none⟩)), (14, v), (15, vint ps.length), (16, vint (k : Nat)), (17, .bool true)] _ _ ?_ (by simp (maxSteps := 2000000) only [↓aw_region, ↓aw_skip, ↓aw_seq, ↓aw_block, ↓aw_exit, ↓aw_ret, ↓sops_nil, ↓sops_go, ↓dops_nil, ↓dopsX_nil, ↓dopsR_nil, ↓vdn, vup, extr_20, extr_21, extr_30, extr_31, extr_32, List.map_cons, List.map_nil, cond_true, cond_false, aop, aThen, aBlock, argEnv, ev, sput, sputO, binK, binI, unK, builtinK, pickK, Nat.reduceBEq, Nat.reduceAdd, Int.reduceBEq, Int.reduceBNe, Int.reduceLT, aPost, resK, tup, tyf])
    clear hN4
    try clear N4
    refine aws_cut fun N5 hN5 => ?_
    simp (maxSteps := 2000000) only [s73, ↓aw_region, ↓aw_skip, ↓aw_seq, ↓aw_block, ↓aw_exit, ↓aw_ret, ↓sops_nil, ↓sops_go, ↓dops_nil, ↓dopsX_nil, ↓dopsR_nil, ↓vdn, vup, extr_20, extr_21, extr_30, extr_31, extr_32, List.map_cons, List.map_nil, cond_true, cond_false, aop, aThen, aBlock, argEnv, ev, sput, sputO, binK, binI, unK, builtinK, pickK, Nat.reduceBEq, Nat.reduceAdd, Int.reduceBEq, Int.reduceBNe, Int.reduceLT, aPost, resK, tup, tyf]
    refine hN5 [(0, v), (1, vint (w : Nat)), (4, .pointer (some ⟨h.length, 0, none⟩)), (5, .pointer (some ⟨h.length + 1, 0, none⟩)), (14, v), (15, vint ps.length), (16, vint (k : Nat))] _ _ ?_ (by simp (maxSteps := 2000000) only [↓aw_region, ↓aw_skip, ↓aw_seq, ↓aw_block, ↓aw_exit, ↓aw_ret, ↓sops_nil, ↓sops_go, ↓dops_nil, ↓dopsX_nil, ↓dopsR_nil, ↓vdn, vup, extr_20, extr_21, extr_30, extr_31, extr_32, List.map_cons, List.map_nil, cond_true, cond_false, aop, aThen, aBlock, argEnv, ev, sput, sputO, binK, binI, unK, builtinK, pickK, Nat.reduceBEq, Nat.reduceAdd, Int.reduceBEq, Int.reduceBNe, Int.reduceLT, aPost, resK, tup, tyf])
    clear hN5
    try clear N5
    refine aws_cutW fun B hB => ?_
    refine aws_block ?_
    refine aws_cut fun N6 hN6 => ?_
    simp (maxSteps := 2000000) only [s73, ↓aw_region, ↓aw_skip, ↓aw_seq, ↓aw_block, ↓aw_exit, ↓aw_ret, ↓sops_nil, ↓sops_go, ↓dops_nil, ↓dopsX_nil, ↓dopsR_nil, ↓vdn, vup, extr_20, extr_21, extr_30, extr_31, extr_32, List.map_cons, List.map_nil, cond_true, cond_false, aop, aThen, aBlock, argEnv, ev, sput, sputO, binK, binI, unK, builtinK, pickK, Nat.reduceBEq, Nat.reduceAdd, Int.reduceBEq, Int.reduceBNe, Int.reduceLT, aPost, resK, tup, tyf, hvp.idx el_47 esz_26 hk', hvp.load shp_26 hk', hxy, allocK, newPtr, zero_26, storeF (get_new hp z0) rfl, set_new]
    rw [← hH]
    refine hN6 [(0, v), (1, vint (w : Nat)), (4, .pointer (some ⟨h.length, 0, none⟩)), (5, .pointer (some ⟨h.length + 1, 0, none⟩)), (7, .pointer (some ⟨hp.length, 0, none⟩)), (14, v), (15, vint ps.length), (16, vint (k : Nat))] _ _ ?_ (by simp (maxSteps := 2000000) only [↓aw_region, ↓aw_skip, ↓aw_seq, ↓aw_block, ↓aw_exit, ↓aw_ret, ↓sops_nil, ↓sops_go, ↓dops_nil, ↓dopsX_nil, ↓dopsR_nil, ↓vdn, vup, extr_20, extr_21, extr_30, extr_31, extr_32, List.map_cons, List.map_nil, cond_true, cond_false, aop, aThen, aBlock, argEnv, ev, sput, sputO, binK, binI, unK, builtinK, pickK, Nat.reduceBEq, Nat.reduceAdd, Int.reduceBEq, Int.reduceBNe, Int.reduceLT, aPost, resK, tup, tyf])
    clear hN6
    try clear N6
    refine aw_aws ?_
    simp only [q73_5]
    refine aw_drawX [(3, 1), (4, 1)] (by kernel_rfl) (by kernel_rfl) (by kernel_rfl) (by kernel_rfl) ?_
    simp (maxSteps := 2000000) only [s73, ↓aw_region, ↓aw_skip, ↓aw_seq, ↓aw_block, ↓aw_exit, ↓aw_ret, ↓sops_nil, ↓sops_go, ↓dops_nil, ↓dopsX_nil, ↓dopsR_nil, ↓vdn, vup, extr_20, extr_21, extr_30, extr_31, extr_32, List.map_cons, List.map_nil, cond_true, cond_false, aop, aThen, aBlock, argEnv, ev, sput, sputO, binK, binI, unK, builtinK, pickK, Nat.reduceBEq, Nat.reduceAdd, Int.reduceBEq, Int.reduceBNe, Int.reduceLT, aPost, resK, tup, tyf, loadF c5, loadF c7, callK, List.nil_append, List.append_nil, List.toList_toArray, List.cons_append]
    refine ⟨_, _, tc _, rfl, _, _, pl _, rfl, ?_⟩
    simp only [qV, frV, storeF c5 rfl]
    refine hB [(0, v), (1, vint (w : Nat)), (4, .pointer (some ⟨h.length, 0, none⟩)), (5, .pointer (some ⟨h.length + 1, 0, none⟩)), (14, v), (15, vint ps.length), (16, vint (k : Nat))] _ _ ?_ (by simp (maxSteps := 2000000) only [↓aw_region, ↓aw_skip, ↓aw_seq, ↓aw_block, ↓aw_exit, ↓aw_ret, ↓sops_nil, ↓sops_go, ↓dops_nil, ↓dopsX_nil, ↓dopsR_nil, ↓vdn, vup, extr_20, extr_21, extr_30, extr_31, extr_32, List.map_cons, List.map_nil, cond_true, cond_false, aop, aThen, aBlock, argEnv, ev, sput, sputO, binK, binI, unK, builtinK, pickK, Nat.reduceBEq, Nat.reduceAdd, Int.reduceBEq, Int.reduceBNe, Int.reduceLT, aPost, resK, tup, tyf])
    clear hB
    try clear B
    refine aw_aws ?_
    simp (maxSteps := 2000000) only [s73, ↓aw_region, ↓aw_skip, ↓aw_seq, ↓aw_block, ↓aw_exit, ↓aw_ret, ↓sops_nil, ↓sops_go, ↓dops_nil, ↓dopsX_nil, ↓dopsR_nil, ↓vdn, vup, extr_20, extr_21, extr_30, extr_31, extr_32, List.map_cons, List.map_nil, cond_true, cond_false, aop, aThen, aBlock, argEnv, ev, sput, sputO, binK, binI, unK, builtinK, pickK, Nat.reduceBEq, Nat.reduceAdd, Int.reduceBEq, Int.reduceBNe, Int.reduceLT, aPost, resK, tup, tyf, add1 (show k < 9223372036854775807 by omega)]
    exact hQ2 _ _ _ ⟨(k + 1, H.set (h.length + 1) (fC q.num q.den)), ⟨hk', hEH.set_ge (by omega) _, by rw [List.getElem?_set_ne (by omega)]; exact c4, by simp only; rw [hqq]; exact get_set (get_lt c5) _⟩, by simp only; omega, by simp (maxSteps := 2000000) only [↓aw_region, ↓aw_skip, ↓aw_seq, ↓aw_block, ↓aw_exit, ↓aw_ret, ↓sops_nil, ↓sops_go, ↓dops_nil, ↓dopsX_nil, ↓dopsR_nil, ↓vdn, vup, extr_20, extr_21, extr_30, extr_31, extr_32, List.map_cons, List.map_nil, cond_true, cond_false, aop, aThen, aBlock, argEnv, ev, sput, sputO, binK, binI, unK, builtinK, pickK, Nat.reduceBEq, Nat.reduceAdd, Int.reduceBEq, Int.reduceBNe, Int.reduceLT, aPost, resK, tup, tyf], rfl⟩
  · obtain rfl : k = ps.length := by omega
    refine aws_cut fun N7 hN7 => ?_
    simp (maxSteps := 2000000) only [s73, ↓aw_region, ↓aw_skip, ↓aw_seq, ↓aw_block, ↓aw_exit, ↓aw_ret, ↓sops_nil, ↓sops_go, ↓dops_nil, ↓dopsX_nil, ↓dopsR_nil, ↓vdn, vup, extr_20, extr_21, extr_30, extr_31, extr_32, List.map_cons, List.map_nil, cond_true, cond_false, aop, aThen, aBlock, argEnv, ev, sput, sputO, binK, binI, unK, builtinK, pickK, Nat.reduceBEq, Nat.reduceAdd, Int.reduceBEq, Int.reduceBNe, Int.reduceLT, aPost, resK, tup, tyf, hin]
    refine hN7 [(0, v), (1, vint (w : Nat)), (4, .pointer (some ⟨h.length, 0, none⟩)), (5, .pointer (some ⟨h.length + 1, 0, none⟩)), (14, v), (15, vint ps.length), (16, vint ps.length), (17, .bool false)] _ _ ?_ (by simp (maxSteps := 2000000) only [↓aw_region, ↓aw_skip, ↓aw_seq, ↓aw_block, ↓aw_exit, ↓aw_ret, ↓sops_nil, ↓sops_go, ↓dops_nil, ↓dopsX_nil, ↓dopsR_nil, ↓vdn, vup, extr_20, extr_21, extr_30, extr_31, extr_32, List.map_cons, List.map_nil, cond_true, cond_false, aop, aThen, aBlock, argEnv, ev, sput, sputO, binK, binI, unK, builtinK, pickK, Nat.reduceBEq, Nat.reduceAdd, Int.reduceBEq, Int.reduceBNe, Int.reduceLT, aPost, resK, tup, tyf])
    clear hN7
    try clear N7
    refine aws_cut fun N8 hN8 => ?_
    simp (maxSteps := 2000000) only [s73, ↓aw_region, ↓aw_skip, ↓aw_seq, ↓aw_block, ↓aw_exit, ↓aw_ret, ↓sops_nil, ↓sops_go, ↓dops_nil, ↓dopsX_nil, ↓dopsR_nil, ↓vdn, vup, extr_20, extr_21, extr_30, extr_31, extr_32, List.map_cons, List.map_nil, cond_true, cond_false, aop, aThen, aBlock, argEnv, ev, sput, sputO, binK, binI, unK, builtinK, pickK, Nat.reduceBEq, Nat.reduceAdd, Int.reduceBEq, Int.reduceBNe, Int.reduceLT, aPost, resK, tup, tyf]
    refine hQ2 _ _ _ (hQ _ _ _ ?_)
    simp (maxSteps := 2000000) only [s73, ↓aw_region, ↓aw_skip, ↓aw_seq, ↓aw_block, ↓aw_exit, ↓aw_ret, ↓sops_nil, ↓sops_go, ↓dops_nil, ↓dopsX_nil, ↓dopsR_nil, ↓vdn, vup, extr_20, extr_21, extr_30, extr_31, extr_32, List.map_cons, List.map_nil, cond_true, cond_false, aop, aThen, aBlock, argEnv, ev, sput, sputO, binK, binI, unK, builtinK, pickK, Nat.reduceBEq, Nat.reduceAdd, Int.reduceBEq, Int.reduceBNe, Int.reduceLT, aPost, resK, tup, tyf, if_true]
    refine hZ [(0, v), (1, vint (w : Nat)), (4, .pointer (some ⟨h.length, 0, none⟩)), (5, .pointer (some ⟨h.length + 1, 0, none⟩)), (14, v), (15, vint ps.length), (16, vint ps.length), (17, .bool false)] _ _ ?_ (by simp (maxSteps := 2000000) only [↓aw_region, ↓aw_skip, ↓aw_seq, ↓aw_block, ↓aw_exit, ↓aw_ret, ↓sops_nil, ↓sops_go, ↓dops_nil, ↓dopsX_nil, ↓dopsR_nil, ↓vdn, vup, extr_20, extr_21, extr_30, extr_31, extr_32, List.map_cons, List.map_nil, cond_true, cond_false, aop, aThen, aBlock, argEnv, ev, sput, sputO, binK, binI, unK, builtinK, pickK, Nat.reduceBEq, Nat.reduceAdd, Int.reduceBEq, Int.reduceBNe, Int.reduceLT, aPost, resK, tup, tyf])
    clear hZ
    try clear Z
    rw [← scoreQ] at k5
    obtain ⟨q, hqq⟩ : ∃ q, scoreQ ps w = q := ⟨_, rfl⟩
    rw [hqq] at k5 ⊢
    refine aw_aws ?_
    simp (maxSteps := 2000000) only [s73, ↓aw_region, ↓aw_skip, ↓aw_seq, ↓aw_block, ↓aw_exit, ↓aw_ret, ↓sops_nil, ↓sops_go, ↓dops_nil, ↓dopsX_nil, ↓dopsR_nil, ↓vdn, vup, extr_20, extr_21, extr_30, extr_31, extr_32, List.map_cons, List.map_nil, cond_true, cond_false, aop, aThen, aBlock, argEnv, ev, sput, sputO, binK, binI, unK, builtinK, pickK, Nat.reduceBEq, Nat.reduceAdd, Int.reduceBEq, Int.reduceBNe, Int.reduceLT, aPost, resK, tup, tyf, loadF k5, storeF k4 rfl, loadF (get_set (get_lt k4) _)]
    exact ⟨rfl, hEp.set_ge (Nat.le_refl _) _⟩

end Go.Proofs.Try.Am
