/-
  bets: slices.Repeat of one fraction.
  bets: equations solved.
  bets: fractions: the reference's arithmetic; a fraction's checks.
  Printed by gen.py: the code of some functions, without what no step looks at; held against the program's own by the kernel.
  bets: the common multiple of fractions.
  Printed by gen.py: the code of some functions, without what no step looks at; held against the program's own by the kernel.
  bets: chances: their checks, sums over an event, parts.
  Printed by gen.py: the code of some functions, without what no step looks at; held against the program's own by the kernel.
  Printed by gen.py: the code of some functions, without what no step looks at; held against the program's own by the kernel.
  bets: parts as numbers; a slice of parts; the program's checks of chances; the chance of an event.
-/
import Derived.Test.YtcmindinomacbaaPk6
import Derived.Test.YtcmindinomacbaaPk5
import Derived.Test.YtcmindinomacbaaPk3
import Derived.Test.YtcmindinomacbaaProg
import Derived.KernelRfl
import Derived.Shelf.Abstract
set_option linter.all false
namespace Go.Proofs.Try.Am
open Go.Am Bq
set_option maxRecDepth 100000
set_option maxHeartbeats 1000000

theorem small_and : ∀ y : Nat, y < 6 → bitsV .and .u64 (y : Int) 4294967295 = (y : Int) ∧ shrV .u64 (y : Int) 32 = 0 ∧ mulV .u64 1 (y : Int) = (y : Int) ∧ mulV .u64 0 (y : Int) = 0 ∧ addV .u64 (y : Int) 0 = (y : Int) := by decide
theorem s123_callW [Tabs Try.prog] {args : List Value} {h : Zh} {Q : Value → Zh → Prop} (hsz : args.length ≤ 51) (hk : AWS Try.prog 51 s123 (Zs Try.prog [.tmp 4, .tmp 5] Q) (Zt 0 args) h) : ACall Try.prog 123 args h Q :=
  Ys Try.func123 rfl (enters_of Try.func123 (by kernel_rfl) rfl) rfl rfl (by decide) s123_strip s123_ok hsz hk
theorem mul64_call [Tabs prog] {h : Zh} {y : Nat} (hy : y < 6) : Xp prog 123 [.int .u64 1, .int .u64 (y : Int)] h (.tuple #[.int .u64 0, .int .u64 (y : Int)]) := by
  obtain ⟨a1, a2, a3, a4, a5⟩ := small_and y hy
  have b1 : bitsV .and .u64 1 4294967295 = 1 := by decide
  have b2 : shrV .u64 1 32 = 0 := by decide
  have b3 : mulV .u64 1 0 = 0 := by decide
  have b4 : mulV .u64 0 0 = 0 := by decide
  have b5 : addV .u64 0 0 = 0 := by decide
  have b6 : bitsV .and .u64 0 4294967295 = 0 := by decide
  have b7 : shrV .u64 0 32 = 0 := by decide
  have b8 : (0 : Int) ≤ 32 := by decide
  refine s123_callW (by simp) ?_
  refine Zi ?_
  simp (maxSteps := 2000000) only [s123, ↓Za, ↓Zu, ↓Zx, ↓Zb, ↓Zd, vup, cond_true, cond_false, aop, Zf, Zt, ev, sput, Zg, Yb, Ye, Nat.reduceBEq, Nat.reduceAdd, Zs, Wc, tup, a1, a2, a3, a4, b1, b2, b3, b4, b5, b6, b7, b8]

theorem s114_callW [Tabs Try.prog] {args : List Value} {h : Zh} {Q : Value → Zh → Prop} (hsz : args.length ≤ 30) (hk : AWS Try.prog 30 s114 (Zs Try.prog [.tmp 4, .tmp 5] Q) (Zt 0 args) h) : ACall Try.prog 114 args h Q :=
  Ys Try.func114 rfl (enters_of Try.func114 (by kernel_rfl) rfl) rfl rfl (by decide) s114_strip s114_ok hsz hk
theorem mul_call [Tabs prog] {h : Zh} {y : Nat} (hy : y < 6) : Xp prog 114 [.int .u64 1, .int .u64 (y : Int)] h (.tuple #[.int .u64 0, .int .u64 (y : Int)]) := by
  refine s114_callW (by simp) ?_
  simp only [s114]
  refine Ze fun N1 hN1 => ?_
  simp (maxSteps := 2000000) only [↓Za, ↓Zb, ↓Zd, vup, cond_false, aop, Zf, Zt, ev, sput, Zg, Nat.reduceBEq, Nat.reduceAdd]
  refine hN1 [(0, .int .u64 1), (1, .int .u64 (y : Int)), (4, .int .u64 0), (5, .int .u64 0)] _ _ ?_ (by simp (maxSteps := 2000000) only [vup, cond_true, cond_false, Nat.reduceBEq])
  clear hN1
  try clear N1
  refine Zl fun Z hZ => ?_
  refine Yf rfl ?_
  refine Zi ?_
  simp (maxSteps := 2000000) only [↓Zr, Zf]
  refine hZ [(0, .int .u64 1), (1, .int .u64 (y : Int)), (4, .int .u64 0), (5, .int .u64 0)] _ _ ?_ (by simp (maxSteps := 2000000) only [vup, cond_true, cond_false, Nat.reduceBEq])
  clear hZ
  try clear Z
  refine Zi ?_
  simp (maxSteps := 2000000) only [↓Za, ↓Zu, ↓Zx, ↓Zb, ↓Zd, vup, List.map_cons, List.map_nil, cond_true, cond_false, aop, Zf, ev, sput, Zg, Nat.reduceBEq, Zs, Wc, tup, Yy, List.nil_append, List.append_nil]
  refine (mul64_call hy).mono ?_
  rintro _ h ⟨rfl, rfl⟩
  simp (maxSteps := 2000000) only [vup, Ui, Uj]

theorem conv_u : ∀ y : Nat, y < 6 → IntKind.u64.wrap (y : Int) = (y : Int) ∧ IntKind.i64.wrap (y : Int) = (y : Int) := by decide
theorem litF [Tabs prog] {h : Zh} {x y : Int} (K : Value → Zh → Prop) : Yq prog h 47 1 [(0, .agg #[Zc x, Zc y])] K = K (.slice (some ⟨h.length, 0, none⟩) 1 1) (h ++ [.ints [x, y] 26 false]) := by
  simp only [Yq, el_47, zero_26, Vs, reps, fillL, mkb, Wt, cellsOf, List.length_cons, List.length_nil, Nat.zero_add, Nat.zero_mul, Yk]
  refine propext ⟨fun h => ?_, fun h => ⟨trivial, by decide, by decide, ?_⟩⟩
  · simpa [Xr] using h.2.2.2
  · simpa [Xr] using h

theorem flatP_take : ∀ (L : List (Int × Int)) (o : Nat), Yd (L.take o) = (Yd L).take (o * 2)
  | [], o => by simp [Yd]
  | p :: L, 0 => by simp [Yd]
  | p :: L, o + 1 => by
    have e : ∀ l : List (Int × Int), Yd (p :: l) = p.1 :: p.2 :: Yd l := fun l => rfl
    rw [List.take_succ_cons, e, e, flatP_take L o, show (o + 1) * 2 = o * 2 + 1 + 1 by omega, List.take_succ_cons, List.take_succ_cons]
theorem flatP_drop : ∀ (L : List (Int × Int)) (o : Nat), Yd (L.drop o) = (Yd L).drop (o * 2)
  | [], o => by simp [Yd]
  | p :: L, 0 => by simp
  | p :: L, o + 1 => by
    have e : ∀ l : List (Int × Int), Yd (p :: l) = p.1 :: p.2 :: Yd l := fun l => rfl
    rw [List.drop_succ_cons, e, flatP_drop L o, show (o + 1) * 2 = o * 2 + 1 + 1 by omega, List.drop_succ_cons, List.drop_succ_cons]
theorem flatP_splice {L S : List (Int × Int)} {o : Nat} : Yd (Yk L o S) = Yk (Yd L) (o * 2) (Yd S) := by
  simp only [Yk, flatP_app, flatP_take, flatP_drop, Wf, Nat.add_mul]
theorem storesP {h : Zh} {b o : Nat} {L S : List (Int × Int)} {e : TypeId} (hb : h[b]? = some (.cells ((Yd L).map Zc) e false)) (ho : o + S.length ≤ L.length) (K : Zh → Prop)
    (hk : K (h.set b (.cells ((Yd (Yk L o S)).map Zc) e false))) : storesK h b (o * 2) ((Yd S).map Zc) K := by
  simp only [storesK, hb, ← splice_map]
  refine ⟨?_, ?_, ?_⟩
  · rw [List.all_eq_true]
    intro v hv
    obtain ⟨n, _, rfl⟩ := List.mem_map.1 hv
    rfl
  · simp only [List.length_map, Wf]; omega
  · rw [← flatP_splice]; exact hk
theorem cellsP {h : Zh} {b o s : Nat} {L : List (Int × Int)} {e : TypeId} {ro : Bool} (hb : h[b]? = some (.cells ((Yd L).map Zc) e ro)) (ho : o + s ≤ L.length) (K : List Value → Prop)
    (hk : K ((Yd ((L.drop o).take s)).map Zc)) : Xv h b (o * 2) (s * 2) K := by
  simp only [Xv, hb]
  refine ⟨by simp only [List.length_map, Wf]; omega, ?_⟩
  rw [flatP_take, flatP_drop, List.map_take, List.map_drop] at hk
  exact hk
def repL (x y : Int) (n c : Nat) : List (Int × Int) := List.replicate c (x, y) ++ List.replicate (n - c) (0, 0)
theorem repL_len {x y : Int} {n c : Nat} (h : c ≤ n) : (repL x y n c).length = n := by simp [repL]; omega
theorem repL_next {x y : Int} {n c : Nat} (h : c ≤ n) : Yk (repL x y n c) c (((repL x y n c).drop 0).take (min c (n - c))) = repL x y n (c + min c (n - c)) := by
  have e1 : ((repL x y n c).drop 0).take (min c (n - c)) = List.replicate (min c (n - c)) (x, y) := by
    rw [List.drop_zero, repL, List.take_append_of_le_length (by simp; omega), List.take_replicate, Nat.min_eq_left (Nat.min_le_left _ _)]
  rw [e1, Yk, repL, List.take_append_of_le_length (by simp), List.take_of_length_le (by simp), List.drop_append, List.length_replicate, List.length_replicate, List.drop_of_length_le (by simp), List.nil_append, List.drop_replicate, List.replicate_append_replicate, repL]
  congr 2
  omega

theorem s95_callW [Tabs Try.prog] {args : List Value} {h : Zh} {Q : Value → Zh → Prop} (hsz : args.length ≤ 48) (hk : AWS Try.prog 48 s95 (Zs Try.prog [.tmp 4] Q) (Zt 0 args) h) : ACall Try.prog 95 args h Q :=
  Ys Try.func95 rfl (enters_of Try.func95 (by kernel_rfl) rfl) rfl rfl (by decide) s95_strip s95_ok hsz hk
theorem repeat_call [Tabs prog] {h : Zh} {b0 n : Nat} {x y : Int} (hb : h[b0]? = some (.ints [x, y] 26 false)) (hn : 1 ≤ n) (hn5 : n < 6) :
    ADet prog 95 [.slice (some ⟨b0, 0, none⟩) 1 1, Zc (n : Nat)] h (.slice (some ⟨h.length, 0, none⟩) n n) (h ++ [.cells ((Yd (List.replicate n (x, y))).map Zc) 26 false]) := by
  obtain ⟨cu, ci⟩ := conv_u n hn5
  have cu1 : IntKind.u64.wrap 1 = 1 := by decide
  have hneg : ¬ ((n : Nat) : Int) < 0 := by omega
  have hbig : ¬ ((n : Nat) : Int) > 9223372036854775807 := by omega
  have h00 : ¬ (0 : Int) > 0 := by decide
  refine s95_callW (by simp) ?_
  simp only [s95]
  refine Ze fun N2 hN2 => ?_
  simp (maxSteps := 2000000) only [↓Za, ↓Zb, ↓Zd, vup, cond_false, aop, Zf, Zt, ev, sput, Zg, Nat.reduceBEq, Nat.reduceAdd]
  refine hN2 [(0, .slice (some ⟨b0, 0, none⟩) 1 1), (1, Zc (n : Nat)), (4, .slice none 0 0)] _ _ ?_ (by simp (maxSteps := 2000000) only [vup, cond_true, cond_false, Nat.reduceBEq])
  clear hN2
  try clear N2
  refine Ze fun N3 hN3 => ?_
  simp (maxSteps := 2000000) only [↓Za, ↓Zr, ↓Zu, ↓Zb, ↓Zd, ↓vdn, vup, cond_true, cond_false, aop, Zf, ev, sput, Zg, Yb, Ye, Nat.reduceBEq, hneg]
  refine hN3 [(0, .slice (some ⟨b0, 0, none⟩) 1 1), (1, Zc (n : Nat)), (4, .slice none 0 0)] _ _ ?_ (by simp (maxSteps := 2000000) only [vup, cond_true, cond_false, Nat.reduceBEq])
  clear hN3
  try clear N3
  refine Ze fun N4 hN4 => ?_
  simp (maxSteps := 2000000) only [↓Za, ↓Zb, ↓Zd, vup, List.map_cons, List.map_nil, cond_true, cond_false, aop, Zf, ev, sput, Zg, Zk, Nat.reduceBEq, tyf, lenK, Int.natCast_one, convK, cu, cu1]
  simp (maxSteps := 2000000) only [Yy, List.nil_append, List.append_nil]
  refine (mul_call hn5).mono ?_
  rintro _ h ⟨rfl, rfl⟩
  simp (maxSteps := 2000000) only [Ui, Uj]
  refine hN4 [(0, .slice (some ⟨b0, 0, none⟩) 1 1), (1, Zc (n : Nat)), (4, .slice none 0 0), (5, .int .u64 0), (6, .int .u64 (n : Int))] _ _ ?_ (by simp (maxSteps := 2000000) only [vup, cond_true, cond_false, Nat.reduceBEq])
  clear hN4
  try clear N4
  refine Ze fun N5 hN5 => ?_
  simp (maxSteps := 2000000) only [↓Za, ↓Zr, ↓Zu, ↓Zb, ↓Zd, ↓vdn, vup, cond_true, cond_false, aop, Zf, ev, sput, Zg, Yb, Ye, Nat.reduceBEq, h00, hbig]
  refine hN5 [(0, .slice (some ⟨b0, 0, none⟩) 1 1), (1, Zc (n : Nat)), (4, .slice none 0 0), (5, .int .u64 0), (6, .int .u64 (n : Int))] _ _ ?_ (by simp (maxSteps := 2000000) only [vup, cond_true, cond_false, Nat.reduceBEq])
  clear hN5
  try clear N5
  have hmk : ∀ {K : Value → Zh → Prop}, makeK prog h 47 (Zc (n : Nat)) (Zc (n : Nat)) K = K (.slice (some ⟨h.length, 0, none⟩) n n) (h ++ [.cells ((Yd (List.replicate n (0, 0))).map Zc) 26 false]) := fun {K} => makeP el_47 zero_26 info_26 rfl (by omega)
  refine Ze fun N6 hN6 => ?_
  simp (maxSteps := 2000000) only [↓Za, ↓Zb, ↓Zd, vup, cond_true, cond_false, aop, Zf, ev, sput, Zg, Nat.reduceBEq, tyf, convK, ci, hmk]
  refine hN6 [(0, .slice (some ⟨b0, 0, none⟩) 1 1), (1, Zc (n : Nat)), (4, .slice none 0 0), (7, .slice (some ⟨h.length, 0, none⟩) n n)] _ _ ?_ (by simp (maxSteps := 2000000) only [vup, cond_true, cond_false, Nat.reduceBEq])
  clear hN6
  try clear N6
  obtain ⟨H, hH⟩ : ∃ H : Nat → Zh, H = fun c => h ++ [.cells ((Yd (repL x y n c)).map Zc) 26 false] := ⟨_, rfl⟩
  have hHc : ∀ c, (H c)[h.length]? = some (.cells ((Yd (repL x y n c)).map Zc) 26 false) := fun c => by rw [hH]; exact Zz _ _
  have hset : ∀ c d, (H c).set h.length (.cells ((Yd (repL x y n d)).map Zc) 26 false) = H d := fun c d => by simp only [hH]; rw [Wi]
  have hH0 : h ++ [.cells ((Yd (List.replicate n ((0 : Int), (0 : Int)))).map Zc) 26 false] = H 0 := by rw [hH]; simp [repL]
  rw [hH0]
  have hb0 : (H 0)[b0]? = some (.ints [x, y] 26 false) := by rw [hH]; exact Wj hb _
  have hcp : ∀ {K : Value → Zh → Prop}, K (Zc 1) (H 1) → copyK prog (H 0) 47 (.slice (some ⟨h.length, 0, none⟩) n n) (.slice (some ⟨b0, 0, none⟩) 1 1) K := fun {K} hK => by
    simp only [copyK, el_47, Vs]
    have e1 : min 1 n = 1 := by omega
    rw [e1]
    simp only [Xv, hb0]
    refine ⟨by simp, ?_⟩
    rw [show min ((1 : Nat) : Int) ((n : Nat) : Int) = 1 by omega]
    have st := storesP (S := [(x, y)]) (o := 0) (hHc 0) (by rw [repL_len (by omega)]; simp; omega) (fun h' => K (Zc 1) h') (by
      have e2 : Yk (repL x y n 0) 0 [(x, y)] = repL x y n 1 := by
        rw [repL, repL, List.replicate_zero, List.nil_append, show n - 0 = (n - 1) + 1 by omega, List.replicate_succ]
        simp [Yk]
      rw [e2, hset]; exact hK)
    exact st
  refine Ze fun N7 hN7 => ?_
  simp (maxSteps := 2000000) only [↓Za, ↓Zb, ↓Zd, vup, List.map_cons, List.map_nil, cond_true, cond_false, aop, Zf, ev, sput, Zg, Zk, Nat.reduceBEq]
  refine hcp ?_
  refine hN7 [(0, .slice (some ⟨b0, 0, none⟩) 1 1), (1, Zc (n : Nat)), (4, .slice none 0 0), (7, .slice (some ⟨h.length, 0, none⟩) n n), (8, .int .i64 1)] _ _ ?_ (by simp (maxSteps := 2000000) only [vup, cond_true, cond_false, Nat.reduceBEq])
  clear hN7
  try clear N7
  refine Zl fun Z hZ => ?_
  refine Zm ?_
  refine Zo fun Q hQ => ?_
  refine Yi (γ := Nat) (fun c => 1 ≤ c ∧ c ≤ n) (fun c => ([(0, .slice (some ⟨b0, 0, none⟩) 1 1), (1, Zc (n : Nat)), (4, .slice none 0 0), (7, .slice (some ⟨h.length, 0, none⟩) n n), (8, Zc (c : Nat))], H c)) (fun c => n - c) 1 ⟨Nat.le_refl _, hn⟩ (by simp (maxSteps := 2000000) only [vup, cond_true, cond_false, Nat.reduceBEq, Int.natCast_one]) rfl ?_
  rintro c ⟨hc1, hc⟩
  refine Zo fun Q2 hQ2 => ?_
  simp only [l95_0]
  by_cases hin : (c : Int) < n
  · have hcn : c < n := by omega
    refine Ze fun N8 hN8 => ?_
    simp (maxSteps := 2000000) only [↓Za, ↓Zr, ↓Zu, ↓Zb, ↓Zd, ↓vdn, vup, List.map_cons, List.map_nil, cond_true, cond_false, aop, Zf, ev, sput, Zg, Yb, Ye, Zk, Nat.reduceBEq, tyf, lenK, hin]
    refine hN8 [(0, .slice (some ⟨b0, 0, none⟩) 1 1), (1, Zc (n : Nat)), (4, .slice none 0 0), (7, .slice (some ⟨h.length, 0, none⟩) n n), (8, Zc (c : Nat))] _ _ ?_ (by simp (maxSteps := 2000000) only [vup, cond_true, cond_false, Nat.reduceBEq])
    clear hN8
    try clear N8
    refine Zi ?_
    simp only [q95_9, aw_block]
    refine Xx [] (by kernel_rfl) (by kernel_rfl) (by kernel_rfl) (by kernel_rfl) ?_
    have hs1 : ∀ {K : Value → Prop}, K (.slice (some ⟨h.length, c * 2, none⟩) (n - c) (n - c)) → Xk prog 47 (.slice (some ⟨h.length, 0, none⟩) n n) (some (Zc (c : Nat))) none none K := fun {K} hK => by
      simp only [Xk, el_47, Vs, bnd]
      refine ⟨by omega, by omega, by omega, fun _ => ?_, fun h0 => absurd rfl h0⟩
      rw [if_neg (by omega), show ((n : Int) - (c : Int)).toNat = n - c by omega, Int.toNat_natCast, Nat.zero_add]
      exact hK
    have hs2 : ∀ {K : Value → Prop}, K (.slice (some ⟨h.length, 0, none⟩) c n) → Xk prog 47 (.slice (some ⟨h.length, 0, none⟩) n n) none (some (Zc (c : Nat))) none K := fun {K} hK => by
      simp only [Xk, el_47, Vs, bnd]
      refine ⟨by omega, by omega, by omega, fun _ => ?_, fun h0 => absurd rfl h0⟩
      rw [if_neg (by omega)]
      simpa using hK
    have hcp2 : ∀ {K : Value → Zh → Prop}, K (Zc (min c (n - c) : Nat)) (H (c + min c (n - c))) → copyK prog (H c) 47 (.slice (some ⟨h.length, c * 2, none⟩) (n - c) (n - c)) (.slice (some ⟨h.length, 0, none⟩) c n) K := fun {K} hK => by
      simp only [copyK, el_47, Vs]
      refine cellsP (o := 0) (hHc c) (by rw [repL_len (by omega)]; omega) _ ?_
      refine storesP (hHc c) (by rw [List.length_take, List.length_drop, repL_len (by omega)]; omega) _ ?_
      rw [repL_next (by omega), hset, show min ((c : Nat) : Int) ((n - c : Nat) : Int) = ((min c (n - c) : Nat) : Int) by omega]
      exact hK
    simp (maxSteps := 2000000) only [↓Yt, ↓vdn, vup, List.map_cons, List.map_nil, cond_true, cond_false, aop, Zp, ev, sput, Zg, Yb, Ye, Zk, Nat.reduceBEq, tyf, Option.map_some, Option.map_none]
    refine hs1 ?_
    refine hs2 ?_
    refine hcp2 ?_
    have ha : addV .i64 (c : Int) ((min c (n - c) : Nat) : Int) = ((c + min c (n - c) : Nat) : Int) := by rw [addN (by omega)]; push_cast; rfl
    simp (maxSteps := 2000000) only [vup, ha]
    exact hQ2 _ _ _ ⟨c + min c (n - c), ⟨by omega, by omega⟩, by omega, by simp (maxSteps := 2000000) only [vup, cond_true, cond_false, Nat.reduceBEq], rfl⟩
  · have hcn : n = c := by omega
    subst hcn
    refine Ze fun N9 hN9 => ?_
    simp (maxSteps := 2000000) only [↓Za, ↓Zu, ↓Ym, ↓Zb, ↓Zd, ↓vdn, vup, List.map_cons, List.map_nil, cond_true, cond_false, aop, Zf, ev, sput, Zg, Yb, Ye, Zk, Nat.reduceBEq, tyf, lenK, hin]
    refine hQ2 _ _ _ (hQ _ _ _ ?_)
    simp (maxSteps := 2000000) only [Zf, Zp, Zs, if_true]
    refine hZ [(0, .slice (some ⟨b0, 0, none⟩) 1 1), (1, Zc (n : Nat)), (4, .slice none 0 0), (7, .slice (some ⟨h.length, 0, none⟩) n n), (8, Zc (n : Nat))] _ _ ?_ (by simp (maxSteps := 2000000) only [vup, cond_true, cond_false, Nat.reduceBEq])
    clear hZ
    try clear Z
    refine Zi ?_
    simp (maxSteps := 2000000) only [↓Za, ↓Zu, ↓Zx, ↓Zb, ↓Zd, vup, cond_true, cond_false, aop, Zf, ev, sput, Zg, Nat.reduceBEq, Zs, Wc, tup]
    rw [hH]; simp [repL]
end Go.Proofs.Try.Am

namespace Go.Proofs.Try.Am
open Go.Am Bq
set_option maxRecDepth 100000
set_option maxHeartbeats 1000000

theorem findP_fst (m a : Nat) (T : Xw) (ha : a ≤ m) : match findP m a T with | none => fstI (m - a) (fun i => decide (T (a + i) a ≠ 0)) = -1 | some p => a ≤ p ∧ p < m ∧ fstI (m - a) (fun i => decide (T (a + i) a ≠ 0)) = ((p - a : Nat) : Int) := by
  cases hf : findP m a T with
  | none =>
    simp only
    rw [fstI, find_none]
    intro i hi
    rw [findP, List.find?_eq_none] at hf
    have := hf (a + i) (List.mem_range.2 (by omega))
    simpa using this
  | some p =>
    obtain ⟨h1, h2, h3, h4⟩ := findP_some hf
    simp only
    refine ⟨h2, h1, ?_⟩
    rw [fstI, find_spec (k := p - a) (by omega) (by simp only [show a + (p - a) = p by omega]; simpa using h3) (fun i hi => by simpa using h4 (a + i) (by omega) (by omega))]

def normTo (a c : Nat) (T : Xw) : Xw := fun i d => if i = a ∧ d < c then T a d / T a a else T i d
theorem normTo_zero (a : Nat) (T : Xw) : normTo a 0 T = T := by funext i d; simp [normTo]
theorem normTo_at (a c : Nat) (T : Xw) : normTo a c T a c = T a c := by simp [normTo]
theorem normTo_succ (a c : Nat) (T : Xw) : upd (normTo a c T) a c (T a c / T a a) = normTo a (c + 1) T := by
  funext i d
  simp only [upd, normTo]
  by_cases h1 : i = a
  · subst h1
    by_cases h2 : d = c
    · subst h2; simp
    · by_cases h3 : d < c
      · simp [h2, h3, show d < c + 1 by omega]
      · simp [h2, h3, show ¬ d < c + 1 by omega]
  · simp [h1]
theorem normTo_all {a k i d : Nat} (T : Xw) (hd : d ≤ k) : normTo a (k + 1) T i d = Uf a T i d := by
  simp only [normTo, Uf]
  by_cases h1 : i = a
  · simp [h1, show d < k + 1 by omega]
  · simp [h1]
def Xe (a r : Nat) (T : Xw) : Xw := fun i d => if i < r ∧ i ≠ a then T i d - T i a * T a d else T i d
def Uc (a i c : Nat) (T : Xw) : Xw := fun i' d => if i' = i ∧ d < c then T i d - T i a * T a d else T i' d
theorem elimRows_zero (a : Nat) (T : Xw) : Xe a 0 T = T := by funext i d; simp [Xe]
theorem elimTo_zero (a i : Nat) (T : Xw) : Uc a i 0 T = T := by funext i' d; simp [Uc]
theorem elimTo_at (a i c : Nat) (T : Xw) : Uc a i c T i c = T i c := by simp [Uc]
theorem elimTo_other {a i c i' : Nat} (T : Xw) (h : i' ≠ i) (d : Nat) : Uc a i c T i' d = T i' d := by simp [Uc, h]
theorem elimTo_succ (a i c : Nat) (T : Xw) : upd (Uc a i c T) i c (T i c - T i a * T a c) = Uc a i (c + 1) T := by
  funext i' d
  simp only [upd, Uc]
  by_cases h1 : i' = i
  · subst h1
    by_cases h2 : d = c
    · subst h2; simp
    · by_cases h3 : d < c
      · simp [h2, h3, show d < c + 1 by omega]
      · simp [h2, h3, show ¬ d < c + 1 by omega]
  · simp [h1]
theorem elimRows_row (a r : Nat) (T : Xw) : Xe a r T r = T r ∧ Xe a r T a = T a := by
  constructor <;> (funext d; simp [Xe])
theorem elimRows_next {a r k : Nat} (T : Xw) (h : r ≠ a) {i d : Nat} (hd : d ≤ k) : Uc a r (k + 1) (Xe a r T) i d = Xe a (r + 1) T i d := by
  obtain ⟨e1, e2⟩ := elimRows_row a r T
  simp only [Uc, e1, e2]
  by_cases h1 : i = r
  · subst h1; simp [Xe, h, show d < k + 1 by omega]
  · simp only [h1, false_and, if_false, Xe]
    by_cases h2 : i < r
    · simp [h2, show i < r + 1 by omega]
    · simp [h2, show ¬ i < r + 1 by omega]
theorem elimRows_skip {a r : Nat} (T : Xw) (h : r = a ∨ T r a = 0) (i d : Nat) : Xe a r T i d = Xe a (r + 1) T i d := by
  simp only [Xe]
  by_cases h1 : i = r
  · subst h1
    rcases h with h | h
    · simp [h]
    · by_cases h3 : i = a
      · simp [h3]
      · simp only [Nat.lt_irrefl, false_and, if_false, show i < i + 1 by omega, true_and, ne_eq, h3, not_false_eq_true, if_true, h]
        grind
  · by_cases h2 : i < r
    · simp [h2, show i < r + 1 by omega]
    · simp [h2, show ¬ i < r + 1 by omega]
theorem elimRows_all {a m i d : Nat} (T : Xw) (hi : i < m) : Xe a m T i d = Vp a T i d := by
  simp only [Xe, Vp]
  by_cases h : i = a
  · simp [h]
  · simp [h, hi]

theorem clear_fits [Tabs prog] {D0 D1 : Nat} {x0 x1 x2 : Int} {p f r : Rat} (h0 : Rp D0 x0 p) (h1 : Rp D0 x1 f) (h2 : Rp D1 x2 r) (hD0 : D0 ≤ 1073741824) (hD1 : D1 ≤ 1073741824) (b0 : x0.natAbs ≤ 1073741824) (b1 : x1.natAbs ≤ 1073741824) (b2 : x2.natAbs ≤ 1073741824) (h : Zh) :
    Xp prog 72 [qV f, qV r] h (qV (f * r)) ∧ Xp prog 71 [qV p, Zc (-1), qV (f * r)] h (qV (p - f * r)) := by
  have hDD : D0 * D1 ≤ 1152921504606846976 := Nat.le_trans (Nat.mul_le_mul hD0 hD1) (by decide)
  have hxx : (x1 * x2).natAbs ≤ 1152921504606846976 := by rw [Int.natAbs_mul]; exact Nat.le_trans (Nat.mul_le_mul b1 b2) (by decide)
  have hm := h1.mul h2
  have hx0 : (x0 * (D1 : Int)).natAbs ≤ 1152921504606846976 := by rw [Int.natAbs_mul, Int.natAbs_natCast]; exact Nat.le_trans (Nat.mul_le_mul b0 hD1) (by decide)
  have f1 : Fits f := ⟨by have := h1.le; omega, by have := h1.den_le; omega⟩
  have f2 : Fits r := ⟨by have := h2.le; omega, by have := h2.den_le; omega⟩
  have f3 : Fits (f * r) := ⟨by have := hm.le; omega, by have := hm.den_le; omega⟩
  refine ⟨times_call f1 f2 f3, ?_⟩
  have := plus_call (h := h) (k := -1) (h0.up D1 h2.pos) hm (by omega) (by omega)
  rwa [show p + ((-1 : Int) : Rat) * (f * r) = p - f * r by rw [show (((-1 : Int)) : Rat) = -1 from rfl]; grind] at this
theorem tame_fits {m k : Nat} {T : Xw} (h : Tame m k T) {i c : Nat} (hi : i < m) (hc : c ≤ k) : Fits (T i c) := by
  obtain ⟨D, h1, h2, h3⟩ := h
  obtain ⟨x, g1, g2⟩ := h3 i c hi hc
  exact ⟨by have := g1.le; omega, by have := g1.den_le; omega⟩

def Tch (B m : Nat) (bk : Nat → Nat) (b : Nat) : Prop := b = B ∨ ∃ i, i < m ∧ b = bk i
theorem Ext.fresh {S : Nat → Prop} {h h1 h2 : Zh} (hE : Ext S h h1) (hn : Ext (fun b => h.length ≤ b ∨ S b) h1 h2) : Ext S h h2 := by
  refine ⟨Nat.le_trans hE.1 hn.1, fun i hi hs => ?_⟩
  rw [hn.2 i (Nat.lt_of_lt_of_le hi hE.1) (by rintro (h3 | h3); omega; exact hs h3)]
  exact hE.2 i hi hs

set_option maxHeartbeats 4000000
theorem Mat.tail2 {h : Zh} {B m k C : Nat} {w : Nat → Value} {bk : Nat → Nat} {T : Xw} (M : Mat h B m k w bk T) {a : Nat} (ha : a ≤ m) (hm1 : 1 ≤ m) (hC : m ≤ C) {K : Value → Prop}
    (hk : ∀ v, (∀ K : Value → Prop, lenK v K = K (Zc ((m - a : Nat) : Int))) → (∀ i, i < m - a → ∀ K : Value → Prop, Xa prog 103 v (Zc (i : Nat)) K = K (Vk v 1 i)) → (∀ i, i < m - a → ∀ K : Value → Prop, Xj prog h 47 (Vk v 1 i) K = K (w (a + i))) → K v) :
    Xk prog 103 (.slice (some ⟨B, 0, some 0⟩) m C) (some (Zc (a : Nat))) none none K := by
  rcases Nat.lt_or_ge a m with h1 | h1
  · refine M.tail h1 hC fun v hv => ?_
    have hlen : ((List.range (m - a)).map fun i => w (a + i)).length = m - a := by simp
    refine hk v (fun K => by rw [hv.len, hlen]) (fun i hi K => hv.idx el_103 Um (by rw [hlen]; exact hi) K) fun i hi K => ?_
    rw [hv.load shp_47 (by rw [hlen]; exact hi)]
    simp [List.getD, hi]
  · obtain rfl : a = m := by omega
    have key : K void := hk void (fun K => by rw [Nat.sub_self]; rfl) (fun i hi => by omega) (fun i hi => by omega)
    simp only [Xk, el_103, Um, bnd]
    exact ⟨by omega, by omega, by omega, fun h0 => by simp at h0, fun _ => .inr ⟨by omega, .inr ⟨trivial, key⟩⟩⟩
theorem s87_callW [Tabs Try.prog] {args : List Value} {h : Zh} {Q : Value → Zh → Prop} (hsz : args.length ≤ 176) (hk : AWS Try.prog 176 s87 (Zs Try.prog [.tmp 4, .tmp 5] Q) (Zt 0 args) h) : ACall Try.prog 87 args h Q :=
  Ys Try.func87 rfl (enters_of Try.func87 (by kernel_rfl) rfl) rfl rfl (by decide) s87_strip s87_ok hsz hk
theorem solve_call [Tabs prog] {h : Zh} {B m k C : Nat} {w0 : Nat → Value} {bk0 : Nat → Nat} {T0 : Xw} (M0 : Mat h B m k w0 bk0 T0) (hC : m ≤ C) (hm1 : 1 ≤ m) (hm : m ≤ 100) (hk1 : 1 ≤ k) (hk : k ≤ 100)
    (htame : ∀ j S, j ≤ k → Yw m T0 j = some S → Tame m k S) :
    ACall prog 87 [.slice (some ⟨B, 0, some 0⟩) m C, Zc (k : Nat)] h fun r h' => Ext (Tch B m bk0) h h' ∧ ∃ x ok, r = .tuple #[x, .bool ok] ∧
      (match Xl m k T0 with | none => ok = false ∧ x = .slice none 0 0 | some xs => ok = true ∧ OwnP 26 h' x (xs.map ofQ) ∧ ∀ b, Yj x = some b → h.length ≤ b) := by
  refine s87_callW (by simp) ?_
  simp only [s87]
  refine Ze fun N1 hN1 => ?_
  simp (maxSteps := 2000000) only [↓Za, ↓Zb, ↓Zd, vup, cond_false, aop, Zf, Zt, ev, sput, Zg, Nat.reduceBEq, Nat.reduceAdd]
  refine hN1 [(0, .slice (some ⟨B, 0, some 0⟩) m C), (1, Zc (k : Nat)), (4, .slice none 0 0), (5, .bool false)] _ _ ?_ (by simp (maxSteps := 2000000) only [vup, cond_true, cond_false, Nat.reduceBEq])
  clear hN1
  try clear N1
  refine Ze fun N2 hN2 => ?_
  simp (maxSteps := 2000000) only [↓Za, ↓Zb, ↓Zd, vup, cond_false, aop, Zf, ev, sput, Zg, Nat.reduceBEq]
  refine hN2 [(0, .slice (some ⟨B, 0, some 0⟩) m C), (1, Zc (k : Nat)), (4, .slice none 0 0), (5, .bool false), (6, .int .i64 0)] _ _ ?_ (by simp (maxSteps := 2000000) only [vup, cond_true, cond_false, Nat.reduceBEq])
  clear hN2
  try clear N2
  refine Zl fun Z hZ => ?_
  refine Ze fun N3 hN3 => ?_
  simp (maxSteps := 2000000) only [↓Za, ↓Zb, ↓Zd, vup, cond_true, cond_false, aop, Zf, ev, sput, Zg, Nat.reduceBEq]
  refine hN3 [(0, .slice (some ⟨B, 0, some 0⟩) m C), (1, Zc (k : Nat)), (4, .slice none 0 0), (5, .bool false), (6, .int .i64 0), (18, Zc (k : Nat)), (19, .int .i64 0)] _ _ ?_ (by simp (maxSteps := 2000000) only [vup, cond_true, cond_false, Nat.reduceBEq])
  clear hN3
  try clear N3
  refine Zm ?_
  refine Zo fun Q hQ => ?_
  refine Yi (γ := Nat × Zh × (Nat → Value) × (Nat → Nat) × Xw) (fun s => s.1 ≤ k ∧ s.1 ≤ m ∧ (s.1 < k → s.1 < m) ∧ Yw m T0 s.1 = some s.2.2.2.2 ∧ Mat s.2.1 B m k s.2.2.1 s.2.2.2.1 s.2.2.2.2 ∧ Ext (Tch B m bk0) h s.2.1 ∧ ∀ i, i < m → Tch B m bk0 (s.2.2.2.1 i))
    (fun s => ([(0, .slice (some ⟨B, 0, some 0⟩) m C), (1, Zc (k : Nat)), (4, .slice none 0 0), (5, .bool false), (6, Zc (s.1 : Nat)), (18, Zc (k : Nat)), (19, Zc (s.1 : Nat))], s.2.1)) (fun s => k - s.1) (0, h, w0, bk0, T0) ⟨Nat.zero_le _, Nat.zero_le _, fun _ => hm1, rfl, M0, Ext.refl _ _, fun i hi => .inr ⟨i, hi, rfl⟩⟩ (by simp (maxSteps := 2000000) only [vup, cond_true, cond_false, Nat.reduceBEq, Int.natCast_zero]) rfl ?_
  rintro ⟨j, hp, w, bk, T⟩ ⟨hj, hjm, hjkm, hrun, M, hE, hS⟩
  simp only at hj hjm hjkm hrun M hE hS
  refine Zo fun Q2 hQ2 => ?_
  simp only [l87_3]
  by_cases hin : (j : Int) < k
  · have hjk : j < k := by omega
    have hjm' : j < m := hjkm hjk
    have hBh : h.length ≤ hp.length := hE.1
    refine Ze fun N4 hN4 => ?_
    simp (maxSteps := 2000000) only [↓Za, ↓Zb, ↓Zd, vup, cond_true, cond_false, aop, Zf, ev, sput, Zg, Yb, Ye, Nat.reduceBEq, hin]
    refine hN4 [(0, .slice (some ⟨B, 0, some 0⟩) m C), (1, Zc (k : Nat)), (4, .slice none 0 0), (5, .bool false), (6, Zc (j : Nat)), (18, Zc (k : Nat)), (19, Zc (j : Nat)), (20, .bool true)] _ _ ?_ (by simp (maxSteps := 2000000) only [vup, cond_true, cond_false, Nat.reduceBEq])
    clear hN4
    try clear N4
    refine Ze fun N5 hN5 => ?_
    simp (maxSteps := 2000000) only [↓Zr, ↓vdn, vup, cond_true, cond_false, Zf, ev, Nat.reduceBEq]
    refine hN5 [(0, .slice (some ⟨B, 0, some 0⟩) m C), (1, Zc (k : Nat)), (4, .slice none 0 0), (5, .bool false), (6, Zc (j : Nat)), (18, Zc (k : Nat)), (19, Zc (j : Nat))] _ _ ?_ (by simp (maxSteps := 2000000) only [vup, cond_true, cond_false, Nat.reduceBEq])
    clear hN5
    try clear N5
    refine Zl fun Y hY => ?_
    refine Zm ?_
    -- the column's number
    obtain ⟨H1, hH1⟩ : ∃ H1, H1 = hp ++ [Blk.cells [Zc (j : Nat)] 3 false] := ⟨_, rfl⟩
    have b7 : H1[hp.length]? = some (.cells [Zc (j : Nat)] 3 false) := by rw [hH1]; exact Zz _ _
    have M1 : Mat H1 B m k w bk T := by rw [hH1]; exact M.ext (Ext.app _ _ _)
    have hE1 : Ext (Tch B m bk0) h H1 := by rw [hH1]; exact hE.trans (Ext.app _ _ _)
    have hH1l : H1.length = hp.length + 1 := by rw [hH1]; simp
    refine Ze fun N6 hN6 => ?_
    simp (maxSteps := 2000000) only [↓Za, ↓Zb, ↓Zd, vup, cond_true, cond_false, aop, Zf, ev, sput, Zg, Nat.reduceBEq, tyf, Xo, Yn, store1 (v' := Zc (j : Nat)) (Zz hp (.cells [.int .i64 0] 3 false)) Wk rfl, Wi]
    rw [← hH1]
    refine hN6 [(0, .slice (some ⟨B, 0, some 0⟩) m C), (1, Zc (k : Nat)), (4, .slice none 0 0), (5, .bool false), (6, Zc (j : Nat)), (7, .pointer (some ⟨hp.length, 0, none⟩)), (18, Zc (k : Nat)), (19, Zc (j : Nat))] _ _ ?_ (by simp (maxSteps := 2000000) only [vup, cond_true, cond_false, Nat.reduceBEq])
    clear hN6
    try clear N6
    -- the first row with a number there
    have hfst := findP_fst m j T hjm
    refine Ze fun N7 hN7 => ?_
    simp (maxSteps := 2000000) only [↓Za, ↓Zb, ↓Zd, vup, List.map_cons, List.map_nil, cond_true, cond_false, aop, Zf, ev, sput, Zg, Nat.reduceBEq, Option.map_some, Option.map_none]
    refine M1.tail hjm' hC fun v hv => ?_
    have ix := idxRow_call (F := fun i => decide (T (j + i) j ≠ 0)) (g := 112) (cap := #[.pointer (some ⟨hp.length, 0, none⟩)]) hv (by simp; omega) (fun i hi => by
      simp only [List.length_map, List.length_range] at hi
      have e : ((List.range (m - j)).map fun i => w (j + i)).getD i undef = w (j + i) := by simp [List.getD, hi]
      rw [e]
      exact nonzero_call M1 b7 (by omega) (by omega))
    rw [List.length_map, List.length_range] at ix
    simp (maxSteps := 2000000) only [vup, List.map_cons, List.map_nil, cond_true, cond_false, ev, Nat.reduceBEq, Yy, List.nil_append, List.append_nil, List.map_toArray]
    refine (ix).mono ?_
    rintro _ H1 ⟨rfl, rfl⟩
    refine hN7 [(0, .slice (some ⟨B, 0, some 0⟩) m C), (1, Zc (k : Nat)), (4, .slice none 0 0), (5, .bool false), (6, Zc (j : Nat)), (7, .pointer (some ⟨hp.length, 0, none⟩)), (8, Zc (fstI (m - j) fun i => decide (T (j + i) j ≠ 0))), (18, Zc (k : Nat)), (19, Zc (j : Nat))] _ _ ?_ (by simp (maxSteps := 2000000) only [vup, cond_true, cond_false, Nat.reduceBEq])
    clear hN7
    try clear N7
    cases hf : findP m j T with
    | none =>
      rw [hf] at hfst
      simp only at hfst
      refine Zi ?_
      simp (maxSteps := 2000000) only [↓Za, ↓Zu, ↓Zx, ↓Zb, ↓Zd, ↓vdn, vup, cond_true, cond_false, aop, Zf, Zp, ev, sput, Zg, Yb, Ye, Nat.reduceBEq, Int.reduceLT, hfst]
      refine hQ2 _ _ _ (hQ _ _ _ ?_)
      simp (maxSteps := 2000000) only [vup, cond_true, cond_false, Zf, Zp, Nat.reduceBEq, Zs, Wc, tup]
      have hs : Xl m k T0 = none := by
        have : ∀ d, Yw m T0 (j + 1 + d) = none := by
          intro d
          induction d with
          | zero =>
            show (Yw m T0 j).bind (Wd m j) = none
            rw [hrun]
            show Wd m j T = none
            rw [Wd, hf]; rfl
          | succ d ih => rw [← Nat.add_assoc, Yw, ih]; rfl
        rw [Xl, show k = j + 1 + (k - (j + 1)) by omega, this]; rfl
      rw [hs]
      exact ⟨hE1, _, _, rfl, rfl, rfl⟩
    | some p =>
      rw [hf] at hfst
      simp only at hfst
      obtain ⟨hap, hpm, hfst⟩ := hfst
      rw [hfst]
      have hpj : ¬ ((p - j : Nat) : Int) < 0 := by omega
      refine Ze fun N8 hN8 => ?_
      simp (maxSteps := 2000000) only [↓Za, ↓Zr, ↓Zu, ↓Zb, ↓Zd, ↓vdn, vup, cond_true, cond_false, aop, Zf, ev, sput, Zg, Yb, Ye, Nat.reduceBEq, hpj]
      refine hN8 [(0, .slice (some ⟨B, 0, some 0⟩) m C), (1, Zc (k : Nat)), (4, .slice none 0 0), (5, .bool false), (6, Zc (j : Nat)), (7, .pointer (some ⟨hp.length, 0, none⟩)), (8, Zc (p - j : Nat)), (18, Zc (k : Nat)), (19, Zc (j : Nat))] _ _ ?_ (by simp (maxSteps := 2000000) only [vup, cond_true, cond_false, Nat.reduceBEq])
      clear hN8
      try clear N8
      -- two rows change places
      obtain ⟨h1, H2, st1, st2, M2, hE2, hk2⟩ := M1.swap hjm' hpm
      have hb7 : hp.length ≠ B := by have := M.blt; omega
      have b7 : H2[hp.length]? = some (.cells [Zc (j : Nat)] 3 false) := by rw [hk2 _ hb7]; exact b7
      have hlen2 := Yg b7
      have hE2 : Ext (Tch B m bk0) h H2 := hE1.trans (hE2.mono fun b hb => .inl hb)
      have hS2 : ∀ i, i < m → Tch B m bk0 (swp j p bk i) := fun i hi => by
        simp only [swp]; split
        · exact hS p hpm
        · split
          · exact hS j hjm'
          · exact hS i hi
      have ajp : addV .i64 (j : Int) ((p - j : Nat) : Int) = (p : Int) := by rw [addN (by omega)]; omega
      refine Ze fun N9 hN9 => ?_
      simp only [q87_8]
      refine Xx [] (by kernel_rfl) (by kernel_rfl) (by kernel_rfl) (by kernel_rfl) ?_
      simp (maxSteps := 2000000) only [↓Yt, ↓vdn, vup, cond_true, cond_false, aop, Zf, ev, sput, Zg, Yb, Ye, Nat.reduceBEq, Nat.reduceAdd, ajp, Mat.idx j hjm', Mat.idx p hpm, M1.loadRow hpm, M1.loadRow hjm', st1, st2]
      refine hN9 [(0, .slice (some ⟨B, 0, some 0⟩) m C), (1, Zc (k : Nat)), (4, .slice none 0 0), (5, .bool false), (6, Zc (j : Nat)), (7, .pointer (some ⟨hp.length, 0, none⟩)), (18, Zc (k : Nat)), (19, Zc (j : Nat))] _ _ ?_ (by simp (maxSteps := 2000000) only [vup, cond_true, cond_false, Nat.reduceBEq])
      clear hN9
      try clear N9
      have hTp : T p j ≠ 0 := (findP_some hf).2.2.1
      have hnext : Yw m T0 (j + 1) = some (Vp j (Uf j (Wu j p T))) := by
        show (Yw m T0 j).bind (Wd m j) = _
        rw [hrun]
        show Wd m j T = _
        rw [Wd, hf]; rfl
      have tame0 := htame j T hj hrun
      have tame1 := htame (j + 1) _ hjk hnext
      have hU0 : Wu j p T j j ≠ 0 := by simp only [Wu, if_true]; exact hTp
      have tameU : Tame m k (Wu j p T) := by
        obtain ⟨D, g1, g2, g3⟩ := tame0
        refine ⟨D, g1, g2, fun i c hi hc => ?_⟩
        simp only [Wu]
        split
        · exact g3 p c hpm hc
        · split
          · exact g3 j c hjm' hc
          · exact g3 i c hi hc
      clear hk2 st1 st2 h1 M1 M hE hE1 hS ix
      obtain ⟨w', hw'⟩ : ∃ w', w' = swp j p w := ⟨_, rfl⟩
      obtain ⟨bk', hbk'⟩ : ∃ w', w' = swp j p bk := ⟨_, rfl⟩
      obtain ⟨U, hU⟩ : ∃ U, U = Wu j p T := ⟨_, rfl⟩
      rw [← hw', ← hbk', ← hU] at M2
      rw [← hbk'] at hS2
      rw [← hU] at hnext tame1 hU0 tameU
      clear hw' hbk' hU
      -- what it is divided by
      obtain ⟨H3, hH3⟩ : ∃ H3, H3 = H2 ++ [fC (U j j).num (U j j).den] := ⟨_, rfl⟩
      have b9 : H3[H2.length]? = some (fC (U j j).num (U j j).den) := by rw [hH3]; exact Zz _ _
      have M3 : Mat H3 B m k w' bk' U := by rw [hH3]; exact M2.ext (Ext.app _ _ _)
      have hE3 : Ext (Tch B m bk0) h H3 := by rw [hH3]; exact hE2.trans (Ext.app _ _ _)
      have b7 : H3[hp.length]? = some (.cells [Zc (j : Nat)] 3 false) := by rw [hH3]; exact Wj b7 _
      refine Ze fun N10 hN10 => ?_
      simp only [q87_9]
      refine aw_drawE (fun _ => True) [] 7 9 [3, 4, 6] (by kernel_rfl) (by kernel_rfl) (by kernel_rfl) (by kernel_rfl) (by kernel_rfl) (by rfl) trivial ?_
      have b7' : H2[hp.length]? = some (.cells [Zc (j : Nat)] 3 false) := by
        rw [hH3, List.getElem?_append_left hlen2] at b7; exact b7
      simp (maxSteps := 2000000) only [↓Uh, ↓vdn, vup, cond_true, cond_false, aop, Zf, ev, sput, Zg, Nat.reduceBEq, Nat.reduceAdd, tyf, Mat.idx j hjm', M2.loadRow hjm', Vw b7' Wk, M2.idxR hjm' (show j ≤ k by omega), M2.loadE hjm' (show j ≤ k by omega), Xo, Yn]
      simp only [qV, frV, Vr (Zz H2 z0) rfl, Wi]
      rw [← hH3]
      refine hN10 [(0, .slice (some ⟨B, 0, some 0⟩) m C), (1, Zc (k : Nat)), (4, .slice none 0 0), (5, .bool false), (6, Zc (j : Nat)), (7, .pointer (some ⟨hp.length, 0, none⟩)), (9, .pointer (some ⟨H2.length, 0, none⟩)), (18, Zc (k : Nat)), (19, Zc (j : Nat))] _ _ ?_ (by simp (maxSteps := 2000000) only [vup, cond_true, cond_false, Nat.reduceBEq])
      clear hN10
      try clear N10
      obtain ⟨D1, d1, d2, d3⟩ := tame1
      have hT1 : ∀ i c, Vp j (Uf j U) i c = if i = j then U j c / U j j else U i c - U i j * (U j c / U j j) := fun i c => by
        simp only [Vp, Uf]
        by_cases h : i = j
        · simp [h]
        · simp [h]
      have tame1 : Tame m k (Vp j (Uf j U)) := ⟨D1, d1, d2, d3⟩
      have hlen3 : H2.length < H3.length := by rw [hH3]; simp
      -- the row is divided
      refine Zl fun X hX => ?_
      refine Ze fun N11 hN11 => ?_
      simp (maxSteps := 2000000) only [↓Za, ↓Zb, ↓Zd, vup, List.map_cons, List.map_nil, cond_true, cond_false, aop, Zf, ev, sput, Zg, Zk, Nat.reduceBEq, tyf, Mat.idx j hjm', M3.loadRow hjm', M3.lenR hjm']
      refine hN11 [(0, .slice (some ⟨B, 0, some 0⟩) m C), (1, Zc (k : Nat)), (4, .slice none 0 0), (5, .bool false), (6, Zc (j : Nat)), (7, .pointer (some ⟨hp.length, 0, none⟩)), (9, .pointer (some ⟨H2.length, 0, none⟩)), (18, Zc (k : Nat)), (19, Zc (j : Nat)), (58, Zc ((k + 1 : Nat) : Int)), (59, .int .i64 0)] _ _ ?_ (by simp (maxSteps := 2000000) only [vup, cond_true, cond_false, Nat.reduceBEq])
      clear hN11
      try clear N11
      refine Zm ?_
      refine Zo fun Qa hQa => ?_
      refine Yi (γ := Nat × Zh) (fun s => s.1 ≤ k + 1 ∧ Mat s.2 B m k w' bk' (normTo j s.1 U) ∧ Ext (Tch B m bk0) h s.2 ∧ s.2[hp.length]? = some (.cells [Zc (j : Nat)] 3 false) ∧ s.2[H2.length]? = some (fC (U j j).num (U j j).den))
        (fun s => ([(0, .slice (some ⟨B, 0, some 0⟩) m C), (1, Zc (k : Nat)), (4, .slice none 0 0), (5, .bool false), (6, Zc (j : Nat)), (7, .pointer (some ⟨hp.length, 0, none⟩)), (9, .pointer (some ⟨H2.length, 0, none⟩)), (18, Zc (k : Nat)), (19, Zc (j : Nat)), (58, Zc ((k + 1 : Nat) : Int)), (59, Zc (s.1 : Nat))], s.2)) (fun s => k + 1 - s.1) (0, H3) ⟨Nat.zero_le _, by simp only; rw [normTo_zero]; exact M3, hE3, b7, b9⟩ (by simp (maxSteps := 2000000) only [vup, cond_true, cond_false, Nat.reduceBEq, Int.natCast_zero]) rfl ?_
      rintro ⟨c, G⟩ ⟨hc, MG, hEG, g7, g9⟩
      simp only at hc MG hEG g7 g9
      refine Zo fun Qb hQb => ?_
      simp only [l87_0]
      by_cases hcin : (c : Int) < ((k + 1 : Nat) : Int)
      · have hc' : c ≤ k := by omega
        have ov : Xp prog 94 [qV (U j c), qV (U j j)] G (qV (U j c / U j j)) := by
          refine over_call (tame_fits tameU hjm' hc') (tame_fits tameU hjm' (by omega)) hU0 ?_
          have := tame_fits tame1 hjm' hc'
          rw [hT1, if_pos rfl] at this
          exact this
        obtain ⟨G', st, MG', hEG', hk'⟩ := MG.storeE hjm' hc' (U j c / U j j)
        rw [normTo_succ] at MG'
        refine Ze fun N12 hN12 => ?_
        simp (maxSteps := 2000000) only [↓Za, ↓Zb, ↓Zd, vup, cond_true, cond_false, aop, Zf, ev, sput, Zg, Yb, Ye, Nat.reduceBEq, hcin]
        refine hN12 [(0, .slice (some ⟨B, 0, some 0⟩) m C), (1, Zc (k : Nat)), (4, .slice none 0 0), (5, .bool false), (6, Zc (j : Nat)), (7, .pointer (some ⟨hp.length, 0, none⟩)), (9, .pointer (some ⟨H2.length, 0, none⟩)), (18, Zc (k : Nat)), (19, Zc (j : Nat)), (58, Zc ((k + 1 : Nat) : Int)), (59, Zc (c : Nat)), (60, .bool true)] _ _ ?_ (by simp (maxSteps := 2000000) only [vup, cond_true, cond_false, Nat.reduceBEq])
        clear hN12
        try clear N12
        refine Ze fun N13 hN13 => ?_
        simp (maxSteps := 2000000) only [↓Zr, ↓vdn, vup, cond_true, cond_false, Zf, ev, Nat.reduceBEq]
        refine hN13 [(0, .slice (some ⟨B, 0, some 0⟩) m C), (1, Zc (k : Nat)), (4, .slice none 0 0), (5, .bool false), (6, Zc (j : Nat)), (7, .pointer (some ⟨hp.length, 0, none⟩)), (9, .pointer (some ⟨H2.length, 0, none⟩)), (18, Zc (k : Nat)), (19, Zc (j : Nat)), (58, Zc ((k + 1 : Nat) : Int)), (59, Zc (c : Nat))] _ _ ?_ (by simp (maxSteps := 2000000) only [vup, cond_true, cond_false, Nat.reduceBEq])
        clear hN13
        try clear N13
        refine Zl fun W hW => ?_
        refine Zm ?_
        refine Ze fun N14 hN14 => ?_
        simp (maxSteps := 2000000) only [↓Za, ↓Zb, ↓Zd, vup, cond_true, cond_false, aop, Zf, ev, sput, Zg, Nat.reduceBEq]
        refine hN14 [(0, .slice (some ⟨B, 0, some 0⟩) m C), (1, Zc (k : Nat)), (4, .slice none 0 0), (5, .bool false), (6, Zc (j : Nat)), (7, .pointer (some ⟨hp.length, 0, none⟩)), (9, .pointer (some ⟨H2.length, 0, none⟩)), (10, Zc (c : Nat)), (18, Zc (k : Nat)), (19, Zc (j : Nat)), (58, Zc ((k + 1 : Nat) : Int)), (59, Zc (c : Nat))] _ _ ?_ (by simp (maxSteps := 2000000) only [vup, cond_true, cond_false, Nat.reduceBEq])
        clear hN14
        try clear N14
        refine Zi ?_
        simp only [q87_13]
        refine Xx [(13, 1)] (by kernel_rfl) (by kernel_rfl) (by kernel_rfl) (by kernel_rfl) ?_
        simp (maxSteps := 2000000) only [↓Yt, ↓vdn, vup, List.map_cons, List.map_nil, cond_true, cond_false, aop, Zf, Zp, ev, sput, Zg, Nat.reduceBEq, Nat.reduceAdd, Mat.idx j hjm', MG.loadRow hjm', MG.idxR hjm' hc', MG.loadE hjm' hc', normTo_at, loadF g9, Yy, List.nil_append, List.append_nil]
        refine ⟨_, _, ov, rfl, ?_⟩
        simp (maxSteps := 2000000) only [st]
        refine hW [(0, .slice (some ⟨B, 0, some 0⟩) m C), (1, Zc (k : Nat)), (4, .slice none 0 0), (5, .bool false), (6, Zc (j : Nat)), (7, .pointer (some ⟨hp.length, 0, none⟩)), (9, .pointer (some ⟨H2.length, 0, none⟩)), (18, Zc (k : Nat)), (19, Zc (j : Nat)), (58, Zc ((k + 1 : Nat) : Int)), (59, Zc (c : Nat))] _ _ ?_ (by simp (maxSteps := 2000000) only [vup, cond_true, cond_false, Nat.reduceBEq])
        clear hW
        try clear W
        refine Zi ?_
        simp (maxSteps := 2000000) only [↓Za, ↓Zb, ↓Zd, vup, cond_true, cond_false, aop, ev, sput, Zg, Yb, Ye, Nat.reduceBEq, Vt (show c < 9223372036854775807 by omega)]
        have hbj : bk' j < G.length := MG.lt hjm'
        have n7 : hp.length ≠ bk' j := fun he => by
          obtain ⟨cc, xs, e1, e2, e3⟩ := MG.row j hjm'
          rw [← he, g7] at e3; cases e3
        have n9 : H2.length ≠ bk' j := fun he => by
          obtain ⟨cc, xs, e1, e2, e3⟩ := MG.row j hjm'
          rw [← he, g9] at e3; cases e3
        refine hQb _ _ _ ⟨(c + 1, G'), ⟨by simp only; omega, MG', hEG.trans (hEG'.mono fun b hb => by rw [hb]; exact hS2 j hjm'), by simp only; rw [hk' _ n7]; exact g7, by simp only; rw [hk' _ n9]; exact g9⟩, by simp only; omega, by simp (maxSteps := 2000000) only [vup, cond_true, cond_false, Nat.reduceBEq], rfl⟩
      obtain rfl : c = k + 1 := by omega
      refine Ze fun N15 hN15 => ?_
      simp (maxSteps := 2000000) only [↓Za, ↓Zb, ↓Zd, vup, cond_true, cond_false, aop, Zf, ev, sput, Zg, Yb, Ye, Nat.reduceBEq, hcin]
      refine hN15 [(0, .slice (some ⟨B, 0, some 0⟩) m C), (1, Zc (k : Nat)), (4, .slice none 0 0), (5, .bool false), (6, Zc (j : Nat)), (7, .pointer (some ⟨hp.length, 0, none⟩)), (9, .pointer (some ⟨H2.length, 0, none⟩)), (18, Zc (k : Nat)), (19, Zc (j : Nat)), (58, Zc ((k + 1 : Nat) : Int)), (59, Zc ((k + 1 : Nat) : Int)), (60, .bool false)] _ _ ?_ (by simp (maxSteps := 2000000) only [vup, cond_true, cond_false, Nat.reduceBEq])
      clear hN15
      try clear N15
      refine Ze fun N16 hN16 => ?_
      simp (maxSteps := 2000000) only [↓Ym, ↓vdn, vup, cond_true, cond_false, Zf, ev, Nat.reduceBEq]
      refine hQb _ _ _ (hQa _ _ _ ?_)
      simp (maxSteps := 2000000) only [Zf, Zp, if_true]
      refine hX [(0, .slice (some ⟨B, 0, some 0⟩) m C), (1, Zc (k : Nat)), (4, .slice none 0 0), (5, .bool false), (6, Zc (j : Nat)), (7, .pointer (some ⟨hp.length, 0, none⟩)), (18, Zc (k : Nat)), (19, Zc (j : Nat)), (60, .bool false)] _ _ ?_ (by simp (maxSteps := 2000000) only [vup, cond_true, cond_false, Nat.reduceBEq])
      clear hX
      try clear X
      have MV : Mat G B m k w' bk' (Uf j U) := MG.congr fun i d hi hd => normTo_all U hd
      clear MG g9 b9 b7 M3 M2 hE2 b7' hlen3
      obtain ⟨V, hV⟩ : ∃ V, V = Uf j U := ⟨_, rfl⟩
      rw [← hV] at MV hnext tame1 d3
      have hVj : ∀ c, Vp j V j c = V j c := fun c => by simp [Vp]
      have hVi : ∀ i, i ≠ j → V i = U i := fun i hi => by rw [hV]; funext d; simp [Uf, hi]
      -- the other rows are cleared
      refine Zl fun X hX => ?_
      refine Ze fun N17 hN17 => ?_
      simp (maxSteps := 2000000) only [↓Za, ↓Zb, ↓Zd, vup, List.map_cons, List.map_nil, cond_true, cond_false, aop, Zf, ev, sput, Zg, Zk, Nat.reduceBEq, tyf, lenK]
      refine hN17 [(0, .slice (some ⟨B, 0, some 0⟩) m C), (1, Zc (k : Nat)), (4, .slice none 0 0), (5, .bool false), (6, Zc (j : Nat)), (7, .pointer (some ⟨hp.length, 0, none⟩)), (18, Zc (k : Nat)), (19, Zc (j : Nat)), (60, .bool false), (78, .slice (some ⟨B, 0, some 0⟩) m C), (79, Zc (m : Nat)), (80, .int .i64 0)] _ _ ?_ (by simp (maxSteps := 2000000) only [vup, cond_true, cond_false, Nat.reduceBEq])
      clear hN17
      try clear N17
      refine Zm ?_
      refine Zo fun Qa hQa => ?_
      refine Yi (γ := Nat × Zh) (fun s => s.1 ≤ m ∧ Mat s.2 B m k w' bk' (Xe j s.1 V) ∧ Ext (Tch B m bk0) h s.2 ∧ s.2[hp.length]? = some (.cells [Zc (j : Nat)] 3 false))
        (fun s => ([(0, .slice (some ⟨B, 0, some 0⟩) m C), (1, Zc (k : Nat)), (4, .slice none 0 0), (5, .bool false), (6, Zc (j : Nat)), (7, .pointer (some ⟨hp.length, 0, none⟩)), (18, Zc (k : Nat)), (19, Zc (j : Nat)), (60, .bool false), (78, .slice (some ⟨B, 0, some 0⟩) m C), (79, Zc (m : Nat)), (80, Zc (s.1 : Nat))], s.2)) (fun s => m - s.1) (0, G) ⟨Nat.zero_le _, by simp only; rw [elimRows_zero]; exact MV, hEG, g7⟩ (by simp (maxSteps := 2000000) only [vup, cond_true, cond_false, Nat.reduceBEq, Int.natCast_zero]) rfl ?_
      rintro ⟨r, G1⟩ ⟨hr, MR, hER, r7⟩
      simp only at hr MR hER r7
      refine Zo fun Qb hQb => ?_
      simp only [l87_2]
      by_cases hrin : (r : Int) < (m : Int)
      · have hr' : r < m := by omega
        obtain ⟨er1, er2⟩ := elimRows_row j r V
        refine Ze fun N18 hN18 => ?_
        simp (maxSteps := 2000000) only [↓Za, ↓Zb, ↓Zd, vup, cond_true, cond_false, aop, Zf, ev, sput, Zg, Yb, Ye, Nat.reduceBEq, hrin]
        refine hN18 [(0, .slice (some ⟨B, 0, some 0⟩) m C), (1, Zc (k : Nat)), (4, .slice none 0 0), (5, .bool false), (6, Zc (j : Nat)), (7, .pointer (some ⟨hp.length, 0, none⟩)), (18, Zc (k : Nat)), (19, Zc (j : Nat)), (60, .bool false), (78, .slice (some ⟨B, 0, some 0⟩) m C), (79, Zc (m : Nat)), (80, Zc (r : Nat)), (81, .bool true)] _ _ ?_ (by simp (maxSteps := 2000000) only [vup, cond_true, cond_false, Nat.reduceBEq])
        clear hN18
        try clear N18
        refine Ze fun N19 hN19 => ?_
        simp (maxSteps := 2000000) only [↓Zr, ↓vdn, vup, cond_true, cond_false, Zf, ev, Nat.reduceBEq]
        refine hN19 [(0, .slice (some ⟨B, 0, some 0⟩) m C), (1, Zc (k : Nat)), (4, .slice none 0 0), (5, .bool false), (6, Zc (j : Nat)), (7, .pointer (some ⟨hp.length, 0, none⟩)), (18, Zc (k : Nat)), (19, Zc (j : Nat)), (60, .bool false), (78, .slice (some ⟨B, 0, some 0⟩) m C), (79, Zc (m : Nat)), (80, Zc (r : Nat))] _ _ ?_ (by simp (maxSteps := 2000000) only [vup, cond_true, cond_false, Nat.reduceBEq])
        clear hN19
        try clear N19
        refine Zl fun W hW => ?_
        refine Zm ?_
        refine Ze fun N20 hN20 => ?_
        simp (maxSteps := 2000000) only [↓Za, ↓Zb, ↓Zd, vup, cond_true, cond_false, aop, Zf, ev, sput, Zg, Nat.reduceBEq]
        refine hN20 [(0, .slice (some ⟨B, 0, some 0⟩) m C), (1, Zc (k : Nat)), (4, .slice none 0 0), (5, .bool false), (6, Zc (j : Nat)), (7, .pointer (some ⟨hp.length, 0, none⟩)), (11, Zc (r : Nat)), (18, Zc (k : Nat)), (19, Zc (j : Nat)), (60, .bool false), (78, .slice (some ⟨B, 0, some 0⟩) m C), (79, Zc (m : Nat)), (80, Zc (r : Nat))] _ _ ?_ (by simp (maxSteps := 2000000) only [vup, cond_true, cond_false, Nat.reduceBEq])
        clear hN20
        try clear N20
        refine Ze fun N21 hN21 => ?_
        simp only [q87_18]
        refine aw_drawE (fun _ => True) [] 7 12 [3, 4, 6] (by kernel_rfl) (by kernel_rfl) (by kernel_rfl) (by kernel_rfl) (by kernel_rfl) (by rfl) trivial ?_
        simp (maxSteps := 2000000) only [↓Uh, ↓vdn, vup, cond_true, cond_false, aop, Zf, ev, sput, Zg, Nat.reduceBEq, Nat.reduceAdd, tyf, Mat.idx r hr', MR.loadRow hr', Vw r7 Wk, MR.idxR hr' (show j ≤ k by omega), MR.loadE hr' (show j ≤ k by omega), er1, Xo, Yn]
        simp only [qV, frV, Vr (Zz G1 z0) rfl, Wi]
        obtain ⟨G2, hG2⟩ : ∃ G2, G2 = G1 ++ [fC (V r j).num (V r j).den] := ⟨_, rfl⟩
        have b12 : G2[G1.length]? = some (fC (V r j).num (V r j).den) := by rw [hG2]; exact Zz _ _
        have M2 : Mat G2 B m k w' bk' (Xe j r V) := by rw [hG2]; exact MR.ext (Ext.app _ _ _)
        have hE2 : Ext (Tch B m bk0) h G2 := by rw [hG2]; exact hER.trans (Ext.app _ _ _)
        have b7 : G2[hp.length]? = some (.cells [Zc (j : Nat)] 3 false) := by rw [hG2]; exact Wj r7 _
        rw [← hG2]
        refine hN21 [(0, .slice (some ⟨B, 0, some 0⟩) m C), (1, Zc (k : Nat)), (4, .slice none 0 0), (5, .bool false), (6, Zc (j : Nat)), (7, .pointer (some ⟨hp.length, 0, none⟩)), (11, Zc (r : Nat)), (12, .pointer (some ⟨G1.length, 0, none⟩)), (18, Zc (k : Nat)), (19, Zc (j : Nat)), (60, .bool false), (78, .slice (some ⟨B, 0, some 0⟩) m C), (79, Zc (m : Nat)), (80, Zc (r : Nat))] _ _ ?_ (by simp (maxSteps := 2000000) only [vup, cond_true, cond_false, Nat.reduceBEq])
        clear hN21
        try clear N21
        have fin : ∀ e H, Mat H B m k w' bk' (Xe j (r + 1) V) → Ext (Tch B m bk0) h H → H[hp.length]? = some (.cells [Zc (j : Nat)] 3 false) → ELe e [(0, .slice (some ⟨B, 0, some 0⟩) m C), (1, Zc (k : Nat)), (4, .slice none 0 0), (5, .bool false), (6, Zc (j : Nat)), (7, .pointer (some ⟨hp.length, 0, none⟩)), (18, Zc (k : Nat)), (19, Zc (j : Nat)), (60, .bool false), (78, .slice (some ⟨B, 0, some 0⟩) m C), (79, Zc (m : Nat)), (80, Zc (r : Nat))] → W e H := by
          intro e H f1 f2 f3 he
          refine hW _ _ _ ?_ he
          refine Zi ?_
          simp (maxSteps := 2000000) only [↓Za, ↓Zb, ↓Zd, vup, cond_true, cond_false, aop, ev, sput, Zg, Yb, Ye, Nat.reduceBEq, Vt (show r < 9223372036854775807 by omega)]
          exact hQb _ _ _ ⟨(r + 1, H), ⟨hr', f1, f2, f3⟩, by simp only; omega, by simp (maxSteps := 2000000) only [vup, cond_true, cond_false, Nat.reduceBEq], rfl⟩
        by_cases hrj : r = j
        · have hne : (((r : Nat) : Int) != ((j : Nat) : Int)) = false := by simp [hrj]
          refine Ze fun N22 hN22 => ?_
          simp (maxSteps := 2000000) only [↓Za, ↓Zb, ↓Zd, ↓vdn, vup, cond_true, cond_false, aop, Zf, ev, sput, Zg, Yb, Ye, Nat.reduceBEq, hne]
          refine hN22 [(0, .slice (some ⟨B, 0, some 0⟩) m C), (1, Zc (k : Nat)), (4, .slice none 0 0), (5, .bool false), (6, Zc (j : Nat)), (7, .pointer (some ⟨hp.length, 0, none⟩)), (11, Zc (r : Nat)), (12, .pointer (some ⟨G1.length, 0, none⟩)), (18, Zc (k : Nat)), (19, Zc (j : Nat)), (60, .bool false), (78, .slice (some ⟨B, 0, some 0⟩) m C), (79, Zc (m : Nat)), (80, Zc (r : Nat)), (97, .bool false)] _ _ ?_ (by simp (maxSteps := 2000000) only [vup, cond_true, cond_false, Nat.reduceBEq])
          clear hN22
          try clear N22
          refine Zi ?_
          simp (maxSteps := 2000000) only [↓Zr, ↓vdn, vup, cond_true, cond_false, Zf, Zp, ev, Nat.reduceBEq]
          exact fin _ _ (M2.congr fun i d _ _ => elimRows_skip V (.inl hrj) i d) hE2 b7 (by simp (maxSteps := 2000000) only [vup, cond_true, cond_false, Nat.reduceBEq])
        have hne : (((r : Nat) : Int) != ((j : Nat) : Int)) = true := by
          have : ¬ ((r : Nat) : Int) = ((j : Nat) : Int) := by omega
          simpa [bne] using this
        by_cases hf0 : V r j = 0
        · have hnz : ((V r j).num != 0) = false := by simp [hf0]
          refine Ze fun N23 hN23 => ?_
          simp (maxSteps := 2000000) only [↓Za, ↓Zb, ↓Zd, ↓vdn, vup, cond_true, cond_false, aop, Zf, ev, sput, Zg, Yb, Ye, Nat.reduceBEq, tyf, hne, fA0, Uk b12, hnz]
          refine hN23 [(0, .slice (some ⟨B, 0, some 0⟩) m C), (1, Zc (k : Nat)), (4, .slice none 0 0), (5, .bool false), (6, Zc (j : Nat)), (7, .pointer (some ⟨hp.length, 0, none⟩)), (11, Zc (r : Nat)), (12, .pointer (some ⟨G1.length, 0, none⟩)), (18, Zc (k : Nat)), (19, Zc (j : Nat)), (60, .bool false), (78, .slice (some ⟨B, 0, some 0⟩) m C), (79, Zc (m : Nat)), (80, Zc (r : Nat)), (97, .bool false)] _ _ ?_ (by simp (maxSteps := 2000000) only [vup, cond_true, cond_false, Nat.reduceBEq])
          clear hN23
          try clear N23
          refine Zi ?_
          simp (maxSteps := 2000000) only [↓Zr, ↓vdn, vup, cond_true, cond_false, Zf, Zp, ev, Nat.reduceBEq]
          exact fin _ _ (M2.congr fun i d _ _ => elimRows_skip V (.inr hf0) i d) hE2 b7 (by simp (maxSteps := 2000000) only [vup, cond_true, cond_false, Nat.reduceBEq])
        have hnz : ((V r j).num != 0) = true := by
          have : ¬ (V r j).num = 0 := fun hc => hf0 (Rat.num_eq_zero.1 hc)
          simpa [bne] using this
        refine Ze fun N24 hN24 => ?_
        simp (maxSteps := 2000000) only [↓Za, ↓Zb, ↓Zd, ↓vdn, vup, cond_true, cond_false, aop, Zf, ev, sput, Zg, Yb, Ye, Nat.reduceBEq, tyf, hne, fA0, Uk b12, hnz]
        refine hN24 [(0, .slice (some ⟨B, 0, some 0⟩) m C), (1, Zc (k : Nat)), (4, .slice none 0 0), (5, .bool false), (6, Zc (j : Nat)), (7, .pointer (some ⟨hp.length, 0, none⟩)), (11, Zc (r : Nat)), (12, .pointer (some ⟨G1.length, 0, none⟩)), (18, Zc (k : Nat)), (19, Zc (j : Nat)), (60, .bool false), (78, .slice (some ⟨B, 0, some 0⟩) m C), (79, Zc (m : Nat)), (80, Zc (r : Nat)), (97, .bool true)] _ _ ?_ (by simp (maxSteps := 2000000) only [vup, cond_true, cond_false, Nat.reduceBEq])
        clear hN24
        try clear N24
        refine Yu rfl ?_
        obtain ⟨D0, z1, z2, z3⟩ := tameU
        obtain ⟨x1, y1, y2⟩ := z3 r j hr' (by omega)
        rw [← hVi r hrj] at y1
        refine Ze fun N25 hN25 => ?_
        simp (maxSteps := 2000000) only [↓Za, ↓Zb, ↓Zd, vup, List.map_cons, List.map_nil, cond_true, cond_false, aop, Zf, ev, sput, Zg, Zk, Nat.reduceBEq, tyf, Mat.idx r hr', M2.loadRow hr', M2.lenR hr']
        refine hN25 [(0, .slice (some ⟨B, 0, some 0⟩) m C), (1, Zc (k : Nat)), (4, .slice none 0 0), (5, .bool false), (6, Zc (j : Nat)), (7, .pointer (some ⟨hp.length, 0, none⟩)), (11, Zc (r : Nat)), (12, .pointer (some ⟨G1.length, 0, none⟩)), (18, Zc (k : Nat)), (19, Zc (j : Nat)), (60, .bool false), (78, .slice (some ⟨B, 0, some 0⟩) m C), (79, Zc (m : Nat)), (80, Zc (r : Nat)), (102, Zc ((k + 1 : Nat) : Int)), (103, .int .i64 0)] _ _ ?_ (by simp (maxSteps := 2000000) only [vup, cond_true, cond_false, Nat.reduceBEq])
        clear hN25
        try clear N25
        refine Zm ?_
        refine Zo fun Qc hQc => ?_
        refine Yi (γ := Nat × Zh) (fun s => s.1 ≤ k + 1 ∧ Mat s.2 B m k w' bk' (Uc j r s.1 (Xe j r V)) ∧ Ext (Tch B m bk0) h s.2 ∧ s.2[hp.length]? = some (.cells [Zc (j : Nat)] 3 false) ∧ s.2[G1.length]? = some (fC (V r j).num (V r j).den))
          (fun s => ([(0, .slice (some ⟨B, 0, some 0⟩) m C), (1, Zc (k : Nat)), (4, .slice none 0 0), (5, .bool false), (6, Zc (j : Nat)), (7, .pointer (some ⟨hp.length, 0, none⟩)), (11, Zc (r : Nat)), (12, .pointer (some ⟨G1.length, 0, none⟩)), (18, Zc (k : Nat)), (19, Zc (j : Nat)), (60, .bool false), (78, .slice (some ⟨B, 0, some 0⟩) m C), (79, Zc (m : Nat)), (80, Zc (r : Nat)), (102, Zc ((k + 1 : Nat) : Int)), (103, Zc (s.1 : Nat))], s.2)) (fun s => k + 1 - s.1) (0, G2) ⟨Nat.zero_le _, by simp only; rw [elimTo_zero]; exact M2, hE2, b7, b12⟩ (by simp (maxSteps := 2000000) only [vup, cond_true, cond_false, Nat.reduceBEq, Int.natCast_zero]) rfl ?_
        rintro ⟨c, G⟩ ⟨hc, MG, hEG, g7, g12⟩
        simp only at hc MG hEG g7 g12
        refine Zo fun Qd hQd => ?_
        simp only [l87_1]
        by_cases hcin : (c : Int) < ((k + 1 : Nat) : Int)
        · have hc' : c ≤ k := by omega
          obtain ⟨x0, y3, y4⟩ := z3 r c hr' hc'
          obtain ⟨x2, y5, y6⟩ := d3 j c hjm' hc'
          rw [hVj] at y5
          rw [← hVi r hrj] at y3
          obtain ⟨cl1, cl2⟩ := clear_fits y3 y1 y5 z2 d2 y4 y2 y6 G
          have e1 : Uc j r c (Xe j r V) r c = V r c := by rw [elimTo_at, er1]
          have e2 : Uc j r c (Xe j r V) j c = V j c := by rw [elimTo_other _ (Ne.symm hrj), er2]
          obtain ⟨G', st, MG', hEG', hk'⟩ := MG.storeE hr' hc' (V r c - V r j * V j c)
          have e3 := elimTo_succ j r c (Xe j r V)
          rw [er1, er2] at e3
          rw [e3] at MG'
          refine Ze fun N26 hN26 => ?_
          simp (maxSteps := 2000000) only [↓Za, ↓Zb, ↓Zd, vup, cond_true, cond_false, aop, Zf, ev, sput, Zg, Yb, Ye, Nat.reduceBEq, hcin]
          refine hN26 [(0, .slice (some ⟨B, 0, some 0⟩) m C), (1, Zc (k : Nat)), (4, .slice none 0 0), (5, .bool false), (6, Zc (j : Nat)), (7, .pointer (some ⟨hp.length, 0, none⟩)), (11, Zc (r : Nat)), (12, .pointer (some ⟨G1.length, 0, none⟩)), (18, Zc (k : Nat)), (19, Zc (j : Nat)), (60, .bool false), (78, .slice (some ⟨B, 0, some 0⟩) m C), (79, Zc (m : Nat)), (80, Zc (r : Nat)), (102, Zc ((k + 1 : Nat) : Int)), (103, Zc (c : Nat)), (104, .bool true)] _ _ ?_ (by simp (maxSteps := 2000000) only [vup, cond_true, cond_false, Nat.reduceBEq])
          clear hN26
          try clear N26
          refine Ze fun N27 hN27 => ?_
          simp (maxSteps := 2000000) only [↓Zr, ↓vdn, vup, cond_true, cond_false, Zf, ev, Nat.reduceBEq]
          refine hN27 [(0, .slice (some ⟨B, 0, some 0⟩) m C), (1, Zc (k : Nat)), (4, .slice none 0 0), (5, .bool false), (6, Zc (j : Nat)), (7, .pointer (some ⟨hp.length, 0, none⟩)), (11, Zc (r : Nat)), (12, .pointer (some ⟨G1.length, 0, none⟩)), (18, Zc (k : Nat)), (19, Zc (j : Nat)), (60, .bool false), (78, .slice (some ⟨B, 0, some 0⟩) m C), (79, Zc (m : Nat)), (80, Zc (r : Nat)), (102, Zc ((k + 1 : Nat) : Int)), (103, Zc (c : Nat))] _ _ ?_ (by simp (maxSteps := 2000000) only [vup, cond_true, cond_false, Nat.reduceBEq])
          clear hN27
          try clear N27
          refine Zl fun U hU => ?_
          refine Zm ?_
          refine Ze fun N28 hN28 => ?_
          simp (maxSteps := 2000000) only [↓Za, ↓Zb, ↓Zd, vup, cond_true, cond_false, aop, Zf, ev, sput, Zg, Nat.reduceBEq]
          refine hN28 [(0, .slice (some ⟨B, 0, some 0⟩) m C), (1, Zc (k : Nat)), (4, .slice none 0 0), (5, .bool false), (6, Zc (j : Nat)), (7, .pointer (some ⟨hp.length, 0, none⟩)), (11, Zc (r : Nat)), (12, .pointer (some ⟨G1.length, 0, none⟩)), (13, Zc (c : Nat)), (18, Zc (k : Nat)), (19, Zc (j : Nat)), (60, .bool false), (78, .slice (some ⟨B, 0, some 0⟩) m C), (79, Zc (m : Nat)), (80, Zc (r : Nat)), (102, Zc ((k + 1 : Nat) : Int)), (103, Zc (c : Nat))] _ _ ?_ (by simp (maxSteps := 2000000) only [vup, cond_true, cond_false, Nat.reduceBEq])
          clear hN28
          try clear N28
          refine Zi ?_
          simp only [q87_23]
          refine Xx [(20, 1), (21, 1)] (by kernel_rfl) (by kernel_rfl) (by kernel_rfl) (by kernel_rfl) ?_
          simp (maxSteps := 2000000) only [↓Yt, ↓vdn, vup, List.map_cons, List.map_nil, cond_true, cond_false, aop, Zf, Zp, ev, sput, Zg, Nat.reduceBEq, Nat.reduceAdd, Mat.idx r hr', MG.loadRow hr', MG.idxR hr' hc', MG.loadE hr' hc', e1, loadF g12, Mat.idx j hjm', MG.loadRow hjm', MG.idxR hjm' hc', MG.loadE hjm' hc', e2, Yy, List.nil_append, List.append_nil]
          refine ⟨_, _, cl1, rfl, _, _, cl2, rfl, ?_⟩
          simp (maxSteps := 2000000) only [st]
          refine hU [(0, .slice (some ⟨B, 0, some 0⟩) m C), (1, Zc (k : Nat)), (4, .slice none 0 0), (5, .bool false), (6, Zc (j : Nat)), (7, .pointer (some ⟨hp.length, 0, none⟩)), (11, Zc (r : Nat)), (12, .pointer (some ⟨G1.length, 0, none⟩)), (18, Zc (k : Nat)), (19, Zc (j : Nat)), (60, .bool false), (78, .slice (some ⟨B, 0, some 0⟩) m C), (79, Zc (m : Nat)), (80, Zc (r : Nat)), (102, Zc ((k + 1 : Nat) : Int)), (103, Zc (c : Nat))] _ _ ?_ (by simp (maxSteps := 2000000) only [vup, cond_true, cond_false, Nat.reduceBEq])
          clear hU
          try clear U
          refine Zi ?_
          simp (maxSteps := 2000000) only [↓Za, ↓Zb, ↓Zd, vup, cond_true, cond_false, aop, ev, sput, Zg, Yb, Ye, Nat.reduceBEq, Vt (show c < 9223372036854775807 by omega)]
          have n7 : hp.length ≠ bk' r := fun he => by
            obtain ⟨cc, xs, e1, e2, e3⟩ := MG.row r hr'
            rw [← he, g7] at e3; cases e3
          have n12 : G1.length ≠ bk' r := fun he => by
            obtain ⟨cc, xs, e1, e2, e3⟩ := MG.row r hr'
            rw [← he, g12] at e3; cases e3
          refine hQd _ _ _ ⟨(c + 1, G'), ⟨by simp only; omega, MG', hEG.trans (hEG'.mono fun b hb => by rw [hb]; exact hS2 r hr'), by simp only; rw [hk' _ n7]; exact g7, by simp only; rw [hk' _ n12]; exact g12⟩, by simp only; omega, by simp (maxSteps := 2000000) only [vup, cond_true, cond_false, Nat.reduceBEq], rfl⟩
        obtain rfl : c = k + 1 := by omega
        refine Ze fun N29 hN29 => ?_
        simp (maxSteps := 2000000) only [↓Za, ↓Zb, ↓Zd, vup, cond_true, cond_false, aop, Zf, ev, sput, Zg, Yb, Ye, Nat.reduceBEq, hcin]
        refine hN29 [(0, .slice (some ⟨B, 0, some 0⟩) m C), (1, Zc (k : Nat)), (4, .slice none 0 0), (5, .bool false), (6, Zc (j : Nat)), (7, .pointer (some ⟨hp.length, 0, none⟩)), (11, Zc (r : Nat)), (12, .pointer (some ⟨G1.length, 0, none⟩)), (18, Zc (k : Nat)), (19, Zc (j : Nat)), (60, .bool false), (78, .slice (some ⟨B, 0, some 0⟩) m C), (79, Zc (m : Nat)), (80, Zc (r : Nat)), (102, Zc ((k + 1 : Nat) : Int)), (103, Zc ((k + 1 : Nat) : Int)), (104, .bool false)] _ _ ?_ (by simp (maxSteps := 2000000) only [vup, cond_true, cond_false, Nat.reduceBEq])
        clear hN29
        try clear N29
        refine Ze fun N30 hN30 => ?_
        simp (maxSteps := 2000000) only [↓Ym, ↓vdn, vup, cond_true, cond_false, Zf, ev, Nat.reduceBEq]
        refine hQd _ _ _ (hQc _ _ _ ?_)
        simp (maxSteps := 2000000) only [Zf, Zp, if_true]
        exact fin _ _ (MG.congr fun i d _ hd => elimRows_next V hrj hd) hEG g7 (by simp (maxSteps := 2000000) only [vup, cond_true, cond_false, Nat.reduceBEq])
      have hrm : m = r := by omega
      subst hrm
      refine Ze fun N31 hN31 => ?_
      simp (maxSteps := 2000000) only [↓Za, ↓Zb, ↓Zd, vup, cond_true, cond_false, aop, Zf, ev, sput, Zg, Yb, Ye, Nat.reduceBEq, hrin]
      refine hN31 [(0, .slice (some ⟨B, 0, some 0⟩) m C), (1, Zc (k : Nat)), (4, .slice none 0 0), (5, .bool false), (6, Zc (j : Nat)), (7, .pointer (some ⟨hp.length, 0, none⟩)), (18, Zc (k : Nat)), (19, Zc (j : Nat)), (60, .bool false), (78, .slice (some ⟨B, 0, some 0⟩) m C), (79, Zc (m : Nat)), (80, Zc (m : Nat)), (81, .bool false)] _ _ ?_ (by simp (maxSteps := 2000000) only [vup, cond_true, cond_false, Nat.reduceBEq])
      clear hN31
      try clear N31
      refine Ze fun N32 hN32 => ?_
      simp (maxSteps := 2000000) only [↓Ym, ↓vdn, vup, cond_true, cond_false, Zf, ev, Nat.reduceBEq]
      refine hQb _ _ _ (hQa _ _ _ ?_)
      simp (maxSteps := 2000000) only [Zf, Zp, if_true]
      refine hX [(0, .slice (some ⟨B, 0, some 0⟩) m C), (1, Zc (k : Nat)), (4, .slice none 0 0), (5, .bool false), (6, Zc (j : Nat)), (7, .pointer (some ⟨hp.length, 0, none⟩)), (18, Zc (k : Nat)), (19, Zc (j : Nat)), (81, .bool false)] _ _ ?_ (by simp (maxSteps := 2000000) only [vup, cond_true, cond_false, Nat.reduceBEq])
      clear hX
      try clear X
      have MT : Mat G1 B m k w' bk' (Vp j V) := MR.congr fun i d hi _ => elimRows_all V hi
      refine Ze fun N33 hN33 => ?_
      simp (maxSteps := 2000000) only [↓Za, ↓Zb, ↓Zd, vup, cond_true, cond_false, aop, Zf, ev, sput, Zg, Yb, Ye, Nat.reduceBEq, Vt (show j < 9223372036854775807 by omega)]
      refine hN33 [(0, .slice (some ⟨B, 0, some 0⟩) m C), (1, Zc (k : Nat)), (4, .slice none 0 0), (5, .bool false), (6, Zc ((j + 1 : Nat) : Int)), (7, .pointer (some ⟨hp.length, 0, none⟩)), (18, Zc (k : Nat)), (19, Zc (j : Nat)), (81, .bool false)] _ _ ?_ (by simp (maxSteps := 2000000) only [vup, cond_true, cond_false, Nat.reduceBEq])
      clear hN33
      try clear N33
      have goOn : (j + 1 < k → j + 1 < m) → ∀ e, ELe e [(0, .slice (some ⟨B, 0, some 0⟩) m C), (1, Zc (k : Nat)), (4, .slice none 0 0), (5, .bool false), (6, Zc ((j + 1 : Nat) : Int)), (18, Zc (k : Nat)), (19, Zc (j : Nat)), (81, .bool false)] → Y e G1 := by
        intro hlt e he
        refine hY _ _ _ ?_ he
        refine Zi ?_
        simp (maxSteps := 2000000) only [↓Za, ↓Zb, ↓Zd, vup, cond_true, cond_false, aop, ev, sput, Zg, Yb, Ye, Nat.reduceBEq, Vt (show j < 9223372036854775807 by omega)]
        exact hQ2 _ _ _ ⟨(j + 1, G1, w', bk', Vp j V), ⟨hjk, hjm', hlt, hnext, MT, hER, hS2⟩, by simp only; omega, by simp (maxSteps := 2000000) only [vup, cond_true, cond_false, Nat.reduceBEq], rfl⟩
      by_cases hjm2 : j + 1 = m
      · have h1 : (((j + 1 : Nat) : Int) == ((m : Nat) : Int)) = true := by simp [hjm2]
        by_cases hjk2 : j + 1 < k
        · have h2 : (((j + 1 : Nat) : Int) < ((k : Nat) : Int)) := by omega
          refine Ze fun N34 hN34 => ?_
          simp (maxSteps := 2000000) only [↓Za, ↓Zb, ↓Zd, ↓vdn, vup, List.map_cons, List.map_nil, cond_true, cond_false, aop, Zf, ev, sput, Zg, Yb, Ye, Zk, Nat.reduceBEq, tyf, lenK, h1, Vw r7 Wk, Vt (show j < 9223372036854775807 by omega), h2]
          refine hN34 [(0, .slice (some ⟨B, 0, some 0⟩) m C), (1, Zc (k : Nat)), (4, .slice none 0 0), (5, .bool false), (6, Zc ((j + 1 : Nat) : Int)), (7, .pointer (some ⟨hp.length, 0, none⟩)), (18, Zc (k : Nat)), (19, Zc (j : Nat)), (81, .bool false), (142, .bool true)] _ _ ?_ (by simp (maxSteps := 2000000) only [vup, cond_true, cond_false, Nat.reduceBEq])
          clear hN34
          try clear N34
          refine Zi ?_
          simp (maxSteps := 2000000) only [↓Za, ↓Zu, ↓Zx, ↓Zb, ↓Zd, ↓vdn, vup, cond_true, cond_false, aop, Zf, Zp, ev, sput, Zg, Nat.reduceBEq]
          refine hQ2 _ _ _ (hQ _ _ _ ?_)
          simp (maxSteps := 2000000) only [vup, cond_true, cond_false, Zf, Zp, Nat.reduceBEq, Zs, Wc, tup]
          have hs : Xl m k T0 = none := by
            have hfn : findP m (j + 1) (Vp j V) = none := by
              rw [findP]
              refine find_none fun i hi => ?_
              simp; omega
            have : ∀ d, Yw m T0 (j + 2 + d) = none := by
              intro d
              induction d with
              | zero =>
                show (Yw m T0 (j + 1)).bind (Wd m (j + 1)) = none
                rw [hnext]
                show Wd m (j + 1) _ = none
                rw [Wd, hfn]; rfl
              | succ d ih => rw [← Nat.add_assoc, Yw, ih]; rfl
            rw [Xl, show k = j + 2 + (k - (j + 2)) by omega, this]; rfl
          rw [hs]
          exact ⟨hER, _, _, rfl, rfl, rfl⟩
        · have h2 : ¬ (((j + 1 : Nat) : Int) < ((k : Nat) : Int)) := by omega
          refine Ze fun N35 hN35 => ?_
          simp (maxSteps := 2000000) only [↓Za, ↓Zb, ↓Zd, ↓vdn, vup, List.map_cons, List.map_nil, cond_true, cond_false, aop, Zf, ev, sput, Zg, Yb, Ye, Zk, Nat.reduceBEq, tyf, lenK, h1, Vw r7 Wk, Vt (show j < 9223372036854775807 by omega), h2]
          refine hN35 [(0, .slice (some ⟨B, 0, some 0⟩) m C), (1, Zc (k : Nat)), (4, .slice none 0 0), (5, .bool false), (6, Zc ((j + 1 : Nat) : Int)), (7, .pointer (some ⟨hp.length, 0, none⟩)), (18, Zc (k : Nat)), (19, Zc (j : Nat)), (81, .bool false), (142, .bool false)] _ _ ?_ (by simp (maxSteps := 2000000) only [vup, cond_true, cond_false, Nat.reduceBEq])
          clear hN35
          try clear N35
          refine Zi ?_
          simp (maxSteps := 2000000) only [↓Zr, ↓vdn, vup, cond_true, cond_false, Zf, Zp, ev, Nat.reduceBEq]
          exact goOn (fun h => absurd h hjk2) _ (by simp (maxSteps := 2000000) only [vup, cond_true, cond_false, Nat.reduceBEq])
      · have h1 : (((j + 1 : Nat) : Int) == ((m : Nat) : Int)) = false := by
          have : ¬ ((j + 1 : Nat) : Int) = ((m : Nat) : Int) := by omega
          simpa using this
        refine Ze fun N36 hN36 => ?_
        simp (maxSteps := 2000000) only [↓Za, ↓Zb, ↓Zd, ↓vdn, vup, List.map_cons, List.map_nil, cond_true, cond_false, aop, Zf, ev, sput, Zg, Yb, Ye, Zk, Nat.reduceBEq, tyf, lenK, h1]
        refine hN36 [(0, .slice (some ⟨B, 0, some 0⟩) m C), (1, Zc (k : Nat)), (4, .slice none 0 0), (5, .bool false), (6, Zc ((j + 1 : Nat) : Int)), (7, .pointer (some ⟨hp.length, 0, none⟩)), (18, Zc (k : Nat)), (19, Zc (j : Nat)), (81, .bool false), (142, .bool false)] _ _ ?_ (by simp (maxSteps := 2000000) only [vup, cond_true, cond_false, Nat.reduceBEq])
        clear hN36
        try clear N36
        refine Zi ?_
        simp (maxSteps := 2000000) only [↓Zr, ↓vdn, vup, cond_true, cond_false, Zf, Zp, ev, Nat.reduceBEq]
        exact goOn (fun h => by omega) _ (by simp (maxSteps := 2000000) only [vup, cond_true, cond_false, Nat.reduceBEq])
  · have hjk : k = j := by omega
    subst hjk
    have hEl := hE.1
    refine Ze fun N37 hN37 => ?_
    simp (maxSteps := 2000000) only [↓Za, ↓Zb, ↓Zd, vup, cond_true, cond_false, aop, Zf, ev, sput, Zg, Yb, Ye, Nat.reduceBEq, hin]
    refine hN37 [(0, .slice (some ⟨B, 0, some 0⟩) m C), (1, Zc (k : Nat)), (4, .slice none 0 0), (5, .bool false), (6, Zc (k : Nat)), (18, Zc (k : Nat)), (19, Zc (k : Nat)), (20, .bool false)] _ _ ?_ (by simp (maxSteps := 2000000) only [vup, cond_true, cond_false, Nat.reduceBEq])
    clear hN37
    try clear N37
    refine Ze fun N38 hN38 => ?_
    simp (maxSteps := 2000000) only [↓Ym, ↓vdn, vup, cond_true, cond_false, Zf, ev, Nat.reduceBEq]
    refine hQ2 _ _ _ (hQ _ _ _ ?_)
    simp (maxSteps := 2000000) only [Zf, Zp, Zs, if_true]
    refine hZ [(0, .slice (some ⟨B, 0, some 0⟩) m C), (1, Zc (k : Nat)), (4, .slice none 0 0), (5, .bool false), (6, Zc (k : Nat)), (20, .bool false)] _ _ ?_ (by simp (maxSteps := 2000000) only [vup, cond_true, cond_false, Nat.reduceBEq])
    clear hZ
    try clear Z
    have hrest : ∀ S, Yw m T0 k = some S → Xl m k T0 = if restT m k S then none else some ((List.range k).map fun i => S i k) := fun S hS => by rw [Xl, hS]; rfl
    have hsol := hrest T hrun
    -- what is left
    refine Zl fun Y hY => ?_
    refine Ze fun N39 hN39 => ?_
    simp (maxSteps := 2000000) only [↓Za, ↓Zb, ↓Zd, vup, List.map_cons, List.map_nil, cond_true, cond_false, aop, Zf, ev, sput, Zg, Zk, Nat.reduceBEq, tyf, Option.map_some, Option.map_none]
    refine M.tail2 hjm hm1 hC fun v hlen hidx hload => ?_
    simp (maxSteps := 2000000) only [hlen]
    refine hN39 [(0, .slice (some ⟨B, 0, some 0⟩) m C), (1, Zc (k : Nat)), (4, .slice none 0 0), (5, .bool false), (6, Zc (k : Nat)), (20, .bool false), (146, v), (147, Zc ((m - k : Nat) : Int)), (148, .int .i64 0)] _ _ ?_ (by simp (maxSteps := 2000000) only [vup, cond_true, cond_false, Nat.reduceBEq])
    clear hN39
    try clear N39
    refine Zm ?_
    refine Zo fun Qa hQa => ?_
    refine Yi (γ := Nat) (fun r => r ≤ m - k ∧ ∀ i, i < r → T (k + i) k = 0)
      (fun r => ([(0, .slice (some ⟨B, 0, some 0⟩) m C), (1, Zc (k : Nat)), (4, .slice none 0 0), (5, .bool false), (6, Zc (k : Nat)), (20, .bool false), (146, v), (147, Zc ((m - k : Nat) : Int)), (148, Zc (r : Nat))], hp)) (fun r => m - k - r) 0 ⟨Nat.zero_le _, fun i hi => by omega⟩ (by simp (maxSteps := 2000000) only [vup, cond_true, cond_false, Nat.reduceBEq, Int.natCast_zero]) rfl ?_
    rintro r ⟨hr, hzero⟩
    refine Zo fun Qb hQb => ?_
    simp only [l87_4]
    by_cases hrin : (r : Int) < ((m - k : Nat) : Int)
    · have hr' : r < m - k := by omega
      refine Ze fun N40 hN40 => ?_
      simp (maxSteps := 2000000) only [↓Za, ↓Zb, ↓Zd, vup, cond_true, cond_false, aop, Zf, ev, sput, Zg, Yb, Ye, Nat.reduceBEq, hrin]
      refine hN40 [(0, .slice (some ⟨B, 0, some 0⟩) m C), (1, Zc (k : Nat)), (4, .slice none 0 0), (5, .bool false), (6, Zc (k : Nat)), (20, .bool false), (146, v), (147, Zc ((m - k : Nat) : Int)), (148, Zc (r : Nat)), (149, .bool true)] _ _ ?_ (by simp (maxSteps := 2000000) only [vup, cond_true, cond_false, Nat.reduceBEq])
      clear hN40
      try clear N40
      refine Ze fun N41 hN41 => ?_
      simp (maxSteps := 2000000) only [↓Zr, ↓vdn, vup, cond_true, cond_false, Zf, ev, Nat.reduceBEq]
      refine hN41 [(0, .slice (some ⟨B, 0, some 0⟩) m C), (1, Zc (k : Nat)), (4, .slice none 0 0), (5, .bool false), (6, Zc (k : Nat)), (20, .bool false), (146, v), (147, Zc ((m - k : Nat) : Int)), (148, Zc (r : Nat))] _ _ ?_ (by simp (maxSteps := 2000000) only [vup, cond_true, cond_false, Nat.reduceBEq])
      clear hN41
      try clear N41
      refine Zl fun W hW => ?_
      refine Zm ?_
      refine Ze fun N42 hN42 => ?_
      simp (maxSteps := 2000000) only [↓Za, ↓Zb, ↓Zd, vup, cond_true, cond_false, aop, Zf, ev, sput, Zg, Nat.reduceBEq, hidx r hr', hload r hr']
      refine hN42 [(0, .slice (some ⟨B, 0, some 0⟩) m C), (1, Zc (k : Nat)), (4, .slice none 0 0), (5, .bool false), (6, Zc (k : Nat)), (15, w (k + r)), (20, .bool false), (146, v), (147, Zc ((m - k : Nat) : Int)), (148, Zc (r : Nat))] _ _ ?_ (by simp (maxSteps := 2000000) only [vup, cond_true, cond_false, Nat.reduceBEq])
      clear hN42
      try clear N42
      refine Zi ?_
      by_cases hnz : T (k + r) k = 0
      · have hn : ((T (k + r) k).num != 0) = false := by simp [hnz]
        simp (maxSteps := 2000000) only [↓Za, ↓Zr, ↓Zu, ↓Zx, ↓Zb, ↓Zd, ↓vdn, vup, cond_true, cond_false, aop, Zf, Zp, ev, sput, Zg, Yb, Ye, Nat.reduceBEq, tyf, M.idxR (show k + r < m by omega) (Nat.le_refl k), fA0o, M.loadN (show k + r < m by omega) (Nat.le_refl k), hn]
        refine hW [(0, .slice (some ⟨B, 0, some 0⟩) m C), (1, Zc (k : Nat)), (4, .slice none 0 0), (5, .bool false), (6, Zc (k : Nat)), (20, .bool false), (146, v), (147, Zc ((m - k : Nat) : Int)), (148, Zc (r : Nat))] _ _ ?_ (by simp (maxSteps := 2000000) only [vup, cond_true, cond_false, Nat.reduceBEq])
        clear hW
        try clear W
        refine Zi ?_
        simp (maxSteps := 2000000) only [↓Za, ↓Zb, ↓Zd, vup, cond_true, cond_false, aop, ev, sput, Zg, Yb, Ye, Nat.reduceBEq, Vt (show r < 9223372036854775807 by omega)]
        refine hQb _ _ _ ⟨r + 1, ⟨hr', fun i hi => ?_⟩, by omega, by simp (maxSteps := 2000000) only [vup, cond_true, cond_false, Nat.reduceBEq], rfl⟩
        rcases Nat.lt_or_ge i r with h1 | h1
        · exact hzero i h1
        · rw [show i = r by omega]; exact hnz
      · have hn : ((T (k + r) k).num != 0) = true := by
          have : ¬ (T (k + r) k).num = 0 := fun hc => hnz (Rat.num_eq_zero.1 hc)
          simpa [bne] using this
        simp (maxSteps := 2000000) only [↓Za, ↓Zr, ↓Zu, ↓Zx, ↓Zb, ↓Zd, ↓vdn, vup, cond_true, cond_false, aop, Zf, Zp, ev, sput, Zg, Yb, Ye, Nat.reduceBEq, tyf, M.idxR (show k + r < m by omega) (Nat.le_refl k), fA0o, M.loadN (show k + r < m by omega) (Nat.le_refl k), hn]
        refine hQb _ _ _ (hQa _ _ _ ?_)
        simp (maxSteps := 2000000) only [vup, cond_true, cond_false, Zf, Zp, Nat.reduceBEq, Zs, Wc, tup]
        have hrt : restT m k T = true := by
          rw [restT, List.any_eq_true]
          exact ⟨k + r, List.mem_range.2 (by omega), by simp [hnz]⟩
        rw [hsol, hrt]
        exact ⟨hE, _, _, rfl, rfl, rfl⟩
    have hrm : r = m - k := by omega
    have hrt : restT m k T = false := by
      rw [restT, List.any_eq_false]
      intro i hi
      have hi' := List.mem_range.1 hi
      simp only [Bool.and_eq_true, decide_eq_true_eq, not_and, Decidable.not_not]
      intro hki
      have := hzero (i - k) (by omega)
      rwa [show k + (i - k) = i by omega] at this
    rw [hrt, if_neg (by decide)] at hsol
    refine Ze fun N43 hN43 => ?_
    simp (maxSteps := 2000000) only [↓Za, ↓Zb, ↓Zd, vup, cond_true, cond_false, aop, Zf, ev, sput, Zg, Yb, Ye, Nat.reduceBEq, hrin]
    refine hN43 [(0, .slice (some ⟨B, 0, some 0⟩) m C), (1, Zc (k : Nat)), (4, .slice none 0 0), (5, .bool false), (6, Zc (k : Nat)), (20, .bool false), (146, v), (147, Zc ((m - k : Nat) : Int)), (148, Zc (r : Nat)), (149, .bool false)] _ _ ?_ (by simp (maxSteps := 2000000) only [vup, cond_true, cond_false, Nat.reduceBEq])
    clear hN43
    try clear N43
    refine Ze fun N44 hN44 => ?_
    simp (maxSteps := 2000000) only [↓Ym, ↓vdn, vup, cond_true, cond_false, Zf, ev, Nat.reduceBEq]
    refine hQb _ _ _ (hQa _ _ _ ?_)
    simp (maxSteps := 2000000) only [Zf, Zp, Zs, if_true]
    refine hY [(0, .slice (some ⟨B, 0, some 0⟩) m C), (1, Zc (k : Nat)), (4, .slice none 0 0), (5, .bool false), (6, Zc (k : Nat)), (20, .bool false), (149, .bool false)] _ _ ?_ (by simp (maxSteps := 2000000) only [vup, cond_true, cond_false, Nat.reduceBEq])
    clear hY
    try clear Y
    -- the solution
    have hsl : ∀ K : Value → Prop, K (.slice (some ⟨B, 0, some 0⟩) k C) → Xk prog 103 (.slice (some ⟨B, 0, some 0⟩) m C) none (some (Zc (k : Nat))) none K := fun K hK => by
      simp only [Xk, el_103, Um, bnd]
      exact ⟨by omega, by omega, by omega, fun h0 => by simp at h0, fun _ => .inl ⟨rfl, by simpa using hK⟩⟩
    refine Zl fun Y hY => ?_
    refine Ze fun N45 hN45 => ?_
    simp (maxSteps := 2000000) only [↓Za, ↓Zb, ↓Zd, vup, List.map_cons, List.map_nil, cond_true, cond_false, aop, Zf, ev, sput, Zg, Zk, Nat.reduceBEq, tyf, Option.map_some, Option.map_none]
    refine hsl _ ?_
    simp (maxSteps := 2000000) only [lenK]
    refine hN45 [(0, .slice (some ⟨B, 0, some 0⟩) m C), (1, Zc (k : Nat)), (4, .slice none 0 0), (5, .bool false), (6, Zc (k : Nat)), (20, .bool false), (149, .bool false), (161, .slice (some ⟨B, 0, some 0⟩) k C), (162, Zc (k : Nat)), (163, .int .i64 0)] _ _ ?_ (by simp (maxSteps := 2000000) only [vup, cond_true, cond_false, Nat.reduceBEq])
    clear hN45
    try clear N45
    refine Zm ?_
    refine Zo fun Qa hQa => ?_
    refine Yi (γ := Nat × Value × Zh) (fun s => s.1 ≤ k ∧ OwnP 26 s.2.2 s.2.1 ((List.range s.1).map fun i => ofQ (T i k)) ∧ Ext (fun _ => False) hp s.2.2 ∧ ∀ b, Yj s.2.1 = some b → hp.length ≤ b)
      (fun s => ([(0, .slice (some ⟨B, 0, some 0⟩) m C), (1, Zc (k : Nat)), (4, s.2.1), (5, .bool false), (6, Zc (k : Nat)), (20, .bool false), (149, .bool false), (161, .slice (some ⟨B, 0, some 0⟩) k C), (162, Zc (k : Nat)), (163, Zc (s.1 : Nat))], s.2.2)) (fun s => k - s.1) (0, .slice none 0 0, hp) ⟨Nat.zero_le _, .inl ⟨rfl, rfl⟩, Ext.refl _ _, fun b hb => by cases hb⟩ (by simp (maxSteps := 2000000) only [vup, cond_true, cond_false, Nat.reduceBEq, Int.natCast_zero]) rfl ?_
    rintro ⟨r, x, G⟩ ⟨hr, ho, hEG, hbx⟩
    simp only at hr ho hEG hbx
    refine Zo fun Qb hQb => ?_
    simp only [l87_5]
    by_cases hrin : (r : Int) < (k : Int)
    · have hr' : r < k := by omega
      have MG := M.ext hEG
      refine Ze fun N46 hN46 => ?_
      simp (maxSteps := 2000000) only [↓Za, ↓Zb, ↓Zd, vup, cond_true, cond_false, aop, Zf, ev, sput, Zg, Yb, Ye, Nat.reduceBEq, hrin]
      refine hN46 [(0, .slice (some ⟨B, 0, some 0⟩) m C), (1, Zc (k : Nat)), (4, x), (5, .bool false), (6, Zc (k : Nat)), (20, .bool false), (149, .bool false), (161, .slice (some ⟨B, 0, some 0⟩) k C), (162, Zc (k : Nat)), (163, Zc (r : Nat)), (164, .bool true)] _ _ ?_ (by simp (maxSteps := 2000000) only [vup, cond_true, cond_false, Nat.reduceBEq])
      clear hN46
      try clear N46
      refine Ze fun N47 hN47 => ?_
      simp (maxSteps := 2000000) only [↓Zr, ↓vdn, vup, cond_true, cond_false, Zf, ev, Nat.reduceBEq]
      refine hN47 [(0, .slice (some ⟨B, 0, some 0⟩) m C), (1, Zc (k : Nat)), (4, x), (5, .bool false), (6, Zc (k : Nat)), (20, .bool false), (149, .bool false), (161, .slice (some ⟨B, 0, some 0⟩) k C), (162, Zc (k : Nat)), (163, Zc (r : Nat))] _ _ ?_ (by simp (maxSteps := 2000000) only [vup, cond_true, cond_false, Nat.reduceBEq])
      clear hN47
      try clear N47
      refine Zl fun W hW => ?_
      refine Zm ?_
      refine Ze fun N48 hN48 => ?_
      simp (maxSteps := 2000000) only [↓Za, ↓Zb, ↓Zd, vup, cond_true, cond_false, aop, Zf, ev, sput, Zg, Nat.reduceBEq, Mat.idx r hr', MG.loadRow (show r < m by omega)]
      refine hN48 [(0, .slice (some ⟨B, 0, some 0⟩) m C), (1, Zc (k : Nat)), (4, x), (5, .bool false), (6, Zc (k : Nat)), (17, w r), (20, .bool false), (149, .bool false), (161, .slice (some ⟨B, 0, some 0⟩) k C), (162, Zc (k : Nat)), (163, Zc (r : Nat))] _ _ ?_ (by simp (maxSteps := 2000000) only [vup, cond_true, cond_false, Nat.reduceBEq])
      clear hN48
      try clear N48
      refine Zi ?_
      simp (maxSteps := 2000000) only [↓Za, ↓Zb, ↓Zd, vup, List.map_cons, List.map_nil, cond_true, cond_false, aop, Zf, Zp, ev, sput, Zg, Zk, Nat.reduceBEq, MG.idxR (show r < m by omega) (Nat.le_refl k), MG.loadE (show r < m by omega) (Nat.le_refl k), qV, frV, litF]
      refine OwnP.append (x := (T r k).num) (y := (T r k).den) (ho.ext (Ext.app _ _ _)) Ue (by simp; omega) (Zz _ _) ?_
      intro x' G' ho' hE' hb'
      have hnx : ((List.range r).map fun i => ofQ (T i k)) ++ [((T r k).num, ((T r k).den : Int))] = (List.range (r + 1)).map fun i => ofQ (T i k) := by
        rw [List.range_succ, List.map_append]; rfl
      rw [hnx] at ho'
      refine hW [(0, .slice (some ⟨B, 0, some 0⟩) m C), (1, Zc (k : Nat)), (4, x'), (5, .bool false), (6, Zc (k : Nat)), (20, .bool false), (149, .bool false), (161, .slice (some ⟨B, 0, some 0⟩) k C), (162, Zc (k : Nat)), (163, Zc (r : Nat))] _ _ ?_ (by simp (maxSteps := 2000000) only [vup, cond_true, cond_false, Nat.reduceBEq])
      clear hW
      try clear W
      refine Zi ?_
      simp (maxSteps := 2000000) only [↓Za, ↓Zb, ↓Zd, vup, cond_true, cond_false, aop, ev, sput, Zg, Yb, Ye, Nat.reduceBEq, Vt (show r < 9223372036854775807 by omega)]
      refine hQb _ _ _ ⟨(r + 1, x', G'), ⟨hr', ho', ?_, fun b hb0 => ?_⟩, by simp only; omega, by simp (maxSteps := 2000000) only [vup, cond_true, cond_false, Nat.reduceBEq], rfl⟩
      · have hl' := hE'.1
        have l1 := hEG.1
        rw [List.length_append, List.length_singleton] at hl'
        refine ⟨by simp only; omega, fun q hq _ => ?_⟩
        simp only
        rw [hE'.2 q (by rw [List.length_append]; omega) (fun hb0 => by have := hbx q hb0; omega), List.getElem?_append_left (by omega)]
        exact hEG.2 q hq id
      · simp only at hb0
        rcases hb' with hb' | ⟨b', hb1, hb2⟩
        · exact hbx b (hb' ▸ hb0)
        · rw [hb1] at hb0; cases hb0
          rw [List.length_append] at hb2
          have := hEG.1; omega
    have hrk : k = r := by omega
    subst hrk
    refine Ze fun N49 hN49 => ?_
    simp (maxSteps := 2000000) only [↓Za, ↓Zb, ↓Zd, vup, cond_true, cond_false, aop, Zf, ev, sput, Zg, Yb, Ye, Nat.reduceBEq, hrin]
    refine hN49 [(0, .slice (some ⟨B, 0, some 0⟩) m C), (1, Zc (k : Nat)), (4, x), (5, .bool false), (6, Zc (k : Nat)), (20, .bool false), (149, .bool false), (161, .slice (some ⟨B, 0, some 0⟩) k C), (162, Zc (k : Nat)), (163, Zc (k : Nat)), (164, .bool false)] _ _ ?_ (by simp (maxSteps := 2000000) only [vup, cond_true, cond_false, Nat.reduceBEq])
    clear hN49
    try clear N49
    refine Ze fun N50 hN50 => ?_
    simp (maxSteps := 2000000) only [↓Ym, ↓vdn, vup, cond_true, cond_false, Zf, ev, Nat.reduceBEq]
    refine hQb _ _ _ (hQa _ _ _ ?_)
    simp (maxSteps := 2000000) only [Zf, Zp, Zs, if_true]
    refine hY [(0, .slice (some ⟨B, 0, some 0⟩) m C), (1, Zc (k : Nat)), (4, x), (5, .bool false), (6, Zc (k : Nat)), (20, .bool false), (149, .bool false), (164, .bool false)] _ _ ?_ (by simp (maxSteps := 2000000) only [vup, cond_true, cond_false, Nat.reduceBEq])
    clear hY
    try clear Y
    refine Zi ?_
    simp (maxSteps := 2000000) only [↓Za, ↓Zu, ↓Zx, ↓Zb, ↓Zd, vup, cond_true, cond_false, aop, Zf, ev, sput, Zg, Nat.reduceBEq, Zs, Wc, tup]
    refine ⟨hE.trans (hEG.mono fun b hb => hb.elim), x, true, rfl, ?_⟩
    rw [hsol]
    refine ⟨rfl, ?_, fun b hb => by have := hbx b hb; omega⟩
    rw [List.map_map]; exact ho
end Go.Proofs.Try.Am

namespace Go.Proofs.Try.Am
open Go.Am Bq
set_option maxRecDepth 100000
set_option maxHeartbeats 1000000

theorem s68_callW [Tabs Try.prog] {args : List Value} {h : Zh} {Q : Value → Zh → Prop} (hsz : args.length ≤ 31) (hk : AWS Try.prog 31 s68 (Zs Try.prog [.cell 4 26] Q) (Zt 0 args) h) : ACall Try.prog 68 args h Q :=
  Ys Try.func68 rfl (enters_of Try.func68 (by kernel_rfl) rfl) rfl rfl (by decide) s68_strip s68_ok hsz hk
theorem rfrac_call [Tabs prog] {h : Zh} {a b : Int} (hb : b ≠ 0) (ha : a.natAbs < 9223372036854775808) (hb2 : b.natAbs < 9223372036854775808) : Xp prog 68 [Zc a, Zc b] h (qV (Rat.divInt a b)) := by
  have c0 := Zz h z0
  have hE0 : Ext (fun _ => False) h (h ++ [z0]) := Ext.app _ _ _
  obtain ⟨x, n, hn, hx, hn2, hq, hneg, hpos⟩ : ∃ (x : Int) (n : Nat), 0 < n ∧ x.natAbs < 9223372036854775808 ∧ n < 9223372036854775808 ∧ Rat.divInt x n = Rat.divInt a b ∧ (b < 0 → subV .i64 0 a = x ∧ subV .i64 0 b = n) ∧ (¬ b < 0 → a = x ∧ b = n) := by
    by_cases h0 : b < 0
    · refine ⟨-a, b.natAbs, by omega, by omega, hb2, ?_, fun _ => ⟨?_, ?_⟩, fun h => absurd h0 h⟩
      · rw [show ((b.natAbs : Nat) : Int) = -b by omega]; exact Rat.neg_divInt_neg a b
      · rw [subV_id (by omega) (by omega)]; omega
      · rw [subV_id (by omega) (by omega)]; omega
    · exact ⟨a, b.natAbs, by omega, ha, hb2, by rw [show ((b.natAbs : Nat) : Int) = b by omega], fun h => absurd h h0, fun _ => ⟨rfl, by omega⟩⟩
  refine ACall.forget (low_frV _ _) ?_
  refine s68_callW (by simp) ?_
  simp only [s68]
  refine Ze fun N1 hN1 => ?_
  simp (maxSteps := 2000000) only [↓Za, ↓Zb, ↓Zd, vup, cond_false, aop, Zf, Zt, sput, Zg, Nat.reduceBEq, Nat.reduceAdd, tyf, Xo, Yn]
  refine hN1 [(0, Zc a), (1, Zc b), (4, .pointer (some ⟨h.length, 0, none⟩))] _ _ ?_ (by simp (maxSteps := 2000000) only [vup, cond_true, cond_false, Nat.reduceBEq])
  clear hN1
  try clear N1
  refine Ze fun M hM => ?_
  have key : ∀ e, ELe e [(0, Zc x), (1, Zc (n : Int)), (4, .pointer (some ⟨h.length, 0, none⟩))] → M e (h ++ [z0]) := by
    intro e he
    refine hM [(0, Zc x), (1, Zc (n : Int)), (4, .pointer (some ⟨h.length, 0, none⟩))] _ _ ?_ he
    refine Ze fun N2 hN2 => ?_
    simp (maxSteps := 2000000) only [↓Za, ↓Zb, ↓Zd, vup, List.map_cons, List.map_nil, cond_true, cond_false, aop, Zf, ev, sput, Zg, unK, Zk, Nat.reduceBEq, mmK, if_true, max_abs hx]
    refine hN2 [(0, Zc x), (1, Zc (n : Int)), (4, .pointer (some ⟨h.length, 0, none⟩)), (5, Zc (x.natAbs : Nat)), (6, Zc (n : Int))] _ _ ?_ (by simp (maxSteps := 2000000) only [vup, cond_true, cond_false, Nat.reduceBEq])
    clear hN2
    try clear N2
    refine Zl fun M2 hM2 => ?_
    refine Zm ?_
    refine Zo fun Q hQ => ?_
    refine Yi (γ := Nat × Nat) (fun s => Nat.gcd s.1 s.2 = Nat.gcd x.natAbs n ∧ s.1 < 9223372036854775808 ∧ s.2 < 9223372036854775808)
      (fun s => ([(0, Zc x), (1, Zc (n : Int)), (4, .pointer (some ⟨h.length, 0, none⟩)), (5, Zc (s.1 : Nat)), (6, Zc (s.2 : Nat))], h ++ [z0])) (fun s => s.2) (x.natAbs, n) ⟨rfl, hx, hn2⟩ (by simp (maxSteps := 2000000) only [vup, cond_true, cond_false, Nat.reduceBEq]) rfl ?_
    rintro ⟨u, w⟩ ⟨huw, hu, hw⟩
    simp only at huw hu hw
    refine Zo fun Q2 hQ2 => ?_
    simp only [l68_0]
    by_cases hw0 : w = 0
    · subst hw0
      have e0 : (((0 : Nat) : Int) != 0) = false := rfl
      rw [Nat.gcd_zero_right] at huw
      subst huw
      refine Ze fun N3 hN3 => ?_
      simp (maxSteps := 2000000) only [↓Za, ↓Zu, ↓Ym, ↓Zb, ↓Zd, ↓vdn, vup, cond_true, cond_false, aop, Zf, ev, sput, Zg, Yb, Ye, Nat.reduceBEq, e0]
      refine hQ2 _ _ _ (hQ _ _ _ ?_)
      simp (maxSteps := 2000000) only [Zf, Zp, Zs, if_true]
      refine hM2 [(0, Zc x), (1, Zc (n : Int)), (4, .pointer (some ⟨h.length, 0, none⟩)), (5, Zc (Nat.gcd x.natAbs n : Nat))] _ _ ?_ (by simp (maxSteps := 2000000) only [vup, cond_true, cond_false, Nat.reduceBEq])
      clear hM2
      try clear M2
      have hg : ¬ ((Nat.gcd x.natAbs n : Nat) : Int) = 0 := by have := Nat.gcd_pos_of_pos_right x.natAbs hn; omega
      have q1 : quoV .i64 x ((Nat.gcd x.natAbs n : Nat) : Int) = (Rat.divInt a b).num := by rw [quo_dvd hx (gcd_dvd_int _ _), (terms hn).1, hq]
      have q2 : quoV .i64 (n : Int) ((Nat.gcd x.natAbs n : Nat) : Int) = (Rat.divInt a b).den := by
        rw [quo_dvd (by omega) (Int.natCast_dvd_natCast.2 (Nat.gcd_dvd_right _ _)), ← hq, ← (terms hn).2, Int.natCast_ediv]
      refine Zi ?_
      simp only [q68_6]
      refine aw_cut fun N hN => ?_
      refine Xx [] (by kernel_rfl) (by kernel_rfl) (by kernel_rfl) (by kernel_rfl) ?_
      simp (maxSteps := 2000000) only [↓Yt, ↓vdn, vup, List.map_cons, List.map_nil, cond_true, cond_false, aop, Zf, ev, sput, Zg, Yb, Ye, Nat.reduceBEq, ne_eq, hg, not_false_eq_true, q1, q2, bldF, Vr c0 rfl]
      refine hN _ _ ?_
      simp (maxSteps := 2000000) only [↓Zx, vup, cond_true, cond_false, Nat.reduceBEq, Zs, Wc, tup, loadF (Xz (h := h ++ [Blk.cells [.int .i64 0, .int .i64 0] 26 false]) (b := h.length) (by simp) _)]
      exact ⟨rfl, hE0.set_ge (Nat.le_refl _) _⟩
    · have e0 : (((w : Nat) : Int) != 0) = true := by
        have : ((w : Nat) : Int) ≠ 0 := by omega
        simpa using this
      have e1 : ¬ ((w : Nat) : Int) = 0 := by omega
      have etm : ((u : Nat) : Int).tmod ((w : Nat) : Int) = ((u % w : Nat) : Int) := by rw [Int.tmod_eq_emod_of_nonneg (by omega)]; rfl
      have hlt := Nat.mod_lt u (show w > 0 by omega)
      refine Ze fun N4 hN4 => ?_
      simp (maxSteps := 2000000) only [↓Za, ↓Zr, ↓Zu, ↓Zb, ↓Zd, ↓vdn, vup, cond_true, cond_false, aop, Zf, ev, sput, Zg, Yb, Ye, Nat.reduceBEq, e0]
      refine hN4 [(0, Zc x), (1, Zc (n : Int)), (4, .pointer (some ⟨h.length, 0, none⟩)), (5, Zc (u : Nat)), (6, Zc (w : Nat))] _ _ ?_ (by simp (maxSteps := 2000000) only [vup, cond_true, cond_false, Nat.reduceBEq])
      clear hN4
      try clear N4
      refine Zi ?_
      simp only [q68_5, aw_block]
      refine Xx [] (by kernel_rfl) (by kernel_rfl) (by kernel_rfl) (by kernel_rfl) ?_
      simp (maxSteps := 2000000) only [↓Yt, ↓vdn, vup, cond_true, cond_false, aop, Zp, ev, sput, Zg, Yb, Ye, Nat.reduceBEq, ne_eq, e1, not_false_eq_true, etm]
      refine hQ2 _ _ _ ⟨(w, u % w), ⟨?_, hw, by simp only; omega⟩, hlt, by simp (maxSteps := 2000000) only [vup, cond_true, cond_false, Nat.reduceBEq], rfl⟩
      simp only
      rw [← huw, Nat.gcd_comm u w, Nat.gcd_rec w u, Nat.gcd_comm]
  by_cases hb0 : b < 0
  · simp (maxSteps := 2000000) only [↓Za, ↓Zu, ↓Zb, ↓Zd, ↓vdn, vup, cond_true, cond_false, aop, Zf, ev, sput, Zg, Yb, Ye, unK, Nat.reduceBEq, hb0, (hneg hb0).1, (hneg hb0).2]
    exact key _ (by simp (maxSteps := 2000000) only [vup, cond_true, cond_false, Nat.reduceBEq])
  · simp (maxSteps := 2000000) only [↓Za, ↓Zr, ↓Zu, ↓Zb, ↓Zd, ↓vdn, vup, cond_true, cond_false, aop, Zf, ev, sput, Zg, Yb, Ye, Nat.reduceBEq, hb0]
    exact key _ (by simp (maxSteps := 2000000) only [vup, cond_true, cond_false, Nat.reduceBEq, (hpos hb0).1, (hpos hb0).2])

theorem s66_callW [Tabs Try.prog] {args : List Value} {h : Zh} {Q : Value → Zh → Prop} (hsz : args.length ≤ 5) (hk : AWS Try.prog 5 s66 (Zs Try.prog [.cell 2 26] Q) (Zt 0 args) h) : ACall Try.prog 66 args h Q :=
  Ys Try.func66 rfl (enters_of Try.func66 (by kernel_rfl) rfl) rfl rfl (by decide) s66_strip s66_ok hsz hk
theorem rwhole_call [Tabs prog] {h : Zh} {k : Int} : Xp prog 66 [Zc k] h (qV (k : Rat)) := by
  refine ACall.forget (low_frV _ _) ?_
  refine s66_callW (by simp) ?_
  refine Zi ?_
  simp (maxSteps := 2000000) only [s66, ↓Za, ↓Zu, ↓Zx, ↓Zb, ↓Zd, vup, List.map_cons, List.map_nil, cond_true, cond_false, aop, Zf, Zt, ev, sput, Zg, Nat.reduceBEq, Zs, Wc, tup, tyf, Xo, Yn, bldF, Vr (Zz h z0) rfl, loadF (Xz (h := h ++ [z0]) (b := h.length) (by simp) _)]
  exact ⟨rfl, (Ext.app _ _ _).set_ge (Nat.le_refl _) _⟩

theorem add_frac (a b : Rat) : Rat.divInt (a.num * b.den + b.num * a.den) ((a.den * b.den : Nat) : Int) = a + b := by
  rw [Rat.divInt_ofNat, ← Rat.add_def']
theorem mul_frac (a b : Rat) : Rat.divInt (a.num * b.num) ((a.den * b.den : Nat) : Int) = a * b := by
  rw [Rat.divInt_ofNat, ← Rat.mul_def']
theorem div_frac {a b : Rat} (hb : b ≠ 0) : Rat.divInt (a.num * b.den) ((a.den : Int) * b.num) = a / b := by
  have hn : b.num ≠ 0 := fun hc => hb (Rat.num_eq_zero.1 hc)
  refine divInt_of_mul (Int.mul_ne_zero (by have := a.den_nz; omega) hn) ?_
  have h1 := mul_den a
  have h2 := mul_den b
  have h3 := Rat.div_mul_cancel (a := a) hb
  push_cast
  rw [← h1, ← h2]
  generalize hc : a / b = c at h3
  grind

theorem s67_callW [Tabs Try.prog] {args : List Value} {h : Zh} {Q : Value → Zh → Prop} (hsz : args.length ≤ 22) (hk : AWS Try.prog 22 s67 (Zs Try.prog [.cell 4 26] Q) (Zt 0 args) h) : ACall Try.prog 67 args h Q :=
  Ys Try.func67 rfl (enters_of Try.func67 (by kernel_rfl) rfl) rfl rfl (by decide) s67_strip s67_ok hsz hk
theorem rplus_call [Tabs prog] {h : Zh} {a b : Rat} (h1 : (a.num * b.den).natAbs + (b.num * a.den).natAbs < 9223372036854775808) (h2 : a.den * b.den < 9223372036854775808) : Xp prog 67 [qV a, qV b] h (qV (a + b)) := by
  obtain ⟨H, hH⟩ : ∃ H, H = h ++ [fC a.num a.den] ++ [fC b.num b.den] ++ [z0] := ⟨_, rfl⟩
  have c2 : H[h.length]? = some (fC a.num a.den) := by rw [hH]; exact b3_0 ..
  have c3 : H[h.length + 1]? = some (fC b.num b.den) := by rw [hH]; exact b3_1 ..
  have c4 : H[h.length + 2]? = some z0 := by rw [hH]; exact b3_2 ..
  have hE : Ext (fun _ => False) h H := by rw [hH]; exact e3 ..
  have m1 := mulN (a := a.num) (b := b.den) (by omega)
  have m2 := mulN (a := b.num) (b := a.den) (by omega)
  have m3 := addN (a := a.num * b.den) (b := b.num * a.den) h1
  have m4 : mulV .i64 (a.den : Int) (b.den : Int) = ((a.den * b.den : Nat) : Int) := by rw [mulN (by rw [← Int.natCast_mul]; omega), Int.natCast_mul]
  have hd := Nat.mul_pos a.den_pos b.den_pos
  have f := rfrac_call (h := H) (a := a.num * b.den + b.num * a.den) (b := ((a.den * b.den : Nat) : Int)) (by omega) (by omega) (by omega)
  rw [add_frac] at f
  obtain ⟨q, hq⟩ : ∃ q, a + b = q := ⟨_, rfl⟩
  rw [hq] at f ⊢
  refine ACall.forget (low_frV _ _) ?_
  refine s67_callW (by simp) ?_
  simp only [s67]
  refine Ze fun N5 hN5 => ?_
  simp (maxSteps := 2000000) only [↓Za, ↓Zb, ↓Zd, vup, cond_true, cond_false, aop, Zf, Zt, ev, sput, Zg, Nat.reduceBEq, Nat.reduceAdd, tyf, qV, frV, boxF, Xo, Yn, List.length_append, List.length_singleton, Nat.add_assoc]
  rw [← hH]
  refine hN5 [(2, .pointer (some ⟨h.length, 0, none⟩)), (3, .pointer (some ⟨h.length + 1, 0, none⟩)), (4, .pointer (some ⟨h.length + 2, 0, none⟩))] _ _ ?_ (by simp (maxSteps := 2000000) only [vup, cond_true, cond_false, Nat.reduceBEq])
  clear hN5
  try clear N5
  refine Zi ?_
  simp (maxSteps := 2000000) only [↓Za, ↓Zu, ↓Zx, ↓Zb, ↓Zd, vup, List.map_cons, List.map_nil, cond_true, cond_false, aop, Zf, ev, sput, Zg, Yb, Ye, Nat.reduceBEq, Zs, Wc, tup, tyf, fA0, fA1, Uk c2, Ul c2, Uk c3, Ul c3, m1, m2, m3, m4, Yy, List.nil_append, List.append_nil]
  refine f.mono ?_
  rintro _ _ ⟨rfl, rfl⟩
  simp (maxSteps := 2000000) only [vup, qV, frV, Vr c4 rfl, loadF (Xz (Yg c4) _)]
  exact hE.set_ge (by omega) _

theorem s97_callW [Tabs Try.prog] {args : List Value} {h : Zh} {Q : Value → Zh → Prop} (hsz : args.length ≤ 16) (hk : AWS Try.prog 16 s97 (Zs Try.prog [.cell 4 26] Q) (Zt 0 args) h) : ACall Try.prog 97 args h Q :=
  Ys Try.func97 rfl (enters_of Try.func97 (by kernel_rfl) rfl) rfl rfl (by decide) s97_strip s97_ok hsz hk
theorem rtimes_call [Tabs prog] {h : Zh} {a b : Rat} (h1 : (a.num * b.num).natAbs < 9223372036854775808) (h2 : a.den * b.den < 9223372036854775808) : Xp prog 97 [qV a, qV b] h (qV (a * b)) := by
  obtain ⟨H, hH⟩ : ∃ H, H = h ++ [fC a.num a.den] ++ [fC b.num b.den] ++ [z0] := ⟨_, rfl⟩
  have c2 : H[h.length]? = some (fC a.num a.den) := by rw [hH]; exact b3_0 ..
  have c3 : H[h.length + 1]? = some (fC b.num b.den) := by rw [hH]; exact b3_1 ..
  have c4 : H[h.length + 2]? = some z0 := by rw [hH]; exact b3_2 ..
  have hE : Ext (fun _ => False) h H := by rw [hH]; exact e3 ..
  have m1 := mulN h1
  have m4 : mulV .i64 (a.den : Int) (b.den : Int) = ((a.den * b.den : Nat) : Int) := by rw [mulN (by rw [← Int.natCast_mul]; omega), Int.natCast_mul]
  have hd := Nat.mul_pos a.den_pos b.den_pos
  have f := rfrac_call (h := H) (a := a.num * b.num) (b := ((a.den * b.den : Nat) : Int)) (by omega) (by omega) (by omega)
  rw [mul_frac] at f
  obtain ⟨q, hq⟩ : ∃ q, a * b = q := ⟨_, rfl⟩
  rw [hq] at f ⊢
  refine ACall.forget (low_frV _ _) ?_
  refine s97_callW (by simp) ?_
  simp only [s97]
  refine Ze fun N6 hN6 => ?_
  simp (maxSteps := 2000000) only [↓Za, ↓Zb, ↓Zd, vup, cond_true, cond_false, aop, Zf, Zt, ev, sput, Zg, Nat.reduceBEq, Nat.reduceAdd, tyf, qV, frV, boxF, Xo, Yn, List.length_append, List.length_singleton, Nat.add_assoc]
  rw [← hH]
  refine hN6 [(2, .pointer (some ⟨h.length, 0, none⟩)), (3, .pointer (some ⟨h.length + 1, 0, none⟩)), (4, .pointer (some ⟨h.length + 2, 0, none⟩))] _ _ ?_ (by simp (maxSteps := 2000000) only [vup, cond_true, cond_false, Nat.reduceBEq])
  clear hN6
  try clear N6
  refine Zi ?_
  simp (maxSteps := 2000000) only [↓Za, ↓Zu, ↓Zx, ↓Zb, ↓Zd, vup, List.map_cons, List.map_nil, cond_true, cond_false, aop, Zf, ev, sput, Zg, Yb, Ye, Nat.reduceBEq, Zs, Wc, tup, tyf, fA0, fA1, Uk c2, Ul c2, Uk c3, Ul c3, m1, m4, Yy, List.nil_append, List.append_nil]
  refine f.mono ?_
  rintro _ _ ⟨rfl, rfl⟩
  simp (maxSteps := 2000000) only [vup, qV, frV, Vr c4 rfl, loadF (Xz (Yg c4) _)]
  exact hE.set_ge (by omega) _

theorem s96_callW [Tabs Try.prog] {args : List Value} {h : Zh} {Q : Value → Zh → Prop} (hsz : args.length ≤ 16) (hk : AWS Try.prog 16 s96 (Zs Try.prog [.cell 4 26] Q) (Zt 0 args) h) : ACall Try.prog 96 args h Q :=
  Ys Try.func96 rfl (enters_of Try.func96 (by kernel_rfl) rfl) rfl rfl (by decide) s96_strip s96_ok hsz hk
theorem rover_call [Tabs prog] {h : Zh} {a b : Rat} (hb0 : b ≠ 0) (h1 : (a.num * b.den).natAbs < 9223372036854775808) (h2 : ((a.den : Int) * b.num).natAbs < 9223372036854775808) : Xp prog 96 [qV a, qV b] h (qV (a / b)) := by
  obtain ⟨H, hH⟩ : ∃ H, H = h ++ [fC a.num a.den] ++ [fC b.num b.den] ++ [z0] := ⟨_, rfl⟩
  have c2 : H[h.length]? = some (fC a.num a.den) := by rw [hH]; exact b3_0 ..
  have c3 : H[h.length + 1]? = some (fC b.num b.den) := by rw [hH]; exact b3_1 ..
  have c4 : H[h.length + 2]? = some z0 := by rw [hH]; exact b3_2 ..
  have hE : Ext (fun _ => False) h H := by rw [hH]; exact e3 ..
  have m1 := mulN h1
  have m4 := mulN h2
  have hn : b.num ≠ 0 := fun hc => hb0 (Rat.num_eq_zero.1 hc)
  have f := rfrac_call (h := H) (a := a.num * b.den) (b := (a.den : Int) * b.num) (Int.mul_ne_zero (by have := a.den_nz; omega) hn) h1 h2
  rw [div_frac hb0] at f
  obtain ⟨q, hq⟩ : ∃ q, a / b = q := ⟨_, rfl⟩
  rw [hq] at f ⊢
  refine ACall.forget (low_frV _ _) ?_
  refine s96_callW (by simp) ?_
  simp only [s96]
  refine Ze fun N7 hN7 => ?_
  simp (maxSteps := 2000000) only [↓Za, ↓Zb, ↓Zd, vup, cond_true, cond_false, aop, Zf, Zt, ev, sput, Zg, Nat.reduceBEq, Nat.reduceAdd, tyf, qV, frV, boxF, Xo, Yn, List.length_append, List.length_singleton, Nat.add_assoc]
  rw [← hH]
  refine hN7 [(2, .pointer (some ⟨h.length, 0, none⟩)), (3, .pointer (some ⟨h.length + 1, 0, none⟩)), (4, .pointer (some ⟨h.length + 2, 0, none⟩))] _ _ ?_ (by simp (maxSteps := 2000000) only [vup, cond_true, cond_false, Nat.reduceBEq])
  clear hN7
  try clear N7
  refine Zi ?_
  simp (maxSteps := 2000000) only [↓Za, ↓Zu, ↓Zx, ↓Zb, ↓Zd, vup, List.map_cons, List.map_nil, cond_true, cond_false, aop, Zf, ev, sput, Zg, Yb, Ye, Nat.reduceBEq, Zs, Wc, tup, tyf, fA0, fA1, Uk c2, Ul c2, Uk c3, Ul c3, m1, m4, Yy, List.nil_append, List.append_nil]
  refine f.mono ?_
  rintro _ _ ⟨rfl, rfl⟩
  simp (maxSteps := 2000000) only [vup, qV, frV, Vr c4 rfl, loadF (Xz (Yg c4) _)]
  exact hE.set_ge (by omega) _

end Go.Proofs.Try.Am

namespace Go.Proofs.Try.Am
open Go.Am
set_option maxRecDepth 100000
/-! 116: slices.IndexFunc[[]planchet api.Frac,planchet api.Frac] -/
@[reducible] def q116_0 : SCode := .region [⟨some 4, .assign (.const (.int .i64 0)), none⟩]
@[reducible] def q116_1 : SCode := .region [⟨some 6, .move (.tmp 0), none⟩,
    ⟨some 7, .call { callee := .builtin .len, args := #[.tmp 6], argTypes := #[47] }, none⟩,
    ⟨some 8, .move (.const (.int .i64 0)), none⟩]
@[reducible] def q116_2 : SCode := .region [⟨some 9, .binOp .lss 3 (.tmp 8) (.tmp 7) 3, none⟩]
@[reducible] def q116_3 : SCode := .region [⟨some 10, .move (.tmp 8), none⟩,
    ⟨some 5, .assign (.tmp 10), none⟩]
@[reducible] def q116_4 : SCode := .region [⟨some 11, .move (.tmp 1), none⟩,
    ⟨some 12, .move (.tmp 0), none⟩,
    ⟨some 13, .move (.tmp 5), none⟩,
    ⟨some 14, .indexAddr 47 (.tmp 12) (.tmp 13), none⟩,
    ⟨some 15, .load 26 (.tmp 14), none⟩,
    ⟨some 16, .call { callee := .value (.tmp 11), args := #[.tmp 15], argTypes := #[26] }, none⟩]
@[reducible] def q116_5 : SCode := .region [⟨some 17, .move (.tmp 5), none⟩,
    ⟨some 4, .assign (.tmp 17), none⟩]
@[reducible] def q116_6 : SCode := .region [⟨some 18, .binOp .add 3 (.tmp 8) (.const (.int .i64 1)) 3, none⟩,
    ⟨some 8, .move (.tmp 18), none⟩]
def l116_0 : SCode := (.seq q116_2 (.seq (.cond (.tmp 9) .skip (.exit 0)) (.seq (.block 1 (.seq q116_3 (.seq q116_4 (.cond (.tmp 16) (.seq q116_5 .ret) .skip)))) q116_6)))
@[reducible] def q116_7 : SCode := .region [⟨some 4, .assign (.const (.int .i64 (-1))), none⟩]
def s116 : SCode := (.seq q116_0 (.seq (.seq q116_1 (.block 0 (.loop l116_0))) (.seq q116_7 .ret)))
theorem s116_strip : Yc (Zw Try.f116) = s116 := by kernel_rfl
theorem s116_ok : Yp 19 (Zw Try.f116) = true := by kernel_rfl
end Go.Proofs.Try.Am

namespace Go.Proofs.Try.Am
open Go.Am Bq
set_option maxRecDepth 100000
set_option maxHeartbeats 1000000

def InR (ps : List (Int × Int)) : Prop := ∀ p ∈ ps, (-(2 ^ 63) ≤ p.1 ∧ p.1 < 2 ^ 63) ∧ -(2 ^ 63) ≤ p.2 ∧ p.2 < 2 ^ 63
end Go.Proofs.Try.Am

namespace Go.Proofs.Try.Am
open Go.Am
set_option maxRecDepth 100000
/-! 18: planchet planchetlaw09.Of -/
@[reducible] def q18_0 : SCode := .region [⟨some 2, .assign (.const (.slice none 0 0)), none⟩]
@[reducible] def q18_1 : SCode := .region [⟨some 3, .assign (.const (.slice none 0 0)), none⟩]
@[reducible] def q18_2 : SCode := .region [⟨some 6, .move (.tmp 0), none⟩,
    ⟨some 7, .call { callee := .builtin .len, args := #[.tmp 6], argTypes := #[22] }, none⟩,
    ⟨some 8, .move (.const (.int .i64 0)), none⟩]
@[reducible] def q18_3 : SCode := .region [⟨some 9, .binOp .lss 3 (.tmp 8) (.tmp 7) 3, none⟩]
@[reducible] def q18_4 : SCode := .region [⟨some 10, .move (.tmp 8), none⟩,
    ⟨some 11, .indexAddr 22 (.tmp 6) (.tmp 8), none⟩,
    ⟨some 12, .load 24 (.tmp 11), none⟩,
    ⟨some 5, .alloc 24, none⟩,
    ⟨some 4, .assign (.tmp 10), none⟩,
    ⟨none, .store 24 (.tmp 5) (.tmp 12), none⟩]
@[reducible] def q18_5 : SCode := .region [⟨some 13, .move (.tmp 4), none⟩,
    ⟨some 14, .binOp .lss 3 (.tmp 13) (.const (.int .i64 9)) 3, none⟩]
@[reducible] def q18_6 : SCode := .region [⟨some 15, .move (.tmp 3), none⟩,
    ⟨some 16, .fieldAddr 24 (.tmp 5) 0, none⟩,
    ⟨some 17, .load 3 (.tmp 16), none⟩,
    ⟨some 18, .fieldAddr 24 (.tmp 5) 1, none⟩,
    ⟨some 19, .load 3 (.tmp 18), none⟩,
    ⟨some 20, .build 92 #[(0, .tmp 17), (1, .tmp 19)], none⟩,
    ⟨some 21, .buildSlice 30 1 #[(0, .tmp 20)], none⟩,
    ⟨some 22, .call { callee := .builtin .append, args := #[.tmp 15, .tmp 21], argTypes := #[30, 30] }, none⟩,
    ⟨some 3, .assign (.tmp 22), none⟩]
@[reducible] def q18_7 : SCode := .region [⟨some 23, .binOp .add 3 (.tmp 8) (.const (.int .i64 1)) 3, none⟩,
    ⟨some 8, .move (.tmp 23), none⟩]
def l18_0 : SCode := (.seq q18_3 (.seq (.cond (.tmp 9) .skip (.exit 0)) (.seq (.block 1 (.seq q18_4 (.seq q18_5 (.cond (.tmp 14) q18_6 .skip)))) q18_7)))
@[reducible] def q18_8 : SCode := .region [⟨some 24, .move (.tmp 3), none⟩,
    ⟨some 2, .assign (.tmp 24), none⟩]
def s18 : SCode := (.seq q18_0 (.seq q18_1 (.seq (.seq q18_2 (.block 0 (.loop l18_0))) (.seq q18_8 .ret))))
theorem s18_strip : Yc (Zw Try.f18) = s18 := by kernel_rfl
theorem s18_ok : Yp 25 (Zw Try.f18) = true := by kernel_rfl
/-! 20: planchet planchetref09.Bets -/
@[reducible] def q20_0 : SCode := .region [⟨some 4, .assign (.const (.bool false)), none⟩]
@[reducible] def q20_1 : SCode := .region [⟨some 9, .move (.tmp 0), none⟩,
    ⟨some 10, .call { callee := .value (.func 63), args := #[.tmp 9], argTypes := #[3] }, none⟩,
    ⟨some 11, .unOp .not 4 (.tmp 10), none⟩,
    ⟨some 12, .move (.tmp 11), none⟩,
    ⟨some 13, .move (.tmp 1), some (12, false)⟩,
    ⟨some 14, .call { callee := .builtin .len, args := #[.tmp 13], argTypes := #[22] }, some (12, false)⟩,
    ⟨some 15, .binOp .lss 3 (.tmp 14) (.const (.int .i64 1)) 3, some (12, false)⟩,
    ⟨some 16, .pick (.tmp 12) (.const (.bool true)) (.tmp 15), none⟩,
    ⟨some 17, .move (.tmp 16), none⟩,
    ⟨some 18, .move (.tmp 1), some (17, false)⟩,
    ⟨some 19, .call { callee := .builtin .len, args := #[.tmp 18], argTypes := #[22] }, some (17, false)⟩,
    ⟨some 20, .binOp .gtr 3 (.tmp 19) (.const (.int .i64 6)) 3, some (17, false)⟩,
    ⟨some 21, .pick (.tmp 17) (.const (.bool true)) (.tmp 20), none⟩]
@[reducible] def q20_2 : SCode := .region [⟨some 4, .assign (.const (.bool false)), none⟩]
@[reducible] def q20_3 : SCode := .region [⟨some 22, .move (.tmp 1), none⟩,
    ⟨some 23, .call { callee := .builtin .len, args := #[.tmp 22], argTypes := #[22] }, none⟩,
    ⟨some 24, .move (.const (.int .i64 0)), none⟩]
@[reducible] def q20_4 : SCode := .region [⟨some 25, .binOp .lss 3 (.tmp 24) (.tmp 23) 3, none⟩]
@[reducible] def q20_5 : SCode := .region [⟨some 26, .move (.tmp 24), none⟩,
    ⟨some 27, .indexAddr 22 (.tmp 22) (.tmp 24), none⟩,
    ⟨some 28, .load 24 (.tmp 27), none⟩,
    ⟨some 6, .alloc 24, none⟩,
    ⟨some 5, .assign (.tmp 26), none⟩,
    ⟨none, .store 24 (.tmp 6) (.tmp 28), none⟩]
@[reducible] def q20_6 : SCode := .region [⟨some 29, .move (.tmp 0), none⟩,
    ⟨some 30, .fieldAddr 24 (.tmp 6) 0, none⟩,
    ⟨some 31, .load 3 (.tmp 30), none⟩,
    ⟨some 32, .call { callee := .value (.func 25), args := #[.tmp 29, .tmp 31], argTypes := #[3, 3] }, none⟩,
    ⟨some 33, .unOp .not 4 (.tmp 32), none⟩,
    ⟨some 34, .move (.tmp 33), none⟩,
    ⟨some 35, .fieldAddr 24 (.tmp 6) 1, some (34, false)⟩,
    ⟨some 36, .load 3 (.tmp 35), some (34, false)⟩,
    ⟨some 37, .binOp .lss 3 (.tmp 36) (.const (.int .i64 0)) 3, some (34, false)⟩,
    ⟨some 38, .pick (.tmp 34) (.const (.bool true)) (.tmp 37), none⟩,
    ⟨some 39, .move (.tmp 38), none⟩,
    ⟨some 40, .fieldAddr 24 (.tmp 6) 1, some (39, false)⟩,
    ⟨some 41, .load 3 (.tmp 40), some (39, false)⟩,
    ⟨some 42, .binOp .gtr 3 (.tmp 41) (.const (.int .i64 12)) 3, some (39, false)⟩,
    ⟨some 43, .pick (.tmp 39) (.const (.bool true)) (.tmp 42), none⟩]
@[reducible] def q20_7 : SCode := .region [⟨some 4, .assign (.const (.bool false)), none⟩]
@[reducible] def q20_8 : SCode := .region [⟨some 44, .move (.tmp 1), none⟩,
    ⟨some 45, .move (.tmp 5), none⟩,
    ⟨some 46, .slice 22 (.tmp 44) none (some (.tmp 45)) none, none⟩,
    ⟨some 47, .call { callee := .builtin .len, args := #[.tmp 46], argTypes := #[22] }, none⟩,
    ⟨some 48, .move (.const (.int .i64 0)), none⟩]
@[reducible] def q20_9 : SCode := .region [⟨some 49, .binOp .lss 3 (.tmp 48) (.tmp 47) 3, none⟩]
@[reducible] def q20_10 : SCode := .region [⟨some 50, .indexAddr 22 (.tmp 46) (.tmp 48), none⟩,
    ⟨some 51, .load 24 (.tmp 50), none⟩,
    ⟨some 8, .alloc 24, none⟩,
    ⟨none, .store 24 (.tmp 8) (.tmp 51), none⟩]
@[reducible] def q20_11 : SCode := .region [⟨some 52, .fieldAddr 24 (.tmp 6) 0, none⟩,
    ⟨some 53, .load 3 (.tmp 52), none⟩,
    ⟨some 54, .fieldAddr 24 (.tmp 8) 0, none⟩,
    ⟨some 55, .load 3 (.tmp 54), none⟩,
    ⟨some 56, .binOp .eql 3 (.tmp 53) (.tmp 55) 3, none⟩]
@[reducible] def q20_12 : SCode := .region [⟨some 4, .assign (.const (.bool false)), none⟩]
@[reducible] def q20_13 : SCode := .region [⟨some 57, .binOp .add 3 (.tmp 48) (.const (.int .i64 1)) 3, none⟩,
    ⟨some 48, .move (.tmp 57), none⟩]
def l20_0 : SCode := (.seq q20_9 (.seq (.cond (.tmp 49) .skip (.exit 2)) (.seq (.block 3 (.seq q20_10 (.seq q20_11 (.cond (.tmp 56) (.seq q20_12 .ret) .skip)))) q20_13)))
@[reducible] def q20_14 : SCode := .region [⟨some 58, .binOp .add 3 (.tmp 24) (.const (.int .i64 1)) 3, none⟩,
    ⟨some 24, .move (.tmp 58), none⟩]
def l20_1 : SCode := (.seq q20_4 (.seq (.cond (.tmp 25) .skip (.exit 0)) (.seq (.block 1 (.seq q20_5 (.seq (.seq q20_6 (.cond (.tmp 43) (.seq q20_7 .ret) .skip)) (.seq q20_8 (.block 2 (.loop l20_0)))))) q20_14)))
@[reducible] def q20_15 : SCode := .region [⟨some 4, .assign (.const (.bool true)), none⟩]
def s20 : SCode := (.seq q20_0 (.seq (.seq q20_1 (.cond (.tmp 21) (.seq q20_2 .ret) .skip)) (.seq (.seq q20_3 (.block 0 (.loop l20_1))) (.seq q20_15 .ret))))
theorem s20_strip : Yc (Zw Try.f20) = s20 := by kernel_rfl
theorem s20_ok : Yp 59 (Zw Try.f20) = true := by kernel_rfl
/-! 25: planchet planchetref09.Event -/
@[reducible] def q25_0 : SCode := .region [⟨some 4, .assign (.const (.bool false)), none⟩]
@[reducible] def q25_1 : SCode := .region [⟨some 5, .move (.tmp 1), none⟩,
    ⟨some 6, .binOp .geq 3 (.tmp 5) (.const (.int .i64 0)) 3, none⟩,
    ⟨some 7, .move (.tmp 6), none⟩,
    ⟨some 8, .move (.tmp 1), some (7, true)⟩,
    ⟨some 9, .move (.tmp 0), some (7, true)⟩,
    ⟨some 10, .binOp .shl 3 (.const (.int .i64 1)) (.tmp 9) 3, some (7, true)⟩,
    ⟨some 11, .binOp .lss 3 (.tmp 8) (.tmp 10) 3, some (7, true)⟩,
    ⟨some 12, .pick (.tmp 7) (.tmp 11) (.const (.bool false)), none⟩,
    ⟨some 4, .assign (.tmp 12), none⟩]
def s25 : SCode := (.seq q25_0 (.seq q25_1 .ret))
theorem s25_strip : Yc (Zw Try.f25) = s25 := by kernel_rfl
theorem s25_ok : Yp 13 (Zw Try.f25) = true := by kernel_rfl
/-! 27: planchet planchetref09.Sound -/
@[reducible] def q27_0 : SCode := .region [⟨some 4, .assign (.const (.bool false)), none⟩]
@[reducible] def q27_1 : SCode := .region [⟨some 5, .move (.tmp 0), none⟩,
    ⟨some 6, .move (.tmp 1), none⟩,
    ⟨some 7, .call { callee := .value (.func 65), args := #[.tmp 5, .tmp 6], argTypes := #[3, 22] }, none⟩,
    ⟨some 8, .call { callee := .builtin .len, args := #[.tmp 7], argTypes := #[94] }, none⟩,
    ⟨some 9, .binOp .gtr 3 (.tmp 8) (.const (.int .i64 0)) 3, none⟩,
    ⟨some 4, .assign (.tmp 9), none⟩]
def s27 : SCode := (.seq q27_0 (.seq q27_1 .ret))
theorem s27_strip : Yc (Zw Try.f27) = s27 := by kernel_rfl
theorem s27_ok : Yp 10 (Zw Try.f27) = true := by kernel_rfl
/-! 65: planchet planchetref09.Corners -/
@[reducible] def q65_0 : SCode := .region [⟨some 4, .assign (.const (.slice none 0 0)), none⟩]
@[reducible] def q65_1 : SCode := .region [⟨some 5, .assign (.const (.slice none 0 0)), none⟩]
@[reducible] def q65_2 : SCode := .region [⟨some 6, .assign (.const (.int .i64 1)), none⟩]
@[reducible] def q65_3 : SCode := .region [⟨some 9, .move (.tmp 6), none⟩,
    ⟨some 10, .move (.tmp 0), none⟩,
    ⟨some 11, .binOp .shl 3 (.const (.int .i64 1)) (.tmp 10) 3, none⟩,
    ⟨some 12, .binOp .lss 3 (.tmp 9) (.tmp 11) 3, none⟩]
@[reducible] def q65_5 : SCode := .region [⟨some 15, .move (.tmp 0), none⟩,
    ⟨some 16, .move (.tmp 6), none⟩,
    ⟨some 17, .call { callee := .value (.func 103), args := #[.tmp 15, .tmp 16], argTypes := #[3, 3] }, none⟩,
    ⟨some 18, .call { callee := .builtin .len, args := #[.tmp 17], argTypes := #[38] }, none⟩,
    ⟨some 19, .move (.tmp 1), none⟩,
    ⟨some 20, .call { callee := .builtin .len, args := #[.tmp 19], argTypes := #[22] }, none⟩,
    ⟨some 21, .binOp .add 3 (.tmp 20) (.const (.int .i64 1)) 3, none⟩,
    ⟨some 22, .binOp .gtr 3 (.tmp 18) (.tmp 21) 3, none⟩]
@[reducible] def q65_6 : SCode := .region [⟨some 24, .move (.tmp 0), none⟩,
    ⟨some 25, .move (.tmp 1), none⟩,
    ⟨some 26, .move (.tmp 6), none⟩,
    ⟨some 27, .call { callee := .value (.func 104), args := #[.tmp 24, .tmp 25, .tmp 26], argTypes := #[3, 22, 3] }, none⟩,
    ⟨some 23, .move (.tmp 27), none⟩,
    ⟨some 28, .extract (.tmp 23) 0, none⟩,
    ⟨some 29, .extract (.tmp 23) 1, none⟩,
    ⟨some 7, .assign (.tmp 28), none⟩,
    ⟨some 8, .assign (.tmp 29), none⟩]
@[reducible] def q65_7 : SCode := .region [⟨some 30, .move (.tmp 8), none⟩]
@[reducible] def q65_8 : SCode := .region [⟨some 31, .move (.tmp 5), none⟩,
    ⟨some 32, .move (.tmp 7), none⟩,
    ⟨some 33, .buildSlice 94 1 #[(0, .tmp 32)], none⟩,
    ⟨some 34, .call { callee := .builtin .append, args := #[.tmp 31, .tmp 33], argTypes := #[94, 94] }, none⟩,
    ⟨some 5, .assign (.tmp 34), none⟩]
@[reducible] def q65_4 : SCode := .region [⟨some 13, .move (.tmp 6), none⟩,
    ⟨some 14, .binOp .add 3 (.tmp 13) (.const (.int .i64 1)) 3, none⟩,
    ⟨some 6, .assign (.tmp 14), none⟩]
def l65_0 : SCode := (.seq (.seq q65_3 (.cond (.tmp 12) .skip (.exit 0))) (.seq (.block 1 (.seq (.seq q65_5 (.cond (.tmp 22) (.exit 1) .skip)) (.seq q65_6 (.seq q65_7 (.cond (.tmp 30) q65_8 .skip))))) q65_4))
@[reducible] def q65_9 : SCode := .region [⟨some 35, .move (.tmp 5), none⟩,
    ⟨some 4, .assign (.tmp 35), none⟩]
def s65 : SCode := (.seq q65_0 (.seq q65_1 (.seq (.seq q65_2 (.block 0 (.loop l65_0))) (.seq q65_9 .ret))))
theorem s65_strip : Yc (Zw Try.f65) = s65 := by kernel_rfl
theorem s65_ok : Yp 36 (Zw Try.f65) = true := by kernel_rfl
/-! 103: planchet planchetref09.worldsOf -/
@[reducible] def q103_0 : SCode := .region [⟨some 4, .assign (.const (.slice none 0 0)), none⟩]
@[reducible] def q103_1 : SCode := .region [⟨some 5, .assign (.const (.slice none 0 0)), none⟩]
@[reducible] def q103_2 : SCode := .region [⟨some 7, .move (.tmp 0), none⟩,
    ⟨some 8, .move (.const (.int .i64 0)), none⟩]
@[reducible] def q103_3 : SCode := .region [⟨some 9, .binOp .lss 3 (.tmp 8) (.tmp 7) 3, none⟩]
@[reducible] def q103_4 : SCode := .region [⟨some 10, .move (.tmp 8), none⟩,
    ⟨some 6, .assign (.tmp 10), none⟩]
@[reducible] def q103_5 : SCode := .region [⟨some 11, .move (.tmp 1), none⟩,
    ⟨some 12, .move (.tmp 6), none⟩,
    ⟨some 13, .binOp .shr 3 (.tmp 11) (.tmp 12) 3, none⟩,
    ⟨some 14, .binOp .and 3 (.tmp 13) (.const (.int .i64 1)) 3, none⟩,
    ⟨some 15, .binOp .eql 3 (.tmp 14) (.const (.int .i64 1)) 3, none⟩]
@[reducible] def q103_6 : SCode := .region [⟨some 16, .move (.tmp 5), none⟩,
    ⟨some 17, .move (.tmp 6), none⟩,
    ⟨some 18, .buildSlice 38 1 #[(0, .tmp 17)], none⟩,
    ⟨some 19, .call { callee := .builtin .append, args := #[.tmp 16, .tmp 18], argTypes := #[38, 38] }, none⟩,
    ⟨some 5, .assign (.tmp 19), none⟩]
@[reducible] def q103_7 : SCode := .region [⟨some 20, .binOp .add 3 (.tmp 8) (.const (.int .i64 1)) 3, none⟩,
    ⟨some 8, .move (.tmp 20), none⟩]
def l103_0 : SCode := (.seq q103_3 (.seq (.cond (.tmp 9) .skip (.exit 0)) (.seq (.block 1 (.seq q103_4 (.seq q103_5 (.cond (.tmp 15) q103_6 .skip)))) q103_7)))
@[reducible] def q103_8 : SCode := .region [⟨some 21, .move (.tmp 5), none⟩,
    ⟨some 4, .assign (.tmp 21), none⟩]
def s103 : SCode := (.seq q103_0 (.seq q103_1 (.seq (.seq q103_2 (.block 0 (.loop l103_0))) (.seq q103_8 .ret))))
theorem s103_strip : Yc (Zw Try.f103) = s103 := by kernel_rfl
theorem s103_ok : Yp 22 (Zw Try.f103) = true := by kernel_rfl
/-! 104: planchet planchetref09.corner -/
@[reducible] def q104_0 : SCode := .region [⟨some 6, .assign (.const (.slice none 0 0)), none⟩,
    ⟨some 7, .assign (.const (.bool false)), none⟩]
@[reducible] def q104_1 : SCode := .region [⟨some 8, .assign (.const (.slice none 0 0)), none⟩]
@[reducible] def q104_2 : SCode := .region [⟨some 30, .move (.tmp 0), none⟩,
    ⟨some 31, .move (.const (.int .i64 0)), none⟩]
@[reducible] def q104_3 : SCode := .region [⟨some 32, .binOp .lss 3 (.tmp 31) (.tmp 30) 3, none⟩]
@[reducible] def q104_4 : SCode := .region [⟨some 33, .move (.tmp 31), none⟩,
    ⟨some 9, .assign (.tmp 33), none⟩]
@[reducible] def q104_5 : SCode := .region [⟨some 34, .move (.tmp 2), none⟩,
    ⟨some 35, .move (.tmp 9), none⟩,
    ⟨some 36, .binOp .shr 3 (.tmp 34) (.tmp 35) 3, none⟩,
    ⟨some 37, .binOp .and 3 (.tmp 36) (.const (.int .i64 1)) 3, none⟩,
    ⟨some 38, .binOp .eql 3 (.tmp 37) (.const (.int .i64 1)) 3, none⟩]
@[reducible] def q104_6 : SCode := .region [⟨some 39, .move (.tmp 8), none⟩,
    ⟨some 40, .move (.tmp 9), none⟩,
    ⟨some 41, .buildSlice 38 1 #[(0, .tmp 40)], none⟩,
    ⟨some 42, .call { callee := .builtin .append, args := #[.tmp 39, .tmp 41], argTypes := #[38, 38] }, none⟩,
    ⟨some 8, .assign (.tmp 42), none⟩]
@[reducible] def q104_7 : SCode := .region [⟨some 43, .binOp .add 3 (.tmp 31) (.const (.int .i64 1)) 3, none⟩,
    ⟨some 31, .move (.tmp 43), none⟩]
def l104_0 : SCode := (.seq q104_3 (.seq (.cond (.tmp 32) .skip (.exit 0)) (.seq (.block 1 (.seq q104_4 (.seq q104_5 (.cond (.tmp 38) q104_6 .skip)))) q104_7)))
@[reducible] def q104_8 : SCode := .region [⟨some 10, .assign (.const (.slice none 0 0)), none⟩]
@[reducible] def q104_9 : SCode := .region [⟨some 44, .move (.tmp 1), none⟩,
    ⟨some 45, .call { callee := .builtin .len, args := #[.tmp 44], argTypes := #[22] }, none⟩,
    ⟨some 46, .binOp .add 3 (.tmp 45) (.const (.int .i64 1)) 3, none⟩,
    ⟨some 47, .move (.const (.int .i64 0)), none⟩]
@[reducible] def q104_10 : SCode := .region [⟨some 48, .binOp .lss 3 (.tmp 47) (.tmp 46) 3, none⟩]
@[reducible] def q104_11 : SCode := .region [⟨some 49, .move (.tmp 47), none⟩,
    ⟨some 11, .assign (.tmp 49), none⟩]
@[reducible] def q104_12 : SCode := .region [⟨some 12, .assign (.const (.slice none 0 0)), none⟩]
@[reducible] def q104_13 : SCode := .region [⟨some 50, .move (.tmp 8), none⟩,
    ⟨some 51, .call { callee := .builtin .len, args := #[.tmp 50], argTypes := #[38] }, none⟩,
    ⟨some 52, .move (.const (.int .i64 0)), none⟩]
@[reducible] def q104_14 : SCode := .region [⟨some 53, .binOp .lss 3 (.tmp 52) (.tmp 51) 3, none⟩]
@[reducible] def q104_15 : SCode := .region [⟨some 54, .indexAddr 38 (.tmp 50) (.tmp 52), none⟩,
    ⟨some 55, .load 3 (.tmp 54), none⟩,
    ⟨some 14, .assign (.tmp 55), none⟩]
@[reducible] def q104_16 : SCode := .region [⟨some 56, .move (.tmp 11), none⟩,
    ⟨some 57, .move (.tmp 1), none⟩,
    ⟨some 58, .call { callee := .builtin .len, args := #[.tmp 57], argTypes := #[22] }, none⟩,
    ⟨some 59, .binOp .eql 3 (.tmp 56) (.tmp 58) 3, none⟩,
    ⟨some 60, .move (.tmp 59), none⟩,
    ⟨some 61, .move (.tmp 1), some (60, false)⟩,
    ⟨some 62, .move (.tmp 11), some (60, false)⟩,
    ⟨some 63, .indexAddr 22 (.tmp 61) (.tmp 62), some (60, false)⟩,
    ⟨some 64, .fieldAddr 24 (.tmp 63) 0, some (60, false)⟩,
    ⟨some 65, .load 3 (.tmp 64), some (60, false)⟩,
    ⟨some 66, .move (.tmp 14), some (60, false)⟩,
    ⟨some 67, .binOp .shr 3 (.tmp 65) (.tmp 66) 3, some (60, false)⟩,
    ⟨some 68, .binOp .and 3 (.tmp 67) (.const (.int .i64 1)) 3, some (60, false)⟩,
    ⟨some 69, .binOp .eql 3 (.tmp 68) (.const (.int .i64 1)) 3, some (60, false)⟩,
    ⟨some 70, .pick (.tmp 60) (.const (.bool true)) (.tmp 69), none⟩]
@[reducible] def q104_17 : SCode := .region [⟨some 71, .move (.tmp 12), none⟩,
    ⟨some 72, .call { callee := .value (.func 66), args := #[.const (.int .i64 1)], argTypes := #[3] }, none⟩,
    ⟨some 73, .buildSlice 47 1 #[(0, .tmp 72)], none⟩,
    ⟨some 74, .call { callee := .builtin .append, args := #[.tmp 71, .tmp 73], argTypes := #[47, 47] }, none⟩,
    ⟨some 12, .assign (.tmp 74), none⟩]
@[reducible] def q104_18 : SCode := .region [⟨some 75, .move (.tmp 12), none⟩,
    ⟨some 76, .call { callee := .value (.func 66), args := #[.const (.int .i64 0)], argTypes := #[3] }, none⟩,
    ⟨some 77, .buildSlice 47 1 #[(0, .tmp 76)], none⟩,
    ⟨some 78, .call { callee := .builtin .append, args := #[.tmp 75, .tmp 77], argTypes := #[47, 47] }, none⟩,
    ⟨some 12, .assign (.tmp 78), none⟩]
@[reducible] def q104_19 : SCode := .region [⟨some 79, .binOp .add 3 (.tmp 52) (.const (.int .i64 1)) 3, none⟩,
    ⟨some 52, .move (.tmp 79), none⟩]
def l104_1 : SCode := (.seq q104_14 (.seq (.cond (.tmp 53) .skip (.exit 4)) (.seq (.block 5 (.seq q104_15 (.seq q104_16 (.cond (.tmp 70) q104_17 q104_18)))) q104_19)))
@[reducible] def q104_20 : SCode := .region [⟨some 80, .move (.tmp 11), none⟩,
    ⟨some 81, .move (.tmp 1), none⟩,
    ⟨some 82, .call { callee := .builtin .len, args := #[.tmp 81], argTypes := #[22] }, none⟩,
    ⟨some 83, .binOp .eql 3 (.tmp 80) (.tmp 82) 3, none⟩]
@[reducible] def q104_21 : SCode := .region [⟨some 84, .move (.tmp 12), none⟩,
    ⟨some 85, .call { callee := .value (.func 66), args := #[.const (.int .i64 1)], argTypes := #[3] }, none⟩,
    ⟨some 86, .buildSlice 47 1 #[(0, .tmp 85)], none⟩,
    ⟨some 87, .call { callee := .builtin .append, args := #[.tmp 84, .tmp 86], argTypes := #[47, 47] }, none⟩,
    ⟨some 12, .assign (.tmp 87), none⟩]
@[reducible] def q104_22 : SCode := .region [⟨some 88, .move (.tmp 12), none⟩,
    ⟨some 89, .move (.tmp 1), none⟩,
    ⟨some 90, .move (.tmp 11), none⟩,
    ⟨some 91, .indexAddr 22 (.tmp 89) (.tmp 90), none⟩,
    ⟨some 92, .fieldAddr 24 (.tmp 91) 1, none⟩,
    ⟨some 93, .load 3 (.tmp 92), none⟩,
    ⟨some 94, .call { callee := .value (.func 68), args := #[.tmp 93, .const (.int .i64 12)], argTypes := #[3, 3] }, none⟩,
    ⟨some 95, .buildSlice 47 1 #[(0, .tmp 94)], none⟩,
    ⟨some 96, .call { callee := .builtin .append, args := #[.tmp 88, .tmp 95], argTypes := #[47, 47] }, none⟩,
    ⟨some 12, .assign (.tmp 96), none⟩]
@[reducible] def q104_23 : SCode := .region [⟨some 97, .move (.tmp 10), none⟩,
    ⟨some 98, .move (.tmp 12), none⟩,
    ⟨some 99, .buildSlice 94 1 #[(0, .tmp 98)], none⟩,
    ⟨some 100, .call { callee := .builtin .append, args := #[.tmp 97, .tmp 99], argTypes := #[94, 94] }, none⟩,
    ⟨some 10, .assign (.tmp 100), none⟩]
@[reducible] def q104_24 : SCode := .region [⟨some 101, .binOp .add 3 (.tmp 47) (.const (.int .i64 1)) 3, none⟩,
    ⟨some 47, .move (.tmp 101), none⟩]
def l104_2 : SCode := (.seq q104_10 (.seq (.cond (.tmp 48) .skip (.exit 2)) (.seq (.block 3 (.seq q104_11 (.seq q104_12 (.seq (.seq q104_13 (.block 4 (.loop l104_1))) (.seq (.seq q104_20 (.cond (.tmp 83) q104_21 q104_22)) q104_23))))) q104_24)))
@[reducible] def q104_25 : SCode := .region [⟨some 102, .move (.tmp 8), none⟩,
    ⟨some 103, .call { callee := .builtin .len, args := #[.tmp 102], argTypes := #[38] }, none⟩,
    ⟨some 15, .assign (.tmp 103), none⟩]
@[reducible] def q104_26 : SCode := .region [⟨some 104, .move (.tmp 15), none⟩,
    ⟨some 105, .move (.const (.int .i64 0)), none⟩]
@[reducible] def q104_27 : SCode := .region [⟨some 106, .binOp .lss 3 (.tmp 105) (.tmp 104) 3, none⟩]
@[reducible] def q104_28 : SCode := .region [⟨some 107, .move (.tmp 105), none⟩,
    ⟨some 16, .assign (.tmp 107), none⟩]
@[reducible] def q104_29 : SCode := .region [⟨some 108, .move (.tmp 16), none⟩,
    ⟨some 17, .assign (.tmp 108), none⟩]
@[reducible] def q104_30 : SCode := .region [⟨some 109, .move (.tmp 17), none⟩,
    ⟨some 110, .move (.tmp 10), none⟩,
    ⟨some 111, .call { callee := .builtin .len, args := #[.tmp 110], argTypes := #[94] }, none⟩,
    ⟨some 112, .binOp .lss 3 (.tmp 109) (.tmp 111) 3, none⟩,
    ⟨some 113, .move (.tmp 112), none⟩,
    ⟨some 114, .move (.tmp 10), some (113, true)⟩,
    ⟨some 115, .move (.tmp 17), some (113, true)⟩,
    ⟨some 116, .indexAddr 94 (.tmp 114) (.tmp 115), some (113, true)⟩,
    ⟨some 117, .load 47 (.tmp 116), some (113, true)⟩,
    ⟨some 118, .move (.tmp 16), some (113, true)⟩,
    ⟨some 119, .indexAddr 47 (.tmp 117) (.tmp 118), some (113, true)⟩,
    ⟨some 120, .fieldAddr 26 (.tmp 119) 0, some (113, true)⟩,
    ⟨some 121, .load 3 (.tmp 120), some (113, true)⟩,
    ⟨some 122, .binOp .eql 3 (.tmp 121) (.const (.int .i64 0)) 3, some (113, true)⟩,
    ⟨some 123, .pick (.tmp 113) (.tmp 122) (.const (.bool false)), none⟩]
@[reducible] def q104_31 : SCode := .region [⟨some 124, .move (.tmp 17), none⟩,
    ⟨some 125, .binOp .add 3 (.tmp 124) (.const (.int .i64 1)) 3, none⟩,
    ⟨some 17, .assign (.tmp 125), none⟩]
def l104_3 : SCode := (.seq (.seq q104_30 (.cond (.tmp 123) .skip (.exit 8))) (.block 9 q104_31))
@[reducible] def q104_32 : SCode := .region [⟨some 126, .move (.tmp 17), none⟩,
    ⟨some 127, .move (.tmp 10), none⟩,
    ⟨some 128, .call { callee := .builtin .len, args := #[.tmp 127], argTypes := #[94] }, none⟩,
    ⟨some 129, .binOp .eql 3 (.tmp 126) (.tmp 128) 3, none⟩]
@[reducible] def q104_33 : SCode := .region [⟨some 6, .assign (.const (.slice none 0 0)), none⟩,
    ⟨some 7, .assign (.const (.bool false)), none⟩]
@[reducible] def q104_34 : SCode := .region [⟨some 130, .move (.tmp 10), none⟩,
    ⟨some 131, .move (.tmp 17), none⟩,
    ⟨some 132, .indexAddr 94 (.tmp 130) (.tmp 131), none⟩,
    ⟨some 133, .load 47 (.tmp 132), none⟩,
    ⟨some 18, .assign (.tmp 133), none⟩]
@[reducible] def q104_35 : SCode := .region [⟨some 134, .move (.tmp 10), none⟩,
    ⟨some 135, .move (.tmp 17), none⟩,
    ⟨some 136, .move (.tmp 10), none⟩,
    ⟨some 137, .move (.tmp 16), none⟩,
    ⟨some 138, .indexAddr 94 (.tmp 136) (.tmp 137), none⟩,
    ⟨some 139, .load 47 (.tmp 138), none⟩,
    ⟨some 140, .indexAddr 94 (.tmp 134) (.tmp 135), none⟩,
    ⟨none, .store 47 (.tmp 140) (.tmp 139), none⟩]
@[reducible] def q104_36 : SCode := .region [⟨some 141, .move (.tmp 10), none⟩,
    ⟨some 142, .move (.tmp 16), none⟩,
    ⟨some 143, .move (.tmp 18), none⟩,
    ⟨some 144, .indexAddr 94 (.tmp 141) (.tmp 142), none⟩,
    ⟨none, .store 47 (.tmp 144) (.tmp 143), none⟩]
@[reducible] def q104_37 : SCode := .region [⟨some 145, .move (.tmp 18), none⟩,
    ⟨some 146, .move (.tmp 16), none⟩,
    ⟨some 147, .indexAddr 47 (.tmp 145) (.tmp 146), none⟩,
    ⟨some 148, .load 26 (.tmp 147), none⟩,
    ⟨some 19, .alloc 26, none⟩,
    ⟨none, .store 26 (.tmp 19) (.tmp 148), none⟩]
@[reducible] def q104_38 : SCode := .region [⟨some 149, .move (.tmp 18), none⟩,
    ⟨some 150, .call { callee := .builtin .len, args := #[.tmp 149], argTypes := #[47] }, none⟩,
    ⟨some 151, .move (.const (.int .i64 0)), none⟩]
@[reducible] def q104_39 : SCode := .region [⟨some 152, .binOp .lss 3 (.tmp 151) (.tmp 150) 3, none⟩]
@[reducible] def q104_40 : SCode := .region [⟨some 153, .move (.tmp 151), none⟩,
    ⟨some 20, .assign (.tmp 153), none⟩]
def q104_41 : SCode := .draw [⟨some 154, .move (.tmp 18), none⟩,
    ⟨some 155, .move (.tmp 20), none⟩,
    ⟨some 156, .move (.tmp 18), none⟩,
    ⟨some 157, .move (.tmp 20), none⟩,
    ⟨some 158, .indexAddr 47 (.tmp 156) (.tmp 157), none⟩,
    ⟨some 159, .load 26 (.tmp 158), none⟩,
    ⟨some 160, .load 26 (.tmp 19), none⟩,
    ⟨some 161, .call { callee := .value (.func 96), args := #[.tmp 159, .tmp 160], argTypes := #[26, 26] }, none⟩,
    ⟨some 162, .indexAddr 47 (.tmp 154) (.tmp 155), none⟩,
    ⟨none, .store 26 (.tmp 162) (.tmp 161), none⟩]
   [[], [], [], [], [2, 3], [4], [], [5, 6], [0, 1, 0, 1, 2, 3, 4, 5, 6, 7], [8, 7, 7, 0, 1, 2, 3, 4, 5, 6, 7]]
@[reducible] def q104_42 : SCode := .region [⟨some 163, .binOp .add 3 (.tmp 151) (.const (.int .i64 1)) 3, none⟩,
    ⟨some 151, .move (.tmp 163), none⟩]
def l104_4 : SCode := (.seq q104_39 (.seq (.cond (.tmp 152) .skip (.exit 10)) (.seq (.block 11 (.seq q104_40 q104_41)) q104_42)))
@[reducible] def q104_43 : SCode := .region [⟨some 164, .move (.tmp 10), none⟩,
    ⟨some 165, .call { callee := .builtin .len, args := #[.tmp 164], argTypes := #[94] }, none⟩,
    ⟨some 166, .move (.const (.int .i64 0)), none⟩]
@[reducible] def q104_44 : SCode := .region [⟨some 167, .binOp .lss 3 (.tmp 166) (.tmp 165) 3, none⟩]
@[reducible] def q104_45 : SCode := .region [⟨some 168, .move (.tmp 166), none⟩,
    ⟨some 21, .assign (.tmp 168), none⟩]
@[reducible] def q104_46 : SCode := .region [⟨some 169, .move (.tmp 10), none⟩,
    ⟨some 170, .move (.tmp 21), none⟩,
    ⟨some 171, .indexAddr 94 (.tmp 169) (.tmp 170), none⟩,
    ⟨some 172, .load 47 (.tmp 171), none⟩,
    ⟨some 173, .move (.tmp 16), none⟩,
    ⟨some 174, .indexAddr 47 (.tmp 172) (.tmp 173), none⟩,
    ⟨some 175, .load 26 (.tmp 174), none⟩,
    ⟨some 22, .alloc 26, none⟩,
    ⟨none, .store 26 (.tmp 22) (.tmp 175), none⟩]
@[reducible] def q104_47 : SCode := .region [⟨some 176, .move (.tmp 18), none⟩,
    ⟨some 177, .call { callee := .builtin .len, args := #[.tmp 176], argTypes := #[47] }, none⟩,
    ⟨some 178, .move (.const (.int .i64 0)), none⟩]
@[reducible] def q104_48 : SCode := .region [⟨some 179, .binOp .lss 3 (.tmp 178) (.tmp 177) 3, none⟩]
@[reducible] def q104_49 : SCode := .region [⟨some 180, .move (.tmp 178), none⟩,
    ⟨some 23, .assign (.tmp 180), none⟩]
@[reducible] def q104_50 : SCode := .region [⟨some 181, .move (.tmp 21), none⟩,
    ⟨some 182, .move (.tmp 16), none⟩,
    ⟨some 183, .binOp .neq 3 (.tmp 181) (.tmp 182) 3, none⟩]
def q104_51 : SCode := .draw [⟨some 184, .move (.tmp 10), none⟩,
    ⟨some 185, .move (.tmp 21), none⟩,
    ⟨some 186, .indexAddr 94 (.tmp 184) (.tmp 185), none⟩,
    ⟨some 187, .load 47 (.tmp 186), none⟩,
    ⟨some 188, .move (.tmp 23), none⟩,
    ⟨some 189, .move (.tmp 10), none⟩,
    ⟨some 190, .move (.tmp 21), none⟩,
    ⟨some 191, .indexAddr 94 (.tmp 189) (.tmp 190), none⟩,
    ⟨some 192, .load 47 (.tmp 191), none⟩,
    ⟨some 193, .move (.tmp 23), none⟩,
    ⟨some 194, .indexAddr 47 (.tmp 192) (.tmp 193), none⟩,
    ⟨some 195, .load 26 (.tmp 194), none⟩,
    ⟨some 196, .call { callee := .value (.func 66), args := #[.const (.int .i64 (-1))], argTypes := #[3] }, none⟩,
    ⟨some 197, .load 26 (.tmp 22), none⟩,
    ⟨some 198, .move (.tmp 18), none⟩,
    ⟨some 199, .move (.tmp 23), none⟩,
    ⟨some 200, .indexAddr 47 (.tmp 198) (.tmp 199), none⟩,
    ⟨some 201, .load 26 (.tmp 200), none⟩,
    ⟨some 202, .call { callee := .value (.func 97), args := #[.tmp 197, .tmp 201], argTypes := #[26, 26] }, none⟩,
    ⟨some 203, .call { callee := .value (.func 97), args := #[.tmp 196, .tmp 202], argTypes := #[26, 26] }, none⟩,
    ⟨some 204, .call { callee := .value (.func 67), args := #[.tmp 195, .tmp 203], argTypes := #[26, 26] }, none⟩,
    ⟨some 205, .indexAddr 47 (.tmp 187) (.tmp 188), none⟩,
    ⟨none, .store 26 (.tmp 205) (.tmp 204), none⟩]
   [[], [], [0, 1], [2], [], [], [], [5, 6], [7], [], [8, 9], [10], [], [], [], [], [14, 15], [16], [13, 17, 12], [12, 18, 18], [11, 19, 19], [3, 4, 0, 1, 2, 3, 4, 5, 6, 7, 8, 9, 10, 11, 12, 13, 14, 15, 16, 17, 18, 19, 20], [21, 20, 20, 0, 1, 2, 3, 4, 5, 6, 7, 8, 9, 10, 11, 12, 13, 14, 15, 16, 17, 18, 19, 20]]
@[reducible] def q104_52 : SCode := .region [⟨some 206, .binOp .add 3 (.tmp 178) (.const (.int .i64 1)) 3, none⟩,
    ⟨some 178, .move (.tmp 206), none⟩]
def l104_5 : SCode := (.seq q104_48 (.seq (.cond (.tmp 179) .skip (.exit 14)) (.seq (.block 15 (.seq q104_49 (.seq q104_50 (.cond (.tmp 183) q104_51 .skip)))) q104_52)))
@[reducible] def q104_53 : SCode := .region [⟨some 207, .binOp .add 3 (.tmp 166) (.const (.int .i64 1)) 3, none⟩,
    ⟨some 166, .move (.tmp 207), none⟩]
def l104_6 : SCode := (.seq q104_44 (.seq (.cond (.tmp 167) .skip (.exit 12)) (.seq (.block 13 (.seq q104_45 (.seq q104_46 (.seq q104_47 (.block 14 (.loop l104_5)))))) q104_53)))
@[reducible] def q104_54 : SCode := .region [⟨some 208, .binOp .add 3 (.tmp 105) (.const (.int .i64 1)) 3, none⟩,
    ⟨some 105, .move (.tmp 208), none⟩]
def l104_7 : SCode := (.seq q104_27 (.seq (.cond (.tmp 106) .skip (.exit 6)) (.seq (.block 7 (.seq q104_28 (.seq q104_29 (.seq (.block 8 (.loop l104_3)) (.seq (.seq q104_32 (.cond (.tmp 129) (.seq q104_33 .ret) .skip)) (.seq q104_34 (.seq q104_35 (.seq q104_36 (.seq q104_37 (.seq (.seq q104_38 (.block 10 (.loop l104_4))) (.seq q104_43 (.block 12 (.loop l104_6))))))))))))) q104_54)))
@[reducible] def q104_55 : SCode := .region [⟨some 209, .move (.tmp 10), none⟩,
    ⟨some 210, .move (.tmp 15), none⟩,
    ⟨some 211, .slice 94 (.tmp 209) (some (.tmp 210)) none none, none⟩,
    ⟨some 212, .call { callee := .builtin .len, args := #[.tmp 211], argTypes := #[94] }, none⟩,
    ⟨some 213, .move (.const (.int .i64 0)), none⟩]
@[reducible] def q104_56 : SCode := .region [⟨some 214, .binOp .lss 3 (.tmp 213) (.tmp 212) 3, none⟩]
@[reducible] def q104_57 : SCode := .region [⟨some 215, .indexAddr 94 (.tmp 211) (.tmp 213), none⟩,
    ⟨some 216, .load 47 (.tmp 215), none⟩,
    ⟨some 25, .assign (.tmp 216), none⟩]
@[reducible] def q104_58 : SCode := .region [⟨some 217, .move (.tmp 25), none⟩,
    ⟨some 218, .move (.tmp 15), none⟩,
    ⟨some 219, .indexAddr 47 (.tmp 217) (.tmp 218), none⟩,
    ⟨some 220, .fieldAddr 26 (.tmp 219) 0, none⟩,
    ⟨some 221, .load 3 (.tmp 220), none⟩,
    ⟨some 222, .binOp .neq 3 (.tmp 221) (.const (.int .i64 0)) 3, none⟩]
@[reducible] def q104_59 : SCode := .region [⟨some 6, .assign (.const (.slice none 0 0)), none⟩,
    ⟨some 7, .assign (.const (.bool false)), none⟩]
@[reducible] def q104_60 : SCode := .region [⟨some 223, .binOp .add 3 (.tmp 213) (.const (.int .i64 1)) 3, none⟩,
    ⟨some 213, .move (.tmp 223), none⟩]
def l104_8 : SCode := (.seq q104_56 (.seq (.cond (.tmp 214) .skip (.exit 16)) (.seq (.block 17 (.seq q104_57 (.seq q104_58 (.cond (.tmp 222) (.seq q104_59 .ret) .skip)))) q104_60)))
@[reducible] def q104_61 : SCode := .region [⟨some 224, .move (.tmp 0), none⟩,
    ⟨some 225, .makeSlice 47 (.tmp 224) (.tmp 224), none⟩,
    ⟨some 26, .assign (.tmp 225), none⟩]
@[reducible] def q104_62 : SCode := .region [⟨some 226, .move (.tmp 26), none⟩,
    ⟨some 227, .call { callee := .builtin .len, args := #[.tmp 226], argTypes := #[47] }, none⟩,
    ⟨some 228, .move (.const (.int .i64 0)), none⟩]
@[reducible] def q104_63 : SCode := .region [⟨some 229, .binOp .lss 3 (.tmp 228) (.tmp 227) 3, none⟩]
@[reducible] def q104_64 : SCode := .region [⟨some 230, .move (.tmp 228), none⟩,
    ⟨some 27, .assign (.tmp 230), none⟩]
@[reducible] def q104_65 : SCode := .region [⟨some 231, .move (.tmp 26), none⟩,
    ⟨some 232, .move (.tmp 27), none⟩,
    ⟨some 233, .call { callee := .value (.func 66), args := #[.const (.int .i64 0)], argTypes := #[3] }, none⟩,
    ⟨some 234, .indexAddr 47 (.tmp 231) (.tmp 232), none⟩,
    ⟨none, .store 26 (.tmp 234) (.tmp 233), none⟩]
@[reducible] def q104_66 : SCode := .region [⟨some 235, .binOp .add 3 (.tmp 228) (.const (.int .i64 1)) 3, none⟩,
    ⟨some 228, .move (.tmp 235), none⟩]
def l104_9 : SCode := (.seq q104_63 (.seq (.cond (.tmp 229) .skip (.exit 18)) (.seq (.block 19 (.seq q104_64 q104_65)) q104_66)))
@[reducible] def q104_67 : SCode := .region [⟨some 236, .move (.tmp 8), none⟩,
    ⟨some 237, .call { callee := .builtin .len, args := #[.tmp 236], argTypes := #[38] }, none⟩,
    ⟨some 238, .move (.const (.int .i64 0)), none⟩]
@[reducible] def q104_68 : SCode := .region [⟨some 239, .binOp .lss 3 (.tmp 238) (.tmp 237) 3, none⟩]
@[reducible] def q104_69 : SCode := .region [⟨some 240, .move (.tmp 238), none⟩,
    ⟨some 241, .indexAddr 38 (.tmp 236) (.tmp 238), none⟩,
    ⟨some 242, .load 3 (.tmp 241), none⟩,
    ⟨some 28, .assign (.tmp 240), none⟩,
    ⟨some 29, .assign (.tmp 242), none⟩]
@[reducible] def q104_70 : SCode := .region [⟨some 243, .move (.tmp 10), none⟩,
    ⟨some 244, .move (.tmp 28), none⟩,
    ⟨some 245, .indexAddr 94 (.tmp 243) (.tmp 244), none⟩,
    ⟨some 246, .load 47 (.tmp 245), none⟩,
    ⟨some 247, .move (.tmp 15), none⟩,
    ⟨some 248, .indexAddr 47 (.tmp 246) (.tmp 247), none⟩,
    ⟨some 249, .fieldAddr 26 (.tmp 248) 0, none⟩,
    ⟨some 250, .load 3 (.tmp 249), none⟩,
    ⟨some 251, .binOp .lss 3 (.tmp 250) (.const (.int .i64 0)) 3, none⟩]
@[reducible] def q104_71 : SCode := .region [⟨some 6, .assign (.const (.slice none 0 0)), none⟩,
    ⟨some 7, .assign (.const (.bool false)), none⟩]
@[reducible] def q104_72 : SCode := .region [⟨some 252, .move (.tmp 26), none⟩,
    ⟨some 253, .move (.tmp 29), none⟩,
    ⟨some 254, .move (.tmp 10), none⟩,
    ⟨some 255, .move (.tmp 28), none⟩,
    ⟨some 256, .indexAddr 94 (.tmp 254) (.tmp 255), none⟩,
    ⟨some 257, .load 47 (.tmp 256), none⟩,
    ⟨some 258, .move (.tmp 15), none⟩,
    ⟨some 259, .indexAddr 47 (.tmp 257) (.tmp 258), none⟩,
    ⟨some 260, .load 26 (.tmp 259), none⟩,
    ⟨some 261, .indexAddr 47 (.tmp 252) (.tmp 253), none⟩,
    ⟨none, .store 26 (.tmp 261) (.tmp 260), none⟩]
@[reducible] def q104_73 : SCode := .region [⟨some 262, .binOp .add 3 (.tmp 238) (.const (.int .i64 1)) 3, none⟩,
    ⟨some 238, .move (.tmp 262), none⟩]
def l104_10 : SCode := (.seq q104_68 (.seq (.cond (.tmp 239) .skip (.exit 20)) (.seq (.block 21 (.seq q104_69 (.seq (.seq q104_70 (.cond (.tmp 251) (.seq q104_71 .ret) .skip)) q104_72))) q104_73)))
@[reducible] def q104_74 : SCode := .region [⟨some 263, .move (.tmp 26), none⟩,
    ⟨some 6, .assign (.tmp 263), none⟩,
    ⟨some 7, .assign (.const (.bool true)), none⟩]
def s104 : SCode := (.seq q104_0 (.seq q104_1 (.seq (.seq q104_2 (.block 0 (.loop l104_0))) (.seq q104_8 (.seq (.seq q104_9 (.block 2 (.loop l104_2))) (.seq q104_25 (.seq (.seq q104_26 (.block 6 (.loop l104_7))) (.seq (.seq q104_55 (.block 16 (.loop l104_8))) (.seq q104_61 (.seq (.seq q104_62 (.block 18 (.loop l104_9))) (.seq (.seq q104_67 (.block 20 (.loop l104_10))) (.seq q104_74 .ret))))))))))))
theorem s104_strip : Yc (Zw Try.f104) = s104 := by kernel_rfl
theorem s104_ok : Yp 264 (Zw Try.f104) = true := by kernel_rfl
end Go.Proofs.Try.Am

namespace Go.Proofs.Try.Am
open Go.Am Bq
set_option maxRecDepth 100000
set_option maxHeartbeats 1000000

def chances (n : Int) (ps : List (Int × Int)) : Bool := decide ((ps.length : Int) = n) && (decide (mult ps ≠ 0) && ps.all fun p => decide (p.1 ≤ p.2))

end Go.Proofs.Try.Am

namespace Go.Proofs.Try.Am
open Go.Am
set_option maxRecDepth 100000
end Go.Proofs.Try.Am

namespace Go.Proofs.Try.Am
open Go.Am
set_option maxRecDepth 100000
/-! 35: slices.Equal[[]planchet api.Frac,planchet api.Frac] -/
@[reducible] def q35_0 : SCode := .region [⟨some 4, .assign (.const (.bool false)), none⟩]
@[reducible] def q35_1 : SCode := .region [⟨some 6, .move (.tmp 0), none⟩,
    ⟨some 7, .call { callee := .builtin .len, args := #[.tmp 6], argTypes := #[47] }, none⟩,
    ⟨some 8, .move (.tmp 1), none⟩,
    ⟨some 9, .call { callee := .builtin .len, args := #[.tmp 8], argTypes := #[47] }, none⟩,
    ⟨some 10, .binOp .neq 3 (.tmp 7) (.tmp 9) 3, none⟩]
@[reducible] def q35_2 : SCode := .region [⟨some 4, .assign (.const (.bool false)), none⟩]
@[reducible] def q35_3 : SCode := .region [⟨some 11, .move (.tmp 0), none⟩,
    ⟨some 12, .call { callee := .builtin .len, args := #[.tmp 11], argTypes := #[47] }, none⟩,
    ⟨some 13, .move (.const (.int .i64 0)), none⟩]
@[reducible] def q35_4 : SCode := .region [⟨some 14, .binOp .lss 3 (.tmp 13) (.tmp 12) 3, none⟩]
@[reducible] def q35_5 : SCode := .region [⟨some 15, .move (.tmp 13), none⟩,
    ⟨some 5, .assign (.tmp 15), none⟩]
def q35_6 : SCode := .draw [⟨some 16, .move (.tmp 0), none⟩,
    ⟨some 17, .move (.tmp 5), none⟩,
    ⟨some 18, .indexAddr 47 (.tmp 16) (.tmp 17), none⟩,
    ⟨some 19, .load 26 (.tmp 18), none⟩,
    ⟨some 20, .move (.tmp 1), none⟩,
    ⟨some 21, .move (.tmp 5), none⟩,
    ⟨some 22, .indexAddr 47 (.tmp 20) (.tmp 21), none⟩,
    ⟨some 23, .load 26 (.tmp 22), none⟩,
    ⟨some 24, .binOp .neq 26 (.tmp 19) (.tmp 23) 26, none⟩]
   [[], [], [0, 1], [2], [], [], [4, 5], [6], [3, 7]]
@[reducible] def q35_7 : SCode := .region [⟨some 4, .assign (.const (.bool false)), none⟩]
@[reducible] def q35_8 : SCode := .region [⟨some 25, .binOp .add 3 (.tmp 13) (.const (.int .i64 1)) 3, none⟩,
    ⟨some 13, .move (.tmp 25), none⟩]
def l35_0 : SCode := (.seq q35_4 (.seq (.cond (.tmp 14) .skip (.exit 0)) (.seq (.block 1 (.seq q35_5 (.seq q35_6 (.cond (.tmp 24) (.seq q35_7 .ret) .skip)))) q35_8)))
@[reducible] def q35_9 : SCode := .region [⟨some 4, .assign (.const (.bool true)), none⟩]
def s35 : SCode := (.seq q35_0 (.seq (.seq q35_1 (.cond (.tmp 10) (.seq q35_2 .ret) .skip)) (.seq (.seq q35_3 (.block 0 (.loop l35_0))) (.seq q35_9 .ret))))
theorem s35_strip : Yc (Zw Try.f35) = s35 := by kernel_rfl
theorem s35_ok : Yp 26 (Zw Try.f35) = true := by kernel_rfl
/-! 101: slices.ContainsFunc[[]planchet api.Frac,planchet api.Frac] -/
@[reducible] def q101_0 : SCode := .region [⟨some 4, .assign (.const (.bool false)), none⟩]
@[reducible] def q101_1 : SCode := .region [⟨some 5, .move (.tmp 0), none⟩,
    ⟨some 6, .move (.tmp 1), none⟩,
    ⟨some 7, .call { callee := .value (.func 116), args := #[.tmp 5, .tmp 6], argTypes := #[47, 35] }, none⟩,
    ⟨some 8, .binOp .geq 3 (.tmp 7) (.const (.int .i64 0)) 3, none⟩,
    ⟨some 4, .assign (.tmp 8), none⟩]
def s101 : SCode := (.seq q101_0 (.seq q101_1 .ret))
theorem s101_strip : Yc (Zw Try.f101) = s101 := by kernel_rfl
theorem s101_ok : Yp 9 (Zw Try.f101) = true := by kernel_rfl
/-! 102: (planchet bets.table).corners$2 -/
@[reducible] def q102_0 : SCode := .region [⟨some 1, .box 26 (.tmp 0), none⟩,
    ⟨some 2, .assign (.const (.bool false)), none⟩]
@[reducible] def q102_1 : SCode := .region [⟨some 3, .fieldAddr 26 (.tmp 1) 0, none⟩,
    ⟨some 4, .load 3 (.tmp 3), none⟩,
    ⟨some 5, .binOp .lss 3 (.tmp 4) (.const (.int .i64 0)) 3, none⟩,
    ⟨some 2, .assign (.tmp 5), none⟩]
def s102 : SCode := (.seq q102_0 (.seq q102_1 .ret))
theorem s102_strip : Yc (Zw Try.f102) = s102 := by kernel_rfl
theorem s102_ok : Yp 6 (Zw Try.f102) = true := by kernel_rfl
end Go.Proofs.Try.Am

namespace Go.Proofs.Try.Am
open Go.Am Bq
set_option maxRecDepth 100000
set_option maxHeartbeats 1000000

theorem litI1 [Tabs prog] {h : Zh} {x : Int} (K : Value → Zh → Prop) : Yq prog h 38 1 [(0, Zc x)] K = K (.slice (some ⟨h.length, 0, none⟩) 1 1) (h ++ [.ints [x] 3 false]) := by
  simp only [Yq, el_38, zero_3, Vi, reps, fillL, mkb, Wt, cellsOf, List.length_singleton, Nat.mul_one, Nat.zero_add]
  exact propext ⟨fun h => h.2.2.2, fun h => ⟨trivial, by decide, by decide, h⟩⟩

theorem take_snoc {α : Type} {l : List α} {k : Nat} {d : α} (hk : k < l.length) : l.take (k + 1) = l.take k ++ [l.getD k d] := by
  rw [List.take_succ, List.getElem?_eq_getElem hk, List.getD, List.getElem?_eq_getElem hk]; rfl

end Go.Proofs.Try.Am
