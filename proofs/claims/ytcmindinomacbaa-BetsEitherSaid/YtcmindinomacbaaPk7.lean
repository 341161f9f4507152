/-
  bets: slices.Repeat of one fraction.
  bets: equations solved.
  bets: fractions: the reference's arithmetic; a fraction's checks.
  Printed by gen.py: the code of some functions, without what no step looks at; held against the program's own by the kernel.
  bets: the common multiple of fractions.
  Printed by gen.py: the code of some functions, without what no step looks at; held against the program's own by the kernel.
  bets: chances: their checks, sums over an event, parts.
  Printed by gen.py: the code of some functions, without what no step looks at; held against the program's own by the kernel.
  Printed by gen.py: the code of some functions, without what no step looks at; held against the program's own by the kernel.
  bets: parts as numbers; a slice of parts; the program's checks of chances; the chance of an event.
  bets: the program's forecasts: checks over all elements, the chance of an event.
-/
import Derived.Test.YtcmindinomacbaaPk6
import Derived.Test.YtcmindinomacbaaPk5
import Derived.Test.YtcmindinomacbaaPk3
import Derived.Test.YtcmindinomacbaaProg
import Derived.KernelRfl
import Derived.Shelf.Abstract
set_option linter.all false
namespace Go.Proofs.Try.Am
open Go.Am Bq
set_option maxRecDepth 100000
set_option maxHeartbeats 1000000

theorem small_and : ∀ y : Nat, y < 6 → bitsV .and .u64 (y : Int) 4294967295 = (y : Int) ∧ shrV .u64 (y : Int) 32 = 0 ∧ mulV .u64 1 (y : Int) = (y : Int) ∧ mulV .u64 0 (y : Int) = 0 ∧ addV .u64 (y : Int) 0 = (y : Int) := by decide
theorem s123_callW [Tabs Try.prog] {args : List Value} {h : Zh} {Q : Value → Zh → Prop} (hsz : args.length ≤ 51) (hk : AWS Try.prog 51 s123 (Zv Try.prog [.tmp 4, .tmp 5] Q) (Zt 0 args) h) : ACall Try.prog 123 args h Q :=
  Yn Try.func123 rfl (enters_of Try.func123 (by kernel_rfl) rfl) rfl rfl (by decide) s123_strip s123_ok hsz hk
theorem mul64_call [Tabs prog] {h : Zh} {y : Nat} (hy : y < 6) : Xi prog 123 [.int .u64 1, .int .u64 (y : Int)] h (.tuple #[.int .u64 0, .int .u64 (y : Int)]) := by
  obtain ⟨a1, a2, a3, a4, a5⟩ := small_and y hy
  have b1 : bitsV .and .u64 1 4294967295 = 1 := by decide
  have b2 : shrV .u64 1 32 = 0 := by decide
  have b3 : mulV .u64 1 0 = 0 := by decide
  have b4 : mulV .u64 0 0 = 0 := by decide
  have b5 : addV .u64 0 0 = 0 := by decide
  have b6 : bitsV .and .u64 0 4294967295 = 0 := by decide
  have b7 : shrV .u64 0 32 = 0 := by decide
  have b8 : (0 : Int) ≤ 32 := by decide
  refine s123_callW (by simp) ?_
  refine Zk ?_
  simp (maxSteps := 2000000) only [s123, ↓Za, ↓Zw, ↓Zz, ↓Zb, ↓Zc, vup, cond_true, cond_false, aop, Zg, Zt, ev, sput, Zf, Yg, Yl, Nat.reduceBEq, Nat.reduceAdd, Zv, Xw, tup, a1, a2, a3, a4, b1, b2, b3, b4, b5, b6, b7, b8]

theorem s114_callW [Tabs Try.prog] {args : List Value} {h : Zh} {Q : Value → Zh → Prop} (hsz : args.length ≤ 30) (hk : AWS Try.prog 30 s114 (Zv Try.prog [.tmp 4, .tmp 5] Q) (Zt 0 args) h) : ACall Try.prog 114 args h Q :=
  Yn Try.func114 rfl (enters_of Try.func114 (by kernel_rfl) rfl) rfl rfl (by decide) s114_strip s114_ok hsz hk
theorem mul_call [Tabs prog] {h : Zh} {y : Nat} (hy : y < 6) : Xi prog 114 [.int .u64 1, .int .u64 (y : Int)] h (.tuple #[.int .u64 0, .int .u64 (y : Int)]) := by
  refine s114_callW (by simp) ?_
  simp only [s114]
  refine Ze fun N1 hN1 => ?_
  simp (maxSteps := 2000000) only [↓Za, ↓Zb, ↓Zc, vup, cond_false, aop, Zg, Zt, ev, sput, Zf, Nat.reduceBEq, Nat.reduceAdd]
  refine hN1 [(0, .int .u64 1), (1, .int .u64 (y : Int)), (4, .int .u64 0), (5, .int .u64 0)] _ _ ?_ (by simp (maxSteps := 2000000) only [vup, cond_true, cond_false, Nat.reduceBEq])
  clear hN1
  try clear N1
  refine Zm fun Z hZ => ?_
  refine Xb rfl ?_
  refine Zk ?_
  simp (maxSteps := 2000000) only [↓Zu, Zg]
  refine hZ [(0, .int .u64 1), (1, .int .u64 (y : Int)), (4, .int .u64 0), (5, .int .u64 0)] _ _ ?_ (by simp (maxSteps := 2000000) only [vup, cond_true, cond_false, Nat.reduceBEq])
  clear hZ
  try clear Z
  refine Zk ?_
  simp (maxSteps := 2000000) only [↓Za, ↓Zw, ↓Zz, ↓Zb, ↓Zc, vup, List.map_cons, List.map_nil, cond_true, cond_false, aop, Zg, ev, sput, Zf, Nat.reduceBEq, Zv, Xw, tup, Yv, List.nil_append, List.append_nil]
  refine (mul64_call hy).mono ?_
  rintro _ h ⟨rfl, rfl⟩
  simp (maxSteps := 2000000) only [vup, extr_20, extr_21]

theorem conv_u : ∀ y : Nat, y < 6 → IntKind.u64.wrap (y : Int) = (y : Int) ∧ IntKind.i64.wrap (y : Int) = (y : Int) := by decide
theorem litF [Tabs prog] {h : Zh} {x y : Int} (K : Value → Zh → Prop) : Yp prog h 47 1 [(0, .agg #[Zd x, Zd y])] K = K (.slice (some ⟨h.length, 0, none⟩) 1 1) (h ++ [.ints [x, y] 26 false]) := by
  simp only [Yp, el_47, zero_26, Vk, reps, fillL, mkb, Wr, cellsOf, List.length_cons, List.length_nil, Nat.zero_add, Nat.zero_mul, Ye]
  refine propext ⟨fun h => ?_, fun h => ⟨trivial, by decide, by decide, ?_⟩⟩
  · simpa [Xk] using h.2.2.2
  · simpa [Xk] using h

theorem flatP_take : ∀ (L : List (Int × Int)) (o : Nat), Yc (L.take o) = (Yc L).take (o * 2)
  | [], o => by simp [Yc]
  | p :: L, 0 => by simp [Yc]
  | p :: L, o + 1 => by
    have e : ∀ l : List (Int × Int), Yc (p :: l) = p.1 :: p.2 :: Yc l := fun l => rfl
    rw [List.take_succ_cons, e, e, flatP_take L o, show (o + 1) * 2 = o * 2 + 1 + 1 by omega, List.take_succ_cons, List.take_succ_cons]
theorem flatP_drop : ∀ (L : List (Int × Int)) (o : Nat), Yc (L.drop o) = (Yc L).drop (o * 2)
  | [], o => by simp [Yc]
  | p :: L, 0 => by simp
  | p :: L, o + 1 => by
    have e : ∀ l : List (Int × Int), Yc (p :: l) = p.1 :: p.2 :: Yc l := fun l => rfl
    rw [List.drop_succ_cons, e, flatP_drop L o, show (o + 1) * 2 = o * 2 + 1 + 1 by omega, List.drop_succ_cons, List.drop_succ_cons]
theorem flatP_splice {L S : List (Int × Int)} {o : Nat} : Yc (Ye L o S) = Ye (Yc L) (o * 2) (Yc S) := by
  simp only [Ye, flatP_app, flatP_take, flatP_drop, Xz, Nat.add_mul]
theorem storesP {h : Zh} {b o : Nat} {L S : List (Int × Int)} {e : TypeId} (hb : h[b]? = some (.cells ((Yc L).map Zd) e false)) (ho : o + S.length ≤ L.length) (K : Zh → Prop)
    (hk : K (h.set b (.cells ((Yc (Ye L o S)).map Zd) e false))) : storesK h b (o * 2) ((Yc S).map Zd) K := by
  simp only [storesK, hb, ← splice_map]
  refine ⟨?_, ?_, ?_⟩
  · rw [List.all_eq_true]
    intro v hv
    obtain ⟨n, _, rfl⟩ := List.mem_map.1 hv
    rfl
  · simp only [List.length_map, Xz]; omega
  · rw [← flatP_splice]; exact hk
theorem cellsP {h : Zh} {b o s : Nat} {L : List (Int × Int)} {e : TypeId} {ro : Bool} (hb : h[b]? = some (.cells ((Yc L).map Zd) e ro)) (ho : o + s ≤ L.length) (K : List Value → Prop)
    (hk : K ((Yc ((L.drop o).take s)).map Zd)) : Xq h b (o * 2) (s * 2) K := by
  simp only [Xq, hb]
  refine ⟨by simp only [List.length_map, Xz]; omega, ?_⟩
  rw [flatP_take, flatP_drop, List.map_take, List.map_drop] at hk
  exact hk
def repL (x y : Int) (n c : Nat) : List (Int × Int) := List.replicate c (x, y) ++ List.replicate (n - c) (0, 0)
theorem repL_len {x y : Int} {n c : Nat} (h : c ≤ n) : (repL x y n c).length = n := by simp [repL]; omega
theorem repL_next {x y : Int} {n c : Nat} (h : c ≤ n) : Ye (repL x y n c) c (((repL x y n c).drop 0).take (min c (n - c))) = repL x y n (c + min c (n - c)) := by
  have e1 : ((repL x y n c).drop 0).take (min c (n - c)) = List.replicate (min c (n - c)) (x, y) := by
    rw [List.drop_zero, repL, List.take_append_of_le_length (by simp; omega), List.take_replicate, Nat.min_eq_left (Nat.min_le_left _ _)]
  rw [e1, Ye, repL, List.take_append_of_le_length (by simp), List.take_of_length_le (by simp), List.drop_append, List.length_replicate, List.length_replicate, List.drop_of_length_le (by simp), List.nil_append, List.drop_replicate, List.replicate_append_replicate, repL]
  congr 2
  omega

theorem s95_callW [Tabs Try.prog] {args : List Value} {h : Zh} {Q : Value → Zh → Prop} (hsz : args.length ≤ 48) (hk : AWS Try.prog 48 s95 (Zv Try.prog [.tmp 4] Q) (Zt 0 args) h) : ACall Try.prog 95 args h Q :=
  Yn Try.func95 rfl (enters_of Try.func95 (by kernel_rfl) rfl) rfl rfl (by decide) s95_strip s95_ok hsz hk
theorem repeat_call [Tabs prog] {h : Zh} {b0 n : Nat} {x y : Int} (hb : h[b0]? = some (.ints [x, y] 26 false)) (hn : 1 ≤ n) (hn5 : n < 6) :
    ADet prog 95 [.slice (some ⟨b0, 0, none⟩) 1 1, Zd (n : Nat)] h (.slice (some ⟨h.length, 0, none⟩) n n) (h ++ [.cells ((Yc (List.replicate n (x, y))).map Zd) 26 false]) := by
  obtain ⟨cu, ci⟩ := conv_u n hn5
  have cu1 : IntKind.u64.wrap 1 = 1 := by decide
  have hneg : ¬ ((n : Nat) : Int) < 0 := by omega
  have hbig : ¬ ((n : Nat) : Int) > 9223372036854775807 := by omega
  have h00 : ¬ (0 : Int) > 0 := by decide
  refine s95_callW (by simp) ?_
  simp only [s95]
  refine Ze fun N2 hN2 => ?_
  simp (maxSteps := 2000000) only [↓Za, ↓Zb, ↓Zc, vup, cond_false, aop, Zg, Zt, ev, sput, Zf, Nat.reduceBEq, Nat.reduceAdd]
  refine hN2 [(0, .slice (some ⟨b0, 0, none⟩) 1 1), (1, Zd (n : Nat)), (4, .slice none 0 0)] _ _ ?_ (by simp (maxSteps := 2000000) only [vup, cond_true, cond_false, Nat.reduceBEq])
  clear hN2
  try clear N2
  refine Ze fun N3 hN3 => ?_
  simp (maxSteps := 2000000) only [↓Za, ↓Zu, ↓Zw, ↓Zb, ↓Zc, ↓vdn, vup, cond_true, cond_false, aop, Zg, ev, sput, Zf, Yg, Yl, Nat.reduceBEq, hneg]
  refine hN3 [(0, .slice (some ⟨b0, 0, none⟩) 1 1), (1, Zd (n : Nat)), (4, .slice none 0 0)] _ _ ?_ (by simp (maxSteps := 2000000) only [vup, cond_true, cond_false, Nat.reduceBEq])
  clear hN3
  try clear N3
  refine Ze fun N4 hN4 => ?_
  simp (maxSteps := 2000000) only [↓Za, ↓Zb, ↓Zc, vup, List.map_cons, List.map_nil, cond_true, cond_false, aop, Zg, ev, sput, Zf, Zl, Nat.reduceBEq, tyf, lenK, Int.natCast_one, convK, cu, cu1]
  simp (maxSteps := 2000000) only [Yv, List.nil_append, List.append_nil]
  refine (mul_call hn5).mono ?_
  rintro _ h ⟨rfl, rfl⟩
  simp (maxSteps := 2000000) only [extr_20, extr_21]
  refine hN4 [(0, .slice (some ⟨b0, 0, none⟩) 1 1), (1, Zd (n : Nat)), (4, .slice none 0 0), (5, .int .u64 0), (6, .int .u64 (n : Int))] _ _ ?_ (by simp (maxSteps := 2000000) only [vup, cond_true, cond_false, Nat.reduceBEq])
  clear hN4
  try clear N4
  refine Ze fun N5 hN5 => ?_
  simp (maxSteps := 2000000) only [↓Za, ↓Zu, ↓Zw, ↓Zb, ↓Zc, ↓vdn, vup, cond_true, cond_false, aop, Zg, ev, sput, Zf, Yg, Yl, Nat.reduceBEq, h00, hbig]
  refine hN5 [(0, .slice (some ⟨b0, 0, none⟩) 1 1), (1, Zd (n : Nat)), (4, .slice none 0 0), (5, .int .u64 0), (6, .int .u64 (n : Int))] _ _ ?_ (by simp (maxSteps := 2000000) only [vup, cond_true, cond_false, Nat.reduceBEq])
  clear hN5
  try clear N5
  have hmk : ∀ {K : Value → Zh → Prop}, makeK prog h 47 (Zd (n : Nat)) (Zd (n : Nat)) K = K (.slice (some ⟨h.length, 0, none⟩) n n) (h ++ [.cells ((Yc (List.replicate n (0, 0))).map Zd) 26 false]) := fun {K} => makeP el_47 zero_26 info_26 rfl (by omega)
  refine Ze fun N6 hN6 => ?_
  simp (maxSteps := 2000000) only [↓Za, ↓Zb, ↓Zc, vup, cond_true, cond_false, aop, Zg, ev, sput, Zf, Nat.reduceBEq, tyf, convK, ci, hmk]
  refine hN6 [(0, .slice (some ⟨b0, 0, none⟩) 1 1), (1, Zd (n : Nat)), (4, .slice none 0 0), (7, .slice (some ⟨h.length, 0, none⟩) n n)] _ _ ?_ (by simp (maxSteps := 2000000) only [vup, cond_true, cond_false, Nat.reduceBEq])
  clear hN6
  try clear N6
  obtain ⟨H, hH⟩ : ∃ H : Nat → Zh, H = fun c => h ++ [.cells ((Yc (repL x y n c)).map Zd) 26 false] := ⟨_, rfl⟩
  have hHc : ∀ c, (H c)[h.length]? = some (.cells ((Yc (repL x y n c)).map Zd) 26 false) := fun c => by rw [hH]; exact Zy _ _
  have hset : ∀ c d, (H c).set h.length (.cells ((Yc (repL x y n d)).map Zd) 26 false) = H d := fun c d => by simp only [hH]; rw [Wf]
  have hH0 : h ++ [.cells ((Yc (List.replicate n ((0 : Int), (0 : Int)))).map Zd) 26 false] = H 0 := by rw [hH]; simp [repL]
  rw [hH0]
  have hb0 : (H 0)[b0]? = some (.ints [x, y] 26 false) := by rw [hH]; exact Xu hb _
  have hcp : ∀ {K : Value → Zh → Prop}, K (Zd 1) (H 1) → copyK prog (H 0) 47 (.slice (some ⟨h.length, 0, none⟩) n n) (.slice (some ⟨b0, 0, none⟩) 1 1) K := fun {K} hK => by
    simp only [copyK, el_47, Vk]
    have e1 : min 1 n = 1 := by omega
    rw [e1]
    simp only [Xq, hb0]
    refine ⟨by simp, ?_⟩
    rw [show min ((1 : Nat) : Int) ((n : Nat) : Int) = 1 by omega]
    have st := storesP (S := [(x, y)]) (o := 0) (hHc 0) (by rw [repL_len (by omega)]; simp; omega) (fun h' => K (Zd 1) h') (by
      have e2 : Ye (repL x y n 0) 0 [(x, y)] = repL x y n 1 := by
        rw [repL, repL, List.replicate_zero, List.nil_append, show n - 0 = (n - 1) + 1 by omega, List.replicate_succ]
        simp [Ye]
      rw [e2, hset]; exact hK)
    exact st
  refine Ze fun N7 hN7 => ?_
  simp (maxSteps := 2000000) only [↓Za, ↓Zb, ↓Zc, vup, List.map_cons, List.map_nil, cond_true, cond_false, aop, Zg, ev, sput, Zf, Zl, Nat.reduceBEq]
  refine hcp ?_
  refine hN7 [(0, .slice (some ⟨b0, 0, none⟩) 1 1), (1, Zd (n : Nat)), (4, .slice none 0 0), (7, .slice (some ⟨h.length, 0, none⟩) n n), (8, .int .i64 1)] _ _ ?_ (by simp (maxSteps := 2000000) only [vup, cond_true, cond_false, Nat.reduceBEq])
  clear hN7
  try clear N7
  refine Zm fun Z hZ => ?_
  refine Zn ?_
  refine Zs fun Q hQ => ?_
  refine Yu (γ := Nat) (fun c => 1 ≤ c ∧ c ≤ n) (fun c => ([(0, .slice (some ⟨b0, 0, none⟩) 1 1), (1, Zd (n : Nat)), (4, .slice none 0 0), (7, .slice (some ⟨h.length, 0, none⟩) n n), (8, Zd (c : Nat))], H c)) (fun c => n - c) 1 ⟨Nat.le_refl _, hn⟩ (by simp (maxSteps := 2000000) only [vup, cond_true, cond_false, Nat.reduceBEq, Int.natCast_one]) rfl ?_
  rintro c ⟨hc1, hc⟩
  refine Zs fun Q2 hQ2 => ?_
  simp only [l95_0]
  by_cases hin : (c : Int) < n
  · have hcn : c < n := by omega
    refine Ze fun N8 hN8 => ?_
    simp (maxSteps := 2000000) only [↓Za, ↓Zu, ↓Zw, ↓Zb, ↓Zc, ↓vdn, vup, List.map_cons, List.map_nil, cond_true, cond_false, aop, Zg, ev, sput, Zf, Yg, Yl, Zl, Nat.reduceBEq, tyf, lenK, hin]
    refine hN8 [(0, .slice (some ⟨b0, 0, none⟩) 1 1), (1, Zd (n : Nat)), (4, .slice none 0 0), (7, .slice (some ⟨h.length, 0, none⟩) n n), (8, Zd (c : Nat))] _ _ ?_ (by simp (maxSteps := 2000000) only [vup, cond_true, cond_false, Nat.reduceBEq])
    clear hN8
    try clear N8
    refine Zk ?_
    simp only [q95_9, aw_block]
    refine Xv [] (by kernel_rfl) (by kernel_rfl) (by kernel_rfl) (by kernel_rfl) ?_
    have hs1 : ∀ {K : Value → Prop}, K (.slice (some ⟨h.length, c * 2, none⟩) (n - c) (n - c)) → Xj prog 47 (.slice (some ⟨h.length, 0, none⟩) n n) (some (Zd (c : Nat))) none none K := fun {K} hK => by
      simp only [Xj, el_47, Vk, bnd]
      refine ⟨by omega, by omega, by omega, fun _ => ?_, fun h0 => absurd rfl h0⟩
      rw [if_neg (by omega), show ((n : Int) - (c : Int)).toNat = n - c by omega, Int.toNat_natCast, Nat.zero_add]
      exact hK
    have hs2 : ∀ {K : Value → Prop}, K (.slice (some ⟨h.length, 0, none⟩) c n) → Xj prog 47 (.slice (some ⟨h.length, 0, none⟩) n n) none (some (Zd (c : Nat))) none K := fun {K} hK => by
      simp only [Xj, el_47, Vk, bnd]
      refine ⟨by omega, by omega, by omega, fun _ => ?_, fun h0 => absurd rfl h0⟩
      rw [if_neg (by omega)]
      simpa using hK
    have hcp2 : ∀ {K : Value → Zh → Prop}, K (Zd (min c (n - c) : Nat)) (H (c + min c (n - c))) → copyK prog (H c) 47 (.slice (some ⟨h.length, c * 2, none⟩) (n - c) (n - c)) (.slice (some ⟨h.length, 0, none⟩) c n) K := fun {K} hK => by
      simp only [copyK, el_47, Vk]
      refine cellsP (o := 0) (hHc c) (by rw [repL_len (by omega)]; omega) _ ?_
      refine storesP (hHc c) (by rw [List.length_take, List.length_drop, repL_len (by omega)]; omega) _ ?_
      rw [repL_next (by omega), hset, show min ((c : Nat) : Int) ((n - c : Nat) : Int) = ((min c (n - c) : Nat) : Int) by omega]
      exact hK
    simp (maxSteps := 2000000) only [↓Yr, ↓vdn, vup, List.map_cons, List.map_nil, cond_true, cond_false, aop, Zr, ev, sput, Zf, Yg, Yl, Zl, Nat.reduceBEq, tyf, Option.map_some, Option.map_none]
    refine hs1 ?_
    refine hs2 ?_
    refine hcp2 ?_
    have ha : addV .i64 (c : Int) ((min c (n - c) : Nat) : Int) = ((c + min c (n - c) : Nat) : Int) := by rw [addN (by omega)]; push_cast; rfl
    simp (maxSteps := 2000000) only [vup, ha]
    exact hQ2 _ _ _ ⟨c + min c (n - c), ⟨by omega, by omega⟩, by omega, by simp (maxSteps := 2000000) only [vup, cond_true, cond_false, Nat.reduceBEq], rfl⟩
  · have hcn : n = c := by omega
    subst hcn
    refine Ze fun N9 hN9 => ?_
    simp (maxSteps := 2000000) only [↓Za, ↓Zw, ↓Xa, ↓Zb, ↓Zc, ↓vdn, vup, List.map_cons, List.map_nil, cond_true, cond_false, aop, Zg, ev, sput, Zf, Yg, Yl, Zl, Nat.reduceBEq, tyf, lenK, hin]
    refine hQ2 _ _ _ (hQ _ _ _ ?_)
    simp (maxSteps := 2000000) only [Zg, Zr, Zv, if_true]
    refine hZ [(0, .slice (some ⟨b0, 0, none⟩) 1 1), (1, Zd (n : Nat)), (4, .slice none 0 0), (7, .slice (some ⟨h.length, 0, none⟩) n n), (8, Zd (n : Nat))] _ _ ?_ (by simp (maxSteps := 2000000) only [vup, cond_true, cond_false, Nat.reduceBEq])
    clear hZ
    try clear Z
    refine Zk ?_
    simp (maxSteps := 2000000) only [↓Za, ↓Zw, ↓Zz, ↓Zb, ↓Zc, vup, cond_true, cond_false, aop, Zg, ev, sput, Zf, Nat.reduceBEq, Zv, Xw, tup]
    rw [hH]; simp [repL]
end Go.Proofs.Try.Am

namespace Go.Proofs.Try.Am
open Go.Am Bq
set_option maxRecDepth 100000
set_option maxHeartbeats 1000000

theorem findP_fst (m a : Nat) (T : Xx) (ha : a ≤ m) : match findP m a T with | none => fstI (m - a) (fun i => decide (T (a + i) a ≠ 0)) = -1 | some p => a ≤ p ∧ p < m ∧ fstI (m - a) (fun i => decide (T (a + i) a ≠ 0)) = ((p - a : Nat) : Int) := by
  cases hf : findP m a T with
  | none =>
    simp only
    rw [fstI, find_none]
    intro i hi
    rw [findP, List.find?_eq_none] at hf
    have := hf (a + i) (List.mem_range.2 (by omega))
    simpa using this
  | some p =>
    obtain ⟨h1, h2, h3, h4⟩ := findP_some hf
    simp only
    refine ⟨h2, h1, ?_⟩
    rw [fstI, find_spec (k := p - a) (by omega) (by simp only [show a + (p - a) = p by omega]; simpa using h3) (fun i hi => by simpa using h4 (a + i) (by omega) (by omega))]

def normTo (a c : Nat) (T : Xx) : Xx := fun i d => if i = a ∧ d < c then T a d / T a a else T i d
theorem normTo_zero (a : Nat) (T : Xx) : normTo a 0 T = T := by funext i d; simp [normTo]
theorem normTo_at (a c : Nat) (T : Xx) : normTo a c T a c = T a c := by simp [normTo]
theorem normTo_succ (a c : Nat) (T : Xx) : upd (normTo a c T) a c (T a c / T a a) = normTo a (c + 1) T := by
  funext i d
  simp only [upd, normTo]
  by_cases h1 : i = a
  · subst h1
    by_cases h2 : d = c
    · subst h2; simp
    · by_cases h3 : d < c
      · simp [h2, h3, show d < c + 1 by omega]
      · simp [h2, h3, show ¬ d < c + 1 by omega]
  · simp [h1]
theorem normTo_all {a k i d : Nat} (T : Xx) (hd : d ≤ k) : normTo a (k + 1) T i d = normT a T i d := by
  simp only [normTo, normT]
  by_cases h1 : i = a
  · simp [h1, show d < k + 1 by omega]
  · simp [h1]
def Xr (a r : Nat) (T : Xx) : Xx := fun i d => if i < r ∧ i ≠ a then T i d - T i a * T a d else T i d
def elimTo (a i c : Nat) (T : Xx) : Xx := fun i' d => if i' = i ∧ d < c then T i d - T i a * T a d else T i' d
theorem elimRows_zero (a : Nat) (T : Xx) : Xr a 0 T = T := by funext i d; simp [Xr]
theorem elimTo_zero (a i : Nat) (T : Xx) : elimTo a i 0 T = T := by funext i' d; simp [elimTo]
theorem elimTo_at (a i c : Nat) (T : Xx) : elimTo a i c T i c = T i c := by simp [elimTo]
theorem elimTo_other {a i c i' : Nat} (T : Xx) (h : i' ≠ i) (d : Nat) : elimTo a i c T i' d = T i' d := by simp [elimTo, h]
theorem elimTo_succ (a i c : Nat) (T : Xx) : upd (elimTo a i c T) i c (T i c - T i a * T a c) = elimTo a i (c + 1) T := by
  funext i' d
  simp only [upd, elimTo]
  by_cases h1 : i' = i
  · subst h1
    by_cases h2 : d = c
    · subst h2; simp
    · by_cases h3 : d < c
      · simp [h2, h3, show d < c + 1 by omega]
      · simp [h2, h3, show ¬ d < c + 1 by omega]
  · simp [h1]
theorem elimRows_row (a r : Nat) (T : Xx) : Xr a r T r = T r ∧ Xr a r T a = T a := by
  constructor <;> (funext d; simp [Xr])
theorem elimRows_next {a r k : Nat} (T : Xx) (h : r ≠ a) {i d : Nat} (hd : d ≤ k) : elimTo a r (k + 1) (Xr a r T) i d = Xr a (r + 1) T i d := by
  obtain ⟨e1, e2⟩ := elimRows_row a r T
  simp only [elimTo, e1, e2]
  by_cases h1 : i = r
  · subst h1; simp [Xr, h, show d < k + 1 by omega]
  · simp only [h1, false_and, if_false, Xr]
    by_cases h2 : i < r
    · simp [h2, show i < r + 1 by omega]
    · simp [h2, show ¬ i < r + 1 by omega]
theorem elimRows_skip {a r : Nat} (T : Xx) (h : r = a ∨ T r a = 0) (i d : Nat) : Xr a r T i d = Xr a (r + 1) T i d := by
  simp only [Xr]
  by_cases h1 : i = r
  · subst h1
    rcases h with h | h
    · simp [h]
    · by_cases h3 : i = a
      · simp [h3]
      · simp only [Nat.lt_irrefl, false_and, if_false, show i < i + 1 by omega, true_and, ne_eq, h3, not_false_eq_true, if_true, h]
        grind
  · by_cases h2 : i < r
    · simp [h2, show i < r + 1 by omega]
    · simp [h2, show ¬ i < r + 1 by omega]
theorem elimRows_all {a m i d : Nat} (T : Xx) (hi : i < m) : Xr a m T i d = elimT a T i d := by
  simp only [Xr, elimT]
  by_cases h : i = a
  · simp [h]
  · simp [h, hi]

theorem clear_fits [Tabs prog] {D0 D1 : Nat} {x0 x1 x2 : Int} {p f r : Rat} (h0 : Rp D0 x0 p) (h1 : Rp D0 x1 f) (h2 : Rp D1 x2 r) (hD0 : D0 ≤ 1073741824) (hD1 : D1 ≤ 1073741824) (b0 : x0.natAbs ≤ 1073741824) (b1 : x1.natAbs ≤ 1073741824) (b2 : x2.natAbs ≤ 1073741824) (h : Zh) :
    Xi prog 72 [qV f, qV r] h (qV (f * r)) ∧ Xi prog 71 [qV p, Zd (-1), qV (f * r)] h (qV (p - f * r)) := by
  have hDD : D0 * D1 ≤ 1152921504606846976 := Nat.le_trans (Nat.mul_le_mul hD0 hD1) (by decide)
  have hxx : (x1 * x2).natAbs ≤ 1152921504606846976 := by rw [Int.natAbs_mul]; exact Nat.le_trans (Nat.mul_le_mul b1 b2) (by decide)
  have hm := h1.mul h2
  have hx0 : (x0 * (D1 : Int)).natAbs ≤ 1152921504606846976 := by rw [Int.natAbs_mul, Int.natAbs_natCast]; exact Nat.le_trans (Nat.mul_le_mul b0 hD1) (by decide)
  have f1 : Fits f := ⟨by have := h1.le; omega, by have := h1.den_le; omega⟩
  have f2 : Fits r := ⟨by have := h2.le; omega, by have := h2.den_le; omega⟩
  have f3 : Fits (f * r) := ⟨by have := hm.le; omega, by have := hm.den_le; omega⟩
  refine ⟨times_call f1 f2 f3, ?_⟩
  have := plus_call (h := h) (k := -1) (h0.up D1 h2.pos) hm (by omega) (by omega)
  rwa [show p + ((-1 : Int) : Rat) * (f * r) = p - f * r by rw [show (((-1 : Int)) : Rat) = -1 from rfl]; grind] at this
theorem tame_fits {m k : Nat} {T : Xx} (h : Tame m k T) {i c : Nat} (hi : i < m) (hc : c ≤ k) : Fits (T i c) := by
  obtain ⟨D, h1, h2, h3⟩ := h
  obtain ⟨x, g1, g2⟩ := h3 i c hi hc
  exact ⟨by have := g1.le; omega, by have := g1.den_le; omega⟩

def Tch (B m : Nat) (bk : Nat → Nat) (b : Nat) : Prop := b = B ∨ ∃ i, i < m ∧ b = bk i
theorem Ext.fresh {S : Nat → Prop} {h h1 h2 : Zh} (hE : Ext S h h1) (hn : Ext (fun b => h.length ≤ b ∨ S b) h1 h2) : Ext S h h2 := by
  refine ⟨Nat.le_trans hE.1 hn.1, fun i hi hs => ?_⟩
  rw [hn.2 i (Nat.lt_of_lt_of_le hi hE.1) (by rintro (h3 | h3); omega; exact hs h3)]
  exact hE.2 i hi hs

set_option maxHeartbeats 4000000
theorem Mat.tail2 {h : Zh} {B m k C : Nat} {w : Nat → Value} {bk : Nat → Nat} {T : Xx} (M : Mat h B m k w bk T) {a : Nat} (ha : a ≤ m) (hm1 : 1 ≤ m) (hC : m ≤ C) {K : Value → Prop}
    (hk : ∀ v, (∀ K : Value → Prop, lenK v K = K (Zd ((m - a : Nat) : Int))) → (∀ i, i < m - a → ∀ K : Value → Prop, Xf prog 103 v (Zd (i : Nat)) K = K (Vl v 1 i)) → (∀ i, i < m - a → ∀ K : Value → Prop, Xn prog h 47 (Vl v 1 i) K = K (w (a + i))) → K v) :
    Xj prog 103 (.slice (some ⟨B, 0, some 0⟩) m C) (some (Zd (a : Nat))) none none K := by
  rcases Nat.lt_or_ge a m with h1 | h1
  · refine M.tail h1 hC fun v hv => ?_
    have hlen : ((List.range (m - a)).map fun i => w (a + i)).length = m - a := by simp
    refine hk v (fun K => by rw [hv.len, hlen]) (fun i hi K => hv.idx el_103 esz_47 (by rw [hlen]; exact hi) K) fun i hi K => ?_
    rw [hv.load shp_47 (by rw [hlen]; exact hi)]
    simp [List.getD, hi]
  · obtain rfl : a = m := by omega
    have key : K void := hk void (fun K => by rw [Nat.sub_self]; rfl) (fun i hi => by omega) (fun i hi => by omega)
    simp only [Xj, el_103, esz_47, bnd]
    exact ⟨by omega, by omega, by omega, fun h0 => by simp at h0, fun _ => .inr ⟨by omega, .inr ⟨trivial, key⟩⟩⟩
theorem s87_callW [Tabs Try.prog] {args : List Value} {h : Zh} {Q : Value → Zh → Prop} (hsz : args.length ≤ 176) (hk : AWS Try.prog 176 s87 (Zv Try.prog [.tmp 4, .tmp 5] Q) (Zt 0 args) h) : ACall Try.prog 87 args h Q :=
  Yn Try.func87 rfl (enters_of Try.func87 (by kernel_rfl) rfl) rfl rfl (by decide) s87_strip s87_ok hsz hk
theorem solve_call [Tabs prog] {h : Zh} {B m k C : Nat} {w0 : Nat → Value} {bk0 : Nat → Nat} {T0 : Xx} (M0 : Mat h B m k w0 bk0 T0) (hC : m ≤ C) (hm1 : 1 ≤ m) (hm : m ≤ 100) (hk1 : 1 ≤ k) (hk : k ≤ 100)
    (htame : ∀ j S, j ≤ k → Xd m T0 j = some S → Tame m k S) :
    ACall prog 87 [.slice (some ⟨B, 0, some 0⟩) m C, Zd (k : Nat)] h fun r h' => Ext (Tch B m bk0) h h' ∧ ∃ x ok, r = .tuple #[x, .bool ok] ∧
      (match Wc m k T0 with | none => ok = false ∧ x = .slice none 0 0 | some xs => ok = true ∧ OwnP 26 h' x (xs.map ofQ) ∧ ∀ b, Yf x = some b → h.length ≤ b) := by
  refine s87_callW (by simp) ?_
  simp only [s87]
  refine Ze fun N1 hN1 => ?_
  simp (maxSteps := 2000000) only [↓Za, ↓Zb, ↓Zc, vup, cond_false, aop, Zg, Zt, ev, sput, Zf, Nat.reduceBEq, Nat.reduceAdd]
  refine hN1 [(0, .slice (some ⟨B, 0, some 0⟩) m C), (1, Zd (k : Nat)), (4, .slice none 0 0), (5, .bool false)] _ _ ?_ (by simp (maxSteps := 2000000) only [vup, cond_true, cond_false, Nat.reduceBEq])
  clear hN1
  try clear N1
  refine Ze fun N2 hN2 => ?_
  simp (maxSteps := 2000000) only [↓Za, ↓Zb, ↓Zc, vup, cond_false, aop, Zg, ev, sput, Zf, Nat.reduceBEq]
  refine hN2 [(0, .slice (some ⟨B, 0, some 0⟩) m C), (1, Zd (k : Nat)), (4, .slice none 0 0), (5, .bool false), (6, .int .i64 0)] _ _ ?_ (by simp (maxSteps := 2000000) only [vup, cond_true, cond_false, Nat.reduceBEq])
  clear hN2
  try clear N2
  refine Zm fun Z hZ => ?_
  refine Ze fun N3 hN3 => ?_
  simp (maxSteps := 2000000) only [↓Za, ↓Zb, ↓Zc, vup, cond_true, cond_false, aop, Zg, ev, sput, Zf, Nat.reduceBEq]
  refine hN3 [(0, .slice (some ⟨B, 0, some 0⟩) m C), (1, Zd (k : Nat)), (4, .slice none 0 0), (5, .bool false), (6, .int .i64 0), (18, Zd (k : Nat)), (19, .int .i64 0)] _ _ ?_ (by simp (maxSteps := 2000000) only [vup, cond_true, cond_false, Nat.reduceBEq])
  clear hN3
  try clear N3
  refine Zn ?_
  refine Zs fun Q hQ => ?_
  refine Yu (γ := Nat × Zh × (Nat → Value) × (Nat → Nat) × Xx) (fun s => s.1 ≤ k ∧ s.1 ≤ m ∧ (s.1 < k → s.1 < m) ∧ Xd m T0 s.1 = some s.2.2.2.2 ∧ Mat s.2.1 B m k s.2.2.1 s.2.2.2.1 s.2.2.2.2 ∧ Ext (Tch B m bk0) h s.2.1 ∧ ∀ i, i < m → Tch B m bk0 (s.2.2.2.1 i))
    (fun s => ([(0, .slice (some ⟨B, 0, some 0⟩) m C), (1, Zd (k : Nat)), (4, .slice none 0 0), (5, .bool false), (6, Zd (s.1 : Nat)), (18, Zd (k : Nat)), (19, Zd (s.1 : Nat))], s.2.1)) (fun s => k - s.1) (0, h, w0, bk0, T0) ⟨Nat.zero_le _, Nat.zero_le _, fun _ => hm1, rfl, M0, Ext.refl _ _, fun i hi => .inr ⟨i, hi, rfl⟩⟩ (by simp (maxSteps := 2000000) only [vup, cond_true, cond_false, Nat.reduceBEq, Int.natCast_zero]) rfl ?_
  rintro ⟨j, hp, w, bk, T⟩ ⟨hj, hjm, hjkm, hrun, M, hE, hS⟩
  simp only at hj hjm hjkm hrun M hE hS
  refine Zs fun Q2 hQ2 => ?_
  simp only [l87_3]
  by_cases hin : (j : Int) < k
  · have hjk : j < k := by omega
    have hjm' : j < m := hjkm hjk
    have hBh : h.length ≤ hp.length := hE.1
    refine Ze fun N4 hN4 => ?_
    simp (maxSteps := 2000000) only [↓Za, ↓Zb, ↓Zc, vup, cond_true, cond_false, aop, Zg, ev, sput, Zf, Yg, Yl, Nat.reduceBEq, hin]
    refine hN4 [(0, .slice (some ⟨B, 0, some 0⟩) m C), (1, Zd (k : Nat)), (4, .slice none 0 0), (5, .bool false), (6, Zd (j : Nat)), (18, Zd (k : Nat)), (19, Zd (j : Nat)), (20, .bool true)] _ _ ?_ (by simp (maxSteps := 2000000) only [vup, cond_true, cond_false, Nat.reduceBEq])
    clear hN4
    try clear N4
    refine Ze fun N5 hN5 => ?_
    simp (maxSteps := 2000000) only [↓Zu, ↓vdn, vup, cond_true, cond_false, Zg, ev, Nat.reduceBEq]
    refine hN5 [(0, .slice (some ⟨B, 0, some 0⟩) m C), (1, Zd (k : Nat)), (4, .slice none 0 0), (5, .bool false), (6, Zd (j : Nat)), (18, Zd (k : Nat)), (19, Zd (j : Nat))] _ _ ?_ (by simp (maxSteps := 2000000) only [vup, cond_true, cond_false, Nat.reduceBEq])
    clear hN5
    try clear N5
    refine Zm fun Y hY => ?_
    refine Zn ?_
    -- the column's number
    obtain ⟨H1, hH1⟩ : ∃ H1, H1 = hp ++ [Blk.cells [Zd (j : Nat)] 3 false] := ⟨_, rfl⟩
    have b7 : H1[hp.length]? = some (.cells [Zd (j : Nat)] 3 false) := by rw [hH1]; exact Zy _ _
    have M1 : Mat H1 B m k w bk T := by rw [hH1]; exact M.ext (Ext.app _ _ _)
    have hE1 : Ext (Tch B m bk0) h H1 := by rw [hH1]; exact hE.trans (Ext.app _ _ _)
    have hH1l : H1.length = hp.length + 1 := by rw [hH1]; simp
    refine Ze fun N6 hN6 => ?_
    simp (maxSteps := 2000000) only [↓Za, ↓Zb, ↓Zc, vup, cond_true, cond_false, aop, Zg, ev, sput, Zf, Nat.reduceBEq, tyf, Xm, Yi, store1 (v' := Zd (j : Nat)) (Zy hp (.cells [.int .i64 0] 3 false)) Wy rfl, Wf]
    rw [← hH1]
    refine hN6 [(0, .slice (some ⟨B, 0, some 0⟩) m C), (1, Zd (k : Nat)), (4, .slice none 0 0), (5, .bool false), (6, Zd (j : Nat)), (7, .pointer (some ⟨hp.length, 0, none⟩)), (18, Zd (k : Nat)), (19, Zd (j : Nat))] _ _ ?_ (by simp (maxSteps := 2000000) only [vup, cond_true, cond_false, Nat.reduceBEq])
    clear hN6
    try clear N6
    -- the first row with a number there
    have hfst := findP_fst m j T hjm
    refine Ze fun N7 hN7 => ?_
    simp (maxSteps := 2000000) only [↓Za, ↓Zb, ↓Zc, vup, List.map_cons, List.map_nil, cond_true, cond_false, aop, Zg, ev, sput, Zf, Nat.reduceBEq, Option.map_some, Option.map_none]
    refine M1.tail hjm' hC fun v hv => ?_
    have ix := idxRow_call (F := fun i => decide (T (j + i) j ≠ 0)) (g := 112) (cap := #[.pointer (some ⟨hp.length, 0, none⟩)]) hv (by simp; omega) (fun i hi => by
      simp only [List.length_map, List.length_range] at hi
      have e : ((List.range (m - j)).map fun i => w (j + i)).getD i undef = w (j + i) := by simp [List.getD, hi]
      rw [e]
      exact nonzero_call M1 b7 (by omega) (by omega))
    rw [List.length_map, List.length_range] at ix
    simp (maxSteps := 2000000) only [vup, List.map_cons, List.map_nil, cond_true, cond_false, ev, Nat.reduceBEq, Yv, List.nil_append, List.append_nil, List.map_toArray]
    refine (ix).mono ?_
    rintro _ H1 ⟨rfl, rfl⟩
    refine hN7 [(0, .slice (some ⟨B, 0, some 0⟩) m C), (1, Zd (k : Nat)), (4, .slice none 0 0), (5, .bool false), (6, Zd (j : Nat)), (7, .pointer (some ⟨hp.length, 0, none⟩)), (8, Zd (fstI (m - j) fun i => decide (T (j + i) j ≠ 0))), (18, Zd (k : Nat)), (19, Zd (j : Nat))] _ _ ?_ (by simp (maxSteps := 2000000) only [vup, cond_true, cond_false, Nat.reduceBEq])
    clear hN7
    try clear N7
    cases hf : findP m j T with
    | none =>
      rw [hf] at hfst
      simp only at hfst
      refine Zk ?_
      simp (maxSteps := 2000000) only [↓Za, ↓Zw, ↓Zz, ↓Zb, ↓Zc, ↓vdn, vup, cond_true, cond_false, aop, Zg, Zr, ev, sput, Zf, Yg, Yl, Nat.reduceBEq, Int.reduceLT, hfst]
      refine hQ2 _ _ _ (hQ _ _ _ ?_)
      simp (maxSteps := 2000000) only [vup, cond_true, cond_false, Zg, Zr, Nat.reduceBEq, Zv, Xw, tup]
      have hs : Wc m k T0 = none := by
        have : ∀ d, Xd m T0 (j + 1 + d) = none := by
          intro d
          induction d with
          | zero =>
            show (Xd m T0 j).bind (Wp m j) = none
            rw [hrun]
            show Wp m j T = none
            rw [Wp, hf]; rfl
          | succ d ih => rw [← Nat.add_assoc, Xd, ih]; rfl
        rw [Wc, show k = j + 1 + (k - (j + 1)) by omega, this]; rfl
      rw [hs]
      exact ⟨hE1, _, _, rfl, rfl, rfl⟩
    | some p =>
      rw [hf] at hfst
      simp only at hfst
      obtain ⟨hap, hpm, hfst⟩ := hfst
      rw [hfst]
      have hpj : ¬ ((p - j : Nat) : Int) < 0 := by omega
      refine Ze fun N8 hN8 => ?_
      simp (maxSteps := 2000000) only [↓Za, ↓Zu, ↓Zw, ↓Zb, ↓Zc, ↓vdn, vup, cond_true, cond_false, aop, Zg, ev, sput, Zf, Yg, Yl, Nat.reduceBEq, hpj]
      refine hN8 [(0, .slice (some ⟨B, 0, some 0⟩) m C), (1, Zd (k : Nat)), (4, .slice none 0 0), (5, .bool false), (6, Zd (j : Nat)), (7, .pointer (some ⟨hp.length, 0, none⟩)), (8, Zd (p - j : Nat)), (18, Zd (k : Nat)), (19, Zd (j : Nat))] _ _ ?_ (by simp (maxSteps := 2000000) only [vup, cond_true, cond_false, Nat.reduceBEq])
      clear hN8
      try clear N8
      -- two rows change places
      obtain ⟨h1, H2, st1, st2, M2, hE2, hk2⟩ := M1.swap hjm' hpm
      have hb7 : hp.length ≠ B := by have := M.blt; omega
      have b7 : H2[hp.length]? = some (.cells [Zd (j : Nat)] 3 false) := by rw [hk2 _ hb7]; exact b7
      have hlen2 := Yh b7
      have hE2 : Ext (Tch B m bk0) h H2 := hE1.trans (hE2.mono fun b hb => .inl hb)
      have hS2 : ∀ i, i < m → Tch B m bk0 (swp j p bk i) := fun i hi => by
        simp only [swp]; split
        · exact hS p hpm
        · split
          · exact hS j hjm'
          · exact hS i hi
      have ajp : addV .i64 (j : Int) ((p - j : Nat) : Int) = (p : Int) := by rw [addN (by omega)]; omega
      refine Ze fun N9 hN9 => ?_
      simp only [q87_8]
      refine Xv [] (by kernel_rfl) (by kernel_rfl) (by kernel_rfl) (by kernel_rfl) ?_
      simp (maxSteps := 2000000) only [↓Yr, ↓vdn, vup, cond_true, cond_false, aop, Zg, ev, sput, Zf, Yg, Yl, Nat.reduceBEq, Nat.reduceAdd, ajp, Mat.idx j hjm', Mat.idx p hpm, M1.loadRow hpm, M1.loadRow hjm', st1, st2]
      refine hN9 [(0, .slice (some ⟨B, 0, some 0⟩) m C), (1, Zd (k : Nat)), (4, .slice none 0 0), (5, .bool false), (6, Zd (j : Nat)), (7, .pointer (some ⟨hp.length, 0, none⟩)), (18, Zd (k : Nat)), (19, Zd (j : Nat))] _ _ ?_ (by simp (maxSteps := 2000000) only [vup, cond_true, cond_false, Nat.reduceBEq])
      clear hN9
      try clear N9
      have hTp : T p j ≠ 0 := (findP_some hf).2.2.1
      have hnext : Xd m T0 (j + 1) = some (elimT j (normT j (Vh j p T))) := by
        show (Xd m T0 j).bind (Wp m j) = _
        rw [hrun]
        show Wp m j T = _
        rw [Wp, hf]; rfl
      have tame0 := htame j T hj hrun
      have tame1 := htame (j + 1) _ hjk hnext
      have hU0 : Vh j p T j j ≠ 0 := by simp only [Vh, if_true]; exact hTp
      have tameU : Tame m k (Vh j p T) := by
        obtain ⟨D, g1, g2, g3⟩ := tame0
        refine ⟨D, g1, g2, fun i c hi hc => ?_⟩
        simp only [Vh]
        split
        · exact g3 p c hpm hc
        · split
          · exact g3 j c hjm' hc
          · exact g3 i c hi hc
      clear hk2 st1 st2 h1 M1 M hE hE1 hS ix
      obtain ⟨w', hw'⟩ : ∃ w', w' = swp j p w := ⟨_, rfl⟩
      obtain ⟨bk', hbk'⟩ : ∃ w', w' = swp j p bk := ⟨_, rfl⟩
      obtain ⟨U, hU⟩ : ∃ U, U = Vh j p T := ⟨_, rfl⟩
      rw [← hw', ← hbk', ← hU] at M2
      rw [← hbk'] at hS2
      rw [← hU] at hnext tame1 hU0 tameU
      clear hw' hbk' hU
      -- what it is divided by
      obtain ⟨H3, hH3⟩ : ∃ H3, H3 = H2 ++ [fC (U j j).num (U j j).den] := ⟨_, rfl⟩
      have b9 : H3[H2.length]? = some (fC (U j j).num (U j j).den) := by rw [hH3]; exact Zy _ _
      have M3 : Mat H3 B m k w' bk' U := by rw [hH3]; exact M2.ext (Ext.app _ _ _)
      have hE3 : Ext (Tch B m bk0) h H3 := by rw [hH3]; exact hE2.trans (Ext.app _ _ _)
      have b7 : H3[hp.length]? = some (.cells [Zd (j : Nat)] 3 false) := by rw [hH3]; exact Xu b7 _
      refine Ze fun N10 hN10 => ?_
      simp only [q87_9]
      refine aw_drawE (fun _ => True) [] 7 9 [3, 4, 6] (by kernel_rfl) (by kernel_rfl) (by kernel_rfl) (by kernel_rfl) (by kernel_rfl) (by rfl) trivial ?_
      have b7' : H2[hp.length]? = some (.cells [Zd (j : Nat)] 3 false) := by
        rw [hH3, List.getElem?_append_left hlen2] at b7; exact b7
      simp (maxSteps := 2000000) only [↓dopsR_nil, ↓vdn, vup, cond_true, cond_false, aop, Zg, ev, sput, Zf, Nat.reduceBEq, Nat.reduceAdd, tyf, Mat.idx j hjm', M2.loadRow hjm', Vd b7' Wy, M2.idxR hjm' (show j ≤ k by omega), M2.loadE hjm' (show j ≤ k by omega), Xm, Yi]
      simp only [qV, frV, Vy (Zy H2 z0) rfl, Wf]
      rw [← hH3]
      refine hN10 [(0, .slice (some ⟨B, 0, some 0⟩) m C), (1, Zd (k : Nat)), (4, .slice none 0 0), (5, .bool false), (6, Zd (j : Nat)), (7, .pointer (some ⟨hp.length, 0, none⟩)), (9, .pointer (some ⟨H2.length, 0, none⟩)), (18, Zd (k : Nat)), (19, Zd (j : Nat))] _ _ ?_ (by simp (maxSteps := 2000000) only [vup, cond_true, cond_false, Nat.reduceBEq])
      clear hN10
      try clear N10
      obtain ⟨D1, d1, d2, d3⟩ := tame1
      have hT1 : ∀ i c, elimT j (normT j U) i c = if i = j then U j c / U j j else U i c - U i j * (U j c / U j j) := fun i c => by
        simp only [elimT, normT]
        by_cases h : i = j
        · simp [h]
        · simp [h]
      have tame1 : Tame m k (elimT j (normT j U)) := ⟨D1, d1, d2, d3⟩
      have hlen3 : H2.length < H3.length := by rw [hH3]; simp
      -- the row is divided
      refine Zm fun X hX => ?_
      refine Ze fun N11 hN11 => ?_
      simp (maxSteps := 2000000) only [↓Za, ↓Zb, ↓Zc, vup, List.map_cons, List.map_nil, cond_true, cond_false, aop, Zg, ev, sput, Zf, Zl, Nat.reduceBEq, tyf, Mat.idx j hjm', M3.loadRow hjm', M3.lenR hjm']
      refine hN11 [(0, .slice (some ⟨B, 0, some 0⟩) m C), (1, Zd (k : Nat)), (4, .slice none 0 0), (5, .bool false), (6, Zd (j : Nat)), (7, .pointer (some ⟨hp.length, 0, none⟩)), (9, .pointer (some ⟨H2.length, 0, none⟩)), (18, Zd (k : Nat)), (19, Zd (j : Nat)), (58, Zd ((k + 1 : Nat) : Int)), (59, .int .i64 0)] _ _ ?_ (by simp (maxSteps := 2000000) only [vup, cond_true, cond_false, Nat.reduceBEq])
      clear hN11
      try clear N11
      refine Zn ?_
      refine Zs fun Qa hQa => ?_
      refine Yu (γ := Nat × Zh) (fun s => s.1 ≤ k + 1 ∧ Mat s.2 B m k w' bk' (normTo j s.1 U) ∧ Ext (Tch B m bk0) h s.2 ∧ s.2[hp.length]? = some (.cells [Zd (j : Nat)] 3 false) ∧ s.2[H2.length]? = some (fC (U j j).num (U j j).den))
        (fun s => ([(0, .slice (some ⟨B, 0, some 0⟩) m C), (1, Zd (k : Nat)), (4, .slice none 0 0), (5, .bool false), (6, Zd (j : Nat)), (7, .pointer (some ⟨hp.length, 0, none⟩)), (9, .pointer (some ⟨H2.length, 0, none⟩)), (18, Zd (k : Nat)), (19, Zd (j : Nat)), (58, Zd ((k + 1 : Nat) : Int)), (59, Zd (s.1 : Nat))], s.2)) (fun s => k + 1 - s.1) (0, H3) ⟨Nat.zero_le _, by simp only; rw [normTo_zero]; exact M3, hE3, b7, b9⟩ (by simp (maxSteps := 2000000) only [vup, cond_true, cond_false, Nat.reduceBEq, Int.natCast_zero]) rfl ?_
      rintro ⟨c, G⟩ ⟨hc, MG, hEG, g7, g9⟩
      simp only at hc MG hEG g7 g9
      refine Zs fun Qb hQb => ?_
      simp only [l87_0]
      by_cases hcin : (c : Int) < ((k + 1 : Nat) : Int)
      · have hc' : c ≤ k := by omega
        have ov : Xi prog 94 [qV (U j c), qV (U j j)] G (qV (U j c / U j j)) := by
          refine over_call (tame_fits tameU hjm' hc') (tame_fits tameU hjm' (by omega)) hU0 ?_
          have := tame_fits tame1 hjm' hc'
          rw [hT1, if_pos rfl] at this
          exact this
        obtain ⟨G', st, MG', hEG', hk'⟩ := MG.storeE hjm' hc' (U j c / U j j)
        rw [normTo_succ] at MG'
        refine Ze fun N12 hN12 => ?_
        simp (maxSteps := 2000000) only [↓Za, ↓Zb, ↓Zc, vup, cond_true, cond_false, aop, Zg, ev, sput, Zf, Yg, Yl, Nat.reduceBEq, hcin]
        refine hN12 [(0, .slice (some ⟨B, 0, some 0⟩) m C), (1, Zd (k : Nat)), (4, .slice none 0 0), (5, .bool false), (6, Zd (j : Nat)), (7, .pointer (some ⟨hp.length, 0, none⟩)), (9, .pointer (some ⟨H2.length, 0, none⟩)), (18, Zd (k : Nat)), (19, Zd (j : Nat)), (58, Zd ((k + 1 : Nat) : Int)), (59, Zd (c : Nat)), (60, .bool true)] _ _ ?_ (by simp (maxSteps := 2000000) only [vup, cond_true, cond_false, Nat.reduceBEq])
        clear hN12
        try clear N12
        refine Ze fun N13 hN13 => ?_
        simp (maxSteps := 2000000) only [↓Zu, ↓vdn, vup, cond_true, cond_false, Zg, ev, Nat.reduceBEq]
        refine hN13 [(0, .slice (some ⟨B, 0, some 0⟩) m C), (1, Zd (k : Nat)), (4, .slice none 0 0), (5, .bool false), (6, Zd (j : Nat)), (7, .pointer (some ⟨hp.length, 0, none⟩)), (9, .pointer (some ⟨H2.length, 0, none⟩)), (18, Zd (k : Nat)), (19, Zd (j : Nat)), (58, Zd ((k + 1 : Nat) : Int)), (59, Zd (c : Nat))] _ _ ?_ (by simp (maxSteps := 2000000) only [vup, cond_true, cond_false, Nat.reduceBEq])
        clear hN13
        try clear N13
        refine Zm fun W hW => ?_
        refine Zn ?_
        refine Ze fun N14 hN14 => ?_
        simp (maxSteps := 2000000) only [↓Za, ↓Zb, ↓Zc, vup, cond_true, cond_false, aop, Zg, ev, sput, Zf, Nat.reduceBEq]
        refine hN14 [(0, .slice (some ⟨B, 0, some 0⟩) m C), (1, Zd (k : Nat)), (4, .slice none 0 0), (5, .bool false), (6, Zd (j : Nat)), (7, .pointer (some ⟨hp.length, 0, none⟩)), (9, .pointer (some ⟨H2.length, 0, none⟩)), (10, Zd (c : Nat)), (18, Zd (k : Nat)), (19, Zd (j : Nat)), (58, Zd ((k + 1 : Nat) : Int)), (59, Zd (c : Nat))] _ _ ?_ (by simp (maxSteps := 2000000) only [vup, cond_true, cond_false, Nat.reduceBEq])
        clear hN14
        try clear N14
        refine Zk ?_
        simp only [q87_13]
        refine Xv [(13, 1)] (by kernel_rfl) (by kernel_rfl) (by kernel_rfl) (by kernel_rfl) ?_
        simp (maxSteps := 2000000) only [↓Yr, ↓vdn, vup, List.map_cons, List.map_nil, cond_true, cond_false, aop, Zg, Zr, ev, sput, Zf, Nat.reduceBEq, Nat.reduceAdd, Mat.idx j hjm', MG.loadRow hjm', MG.idxR hjm' hc', MG.loadE hjm' hc', normTo_at, loadF g9, Yv, List.nil_append, List.append_nil]
        refine ⟨_, _, ov, rfl, ?_⟩
        simp (maxSteps := 2000000) only [st]
        refine hW [(0, .slice (some ⟨B, 0, some 0⟩) m C), (1, Zd (k : Nat)), (4, .slice none 0 0), (5, .bool false), (6, Zd (j : Nat)), (7, .pointer (some ⟨hp.length, 0, none⟩)), (9, .pointer (some ⟨H2.length, 0, none⟩)), (18, Zd (k : Nat)), (19, Zd (j : Nat)), (58, Zd ((k + 1 : Nat) : Int)), (59, Zd (c : Nat))] _ _ ?_ (by simp (maxSteps := 2000000) only [vup, cond_true, cond_false, Nat.reduceBEq])
        clear hW
        try clear W
        refine Zk ?_
        simp (maxSteps := 2000000) only [↓Za, ↓Zb, ↓Zc, vup, cond_true, cond_false, aop, ev, sput, Zf, Yg, Yl, Nat.reduceBEq, add1 (show c < 9223372036854775807 by omega)]
        have hbj : bk' j < G.length := MG.lt hjm'
        have n7 : hp.length ≠ bk' j := fun he => by
          obtain ⟨cc, xs, e1, e2, e3⟩ := MG.row j hjm'
          rw [← he, g7] at e3; cases e3
        have n9 : H2.length ≠ bk' j := fun he => by
          obtain ⟨cc, xs, e1, e2, e3⟩ := MG.row j hjm'
          rw [← he, g9] at e3; cases e3
        refine hQb _ _ _ ⟨(c + 1, G'), ⟨by simp only; omega, MG', hEG.trans (hEG'.mono fun b hb => by rw [hb]; exact hS2 j hjm'), by simp only; rw [hk' _ n7]; exact g7, by simp only; rw [hk' _ n9]; exact g9⟩, by simp only; omega, by simp (maxSteps := 2000000) only [vup, cond_true, cond_false, Nat.reduceBEq], rfl⟩
      obtain rfl : c = k + 1 := by omega
      refine Ze fun N15 hN15 => ?_
      simp (maxSteps := 2000000) only [↓Za, ↓Zb, ↓Zc, vup, cond_true, cond_false, aop, Zg, ev, sput, Zf, Yg, Yl, Nat.reduceBEq, hcin]
      refine hN15 [(0, .slice (some ⟨B, 0, some 0⟩) m C), (1, Zd (k : Nat)), (4, .slice none 0 0), (5, .bool false), (6, Zd (j : Nat)), (7, .pointer (some ⟨hp.length, 0, none⟩)), (9, .pointer (some ⟨H2.length, 0, none⟩)), (18, Zd (k : Nat)), (19, Zd (j : Nat)), (58, Zd ((k + 1 : Nat) : Int)), (59, Zd ((k + 1 : Nat) : Int)), (60, .bool false)] _ _ ?_ (by simp (maxSteps := 2000000) only [vup, cond_true, cond_false, Nat.reduceBEq])
      clear hN15
      try clear N15
      refine Ze fun N16 hN16 => ?_
      simp (maxSteps := 2000000) only [↓Xa, ↓vdn, vup, cond_true, cond_false, Zg, ev, Nat.reduceBEq]
      refine hQb _ _ _ (hQa _ _ _ ?_)
      simp (maxSteps := 2000000) only [Zg, Zr, if_true]
      refine hX [(0, .slice (some ⟨B, 0, some 0⟩) m C), (1, Zd (k : Nat)), (4, .slice none 0 0), (5, .bool false), (6, Zd (j : Nat)), (7, .pointer (some ⟨hp.length, 0, none⟩)), (18, Zd (k : Nat)), (19, Zd (j : Nat)), (60, .bool false)] _ _ ?_ (by simp (maxSteps := 2000000) only [vup, cond_true, cond_false, Nat.reduceBEq])
      clear hX
      try clear X
      have MV : Mat G B m k w' bk' (normT j U) := MG.congr fun i d hi hd => normTo_all U hd
      clear MG g9 b9 b7 M3 M2 hE2 b7' hlen3
      obtain ⟨V, hV⟩ : ∃ V, V = normT j U := ⟨_, rfl⟩
      rw [← hV] at MV hnext tame1 d3
      have hVj : ∀ c, elimT j V j c = V j c := fun c => by simp [elimT]
      have hVi : ∀ i, i ≠ j → V i = U i := fun i hi => by rw [hV]; funext d; simp [normT, hi]
      -- the other rows are cleared
      refine Zm fun X hX => ?_
      refine Ze fun N17 hN17 => ?_
      simp (maxSteps := 2000000) only [↓Za, ↓Zb, ↓Zc, vup, List.map_cons, List.map_nil, cond_true, cond_false, aop, Zg, ev, sput, Zf, Zl, Nat.reduceBEq, tyf, lenK]
      refine hN17 [(0, .slice (some ⟨B, 0, some 0⟩) m C), (1, Zd (k : Nat)), (4, .slice none 0 0), (5, .bool false), (6, Zd (j : Nat)), (7, .pointer (some ⟨hp.length, 0, none⟩)), (18, Zd (k : Nat)), (19, Zd (j : Nat)), (60, .bool false), (78, .slice (some ⟨B, 0, some 0⟩) m C), (79, Zd (m : Nat)), (80, .int .i64 0)] _ _ ?_ (by simp (maxSteps := 2000000) only [vup, cond_true, cond_false, Nat.reduceBEq])
      clear hN17
      try clear N17
      refine Zn ?_
      refine Zs fun Qa hQa => ?_
      refine Yu (γ := Nat × Zh) (fun s => s.1 ≤ m ∧ Mat s.2 B m k w' bk' (Xr j s.1 V) ∧ Ext (Tch B m bk0) h s.2 ∧ s.2[hp.length]? = some (.cells [Zd (j : Nat)] 3 false))
        (fun s => ([(0, .slice (some ⟨B, 0, some 0⟩) m C), (1, Zd (k : Nat)), (4, .slice none 0 0), (5, .bool false), (6, Zd (j : Nat)), (7, .pointer (some ⟨hp.length, 0, none⟩)), (18, Zd (k : Nat)), (19, Zd (j : Nat)), (60, .bool false), (78, .slice (some ⟨B, 0, some 0⟩) m C), (79, Zd (m : Nat)), (80, Zd (s.1 : Nat))], s.2)) (fun s => m - s.1) (0, G) ⟨Nat.zero_le _, by simp only; rw [elimRows_zero]; exact MV, hEG, g7⟩ (by simp (maxSteps := 2000000) only [vup, cond_true, cond_false, Nat.reduceBEq, Int.natCast_zero]) rfl ?_
      rintro ⟨r, G1⟩ ⟨hr, MR, hER, r7⟩
      simp only at hr MR hER r7
      refine Zs fun Qb hQb => ?_
      simp only [l87_2]
      by_cases hrin : (r : Int) < (m : Int)
      · have hr' : r < m := by omega
        obtain ⟨er1, er2⟩ := elimRows_row j r V
        refine Ze fun N18 hN18 => ?_
        simp (maxSteps := 2000000) only [↓Za, ↓Zb, ↓Zc, vup, cond_true, cond_false, aop, Zg, ev, sput, Zf, Yg, Yl, Nat.reduceBEq, hrin]
        refine hN18 [(0, .slice (some ⟨B, 0, some 0⟩) m C), (1, Zd (k : Nat)), (4, .slice none 0 0), (5, .bool false), (6, Zd (j : Nat)), (7, .pointer (some ⟨hp.length, 0, none⟩)), (18, Zd (k : Nat)), (19, Zd (j : Nat)), (60, .bool false), (78, .slice (some ⟨B, 0, some 0⟩) m C), (79, Zd (m : Nat)), (80, Zd (r : Nat)), (81, .bool true)] _ _ ?_ (by simp (maxSteps := 2000000) only [vup, cond_true, cond_false, Nat.reduceBEq])
        clear hN18
        try clear N18
        refine Ze fun N19 hN19 => ?_
        simp (maxSteps := 2000000) only [↓Zu, ↓vdn, vup, cond_true, cond_false, Zg, ev, Nat.reduceBEq]
        refine hN19 [(0, .slice (some ⟨B, 0, some 0⟩) m C), (1, Zd (k : Nat)), (4, .slice none 0 0), (5, .bool false), (6, Zd (j : Nat)), (7, .pointer (some ⟨hp.length, 0, none⟩)), (18, Zd (k : Nat)), (19, Zd (j : Nat)), (60, .bool false), (78, .slice (some ⟨B, 0, some 0⟩) m C), (79, Zd (m : Nat)), (80, Zd (r : Nat))] _ _ ?_ (by simp (maxSteps := 2000000) only [vup, cond_true, cond_false, Nat.reduceBEq])
        clear hN19
        try clear N19
        refine Zm fun W hW => ?_
        refine Zn ?_
        refine Ze fun N20 hN20 => ?_
        simp (maxSteps := 2000000) only [↓Za, ↓Zb, ↓Zc, vup, cond_true, cond_false, aop, Zg, ev, sput, Zf, Nat.reduceBEq]
        refine hN20 [(0, .slice (some ⟨B, 0, some 0⟩) m C), (1, Zd (k : Nat)), (4, .slice none 0 0), (5, .bool false), (6, Zd (j : Nat)), (7, .pointer (some ⟨hp.length, 0, none⟩)), (11, Zd (r : Nat)), (18, Zd (k : Nat)), (19, Zd (j : Nat)), (60, .bool false), (78, .slice (some ⟨B, 0, some 0⟩) m C), (79, Zd (m : Nat)), (80, Zd (r : Nat))] _ _ ?_ (by simp (maxSteps := 2000000) only [vup, cond_true, cond_false, Nat.reduceBEq])
        clear hN20
        try clear N20
        refine Ze fun N21 hN21 => ?_
        simp only [q87_18]
        refine aw_drawE (fun _ => True) [] 7 12 [3, 4, 6] (by kernel_rfl) (by kernel_rfl) (by kernel_rfl) (by kernel_rfl) (by kernel_rfl) (by rfl) trivial ?_
        simp (maxSteps := 2000000) only [↓dopsR_nil, ↓vdn, vup, cond_true, cond_false, aop, Zg, ev, sput, Zf, Nat.reduceBEq, Nat.reduceAdd, tyf, Mat.idx r hr', MR.loadRow hr', Vd r7 Wy, MR.idxR hr' (show j ≤ k by omega), MR.loadE hr' (show j ≤ k by omega), er1, Xm, Yi]
        simp only [qV, frV, Vy (Zy G1 z0) rfl, Wf]
        obtain ⟨G2, hG2⟩ : ∃ G2, G2 = G1 ++ [fC (V r j).num (V r j).den] := ⟨_, rfl⟩
        have b12 : G2[G1.length]? = some (fC (V r j).num (V r j).den) := by rw [hG2]; exact Zy _ _
        have M2 : Mat G2 B m k w' bk' (Xr j r V) := by rw [hG2]; exact MR.ext (Ext.app _ _ _)
        have hE2 : Ext (Tch B m bk0) h G2 := by rw [hG2]; exact hER.trans (Ext.app _ _ _)
        have b7 : G2[hp.length]? = some (.cells [Zd (j : Nat)] 3 false) := by rw [hG2]; exact Xu r7 _
        rw [← hG2]
        refine hN21 [(0, .slice (some ⟨B, 0, some 0⟩) m C), (1, Zd (k : Nat)), (4, .slice none 0 0), (5, .bool false), (6, Zd (j : Nat)), (7, .pointer (some ⟨hp.length, 0, none⟩)), (11, Zd (r : Nat)), (12, .pointer (some ⟨G1.length, 0, none⟩)), (18, Zd (k : Nat)), (19, Zd (j : Nat)), (60, .bool false), (78, .slice (some ⟨B, 0, some 0⟩) m C), (79, Zd (m : Nat)), (80, Zd (r : Nat))] _ _ ?_ (by simp (maxSteps := 2000000) only [vup, cond_true, cond_false, Nat.reduceBEq])
        clear hN21
        try clear N21
        have fin : ∀ e H, Mat H B m k w' bk' (Xr j (r + 1) V) → Ext (Tch B m bk0) h H → H[hp.length]? = some (.cells [Zd (j : Nat)] 3 false) → ELe e [(0, .slice (some ⟨B, 0, some 0⟩) m C), (1, Zd (k : Nat)), (4, .slice none 0 0), (5, .bool false), (6, Zd (j : Nat)), (7, .pointer (some ⟨hp.length, 0, none⟩)), (18, Zd (k : Nat)), (19, Zd (j : Nat)), (60, .bool false), (78, .slice (some ⟨B, 0, some 0⟩) m C), (79, Zd (m : Nat)), (80, Zd (r : Nat))] → W e H := by
          intro e H f1 f2 f3 he
          refine hW _ _ _ ?_ he
          refine Zk ?_
          simp (maxSteps := 2000000) only [↓Za, ↓Zb, ↓Zc, vup, cond_true, cond_false, aop, ev, sput, Zf, Yg, Yl, Nat.reduceBEq, add1 (show r < 9223372036854775807 by omega)]
          exact hQb _ _ _ ⟨(r + 1, H), ⟨hr', f1, f2, f3⟩, by simp only; omega, by simp (maxSteps := 2000000) only [vup, cond_true, cond_false, Nat.reduceBEq], rfl⟩
        by_cases hrj : r = j
        · have hne : (((r : Nat) : Int) != ((j : Nat) : Int)) = false := by simp [hrj]
          refine Ze fun N22 hN22 => ?_
          simp (maxSteps := 2000000) only [↓Za, ↓Zb, ↓Zc, ↓vdn, vup, cond_true, cond_false, aop, Zg, ev, sput, Zf, Yg, Yl, Nat.reduceBEq, hne]
          refine hN22 [(0, .slice (some ⟨B, 0, some 0⟩) m C), (1, Zd (k : Nat)), (4, .slice none 0 0), (5, .bool false), (6, Zd (j : Nat)), (7, .pointer (some ⟨hp.length, 0, none⟩)), (11, Zd (r : Nat)), (12, .pointer (some ⟨G1.length, 0, none⟩)), (18, Zd (k : Nat)), (19, Zd (j : Nat)), (60, .bool false), (78, .slice (some ⟨B, 0, some 0⟩) m C), (79, Zd (m : Nat)), (80, Zd (r : Nat)), (97, .bool false)] _ _ ?_ (by simp (maxSteps := 2000000) only [vup, cond_true, cond_false, Nat.reduceBEq])
          clear hN22
          try clear N22
          refine Zk ?_
          simp (maxSteps := 2000000) only [↓Zu, ↓vdn, vup, cond_true, cond_false, Zg, Zr, ev, Nat.reduceBEq]
          exact fin _ _ (M2.congr fun i d _ _ => elimRows_skip V (.inl hrj) i d) hE2 b7 (by simp (maxSteps := 2000000) only [vup, cond_true, cond_false, Nat.reduceBEq])
        have hne : (((r : Nat) : Int) != ((j : Nat) : Int)) = true := by
          have : ¬ ((r : Nat) : Int) = ((j : Nat) : Int) := by omega
          simpa [bne] using this
        by_cases hf0 : V r j = 0
        · have hnz : ((V r j).num != 0) = false := by simp [hf0]
          refine Ze fun N23 hN23 => ?_
          simp (maxSteps := 2000000) only [↓Za, ↓Zb, ↓Zc, ↓vdn, vup, cond_true, cond_false, aop, Zg, ev, sput, Zf, Yg, Yl, Nat.reduceBEq, tyf, hne, fA0, loadF0 b12, hnz]
          refine hN23 [(0, .slice (some ⟨B, 0, some 0⟩) m C), (1, Zd (k : Nat)), (4, .slice none 0 0), (5, .bool false), (6, Zd (j : Nat)), (7, .pointer (some ⟨hp.length, 0, none⟩)), (11, Zd (r : Nat)), (12, .pointer (some ⟨G1.length, 0, none⟩)), (18, Zd (k : Nat)), (19, Zd (j : Nat)), (60, .bool false), (78, .slice (some ⟨B, 0, some 0⟩) m C), (79, Zd (m : Nat)), (80, Zd (r : Nat)), (97, .bool false)] _ _ ?_ (by simp (maxSteps := 2000000) only [vup, cond_true, cond_false, Nat.reduceBEq])
          clear hN23
          try clear N23
          refine Zk ?_
          simp (maxSteps := 2000000) only [↓Zu, ↓vdn, vup, cond_true, cond_false, Zg, Zr, ev, Nat.reduceBEq]
          exact fin _ _ (M2.congr fun i d _ _ => elimRows_skip V (.inr hf0) i d) hE2 b7 (by simp (maxSteps := 2000000) only [vup, cond_true, cond_false, Nat.reduceBEq])
        have hnz : ((V r j).num != 0) = true := by
          have : ¬ (V r j).num = 0 := fun hc => hf0 (Rat.num_eq_zero.1 hc)
          simpa [bne] using this
        refine Ze fun N24 hN24 => ?_
        simp (maxSteps := 2000000) only [↓Za, ↓Zb, ↓Zc, ↓vdn, vup, cond_true, cond_false, aop, Zg, ev, sput, Zf, Yg, Yl, Nat.reduceBEq, tyf, hne, fA0, loadF0 b12, hnz]
        refine hN24 [(0, .slice (some ⟨B, 0, some 0⟩) m C), (1, Zd (k : Nat)), (4, .slice none 0 0), (5, .bool false), (6, Zd (j : Nat)), (7, .pointer (some ⟨hp.length, 0, none⟩)), (11, Zd (r : Nat)), (12, .pointer (some ⟨G1.length, 0, none⟩)), (18, Zd (k : Nat)), (19, Zd (j : Nat)), (60, .bool false), (78, .slice (some ⟨B, 0, some 0⟩) m C), (79, Zd (m : Nat)), (80, Zd (r : Nat)), (97, .bool true)] _ _ ?_ (by simp (maxSteps := 2000000) only [vup, cond_true, cond_false, Nat.reduceBEq])
        clear hN24
        try clear N24
        refine Xl rfl ?_
        obtain ⟨D0, z1, z2, z3⟩ := tameU
        obtain ⟨x1, y1, y2⟩ := z3 r j hr' (by omega)
        rw [← hVi r hrj] at y1
        refine Ze fun N25 hN25 => ?_
        simp (maxSteps := 2000000) only [↓Za, ↓Zb, ↓Zc, vup, List.map_cons, List.map_nil, cond_true, cond_false, aop, Zg, ev, sput, Zf, Zl, Nat.reduceBEq, tyf, Mat.idx r hr', M2.loadRow hr', M2.lenR hr']
        refine hN25 [(0, .slice (some ⟨B, 0, some 0⟩) m C), (1, Zd (k : Nat)), (4, .slice none 0 0), (5, .bool false), (6, Zd (j : Nat)), (7, .pointer (some ⟨hp.length, 0, none⟩)), (11, Zd (r : Nat)), (12, .pointer (some ⟨G1.length, 0, none⟩)), (18, Zd (k : Nat)), (19, Zd (j : Nat)), (60, .bool false), (78, .slice (some ⟨B, 0, some 0⟩) m C), (79, Zd (m : Nat)), (80, Zd (r : Nat)), (102, Zd ((k + 1 : Nat) : Int)), (103, .int .i64 0)] _ _ ?_ (by simp (maxSteps := 2000000) only [vup, cond_true, cond_false, Nat.reduceBEq])
        clear hN25
        try clear N25
        refine Zn ?_
        refine Zs fun Qc hQc => ?_
        refine Yu (γ := Nat × Zh) (fun s => s.1 ≤ k + 1 ∧ Mat s.2 B m k w' bk' (elimTo j r s.1 (Xr j r V)) ∧ Ext (Tch B m bk0) h s.2 ∧ s.2[hp.length]? = some (.cells [Zd (j : Nat)] 3 false) ∧ s.2[G1.length]? = some (fC (V r j).num (V r j).den))
          (fun s => ([(0, .slice (some ⟨B, 0, some 0⟩) m C), (1, Zd (k : Nat)), (4, .slice none 0 0), (5, .bool false), (6, Zd (j : Nat)), (7, .pointer (some ⟨hp.length, 0, none⟩)), (11, Zd (r : Nat)), (12, .pointer (some ⟨G1.length, 0, none⟩)), (18, Zd (k : Nat)), (19, Zd (j : Nat)), (60, .bool false), (78, .slice (some ⟨B, 0, some 0⟩) m C), (79, Zd (m : Nat)), (80, Zd (r : Nat)), (102, Zd ((k + 1 : Nat) : Int)), (103, Zd (s.1 : Nat))], s.2)) (fun s => k + 1 - s.1) (0, G2) ⟨Nat.zero_le _, by simp only; rw [elimTo_zero]; exact M2, hE2, b7, b12⟩ (by simp (maxSteps := 2000000) only [vup, cond_true, cond_false, Nat.reduceBEq, Int.natCast_zero]) rfl ?_
        rintro ⟨c, G⟩ ⟨hc, MG, hEG, g7, g12⟩
        simp only at hc MG hEG g7 g12
        refine Zs fun Qd hQd => ?_
        simp only [l87_1]
        by_cases hcin : (c : Int) < ((k + 1 : Nat) : Int)
        · have hc' : c ≤ k := by omega
          obtain ⟨x0, y3, y4⟩ := z3 r c hr' hc'
          obtain ⟨x2, y5, y6⟩ := d3 j c hjm' hc'
          rw [hVj] at y5
          rw [← hVi r hrj] at y3
          obtain ⟨cl1, cl2⟩ := clear_fits y3 y1 y5 z2 d2 y4 y2 y6 G
          have e1 : elimTo j r c (Xr j r V) r c = V r c := by rw [elimTo_at, er1]
          have e2 : elimTo j r c (Xr j r V) j c = V j c := by rw [elimTo_other _ (Ne.symm hrj), er2]
          obtain ⟨G', st, MG', hEG', hk'⟩ := MG.storeE hr' hc' (V r c - V r j * V j c)
          have e3 := elimTo_succ j r c (Xr j r V)
          rw [er1, er2] at e3
          rw [e3] at MG'
          refine Ze fun N26 hN26 => ?_
          simp (maxSteps := 2000000) only [↓Za, ↓Zb, ↓Zc, vup, cond_true, cond_false, aop, Zg, ev, sput, Zf, Yg, Yl, Nat.reduceBEq, hcin]
          refine hN26 [(0, .slice (some ⟨B, 0, some 0⟩) m C), (1, Zd (k : Nat)), (4, .slice none 0 0), (5, .bool false), (6, Zd (j : Nat)), (7, .pointer (some ⟨hp.length, 0, none⟩)), (11, Zd (r : Nat)), (12, .pointer (some ⟨G1.length, 0, none⟩)), (18, Zd (k : Nat)), (19, Zd (j : Nat)), (60, .bool false), (78, .slice (some ⟨B, 0, some 0⟩) m C), (79, Zd (m : Nat)), (80, Zd (r : Nat)), (102, Zd ((k + 1 : Nat) : Int)), (103, Zd (c : Nat)), (104, .bool true)] _ _ ?_ (by simp (maxSteps := 2000000) only [vup, cond_true, cond_false, Nat.reduceBEq])
          clear hN26
          try clear N26
          refine Ze fun N27 hN27 => ?_
          simp (maxSteps := 2000000) only [↓Zu, ↓vdn, vup, cond_true, cond_false, Zg, ev, Nat.reduceBEq]
          refine hN27 [(0, .slice (some ⟨B, 0, some 0⟩) m C), (1, Zd (k : Nat)), (4, .slice none 0 0), (5, .bool false), (6, Zd (j : Nat)), (7, .pointer (some ⟨hp.length, 0, none⟩)), (11, Zd (r : Nat)), (12, .pointer (some ⟨G1.length, 0, none⟩)), (18, Zd (k : Nat)), (19, Zd (j : Nat)), (60, .bool false), (78, .slice (some ⟨B, 0, some 0⟩) m C), (79, Zd (m : Nat)), (80, Zd (r : Nat)), (102, Zd ((k + 1 : Nat) : Int)), (103, Zd (c : Nat))] _ _ ?_ (by simp (maxSteps := 2000000) only [vup, cond_true, cond_false, Nat.reduceBEq])
          clear hN27
          try clear N27
          refine Zm fun U hU => ?_
          refine Zn ?_
          refine Ze fun N28 hN28 => ?_
          simp (maxSteps := 2000000) only [↓Za, ↓Zb, ↓Zc, vup, cond_true, cond_false, aop, Zg, ev, sput, Zf, Nat.reduceBEq]
          refine hN28 [(0, .slice (some ⟨B, 0, some 0⟩) m C), (1, Zd (k : Nat)), (4, .slice none 0 0), (5, .bool false), (6, Zd (j : Nat)), (7, .pointer (some ⟨hp.length, 0, none⟩)), (11, Zd (r : Nat)), (12, .pointer (some ⟨G1.length, 0, none⟩)), (13, Zd (c : Nat)), (18, Zd (k : Nat)), (19, Zd (j : Nat)), (60, .bool false), (78, .slice (some ⟨B, 0, some 0⟩) m C), (79, Zd (m : Nat)), (80, Zd (r : Nat)), (102, Zd ((k + 1 : Nat) : Int)), (103, Zd (c : Nat))] _ _ ?_ (by simp (maxSteps := 2000000) only [vup, cond_true, cond_false, Nat.reduceBEq])
          clear hN28
          try clear N28
          refine Zk ?_
          simp only [q87_23]
          refine Xv [(20, 1), (21, 1)] (by kernel_rfl) (by kernel_rfl) (by kernel_rfl) (by kernel_rfl) ?_
          simp (maxSteps := 2000000) only [↓Yr, ↓vdn, vup, List.map_cons, List.map_nil, cond_true, cond_false, aop, Zg, Zr, ev, sput, Zf, Nat.reduceBEq, Nat.reduceAdd, Mat.idx r hr', MG.loadRow hr', MG.idxR hr' hc', MG.loadE hr' hc', e1, loadF g12, Mat.idx j hjm', MG.loadRow hjm', MG.idxR hjm' hc', MG.loadE hjm' hc', e2, Yv, List.nil_append, List.append_nil]
          refine ⟨_, _, cl1, rfl, _, _, cl2, rfl, ?_⟩
          simp (maxSteps := 2000000) only [st]
          refine hU [(0, .slice (some ⟨B, 0, some 0⟩) m C), (1, Zd (k : Nat)), (4, .slice none 0 0), (5, .bool false), (6, Zd (j : Nat)), (7, .pointer (some ⟨hp.length, 0, none⟩)), (11, Zd (r : Nat)), (12, .pointer (some ⟨G1.length, 0, none⟩)), (18, Zd (k : Nat)), (19, Zd (j : Nat)), (60, .bool false), (78, .slice (some ⟨B, 0, some 0⟩) m C), (79, Zd (m : Nat)), (80, Zd (r : Nat)), (102, Zd ((k + 1 : Nat) : Int)), (103, Zd (c : Nat))] _ _ ?_ (by simp (maxSteps := 2000000) only [vup, cond_true, cond_false, Nat.reduceBEq])
          clear hU
          try clear U
          refine Zk ?_
          simp (maxSteps := 2000000) only [↓Za, ↓Zb, ↓Zc, vup, cond_true, cond_false, aop, ev, sput, Zf, Yg, Yl, Nat.reduceBEq, add1 (show c < 9223372036854775807 by omega)]
          have n7 : hp.length ≠ bk' r := fun he => by
            obtain ⟨cc, xs, e1, e2, e3⟩ := MG.row r hr'
            rw [← he, g7] at e3; cases e3
          have n12 : G1.length ≠ bk' r := fun he => by
            obtain ⟨cc, xs, e1, e2, e3⟩ := MG.row r hr'
            rw [← he, g12] at e3; cases e3
          refine hQd _ _ _ ⟨(c + 1, G'), ⟨by simp only; omega, MG', hEG.trans (hEG'.mono fun b hb => by rw [hb]; exact hS2 r hr'), by simp only; rw [hk' _ n7]; exact g7, by simp only; rw [hk' _ n12]; exact g12⟩, by simp only; omega, by simp (maxSteps := 2000000) only [vup, cond_true, cond_false, Nat.reduceBEq], rfl⟩
        obtain rfl : c = k + 1 := by omega
        refine Ze fun N29 hN29 => ?_
        simp (maxSteps := 2000000) only [↓Za, ↓Zb, ↓Zc, vup, cond_true, cond_false, aop, Zg, ev, sput, Zf, Yg, Yl, Nat.reduceBEq, hcin]
        refine hN29 [(0, .slice (some ⟨B, 0, some 0⟩) m C), (1, Zd (k : Nat)), (4, .slice none 0 0), (5, .bool false), (6, Zd (j : Nat)), (7, .pointer (some ⟨hp.length, 0, none⟩)), (11, Zd (r : Nat)), (12, .pointer (some ⟨G1.length, 0, none⟩)), (18, Zd (k : Nat)), (19, Zd (j : Nat)), (60, .bool false), (78, .slice (some ⟨B, 0, some 0⟩) m C), (79, Zd (m : Nat)), (80, Zd (r : Nat)), (102, Zd ((k + 1 : Nat) : Int)), (103, Zd ((k + 1 : Nat) : Int)), (104, .bool false)] _ _ ?_ (by simp (maxSteps := 2000000) only [vup, cond_true, cond_false, Nat.reduceBEq])
        clear hN29
        try clear N29
        refine Ze fun N30 hN30 => ?_
        simp (maxSteps := 2000000) only [↓Xa, ↓vdn, vup, cond_true, cond_false, Zg, ev, Nat.reduceBEq]
        refine hQd _ _ _ (hQc _ _ _ ?_)
        simp (maxSteps := 2000000) only [Zg, Zr, if_true]
        exact fin _ _ (MG.congr fun i d _ hd => elimRows_next V hrj hd) hEG g7 (by simp (maxSteps := 2000000) only [vup, cond_true, cond_false, Nat.reduceBEq])
      have hrm : m = r := by omega
      subst hrm
      refine Ze fun N31 hN31 => ?_
      simp (maxSteps := 2000000) only [↓Za, ↓Zb, ↓Zc, vup, cond_true, cond_false, aop, Zg, ev, sput, Zf, Yg, Yl, Nat.reduceBEq, hrin]
      refine hN31 [(0, .slice (some ⟨B, 0, some 0⟩) m C), (1, Zd (k : Nat)), (4, .slice none 0 0), (5, .bool false), (6, Zd (j : Nat)), (7, .pointer (some ⟨hp.length, 0, none⟩)), (18, Zd (k : Nat)), (19, Zd (j : Nat)), (60, .bool false), (78, .slice (some ⟨B, 0, some 0⟩) m C), (79, Zd (m : Nat)), (80, Zd (m : Nat)), (81, .bool false)] _ _ ?_ (by simp (maxSteps := 2000000) only [vup, cond_true, cond_false, Nat.reduceBEq])
      clear hN31
      try clear N31
      refine Ze fun N32 hN32 => ?_
      simp (maxSteps := 2000000) only [↓Xa, ↓vdn, vup, cond_true, cond_false, Zg, ev, Nat.reduceBEq]
      refine hQb _ _ _ (hQa _ _ _ ?_)
      simp (maxSteps := 2000000) only [Zg, Zr, if_true]
      refine hX [(0, .slice (some ⟨B, 0, some 0⟩) m C), (1, Zd (k : Nat)), (4, .slice none 0 0), (5, .bool false), (6, Zd (j : Nat)), (7, .pointer (some ⟨hp.length, 0, none⟩)), (18, Zd (k : Nat)), (19, Zd (j : Nat)), (81, .bool false)] _ _ ?_ (by simp (maxSteps := 2000000) only [vup, cond_true, cond_false, Nat.reduceBEq])
      clear hX
      try clear X
      have MT : Mat G1 B m k w' bk' (elimT j V) := MR.congr fun i d hi _ => elimRows_all V hi
      refine Ze fun N33 hN33 => ?_
      simp (maxSteps := 2000000) only [↓Za, ↓Zb, ↓Zc, vup, cond_true, cond_false, aop, Zg, ev, sput, Zf, Yg, Yl, Nat.reduceBEq, add1 (show j < 9223372036854775807 by omega)]
      refine hN33 [(0, .slice (some ⟨B, 0, some 0⟩) m C), (1, Zd (k : Nat)), (4, .slice none 0 0), (5, .bool false), (6, Zd ((j + 1 : Nat) : Int)), (7, .pointer (some ⟨hp.length, 0, none⟩)), (18, Zd (k : Nat)), (19, Zd (j : Nat)), (81, .bool false)] _ _ ?_ (by simp (maxSteps := 2000000) only [vup, cond_true, cond_false, Nat.reduceBEq])
      clear hN33
      try clear N33
      have goOn : (j + 1 < k → j + 1 < m) → ∀ e, ELe e [(0, .slice (some ⟨B, 0, some 0⟩) m C), (1, Zd (k : Nat)), (4, .slice none 0 0), (5, .bool false), (6, Zd ((j + 1 : Nat) : Int)), (18, Zd (k : Nat)), (19, Zd (j : Nat)), (81, .bool false)] → Y e G1 := by
        intro hlt e he
        refine hY _ _ _ ?_ he
        refine Zk ?_
        simp (maxSteps := 2000000) only [↓Za, ↓Zb, ↓Zc, vup, cond_true, cond_false, aop, ev, sput, Zf, Yg, Yl, Nat.reduceBEq, add1 (show j < 9223372036854775807 by omega)]
        exact hQ2 _ _ _ ⟨(j + 1, G1, w', bk', elimT j V), ⟨hjk, hjm', hlt, hnext, MT, hER, hS2⟩, by simp only; omega, by simp (maxSteps := 2000000) only [vup, cond_true, cond_false, Nat.reduceBEq], rfl⟩
      by_cases hjm2 : j + 1 = m
      · have h1 : (((j + 1 : Nat) : Int) == ((m : Nat) : Int)) = true := by simp [hjm2]
        by_cases hjk2 : j + 1 < k
        · have h2 : (((j + 1 : Nat) : Int) < ((k : Nat) : Int)) := by omega
          refine Ze fun N34 hN34 => ?_
          simp (maxSteps := 2000000) only [↓Za, ↓Zb, ↓Zc, ↓vdn, vup, List.map_cons, List.map_nil, cond_true, cond_false, aop, Zg, ev, sput, Zf, Yg, Yl, Zl, Nat.reduceBEq, tyf, lenK, h1, Vd r7 Wy, add1 (show j < 9223372036854775807 by omega), h2]
          refine hN34 [(0, .slice (some ⟨B, 0, some 0⟩) m C), (1, Zd (k : Nat)), (4, .slice none 0 0), (5, .bool false), (6, Zd ((j + 1 : Nat) : Int)), (7, .pointer (some ⟨hp.length, 0, none⟩)), (18, Zd (k : Nat)), (19, Zd (j : Nat)), (81, .bool false), (142, .bool true)] _ _ ?_ (by simp (maxSteps := 2000000) only [vup, cond_true, cond_false, Nat.reduceBEq])
          clear hN34
          try clear N34
          refine Zk ?_
          simp (maxSteps := 2000000) only [↓Za, ↓Zw, ↓Zz, ↓Zb, ↓Zc, ↓vdn, vup, cond_true, cond_false, aop, Zg, Zr, ev, sput, Zf, Nat.reduceBEq]
          refine hQ2 _ _ _ (hQ _ _ _ ?_)
          simp (maxSteps := 2000000) only [vup, cond_true, cond_false, Zg, Zr, Nat.reduceBEq, Zv, Xw, tup]
          have hs : Wc m k T0 = none := by
            have hfn : findP m (j + 1) (elimT j V) = none := by
              rw [findP]
              refine find_none fun i hi => ?_
              simp; omega
            have : ∀ d, Xd m T0 (j + 2 + d) = none := by
              intro d
              induction d with
              | zero =>
                show (Xd m T0 (j + 1)).bind (Wp m (j + 1)) = none
                rw [hnext]
                show Wp m (j + 1) _ = none
                rw [Wp, hfn]; rfl
              | succ d ih => rw [← Nat.add_assoc, Xd, ih]; rfl
            rw [Wc, show k = j + 2 + (k - (j + 2)) by omega, this]; rfl
          rw [hs]
          exact ⟨hER, _, _, rfl, rfl, rfl⟩
        · have h2 : ¬ (((j + 1 : Nat) : Int) < ((k : Nat) : Int)) := by omega
          refine Ze fun N35 hN35 => ?_
          simp (maxSteps := 2000000) only [↓Za, ↓Zb, ↓Zc, ↓vdn, vup, List.map_cons, List.map_nil, cond_true, cond_false, aop, Zg, ev, sput, Zf, Yg, Yl, Zl, Nat.reduceBEq, tyf, lenK, h1, Vd r7 Wy, add1 (show j < 9223372036854775807 by omega), h2]
          refine hN35 [(0, .slice (some ⟨B, 0, some 0⟩) m C), (1, Zd (k : Nat)), (4, .slice none 0 0), (5, .bool false), (6, Zd ((j + 1 : Nat) : Int)), (7, .pointer (some ⟨hp.length, 0, none⟩)), (18, Zd (k : Nat)), (19, Zd (j : Nat)), (81, .bool false), (142, .bool false)] _ _ ?_ (by simp (maxSteps := 2000000) only [vup, cond_true, cond_false, Nat.reduceBEq])
          clear hN35
          try clear N35
          refine Zk ?_
          simp (maxSteps := 2000000) only [↓Zu, ↓vdn, vup, cond_true, cond_false, Zg, Zr, ev, Nat.reduceBEq]
          exact goOn (fun h => absurd h hjk2) _ (by simp (maxSteps := 2000000) only [vup, cond_true, cond_false, Nat.reduceBEq])
      · have h1 : (((j + 1 : Nat) : Int) == ((m : Nat) : Int)) = false := by
          have : ¬ ((j + 1 : Nat) : Int) = ((m : Nat) : Int) := by omega
          simpa using this
        refine Ze fun N36 hN36 => ?_
        simp (maxSteps := 2000000) only [↓Za, ↓Zb, ↓Zc, ↓vdn, vup, List.map_cons, List.map_nil, cond_true, cond_false, aop, Zg, ev, sput, Zf, Yg, Yl, Zl, Nat.reduceBEq, tyf, lenK, h1]
        refine hN36 [(0, .slice (some ⟨B, 0, some 0⟩) m C), (1, Zd (k : Nat)), (4, .slice none 0 0), (5, .bool false), (6, Zd ((j + 1 : Nat) : Int)), (7, .pointer (some ⟨hp.length, 0, none⟩)), (18, Zd (k : Nat)), (19, Zd (j : Nat)), (81, .bool false), (142, .bool false)] _ _ ?_ (by simp (maxSteps := 2000000) only [vup, cond_true, cond_false, Nat.reduceBEq])
        clear hN36
        try clear N36
        refine Zk ?_
        simp (maxSteps := 2000000) only [↓Zu, ↓vdn, vup, cond_true, cond_false, Zg, Zr, ev, Nat.reduceBEq]
        exact goOn (fun h => by omega) _ (by simp (maxSteps := 2000000) only [vup, cond_true, cond_false, Nat.reduceBEq])
  · have hjk : k = j := by omega
    subst hjk
    have hEl := hE.1
    refine Ze fun N37 hN37 => ?_
    simp (maxSteps := 2000000) only [↓Za, ↓Zb, ↓Zc, vup, cond_true, cond_false, aop, Zg, ev, sput, Zf, Yg, Yl, Nat.reduceBEq, hin]
    refine hN37 [(0, .slice (some ⟨B, 0, some 0⟩) m C), (1, Zd (k : Nat)), (4, .slice none 0 0), (5, .bool false), (6, Zd (k : Nat)), (18, Zd (k : Nat)), (19, Zd (k : Nat)), (20, .bool false)] _ _ ?_ (by simp (maxSteps := 2000000) only [vup, cond_true, cond_false, Nat.reduceBEq])
    clear hN37
    try clear N37
    refine Ze fun N38 hN38 => ?_
    simp (maxSteps := 2000000) only [↓Xa, ↓vdn, vup, cond_true, cond_false, Zg, ev, Nat.reduceBEq]
    refine hQ2 _ _ _ (hQ _ _ _ ?_)
    simp (maxSteps := 2000000) only [Zg, Zr, Zv, if_true]
    refine hZ [(0, .slice (some ⟨B, 0, some 0⟩) m C), (1, Zd (k : Nat)), (4, .slice none 0 0), (5, .bool false), (6, Zd (k : Nat)), (20, .bool false)] _ _ ?_ (by simp (maxSteps := 2000000) only [vup, cond_true, cond_false, Nat.reduceBEq])
    clear hZ
    try clear Z
    have hrest : ∀ S, Xd m T0 k = some S → Wc m k T0 = if restT m k S then none else some ((List.range k).map fun i => S i k) := fun S hS => by rw [Wc, hS]; rfl
    have hsol := hrest T hrun
    -- what is left
    refine Zm fun Y hY => ?_
    refine Ze fun N39 hN39 => ?_
    simp (maxSteps := 2000000) only [↓Za, ↓Zb, ↓Zc, vup, List.map_cons, List.map_nil, cond_true, cond_false, aop, Zg, ev, sput, Zf, Zl, Nat.reduceBEq, tyf, Option.map_some, Option.map_none]
    refine M.tail2 hjm hm1 hC fun v hlen hidx hload => ?_
    simp (maxSteps := 2000000) only [hlen]
    refine hN39 [(0, .slice (some ⟨B, 0, some 0⟩) m C), (1, Zd (k : Nat)), (4, .slice none 0 0), (5, .bool false), (6, Zd (k : Nat)), (20, .bool false), (146, v), (147, Zd ((m - k : Nat) : Int)), (148, .int .i64 0)] _ _ ?_ (by simp (maxSteps := 2000000) only [vup, cond_true, cond_false, Nat.reduceBEq])
    clear hN39
    try clear N39
    refine Zn ?_
    refine Zs fun Qa hQa => ?_
    refine Yu (γ := Nat) (fun r => r ≤ m - k ∧ ∀ i, i < r → T (k + i) k = 0)
      (fun r => ([(0, .slice (some ⟨B, 0, some 0⟩) m C), (1, Zd (k : Nat)), (4, .slice none 0 0), (5, .bool false), (6, Zd (k : Nat)), (20, .bool false), (146, v), (147, Zd ((m - k : Nat) : Int)), (148, Zd (r : Nat))], hp)) (fun r => m - k - r) 0 ⟨Nat.zero_le _, fun i hi => by omega⟩ (by simp (maxSteps := 2000000) only [vup, cond_true, cond_false, Nat.reduceBEq, Int.natCast_zero]) rfl ?_
    rintro r ⟨hr, hzero⟩
    refine Zs fun Qb hQb => ?_
    simp only [l87_4]
    by_cases hrin : (r : Int) < ((m - k : Nat) : Int)
    · have hr' : r < m - k := by omega
      refine Ze fun N40 hN40 => ?_
      simp (maxSteps := 2000000) only [↓Za, ↓Zb, ↓Zc, vup, cond_true, cond_false, aop, Zg, ev, sput, Zf, Yg, Yl, Nat.reduceBEq, hrin]
      refine hN40 [(0, .slice (some ⟨B, 0, some 0⟩) m C), (1, Zd (k : Nat)), (4, .slice none 0 0), (5, .bool false), (6, Zd (k : Nat)), (20, .bool false), (146, v), (147, Zd ((m - k : Nat) : Int)), (148, Zd (r : Nat)), (149, .bool true)] _ _ ?_ (by simp (maxSteps := 2000000) only [vup, cond_true, cond_false, Nat.reduceBEq])
      clear hN40
      try clear N40
      refine Ze fun N41 hN41 => ?_
      simp (maxSteps := 2000000) only [↓Zu, ↓vdn, vup, cond_true, cond_false, Zg, ev, Nat.reduceBEq]
      refine hN41 [(0, .slice (some ⟨B, 0, some 0⟩) m C), (1, Zd (k : Nat)), (4, .slice none 0 0), (5, .bool false), (6, Zd (k : Nat)), (20, .bool false), (146, v), (147, Zd ((m - k : Nat) : Int)), (148, Zd (r : Nat))] _ _ ?_ (by simp (maxSteps := 2000000) only [vup, cond_true, cond_false, Nat.reduceBEq])
      clear hN41
      try clear N41
      refine Zm fun W hW => ?_
      refine Zn ?_
      refine Ze fun N42 hN42 => ?_
      simp (maxSteps := 2000000) only [↓Za, ↓Zb, ↓Zc, vup, cond_true, cond_false, aop, Zg, ev, sput, Zf, Nat.reduceBEq, hidx r hr', hload r hr']
      refine hN42 [(0, .slice (some ⟨B, 0, some 0⟩) m C), (1, Zd (k : Nat)), (4, .slice none 0 0), (5, .bool false), (6, Zd (k : Nat)), (15, w (k + r)), (20, .bool false), (146, v), (147, Zd ((m - k : Nat) : Int)), (148, Zd (r : Nat))] _ _ ?_ (by simp (maxSteps := 2000000) only [vup, cond_true, cond_false, Nat.reduceBEq])
      clear hN42
      try clear N42
      refine Zk ?_
      by_cases hnz : T (k + r) k = 0
      · have hn : ((T (k + r) k).num != 0) = false := by simp [hnz]
        simp (maxSteps := 2000000) only [↓Za, ↓Zu, ↓Zw, ↓Zz, ↓Zb, ↓Zc, ↓vdn, vup, cond_true, cond_false, aop, Zg, Zr, ev, sput, Zf, Yg, Yl, Nat.reduceBEq, tyf, M.idxR (show k + r < m by omega) (Nat.le_refl k), fA0o, M.loadN (show k + r < m by omega) (Nat.le_refl k), hn]
        refine hW [(0, .slice (some ⟨B, 0, some 0⟩) m C), (1, Zd (k : Nat)), (4, .slice none 0 0), (5, .bool false), (6, Zd (k : Nat)), (20, .bool false), (146, v), (147, Zd ((m - k : Nat) : Int)), (148, Zd (r : Nat))] _ _ ?_ (by simp (maxSteps := 2000000) only [vup, cond_true, cond_false, Nat.reduceBEq])
        clear hW
        try clear W
        refine Zk ?_
        simp (maxSteps := 2000000) only [↓Za, ↓Zb, ↓Zc, vup, cond_true, cond_false, aop, ev, sput, Zf, Yg, Yl, Nat.reduceBEq, add1 (show r < 9223372036854775807 by omega)]
        refine hQb _ _ _ ⟨r + 1, ⟨hr', fun i hi => ?_⟩, by omega, by simp (maxSteps := 2000000) only [vup, cond_true, cond_false, Nat.reduceBEq], rfl⟩
        rcases Nat.lt_or_ge i r with h1 | h1
        · exact hzero i h1
        · rw [show i = r by omega]; exact hnz
      · have hn : ((T (k + r) k).num != 0) = true := by
          have : ¬ (T (k + r) k).num = 0 := fun hc => hnz (Rat.num_eq_zero.1 hc)
          simpa [bne] using this
        simp (maxSteps := 2000000) only [↓Za, ↓Zu, ↓Zw, ↓Zz, ↓Zb, ↓Zc, ↓vdn, vup, cond_true, cond_false, aop, Zg, Zr, ev, sput, Zf, Yg, Yl, Nat.reduceBEq, tyf, M.idxR (show k + r < m by omega) (Nat.le_refl k), fA0o, M.loadN (show k + r < m by omega) (Nat.le_refl k), hn]
        refine hQb _ _ _ (hQa _ _ _ ?_)
        simp (maxSteps := 2000000) only [vup, cond_true, cond_false, Zg, Zr, Nat.reduceBEq, Zv, Xw, tup]
        have hrt : restT m k T = true := by
          rw [restT, List.any_eq_true]
          exact ⟨k + r, List.mem_range.2 (by omega), by simp [hnz]⟩
        rw [hsol, hrt]
        exact ⟨hE, _, _, rfl, rfl, rfl⟩
    have hrm : r = m - k := by omega
    have hrt : restT m k T = false := by
      rw [restT, List.any_eq_false]
      intro i hi
      have hi' := List.mem_range.1 hi
      simp only [Bool.and_eq_true, decide_eq_true_eq, not_and, Decidable.not_not]
      intro hki
      have := hzero (i - k) (by omega)
      rwa [show k + (i - k) = i by omega] at this
    rw [hrt, if_neg (by decide)] at hsol
    refine Ze fun N43 hN43 => ?_
    simp (maxSteps := 2000000) only [↓Za, ↓Zb, ↓Zc, vup, cond_true, cond_false, aop, Zg, ev, sput, Zf, Yg, Yl, Nat.reduceBEq, hrin]
    refine hN43 [(0, .slice (some ⟨B, 0, some 0⟩) m C), (1, Zd (k : Nat)), (4, .slice none 0 0), (5, .bool false), (6, Zd (k : Nat)), (20, .bool false), (146, v), (147, Zd ((m - k : Nat) : Int)), (148, Zd (r : Nat)), (149, .bool false)] _ _ ?_ (by simp (maxSteps := 2000000) only [vup, cond_true, cond_false, Nat.reduceBEq])
    clear hN43
    try clear N43
    refine Ze fun N44 hN44 => ?_
    simp (maxSteps := 2000000) only [↓Xa, ↓vdn, vup, cond_true, cond_false, Zg, ev, Nat.reduceBEq]
    refine hQb _ _ _ (hQa _ _ _ ?_)
    simp (maxSteps := 2000000) only [Zg, Zr, Zv, if_true]
    refine hY [(0, .slice (some ⟨B, 0, some 0⟩) m C), (1, Zd (k : Nat)), (4, .slice none 0 0), (5, .bool false), (6, Zd (k : Nat)), (20, .bool false), (149, .bool false)] _ _ ?_ (by simp (maxSteps := 2000000) only [vup, cond_true, cond_false, Nat.reduceBEq])
    clear hY
    try clear Y
    -- the solution
    have hsl : ∀ K : Value → Prop, K (.slice (some ⟨B, 0, some 0⟩) k C) → Xj prog 103 (.slice (some ⟨B, 0, some 0⟩) m C) none (some (Zd (k : Nat))) none K := fun K hK => by
      simp only [Xj, el_103, esz_47, bnd]
      exact ⟨by omega, by omega, by omega, fun h0 => by simp at h0, fun _ => .inl ⟨rfl, by simpa using hK⟩⟩
    refine Zm fun Y hY => ?_
    refine Ze fun N45 hN45 => ?_
    simp (maxSteps := 2000000) only [↓Za, ↓Zb, ↓Zc, vup, List.map_cons, List.map_nil, cond_true, cond_false, aop, Zg, ev, sput, Zf, Zl, Nat.reduceBEq, tyf, Option.map_some, Option.map_none]
    refine hsl _ ?_
    simp (maxSteps := 2000000) only [lenK]
    refine hN45 [(0, .slice (some ⟨B, 0, some 0⟩) m C), (1, Zd (k : Nat)), (4, .slice none 0 0), (5, .bool false), (6, Zd (k : Nat)), (20, .bool false), (149, .bool false), (161, .slice (some ⟨B, 0, some 0⟩) k C), (162, Zd (k : Nat)), (163, .int .i64 0)] _ _ ?_ (by simp (maxSteps := 2000000) only [vup, cond_true, cond_false, Nat.reduceBEq])
    clear hN45
    try clear N45
    refine Zn ?_
    refine Zs fun Qa hQa => ?_
    refine Yu (γ := Nat × Value × Zh) (fun s => s.1 ≤ k ∧ OwnP 26 s.2.2 s.2.1 ((List.range s.1).map fun i => ofQ (T i k)) ∧ Ext (fun _ => False) hp s.2.2 ∧ ∀ b, Yf s.2.1 = some b → hp.length ≤ b)
      (fun s => ([(0, .slice (some ⟨B, 0, some 0⟩) m C), (1, Zd (k : Nat)), (4, s.2.1), (5, .bool false), (6, Zd (k : Nat)), (20, .bool false), (149, .bool false), (161, .slice (some ⟨B, 0, some 0⟩) k C), (162, Zd (k : Nat)), (163, Zd (s.1 : Nat))], s.2.2)) (fun s => k - s.1) (0, .slice none 0 0, hp) ⟨Nat.zero_le _, .inl ⟨rfl, rfl⟩, Ext.refl _ _, fun b hb => by cases hb⟩ (by simp (maxSteps := 2000000) only [vup, cond_true, cond_false, Nat.reduceBEq, Int.natCast_zero]) rfl ?_
    rintro ⟨r, x, G⟩ ⟨hr, ho, hEG, hbx⟩
    simp only at hr ho hEG hbx
    refine Zs fun Qb hQb => ?_
    simp only [l87_5]
    by_cases hrin : (r : Int) < (k : Int)
    · have hr' : r < k := by omega
      have MG := M.ext hEG
      refine Ze fun N46 hN46 => ?_
      simp (maxSteps := 2000000) only [↓Za, ↓Zb, ↓Zc, vup, cond_true, cond_false, aop, Zg, ev, sput, Zf, Yg, Yl, Nat.reduceBEq, hrin]
      refine hN46 [(0, .slice (some ⟨B, 0, some 0⟩) m C), (1, Zd (k : Nat)), (4, x), (5, .bool false), (6, Zd (k : Nat)), (20, .bool false), (149, .bool false), (161, .slice (some ⟨B, 0, some 0⟩) k C), (162, Zd (k : Nat)), (163, Zd (r : Nat)), (164, .bool true)] _ _ ?_ (by simp (maxSteps := 2000000) only [vup, cond_true, cond_false, Nat.reduceBEq])
      clear hN46
      try clear N46
      refine Ze fun N47 hN47 => ?_
      simp (maxSteps := 2000000) only [↓Zu, ↓vdn, vup, cond_true, cond_false, Zg, ev, Nat.reduceBEq]
      refine hN47 [(0, .slice (some ⟨B, 0, some 0⟩) m C), (1, Zd (k : Nat)), (4, x), (5, .bool false), (6, Zd (k : Nat)), (20, .bool false), (149, .bool false), (161, .slice (some ⟨B, 0, some 0⟩) k C), (162, Zd (k : Nat)), (163, Zd (r : Nat))] _ _ ?_ (by simp (maxSteps := 2000000) only [vup, cond_true, cond_false, Nat.reduceBEq])
      clear hN47
      try clear N47
      refine Zm fun W hW => ?_
      refine Zn ?_
      refine Ze fun N48 hN48 => ?_
      simp (maxSteps := 2000000) only [↓Za, ↓Zb, ↓Zc, vup, cond_true, cond_false, aop, Zg, ev, sput, Zf, Nat.reduceBEq, Mat.idx r hr', MG.loadRow (show r < m by omega)]
      refine hN48 [(0, .slice (some ⟨B, 0, some 0⟩) m C), (1, Zd (k : Nat)), (4, x), (5, .bool false), (6, Zd (k : Nat)), (17, w r), (20, .bool false), (149, .bool false), (161, .slice (some ⟨B, 0, some 0⟩) k C), (162, Zd (k : Nat)), (163, Zd (r : Nat))] _ _ ?_ (by simp (maxSteps := 2000000) only [vup, cond_true, cond_false, Nat.reduceBEq])
      clear hN48
      try clear N48
      refine Zk ?_
      simp (maxSteps := 2000000) only [↓Za, ↓Zb, ↓Zc, vup, List.map_cons, List.map_nil, cond_true, cond_false, aop, Zg, Zr, ev, sput, Zf, Zl, Nat.reduceBEq, MG.idxR (show r < m by omega) (Nat.le_refl k), MG.loadE (show r < m by omega) (Nat.le_refl k), qV, frV, litF]
      refine OwnP.append (x := (T r k).num) (y := (T r k).den) (ho.ext (Ext.app _ _ _)) app_47_47 (by simp; omega) (Zy _ _) ?_
      intro x' G' ho' hE' hb'
      have hnx : ((List.range r).map fun i => ofQ (T i k)) ++ [((T r k).num, ((T r k).den : Int))] = (List.range (r + 1)).map fun i => ofQ (T i k) := by
        rw [List.range_succ, List.map_append]; rfl
      rw [hnx] at ho'
      refine hW [(0, .slice (some ⟨B, 0, some 0⟩) m C), (1, Zd (k : Nat)), (4, x'), (5, .bool false), (6, Zd (k : Nat)), (20, .bool false), (149, .bool false), (161, .slice (some ⟨B, 0, some 0⟩) k C), (162, Zd (k : Nat)), (163, Zd (r : Nat))] _ _ ?_ (by simp (maxSteps := 2000000) only [vup, cond_true, cond_false, Nat.reduceBEq])
      clear hW
      try clear W
      refine Zk ?_
      simp (maxSteps := 2000000) only [↓Za, ↓Zb, ↓Zc, vup, cond_true, cond_false, aop, ev, sput, Zf, Yg, Yl, Nat.reduceBEq, add1 (show r < 9223372036854775807 by omega)]
      refine hQb _ _ _ ⟨(r + 1, x', G'), ⟨hr', ho', ?_, fun b hb0 => ?_⟩, by simp only; omega, by simp (maxSteps := 2000000) only [vup, cond_true, cond_false, Nat.reduceBEq], rfl⟩
      · have hl' := hE'.1
        have l1 := hEG.1
        rw [List.length_append, List.length_singleton] at hl'
        refine ⟨by simp only; omega, fun q hq _ => ?_⟩
        simp only
        rw [hE'.2 q (by rw [List.length_append]; omega) (fun hb0 => by have := hbx q hb0; omega), List.getElem?_append_left (by omega)]
        exact hEG.2 q hq id
      · simp only at hb0
        rcases hb' with hb' | ⟨b', hb1, hb2⟩
        · exact hbx b (hb' ▸ hb0)
        · rw [hb1] at hb0; cases hb0
          rw [List.length_append] at hb2
          have := hEG.1; omega
    have hrk : k = r := by omega
    subst hrk
    refine Ze fun N49 hN49 => ?_
    simp (maxSteps := 2000000) only [↓Za, ↓Zb, ↓Zc, vup, cond_true, cond_false, aop, Zg, ev, sput, Zf, Yg, Yl, Nat.reduceBEq, hrin]
    refine hN49 [(0, .slice (some ⟨B, 0, some 0⟩) m C), (1, Zd (k : Nat)), (4, x), (5, .bool false), (6, Zd (k : Nat)), (20, .bool false), (149, .bool false), (161, .slice (some ⟨B, 0, some 0⟩) k C), (162, Zd (k : Nat)), (163, Zd (k : Nat)), (164, .bool false)] _ _ ?_ (by simp (maxSteps := 2000000) only [vup, cond_true, cond_false, Nat.reduceBEq])
    clear hN49
    try clear N49
    refine Ze fun N50 hN50 => ?_
    simp (maxSteps := 2000000) only [↓Xa, ↓vdn, vup, cond_true, cond_false, Zg, ev, Nat.reduceBEq]
    refine hQb _ _ _ (hQa _ _ _ ?_)
    simp (maxSteps := 2000000) only [Zg, Zr, Zv, if_true]
    refine hY [(0, .slice (some ⟨B, 0, some 0⟩) m C), (1, Zd (k : Nat)), (4, x), (5, .bool false), (6, Zd (k : Nat)), (20, .bool false), (149, .bool false), (164, .bool false)] _ _ ?_ (by simp (maxSteps := 2000000) only [vup, cond_true, cond_false, Nat.reduceBEq])
    clear hY
    try clear Y
    refine Zk ?_
    simp (maxSteps := 2000000) only [↓Za, ↓Zw, ↓Zz, ↓Zb, ↓Zc, vup, cond_true, cond_false, aop, Zg, ev, sput, Zf, Nat.reduceBEq, Zv, Xw, tup]
    refine ⟨hE.trans (hEG.mono fun b hb => hb.elim), x, true, rfl, ?_⟩
    rw [hsol]
    refine ⟨rfl, ?_, fun b hb => by have := hbx b hb; omega⟩
    rw [List.map_map]; exact ho
end Go.Proofs.Try.Am

namespace Go.Proofs.Try.Am
open Go.Am Bq
set_option maxRecDepth 100000
set_option maxHeartbeats 1000000

theorem s118_callW [Tabs Try.prog] {args : List Value} {h : Zh} {Q : Value → Zh → Prop} (hsz : args.length ≤ 22) (hk : AWS Try.prog 22 s118 (Zv Try.prog [.tmp 4] Q) (Zt 0 args) h) : ACall Try.prog 118 args h Q :=
  Yn Try.func118 rfl (enters_of Try.func118 (by kernel_rfl) rfl) rfl rfl (by decide) s118_strip s118_ok hsz hk
theorem lowest_call [Tabs prog] {h : Zh} {x y m : Int} (hm : m < 9223372036854775808) : Xi prog 118 [frV x y, Zd m] h (.bool (decide (1 ≤ y) && (decide (y ≤ m) && (Nat.gcd x.natAbs y.natAbs == 1)))) := by
  have hE : Ext (fun _ => False) h (h ++ [fC x y]) := Ext.app _ _ _
  refine ACall.forget (Low.bool _) ?_
  refine s118_callW (by simp) ?_
  refine Zk ?_
  by_cases h1 : 1 ≤ y
  · by_cases h2 : y ≤ m
    · simp (maxSteps := 2000000) only [s118, ↓Za, ↓Zw, ↓Zz, ↓Zb, ↓Zc, ↓vdn, vup, List.map_cons, List.map_nil, cond_true, cond_false, aop, Zg, Zt, ev, sput, Zf, Yg, Yl, Nat.reduceBEq, Nat.reduceAdd, Zv, Xw, tup, tyf, frV, boxF, Yi, fA0, fA1, loadF0 (Zy h _), loadF1 (Zy h _), h1, h2, Yv, List.nil_append, List.append_nil]
      refine (gcd_call (.inr (by omega)) (by omega)).mono ?_
      rintro _ _ ⟨rfl, rfl⟩
      have e : ((((Nat.gcd x.natAbs y.natAbs : Nat)) : Int) == 1) = (Nat.gcd x.natAbs y.natAbs == 1) := by
        rw [Bool.eq_iff_iff]; simp; omega
      simp (maxSteps := 2000000) only [vup, e, Bool.true_and]
      exact hE
    · simp (maxSteps := 2000000) only [s118, ↓Za, ↓Zw, ↓Zz, ↓Zb, ↓Zc, ↓vdn, vup, cond_true, cond_false, aop, Zg, Zt, ev, sput, Zf, Yg, Yl, Nat.reduceBEq, Nat.reduceAdd, Zv, Xw, tup, tyf, frV, boxF, Yi, fA1, loadF1 (Zy h _), h1, h2, Bool.true_and, Bool.false_and]
      exact hE
  · simp (maxSteps := 2000000) only [s118, ↓Za, ↓Zw, ↓Zz, ↓Zb, ↓Zc, ↓vdn, vup, cond_true, cond_false, aop, Zg, Zt, ev, sput, Zf, Yg, Yl, Nat.reduceBEq, Nat.reduceAdd, Zv, Xw, tup, tyf, frV, boxF, Yi, fA1, loadF1 (Zy h _), h1, Bool.false_and]
    exact hE

theorem s107_callW [Tabs Try.prog] {args : List Value} {h : Zh} {Q : Value → Zh → Prop} (hsz : args.length ≤ 20) (hk : AWS Try.prog 20 s107 (Zv Try.prog [.tmp 4] Q) (Zt 0 args) h) : ACall Try.prog 107 args h Q :=
  Yn Try.func107 rfl (enters_of Try.func107 (by kernel_rfl) rfl) rfl rfl (by decide) s107_strip s107_ok hsz hk
theorem chance_call [Tabs prog] {h : Zh} {x y m : Int} (hm : m < 9223372036854775808) : Xi prog 107 [frV x y, Zd m] h (.bool (chB m (x, y))) := by
  have hE : Ext (fun _ => False) h (h ++ [fC x y]) := Ext.app _ _ _
  refine ACall.forget (Low.bool _) ?_
  refine s107_callW (by simp) ?_
  refine Zk ?_
  simp (maxSteps := 2000000) only [s107, ↓Za, ↓Zw, ↓Zb, ↓Zc, vup, List.map_cons, List.map_nil, cond_true, cond_false, aop, Zg, Zt, ev, sput, Zf, Nat.reduceBEq, Nat.reduceAdd, frV, boxF, Yi, loadF (Zy h _), Yv, List.nil_append, List.append_nil]
  refine (show Xi prog 118 [.agg #[Zd x, Zd y], Zd m] (h ++ [Blk.cells [Zd x, Zd y] 26 false]) _ from lowest_call hm).mono ?_
  rintro _ _ ⟨rfl, rfl⟩
  rw [chB]
  cases hl : (decide (1 ≤ y) && (decide (y ≤ m) && (Nat.gcd x.natAbs y.natAbs == 1))) with
  | false =>
    simp (maxSteps := 2000000) only [↓Zz, ↓Zb, ↓Zc, ↓vdn, vup, cond_true, cond_false, aop, Zg, ev, sput, Zf, Nat.reduceBEq, Zv, Xw, tup, Bool.false_and]
    exact hE
  | true =>
    by_cases h1 : 0 ≤ x
    · simp (maxSteps := 2000000) only [↓Zz, ↓Zb, ↓Zc, ↓vdn, vup, cond_true, cond_false, aop, Zg, ev, sput, Zf, Yg, Yl, Nat.reduceBEq, Zv, Xw, tup, tyf, fA0, fA1, loadF0 (Zy h _), loadF1 (Zy h _), h1, Bool.true_and]
      exact hE
    · simp (maxSteps := 2000000) only [↓Zz, ↓Zb, ↓Zc, ↓vdn, vup, cond_true, cond_false, aop, Zg, ev, sput, Zf, Yg, Yl, Nat.reduceBEq, Zv, Xw, tup, tyf, fA0, loadF0 (Zy h _), h1, Bool.true_and, Bool.false_and]
      exact hE
end Go.Proofs.Try.Am

namespace Go.Proofs.Try.Am
open Go.Am
set_option maxRecDepth 100000
/-! 116: slices.IndexFunc[[]planchet api.Frac,planchet api.Frac] -/
@[reducible] def q116_0 : SCode := .region [⟨some 4, .assign (.const (.int .i64 0)), none⟩]
@[reducible] def q116_1 : SCode := .region [⟨some 6, .move (.tmp 0), none⟩,
    ⟨some 7, .call { callee := .builtin .len, args := #[.tmp 6], argTypes := #[47] }, none⟩,
    ⟨some 8, .move (.const (.int .i64 0)), none⟩]
@[reducible] def q116_2 : SCode := .region [⟨some 9, .binOp .lss 3 (.tmp 8) (.tmp 7) 3, none⟩]
@[reducible] def q116_3 : SCode := .region [⟨some 10, .move (.tmp 8), none⟩,
    ⟨some 5, .assign (.tmp 10), none⟩]
@[reducible] def q116_4 : SCode := .region [⟨some 11, .move (.tmp 1), none⟩,
    ⟨some 12, .move (.tmp 0), none⟩,
    ⟨some 13, .move (.tmp 5), none⟩,
    ⟨some 14, .indexAddr 47 (.tmp 12) (.tmp 13), none⟩,
    ⟨some 15, .load 26 (.tmp 14), none⟩,
    ⟨some 16, .call { callee := .value (.tmp 11), args := #[.tmp 15], argTypes := #[26] }, none⟩]
@[reducible] def q116_5 : SCode := .region [⟨some 17, .move (.tmp 5), none⟩,
    ⟨some 4, .assign (.tmp 17), none⟩]
@[reducible] def q116_6 : SCode := .region [⟨some 18, .binOp .add 3 (.tmp 8) (.const (.int .i64 1)) 3, none⟩,
    ⟨some 8, .move (.tmp 18), none⟩]
def l116_0 : SCode := (.seq q116_2 (.seq (.cond (.tmp 9) .skip (.exit 0)) (.seq (.block 1 (.seq q116_3 (.seq q116_4 (.cond (.tmp 16) (.seq q116_5 .ret) .skip)))) q116_6)))
@[reducible] def q116_7 : SCode := .region [⟨some 4, .assign (.const (.int .i64 (-1))), none⟩]
def s116 : SCode := (.seq q116_0 (.seq (.seq q116_1 (.block 0 (.loop l116_0))) (.seq q116_7 .ret)))
theorem s116_strip : Yb (Zx Try.f116) = s116 := by kernel_rfl
theorem s116_ok : Ym 19 (Zx Try.f116) = true := by kernel_rfl
end Go.Proofs.Try.Am

namespace Go.Proofs.Try.Am
open Go.Am Bq
set_option maxRecDepth 100000
set_option maxHeartbeats 1000000

def InR (ps : List (Int × Int)) : Prop := ∀ p ∈ ps, (-(2 ^ 63) ≤ p.1 ∧ p.1 < 2 ^ 63) ∧ -(2 ^ 63) ≤ p.2 ∧ p.2 < 2 ^ 63
theorem drop_getD {ps : List (Int × Int)} {k : Nat} (hk : k < ps.length) : ps.drop k = ps.getD k (0, 0) :: ps.drop (k + 1) := by
  rw [List.getD, List.getElem?_eq_getElem hk]; exact List.drop_eq_getElem_cons hk
theorem mulTo_no {p : Int × Int} {ps : List (Int × Int)} {m : Nat} (h : okP p = false) : mulTo (p :: ps) m = 0 := by rw [mulTo, h]; simp
theorem lcm_gt' {m n : Nat} (hm : 0 < m) (hn : 0 < n) : (10000000000 / (n / Nat.gcd m n) < m) ↔ 10000000000 < Nat.lcm m n := by
  have hg := Nat.gcd_pos_of_pos_left n hm
  have e : Nat.lcm m n = m * (n / Nat.gcd m n) := by rw [Nat.lcm, Nat.mul_div_assoc _ (Nat.gcd_dvd_right _ _)]
  rw [e]; exact Nat.div_lt_iff_lt_mul (Nat.div_pos (Nat.le_of_dvd hn (Nat.gcd_dvd_right _ _)) hg)

end Go.Proofs.Try.Am

namespace Go.Proofs.Try.Am
open Go.Am
set_option maxRecDepth 100000
/-! 18: planchet planchetlaw09.Of -/
@[reducible] def q18_0 : SCode := .region [⟨some 2, .assign (.const (.slice none 0 0)), none⟩]
@[reducible] def q18_1 : SCode := .region [⟨some 3, .assign (.const (.slice none 0 0)), none⟩]
@[reducible] def q18_2 : SCode := .region [⟨some 6, .move (.tmp 0), none⟩,
    ⟨some 7, .call { callee := .builtin .len, args := #[.tmp 6], argTypes := #[22] }, none⟩,
    ⟨some 8, .move (.const (.int .i64 0)), none⟩]
@[reducible] def q18_3 : SCode := .region [⟨some 9, .binOp .lss 3 (.tmp 8) (.tmp 7) 3, none⟩]
@[reducible] def q18_4 : SCode := .region [⟨some 10, .move (.tmp 8), none⟩,
    ⟨some 11, .indexAddr 22 (.tmp 6) (.tmp 8), none⟩,
    ⟨some 12, .load 24 (.tmp 11), none⟩,
    ⟨some 5, .alloc 24, none⟩,
    ⟨some 4, .assign (.tmp 10), none⟩,
    ⟨none, .store 24 (.tmp 5) (.tmp 12), none⟩]
@[reducible] def q18_5 : SCode := .region [⟨some 13, .move (.tmp 4), none⟩,
    ⟨some 14, .binOp .lss 3 (.tmp 13) (.const (.int .i64 9)) 3, none⟩]
@[reducible] def q18_6 : SCode := .region [⟨some 15, .move (.tmp 3), none⟩,
    ⟨some 16, .fieldAddr 24 (.tmp 5) 0, none⟩,
    ⟨some 17, .load 3 (.tmp 16), none⟩,
    ⟨some 18, .fieldAddr 24 (.tmp 5) 1, none⟩,
    ⟨some 19, .load 3 (.tmp 18), none⟩,
    ⟨some 20, .build 92 #[(0, .tmp 17), (1, .tmp 19)], none⟩,
    ⟨some 21, .buildSlice 30 1 #[(0, .tmp 20)], none⟩,
    ⟨some 22, .call { callee := .builtin .append, args := #[.tmp 15, .tmp 21], argTypes := #[30, 30] }, none⟩,
    ⟨some 3, .assign (.tmp 22), none⟩]
@[reducible] def q18_7 : SCode := .region [⟨some 23, .binOp .add 3 (.tmp 8) (.const (.int .i64 1)) 3, none⟩,
    ⟨some 8, .move (.tmp 23), none⟩]
def l18_0 : SCode := (.seq q18_3 (.seq (.cond (.tmp 9) .skip (.exit 0)) (.seq (.block 1 (.seq q18_4 (.seq q18_5 (.cond (.tmp 14) q18_6 .skip)))) q18_7)))
@[reducible] def q18_8 : SCode := .region [⟨some 24, .move (.tmp 3), none⟩,
    ⟨some 2, .assign (.tmp 24), none⟩]
def s18 : SCode := (.seq q18_0 (.seq q18_1 (.seq (.seq q18_2 (.block 0 (.loop l18_0))) (.seq q18_8 .ret))))
theorem s18_strip : Yb (Zx Try.f18) = s18 := by kernel_rfl
theorem s18_ok : Ym 25 (Zx Try.f18) = true := by kernel_rfl
/-! 20: planchet planchetref09.Bets -/
@[reducible] def q20_0 : SCode := .region [⟨some 4, .assign (.const (.bool false)), none⟩]
@[reducible] def q20_1 : SCode := .region [⟨some 9, .move (.tmp 0), none⟩,
    ⟨some 10, .call { callee := .value (.func 63), args := #[.tmp 9], argTypes := #[3] }, none⟩,
    ⟨some 11, .unOp .not 4 (.tmp 10), none⟩,
    ⟨some 12, .move (.tmp 11), none⟩,
    ⟨some 13, .move (.tmp 1), some (12, false)⟩,
    ⟨some 14, .call { callee := .builtin .len, args := #[.tmp 13], argTypes := #[22] }, some (12, false)⟩,
    ⟨some 15, .binOp .lss 3 (.tmp 14) (.const (.int .i64 1)) 3, some (12, false)⟩,
    ⟨some 16, .pick (.tmp 12) (.const (.bool true)) (.tmp 15), none⟩,
    ⟨some 17, .move (.tmp 16), none⟩,
    ⟨some 18, .move (.tmp 1), some (17, false)⟩,
    ⟨some 19, .call { callee := .builtin .len, args := #[.tmp 18], argTypes := #[22] }, some (17, false)⟩,
    ⟨some 20, .binOp .gtr 3 (.tmp 19) (.const (.int .i64 6)) 3, some (17, false)⟩,
    ⟨some 21, .pick (.tmp 17) (.const (.bool true)) (.tmp 20), none⟩]
@[reducible] def q20_2 : SCode := .region [⟨some 4, .assign (.const (.bool false)), none⟩]
@[reducible] def q20_3 : SCode := .region [⟨some 22, .move (.tmp 1), none⟩,
    ⟨some 23, .call { callee := .builtin .len, args := #[.tmp 22], argTypes := #[22] }, none⟩,
    ⟨some 24, .move (.const (.int .i64 0)), none⟩]
@[reducible] def q20_4 : SCode := .region [⟨some 25, .binOp .lss 3 (.tmp 24) (.tmp 23) 3, none⟩]
@[reducible] def q20_5 : SCode := .region [⟨some 26, .move (.tmp 24), none⟩,
    ⟨some 27, .indexAddr 22 (.tmp 22) (.tmp 24), none⟩,
    ⟨some 28, .load 24 (.tmp 27), none⟩,
    ⟨some 6, .alloc 24, none⟩,
    ⟨some 5, .assign (.tmp 26), none⟩,
    ⟨none, .store 24 (.tmp 6) (.tmp 28), none⟩]
@[reducible] def q20_6 : SCode := .region [⟨some 29, .move (.tmp 0), none⟩,
    ⟨some 30, .fieldAddr 24 (.tmp 6) 0, none⟩,
    ⟨some 31, .load 3 (.tmp 30), none⟩,
    ⟨some 32, .call { callee := .value (.func 25), args := #[.tmp 29, .tmp 31], argTypes := #[3, 3] }, none⟩,
    ⟨some 33, .unOp .not 4 (.tmp 32), none⟩,
    ⟨some 34, .move (.tmp 33), none⟩,
    ⟨some 35, .fieldAddr 24 (.tmp 6) 1, some (34, false)⟩,
    ⟨some 36, .load 3 (.tmp 35), some (34, false)⟩,
    ⟨some 37, .binOp .lss 3 (.tmp 36) (.const (.int .i64 0)) 3, some (34, false)⟩,
    ⟨some 38, .pick (.tmp 34) (.const (.bool true)) (.tmp 37), none⟩,
    ⟨some 39, .move (.tmp 38), none⟩,
    ⟨some 40, .fieldAddr 24 (.tmp 6) 1, some (39, false)⟩,
    ⟨some 41, .load 3 (.tmp 40), some (39, false)⟩,
    ⟨some 42, .binOp .gtr 3 (.tmp 41) (.const (.int .i64 12)) 3, some (39, false)⟩,
    ⟨some 43, .pick (.tmp 39) (.const (.bool true)) (.tmp 42), none⟩]
@[reducible] def q20_7 : SCode := .region [⟨some 4, .assign (.const (.bool false)), none⟩]
@[reducible] def q20_8 : SCode := .region [⟨some 44, .move (.tmp 1), none⟩,
    ⟨some 45, .move (.tmp 5), none⟩,
    ⟨some 46, .slice 22 (.tmp 44) none (some (.tmp 45)) none, none⟩,
    ⟨some 47, .call { callee := .builtin .len, args := #[.tmp 46], argTypes := #[22] }, none⟩,
    ⟨some 48, .move (.const (.int .i64 0)), none⟩]
@[reducible] def q20_9 : SCode := .region [⟨some 49, .binOp .lss 3 (.tmp 48) (.tmp 47) 3, none⟩]
@[reducible] def q20_10 : SCode := .region [⟨some 50, .indexAddr 22 (.tmp 46) (.tmp 48), none⟩,
    ⟨some 51, .load 24 (.tmp 50), none⟩,
    ⟨some 8, .alloc 24, none⟩,
    ⟨none, .store 24 (.tmp 8) (.tmp 51), none⟩]
@[reducible] def q20_11 : SCode := .region [⟨some 52, .fieldAddr 24 (.tmp 6) 0, none⟩,
    ⟨some 53, .load 3 (.tmp 52), none⟩,
    ⟨some 54, .fieldAddr 24 (.tmp 8) 0, none⟩,
    ⟨some 55, .load 3 (.tmp 54), none⟩,
    ⟨some 56, .binOp .eql 3 (.tmp 53) (.tmp 55) 3, none⟩]
@[reducible] def q20_12 : SCode := .region [⟨some 4, .assign (.const (.bool false)), none⟩]
@[reducible] def q20_13 : SCode := .region [⟨some 57, .binOp .add 3 (.tmp 48) (.const (.int .i64 1)) 3, none⟩,
    ⟨some 48, .move (.tmp 57), none⟩]
def l20_0 : SCode := (.seq q20_9 (.seq (.cond (.tmp 49) .skip (.exit 2)) (.seq (.block 3 (.seq q20_10 (.seq q20_11 (.cond (.tmp 56) (.seq q20_12 .ret) .skip)))) q20_13)))
@[reducible] def q20_14 : SCode := .region [⟨some 58, .binOp .add 3 (.tmp 24) (.const (.int .i64 1)) 3, none⟩,
    ⟨some 24, .move (.tmp 58), none⟩]
def l20_1 : SCode := (.seq q20_4 (.seq (.cond (.tmp 25) .skip (.exit 0)) (.seq (.block 1 (.seq q20_5 (.seq (.seq q20_6 (.cond (.tmp 43) (.seq q20_7 .ret) .skip)) (.seq q20_8 (.block 2 (.loop l20_0)))))) q20_14)))
@[reducible] def q20_15 : SCode := .region [⟨some 4, .assign (.const (.bool true)), none⟩]
def s20 : SCode := (.seq q20_0 (.seq (.seq q20_1 (.cond (.tmp 21) (.seq q20_2 .ret) .skip)) (.seq (.seq q20_3 (.block 0 (.loop l20_1))) (.seq q20_15 .ret))))
theorem s20_strip : Yb (Zx Try.f20) = s20 := by kernel_rfl
theorem s20_ok : Ym 59 (Zx Try.f20) = true := by kernel_rfl
/-! 25: planchet planchetref09.Event -/
@[reducible] def q25_0 : SCode := .region [⟨some 4, .assign (.const (.bool false)), none⟩]
@[reducible] def q25_1 : SCode := .region [⟨some 5, .move (.tmp 1), none⟩,
    ⟨some 6, .binOp .geq 3 (.tmp 5) (.const (.int .i64 0)) 3, none⟩,
    ⟨some 7, .move (.tmp 6), none⟩,
    ⟨some 8, .move (.tmp 1), some (7, true)⟩,
    ⟨some 9, .move (.tmp 0), some (7, true)⟩,
    ⟨some 10, .binOp .shl 3 (.const (.int .i64 1)) (.tmp 9) 3, some (7, true)⟩,
    ⟨some 11, .binOp .lss 3 (.tmp 8) (.tmp 10) 3, some (7, true)⟩,
    ⟨some 12, .pick (.tmp 7) (.tmp 11) (.const (.bool false)), none⟩,
    ⟨some 4, .assign (.tmp 12), none⟩]
def s25 : SCode := (.seq q25_0 (.seq q25_1 .ret))
theorem s25_strip : Yb (Zx Try.f25) = s25 := by kernel_rfl
theorem s25_ok : Ym 13 (Zx Try.f25) = true := by kernel_rfl
/-! 61: (planchet bets.belief).of -/
@[reducible] def q61_0 : SCode := .region [⟨some 4, .alloc 26, none⟩]
@[reducible] def q61_1 : SCode := .region [⟨some 8, .call { callee := .value (.func 70), args := #[.const (.int .i64 0)], argTypes := #[3] }, none⟩,
    ⟨some 5, .alloc 26, none⟩,
    ⟨none, .store 26 (.tmp 5) (.tmp 8), none⟩]
@[reducible] def q61_2 : SCode := .region [⟨some 9, .move (.tmp 0), none⟩,
    ⟨some 10, .call { callee := .builtin .len, args := #[.tmp 9], argTypes := #[90] }, none⟩,
    ⟨some 11, .move (.const (.int .i64 0)), none⟩]
@[reducible] def q61_3 : SCode := .region [⟨some 12, .binOp .lss 3 (.tmp 11) (.tmp 10) 3, none⟩]
@[reducible] def q61_4 : SCode := .region [⟨some 13, .move (.tmp 11), none⟩,
    ⟨some 14, .indexAddr 90 (.tmp 9) (.tmp 11), none⟩,
    ⟨some 15, .load 26 (.tmp 14), none⟩,
    ⟨some 7, .alloc 26, none⟩,
    ⟨some 6, .assign (.tmp 13), none⟩,
    ⟨none, .store 26 (.tmp 7) (.tmp 15), none⟩]
@[reducible] def q61_5 : SCode := .region [⟨some 16, .move (.tmp 1), none⟩,
    ⟨some 17, .move (.tmp 6), none⟩,
    ⟨some 18, .binOp .shr 3 (.tmp 16) (.tmp 17) 3, none⟩,
    ⟨some 19, .binOp .and 3 (.tmp 18) (.const (.int .i64 1)) 3, none⟩,
    ⟨some 20, .binOp .eql 3 (.tmp 19) (.const (.int .i64 1)) 3, none⟩]
@[reducible] def q61_6 : SCode := .region [⟨some 21, .load 26 (.tmp 5), none⟩,
    ⟨some 22, .load 26 (.tmp 7), none⟩,
    ⟨some 23, .call { callee := .value (.func 71), args := #[.tmp 21, .const (.int .i64 1), .tmp 22], argTypes := #[26, 3, 26] }, none⟩,
    ⟨none, .store 26 (.tmp 5) (.tmp 23), none⟩]
@[reducible] def q61_7 : SCode := .region [⟨some 24, .binOp .add 3 (.tmp 11) (.const (.int .i64 1)) 3, none⟩,
    ⟨some 11, .move (.tmp 24), none⟩]
def l61_0 : SCode := (.seq q61_3 (.seq (.cond (.tmp 12) .skip (.exit 0)) (.seq (.block 1 (.seq q61_4 (.seq q61_5 (.cond (.tmp 20) q61_6 .skip)))) q61_7)))
@[reducible] def q61_8 : SCode := .region [⟨some 25, .load 26 (.tmp 5), none⟩,
    ⟨none, .store 26 (.tmp 4) (.tmp 25), none⟩]
def s61 : SCode := (.seq q61_0 (.seq q61_1 (.seq (.seq q61_2 (.block 0 (.loop l61_0))) (.seq q61_8 .ret))))
theorem s61_strip : Yb (Zx Try.f61) = s61 := by kernel_rfl
theorem s61_ok : Ym 26 (Zx Try.f61) = true := by kernel_rfl
end Go.Proofs.Try.Am

namespace Go.Proofs.Try.Am
open Go.Am Bq
set_option maxRecDepth 100000
set_option maxHeartbeats 1000000

def chances (n : Int) (ps : List (Int × Int)) : Bool := decide ((ps.length : Int) = n) && (decide (mult ps ≠ 0) && ps.all fun p => decide (p.1 ≤ p.2))

theorem chances_chn {n : Int} {ps : List (Int × Int)} (h : chances n ps = true) : Chn ps ∧ (ps.length : Int) = n := by
  simp only [chances, Bool.and_eq_true, decide_eq_true_eq, List.all_eq_true] at h
  exact ⟨⟨h.2.1, h.2.2⟩, h.1⟩
end Go.Proofs.Try.Am

namespace Go.Proofs.Try.Am
open Go.Am
set_option maxRecDepth 100000
/-! 37: planchet bets.Agrees -/
@[reducible] def q37_0 : SCode := .region [⟨some 6, .assign (.const (.bool false)), none⟩,
    ⟨some 7, .assign (.const (.int .i64 0)), none⟩]
@[reducible] def q37_1 : SCode := .region [⟨some 9, .move (.tmp 0), none⟩,
    ⟨some 10, .move (.tmp 1), none⟩,
    ⟨some 11, .build 86 #[(0, .tmp 9), (1, .tmp 10)], none⟩,
    ⟨some 8, .alloc 86, none⟩,
    ⟨none, .store 86 (.tmp 8) (.tmp 11), none⟩]
@[reducible] def q37_2 : SCode := .region [⟨some 12, .load 86 (.tmp 8), none⟩,
    ⟨some 13, .call { callee := .value (.func 58), args := #[.tmp 12], argTypes := #[86] }, none⟩,
    ⟨some 14, .unOp .not 4 (.tmp 13), none⟩,
    ⟨some 15, .move (.tmp 14), none⟩,
    ⟨some 16, .move (.tmp 2), some (15, false)⟩,
    ⟨some 17, .call { callee := .builtin .len, args := #[.tmp 16], argTypes := #[47] }, some (15, false)⟩,
    ⟨some 18, .move (.tmp 0), some (15, false)⟩,
    ⟨some 19, .binOp .neq 3 (.tmp 17) (.tmp 18) 3, some (15, false)⟩,
    ⟨some 20, .pick (.tmp 15) (.const (.bool true)) (.tmp 19), none⟩,
    ⟨some 21, .move (.tmp 20), none⟩,
    ⟨some 22, .move (.tmp 2), some (21, false)⟩,
    ⟨some 23, .call { callee := .value (.func 75), args := #[.tmp 22], argTypes := #[47] }, some (21, false)⟩,
    ⟨some 24, .unOp .not 4 (.tmp 23), some (21, false)⟩,
    ⟨some 25, .pick (.tmp 21) (.const (.bool true)) (.tmp 24), none⟩]
@[reducible] def q37_3 : SCode := .region [⟨some 6, .assign (.const (.bool false)), none⟩,
    ⟨some 7, .assign (.const (.int .i64 2)), none⟩]
@[reducible] def q37_4 : SCode := .region [⟨some 26, .load 86 (.tmp 8), none⟩,
    ⟨some 27, .move (.tmp 2), none⟩,
    ⟨some 28, .call { callee := .value (.func 76), args := #[.tmp 26, .tmp 27], argTypes := #[86, 90] }, none⟩,
    ⟨some 6, .assign (.tmp 28), none⟩,
    ⟨some 7, .assign (.const (.int .i64 0)), none⟩]
def s37 : SCode := (.seq q37_0 (.seq q37_1 (.seq (.seq q37_2 (.cond (.tmp 25) (.seq q37_3 .ret) .skip)) (.seq q37_4 .ret))))
theorem s37_strip : Yb (Zx Try.f37) = s37 := by kernel_rfl
theorem s37_ok : Ym 29 (Zx Try.f37) = true := by kernel_rfl
/-! 76: (planchet bets.table).agrees -/
@[reducible] def q76_0 : SCode := .region [⟨some 2, .box 86 (.tmp 0), none⟩,
    ⟨some 3, .box 90 (.tmp 1), none⟩,
    ⟨some 4, .assign (.const (.bool false)), none⟩]
def q76_1 : SCode := .draw [⟨some 5, .load 90 (.tmp 3), none⟩,
    ⟨some 6, .fieldAddr 86 (.tmp 2) 0, none⟩,
    ⟨some 7, .load 3 (.tmp 6), none⟩,
    ⟨some 8, .binOp .shl 3 (.const (.int .i64 1)) (.tmp 7) 3, none⟩,
    ⟨some 9, .binOp .sub 3 (.tmp 8) (.const (.int .i64 1)) 3, none⟩,
    ⟨some 10, .call { callee := .value (.func 61), args := #[.tmp 5, .tmp 9], argTypes := #[90, 3] }, none⟩,
    ⟨some 11, .call { callee := .value (.func 70), args := #[.const (.int .i64 1)], argTypes := #[3] }, none⟩,
    ⟨some 12, .binOp .neq 26 (.tmp 10) (.tmp 11) 26, none⟩]
   [[], [], [1], [2], [3], [0, 4], [5], [5, 6]]
@[reducible] def q76_2 : SCode := .region [⟨some 4, .assign (.const (.bool false)), none⟩]
@[reducible] def q76_3 : SCode := .region [⟨some 13, .fieldAddr 86 (.tmp 2) 1, none⟩,
    ⟨some 14, .load 30 (.tmp 13), none⟩,
    ⟨some 15, .makeFunc (.func 109) #[] #[.tmp 3], none⟩,
    ⟨some 16, .call { callee := .value (.func 108), args := #[.tmp 14, .tmp 15], argTypes := #[30, 112] }, none⟩,
    ⟨some 4, .assign (.tmp 16), none⟩]
def s76 : SCode := (.seq q76_0 (.seq (.seq q76_1 (.cond (.tmp 12) (.seq q76_2 .ret) .skip)) (.seq q76_3 .ret)))
theorem s76_strip : Yb (Zx Try.f76) = s76 := by kernel_rfl
theorem s76_ok : Ym 17 (Zx Try.f76) = true := by kernel_rfl
/-! 108: planchet bets.every[planchet bets.Bet] -/
@[reducible] def q108_0 : SCode := .region [⟨some 3, .box 112 (.tmp 1), none⟩,
    ⟨some 4, .assign (.const (.bool false)), none⟩]
@[reducible] def q108_1 : SCode := .region [⟨some 5, .move (.tmp 0), none⟩,
    ⟨some 6, .makeFunc (.func 119) #[] #[.tmp 3], none⟩,
    ⟨some 7, .call { callee := .value (.func 98), args := #[.tmp 5, .tmp 6], argTypes := #[30, 112] }, none⟩,
    ⟨some 8, .unOp .not 4 (.tmp 7), none⟩,
    ⟨some 4, .assign (.tmp 8), none⟩]
def s108 : SCode := (.seq q108_0 (.seq q108_1 .ret))
theorem s108_strip : Yb (Zx Try.f108) = s108 := by kernel_rfl
theorem s108_ok : Ym 9 (Zx Try.f108) = true := by kernel_rfl
/-! 109: (planchet bets.table).agrees$1 -/
@[reducible] def q109_0 : SCode := .region [⟨some 2, .box 92 (.tmp 0), none⟩,
    ⟨some 3, .assign (.const (.bool false)), none⟩]
def q109_1 : SCode := .draw [⟨some 4, .load 90 (.tmp 1), none⟩,
    ⟨some 5, .fieldAddr 92 (.tmp 2) 0, none⟩,
    ⟨some 6, .load 3 (.tmp 5), none⟩,
    ⟨some 7, .call { callee := .value (.func 61), args := #[.tmp 4, .tmp 6], argTypes := #[90, 3] }, none⟩,
    ⟨some 8, .fieldAddr 92 (.tmp 2) 1, none⟩,
    ⟨some 9, .load 3 (.tmp 8), none⟩,
    ⟨some 10, .call { callee := .value (.func 64), args := #[.tmp 9, .const (.int .i64 12)], argTypes := #[3, 3] }, none⟩,
    ⟨some 11, .binOp .eql 26 (.tmp 7) (.tmp 10) 26, none⟩,
    ⟨some 3, .assign (.tmp 11), none⟩]
   [[], [], [1], [0, 2], [], [4], [5, 3], [3, 6], [7, 6, 0, 1, 2, 3, 4, 5, 6, 7]]
def s109 : SCode := (.seq q109_0 (.seq q109_1 .ret))
theorem s109_strip : Yb (Zx Try.f109) = s109 := by kernel_rfl
theorem s109_ok : Ym 12 (Zx Try.f109) = true := by kernel_rfl
/-! 119: planchet bets.every[planchet bets.Bet]$1 -/
@[reducible] def q119_0 : SCode := .region [⟨some 2, .box 92 (.tmp 0), none⟩,
    ⟨some 3, .assign (.const (.bool false)), none⟩]
@[reducible] def q119_1 : SCode := .region [⟨some 4, .load 112 (.tmp 1), none⟩,
    ⟨some 5, .load 92 (.tmp 2), none⟩,
    ⟨some 6, .call { callee := .value (.tmp 4), args := #[.tmp 5], argTypes := #[92] }, none⟩,
    ⟨some 7, .unOp .not 4 (.tmp 6), none⟩,
    ⟨some 3, .assign (.tmp 7), none⟩]
def s119 : SCode := (.seq q119_0 (.seq q119_1 .ret))
theorem s119_strip : Yb (Zx Try.f119) = s119 := by kernel_rfl
theorem s119_ok : Ym 8 (Zx Try.f119) = true := by kernel_rfl
end Go.Proofs.Try.Am

namespace Go.Proofs.Try.Am
open Go.Am
set_option maxRecDepth 100000
/-! 35: slices.Equal[[]planchet api.Frac,planchet api.Frac] -/
@[reducible] def q35_0 : SCode := .region [⟨some 4, .assign (.const (.bool false)), none⟩]
@[reducible] def q35_1 : SCode := .region [⟨some 6, .move (.tmp 0), none⟩,
    ⟨some 7, .call { callee := .builtin .len, args := #[.tmp 6], argTypes := #[47] }, none⟩,
    ⟨some 8, .move (.tmp 1), none⟩,
    ⟨some 9, .call { callee := .builtin .len, args := #[.tmp 8], argTypes := #[47] }, none⟩,
    ⟨some 10, .binOp .neq 3 (.tmp 7) (.tmp 9) 3, none⟩]
@[reducible] def q35_2 : SCode := .region [⟨some 4, .assign (.const (.bool false)), none⟩]
@[reducible] def q35_3 : SCode := .region [⟨some 11, .move (.tmp 0), none⟩,
    ⟨some 12, .call { callee := .builtin .len, args := #[.tmp 11], argTypes := #[47] }, none⟩,
    ⟨some 13, .move (.const (.int .i64 0)), none⟩]
@[reducible] def q35_4 : SCode := .region [⟨some 14, .binOp .lss 3 (.tmp 13) (.tmp 12) 3, none⟩]
@[reducible] def q35_5 : SCode := .region [⟨some 15, .move (.tmp 13), none⟩,
    ⟨some 5, .assign (.tmp 15), none⟩]
def q35_6 : SCode := .draw [⟨some 16, .move (.tmp 0), none⟩,
    ⟨some 17, .move (.tmp 5), none⟩,
    ⟨some 18, .indexAddr 47 (.tmp 16) (.tmp 17), none⟩,
    ⟨some 19, .load 26 (.tmp 18), none⟩,
    ⟨some 20, .move (.tmp 1), none⟩,
    ⟨some 21, .move (.tmp 5), none⟩,
    ⟨some 22, .indexAddr 47 (.tmp 20) (.tmp 21), none⟩,
    ⟨some 23, .load 26 (.tmp 22), none⟩,
    ⟨some 24, .binOp .neq 26 (.tmp 19) (.tmp 23) 26, none⟩]
   [[], [], [0, 1], [2], [], [], [4, 5], [6], [3, 7]]
@[reducible] def q35_7 : SCode := .region [⟨some 4, .assign (.const (.bool false)), none⟩]
@[reducible] def q35_8 : SCode := .region [⟨some 25, .binOp .add 3 (.tmp 13) (.const (.int .i64 1)) 3, none⟩,
    ⟨some 13, .move (.tmp 25), none⟩]
def l35_0 : SCode := (.seq q35_4 (.seq (.cond (.tmp 14) .skip (.exit 0)) (.seq (.block 1 (.seq q35_5 (.seq q35_6 (.cond (.tmp 24) (.seq q35_7 .ret) .skip)))) q35_8)))
@[reducible] def q35_9 : SCode := .region [⟨some 4, .assign (.const (.bool true)), none⟩]
def s35 : SCode := (.seq q35_0 (.seq (.seq q35_1 (.cond (.tmp 10) (.seq q35_2 .ret) .skip)) (.seq (.seq q35_3 (.block 0 (.loop l35_0))) (.seq q35_9 .ret))))
theorem s35_strip : Yb (Zx Try.f35) = s35 := by kernel_rfl
theorem s35_ok : Ym 26 (Zx Try.f35) = true := by kernel_rfl
/-! 101: slices.ContainsFunc[[]planchet api.Frac,planchet api.Frac] -/
@[reducible] def q101_0 : SCode := .region [⟨some 4, .assign (.const (.bool false)), none⟩]
@[reducible] def q101_1 : SCode := .region [⟨some 5, .move (.tmp 0), none⟩,
    ⟨some 6, .move (.tmp 1), none⟩,
    ⟨some 7, .call { callee := .value (.func 116), args := #[.tmp 5, .tmp 6], argTypes := #[47, 35] }, none⟩,
    ⟨some 8, .binOp .geq 3 (.tmp 7) (.const (.int .i64 0)) 3, none⟩,
    ⟨some 4, .assign (.tmp 8), none⟩]
def s101 : SCode := (.seq q101_0 (.seq q101_1 .ret))
theorem s101_strip : Yb (Zx Try.f101) = s101 := by kernel_rfl
theorem s101_ok : Ym 9 (Zx Try.f101) = true := by kernel_rfl
/-! 102: (planchet bets.table).corners$2 -/
@[reducible] def q102_0 : SCode := .region [⟨some 1, .box 26 (.tmp 0), none⟩,
    ⟨some 2, .assign (.const (.bool false)), none⟩]
@[reducible] def q102_1 : SCode := .region [⟨some 3, .fieldAddr 26 (.tmp 1) 0, none⟩,
    ⟨some 4, .load 3 (.tmp 3), none⟩,
    ⟨some 5, .binOp .lss 3 (.tmp 4) (.const (.int .i64 0)) 3, none⟩,
    ⟨some 2, .assign (.tmp 5), none⟩]
def s102 : SCode := (.seq q102_0 (.seq q102_1 .ret))
theorem s102_strip : Yb (Zx Try.f102) = s102 := by kernel_rfl
theorem s102_ok : Ym 6 (Zx Try.f102) = true := by kernel_rfl
end Go.Proofs.Try.Am

namespace Go.Proofs.Try.Am
open Go.Am Bq
set_option maxRecDepth 100000
set_option maxHeartbeats 1000000

def inEv (f : Nat → Rat) (evt : Nat) (w : Nat) : Rat := if evt.testBit w then f w else 0
theorem litI1 [Tabs prog] {h : Zh} {x : Int} (K : Value → Zh → Prop) : Yp prog h 38 1 [(0, Zd x)] K = K (.slice (some ⟨h.length, 0, none⟩) 1 1) (h ++ [.ints [x] 3 false]) := by
  simp only [Yp, el_38, zero_3, esz_3, reps, fillL, mkb, Wr, cellsOf, List.length_singleton, Nat.mul_one, Nat.zero_add]
  exact propext ⟨fun h => h.2.2.2, fun h => ⟨trivial, by decide, by decide, h⟩⟩

theorem take_snoc {α : Type} {l : List α} {k : Nat} {d : α} (hk : k < l.length) : l.take (k + 1) = l.take k ++ [l.getD k d] := by
  rw [List.take_succ, List.getElem?_eq_getElem hk, List.getD, List.getElem?_eq_getElem hk]; rfl

theorem s75_callW [Tabs Try.prog] {args : List Value} {h : Zh} {Q : Value → Zh → Prop} (hsz : args.length ≤ 31) (hk : AWS Try.prog 31 s75 (Zv Try.prog [.tmp 2] Q) (Zt 0 args) h) : ACall Try.prog 75 args h Q :=
  Yn Try.func75 rfl (enters_of Try.func75 (by kernel_rfl) rfl) rfl rfl (by decide) s75_strip s75_ok hsz hk
theorem common_call [Tabs prog] {h : Zh} {v : Value} {ps : List (Int × Int)} (hv : PairSl h v ps) (hl : ps.length < 9223372036854775808) (hx : InR ps) : Xi prog 75 [v] h (.bool (decide (mult ps ≠ 0) && ps.all fun p => decide (p.1 ≤ p.2))) := by
  refine ACall.forget (Low.bool _) ?_
  refine s75_callW (by simp) ?_
  simp only [s75]
  refine Ze fun N10 hN10 => ?_
  simp (maxSteps := 2000000) only [↓Za, ↓Zb, ↓Zc, vup, cond_false, aop, Zg, Zt, ev, sput, Zf, Nat.reduceBEq]
  refine hN10 [(0, v), (2, .bool false)] _ _ ?_ (by simp (maxSteps := 2000000) only [vup, cond_true, cond_false, Nat.reduceBEq])
  clear hN10
  try clear N10
  refine Ze fun N11 hN11 => ?_
  simp (maxSteps := 2000000) only [↓Za, ↓Zb, ↓Zc, vup, cond_false, aop, Zg, ev, sput, Zf, Nat.reduceBEq]
  refine hN11 [(0, v), (2, .bool false), (3, .int .i64 1)] _ _ ?_ (by simp (maxSteps := 2000000) only [vup, cond_true, cond_false, Nat.reduceBEq])
  clear hN11
  try clear N11
  refine Zm fun M hM => ?_
  refine Ze fun N12 hN12 => ?_
  simp (maxSteps := 2000000) only [↓Za, ↓Zb, ↓Zc, vup, List.map_cons, List.map_nil, cond_true, cond_false, aop, Zg, ev, sput, Zf, Zl, Nat.reduceBEq, tyf, hv.len]
  refine hN12 [(0, v), (2, .bool false), (3, .int .i64 1), (7, v), (8, Zd ps.length), (9, .int .i64 0)] _ _ ?_ (by simp (maxSteps := 2000000) only [vup, cond_true, cond_false, Nat.reduceBEq])
  clear hN12
  try clear N12
  refine Zn ?_
  refine Zs fun Q hQ => ?_
  refine Yu (γ := Nat × Nat × Zh) (fun s => s.1 ≤ ps.length ∧ 0 < s.2.1 ∧ s.2.1 ≤ 10000000000 ∧ mulTo (ps.drop s.1) s.2.1 = mult ps ∧ (∀ p ∈ ps.take s.1, p.1 ≤ p.2) ∧ Ext (fun _ => False) h s.2.2)
    (fun s => ([(0, v), (2, .bool false), (3, Zd (s.2.1 : Nat)), (7, v), (8, Zd ps.length), (9, Zd (s.1 : Nat))], s.2.2)) (fun s => ps.length - s.1) (0, 1, h) ⟨Nat.zero_le _, Nat.one_pos, (by decide : (1 : Nat) ≤ 10000000000), rfl, by simp, Ext.refl _ _⟩ (by simp (maxSteps := 2000000) only [vup, cond_true, cond_false, Nat.reduceBEq, Int.natCast_zero, Int.natCast_one]) rfl ?_
  rintro ⟨k, m, hp⟩ ⟨hk, hm0, hm, hmul, hall, hE⟩
  simp only at hk hm0 hm hmul hall hE
  refine Zs fun Q2 hQ2 => ?_
  simp only [l75_0]
  by_cases hin : (k : Int) < ps.length
  · have hk' : k < ps.length := by omega
    have hvp := hv.ext hE
    obtain ⟨⟨x, y⟩, hxy⟩ : ∃ p, ps.getD k (0, 0) = p := ⟨_, rfl⟩
    have hmem : (x, y) ∈ ps := hxy ▸ Vs hk'
    have hr := hx _ hmem
    simp only at hr
    have hdr := drop_getD hk'
    rw [hxy] at hdr
    rw [hdr] at hmul
    obtain ⟨H, hH⟩ : ∃ H, H = hp ++ [fC x y] := ⟨_, rfl⟩
    have c5 : H[hp.length]? = some (fC x y) := by rw [hH]; exact Zy _ _
    have hEH : Ext (fun _ => False) h H := by rw [hH]; exact hE.trans (Ext.app _ _ _)
    refine Ze fun N13 hN13 => ?_
    simp (maxSteps := 2000000) only [↓Za, ↓Zb, ↓Zc, vup, cond_true, cond_false, aop, Zg, ev, sput, Zf, Yg, Yl, Nat.reduceBEq, hin]
    refine hN13 [(0, v), (2, .bool false), (3, Zd (m : Nat)), (7, v), (8, Zd ps.length), (9, Zd (k : Nat)), (10, .bool true)] _ _ ?_ (by simp (maxSteps := 2000000) only [vup, cond_true, cond_false, Nat.reduceBEq])
    clear hN13
    try clear N13
    refine Ze fun N14 hN14 => ?_
    simp (maxSteps := 2000000) only [↓Zu, ↓vdn, vup, cond_true, cond_false, Zg, ev, Nat.reduceBEq]
    refine hN14 [(0, v), (2, .bool false), (3, Zd (m : Nat)), (7, v), (8, Zd ps.length), (9, Zd (k : Nat))] _ _ ?_ (by simp (maxSteps := 2000000) only [vup, cond_true, cond_false, Nat.reduceBEq])
    clear hN14
    try clear N14
    refine Zm fun B hB => ?_
    refine Zn ?_
    refine Ze fun N15 hN15 => ?_
    simp (maxSteps := 2000000) only [↓Za, ↓Zb, ↓Zc, vup, cond_true, cond_false, aop, Zg, ev, sput, Zf, Nat.reduceBEq, tyf, hvp.idx el_47 Vk hk', hvp.load shp_26 hk', hxy, Xm, Yi, Vy (Zy hp z0) rfl, Wf]
    rw [← hH]
    refine hN15 [(0, v), (2, .bool false), (3, Zd (m : Nat)), (5, .pointer (some ⟨hp.length, 0, none⟩)), (7, v), (8, Zd ps.length), (9, Zd (k : Nat))] _ _ ?_ (by simp (maxSteps := 2000000) only [vup, cond_true, cond_false, Nat.reduceBEq])
    clear hN15
    try clear N15
    have none0 : (decide (mult ps ≠ 0) && ps.all fun p => decide (p.1 ≤ p.2)) = false → ∀ e, sget e 2 = .bool false → Q2 .ret e H := by
      intro h0 e he
      refine hQ2 _ _ _ (hQ _ _ _ ?_)
      simp (maxSteps := 2000000) only [Zg, Zr, Zv, Xw, tup, he]
      rw [h0]
      exact ⟨rfl, hEH⟩
    have cc : Xi prog 107 [.agg #[Zd x, Zd y], .int .i64 10000000000] H (.bool (chB 10000000000 (x, y))) := chance_call (by decide)
    refine Zm fun C hC => ?_
    refine Ze fun N16 hN16 => ?_
    simp (maxSteps := 2000000) only [↓Za, ↓Zb, ↓Zc, vup, List.map_cons, List.map_nil, cond_true, cond_false, aop, Zg, ev, sput, Zf, unK, Nat.reduceBEq, Yv, List.nil_append, List.append_nil, loadF c5]
    refine (cc).mono ?_
    rintro _ H2 ⟨rfl, rfl⟩
    refine hN16 [(0, v), (2, .bool false), (3, Zd (m : Nat)), (5, .pointer (some ⟨hp.length, 0, none⟩)), (7, v), (8, Zd ps.length), (9, Zd (k : Nat)), (15, .bool (!chB 10000000000 (x, y)))] _ _ ?_ (by simp (maxSteps := 2000000) only [vup, cond_true, cond_false, Nat.reduceBEq])
    clear hN16
    try clear N16
    refine Zk ?_
    cases hch : chB 10000000000 (x, y) with
    | false =>
      simp (maxSteps := 2000000) only [↓Za, ↓Zw, ↓Zz, ↓Zb, ↓Zc, ↓vdn, vup, cond_true, cond_false, aop, Zg, Zr, ev, sput, Zf, Nat.reduceBEq]
      refine none0 ?_ _ rfl
      rw [chB_okP] at hch
      rcases Bool.and_eq_false_iff.1 hch with h1 | h1
      · rw [← hmul, mulTo_no h1]; rfl
      · have h2 : (ps.all fun p => decide (p.1 ≤ p.2)) = false := by
          rw [List.all_eq_false]; exact ⟨_, hmem, by simpa using h1⟩
        rw [h2, Bool.and_false]
    | true =>
      simp (maxSteps := 2000000) only [↓Zu, ↓vdn, vup, cond_true, cond_false, Zg, ev, Nat.reduceBEq]
      rw [chB_okP, Bool.and_eq_true] at hch
      obtain ⟨hok, hxy1⟩ := hch
      have hxy2 : x ≤ y := by simpa using hxy1
      have hok' := hok
      simp only [okP, Bool.and_eq_true, decide_eq_true_eq] at hok'
      obtain ⟨n, hn⟩ : ∃ n : Nat, y = n := ⟨y.toNat, by omega⟩
      subst hn
      have hn0 : 0 < n := by omega
      have hgp := Nat.gcd_pos_of_pos_left n hm0
      have hg0 : ¬ ((Nat.gcd m n : Nat) : Int) = 0 := by omega
      have q1 := quoD (x := n) (show n < 9223372036854775808 by omega) (Nat.gcd_dvd_right m n)
      have hd0 : 0 < n / Nat.gcd m n := Nat.div_pos (Nat.le_of_dvd hn0 (Nat.gcd_dvd_right _ _)) hgp
      have hd0' : ¬ ((n / Nat.gcd m n : Nat) : Int) = 0 := by omega
      have q2 : quoV .i64 10000000000 ((n / Nat.gcd m n : Nat) : Int) = ((10000000000 / (n / Nat.gcd m n) : Nat) : Int) := by
        generalize n / Nat.gcd m n = d
        have h5 : (10000000000 : Int).tdiv ((d : Nat) : Int) = ((10000000000 / d : Nat) : Int) := by rw [Int.tdiv_eq_ediv_of_nonneg (by omega)]; rfl
        have h6 := Nat.div_le_self 10000000000 d
        rw [quoV, h5]
        generalize 10000000000 / d = z at h6 ⊢
        exact wrap_id (by omega) (by omega)
      have el : Nat.lcm m n = m * (n / Nat.gcd m n) := by rw [Nat.lcm, Nat.mul_div_assoc _ (Nat.gcd_dvd_right _ _)]
      have hgt := lcm_gt' hm0 hn0
      have gc : Xi prog 88 [Zd (m : Nat), Zd (n : Nat)] H2 _ := gcd_call (a := (m : Int)) (b := (n : Int)) (.inl (by omega)) (by omega)
      rw [Int.natAbs_natCast, Int.natAbs_natCast] at gc
      rw [mulTo] at hmul
      refine hC [(0, v), (2, .bool false), (3, Zd (m : Nat)), (5, .pointer (some ⟨hp.length, 0, none⟩)), (7, v), (8, Zd ps.length), (9, Zd (k : Nat))] _ _ ?_ (by simp (maxSteps := 2000000) only [vup, cond_true, cond_false, Nat.reduceBEq])
      clear hC
      try clear C
      refine Ze fun N17 hN17 => ?_
      simp only [q75_7]
      refine Xv [(5, 1)] (by kernel_rfl) (by kernel_rfl) (by kernel_rfl) (by kernel_rfl) ?_
      simp (maxSteps := 2000000) only [↓Yr, ↓vdn, vup, List.map_cons, List.map_nil, cond_true, cond_false, aop, Zg, ev, sput, Zf, Yg, Yl, Nat.reduceBEq, Nat.reduceAdd, tyf, fA1, loadF1 c5, Yv, List.nil_append, List.append_nil]
      refine ⟨_, _, gc, rfl, ?_⟩
      simp (maxSteps := 2000000) only [vup, ne_eq, hg0, not_false_eq_true, q1]
      refine hN17 [(0, v), (2, .bool false), (3, Zd (m : Nat)), (5, .pointer (some ⟨hp.length, 0, none⟩)), (6, Zd (n / Nat.gcd m n : Nat)), (7, v), (8, Zd ps.length), (9, Zd (k : Nat))] _ _ ?_ (by simp (maxSteps := 2000000) only [vup, cond_true, cond_false, Nat.reduceBEq])
      clear hN17
      try clear N17
      refine Ze fun N18 hN18 => ?_
      by_cases hbig : 10000000000 < Nat.lcm m n
      · have hb2 : (m : Int) > ((10000000000 / (n / Nat.gcd m n) : Nat) : Int) := by have := hgt.2 hbig; omega
        rw [if_neg (by rw [Int.natAbs_natCast]; omega)] at hmul
        simp (maxSteps := 2000000) only [↓Za, ↓Zw, ↓Zz, ↓Zb, ↓Zc, ↓vdn, vup, cond_true, cond_false, aop, Zg, Zr, ev, sput, Zf, Yg, Yl, Nat.reduceBEq, ne_eq, hd0', not_false_eq_true, q2, hb2]
        exact none0 (by rw [← hmul]; rfl) _ rfl
      · have hb2 : ¬ (m : Int) > ((10000000000 / (n / Nat.gcd m n) : Nat) : Int) := by
          intro hc
          exact hbig (hgt.1 (by omega))
        rw [if_pos ⟨hok, by rw [Int.natAbs_natCast]; omega⟩, Int.natAbs_natCast] at hmul
        have m1 : mulV .i64 (m : Int) ((n / Nat.gcd m n : Nat) : Int) = ((Nat.lcm m n : Nat) : Int) := by
          rw [mulN (by rw [← Int.natCast_mul, ← el]; omega), el, Int.natCast_mul]
        simp (maxSteps := 2000000) only [↓Za, ↓Zu, ↓Zw, ↓Zb, ↓Zc, ↓vdn, vup, cond_true, cond_false, aop, Zg, ev, sput, Zf, Yg, Yl, Nat.reduceBEq, ne_eq, hd0', not_false_eq_true, q2, hb2]
        refine hN18 [(0, v), (2, .bool false), (3, Zd (m : Nat)), (5, .pointer (some ⟨hp.length, 0, none⟩)), (6, Zd (n / Nat.gcd m n : Nat)), (7, v), (8, Zd ps.length), (9, Zd (k : Nat))] _ _ ?_ (by simp (maxSteps := 2000000) only [vup, cond_true, cond_false, Nat.reduceBEq])
        clear hN18
        try clear N18
        refine Zk ?_
        simp (maxSteps := 2000000) only [↓Za, ↓Zb, ↓Zc, vup, cond_true, cond_false, aop, Zg, Zr, ev, sput, Zf, Yg, Yl, Nat.reduceBEq, m1]
        refine hB [(0, v), (2, .bool false), (3, Zd (Nat.lcm m n : Nat)), (6, Zd (n / Nat.gcd m n : Nat)), (7, v), (8, Zd ps.length), (9, Zd (k : Nat))] _ _ ?_ (by simp (maxSteps := 2000000) only [vup, cond_true, cond_false, Nat.reduceBEq])
        clear hB
        try clear B
        refine Zk ?_
        simp (maxSteps := 2000000) only [↓Za, ↓Zb, ↓Zc, vup, cond_true, cond_false, aop, ev, sput, Zf, Yg, Yl, Nat.reduceBEq, add1 (show k < 9223372036854775807 by omega)]
        refine hQ2 _ _ _ ⟨(k + 1, Nat.lcm m n, H2), ⟨hk', Nat.lcm_pos hm0 hn0, by simp only; omega, hmul, ?_, hEH⟩, by simp only; omega, by simp (maxSteps := 2000000) only [vup, cond_true, cond_false, Nat.reduceBEq], rfl⟩
        intro p hp'
        simp only [take_snoc (d := ((0, 0) : Int × Int)) hk', hxy] at hp'
        rcases List.mem_append.1 hp' with h3 | h3
        · exact hall p h3
        · simp at h3; subst h3; simp only; omega
  · obtain rfl : k = ps.length := by omega
    rw [List.drop_length, mulTo] at hmul
    rw [List.take_length] at hall
    refine Ze fun N19 hN19 => ?_
    simp (maxSteps := 2000000) only [↓Za, ↓Zb, ↓Zc, vup, cond_true, cond_false, aop, Zg, ev, sput, Zf, Yg, Yl, Nat.reduceBEq, hin]
    refine hN19 [(0, v), (2, .bool false), (3, Zd (m : Nat)), (7, v), (8, Zd ps.length), (9, Zd ps.length), (10, .bool false)] _ _ ?_ (by simp (maxSteps := 2000000) only [vup, cond_true, cond_false, Nat.reduceBEq])
    clear hN19
    try clear N19
    refine Ze fun N20 hN20 => ?_
    simp (maxSteps := 2000000) only [↓Xa, ↓vdn, vup, cond_true, cond_false, Zg, ev, Nat.reduceBEq]
    refine hQ2 _ _ _ (hQ _ _ _ ?_)
    simp (maxSteps := 2000000) only [Zg, Zr, Zv, if_true]
    refine hM [(0, v), (2, .bool false), (3, Zd (m : Nat)), (7, v), (8, Zd ps.length), (9, Zd ps.length), (10, .bool false)] _ _ ?_ (by simp (maxSteps := 2000000) only [vup, cond_true, cond_false, Nat.reduceBEq])
    clear hM
    try clear M
    refine Zk ?_
    simp (maxSteps := 2000000) only [↓Za, ↓Zw, ↓Zz, ↓Zb, ↓Zc, vup, cond_true, cond_false, aop, Zg, ev, sput, Zf, Nat.reduceBEq, Zv, Xw, tup]
    refine ⟨?_, hE⟩
    have h2 : (ps.all fun p => decide (p.1 ≤ p.2)) = true := by
      rw [List.all_eq_true]; exact fun p hp => by simp [hall p hp]
    rw [h2, ← hmul]
    simp; omega
end Go.Proofs.Try.Am

namespace Go.Proofs.Try.Am
open Go.Am Bq
set_option maxRecDepth 100000
set_option maxHeartbeats 1000000

theorem frV_q {p : Int × Int} (h : ofQ (toQ p) = p) : frV p.1 p.2 = qV (toQ p) := by
  conv => lhs; rw [← h]
  rfl
theorem plus_fits [Tabs prog] {h : Zh} {a b : Rat} {k : Int} {N A B : Nat} (hN : 0 < N) (hN2 : N < 9223372036854775808) (da : a.den ∣ N) (db : b.den ∣ N) (a1 : -(A : Rat) ≤ a) (a2 : a ≤ A) (b1 : -(B : Rat) ≤ b) (b2 : b ≤ B)
    (hh : (A + k.natAbs * B) * N < 9223372036854775808) : Xi prog 71 [qV a, Zd k, qV b] h (qV (a + k * b)) := by
  obtain ⟨x, hx⟩ := rp_of hN da
  obtain ⟨y, hy⟩ := rp_of hN db
  have h1 := hx.bound a1 a2
  have h2 := hy.bound b1 b2
  refine plus_call hx hy ?_ hN2
  rw [Int.natAbs_mul]
  have h3 : k.natAbs * y.natAbs ≤ k.natAbs * (B * N) := Nat.mul_le_mul_left _ h2
  rw [Nat.add_mul, Nat.mul_assoc] at hh
  omega

section
theorem s116_callW [Tabs Try.prog] {args : List Value} {h : Zh} {Q : Value → Zh → Prop} (hsz : args.length ≤ 19) (hk : AWS Try.prog 19 s116 (Zv Try.prog [.tmp 4] Q) (Zt 0 args) h) : ACall Try.prog 116 args h Q :=
  Yn Try.func116 rfl (enters_of Try.func116 (by kernel_rfl) rfl) rfl rfl (by decide) s116_strip s116_ok hsz hk
theorem idxF_call [Tabs prog] {h : Zh} {v : Value} {ps : List (Int × Int)} {g : FuncId} {cap : Array Value} {f : Int × Int → Bool} (hv : PairSl h v ps) (hl : ps.length < 9223372036854775808)
    (hc : ∀ h', Ext (fun _ => False) h h' → ∀ p ∈ ps, Xi prog g ([frV p.1 p.2] ++ cap.toList) h' (.bool (f p))) : ACall prog 116 [v, .func (.func g) #[] cap] h fun r h' => h' = h ∧ ∃ i : Int, r = Zd i ∧ decide (0 ≤ i) = ps.any f := by
  refine s116_callW (by simp) ?_
  simp only [s116]
  refine Ze fun N1 hN1 => ?_
  simp (maxSteps := 2000000) only [↓Za, ↓Zb, ↓Zc, vup, cond_false, aop, Zg, Zt, ev, sput, Zf, Nat.reduceBEq, Nat.reduceAdd]
  refine hN1 [(0, v), (1, .func (.func g) #[] cap), (4, .int .i64 0)] _ _ ?_ (by simp (maxSteps := 2000000) only [vup, cond_true, cond_false, Nat.reduceBEq])
  clear hN1
  try clear N1
  refine Zm fun Z hZ => ?_
  refine Ze fun N2 hN2 => ?_
  simp (maxSteps := 2000000) only [↓Za, ↓Zb, ↓Zc, vup, List.map_cons, List.map_nil, cond_true, cond_false, aop, Zg, ev, sput, Zf, Zl, Nat.reduceBEq, tyf, hv.len]
  refine hN2 [(0, v), (1, .func (.func g) #[] cap), (4, .int .i64 0), (6, v), (7, Zd ps.length), (8, .int .i64 0)] _ _ ?_ (by simp (maxSteps := 2000000) only [vup, cond_true, cond_false, Nat.reduceBEq])
  clear hN2
  try clear N2
  refine Zn ?_
  refine Zs fun Q hQ => ?_
  refine Yu (γ := Nat) (fun k => k ≤ ps.length ∧ ∀ p ∈ ps.take k, f p = false)
    (fun k => ([(0, v), (1, .func (.func g) #[] cap), (4, .int .i64 0), (6, v), (7, Zd ps.length), (8, Zd (k : Nat))], h)) (fun k => ps.length - k) 0 ⟨Nat.zero_le _, by simp⟩ (by simp (maxSteps := 2000000) only [vup, cond_true, cond_false, Nat.reduceBEq, Int.natCast_zero]) rfl ?_
  rintro k ⟨hk, hall⟩
  refine Zs fun Q2 hQ2 => ?_
  simp only [l116_0]
  by_cases hin : (k : Int) < ps.length
  · have hk' : k < ps.length := by omega
    obtain ⟨⟨x, y⟩, hxy⟩ : ∃ p, ps.getD k (0, 0) = p := ⟨_, rfl⟩
    have hmem : (x, y) ∈ ps := hxy ▸ Vs hk'
    refine Ze fun N3 hN3 => ?_
    simp (maxSteps := 2000000) only [↓Za, ↓Zb, ↓Zc, vup, cond_true, cond_false, aop, Zg, ev, sput, Zf, Yg, Yl, Nat.reduceBEq, hin]
    refine hN3 [(0, v), (1, .func (.func g) #[] cap), (4, .int .i64 0), (6, v), (7, Zd ps.length), (8, Zd (k : Nat)), (9, .bool true)] _ _ ?_ (by simp (maxSteps := 2000000) only [vup, cond_true, cond_false, Nat.reduceBEq])
    clear hN3
    try clear N3
    refine Ze fun N4 hN4 => ?_
    simp (maxSteps := 2000000) only [↓Zu, ↓vdn, vup, cond_true, cond_false, Zg, ev, Nat.reduceBEq]
    refine hN4 [(0, v), (1, .func (.func g) #[] cap), (4, .int .i64 0), (6, v), (7, Zd ps.length), (8, Zd (k : Nat))] _ _ ?_ (by simp (maxSteps := 2000000) only [vup, cond_true, cond_false, Nat.reduceBEq])
    clear hN4
    try clear N4
    refine Zm fun B hB => ?_
    refine Zn ?_
    refine Ze fun N5 hN5 => ?_
    simp (maxSteps := 2000000) only [↓Za, ↓Zb, ↓Zc, vup, cond_true, cond_false, aop, Zg, ev, sput, Zf, Nat.reduceBEq]
    refine hN5 [(0, v), (1, .func (.func g) #[] cap), (4, .int .i64 0), (5, Zd (k : Nat)), (6, v), (7, Zd ps.length), (8, Zd (k : Nat))] _ _ ?_ (by simp (maxSteps := 2000000) only [vup, cond_true, cond_false, Nat.reduceBEq])
    clear hN5
    try clear N5
    refine Ze fun N6 hN6 => ?_
    simp (maxSteps := 2000000) only [↓Za, ↓Zb, ↓Zc, vup, List.map_cons, List.map_nil, cond_true, cond_false, aop, Zg, ev, sput, Zf, Nat.reduceBEq, hv.idx el_47 Vk hk', hv.load shp_26 hk', hxy, Yv, List.nil_append]
    refine (show Xi prog g ([.agg #[Zd x, Zd y]] ++ cap.toList) h (.bool (f (x, y))) from hc h (Ext.refl _ _) _ hmem).mono ?_
    rintro _ h ⟨rfl, rfl⟩
    refine hN6 [(0, v), (1, .func (.func g) #[] cap), (4, .int .i64 0), (5, Zd (k : Nat)), (6, v), (7, Zd ps.length), (8, Zd (k : Nat)), (16, .bool (f (x, y)))] _ _ ?_ (by simp (maxSteps := 2000000) only [vup, cond_true, cond_false, Nat.reduceBEq])
    clear hN6
    try clear N6
    refine Zk ?_
    cases hf : f (x, y) with
    | true =>
      simp (maxSteps := 2000000) only [↓Za, ↓Zw, ↓Zz, ↓Zb, ↓Zc, ↓vdn, vup, cond_true, cond_false, aop, Zg, Zr, ev, sput, Zf, Nat.reduceBEq]
      refine hQ2 _ _ _ (hQ _ _ _ ?_)
      simp (maxSteps := 2000000) only [vup, cond_true, cond_false, Zg, Zr, Nat.reduceBEq, Zv, Xw, tup]
      exact ⟨_, rfl, by rw [show ps.any f = true from List.any_eq_true.2 ⟨_, hmem, hf⟩]; simp⟩
    | false =>
      simp (maxSteps := 2000000) only [↓Zu, ↓vdn, vup, cond_true, cond_false, Zg, Zr, ev, Nat.reduceBEq]
      refine hB [(0, v), (1, .func (.func g) #[] cap), (4, .int .i64 0), (6, v), (7, Zd ps.length), (8, Zd (k : Nat))] _ _ ?_ (by simp (maxSteps := 2000000) only [vup, cond_true, cond_false, Nat.reduceBEq])
      clear hB
      try clear B
      refine Zk ?_
      simp (maxSteps := 2000000) only [↓Za, ↓Zb, ↓Zc, vup, cond_true, cond_false, aop, ev, sput, Zf, Yg, Yl, Nat.reduceBEq, add1 (show k < 9223372036854775807 by omega)]
      refine hQ2 _ _ _ ⟨k + 1, ⟨hk', fun p hp => ?_⟩, by omega, by simp (maxSteps := 2000000) only [vup, cond_true, cond_false, Nat.reduceBEq], rfl⟩
      rw [take_snoc (d := ((0, 0) : Int × Int)) hk', hxy] at hp
      rcases List.mem_append.1 hp with h3 | h3
      · exact hall p h3
      · simp at h3; subst h3; exact hf
  · obtain rfl : k = ps.length := by omega
    refine Ze fun N7 hN7 => ?_
    simp (maxSteps := 2000000) only [↓Za, ↓Zb, ↓Zc, vup, cond_true, cond_false, aop, Zg, ev, sput, Zf, Yg, Yl, Nat.reduceBEq, hin]
    refine hN7 [(0, v), (1, .func (.func g) #[] cap), (4, .int .i64 0), (6, v), (7, Zd ps.length), (8, Zd ps.length), (9, .bool false)] _ _ ?_ (by simp (maxSteps := 2000000) only [vup, cond_true, cond_false, Nat.reduceBEq])
    clear hN7
    try clear N7
    refine Ze fun N8 hN8 => ?_
    simp (maxSteps := 2000000) only [↓Xa, ↓vdn, vup, cond_true, cond_false, Zg, ev, Nat.reduceBEq]
    refine hQ2 _ _ _ (hQ _ _ _ ?_)
    simp (maxSteps := 2000000) only [Zg, Zr, Zv, if_true]
    refine hZ [(0, v), (1, .func (.func g) #[] cap), (4, .int .i64 0), (6, v), (7, Zd ps.length), (8, Zd ps.length), (9, .bool false)] _ _ ?_ (by simp (maxSteps := 2000000) only [vup, cond_true, cond_false, Nat.reduceBEq])
    clear hZ
    try clear Z
    refine Zk ?_
    simp (maxSteps := 2000000) only [↓Za, ↓Zw, ↓Zz, ↓Zb, ↓Zc, vup, cond_true, cond_false, aop, Zg, ev, sput, Zf, Nat.reduceBEq, Zv, Xw, tup]
    rw [List.take_length] at hall
    exact ⟨_, rfl, by rw [show ps.any f = false from List.any_eq_false.2 fun p hp => by simp [hall p hp]]; decide⟩
end

theorem s101_callW [Tabs Try.prog] {args : List Value} {h : Zh} {Q : Value → Zh → Prop} (hsz : args.length ≤ 9) (hk : AWS Try.prog 9 s101 (Zv Try.prog [.tmp 4] Q) (Zt 0 args) h) : ACall Try.prog 101 args h Q :=
  Yn Try.func101 rfl (enters_of Try.func101 (by kernel_rfl) rfl) rfl rfl (by decide) s101_strip s101_ok hsz hk
theorem hasF_call [Tabs prog] {h : Zh} {v : Value} {ps : List (Int × Int)} {g : FuncId} {cap : Array Value} {f : Int × Int → Bool} (hv : PairSl h v ps) (hl : ps.length < 9223372036854775808)
    (hc : ∀ h', Ext (fun _ => False) h h' → ∀ p ∈ ps, Xi prog g ([frV p.1 p.2] ++ cap.toList) h' (.bool (f p))) : Xi prog 101 [v, .func (.func g) #[] cap] h (.bool (ps.any f)) := by
  refine s101_callW (by simp) ?_
  refine Zk ?_
  simp (maxSteps := 2000000) only [s101, ↓Za, ↓Zw, ↓Zz, ↓Zb, ↓Zc, vup, List.map_cons, List.map_nil, cond_true, cond_false, aop, Zg, Zt, ev, sput, Zf, Yg, Yl, Nat.reduceBEq, Nat.reduceAdd, Zv, Xw, tup, tyf, Yv, List.nil_append, List.append_nil]
  refine (idxF_call hv hl hc).mono ?_
  rintro _ h1 ⟨rfl, i, rfl, hi⟩
  simp (maxSteps := 2000000) only [vup, hi]

theorem any_not (f : Int × Int → Bool) (ps : List (Int × Int)) : (!ps.any fun p => !f p) = ps.all f := by
  rw [List.all_eq_not_any_not]
theorem s61_callW [Tabs Try.prog] {args : List Value} {h : Zh} {Q : Value → Zh → Prop} (hsz : args.length ≤ 26) (hk : AWS Try.prog 26 s61 (Zv Try.prog [.cell 4 26] Q) (Zt 0 args) h) : ACall Try.prog 61 args h Q :=
  Yn Try.func61 rfl (enters_of Try.func61 (by kernel_rfl) rfl) rfl rfl (by decide) s61_strip s61_ok hsz hk
theorem of_call [Tabs prog] {h : Zh} {v : Value} {evt N : Nat} {ps : List (Int × Int)} (hv : PairSl h v ps) (hl : ps.length ≤ 100) (hvl : Vld ps) (hev : evt < 9223372036854775808) (hN : 0 < N) (hN2 : N ≤ 10000000000000)
    (hq : ∀ k, k < ps.length → 0 ≤ fq ps k ∧ fq ps k ≤ 1 ∧ (fq ps k).den ∣ N) : Xi prog 61 [v, Zd (evt : Nat)] h (qV (Zo (inEv (fq ps) evt) ps.length)) := by
  have hq2 : ∀ k, k < ps.length → 0 ≤ inEv (fq ps) evt k ∧ inEv (fq ps) evt k ≤ 1 ∧ (inEv (fq ps) evt k).den ∣ N := fun k hk => by
    rw [inEv]; split
    · exact hq k hk
    · exact ⟨Rat.le_refl, by decide, Nat.one_dvd _⟩
  have hs : ∀ k, k ≤ ps.length → 0 ≤ Zo (inEv (fq ps) evt) k ∧ Zo (inEv (fq ps) evt) k ≤ (100 : Nat) ∧ (Zo (inEv (fq ps) evt) k).den ∣ N := fun k hk => by
    refine ⟨sumTo_nonneg fun i hi => (hq2 i (by omega)).1, ?_, sumTo_den hN fun i hi => (hq2 i (by omega)).2.2⟩
    have : ∀ j, j ≤ k → Zo (inEv (fq ps) evt) j ≤ (j : Nat) := by
      intro j
      induction j with
      | zero => intro _; exact Rat.le_refl
      | succ j ih =>
        intro hj
        have h1 := ih (by omega)
        have h2 := (hq2 j (by omega)).2.1
        rw [Zo]; push_cast; grind
    refine Rat.le_trans (this k (Nat.le_refl _)) ?_
    exact_mod_cast (show k ≤ 100 by omega)
  refine ACall.forget (low_frV _ _) ?_
  refine s61_callW (by simp) ?_
  simp only [s61]
  refine Ze fun N9 hN9 => ?_
  simp (maxSteps := 2000000) only [↓Za, ↓Zb, ↓Zc, vup, cond_false, aop, Zg, Zt, sput, Zf, Nat.reduceBEq, Nat.reduceAdd, tyf, Xm, Yi]
  refine hN9 [(0, v), (1, Zd (evt : Nat)), (4, .pointer (some ⟨h.length, 0, none⟩))] _ _ ?_ (by simp (maxSteps := 2000000) only [vup, cond_true, cond_false, Nat.reduceBEq])
  clear hN9
  try clear N9
  refine Ze fun N10 hN10 => ?_
  simp (maxSteps := 2000000) only [↓Za, ↓Zb, ↓Zc, vup, List.map_cons, List.map_nil, cond_true, cond_false, aop, Zg, ev, sput, Zf, Nat.reduceBEq, Yv, List.nil_append, List.append_nil]
  refine ((show Xi prog 70 [.int .i64 0] (h ++ [z0]) (qV ((0 : Int) : Rat)) from Vp)).mono ?_
  rintro _ H1 ⟨rfl, hH1⟩
  have h1l : H1.length = h.length + 1 := by rw [hH1]; simp
  have q0 : qV ((0 : Int) : Rat) = .agg #[Zd 0, Zd 1] := rfl
  have n5 : (H1 ++ [Blk.cells [.int .i64 0, .int .i64 0] 26 false])[H1.length]? = some z0 := Zy _ _
  simp (maxSteps := 2000000) only [tyf, Xm, Yi, q0, Vy n5 rfl, Wf]
  rw [h1l]
  obtain ⟨H0, hH0⟩ : ∃ H0, H0 = H1 ++ [fC 0 1] := ⟨_, rfl⟩
  have d4 : H0[h.length]? = some z0 := by rw [hH0, hH1]; exact b2_0 ..
  have d5 : H0[h.length + 1]? = some (fC 0 1) := by rw [hH0, hH1]; exact b2_1 ..
  have dE : Ext (fun _ => False) h H0 := by rw [hH0, hH1]; exact e2 ..
  rw [← hH0]
  refine hN10 [(0, v), (1, Zd (evt : Nat)), (4, .pointer (some ⟨h.length, 0, none⟩)), (5, .pointer (some ⟨h.length + 1, 0, none⟩))] _ _ ?_ (by simp (maxSteps := 2000000) only [vup, cond_true, cond_false, Nat.reduceBEq])
  clear hN10
  try clear N10
  refine Zm fun Z hZ => ?_
  refine Ze fun N11 hN11 => ?_
  simp (maxSteps := 2000000) only [↓Za, ↓Zb, ↓Zc, vup, List.map_cons, List.map_nil, cond_true, cond_false, aop, Zg, ev, sput, Zf, Zl, Nat.reduceBEq, tyf, hv.len]
  refine hN11 [(0, v), (1, Zd (evt : Nat)), (4, .pointer (some ⟨h.length, 0, none⟩)), (5, .pointer (some ⟨h.length + 1, 0, none⟩)), (9, v), (10, Zd ps.length), (11, .int .i64 0)] _ _ ?_ (by simp (maxSteps := 2000000) only [vup, cond_true, cond_false, Nat.reduceBEq])
  clear hN11
  try clear N11
  refine Zn ?_
  refine Zs fun Q hQ => ?_
  refine Yu (γ := Nat × Zh) (fun s => s.1 ≤ ps.length ∧ Ext (fun _ => False) h s.2 ∧ s.2[h.length]? = some z0 ∧ s.2[h.length + 1]? = some (fC (Zo (inEv (fq ps) evt) s.1).num (Zo (inEv (fq ps) evt) s.1).den))
    (fun s => ([(0, v), (1, Zd (evt : Nat)), (4, .pointer (some ⟨h.length, 0, none⟩)), (5, .pointer (some ⟨h.length + 1, 0, none⟩)), (9, v), (10, Zd ps.length), (11, Zd (s.1 : Nat))], s.2)) (fun s => ps.length - s.1) (0, H0) ⟨Nat.zero_le _, dE, d4, d5⟩ (by simp (maxSteps := 2000000) only [vup, cond_true, cond_false, Nat.reduceBEq, Int.natCast_zero]) rfl ?_
  rintro ⟨k, hp⟩ ⟨hk, hE, k4, k5⟩
  simp only at hk hE k4 k5
  refine Zs fun Q2 hQ2 => ?_
  simp only [l61_0]
  by_cases hin : (k : Int) < ps.length
  · have hk' : k < ps.length := by omega
    have hvp := hv.ext hE
    obtain ⟨⟨x, y⟩, hxy⟩ : ∃ p, ps.getD k (0, 0) = p := ⟨_, rfl⟩
    have hmem : (x, y) ∈ ps := hxy ▸ Vs hk'
    have hxq := frV_q (hvl _ hmem)
    have hfq : fq ps k = toQ (x, y) := by rw [fq, hxy]
    have ht := testV (y := k) hev
    obtain ⟨s1, s2, s3⟩ := hs k hk
    obtain ⟨t1, t2, t3⟩ := hq k hk'
    have hnext : Zo (inEv (fq ps) evt) (k + 1) = Zo (inEv (fq ps) evt) k + if evt.testBit k then fq ps k else 0 := rfl
    obtain ⟨H, hH⟩ : ∃ H, H = hp ++ [fC x y] := ⟨_, rfl⟩
    have c7 : H[hp.length]? = some (fC x y) := by rw [hH]; exact Zy _ _
    have c4 : H[h.length]? = some z0 := by rw [hH]; exact Xu k4 _
    have c5 : H[h.length + 1]? = some (fC (Zo (inEv (fq ps) evt) k).num (Zo (inEv (fq ps) evt) k).den) := by rw [hH]; exact Xu k5 _
    have hEH : Ext (fun _ => False) h H := by rw [hH]; exact hE.trans (Ext.app _ _ _)
    refine Ze fun N12 hN12 => ?_
    simp (maxSteps := 2000000) only [↓Za, ↓Zb, ↓Zc, vup, cond_true, cond_false, aop, Zg, ev, sput, Zf, Yg, Yl, Nat.reduceBEq, hin]
    refine hN12 [(0, v), (1, Zd (evt : Nat)), (4, .pointer (some ⟨h.length, 0, none⟩)), (5, .pointer (some ⟨h.length + 1, 0, none⟩)), (9, v), (10, Zd ps.length), (11, Zd (k : Nat)), (12, .bool true)] _ _ ?_ (by simp (maxSteps := 2000000) only [vup, cond_true, cond_false, Nat.reduceBEq])
    clear hN12
    try clear N12
    refine Ze fun N13 hN13 => ?_
    simp (maxSteps := 2000000) only [↓Zu, ↓vdn, vup, cond_true, cond_false, Zg, ev, Nat.reduceBEq]
    refine hN13 [(0, v), (1, Zd (evt : Nat)), (4, .pointer (some ⟨h.length, 0, none⟩)), (5, .pointer (some ⟨h.length + 1, 0, none⟩)), (9, v), (10, Zd ps.length), (11, Zd (k : Nat))] _ _ ?_ (by simp (maxSteps := 2000000) only [vup, cond_true, cond_false, Nat.reduceBEq])
    clear hN13
    try clear N13
    refine Zm fun B hB => ?_
    refine Zn ?_
    refine Ze fun N14 hN14 => ?_
    simp (maxSteps := 2000000) only [↓Za, ↓Zb, ↓Zc, vup, cond_true, cond_false, aop, Zg, ev, sput, Zf, Nat.reduceBEq, tyf, hvp.idx el_90 Vk hk', hvp.load shp_26 hk', hxy, Xm, Yi, Vy (Zy hp z0) rfl, Wf]
    rw [← hH]
    refine hN14 [(0, v), (1, Zd (evt : Nat)), (4, .pointer (some ⟨h.length, 0, none⟩)), (5, .pointer (some ⟨h.length + 1, 0, none⟩)), (6, Zd (k : Nat)), (7, .pointer (some ⟨hp.length, 0, none⟩)), (9, v), (10, Zd ps.length), (11, Zd (k : Nat))] _ _ ?_ (by simp (maxSteps := 2000000) only [vup, cond_true, cond_false, Nat.reduceBEq])
    clear hN14
    try clear N14
    have fin : ∀ e h2, Ext (fun _ => False) h h2 → h2[h.length]? = some z0 → h2[h.length + 1]? = some (fC (Zo (inEv (fq ps) evt) (k + 1)).num (Zo (inEv (fq ps) evt) (k + 1)).den) → ELe e [(0, v), (1, Zd (evt : Nat)), (4, .pointer (some ⟨h.length, 0, none⟩)), (5, .pointer (some ⟨h.length + 1, 0, none⟩)), (9, v), (10, Zd ps.length), (11, Zd (k : Nat))] → B e h2 := by
      intro e h2 g1 g2 g3 he
      refine hB _ _ _ ?_ he
      refine Zk ?_
      simp (maxSteps := 2000000) only [↓Za, ↓Zb, ↓Zc, vup, cond_true, cond_false, aop, ev, sput, Zf, Yg, Yl, Nat.reduceBEq, add1 (show k < 9223372036854775807 by omega)]
      exact hQ2 _ _ _ ⟨(k + 1, h2), ⟨hk', g1, g2, g3⟩, by simp only; omega, by simp (maxSteps := 2000000) only [vup, cond_true, cond_false, Nat.reduceBEq], rfl⟩
    refine Ze fun N15 hN15 => ?_
    simp (maxSteps := 2000000) only [↓Za, ↓Zb, ↓Zc, vup, cond_true, cond_false, aop, Zg, ev, sput, Zf, Yg, Yl, Nat.reduceBEq, ht, beq1]
    refine hN15 [(0, v), (1, Zd (evt : Nat)), (4, .pointer (some ⟨h.length, 0, none⟩)), (5, .pointer (some ⟨h.length + 1, 0, none⟩)), (6, Zd (k : Nat)), (7, .pointer (some ⟨hp.length, 0, none⟩)), (9, v), (10, Zd ps.length), (11, Zd (k : Nat)), (20, .bool (evt.testBit k))] _ _ ?_ (by simp (maxSteps := 2000000) only [vup, cond_true, cond_false, Nat.reduceBEq])
    clear hN15
    try clear N15
    refine Zk ?_
    cases hbit : evt.testBit k with
    | false =>
      rw [hbit, if_neg (by decide), Rat.add_zero] at hnext
      simp (maxSteps := 2000000) only [↓Zu, ↓vdn, vup, cond_true, cond_false, Zg, Zr, ev, Nat.reduceBEq]
      exact fin _ _ hEH c4 (by rw [hnext]; exact c5) (by simp (maxSteps := 2000000) only [vup, cond_true, cond_false, Nat.reduceBEq])
    | true =>
      rw [hbit, if_pos rfl] at hnext
      have pl := plus_fits (h := H) (k := 1) (A := 100) (B := 1) hN (by omega) s3 t3 (Rat.le_trans (by decide) s1) s2 (Rat.le_trans (by decide) t1) t2 (by simp; omega)
      rw [show (((1 : Int)) : Rat) = 1 from rfl, Rat.one_mul, ← hnext, hfq, ← hxq] at pl
      obtain ⟨q, hqq⟩ : ∃ q, Zo (inEv (fq ps) evt) (k + 1) = q := ⟨_, rfl⟩
      rw [hqq] at pl fin
      obtain ⟨s, hss⟩ : ∃ s, Zo (inEv (fq ps) evt) k = s := ⟨_, rfl⟩
      rw [hss] at pl c5
      simp (maxSteps := 2000000) only [↓Za, ↓Zb, ↓Zc, ↓vdn, vup, List.map_cons, List.map_nil, cond_true, cond_false, aop, Zg, Zr, ev, sput, Zf, Nat.reduceBEq, loadF c5, loadF c7, Yv, List.nil_append, List.append_nil]
      refine (show Xi prog 71 [.agg #[Zd s.num, Zd s.den], Zd 1, .agg #[Zd x, Zd y]] H (qV q) from pl).mono ?_
      rintro _ H ⟨rfl, rfl⟩
      simp (maxSteps := 2000000) only [qV, frV, Vy c5 rfl]
      refine fin _ _ (hEH.set_ge (by omega) _) (by rw [List.getElem?_set_ne (by omega)]; exact c4) (Wg (Yh c5) _) (by simp (maxSteps := 2000000) only [vup, cond_true, cond_false, Nat.reduceBEq])
  · obtain rfl : k = ps.length := by omega
    refine Ze fun N16 hN16 => ?_
    simp (maxSteps := 2000000) only [↓Za, ↓Zb, ↓Zc, vup, cond_true, cond_false, aop, Zg, ev, sput, Zf, Yg, Yl, Nat.reduceBEq, hin]
    refine hN16 [(0, v), (1, Zd (evt : Nat)), (4, .pointer (some ⟨h.length, 0, none⟩)), (5, .pointer (some ⟨h.length + 1, 0, none⟩)), (9, v), (10, Zd ps.length), (11, Zd ps.length), (12, .bool false)] _ _ ?_ (by simp (maxSteps := 2000000) only [vup, cond_true, cond_false, Nat.reduceBEq])
    clear hN16
    try clear N16
    refine Ze fun N17 hN17 => ?_
    simp (maxSteps := 2000000) only [↓Xa, ↓vdn, vup, cond_true, cond_false, Zg, ev, Nat.reduceBEq]
    refine hQ2 _ _ _ (hQ _ _ _ ?_)
    simp (maxSteps := 2000000) only [Zg, Zr, Zv, if_true]
    refine hZ [(0, v), (1, Zd (evt : Nat)), (4, .pointer (some ⟨h.length, 0, none⟩)), (5, .pointer (some ⟨h.length + 1, 0, none⟩)), (9, v), (10, Zd ps.length), (11, Zd ps.length), (12, .bool false)] _ _ ?_ (by simp (maxSteps := 2000000) only [vup, cond_true, cond_false, Nat.reduceBEq])
    clear hZ
    try clear Z
    obtain ⟨q, hqq⟩ : ∃ q, Zo (inEv (fq ps) evt) ps.length = q := ⟨_, rfl⟩
    rw [hqq] at k5 ⊢
    refine Zk ?_
    simp (maxSteps := 2000000) only [↓Za, ↓Zw, ↓Zz, ↓Zb, ↓Zc, vup, cond_true, cond_false, aop, Zg, ev, sput, Zf, Nat.reduceBEq, Zv, Xw, tup, loadF k5, Vy k4 rfl, loadF (Wg (Yh k4) _)]
    exact ⟨rfl, hE.set_ge (Nat.le_refl _) _⟩
end Go.Proofs.Try.Am
