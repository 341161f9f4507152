/-
  order: the reference's Close.
-/
import Derived.Test.YtnjacpfahhjpiaaDoorOrClose
import Derived.Test.YtnjacpfahhjpiaaDoorClose
set_option linter.all false
namespace Go.Proofs.Tryd.Am
open Go.Am Ord
set_option maxRecDepth 100000
set_option maxHeartbeats 1000000

theorem above_call' [Tabs prog] {h : Heap} {v : Value} {o : List Int} (hv : IntSl h v o) {i j : Nat} (hi : i < o.length) (h0 : 0 ≤ o.getD i 0) (h1 : o.getD i 0 < 9223372036854775808) : APure prog 71 [v, vint i, vint j] h (.bool (ab o i j)) := by
  refine s71_call (by simp) ?_
  simp (config := {maxSteps := 2000000}) only [s71, ↓aw_region, ↓aw_skip, ↓aw_seq, ↓aw_block, ↓aw_exit, ↓aw_ret, ↓sops_nil, ↓sops_go, ↓dops_nil, ↓dopsX_nil, ↓dopsR_nil, ↓vdn, vup, extr_20, extr_21, extr_30, extr_31, extr_32, List.map_cons, List.map_nil, cond_true, cond_false, aop, aThen, aBlock, argEnv, ev, sput, sputO, binK, binI, unK, builtinK, pickK, Nat.reduceBEq, Nat.reduceAdd, Int.reduceBEq, Int.reduceBNe, Int.reduceLT, aPost, resK, tup, tyf, hv.idx el_22 esz_3 hi, hv.load shp_3 hi, Int.natCast_nonneg, testA h0 h1, beq1]
theorem ownS {h : Heap} {m n : Nat} {o : List Int} (hb : h[m]? = some (.ints o 3 false)) (hn : o.length = n) : IntSl h (.slice (some ⟨m, 0, none⟩) n n) o :=
  .inr ⟨m, 0, none, n, o.map vint, 3, false, by rw [hn], by omega, by simp [view, hb, Blk.view], fun i hi => by simp [List.getD, hi]⟩
theorem sets_rng {n : Nat} {o : List Int} (hs : Sets n o) (hn : n ≤ 6) {i : Nat} (hi : i < n) : 0 ≤ o.getD i 0 ∧ o.getD i 0 < 64 := by
  obtain ⟨h1, h2⟩ := hs.2 i hi
  have := pow6 hn
  rw [h1]; omega

theorem rclose_call [Tabs prog] {h : Heap} {n : Nat} {v : Value} {ps : List (Int × Int)} (hv : PairSl h v ps) (hprs : prs n ps = true) :
    ACall prog 39 [vint n, v] h fun r h' => Ext (fun _ => False) h h' ∧ ∃ s e, r = .tuple #[s, .int .i64 e] ∧ CloseR n ps s e h' := by
  have hp0 := hprs
  simp only [prs, Bool.and_eq_true, decide_eq_true_eq] at hp0
  obtain ⟨⟨hall, hn1, hn6⟩, hl30⟩ := hp0
  have hn : 1 ≤ n ∧ n ≤ 6 := by omega
  have hpw := pow6 hn.2
  have hok : ∀ k, k < ps.length → ∃ i j : Nat, ps.getD k (0, 0) = ((i : Int), (j : Int)) ∧ i < n ∧ j < n := fun k hk => by
    rw [← okPTo_all] at hall
    have := List.all_eq_true.1 hall k (List.mem_range.2 hk)
    generalize ps.getD k (0, 0) = p at this ⊢
    obtain ⟨x, y⟩ := p
    simp only [okP, Bool.and_eq_true, decide_eq_true_eq] at this
    exact ⟨x.toNat, y.toNat, by rw [Int.toNat_of_nonneg (by omega), Int.toNat_of_nonneg (by omega)], by omega, by omega⟩
  have hpn : ∀ p ∈ natP ps, p.1 < n ∧ p.2 < n := fun p hp => by
    obtain ⟨q, hq, rfl⟩ := List.mem_map.1 hp
    obtain ⟨k, hk, rfl⟩ := List.mem_iff_getElem.1 hq
    obtain ⟨i, j, h1, h2, h3⟩ := hok k hk
    rw [List.getD, List.getElem?_eq_getElem hk, Option.getD_some] at h1
    rw [h1]; simp only [Int.toNat_natCast]; omega
  have hcr := close_rnds hn hpn
  obtain ⟨P, hP⟩ : ∃ P, P = pairsL (zeros n) (natP ps) := ⟨_, rfl⟩
  obtain ⟨hPs, hPb⟩ := pairsL_spec (n := n) (natP ps) (zeros n) zeros_sets hpn
  rw [← hP] at hPs hPb hcr
  have hPl : ∀ p ∈ natP ps, ab P p.1 p.2 = true := fun p hp => (hPb _ _).2 (.inr hp)
  have hrs : ∀ t, Sets n (rnds n P t) := fun t => (rnds_good (l := natP ps) hPs hPl t).1.sets
  refine s39_call (by simp) ?_
  simp only [s39]
  refine aw_cut fun N hN => ?_
  simp (config := {maxSteps := 2000000}) only [s39, ↓aw_region, ↓aw_skip, ↓aw_seq, ↓aw_block, ↓aw_exit, ↓aw_ret, ↓sops_nil, ↓sops_go, ↓dops_nil, ↓dopsX_nil, ↓dopsR_nil, ↓vdn, vup, extr_20, extr_21, extr_30, extr_31, extr_32, List.map_cons, List.map_nil, cond_true, cond_false, aop, aThen, aBlock, argEnv, ev, sput, sputO, binK, binI, unK, builtinK, pickK, Nat.reduceBEq, Nat.reduceAdd, Int.reduceBEq, Int.reduceBNe, Int.reduceLT, aPost, resK, tup, tyf]
  refine hN _ _ ?_
  clear hN N
  obtain ⟨m, hm⟩ : ∃ m, m = h.length := ⟨_, rfl⟩
  refine aw_cut fun N hN => ?_
  have hm0 : (0 : Int) ≤ ((n : Nat) : Int) := Int.natCast_nonneg _
  have hm1 : ((n : Nat) : Int) ≤ 35184372088832 := by omega
  simp (config := {maxSteps := 2000000}) only [s39, ↓aw_region, ↓aw_skip, ↓aw_seq, ↓aw_block, ↓aw_exit, ↓aw_ret, ↓sops_nil, ↓sops_go, ↓dops_nil, ↓dopsX_nil, ↓dopsR_nil, ↓vdn, vup, extr_20, extr_21, extr_30, extr_31, extr_32, List.map_cons, List.map_nil, cond_true, cond_false, aop, aThen, aBlock, argEnv, ev, sput, sputO, binK, binI, unK, builtinK, pickK, Nat.reduceBEq, Nat.reduceAdd, Int.reduceBEq, Int.reduceBNe, Int.reduceLT, aPost, resK, tup, tyf, makeI el_22 zero_3 info_3 hm0 hm1, Int.toNat_natCast]
  rw [← hm]
  refine hN _ _ ?_
  clear hN N
  obtain ⟨S, hS⟩ : ∃ S : Value, S = .slice (some ⟨m, 0, none⟩) n n := ⟨_, rfl⟩
  obtain ⟨H, hH⟩ : ∃ H, H = h ++ [Blk.ints (List.replicate n 0) 3 false] := ⟨_, rfl⟩
  rw [← hS, ← hH]
  have b0 : H[m]? = some (.ints (zeros n) 3 false) := by rw [hH, hm]; exact get_new _ _
  have hE0 : Ext (fun _ => False) h H := by rw [hH]; exact Ext.app _ _ _
  have hvH : PairSl H v ps := hv.ext hE0
  clear hH
  have hidx : ∀ {k : Nat} {K : Value → Prop}, k < n → idxAddrK prog 22 S (vint (k : Nat)) K = K (.pointer (some ⟨m, k, none⟩)) := fun {k K} hk => by rw [hS]; exact idxS el_22 esz_3 hk
  have hint : ∀ {hp : Heap} {o : List Int}, hp[m]? = some (.ints o 3 false) → o.length = n → IntSl hp S o := fun hb hol => by rw [hS]; exact ownS hb hol
  -- what a change of the block keeps
  have upd : ∀ {hp : Heap} {o o' : List Int}, hp[m]? = some (.ints o 3 false) → Ext (fun _ => False) h hp → (hp.set m (.ints o' 3 false))[m]? = some (.ints o' 3 false) ∧ Ext (fun _ => False) h (hp.set m (.ints o' 3 false)) := fun {hp o o'} hb hE =>
    ⟨get_set (get_lt hb) _, by simp; exact hE.1, fun q hq _ => by rw [List.getElem?_set_ne (by omega)]; exact hE.2 q hq id⟩
  -- the pairs as they are
  refine aw_cut fun N hN => ?_
  simp (config := {maxSteps := 2000000}) only [s39, ↓aw_region, ↓aw_skip, ↓aw_seq, ↓aw_block, ↓aw_exit, ↓aw_ret, ↓sops_nil, ↓sops_go, ↓dops_nil, ↓dopsX_nil, ↓dopsR_nil, ↓vdn, vup, extr_20, extr_21, extr_30, extr_31, extr_32, List.map_cons, List.map_nil, cond_true, cond_false, aop, aThen, aBlock, argEnv, ev, sput, sputO, binK, binI, unK, builtinK, pickK, Nat.reduceBEq, Nat.reduceAdd, Int.reduceBEq, Int.reduceBNe, Int.reduceLT, aPost, resK, tup, tyf, hvH.len, ↓aw_loop_eq]
  refine aws_hide fun Q hQ => ?_
  refine aw_loop (γ := Nat × List Int × Heap) (fun s => s.1 ≤ ps.length ∧ Sets n s.2.1 ∧ P = pairsL s.2.1 (natP (ps.drop s.1)) ∧ s.2.2[m]? = some (.ints s.2.1 3 false) ∧ Ext (fun _ => False) h s.2.2)
    (fun s => ([(0, vint n), (1, v), (4, .slice none 0 0), (5, .int .i64 0), (6, S), (15, v), (16, vint ps.length), (17, vint s.1)], s.2.2)) (fun s => ps.length - s.1) (0, zeros n, H) ⟨Nat.zero_le _, zeros_sets, by rw [List.drop_zero]; exact hP, b0, hE0⟩ (by simp (config := {maxSteps := 2000000}) only [↓aw_region, ↓aw_skip, ↓aw_seq, ↓aw_block, ↓aw_exit, ↓aw_ret, ↓sops_nil, ↓sops_go, ↓dops_nil, ↓dopsX_nil, ↓dopsR_nil, ↓vdn, vup, extr_20, extr_21, extr_30, extr_31, extr_32, List.map_cons, List.map_nil, cond_true, cond_false, aop, aThen, aBlock, argEnv, ev, sput, sputO, binK, binI, unK, builtinK, pickK, Nat.reduceBEq, Nat.reduceAdd, Int.reduceBEq, Int.reduceBNe, Int.reduceLT, aPost, resK, tup, tyf, Int.natCast_zero]) rfl ?_
  rintro ⟨k, o, hp⟩ ⟨hk, hso, hcl, e0, hE⟩
  simp only at hk hso hcl e0 hE
  have hvp : PairSl hp v ps := hv.ext hE
  refine aw_hide fun Q2 hQ2 => ?_
  by_cases hkn : (k : Int) < ps.length
  · have hkn' : k < ps.length := by omega
    obtain ⟨i, j, hij, hi, hj⟩ := hok k hkn'
    have hdrop : natP (ps.drop k) = (i, j) :: natP (ps.drop (k + 1)) := by
      rw [List.drop_eq_getElem_cons hkn']
      have : ps[k] = ((i : Int), (j : Int)) := by rw [← hij, List.getD, List.getElem?_eq_getElem hkn', Option.getD_some]
      rw [this, natP, List.map_cons]; rfl
    rw [hdrop, pairsL] at hcl
    have hld := hvp.load shp_33 hkn'
    rw [hij] at hld
    have c0 := get_new hp (Blk.cells [.int .i64 0, .int .i64 0] 33 false)
    obtain ⟨G, hG⟩ : ∃ G, G = (hp ++ [Blk.cells [.int .i64 0, .int .i64 0] 33 false]).set hp.length (.cells [vint (i : Nat), vint (j : Nat)] 33 false) := ⟨_, rfl⟩
    have c1 : G[hp.length]? = some (.cells [.int .i64 (i : Nat), .int .i64 (j : Nat)] 33 false) := by rw [hG]; exact get_set (by simp) _
    have hEG : Ext (fun _ => False) hp G := ⟨by rw [hG]; simp, fun q hq _ => by rw [hG, List.getElem?_set_ne (by omega), List.getElem?_append_left hq]⟩
    have g0 : G[m]? = some (.ints o 3 false) := (hEG.2 _ (get_lt e0) id).trans e0
    obtain ⟨hov, hol⟩ := hso.2 i hi
    have hlo : i < o.length := by rw [hso.1]; exact hi
    have h2j : 2 ^ j < 2 ^ n := Nat.pow_lt_pow_right (by decide) hj
    have hor : bitsV .or .i64 (o.getD i 0) (2 ^ j) = ((bt o i ||| 2 ^ j : Nat) : Int) := by
      rw [hov, ← pow_cast]; exact bitsV_or (by omega) (by omega)
    simp only [l39_0]
    simp (config := {maxSteps := 2000000}) only [s39, ↓aw_region, ↓aw_skip, ↓aw_seq, ↓aw_block, ↓aw_exit, ↓aw_ret, ↓sops_nil, ↓sops_go, ↓dops_nil, ↓dopsX_nil, ↓dopsR_nil, ↓vdn, vup, extr_20, extr_21, extr_30, extr_31, extr_32, List.map_cons, List.map_nil, cond_true, cond_false, aop, aThen, aBlock, argEnv, ev, sput, sputO, binK, binI, unK, builtinK, pickK, Nat.reduceBEq, Nat.reduceAdd, Int.reduceBEq, Int.reduceBNe, Int.reduceLT, aPost, resK, tup, tyf, hkn, hvp.idx el_52 esz_33 hkn', hld, allocK, newPtr, zero_33]
    rw [pst c0 rfl, ← hG]
    refine aw_drawX [] (by kernel_rfl) (by kernel_rfl) (by kernel_rfl) (by kernel_rfl) ?_
    simp (config := {maxSteps := 2000000}) only [s39, ↓aw_region, ↓aw_skip, ↓aw_seq, ↓aw_block, ↓aw_exit, ↓aw_ret, ↓sops_nil, ↓sops_go, ↓dops_nil, ↓dopsX_nil, ↓dopsR_nil, ↓vdn, vup, extr_20, extr_21, extr_30, extr_31, extr_32, List.map_cons, List.map_nil, cond_true, cond_false, aop, aThen, aBlock, argEnv, ev, sput, sputO, binK, binI, unK, builtinK, pickK, Nat.reduceBEq, Nat.reduceAdd, Int.reduceBEq, Int.reduceBNe, Int.reduceLT, aPost, resK, tup, tyf, pidx0, pidx1, pl0 c1, pl1 c1, hidx hi, loadX g0 shp_3 hlo, shl1 (show j ≤ 62 by omega), hor, storeX g0 shp_3 hlo, add1 (show k < 9223372036854775807 by omega)]
    obtain ⟨u0, u1⟩ := upd (o' := o.set i ((bt o i ||| 2 ^ j : Nat) : Int)) g0 (hE.trans hEG)
    exact hQ2 _ _ _ ⟨(k + 1, _, _), ⟨by simp only; omega, set_sets hso (Nat.or_lt_two_pow hol h2j), hcl, u0, u1⟩, by simp only; omega, by simp (config := {maxSteps := 2000000}) only [↓aw_region, ↓aw_skip, ↓aw_seq, ↓aw_block, ↓aw_exit, ↓aw_ret, ↓sops_nil, ↓sops_go, ↓dops_nil, ↓dopsX_nil, ↓dopsR_nil, ↓vdn, vup, extr_20, extr_21, extr_30, extr_31, extr_32, List.map_cons, List.map_nil, cond_true, cond_false, aop, aThen, aBlock, argEnv, ev, sput, sputO, binK, binI, unK, builtinK, pickK, Nat.reduceBEq, Nat.reduceAdd, Int.reduceBEq, Int.reduceBNe, Int.reduceLT, aPost, resK, tup, tyf], rfl⟩
  obtain rfl : k = ps.length := by omega
  rw [List.drop_length, show natP [] = [] from rfl, pairsL] at hcl
  subst hcl
  simp (config := {maxSteps := 2000000}) only [s39, ↓aw_region, ↓aw_skip, ↓aw_seq, ↓aw_block, ↓aw_exit, ↓aw_ret, ↓sops_nil, ↓sops_go, ↓dops_nil, ↓dopsX_nil, ↓dopsR_nil, ↓vdn, vup, extr_20, extr_21, extr_30, extr_31, extr_32, List.map_cons, List.map_nil, cond_true, cond_false, aop, aThen, aBlock, argEnv, ev, sput, sputO, binK, binI, unK, builtinK, pickK, Nat.reduceBEq, Nat.reduceAdd, Int.reduceBEq, Int.reduceBNe, Int.reduceLT, aPost, resK, tup, tyf, l39_0, Int.lt_irrefl]
  refine hQ2 _ _ _ (hQ _ _ _ ?_)
  simp (config := {maxSteps := 2000000}) only [s39, ↓aw_region, ↓aw_skip, ↓aw_seq, ↓aw_block, ↓aw_exit, ↓aw_ret, ↓sops_nil, ↓sops_go, ↓dops_nil, ↓dopsX_nil, ↓dopsR_nil, ↓vdn, vup, extr_20, extr_21, extr_30, extr_31, extr_32, List.map_cons, List.map_nil, cond_true, cond_false, aop, aThen, aBlock, argEnv, ev, sput, sputO, binK, binI, unK, builtinK, pickK, Nat.reduceBEq, Nat.reduceAdd, Int.reduceBEq, Int.reduceBNe, Int.reduceLT, aPost, resK, tup, tyf]
  refine hN _ _ ?_
  clear hN N hQ2 hQ Q2 Q hkn hk hvp hP hPb hso
  -- the rounds
  refine aw_cut fun N hN => ?_
  simp (config := {maxSteps := 2000000}) only [s39, ↓aw_region, ↓aw_skip, ↓aw_seq, ↓aw_block, ↓aw_exit, ↓aw_ret, ↓sops_nil, ↓sops_go, ↓dops_nil, ↓dopsX_nil, ↓dopsR_nil, ↓vdn, vup, extr_20, extr_21, extr_30, extr_31, extr_32, List.map_cons, List.map_nil, cond_true, cond_false, aop, aThen, aBlock, argEnv, ev, sput, sputO, binK, binI, unK, builtinK, pickK, Nat.reduceBEq, Nat.reduceAdd, Int.reduceBEq, Int.reduceBNe, Int.reduceLT, aPost, resK, tup, tyf, ↓aw_loop_eq]
  refine aws_hide fun Q hQ => ?_
  refine aw_loop (γ := Nat × Heap) (fun s => s.1 ≤ n ∧ s.2[m]? = some (.ints (rnds n P s.1) 3 false) ∧ Ext (fun _ => False) h s.2)
    (fun s => ([(0, vint n), (1, v), (4, .slice none 0 0), (5, .int .i64 0), (6, S), (32, vint n), (33, vint s.1)], s.2)) (fun s => n - s.1) (0, hp) ⟨Nat.zero_le _, e0, hE⟩ (by simp (config := {maxSteps := 2000000}) only [↓aw_region, ↓aw_skip, ↓aw_seq, ↓aw_block, ↓aw_exit, ↓aw_ret, ↓sops_nil, ↓sops_go, ↓dops_nil, ↓dopsX_nil, ↓dopsR_nil, ↓vdn, vup, extr_20, extr_21, extr_30, extr_31, extr_32, List.map_cons, List.map_nil, cond_true, cond_false, aop, aThen, aBlock, argEnv, ev, sput, sputO, binK, binI, unK, builtinK, pickK, Nat.reduceBEq, Nat.reduceAdd, Int.reduceBEq, Int.reduceBNe, Int.reduceLT, aPost, resK, tup, tyf, Int.natCast_zero]) rfl ?_
  rintro ⟨t, hp2⟩ ⟨ht, e2, hE2⟩
  simp only at ht e2 hE2
  refine aw_hide fun Q2 hQ2 => ?_
  by_cases htn : (t : Int) < n
  · have htn' : t < n := by omega
    have hT := hrs t
    obtain ⟨T, hTe⟩ : ∃ T, T = rnds n P t := ⟨_, rfl⟩
    rw [← hTe] at hT e2
    simp only [l39_3]
    simp (config := {maxSteps := 2000000}) only [s39, ↓aw_region, ↓aw_skip, ↓aw_seq, ↓aw_block, ↓aw_exit, ↓aw_ret, ↓sops_nil, ↓sops_go, ↓dops_nil, ↓dopsX_nil, ↓dopsR_nil, ↓vdn, vup, extr_20, extr_21, extr_30, extr_31, extr_32, List.map_cons, List.map_nil, cond_true, cond_false, aop, aThen, aBlock, argEnv, ev, sput, sputO, binK, binI, unK, builtinK, pickK, Nat.reduceBEq, Nat.reduceAdd, Int.reduceBEq, Int.reduceBNe, Int.reduceLT, aPost, resK, tup, tyf, htn, (hint e2 hT.1).len, hT.1, ↓aw_loop_eq]
    refine aws_hide fun Q3 hQ3 => ?_
    refine aw_loop (γ := Nat × Heap) (fun s => s.1 ≤ n ∧ s.2[m]? = some (.ints (rndTo n T s.1) 3 false) ∧ Ext (fun _ => False) h s.2)
      (fun s => ([(0, vint n), (1, v), (4, .slice none 0 0), (5, .int .i64 0), (6, S), (32, vint n), (33, vint t), (36, vint n), (37, vint s.1)], s.2)) (fun s => n - s.1) (0, hp2) ⟨Nat.zero_le _, e2, hE2⟩ (by simp (config := {maxSteps := 2000000}) only [↓aw_region, ↓aw_skip, ↓aw_seq, ↓aw_block, ↓aw_exit, ↓aw_ret, ↓sops_nil, ↓sops_go, ↓dops_nil, ↓dopsX_nil, ↓dopsR_nil, ↓vdn, vup, extr_20, extr_21, extr_30, extr_31, extr_32, List.map_cons, List.map_nil, cond_true, cond_false, aop, aThen, aBlock, argEnv, ev, sput, sputO, binK, binI, unK, builtinK, pickK, Nat.reduceBEq, Nat.reduceAdd, Int.reduceBEq, Int.reduceBNe, Int.reduceLT, aPost, resK, tup, tyf, Int.natCast_zero]) rfl ?_
    rintro ⟨i, hp3⟩ ⟨hi, e3, hE3⟩
    simp only at hi e3 hE3
    refine aw_hide fun Q4 hQ4 => ?_
    have hU := (rndTo_good (l := natP ps) hT i hi).1.sets
    obtain ⟨U, hUe⟩ : ∃ U, U = rndTo n T i := ⟨_, rfl⟩
    rw [← hUe] at hU e3
    by_cases hin : (i : Int) < n
    · have hin' : i < n := by omega
      simp only [l39_2]
      simp (config := {maxSteps := 2000000}) only [s39, ↓aw_region, ↓aw_skip, ↓aw_seq, ↓aw_block, ↓aw_exit, ↓aw_ret, ↓sops_nil, ↓sops_go, ↓dops_nil, ↓dopsX_nil, ↓dopsR_nil, ↓vdn, vup, extr_20, extr_21, extr_30, extr_31, extr_32, List.map_cons, List.map_nil, cond_true, cond_false, aop, aThen, aBlock, argEnv, ev, sput, sputO, binK, binI, unK, builtinK, pickK, Nat.reduceBEq, Nat.reduceAdd, Int.reduceBEq, Int.reduceBNe, Int.reduceLT, aPost, resK, tup, tyf, hin, (hint e3 hU.1).len, hU.1, ↓aw_loop_eq]
      refine aws_hide fun Q5 hQ5 => ?_
      refine aw_loop (γ := Nat × Heap) (fun s => s.1 ≤ n ∧ s.2[m]? = some (.ints (rowTo U i s.1) 3 false) ∧ Ext (fun _ => False) h s.2)
        (fun s => ([(0, vint n), (1, v), (4, .slice none 0 0), (5, .int .i64 0), (6, S), (9, vint i), (32, vint n), (33, vint t), (36, vint n), (37, vint i), (41, vint n), (42, vint s.1)], s.2)) (fun s => n - s.1) (0, hp3) ⟨Nat.zero_le _, e3, hE3⟩ (by simp (config := {maxSteps := 2000000}) only [↓aw_region, ↓aw_skip, ↓aw_seq, ↓aw_block, ↓aw_exit, ↓aw_ret, ↓sops_nil, ↓sops_go, ↓dops_nil, ↓dopsX_nil, ↓dopsR_nil, ↓vdn, vup, extr_20, extr_21, extr_30, extr_31, extr_32, List.map_cons, List.map_nil, cond_true, cond_false, aop, aThen, aBlock, argEnv, ev, sput, sputO, binK, binI, unK, builtinK, pickK, Nat.reduceBEq, Nat.reduceAdd, Int.reduceBEq, Int.reduceBNe, Int.reduceLT, aPost, resK, tup, tyf, Int.natCast_zero]) rfl ?_
      rintro ⟨j, hp4⟩ ⟨hj, e4, hE4⟩
      simp only at hj e4 hE4
      refine aw_hide fun Q6 hQ6 => ?_
      have hR := (rowTo_good (l := natP ps) hU hin' j hj).1.sets
      have hnext : rowTo U i (j + 1) = cstep (rowTo U i j) i j := rfl
      obtain ⟨R, hRe⟩ : ∃ R, R = rowTo U i j := ⟨_, rfl⟩
      rw [← hRe] at hR e4 hnext
      by_cases hjn : (j : Int) < n
      · have hjn' : j < n := by omega
        have hri := sets_rng hR hn.2 hin'
        have hiR : i < R.length := by rw [hR.1]; exact hin'
        have hjR : j < R.length := by rw [hR.1]; exact hjn'
        obtain ⟨hiv, hil⟩ := hR.2 i hin'
        obtain ⟨hjv, hjl⟩ := hR.2 j hjn'
        simp only [l39_1]
        simp (config := {maxSteps := 2000000}) only [s39, ↓aw_region, ↓aw_skip, ↓aw_seq, ↓aw_block, ↓aw_exit, ↓aw_ret, ↓sops_nil, ↓sops_go, ↓dops_nil, ↓dopsX_nil, ↓dopsR_nil, ↓vdn, vup, extr_20, extr_21, extr_30, extr_31, extr_32, List.map_cons, List.map_nil, cond_true, cond_false, aop, aThen, aBlock, argEnv, ev, sput, sputO, binK, binI, unK, builtinK, pickK, Nat.reduceBEq, Nat.reduceAdd, Int.reduceBEq, Int.reduceBNe, Int.reduceLT, aPost, resK, tup, tyf, hjn, callK, List.nil_append, List.append_nil, List.toList_toArray, List.cons_append]
        refine (above_call' (hint e4 hR.1) hiR hri.1 (by omega)).mono ?_
        rintro _ hp5 ⟨rfl, rfl⟩
        cases hab : ab R i j with
        | false =>
          have hcs : cstep R i j = R := by rw [cstep, hab, if_neg (by decide)]
          simp (config := {maxSteps := 2000000}) only [s39, ↓aw_region, ↓aw_skip, ↓aw_seq, ↓aw_block, ↓aw_exit, ↓aw_ret, ↓sops_nil, ↓sops_go, ↓dops_nil, ↓dopsX_nil, ↓dopsR_nil, ↓vdn, vup, extr_20, extr_21, extr_30, extr_31, extr_32, List.map_cons, List.map_nil, cond_true, cond_false, aop, aThen, aBlock, argEnv, ev, sput, sputO, binK, binI, unK, builtinK, pickK, Nat.reduceBEq, Nat.reduceAdd, Int.reduceBEq, Int.reduceBNe, Int.reduceLT, aPost, resK, tup, tyf, hab, add1 (show j < 9223372036854775807 by omega)]
          exact hQ6 _ _ _ ⟨(j + 1, _), ⟨by simp only; omega, by simp only; rw [hnext, hcs]; exact e4, hE4⟩, by simp only; omega, by simp (config := {maxSteps := 2000000}) only [↓aw_region, ↓aw_skip, ↓aw_seq, ↓aw_block, ↓aw_exit, ↓aw_ret, ↓sops_nil, ↓sops_go, ↓dops_nil, ↓dopsX_nil, ↓dopsR_nil, ↓vdn, vup, extr_20, extr_21, extr_30, extr_31, extr_32, List.map_cons, List.map_nil, cond_true, cond_false, aop, aThen, aBlock, argEnv, ev, sput, sputO, binK, binI, unK, builtinK, pickK, Nat.reduceBEq, Nat.reduceAdd, Int.reduceBEq, Int.reduceBNe, Int.reduceLT, aPost, resK, tup, tyf], rfl⟩
        | true =>
          have hcs : cstep R i j = R.set i ((bt R i ||| bt R j : Nat) : Int) := by rw [cstep, hab, if_pos rfl]
          have hor : bitsV .or .i64 (R.getD i 0) (R.getD j 0) = ((bt R i ||| bt R j : Nat) : Int) := by rw [hiv, hjv]; exact bitsV_or (by omega) (by omega)
          simp (config := {maxSteps := 2000000}) only [s39, ↓aw_region, ↓aw_skip, ↓aw_seq, ↓aw_block, ↓aw_exit, ↓aw_ret, ↓sops_nil, ↓sops_go, ↓dops_nil, ↓dopsX_nil, ↓dopsR_nil, ↓vdn, vup, extr_20, extr_21, extr_30, extr_31, extr_32, List.map_cons, List.map_nil, cond_true, cond_false, aop, aThen, aBlock, argEnv, ev, sput, sputO, binK, binI, unK, builtinK, pickK, Nat.reduceBEq, Nat.reduceAdd, Int.reduceBEq, Int.reduceBNe, Int.reduceLT, aPost, resK, tup, tyf, hab]
          refine aw_drawX [] (by kernel_rfl) (by kernel_rfl) (by kernel_rfl) (by kernel_rfl) ?_
          simp (config := {maxSteps := 2000000}) only [s39, ↓aw_region, ↓aw_skip, ↓aw_seq, ↓aw_block, ↓aw_exit, ↓aw_ret, ↓sops_nil, ↓sops_go, ↓dops_nil, ↓dopsX_nil, ↓dopsR_nil, ↓vdn, vup, extr_20, extr_21, extr_30, extr_31, extr_32, List.map_cons, List.map_nil, cond_true, cond_false, aop, aThen, aBlock, argEnv, ev, sput, sputO, binK, binI, unK, builtinK, pickK, Nat.reduceBEq, Nat.reduceAdd, Int.reduceBEq, Int.reduceBNe, Int.reduceLT, aPost, resK, tup, tyf, hidx hin', hidx hjn', loadX e4 shp_3 hiR, loadX e4 shp_3 hjR, hor, storeX e4 shp_3 hiR, add1 (show j < 9223372036854775807 by omega)]
          obtain ⟨u0, u1⟩ := upd (o' := R.set i ((bt R i ||| bt R j : Nat) : Int)) e4 hE4
          exact hQ6 _ _ _ ⟨(j + 1, _), ⟨by simp only; omega, by simp only; rw [hnext, hcs]; exact u0, u1⟩, by simp only; omega, by simp (config := {maxSteps := 2000000}) only [↓aw_region, ↓aw_skip, ↓aw_seq, ↓aw_block, ↓aw_exit, ↓aw_ret, ↓sops_nil, ↓sops_go, ↓dops_nil, ↓dopsX_nil, ↓dopsR_nil, ↓vdn, vup, extr_20, extr_21, extr_30, extr_31, extr_32, List.map_cons, List.map_nil, cond_true, cond_false, aop, aThen, aBlock, argEnv, ev, sput, sputO, binK, binI, unK, builtinK, pickK, Nat.reduceBEq, Nat.reduceAdd, Int.reduceBEq, Int.reduceBNe, Int.reduceLT, aPost, resK, tup, tyf], rfl⟩
      · obtain rfl : j = n := by omega
        have hn2 : rndTo j T (i + 1) = R := by rw [hRe, hUe]; rfl
        simp (config := {maxSteps := 2000000}) only [s39, ↓aw_region, ↓aw_skip, ↓aw_seq, ↓aw_block, ↓aw_exit, ↓aw_ret, ↓sops_nil, ↓sops_go, ↓dops_nil, ↓dopsX_nil, ↓dopsR_nil, ↓vdn, vup, extr_20, extr_21, extr_30, extr_31, extr_32, List.map_cons, List.map_nil, cond_true, cond_false, aop, aThen, aBlock, argEnv, ev, sput, sputO, binK, binI, unK, builtinK, pickK, Nat.reduceBEq, Nat.reduceAdd, Int.reduceBEq, Int.reduceBNe, Int.reduceLT, aPost, resK, tup, tyf, l39_1, Int.lt_irrefl]
        refine hQ6 _ _ _ (hQ5 _ _ _ ?_)
        simp (config := {maxSteps := 2000000}) only [s39, ↓aw_region, ↓aw_skip, ↓aw_seq, ↓aw_block, ↓aw_exit, ↓aw_ret, ↓sops_nil, ↓sops_go, ↓dops_nil, ↓dopsX_nil, ↓dopsR_nil, ↓vdn, vup, extr_20, extr_21, extr_30, extr_31, extr_32, List.map_cons, List.map_nil, cond_true, cond_false, aop, aThen, aBlock, argEnv, ev, sput, sputO, binK, binI, unK, builtinK, pickK, Nat.reduceBEq, Nat.reduceAdd, Int.reduceBEq, Int.reduceBNe, Int.reduceLT, aPost, resK, tup, tyf, add1 (show i < 9223372036854775807 by omega)]
        exact hQ4 _ _ _ ⟨(i + 1, _), ⟨by simp only; omega, by simp only; rw [hn2]; exact e4, hE4⟩, by simp only; omega, by simp (config := {maxSteps := 2000000}) only [↓aw_region, ↓aw_skip, ↓aw_seq, ↓aw_block, ↓aw_exit, ↓aw_ret, ↓sops_nil, ↓sops_go, ↓dops_nil, ↓dopsX_nil, ↓dopsR_nil, ↓vdn, vup, extr_20, extr_21, extr_30, extr_31, extr_32, List.map_cons, List.map_nil, cond_true, cond_false, aop, aThen, aBlock, argEnv, ev, sput, sputO, binK, binI, unK, builtinK, pickK, Nat.reduceBEq, Nat.reduceAdd, Int.reduceBEq, Int.reduceBNe, Int.reduceLT, aPost, resK, tup, tyf], rfl⟩
    · obtain rfl : i = n := by omega
      have hn2 : rnds i P (t + 1) = U := by rw [hUe, hTe]; rfl
      simp (config := {maxSteps := 2000000}) only [s39, ↓aw_region, ↓aw_skip, ↓aw_seq, ↓aw_block, ↓aw_exit, ↓aw_ret, ↓sops_nil, ↓sops_go, ↓dops_nil, ↓dopsX_nil, ↓dopsR_nil, ↓vdn, vup, extr_20, extr_21, extr_30, extr_31, extr_32, List.map_cons, List.map_nil, cond_true, cond_false, aop, aThen, aBlock, argEnv, ev, sput, sputO, binK, binI, unK, builtinK, pickK, Nat.reduceBEq, Nat.reduceAdd, Int.reduceBEq, Int.reduceBNe, Int.reduceLT, aPost, resK, tup, tyf, l39_2, Int.lt_irrefl]
      refine hQ4 _ _ _ (hQ3 _ _ _ ?_)
      simp (config := {maxSteps := 2000000}) only [s39, ↓aw_region, ↓aw_skip, ↓aw_seq, ↓aw_block, ↓aw_exit, ↓aw_ret, ↓sops_nil, ↓sops_go, ↓dops_nil, ↓dopsX_nil, ↓dopsR_nil, ↓vdn, vup, extr_20, extr_21, extr_30, extr_31, extr_32, List.map_cons, List.map_nil, cond_true, cond_false, aop, aThen, aBlock, argEnv, ev, sput, sputO, binK, binI, unK, builtinK, pickK, Nat.reduceBEq, Nat.reduceAdd, Int.reduceBEq, Int.reduceBNe, Int.reduceLT, aPost, resK, tup, tyf, add1 (show t < 9223372036854775807 by omega)]
      exact hQ2 _ _ _ ⟨(t + 1, _), ⟨by simp only; omega, by simp only; rw [hn2]; exact e3, hE3⟩, by simp only; omega, by simp (config := {maxSteps := 2000000}) only [↓aw_region, ↓aw_skip, ↓aw_seq, ↓aw_block, ↓aw_exit, ↓aw_ret, ↓sops_nil, ↓sops_go, ↓dops_nil, ↓dopsX_nil, ↓dopsR_nil, ↓vdn, vup, extr_20, extr_21, extr_30, extr_31, extr_32, List.map_cons, List.map_nil, cond_true, cond_false, aop, aThen, aBlock, argEnv, ev, sput, sputO, binK, binI, unK, builtinK, pickK, Nat.reduceBEq, Nat.reduceAdd, Int.reduceBEq, Int.reduceBNe, Int.reduceLT, aPost, resK, tup, tyf], rfl⟩
  obtain rfl : t = n := by omega
  simp (config := {maxSteps := 2000000}) only [s39, ↓aw_region, ↓aw_skip, ↓aw_seq, ↓aw_block, ↓aw_exit, ↓aw_ret, ↓sops_nil, ↓sops_go, ↓dops_nil, ↓dopsX_nil, ↓dopsR_nil, ↓vdn, vup, extr_20, extr_21, extr_30, extr_31, extr_32, List.map_cons, List.map_nil, cond_true, cond_false, aop, aThen, aBlock, argEnv, ev, sput, sputO, binK, binI, unK, builtinK, pickK, Nat.reduceBEq, Nat.reduceAdd, Int.reduceBEq, Int.reduceBNe, Int.reduceLT, aPost, resK, tup, tyf, l39_3, Int.lt_irrefl]
  refine hQ2 _ _ _ (hQ _ _ _ ?_)
  simp (config := {maxSteps := 2000000}) only [s39, ↓aw_region, ↓aw_skip, ↓aw_seq, ↓aw_block, ↓aw_exit, ↓aw_ret, ↓sops_nil, ↓sops_go, ↓dops_nil, ↓dopsX_nil, ↓dopsR_nil, ↓vdn, vup, extr_20, extr_21, extr_30, extr_31, extr_32, List.map_cons, List.map_nil, cond_true, cond_false, aop, aThen, aBlock, argEnv, ev, sput, sputO, binK, binI, unK, builtinK, pickK, Nat.reduceBEq, Nat.reduceAdd, Int.reduceBEq, Int.reduceBNe, Int.reduceLT, aPost, resK, tup, tyf]
  refine hN _ _ ?_
  clear hN N hQ2 hQ Q2 Q htn ht
  -- whether one is above itself
  have hT := hrs t
  generalize rnds t P t = T at hT e2 hcr
  have hvT := hint e2 hT.1
  refine aw_cut fun N hN => ?_
  simp (config := {maxSteps := 2000000}) only [s39, ↓aw_region, ↓aw_skip, ↓aw_seq, ↓aw_block, ↓aw_exit, ↓aw_ret, ↓sops_nil, ↓sops_go, ↓dops_nil, ↓dopsX_nil, ↓dopsR_nil, ↓vdn, vup, extr_20, extr_21, extr_30, extr_31, extr_32, List.map_cons, List.map_nil, cond_true, cond_false, aop, aThen, aBlock, argEnv, ev, sput, sputO, binK, binI, unK, builtinK, pickK, Nat.reduceBEq, Nat.reduceAdd, Int.reduceBEq, Int.reduceBNe, Int.reduceLT, aPost, resK, tup, tyf, hvT.len, hT.1, ↓aw_loop_eq]
  refine aws_hide fun Q hQ => ?_
  refine aw_loop (γ := Nat) (fun k => k ≤ t ∧ ∀ q, q < k → ab T q q = false)
    (fun k => ([(0, vint t), (1, v), (4, .slice none 0 0), (5, .int .i64 0), (6, S), (62, S), (63, vint t), (64, vint k)], hp2)) (fun k => t - k) 0 ⟨Nat.zero_le _, fun _ h => by omega⟩ (by simp (config := {maxSteps := 2000000}) only [↓aw_region, ↓aw_skip, ↓aw_seq, ↓aw_block, ↓aw_exit, ↓aw_ret, ↓sops_nil, ↓sops_go, ↓dops_nil, ↓dopsX_nil, ↓dopsR_nil, ↓vdn, vup, extr_20, extr_21, extr_30, extr_31, extr_32, List.map_cons, List.map_nil, cond_true, cond_false, aop, aThen, aBlock, argEnv, ev, sput, sputO, binK, binI, unK, builtinK, pickK, Nat.reduceBEq, Nat.reduceAdd, Int.reduceBEq, Int.reduceBNe, Int.reduceLT, aPost, resK, tup, tyf, Int.natCast_zero]) rfl ?_
  rintro k ⟨hk, hno⟩
  refine aw_hide fun Q2 hQ2 => ?_
  by_cases hkn : (k : Int) < t
  · have hkn' : k < t := by omega
    have hrk := sets_rng hT hn.2 hkn'
    have hkT : k < T.length := by rw [hT.1]; exact hkn'
    cases hab : ab T k k with
    | true =>
      have hany : (List.range t).any (fun i => ab T i i) = true := List.any_eq_true.2 ⟨k, List.mem_range.2 hkn', hab⟩
      rw [hany, if_pos rfl] at hcr
      simp (config := {maxSteps := 2000000}) only [s39, ↓aw_region, ↓aw_skip, ↓aw_seq, ↓aw_block, ↓aw_exit, ↓aw_ret, ↓sops_nil, ↓sops_go, ↓dops_nil, ↓dopsX_nil, ↓dopsR_nil, ↓vdn, vup, extr_20, extr_21, extr_30, extr_31, extr_32, List.map_cons, List.map_nil, cond_true, cond_false, aop, aThen, aBlock, argEnv, ev, sput, sputO, binK, binI, unK, builtinK, pickK, Nat.reduceBEq, Nat.reduceAdd, Int.reduceBEq, Int.reduceBNe, Int.reduceLT, aPost, resK, tup, tyf, l39_4, hkn, hvT.idx el_22 esz_3 hkT, hvT.load shp_3 hkT, testA hrk.1 (show T.getD k 0 < 9223372036854775808 by omega), hab, if_true, Int.reduceBEq]
      refine hQ2 _ _ _ (hQ _ _ _ ?_)
      simp (config := {maxSteps := 2000000}) only [s39, ↓aw_region, ↓aw_skip, ↓aw_seq, ↓aw_block, ↓aw_exit, ↓aw_ret, ↓sops_nil, ↓sops_go, ↓dops_nil, ↓dopsX_nil, ↓dopsR_nil, ↓vdn, vup, extr_20, extr_21, extr_30, extr_31, extr_32, List.map_cons, List.map_nil, cond_true, cond_false, aop, aThen, aBlock, argEnv, ev, sput, sputO, binK, binI, unK, builtinK, pickK, Nat.reduceBEq, Nat.reduceAdd, Int.reduceBEq, Int.reduceBNe, Int.reduceLT, aPost, resK, tup, tyf]
      exact ⟨hE2, _, _, rfl, by rw [CloseR, hprs, if_pos rfl, Int.toNat_natCast, hcr]; exact ⟨rfl, rfl⟩⟩
    | false =>
      simp (config := {maxSteps := 2000000}) only [s39, ↓aw_region, ↓aw_skip, ↓aw_seq, ↓aw_block, ↓aw_exit, ↓aw_ret, ↓sops_nil, ↓sops_go, ↓dops_nil, ↓dopsX_nil, ↓dopsR_nil, ↓vdn, vup, extr_20, extr_21, extr_30, extr_31, extr_32, List.map_cons, List.map_nil, cond_true, cond_false, aop, aThen, aBlock, argEnv, ev, sput, sputO, binK, binI, unK, builtinK, pickK, Nat.reduceBEq, Nat.reduceAdd, Int.reduceBEq, Int.reduceBNe, Int.reduceLT, aPost, resK, tup, tyf, l39_4, hkn, hvT.idx el_22 esz_3 hkT, hvT.load shp_3 hkT, testA hrk.1 (show T.getD k 0 < 9223372036854775808 by omega), hab, if_false, Bool.false_eq_true, Int.reduceBEq, add1 (show k < 9223372036854775807 by omega)]
      refine hQ2 _ _ _ ⟨k + 1, ⟨by omega, fun q hq => ?_⟩, by omega, by simp (config := {maxSteps := 2000000}) only [↓aw_region, ↓aw_skip, ↓aw_seq, ↓aw_block, ↓aw_exit, ↓aw_ret, ↓sops_nil, ↓sops_go, ↓dops_nil, ↓dopsX_nil, ↓dopsR_nil, ↓vdn, vup, extr_20, extr_21, extr_30, extr_31, extr_32, List.map_cons, List.map_nil, cond_true, cond_false, aop, aThen, aBlock, argEnv, ev, sput, sputO, binK, binI, unK, builtinK, pickK, Nat.reduceBEq, Nat.reduceAdd, Int.reduceBEq, Int.reduceBNe, Int.reduceLT, aPost, resK, tup, tyf], rfl⟩
      by_cases hqk : q = k
      · rw [hqk]; exact hab
      · exact hno q (by omega)
  · obtain rfl : k = t := by omega
    have hany : (List.range k).any (fun i => ab T i i) = false := by
      rw [List.any_eq_false]; intro q hq; rw [hno q (List.mem_range.1 hq)]; decide
    rw [hany, if_neg (by decide)] at hcr
    simp (config := {maxSteps := 2000000}) only [s39, ↓aw_region, ↓aw_skip, ↓aw_seq, ↓aw_block, ↓aw_exit, ↓aw_ret, ↓sops_nil, ↓sops_go, ↓dops_nil, ↓dopsX_nil, ↓dopsR_nil, ↓vdn, vup, extr_20, extr_21, extr_30, extr_31, extr_32, List.map_cons, List.map_nil, cond_true, cond_false, aop, aThen, aBlock, argEnv, ev, sput, sputO, binK, binI, unK, builtinK, pickK, Nat.reduceBEq, Nat.reduceAdd, Int.reduceBEq, Int.reduceBNe, Int.reduceLT, aPost, resK, tup, tyf, l39_4, Int.lt_irrefl]
    refine hQ2 _ _ _ (hQ _ _ _ ?_)
    simp (config := {maxSteps := 2000000}) only [s39, ↓aw_region, ↓aw_skip, ↓aw_seq, ↓aw_block, ↓aw_exit, ↓aw_ret, ↓sops_nil, ↓sops_go, ↓dops_nil, ↓dopsX_nil, ↓dopsR_nil, ↓vdn, vup, extr_20, extr_21, extr_30, extr_31, extr_32, List.map_cons, List.map_nil, cond_true, cond_false, aop, aThen, aBlock, argEnv, ev, sput, sputO, binK, binI, unK, builtinK, pickK, Nat.reduceBEq, Nat.reduceAdd, Int.reduceBEq, Int.reduceBNe, Int.reduceLT, aPost, resK, tup, tyf]
    refine hN _ _ ?_
    simp (config := {maxSteps := 2000000}) only [s39, ↓aw_region, ↓aw_skip, ↓aw_seq, ↓aw_block, ↓aw_exit, ↓aw_ret, ↓sops_nil, ↓sops_go, ↓dops_nil, ↓dopsX_nil, ↓dopsR_nil, ↓vdn, vup, extr_20, extr_21, extr_30, extr_31, extr_32, List.map_cons, List.map_nil, cond_true, cond_false, aop, aThen, aBlock, argEnv, ev, sput, sputO, binK, binI, unK, builtinK, pickK, Nat.reduceBEq, Nat.reduceAdd, Int.reduceBEq, Int.reduceBNe, Int.reduceLT, aPost, resK, tup, tyf]
    exact ⟨hE2, _, _, rfl, by rw [CloseR, hprs, if_pos rfl, Int.toNat_natCast, hcr]; exact ⟨rfl, hvT⟩⟩
end Go.Proofs.Tryd.Am
