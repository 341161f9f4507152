/-
  order: Close.
-/
import Derived.Test.YtnjacpfahhjpiaaDoorOrPairs
set_option linter.all false
namespace Go.Proofs.Tryd.Am
open Go.Am Ord
set_option maxRecDepth 100000
set_option maxHeartbeats 1000000

def natP (ps : List (Int × Int)) : List (Nat × Nat) := ps.map fun p => (p.1.toNat, p.2.toNat)
/-- What Close hands back. -/
def CloseR (n : Int) (ps : List (Int × Int)) (s : Value) (e : Int) (h : Heap) : Prop :=
  if prs n ps = true then (match close (zeros n.toNat) (natP ps) with | none => e = 4 ∧ s = .slice none 0 0 | some o => e = 0 ∧ IntSl h s o) else e = 2 ∧ s = .slice none 0 0

theorem close_call [BitTab prog 1] {h : Heap} {n : Int} {v : Value} {ps : List (Int × Int)} (hv : PairSl h v ps) (hl : ps.length < 9223372036854775808) :
    ACall prog 36 [vint n, v] h fun r h' => Ext (fun _ => False) h h' ∧ ∃ s e, r = .tuple #[s, .int .i64 e] ∧ CloseR n ps s e h' := by
  refine s36_call (by simp) ?_
  simp only [s36]
  refine aw_cut fun N hN => ?_
  simp (config := {maxSteps := 2000000}) only [s36, ↓aw_region, ↓aw_skip, ↓aw_seq, ↓aw_block, ↓aw_exit, ↓aw_ret, ↓sops_nil, ↓sops_go, ↓dops_nil, ↓dopsX_nil, ↓dopsR_nil, ↓vdn, vup, extr_20, extr_21, extr_30, extr_31, extr_32, List.map_cons, List.map_nil, cond_true, cond_false, aop, aThen, aBlock, argEnv, ev, sput, sputO, binK, binI, unK, builtinK, pickK, Nat.reduceBEq, Nat.reduceAdd, Int.reduceBEq, Int.reduceBNe, Int.reduceLT, aPost, resK, tup, tyf]
  refine hN _ _ ?_
  clear hN N
  have bad : prs n ps = false → ∃ (s : Value) (e : Int), (Value.tuple #[.slice none 0 0, .int .i64 2]) = .tuple #[s, .int .i64 e] ∧ CloseR n ps s e h := fun hb => ⟨_, _, rfl, by rw [CloseR, hb, if_neg (by decide)]; exact ⟨rfl, rfl⟩⟩
  refine aw_cut fun N hN => ?_
  by_cases h1 : n < 1
  · have hb : prs n ps = false := by rw [prs, decide_eq_false (show ¬ 1 ≤ n by omega)]; simp
    simp (config := {maxSteps := 2000000}) only [s36, ↓aw_region, ↓aw_skip, ↓aw_seq, ↓aw_block, ↓aw_exit, ↓aw_ret, ↓sops_nil, ↓sops_go, ↓dops_nil, ↓dopsX_nil, ↓dopsR_nil, ↓vdn, vup, extr_20, extr_21, extr_30, extr_31, extr_32, List.map_cons, List.map_nil, cond_true, cond_false, aop, aThen, aBlock, argEnv, ev, sput, sputO, binK, binI, unK, builtinK, pickK, Nat.reduceBEq, Nat.reduceAdd, Int.reduceBEq, Int.reduceBNe, Int.reduceLT, aPost, resK, tup, tyf, h1]
    exact ⟨Ext.refl _ _, bad hb⟩
  by_cases h6 : 6 < n
  · have hb : prs n ps = false := by rw [prs, decide_eq_false (show ¬ n ≤ 6 by omega)]; simp
    simp (config := {maxSteps := 2000000}) only [s36, ↓aw_region, ↓aw_skip, ↓aw_seq, ↓aw_block, ↓aw_exit, ↓aw_ret, ↓sops_nil, ↓sops_go, ↓dops_nil, ↓dopsX_nil, ↓dopsR_nil, ↓vdn, vup, extr_20, extr_21, extr_30, extr_31, extr_32, List.map_cons, List.map_nil, cond_true, cond_false, aop, aThen, aBlock, argEnv, ev, sput, sputO, binK, binI, unK, builtinK, pickK, Nat.reduceBEq, Nat.reduceAdd, Int.reduceBEq, Int.reduceBNe, Int.reduceLT, aPost, resK, tup, tyf, h1, gt_iff_lt, h6]
    exact ⟨Ext.refl _ _, bad hb⟩
  by_cases h30 : (30 : Int) < ps.length
  · have hb : prs n ps = false := by rw [prs, decide_eq_false (show ¬ ps.length ≤ 30 by omega)]; simp
    simp (config := {maxSteps := 2000000}) only [s36, ↓aw_region, ↓aw_skip, ↓aw_seq, ↓aw_block, ↓aw_exit, ↓aw_ret, ↓sops_nil, ↓sops_go, ↓dops_nil, ↓dopsX_nil, ↓dopsR_nil, ↓vdn, vup, extr_20, extr_21, extr_30, extr_31, extr_32, List.map_cons, List.map_nil, cond_true, cond_false, aop, aThen, aBlock, argEnv, ev, sput, sputO, binK, binI, unK, builtinK, pickK, Nat.reduceBEq, Nat.reduceAdd, Int.reduceBEq, Int.reduceBNe, Int.reduceLT, aPost, resK, tup, tyf, h1, gt_iff_lt, h6, hv.len, h30]
    exact ⟨Ext.refl _ _, bad hb⟩
  simp (config := {maxSteps := 2000000}) only [s36, ↓aw_region, ↓aw_skip, ↓aw_seq, ↓aw_block, ↓aw_exit, ↓aw_ret, ↓sops_nil, ↓sops_go, ↓dops_nil, ↓dopsX_nil, ↓dopsR_nil, ↓vdn, vup, extr_20, extr_21, extr_30, extr_31, extr_32, List.map_cons, List.map_nil, cond_true, cond_false, aop, aThen, aBlock, argEnv, ev, sput, sputO, binK, binI, unK, builtinK, pickK, Nat.reduceBEq, Nat.reduceAdd, Int.reduceBEq, Int.reduceBNe, Int.reduceLT, aPost, resK, tup, tyf, h1, gt_iff_lt, h6, hv.len, h30]
  refine hN _ _ ?_
  clear hN N
  obtain ⟨n, rfl⟩ : ∃ k : Nat, n = k := ⟨n.toNat, by omega⟩
  have hn : 1 ≤ n ∧ n ≤ 6 := by omega
  have hzl : (zeros n).length = n := by simp [zeros]
  obtain ⟨m, hm⟩ : ∃ m, m = h.length := ⟨_, rfl⟩
  refine aw_cut fun N hN => ?_
  simp (config := {maxSteps := 2000000}) only [s36, ↓aw_region, ↓aw_skip, ↓aw_seq, ↓aw_block, ↓aw_exit, ↓aw_ret, ↓sops_nil, ↓sops_go, ↓dops_nil, ↓dopsX_nil, ↓dopsR_nil, ↓vdn, vup, extr_20, extr_21, extr_30, extr_31, extr_32, List.map_cons, List.map_nil, cond_true, cond_false, aop, aThen, aBlock, argEnv, ev, sput, sputO, binK, binI, unK, builtinK, pickK, Nat.reduceBEq, Nat.reduceAdd, Int.reduceBEq, Int.reduceBNe, Int.reduceLT, aPost, resK, tup, tyf, bldN, allocK, newPtr, zero_77, zeroN]
  rw [storeA (c := ordN 0) (vs := ordN n) (get_new _ _) (by rw [shp_77]; rfl) rfl rfl, ← hm, ordN_ord hn.2]
  obtain ⟨H, hH⟩ : ∃ H, H = (h ++ [Blk.cells (ordN 0) 77 false]).set m (.cells (ordC (zeros n)) 77 false) := ⟨_, rfl⟩
  rw [← hH]
  have hHl : H.length = m + 1 := by rw [hH, hm]; simp
  have b0 : H[m]? = some (.cells (ordC (zeros n)) 77 false) := by rw [hH]; exact get_set (by rw [hm]; simp) _
  have hE0 : Ext (fun _ => False) h H := ⟨by omega, fun i hi _ => by rw [hH, List.getElem?_set_ne (by omega), List.getElem?_append_left hi]⟩
  have hvH : PairSl H v ps := hv.ext hE0
  clear hH
  refine hN _ _ ?_
  clear hN N
  refine aw_cut fun N hN => ?_
  simp (config := {maxSteps := 2000000}) only [s36, ↓aw_region, ↓aw_skip, ↓aw_seq, ↓aw_block, ↓aw_exit, ↓aw_ret, ↓sops_nil, ↓sops_go, ↓dops_nil, ↓dopsX_nil, ↓dopsR_nil, ↓vdn, vup, extr_20, extr_21, extr_30, extr_31, extr_32, List.map_cons, List.map_nil, cond_true, cond_false, aop, aThen, aBlock, argEnv, ev, sput, sputO, binK, binI, unK, builtinK, pickK, Nat.reduceBEq, Nat.reduceAdd, Int.reduceBEq, Int.reduceBNe, Int.reduceLT, aPost, resK, tup, tyf, List.map_toArray, callK, List.nil_append, List.append_nil, List.toList_toArray, List.cons_append]
  refine (anybad_call b0 (by rw [hzl]; exact hn.2) hvH hl).mono ?_
  rintro _ _ ⟨rfl, rfl⟩
  rw [hzl]
  cases hall : ps.all (okP n) with
  | false =>
    have hb : prs n ps = false := by rw [prs, hall]; rfl
    simp (config := {maxSteps := 2000000}) only [s36, ↓aw_region, ↓aw_skip, ↓aw_seq, ↓aw_block, ↓aw_exit, ↓aw_ret, ↓sops_nil, ↓sops_go, ↓dops_nil, ↓dopsX_nil, ↓dopsR_nil, ↓vdn, vup, extr_20, extr_21, extr_30, extr_31, extr_32, List.map_cons, List.map_nil, cond_true, cond_false, aop, aThen, aBlock, argEnv, ev, sput, sputO, binK, binI, unK, builtinK, pickK, Nat.reduceBEq, Nat.reduceAdd, Int.reduceBEq, Int.reduceBNe, Int.reduceLT, aPost, resK, tup, tyf, hall]
    exact ⟨hE0, _, _, rfl, by rw [CloseR, hb, if_neg (by decide)]; exact ⟨rfl, rfl⟩⟩
  | true =>
    have hprs : prs n ps = true := by
      rw [prs, hall, decide_eq_true (show (1 : Int) ≤ n by omega), decide_eq_true (show (n : Int) ≤ 6 by omega), decide_eq_true (show ps.length ≤ 30 by omega)]; rfl
    simp (config := {maxSteps := 2000000}) only [s36, ↓aw_region, ↓aw_skip, ↓aw_seq, ↓aw_block, ↓aw_exit, ↓aw_ret, ↓sops_nil, ↓sops_go, ↓dops_nil, ↓dopsX_nil, ↓dopsR_nil, ↓vdn, vup, extr_20, extr_21, extr_30, extr_31, extr_32, List.map_cons, List.map_nil, cond_true, cond_false, aop, aThen, aBlock, argEnv, ev, sput, sputO, binK, binI, unK, builtinK, pickK, Nat.reduceBEq, Nat.reduceAdd, Int.reduceBEq, Int.reduceBNe, Int.reduceLT, aPost, resK, tup, tyf, hall]
    refine hN _ _ ?_
    clear hN N
    have hok : ∀ k, k < ps.length → ∃ i j : Nat, ps.getD k (0, 0) = ((i : Int), (j : Int)) ∧ i < n ∧ j < n := fun k hk => by
      rw [← okPTo_all] at hall
      have := List.all_eq_true.1 hall k (List.mem_range.2 hk)
      generalize ps.getD k (0, 0) = p at this ⊢
      obtain ⟨x, y⟩ := p
      simp only [okP, Bool.and_eq_true, decide_eq_true_eq] at this
      exact ⟨x.toNat, y.toNat, by rw [Int.toNat_of_nonneg (by omega), Int.toNat_of_nonneg (by omega)], by omega, by omega⟩
    rename_i hEq
    simp (config := {maxSteps := 2000000}) only [s36, ↓aw_region, ↓aw_skip, ↓aw_seq, ↓aw_block, ↓aw_exit, ↓aw_ret, ↓sops_nil, ↓sops_go, ↓dops_nil, ↓dopsX_nil, ↓dopsR_nil, ↓vdn, vup, extr_20, extr_21, extr_30, extr_31, extr_32, List.map_cons, List.map_nil, cond_true, cond_false, aop, aThen, aBlock, argEnv, ev, sput, sputO, binK, binI, unK, builtinK, pickK, Nat.reduceBEq, Nat.reduceAdd, Int.reduceBEq, Int.reduceBNe, Int.reduceLT, aPost, resK, tup, tyf, hvH.len, ↓aw_loop_eq]
    refine aws_hide fun Q hQ => ?_
    refine aw_loop (γ := Nat × List Int × Heap) (fun s => s.1 ≤ ps.length ∧ ord s.2.1 = true ∧ s.2.1.length = n ∧ close (zeros n) (natP ps) = close s.2.1 (natP (ps.drop s.1)) ∧ s.2.2[m]? = some (.cells (ordC s.2.1) 77 false) ∧ Ext (fun _ => False) h s.2.2)
      (fun s => ([(0, vint n), (1, v), (4, .slice none 0 0), (5, .int .i64 0), (6, .pointer (some ⟨m, 0, none⟩)), (25, v), (26, vint ps.length), (27, vint s.1)], s.2.2)) (fun s => ps.length - s.1) (0, zeros n, _) ⟨Nat.zero_le _, zeros_ord hn, hzl, by rw [List.drop_zero], b0, hE0⟩ (by simp (config := {maxSteps := 2000000}) only [↓aw_region, ↓aw_skip, ↓aw_seq, ↓aw_block, ↓aw_exit, ↓aw_ret, ↓sops_nil, ↓sops_go, ↓dops_nil, ↓dopsX_nil, ↓dopsR_nil, ↓vdn, vup, extr_20, extr_21, extr_30, extr_31, extr_32, List.map_cons, List.map_nil, cond_true, cond_false, aop, aThen, aBlock, argEnv, ev, sput, sputO, binK, binI, unK, builtinK, pickK, Nat.reduceBEq, Nat.reduceAdd, Int.reduceBEq, Int.reduceBNe, Int.reduceLT, aPost, resK, tup, tyf, Int.natCast_zero]) rfl ?_
    rintro ⟨k, o, hp⟩ ⟨hk, ho, hol, hcl, e0, hE⟩
    simp only at hk ho hol hcl e0 hE
    have hvp : PairSl hp v ps := hv.ext hE
    refine aw_hide fun Q2 hQ2 => ?_
    by_cases hkn : (k : Int) < ps.length
    · have hkn' : k < ps.length := by omega
      obtain ⟨i, j, hij, hi, hj⟩ := hok k hkn'
      have hdrop : natP (ps.drop k) = (i, j) :: natP (ps.drop (k + 1)) := by
        rw [List.drop_eq_getElem_cons hkn']
        have : ps[k] = ((i : Int), (j : Int)) := by rw [← hij, List.getD, List.getElem?_eq_getElem hkn', Option.getD_some]
        rw [this, natP, List.map_cons]; rfl
      rw [hdrop, close] at hcl
      have hld := hvp.load shp_33 hkn'
      rw [hij] at hld
      have c0 := get_new hp (Blk.cells [.int .i64 0, .int .i64 0] 33 false)
      obtain ⟨G, hG⟩ : ∃ G, G = (hp ++ [Blk.cells [.int .i64 0, .int .i64 0] 33 false]).set hp.length (.cells [vint (i : Nat), vint (j : Nat)] 33 false) := ⟨_, rfl⟩
      have c1 : G[hp.length]? = some (.cells [.int .i64 (i : Nat), .int .i64 (j : Nat)] 33 false) := by rw [hG]; exact get_set (by simp) _
      have hEG : Ext (fun _ => False) hp G := ⟨by rw [hG]; simp, fun q hq _ => by rw [hG, List.getElem?_set_ne (by omega), List.getElem?_append_left hq]⟩
      have g0 : G[m]? = some (.cells (ordC o) 77 false) := (hEG.2 _ (get_lt e0) id).trans e0
      simp only [l36_0]
      simp (config := {maxSteps := 2000000}) only [s36, ↓aw_region, ↓aw_skip, ↓aw_seq, ↓aw_block, ↓aw_exit, ↓aw_ret, ↓sops_nil, ↓sops_go, ↓dops_nil, ↓dopsX_nil, ↓dopsR_nil, ↓vdn, vup, extr_20, extr_21, extr_30, extr_31, extr_32, List.map_cons, List.map_nil, cond_true, cond_false, aop, aThen, aBlock, argEnv, ev, sput, sputO, binK, binI, unK, builtinK, pickK, Nat.reduceBEq, Nat.reduceAdd, Int.reduceBEq, Int.reduceBNe, Int.reduceLT, aPost, resK, tup, tyf, hkn, hvp.idx el_52 esz_33 hkn', hld, allocK, newPtr, zero_33]
      rw [pst c0 rfl, ← hG]
      refine aw_drawX [] (by kernel_rfl) (by kernel_rfl) (by kernel_rfl) (by kernel_rfl) ?_
      by_cases hc : i = j ∨ ab o j i = true
      · rw [if_pos hc] at hcl
        have fin : ∀ e : Env, sget e 4 = .slice none 0 0 → sget e 5 = .int .i64 4 → Q2 .ret e G := fun e h4 h5 => by
          refine hQ2 _ _ _ (hQ _ _ _ ?_)
          simp only [aBlock, aThen, aPost, resK, h4, h5, tup]
          exact ⟨hE.trans hEG, _, _, rfl, by rw [CloseR, hprs, if_pos rfl, Int.toNat_natCast, hcl]; exact ⟨rfl, rfl⟩⟩
        by_cases hij2 : i = j
        · have hq : ((i : Int) == (j : Int)) = true := by rw [hij2]; exact beq_self_eq_true _
          simp (config := {maxSteps := 2000000}) only [s36, ↓aw_region, ↓aw_skip, ↓aw_seq, ↓aw_block, ↓aw_exit, ↓aw_ret, ↓sops_nil, ↓sops_go, ↓dops_nil, ↓dopsX_nil, ↓dopsR_nil, ↓vdn, vup, extr_20, extr_21, extr_30, extr_31, extr_32, List.map_cons, List.map_nil, cond_true, cond_false, aop, aThen, aBlock, argEnv, ev, sput, sputO, binK, binI, unK, builtinK, pickK, Nat.reduceBEq, Nat.reduceAdd, Int.reduceBEq, Int.reduceBNe, Int.reduceLT, aPost, resK, tup, tyf, pidx0, pidx1, pl0 c1, pl1 c1, hq]
          exact fin _ rfl rfl
        · have hq : ((i : Int) == (j : Int)) = false := by
            have : (i : Int) ≠ (j : Int) := by omega
            simpa using this
          have hab := hc.resolve_left hij2
          simp (config := {maxSteps := 2000000}) only [s36, ↓aw_region, ↓aw_skip, ↓aw_seq, ↓aw_block, ↓aw_exit, ↓aw_ret, ↓sops_nil, ↓sops_go, ↓dops_nil, ↓dopsX_nil, ↓dopsR_nil, ↓vdn, vup, extr_20, extr_21, extr_30, extr_31, extr_32, List.map_cons, List.map_nil, cond_true, cond_false, aop, aThen, aBlock, argEnv, ev, sput, sputO, binK, binI, unK, builtinK, pickK, Nat.reduceBEq, Nat.reduceAdd, Int.reduceBEq, Int.reduceBNe, Int.reduceLT, aPost, resK, tup, tyf, pidx0, pidx1, pl0 c1, pl1 c1, hq, fldA fld_77_1 esz_75, idxA und_75 esz_3 (show j < 6 by omega), loadI g0 shp_3 (show o.length ≤ 6 by omega) (show j < 6 by omega), testO ho (show j < o.length by omega), hab, if_true, Int.reduceBEq]
          exact fin _ rfl rfl
      · rw [if_neg hc] at hcl
        have hij2 : i ≠ j := fun h => hc (.inl h)
        have hab : ab o j i = false := by
          cases e : ab o j i with
          | false => rfl
          | true => exact absurd (.inr e) hc
        have hq : ((i : Int) == (j : Int)) = false := by
          have : (i : Int) ≠ (j : Int) := by omega
          simpa using this
        have ho' := addL_ord ho (show i < o.length by omega) (show j < o.length by omega) hij2 hab
        simp (config := {maxSteps := 2000000}) only [s36, ↓aw_region, ↓aw_skip, ↓aw_seq, ↓aw_block, ↓aw_exit, ↓aw_ret, ↓sops_nil, ↓sops_go, ↓dops_nil, ↓dopsX_nil, ↓dopsR_nil, ↓vdn, vup, extr_20, extr_21, extr_30, extr_31, extr_32, List.map_cons, List.map_nil, cond_true, cond_false, aop, aThen, aBlock, argEnv, ev, sput, sputO, binK, binI, unK, builtinK, pickK, Nat.reduceBEq, Nat.reduceAdd, Int.reduceBEq, Int.reduceBNe, Int.reduceLT, aPost, resK, tup, tyf, pidx0, pidx1, pl0 c1, pl1 c1, hq, fldA fld_77_1 esz_75, idxA und_75 esz_3 (show j < 6 by omega), loadI g0 shp_3 (show o.length ≤ 6 by omega) (show j < 6 by omega), testO ho (show j < o.length by omega), hab, if_false, Bool.false_eq_true, Int.reduceBEq, loadO g0 shp_77 (show o.length ≤ 6 by omega), callK, List.nil_append, List.append_nil, List.toList_toArray, List.cons_append]
        refine (add_call ho (show i < o.length by omega) (show j < o.length by omega)).mono ?_
        rintro _ G2 ⟨rfl, rfl⟩
        have hlo : (ordC o).length = 7 := ordC_len (by omega)
        rw [storeO g0 hlo shp_77 (by rw [addL_len]; omega)]
        simp (config := {maxSteps := 2000000}) only [s36, ↓aw_region, ↓aw_skip, ↓aw_seq, ↓aw_block, ↓aw_exit, ↓aw_ret, ↓sops_nil, ↓sops_go, ↓dops_nil, ↓dopsX_nil, ↓dopsR_nil, ↓vdn, vup, extr_20, extr_21, extr_30, extr_31, extr_32, List.map_cons, List.map_nil, cond_true, cond_false, aop, aThen, aBlock, argEnv, ev, sput, sputO, binK, binI, unK, builtinK, pickK, Nat.reduceBEq, Nat.reduceAdd, Int.reduceBEq, Int.reduceBNe, Int.reduceLT, aPost, resK, tup, tyf, add1 (show k < 9223372036854775807 by omega)]
        have hlg := get_lt g0
        refine hQ2 _ _ _ ⟨(k + 1, addL o i j, _), ⟨by simp only; omega, ho', by simp only; rw [addL_len]; exact hol, hcl, get_set hlg _, ?_⟩, by simp only; omega, by simp (config := {maxSteps := 2000000}) only [↓aw_region, ↓aw_skip, ↓aw_seq, ↓aw_block, ↓aw_exit, ↓aw_ret, ↓sops_nil, ↓sops_go, ↓dops_nil, ↓dopsX_nil, ↓dopsR_nil, ↓vdn, vup, extr_20, extr_21, extr_30, extr_31, extr_32, List.map_cons, List.map_nil, cond_true, cond_false, aop, aThen, aBlock, argEnv, ev, sput, sputO, binK, binI, unK, builtinK, pickK, Nat.reduceBEq, Nat.reduceAdd, Int.reduceBEq, Int.reduceBNe, Int.reduceLT, aPost, resK, tup, tyf], rfl⟩
        have hx := hE.trans hEG
        exact ⟨by simp; exact hx.1, fun q hq _ => by rw [List.getElem?_set_ne (by omega)]; exact hx.2 q hq id⟩
    · obtain rfl : k = ps.length := by omega
      rw [List.drop_length, show natP [] = [] from rfl, close] at hcl
      simp (config := {maxSteps := 2000000}) only [s36, ↓aw_region, ↓aw_skip, ↓aw_seq, ↓aw_block, ↓aw_exit, ↓aw_ret, ↓sops_nil, ↓sops_go, ↓dops_nil, ↓dopsX_nil, ↓dopsR_nil, ↓vdn, vup, extr_20, extr_21, extr_30, extr_31, extr_32, List.map_cons, List.map_nil, cond_true, cond_false, aop, aThen, aBlock, argEnv, ev, sput, sputO, binK, binI, unK, builtinK, pickK, Nat.reduceBEq, Nat.reduceAdd, Int.reduceBEq, Int.reduceBNe, Int.reduceLT, aPost, resK, tup, tyf, l36_0, Int.lt_irrefl]
      refine hQ2 _ _ _ (hQ _ _ _ ?_)
      simp (config := {maxSteps := 2000000}) only [s36, ↓aw_region, ↓aw_skip, ↓aw_seq, ↓aw_block, ↓aw_exit, ↓aw_ret, ↓sops_nil, ↓sops_go, ↓dops_nil, ↓dopsX_nil, ↓dopsR_nil, ↓vdn, vup, extr_20, extr_21, extr_30, extr_31, extr_32, List.map_cons, List.map_nil, cond_true, cond_false, aop, aThen, aBlock, argEnv, ev, sput, sputO, binK, binI, unK, builtinK, pickK, Nat.reduceBEq, Nat.reduceAdd, Int.reduceBEq, Int.reduceBNe, Int.reduceLT, aPost, resK, tup, tyf, loadO e0 shp_77 (show o.length ≤ 6 by omega), callK, List.nil_append, List.append_nil, List.toList_toArray, List.cons_append]
      refine (slice_call (by omega) (by omega)).mono ?_
      rintro r h3 ⟨hr, hE3⟩
      exact ⟨hE.trans hE3, _, _, rfl, by rw [CloseR, hprs, if_pos rfl, Int.toNat_natCast, hcl]; exact ⟨rfl, hr⟩⟩
end Go.Proofs.Tryd.Am
