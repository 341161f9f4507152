/-
  sure: whether words are a code, by the program and by the reference.
-/
import Derived.Test.YtaagkbbphgdcdaaDoorSuCode
set_option linter.all false
namespace Go.Proofs.Tryd.Am
open Go.Am Sr
set_option maxRecDepth 100000
set_option maxHeartbeats 1000000

/-- A word stands well behind those before it. -/
def wOk (xs : List Int) (k : Nat) (c : List Int) (i : Nat) : Prop := 0 ≤ c.getD i 0 ∧ c.getD i 0 < wn xs k ∧ (i = 0 ∨ c.getD (i - 1) 0 < c.getD i 0) ∧ ∀ j, j < i → cf xs k (c.getD i 0).toNat (c.getD j 0).toNat = false
theorem code_all {xs : List Int} {k : Nat} {c : List Int} (h : ∀ i, i < c.length → wOk xs k c i) : code xs k c = true := code_iff.2 h
theorem code_no {xs : List Int} {k : Nat} {c : List Int} {i : Nat} (hi : i < c.length) (h : ¬ wOk xs k c i) : code xs k c = false := by
  cases hc : code xs k c with
  | false => rfl
  | true => exact absurd (code_iff.1 hc i hi) h
theorem wOk_lt {xs : List Int} {k : Nat} {c : List Int} {i : Nat} (h : ∀ t, t < i → wOk xs k c t) (h2 : i = 0 ∨ c.getD (i - 1) 0 < c.getD i 0) : ∀ j, j < i → c.getD j 0 < c.getD i 0 := by
  have mono : ∀ d j, j + d < i → c.getD j 0 ≤ c.getD (j + d) 0 := by
    intro d
    induction d with
    | zero => intro j _; exact Int.le_refl _
    | succ d ih =>
      intro j hj
      have h1 := ih j (by omega)
      rcases (h (j + d + 1) (by omega)).2.2.1 with h3 | h3
      · omega
      · have e : j + d + 1 - 1 = j + d := by omega
        rw [e] at h3
        have e2 : j + (d + 1) = j + d + 1 := rfl
        rw [e2]; omega
  intro j hj
  rcases h2 with h2 | h2
  · omega
  · have := mono (i - 1 - j) j (by omega)
    have e : j + (i - 1 - j) = i - 1 := by omega
    rw [e] at this; omega
theorem subN1' {n : Nat} (h1 : 1 ≤ n) (h : n < 9223372036854775808) : subV .i64 (n : Int) 1 = ((n - 1 : Nat) : Int) := subN1 h1 h

theorem codes_loop [BitTab prog 0] {h : Heap} {b : Nat} {cv : Value} {xs cs : List Int} {n : Nat} (w : WO h b (nearL xs n)) (hc : IntSl h cv cs) (hcl : cs.length < 9223372036854775808) (hcx : ∀ x ∈ cs, -9223372036854775808 ≤ x ∧ x < 9223372036854775808) {N : Env → Heap → Prop} {Q0 : Exit → Env → Heap → Prop}
    (hw : wn xs n ≤ 64)
    (hN : code xs n cs = true → ∀ e, ELe e [(6, .bool false), (7, .int .i64 0)] → N e h)
    (hF : code xs n cs = false → ∀ e, ELe e [(6, .bool false), (7, .int .i64 0)] → Q0 .ret e h) :
    aw prog 84 (.seq q17_6 (.block 0 (.loop l17_1))) (aThen N Q0) [(2, cv), (6, .bool false), (7, .int .i64 0), (8, pt b)] h := by
  obtain ⟨nv, hcc, hv⟩ := w
  have hnl := nearL_len xs n
  have hnn : ∀ i : Nat, (0 : Int) ≤ (i : Int) := Int.natCast_nonneg
  have ldl : ∀ {K : Value → Prop}, loadK prog h 3 (.pointer (some ⟨b, 0, none⟩)) K = K (vint (wn xs n : Nat)) := fun {K} => by rw [← hnl]; exact loadC (o := 0) hcc shp_3 rfl
  have ldn : ∀ {K : Value → Prop}, loadK prog h 60 (.pointer (some ⟨b, 1, none⟩)) K = K nv := fun {K} => loadC (o := 1) hcc shp_60 rfl
  have ix : ∀ v, v < wn xs n → ∀ {K : Value → Prop}, idxAddrK prog 60 nv (vint v) K = K (elemP nv 1 v) := fun v h1 {K} => hv.idx el_60 esz_63 (by rw [List.length_map, hnl]; exact h1) K
  have ld : ∀ v, v < wn xs n → ∀ {K : Value → Prop}, loadK prog h 63 (elemP nv 1 v) K = K (vu (nb (nearL xs n) v)) := fun v h1 {K} => by
    rw [hv.load shp_63 (by rw [List.length_map, hnl]; exact h1), getD_vu (by rw [hnl]; exact h1)]
  have h64 : ∀ v, nb (nearL xs n) v < 18446744073709551616 := fun v => by
    rw [← p64]
    by_cases hv2 : v < wn xs n
    · rw [nearL_get hv2]
      exact Nat.lt_of_lt_of_le (mk_lt _ _) (Nat.pow_le_pow_right (by decide) hw)
    · rw [nearL_out (by omega)]; exact Nat.two_pow_pos 64
  simp (config := {maxSteps := 2000000}) only [s17, ↓aw_region, ↓aw_skip, ↓aw_seq, ↓aw_block, ↓aw_exit, ↓aw_ret, ↓sops_nil, ↓sops_go, ↓dops_nil, ↓dopsX_nil, ↓dopsR_nil, ↓vdn, vup, extr_20, extr_21, extr_30, extr_31, extr_32, List.map_cons, List.map_nil, cond_true, cond_false, aop, aThen, aBlock, argEnv, ev, sput, sputO, binK, binI, unK, builtinK, pickK, Nat.reduceBEq, Nat.reduceAdd, Int.reduceBEq, Int.reduceBNe, Int.reduceLT, aPost, resK, tup, tyf, hc.len, ↓aw_loop_eq]
  refine aws_hide fun Q hQ => ?_
  refine aw_loopW (γ := Nat) (fun i => i ≤ cs.length ∧ ∀ t, t < i → wOk xs n cs t)
    (fun i => ([(2, cv), (6, .bool false), (7, .int .i64 0), (8, pt b), (33, cv), (34, vint cs.length), (35, vint i)], h)) (fun i => cs.length - i) 0 ⟨Nat.zero_le _, fun _ h => by omega⟩ (by simp (config := {maxSteps := 2000000}) only [↓aw_region, ↓aw_skip, ↓aw_seq, ↓aw_block, ↓aw_exit, ↓aw_ret, ↓sops_nil, ↓sops_go, ↓dops_nil, ↓dopsX_nil, ↓dopsR_nil, ↓vdn, vup, extr_20, extr_21, extr_30, extr_31, extr_32, List.map_cons, List.map_nil, cond_true, cond_false, aop, aThen, aBlock, argEnv, ev, sput, sputO, binK, binI, unK, builtinK, pickK, Nat.reduceBEq, Nat.reduceAdd, Int.reduceBEq, Int.reduceBNe, Int.reduceLT, aPost, resK, tup, tyf, Int.natCast_zero]) rfl ?_
  rintro i ⟨hi, hok⟩
  refine aws_hide fun Q2 hQ2 => ?_
  simp only [l17_1]
  refine aws_cut fun M hM => ?_
  by_cases hin : (i : Int) < cs.length
  · have hi' : i < cs.length := by omega
    obtain ⟨r1, r2⟩ := getD_rng hcx hi'
    simp (config := {maxSteps := 2000000}) only [s17, ↓aw_region, ↓aw_skip, ↓aw_seq, ↓aw_block, ↓aw_exit, ↓aw_ret, ↓sops_nil, ↓sops_go, ↓dops_nil, ↓dopsX_nil, ↓dopsR_nil, ↓vdn, vup, extr_20, extr_21, extr_30, extr_31, extr_32, List.map_cons, List.map_nil, cond_true, cond_false, aop, aThen, aBlock, argEnv, ev, sput, sputO, binK, binI, unK, builtinK, pickK, Nat.reduceBEq, Nat.reduceAdd, Int.reduceBEq, Int.reduceBNe, Int.reduceLT, aPost, resK, tup, tyf, hin]
    refine hM [(2, cv), (6, .bool false), (7, .int .i64 0), (8, pt b), (33, cv), (34, vint cs.length), (35, vint i), (36, .bool true)] _ _ ?_ (by simp (config := {maxSteps := 2000000}) only [↓aw_region, ↓aw_skip, ↓aw_seq, ↓aw_block, ↓aw_exit, ↓aw_ret, ↓sops_nil, ↓sops_go, ↓dops_nil, ↓dopsX_nil, ↓dopsR_nil, ↓vdn, vup, extr_20, extr_21, extr_30, extr_31, extr_32, List.map_cons, List.map_nil, cond_true, cond_false, aop, aThen, aBlock, argEnv, ev, sput, sputO, binK, binI, unK, builtinK, pickK, Nat.reduceBEq, Nat.reduceAdd, Int.reduceBEq, Int.reduceBNe, Int.reduceLT, aPost, resK, tup, tyf])
    clear hM M
    refine aws_cut fun M hM => ?_
    simp (config := {maxSteps := 2000000}) only [s17, ↓aw_region, ↓aw_skip, ↓aw_seq, ↓aw_block, ↓aw_exit, ↓aw_ret, ↓sops_nil, ↓sops_go, ↓dops_nil, ↓dopsX_nil, ↓dopsR_nil, ↓vdn, vup, extr_20, extr_21, extr_30, extr_31, extr_32, List.map_cons, List.map_nil, cond_true, cond_false, aop, aThen, aBlock, argEnv, ev, sput, sputO, binK, binI, unK, builtinK, pickK, Nat.reduceBEq, Nat.reduceAdd, Int.reduceBEq, Int.reduceBNe, Int.reduceLT, aPost, resK, tup, tyf]
    refine hM [(2, cv), (6, .bool false), (7, .int .i64 0), (8, pt b), (33, cv), (34, vint cs.length), (35, vint i)] _ _ ?_ (by simp (config := {maxSteps := 2000000}) only [↓aw_region, ↓aw_skip, ↓aw_seq, ↓aw_block, ↓aw_exit, ↓aw_ret, ↓sops_nil, ↓sops_go, ↓dops_nil, ↓dopsX_nil, ↓dopsR_nil, ↓vdn, vup, extr_20, extr_21, extr_30, extr_31, extr_32, List.map_cons, List.map_nil, cond_true, cond_false, aop, aThen, aBlock, argEnv, ev, sput, sputO, binK, binI, unK, builtinK, pickK, Nat.reduceBEq, Nat.reduceAdd, Int.reduceBEq, Int.reduceBNe, Int.reduceLT, aPost, resK, tup, tyf])
    clear hM M
    refine aws_cutW fun M hM => ?_
    refine aws_block ?_
    refine aws_cut fun M2 hM2 => ?_
    simp (config := {maxSteps := 2000000}) only [s17, ↓aw_region, ↓aw_skip, ↓aw_seq, ↓aw_block, ↓aw_exit, ↓aw_ret, ↓sops_nil, ↓sops_go, ↓dops_nil, ↓dopsX_nil, ↓dopsR_nil, ↓vdn, vup, extr_20, extr_21, extr_30, extr_31, extr_32, List.map_cons, List.map_nil, cond_true, cond_false, aop, aThen, aBlock, argEnv, ev, sput, sputO, binK, binI, unK, builtinK, pickK, Nat.reduceBEq, Nat.reduceAdd, Int.reduceBEq, Int.reduceBNe, Int.reduceLT, aPost, resK, tup, tyf, hc.idx el_22 esz_3 hi', hc.load shp_3 hi']
    refine hM2 [(2, cv), (6, .bool false), (7, .int .i64 0), (8, pt b), (33, cv), (34, vint cs.length), (35, vint i), (10, vint i), (11, vint (cs.getD i 0))] _ _ ?_ (by simp (config := {maxSteps := 2000000}) only [↓aw_region, ↓aw_skip, ↓aw_seq, ↓aw_block, ↓aw_exit, ↓aw_ret, ↓sops_nil, ↓sops_go, ↓dops_nil, ↓dopsX_nil, ↓dopsR_nil, ↓vdn, vup, extr_20, extr_21, extr_30, extr_31, extr_32, List.map_cons, List.map_nil, cond_true, cond_false, aop, aThen, aBlock, argEnv, ev, sput, sputO, binK, binI, unK, builtinK, pickK, Nat.reduceBEq, Nat.reduceAdd, Int.reduceBEq, Int.reduceBNe, Int.reduceLT, aPost, resK, tup, tyf])
    clear hM2 M2
    refine aws_cut fun M2 hM2 => ?_
    by_cases hneg : cs.getD i 0 < 0
    · have hf := code_no hi' (fun h : wOk xs n cs i => by have := h.1; omega)
      simp (config := {maxSteps := 2000000}) only [s17, ↓aw_region, ↓aw_skip, ↓aw_seq, ↓aw_block, ↓aw_exit, ↓aw_ret, ↓sops_nil, ↓sops_go, ↓dops_nil, ↓dopsX_nil, ↓dopsR_nil, ↓vdn, vup, extr_20, extr_21, extr_30, extr_31, extr_32, List.map_cons, List.map_nil, cond_true, cond_false, aop, aThen, aBlock, argEnv, ev, sput, sputO, binK, binI, unK, builtinK, pickK, Nat.reduceBEq, Nat.reduceAdd, Int.reduceBEq, Int.reduceBNe, Int.reduceLT, aPost, resK, tup, tyf, hneg]
      refine hQ2 _ _ _ (hQ _ _ _ ?_)
      simp (config := {maxSteps := 2000000}) only [↓aw_region, ↓aw_skip, ↓aw_seq, ↓aw_block, ↓aw_exit, ↓aw_ret, ↓sops_nil, ↓sops_go, ↓dops_nil, ↓dopsX_nil, ↓dopsR_nil, ↓vdn, vup, extr_20, extr_21, extr_30, extr_31, extr_32, List.map_cons, List.map_nil, cond_true, cond_false, aop, aThen, aBlock, argEnv, ev, sput, sputO, binK, binI, unK, builtinK, pickK, Nat.reduceBEq, Nat.reduceAdd, Int.reduceBEq, Int.reduceBNe, Int.reduceLT, aPost, resK, tup, tyf]
      exact hF hf _ (by simp (config := {maxSteps := 2000000}) only [↓aw_region, ↓aw_skip, ↓aw_seq, ↓aw_block, ↓aw_exit, ↓aw_ret, ↓sops_nil, ↓sops_go, ↓dops_nil, ↓dopsX_nil, ↓dopsR_nil, ↓vdn, vup, extr_20, extr_21, extr_30, extr_31, extr_32, List.map_cons, List.map_nil, cond_true, cond_false, aop, aThen, aBlock, argEnv, ev, sput, sputO, binK, binI, unK, builtinK, pickK, Nat.reduceBEq, Nat.reduceAdd, Int.reduceBEq, Int.reduceBNe, Int.reduceLT, aPost, resK, tup, tyf])
    by_cases hbig : ((wn xs n : Nat) : Int) ≤ cs.getD i 0
    · have hf := code_no hi' (fun h : wOk xs n cs i => by have := h.2.1; omega)
      simp (config := {maxSteps := 2000000}) only [s17, ↓aw_region, ↓aw_skip, ↓aw_seq, ↓aw_block, ↓aw_exit, ↓aw_ret, ↓sops_nil, ↓sops_go, ↓dops_nil, ↓dopsX_nil, ↓dopsR_nil, ↓vdn, vup, extr_20, extr_21, extr_30, extr_31, extr_32, List.map_cons, List.map_nil, cond_true, cond_false, aop, aThen, aBlock, argEnv, ev, sput, sputO, binK, binI, unK, builtinK, pickK, Nat.reduceBEq, Nat.reduceAdd, Int.reduceBEq, Int.reduceBNe, Int.reduceLT, aPost, resK, tup, tyf, hneg, nilK, fldA fld_62_0 esz_3, ldl, ge_iff_le, hbig]
      refine hQ2 _ _ _ (hQ _ _ _ ?_)
      simp (config := {maxSteps := 2000000}) only [↓aw_region, ↓aw_skip, ↓aw_seq, ↓aw_block, ↓aw_exit, ↓aw_ret, ↓sops_nil, ↓sops_go, ↓dops_nil, ↓dopsX_nil, ↓dopsR_nil, ↓vdn, vup, extr_20, extr_21, extr_30, extr_31, extr_32, List.map_cons, List.map_nil, cond_true, cond_false, aop, aThen, aBlock, argEnv, ev, sput, sputO, binK, binI, unK, builtinK, pickK, Nat.reduceBEq, Nat.reduceAdd, Int.reduceBEq, Int.reduceBNe, Int.reduceLT, aPost, resK, tup, tyf]
      exact hF hf _ (by simp (config := {maxSteps := 2000000}) only [↓aw_region, ↓aw_skip, ↓aw_seq, ↓aw_block, ↓aw_exit, ↓aw_ret, ↓sops_nil, ↓sops_go, ↓dops_nil, ↓dopsX_nil, ↓dopsR_nil, ↓vdn, vup, extr_20, extr_21, extr_30, extr_31, extr_32, List.map_cons, List.map_nil, cond_true, cond_false, aop, aThen, aBlock, argEnv, ev, sput, sputO, binK, binI, unK, builtinK, pickK, Nat.reduceBEq, Nat.reduceAdd, Int.reduceBEq, Int.reduceBNe, Int.reduceLT, aPost, resK, tup, tyf])
    obtain ⟨a, ha⟩ : ∃ a : Nat, cs.getD i 0 = (a : Int) := ⟨(cs.getD i 0).toNat, by omega⟩
    have haw : a < wn xs n := by omega
    have go : (i = 0 ∨ cs.getD (i - 1) 0 < cs.getD i 0) → ∀ e, ELe e [(2, cv), (6, .bool false), (7, .int .i64 0), (8, pt b), (33, cv), (34, vint cs.length), (35, vint i), (10, vint i), (11, vint a)] → M2 e h := by
      intro hri e he
      refine hM2 [(2, cv), (6, .bool false), (7, .int .i64 0), (8, pt b), (33, cv), (34, vint cs.length), (35, vint i), (10, vint i), (11, vint a)] _ _ ?_ he
      clear hM2 M2 he e
      refine aw_aws ?_
      have hlt := wOk_lt hok hri
      simp (config := {maxSteps := 2000000}) only [s17, ↓aw_region, ↓aw_skip, ↓aw_seq, ↓aw_block, ↓aw_exit, ↓aw_ret, ↓sops_nil, ↓sops_go, ↓dops_nil, ↓dopsX_nil, ↓dopsR_nil, ↓vdn, vup, extr_20, extr_21, extr_30, extr_31, extr_32, List.map_cons, List.map_nil, cond_true, cond_false, aop, aThen, aBlock, argEnv, ev, sput, sputO, binK, binI, unK, builtinK, pickK, Nat.reduceBEq, Nat.reduceAdd, Int.reduceBEq, Int.reduceBNe, Int.reduceLT, aPost, resK, tup, tyf, hnn, Option.map_none, Option.map_some]
      refine hc.pre el_22 esz_3 hi ?_
      intro pv hpv
      have hpl : (cs.take i).length = i := by rw [List.length_take]; omega
      have hpx : ∀ j, j < i → (cs.take i).getD j 0 = cs.getD j 0 := fun j hj => by simp [List.getD, List.getElem?_take, hj]
      simp (config := {maxSteps := 2000000}) only [s17, ↓aw_region, ↓aw_skip, ↓aw_seq, ↓aw_block, ↓aw_exit, ↓aw_ret, ↓sops_nil, ↓sops_go, ↓dops_nil, ↓dopsX_nil, ↓dopsR_nil, ↓vdn, vup, extr_20, extr_21, extr_30, extr_31, extr_32, List.map_cons, List.map_nil, cond_true, cond_false, aop, aThen, aBlock, argEnv, ev, sput, sputO, binK, binI, unK, builtinK, pickK, Nat.reduceBEq, Nat.reduceAdd, Int.reduceBEq, Int.reduceBNe, Int.reduceLT, aPost, resK, tup, tyf, hpv.len, hpl, ↓aw_loop_eq]
      refine aws_hide fun Q3 hQ3 => ?_
      refine aw_loop (γ := Nat) (fun j => j ≤ i ∧ ∀ t, t < j → cf xs n a (cs.getD t 0).toNat = false)
        (fun j => ([(2, cv), (6, .bool false), (7, .int .i64 0), (8, pt b), (33, cv), (34, vint cs.length), (35, vint i), (10, vint i), (11, vint a), (65, pv), (66, vint i), (67, vint j)], h)) (fun j => i - j) 0 ⟨Nat.zero_le _, fun _ h => by omega⟩ (by simp (config := {maxSteps := 2000000}) only [↓aw_region, ↓aw_skip, ↓aw_seq, ↓aw_block, ↓aw_exit, ↓aw_ret, ↓sops_nil, ↓sops_go, ↓dops_nil, ↓dopsX_nil, ↓dopsR_nil, ↓vdn, vup, extr_20, extr_21, extr_30, extr_31, extr_32, List.map_cons, List.map_nil, cond_true, cond_false, aop, aThen, aBlock, argEnv, ev, sput, sputO, binK, binI, unK, builtinK, pickK, Nat.reduceBEq, Nat.reduceAdd, Int.reduceBEq, Int.reduceBNe, Int.reduceLT, aPost, resK, tup, tyf, Int.natCast_zero]) rfl ?_
      rintro j ⟨hj, hcf⟩
      refine aw_hide fun Q4 hQ4 => ?_
      by_cases hjn : (j : Int) < i
      · have hj' : j < i := by omega
        have hj2 : j < (cs.take i).length := by omega
        have hu0 := (hok j hj').1
        obtain ⟨u, hu⟩ : ∃ u : Nat, cs.getD j 0 = (u : Int) := ⟨(cs.getD j 0).toNat, by omega⟩
        have hua := hlt j hj'
        have hne : (a != u) = true := by rw [bne_iff_ne]; omega
        have hbit : (nb (nearL xs n) a).testBit u = cf xs n a u := by
          rw [nearL_bit, decide_eq_true haw, decide_eq_true (show u < wn xs n by omega), hne]; simp
        cases hcu : cf xs n a u with
        | true =>
          have hf := code_no hi' (fun h : wOk xs n cs i => by
            have := h.2.2.2 j hj'
            rw [ha, hu, Int.toNat_natCast, Int.toNat_natCast, hcu] at this; cases this)
          simp (config := {maxSteps := 2000000}) only [s17, ↓aw_region, ↓aw_skip, ↓aw_seq, ↓aw_block, ↓aw_exit, ↓aw_ret, ↓sops_nil, ↓sops_go, ↓dops_nil, ↓dopsX_nil, ↓dopsR_nil, ↓vdn, vup, extr_20, extr_21, extr_30, extr_31, extr_32, List.map_cons, List.map_nil, cond_true, cond_false, aop, aThen, aBlock, argEnv, ev, sput, sputO, binK, binI, unK, builtinK, pickK, Nat.reduceBEq, Nat.reduceAdd, Int.reduceBEq, Int.reduceBNe, Int.reduceLT, aPost, resK, tup, tyf, l17_0, hjn, hpv.idx el_22 esz_3 hj2, hpv.load shp_3 hj2, hpx j hj', hu, nilK, fldA fld_62_1 esz_60, ldn, ix a haw, ld a haw, hnn, testU (h64 a), hbit, hcu, beq1, if_true]
          refine hQ4 _ _ _ (hQ3 _ _ _ ?_)
          simp (config := {maxSteps := 2000000}) only [↓aw_region, ↓aw_skip, ↓aw_seq, ↓aw_block, ↓aw_exit, ↓aw_ret, ↓sops_nil, ↓sops_go, ↓dops_nil, ↓dopsX_nil, ↓dopsR_nil, ↓vdn, vup, extr_20, extr_21, extr_30, extr_31, extr_32, List.map_cons, List.map_nil, cond_true, cond_false, aop, aThen, aBlock, argEnv, ev, sput, sputO, binK, binI, unK, builtinK, pickK, Nat.reduceBEq, Nat.reduceAdd, Int.reduceBEq, Int.reduceBNe, Int.reduceLT, aPost, resK, tup, tyf]
          refine hQ2 _ _ _ (hQ _ _ _ ?_)
          simp (config := {maxSteps := 2000000}) only [↓aw_region, ↓aw_skip, ↓aw_seq, ↓aw_block, ↓aw_exit, ↓aw_ret, ↓sops_nil, ↓sops_go, ↓dops_nil, ↓dopsX_nil, ↓dopsR_nil, ↓vdn, vup, extr_20, extr_21, extr_30, extr_31, extr_32, List.map_cons, List.map_nil, cond_true, cond_false, aop, aThen, aBlock, argEnv, ev, sput, sputO, binK, binI, unK, builtinK, pickK, Nat.reduceBEq, Nat.reduceAdd, Int.reduceBEq, Int.reduceBNe, Int.reduceLT, aPost, resK, tup, tyf]
          exact hF hf _ (by simp (config := {maxSteps := 2000000}) only [↓aw_region, ↓aw_skip, ↓aw_seq, ↓aw_block, ↓aw_exit, ↓aw_ret, ↓sops_nil, ↓sops_go, ↓dops_nil, ↓dopsX_nil, ↓dopsR_nil, ↓vdn, vup, extr_20, extr_21, extr_30, extr_31, extr_32, List.map_cons, List.map_nil, cond_true, cond_false, aop, aThen, aBlock, argEnv, ev, sput, sputO, binK, binI, unK, builtinK, pickK, Nat.reduceBEq, Nat.reduceAdd, Int.reduceBEq, Int.reduceBNe, Int.reduceLT, aPost, resK, tup, tyf])
        | false =>
          simp (config := {maxSteps := 2000000}) only [s17, ↓aw_region, ↓aw_skip, ↓aw_seq, ↓aw_block, ↓aw_exit, ↓aw_ret, ↓sops_nil, ↓sops_go, ↓dops_nil, ↓dopsX_nil, ↓dopsR_nil, ↓vdn, vup, extr_20, extr_21, extr_30, extr_31, extr_32, List.map_cons, List.map_nil, cond_true, cond_false, aop, aThen, aBlock, argEnv, ev, sput, sputO, binK, binI, unK, builtinK, pickK, Nat.reduceBEq, Nat.reduceAdd, Int.reduceBEq, Int.reduceBNe, Int.reduceLT, aPost, resK, tup, tyf, l17_0, hjn, hpv.idx el_22 esz_3 hj2, hpv.load shp_3 hj2, hpx j hj', hu, nilK, fldA fld_62_1 esz_60, ldn, ix a haw, ld a haw, hnn, testU (h64 a), hbit, hcu, beq1, Bool.false_eq_true, if_false, add1 (show j < 9223372036854775807 by omega)]
          refine hQ4 _ _ _ ⟨j + 1, ⟨by omega, fun t ht => ?_⟩, by omega, by simp (config := {maxSteps := 2000000}) only [↓aw_region, ↓aw_skip, ↓aw_seq, ↓aw_block, ↓aw_exit, ↓aw_ret, ↓sops_nil, ↓sops_go, ↓dops_nil, ↓dopsX_nil, ↓dopsR_nil, ↓vdn, vup, extr_20, extr_21, extr_30, extr_31, extr_32, List.map_cons, List.map_nil, cond_true, cond_false, aop, aThen, aBlock, argEnv, ev, sput, sputO, binK, binI, unK, builtinK, pickK, Nat.reduceBEq, Nat.reduceAdd, Int.reduceBEq, Int.reduceBNe, Int.reduceLT, aPost, resK, tup, tyf], rfl⟩
          by_cases htj : t = j
          · subst htj; rw [hu, Int.toNat_natCast]; exact hcu
          · exact hcf t (by omega)
      · obtain rfl : j = i := by omega
        simp (config := {maxSteps := 2000000}) only [s17, ↓aw_region, ↓aw_skip, ↓aw_seq, ↓aw_block, ↓aw_exit, ↓aw_ret, ↓sops_nil, ↓sops_go, ↓dops_nil, ↓dopsX_nil, ↓dopsR_nil, ↓vdn, vup, extr_20, extr_21, extr_30, extr_31, extr_32, List.map_cons, List.map_nil, cond_true, cond_false, aop, aThen, aBlock, argEnv, ev, sput, sputO, binK, binI, unK, builtinK, pickK, Nat.reduceBEq, Nat.reduceAdd, Int.reduceBEq, Int.reduceBNe, Int.reduceLT, aPost, resK, tup, tyf, l17_0, Int.lt_irrefl]
        refine hQ4 _ _ _ (hQ3 _ _ _ ?_)
        simp (config := {maxSteps := 2000000}) only [s17, ↓aw_region, ↓aw_skip, ↓aw_seq, ↓aw_block, ↓aw_exit, ↓aw_ret, ↓sops_nil, ↓sops_go, ↓dops_nil, ↓dopsX_nil, ↓dopsR_nil, ↓vdn, vup, extr_20, extr_21, extr_30, extr_31, extr_32, List.map_cons, List.map_nil, cond_true, cond_false, aop, aThen, aBlock, argEnv, ev, sput, sputO, binK, binI, unK, builtinK, pickK, Nat.reduceBEq, Nat.reduceAdd, Int.reduceBEq, Int.reduceBNe, Int.reduceLT, aPost, resK, tup, tyf, if_true]
        refine hM [(2, cv), (6, .bool false), (7, .int .i64 0), (8, pt b), (33, cv), (34, vint cs.length), (35, vint j)] _ _ ?_ (by simp (config := {maxSteps := 2000000}) only [↓aw_region, ↓aw_skip, ↓aw_seq, ↓aw_block, ↓aw_exit, ↓aw_ret, ↓sops_nil, ↓sops_go, ↓dops_nil, ↓dopsX_nil, ↓dopsR_nil, ↓vdn, vup, extr_20, extr_21, extr_30, extr_31, extr_32, List.map_cons, List.map_nil, cond_true, cond_false, aop, aThen, aBlock, argEnv, ev, sput, sputO, binK, binI, unK, builtinK, pickK, Nat.reduceBEq, Nat.reduceAdd, Int.reduceBEq, Int.reduceBNe, Int.reduceLT, aPost, resK, tup, tyf])
        clear hM hQ4 hQ3
        refine aw_aws ?_
        simp (config := {maxSteps := 2000000}) only [s17, ↓aw_region, ↓aw_skip, ↓aw_seq, ↓aw_block, ↓aw_exit, ↓aw_ret, ↓sops_nil, ↓sops_go, ↓dops_nil, ↓dopsX_nil, ↓dopsR_nil, ↓vdn, vup, extr_20, extr_21, extr_30, extr_31, extr_32, List.map_cons, List.map_nil, cond_true, cond_false, aop, aThen, aBlock, argEnv, ev, sput, sputO, binK, binI, unK, builtinK, pickK, Nat.reduceBEq, Nat.reduceAdd, Int.reduceBEq, Int.reduceBNe, Int.reduceLT, aPost, resK, tup, tyf, add1 (show j < 9223372036854775807 by omega)]
        refine hQ2 _ _ _ ⟨j + 1, ⟨by omega, fun t ht => ?_⟩, by omega, by simp (config := {maxSteps := 2000000}) only [↓aw_region, ↓aw_skip, ↓aw_seq, ↓aw_block, ↓aw_exit, ↓aw_ret, ↓sops_nil, ↓sops_go, ↓dops_nil, ↓dopsX_nil, ↓dopsR_nil, ↓vdn, vup, extr_20, extr_21, extr_30, extr_31, extr_32, List.map_cons, List.map_nil, cond_true, cond_false, aop, aThen, aBlock, argEnv, ev, sput, sputO, binK, binI, unK, builtinK, pickK, Nat.reduceBEq, Nat.reduceAdd, Int.reduceBEq, Int.reduceBNe, Int.reduceLT, aPost, resK, tup, tyf], rfl⟩
        by_cases htj : t = j
        · subst htj
          exact ⟨by omega, by omega, hri, fun q hq => by rw [ha, Int.toNat_natCast]; exact hcf q hq⟩
        · exact hok t (by omega)
    by_cases hi0 : i = 0
    · subst hi0
      have h00 : ¬ ((0 : Nat) : Int) > 0 := by decide
      simp (config := {maxSteps := 2000000}) only [s17, ↓aw_region, ↓aw_skip, ↓aw_seq, ↓aw_block, ↓aw_exit, ↓aw_ret, ↓sops_nil, ↓sops_go, ↓dops_nil, ↓dopsX_nil, ↓dopsR_nil, ↓vdn, vup, extr_20, extr_21, extr_30, extr_31, extr_32, List.map_cons, List.map_nil, cond_true, cond_false, aop, aThen, aBlock, argEnv, ev, sput, sputO, binK, binI, unK, builtinK, pickK, Nat.reduceBEq, Nat.reduceAdd, Int.reduceBEq, Int.reduceBNe, Int.reduceLT, aPost, resK, tup, tyf, hneg, nilK, fldA fld_62_0 esz_3, ldl, ge_iff_le, hbig, h00]
      exact go (.inl rfl) _ (by simp (config := {maxSteps := 2000000}) only [↓aw_region, ↓aw_skip, ↓aw_seq, ↓aw_block, ↓aw_exit, ↓aw_ret, ↓sops_nil, ↓sops_go, ↓dops_nil, ↓dopsX_nil, ↓dopsR_nil, ↓vdn, vup, extr_20, extr_21, extr_30, extr_31, extr_32, List.map_cons, List.map_nil, cond_true, cond_false, aop, aThen, aBlock, argEnv, ev, sput, sputO, binK, binI, unK, builtinK, pickK, Nat.reduceBEq, Nat.reduceAdd, Int.reduceBEq, Int.reduceBNe, Int.reduceLT, aPost, resK, tup, tyf, ha])
    · have hip : (0 : Int) < (i : Int) := by omega
      have hpi : i - 1 < cs.length := by omega
      by_cases hge : cs.getD i 0 ≤ cs.getD (i - 1) 0
      · have hf := code_no hi' (fun h : wOk xs n cs i => by rcases h.2.2.1 with h | h <;> omega)
        simp (config := {maxSteps := 2000000}) only [s17, ↓aw_region, ↓aw_skip, ↓aw_seq, ↓aw_block, ↓aw_exit, ↓aw_ret, ↓sops_nil, ↓sops_go, ↓dops_nil, ↓dopsX_nil, ↓dopsR_nil, ↓vdn, vup, extr_20, extr_21, extr_30, extr_31, extr_32, List.map_cons, List.map_nil, cond_true, cond_false, aop, aThen, aBlock, argEnv, ev, sput, sputO, binK, binI, unK, builtinK, pickK, Nat.reduceBEq, Nat.reduceAdd, Int.reduceBEq, Int.reduceBNe, Int.reduceLT, aPost, resK, tup, tyf, hneg, nilK, fldA fld_62_0 esz_3, ldl, ge_iff_le, hbig, gt_iff_lt, hip, subN1 (show 1 ≤ i by omega) (show i < 9223372036854775808 by omega), hc.idx el_22 esz_3 hpi, hc.load shp_3 hpi, hge]
        refine hQ2 _ _ _ (hQ _ _ _ ?_)
        simp (config := {maxSteps := 2000000}) only [↓aw_region, ↓aw_skip, ↓aw_seq, ↓aw_block, ↓aw_exit, ↓aw_ret, ↓sops_nil, ↓sops_go, ↓dops_nil, ↓dopsX_nil, ↓dopsR_nil, ↓vdn, vup, extr_20, extr_21, extr_30, extr_31, extr_32, List.map_cons, List.map_nil, cond_true, cond_false, aop, aThen, aBlock, argEnv, ev, sput, sputO, binK, binI, unK, builtinK, pickK, Nat.reduceBEq, Nat.reduceAdd, Int.reduceBEq, Int.reduceBNe, Int.reduceLT, aPost, resK, tup, tyf]
        exact hF hf _ (by simp (config := {maxSteps := 2000000}) only [↓aw_region, ↓aw_skip, ↓aw_seq, ↓aw_block, ↓aw_exit, ↓aw_ret, ↓sops_nil, ↓sops_go, ↓dops_nil, ↓dopsX_nil, ↓dopsR_nil, ↓vdn, vup, extr_20, extr_21, extr_30, extr_31, extr_32, List.map_cons, List.map_nil, cond_true, cond_false, aop, aThen, aBlock, argEnv, ev, sput, sputO, binK, binI, unK, builtinK, pickK, Nat.reduceBEq, Nat.reduceAdd, Int.reduceBEq, Int.reduceBNe, Int.reduceLT, aPost, resK, tup, tyf])
      · simp (config := {maxSteps := 2000000}) only [s17, ↓aw_region, ↓aw_skip, ↓aw_seq, ↓aw_block, ↓aw_exit, ↓aw_ret, ↓sops_nil, ↓sops_go, ↓dops_nil, ↓dopsX_nil, ↓dopsR_nil, ↓vdn, vup, extr_20, extr_21, extr_30, extr_31, extr_32, List.map_cons, List.map_nil, cond_true, cond_false, aop, aThen, aBlock, argEnv, ev, sput, sputO, binK, binI, unK, builtinK, pickK, Nat.reduceBEq, Nat.reduceAdd, Int.reduceBEq, Int.reduceBNe, Int.reduceLT, aPost, resK, tup, tyf, hneg, nilK, fldA fld_62_0 esz_3, ldl, ge_iff_le, hbig, gt_iff_lt, hip, subN1 (show 1 ≤ i by omega) (show i < 9223372036854775808 by omega), hc.idx el_22 esz_3 hpi, hc.load shp_3 hpi, hge]
        exact go (.inr (by omega)) _ (by simp (config := {maxSteps := 2000000}) only [↓aw_region, ↓aw_skip, ↓aw_seq, ↓aw_block, ↓aw_exit, ↓aw_ret, ↓sops_nil, ↓sops_go, ↓dops_nil, ↓dopsX_nil, ↓dopsR_nil, ↓vdn, vup, extr_20, extr_21, extr_30, extr_31, extr_32, List.map_cons, List.map_nil, cond_true, cond_false, aop, aThen, aBlock, argEnv, ev, sput, sputO, binK, binI, unK, builtinK, pickK, Nat.reduceBEq, Nat.reduceAdd, Int.reduceBEq, Int.reduceBNe, Int.reduceLT, aPost, resK, tup, tyf, ha])
  · obtain rfl : i = cs.length := by omega
    simp (config := {maxSteps := 2000000}) only [s17, ↓aw_region, ↓aw_skip, ↓aw_seq, ↓aw_block, ↓aw_exit, ↓aw_ret, ↓sops_nil, ↓sops_go, ↓dops_nil, ↓dopsX_nil, ↓dopsR_nil, ↓vdn, vup, extr_20, extr_21, extr_30, extr_31, extr_32, List.map_cons, List.map_nil, cond_true, cond_false, aop, aThen, aBlock, argEnv, ev, sput, sputO, binK, binI, unK, builtinK, pickK, Nat.reduceBEq, Nat.reduceAdd, Int.reduceBEq, Int.reduceBNe, Int.reduceLT, aPost, resK, tup, tyf, Int.lt_irrefl]
    refine hM [(6, .bool false), (7, .int .i64 0), (36, .bool false)] _ _ ?_ (by simp (config := {maxSteps := 2000000}) only [↓aw_region, ↓aw_skip, ↓aw_seq, ↓aw_block, ↓aw_exit, ↓aw_ret, ↓sops_nil, ↓sops_go, ↓dops_nil, ↓dopsX_nil, ↓dopsR_nil, ↓vdn, vup, extr_20, extr_21, extr_30, extr_31, extr_32, List.map_cons, List.map_nil, cond_true, cond_false, aop, aThen, aBlock, argEnv, ev, sput, sputO, binK, binI, unK, builtinK, pickK, Nat.reduceBEq, Nat.reduceAdd, Int.reduceBEq, Int.reduceBNe, Int.reduceLT, aPost, resK, tup, tyf])
    refine aw_aws ?_
    simp (config := {maxSteps := 2000000}) only [s17, ↓aw_region, ↓aw_skip, ↓aw_seq, ↓aw_block, ↓aw_exit, ↓aw_ret, ↓sops_nil, ↓sops_go, ↓dops_nil, ↓dopsX_nil, ↓dopsR_nil, ↓vdn, vup, extr_20, extr_21, extr_30, extr_31, extr_32, List.map_cons, List.map_nil, cond_true, cond_false, aop, aThen, aBlock, argEnv, ev, sput, sputO, binK, binI, unK, builtinK, pickK, Nat.reduceBEq, Nat.reduceAdd, Int.reduceBEq, Int.reduceBNe, Int.reduceLT, aPost, resK, tup, tyf]
    refine hQ2 _ _ _ (hQ _ _ _ ?_)
    simp (config := {maxSteps := 2000000}) only [s17, ↓aw_region, ↓aw_skip, ↓aw_seq, ↓aw_block, ↓aw_exit, ↓aw_ret, ↓sops_nil, ↓sops_go, ↓dops_nil, ↓dopsX_nil, ↓dopsR_nil, ↓vdn, vup, extr_20, extr_21, extr_30, extr_31, extr_32, List.map_cons, List.map_nil, cond_true, cond_false, aop, aThen, aBlock, argEnv, ev, sput, sputO, binK, binI, unK, builtinK, pickK, Nat.reduceBEq, Nat.reduceAdd, Int.reduceBEq, Int.reduceBNe, Int.reduceLT, aPost, resK, tup, tyf, if_true]
    exact hN (code_all hok) _ (by simp (config := {maxSteps := 2000000}) only [↓aw_region, ↓aw_skip, ↓aw_seq, ↓aw_block, ↓aw_exit, ↓aw_ret, ↓sops_nil, ↓sops_go, ↓dops_nil, ↓dopsX_nil, ↓dopsR_nil, ↓vdn, vup, extr_20, extr_21, extr_30, extr_31, extr_32, List.map_cons, List.map_nil, cond_true, cond_false, aop, aThen, aBlock, argEnv, ev, sput, sputO, binK, binI, unK, builtinK, pickK, Nat.reduceBEq, Nat.reduceAdd, Int.reduceBEq, Int.reduceBNe, Int.reduceLT, aPost, resK, tup, tyf])

theorem s17_callW [Tabs Tryd.prog] {args : List Value} {h : Heap} {Q : Value → Heap → Prop} (hsz : args.length ≤ 84) (hk : AWS Tryd.prog 84 s17 (aPost Tryd.prog [.tmp 6, .tmp 7] Q) (argEnv 0 args) h) : ACall Tryd.prog 17 args h Q :=
  acall_w Tryd.func17 rfl (enters_of Tryd.func17 (by kernel_rfl) rfl) rfl rfl (by decide) s17_strip s17_ok hsz hk
/-- What Codes gives back. -/
def codesR (xs : List Int) (k : Int) (cs : List Int) : Value :=
  if grs xs = true ∧ 1 ≤ k ∧ k ≤ 3 then (if wn xs k.toNat ≤ 64 then .tuple #[.bool (code xs k.toNat cs), .int .i64 0] else .tuple #[.bool false, .int .i64 6]) else .tuple #[.bool false, .int .i64 2]
theorem codes_call [BitTab prog 0] {h : Heap} {v cv : Value} {xs cs : List Int} (hv : IntSl h v xs) (hl : xs.length < 9223372036854775808) (hx : ∀ x ∈ xs, -9223372036854775808 ≤ x ∧ x < 9223372036854775808) {k : Int} (hc : IntSl h cv cs) (hcl : cs.length < 9223372036854775808) (hcx : ∀ x ∈ cs, -9223372036854775808 ≤ x ∧ x < 9223372036854775808) :
    ACall prog 17 [v, vint k, cv] h fun r h' => Ext (fun _ => False) h h' ∧ r = codesR xs k cs := by
  have hval := valid_call hv hl hx
  refine s17_callW (by simp) ?_
  simp only [s17]
  refine aws_cut fun N hN => ?_
  simp (config := {maxSteps := 2000000}) only [s17, ↓aw_region, ↓aw_skip, ↓aw_seq, ↓aw_block, ↓aw_exit, ↓aw_ret, ↓sops_nil, ↓sops_go, ↓dops_nil, ↓dopsX_nil, ↓dopsR_nil, ↓vdn, vup, extr_20, extr_21, extr_30, extr_31, extr_32, List.map_cons, List.map_nil, cond_true, cond_false, aop, aThen, aBlock, argEnv, ev, sput, sputO, binK, binI, unK, builtinK, pickK, Nat.reduceBEq, Nat.reduceAdd, Int.reduceBEq, Int.reduceBNe, Int.reduceLT, aPost, resK, tup, tyf]
  refine hN [(0, v), (1, vint k), (2, cv), (6, .bool false), (7, .int .i64 0)] _ _ ?_ (by simp (config := {maxSteps := 2000000}) only [↓aw_region, ↓aw_skip, ↓aw_seq, ↓aw_block, ↓aw_exit, ↓aw_ret, ↓sops_nil, ↓sops_go, ↓dops_nil, ↓dopsX_nil, ↓dopsR_nil, ↓vdn, vup, extr_20, extr_21, extr_30, extr_31, extr_32, List.map_cons, List.map_nil, cond_true, cond_false, aop, aThen, aBlock, argEnv, ev, sput, sputO, binK, binI, unK, builtinK, pickK, Nat.reduceBEq, Nat.reduceAdd, Int.reduceBEq, Int.reduceBNe, Int.reduceLT, aPost, resK, tup, tyf])
  clear hN N
  refine aws_cut fun N hN => ?_
  simp (config := {maxSteps := 2000000}) only [s17, ↓aw_region, ↓aw_skip, ↓aw_seq, ↓aw_block, ↓aw_exit, ↓aw_ret, ↓sops_nil, ↓sops_go, ↓dops_nil, ↓dopsX_nil, ↓dopsR_nil, ↓vdn, vup, extr_20, extr_21, extr_30, extr_31, extr_32, List.map_cons, List.map_nil, cond_true, cond_false, aop, aThen, aBlock, argEnv, ev, sput, sputO, binK, binI, unK, builtinK, pickK, Nat.reduceBEq, Nat.reduceAdd, Int.reduceBEq, Int.reduceBNe, Int.reduceLT, aPost, resK, tup, tyf, callK, List.nil_append, List.append_nil, List.toList_toArray, List.cons_append]
  refine hval.mono ?_
  rintro _ h ⟨rfl, rfl⟩
  cases hg : grs xs with
  | false =>
    simp (config := {maxSteps := 2000000}) only [s17, ↓aw_region, ↓aw_skip, ↓aw_seq, ↓aw_block, ↓aw_exit, ↓aw_ret, ↓sops_nil, ↓sops_go, ↓dops_nil, ↓dopsX_nil, ↓dopsR_nil, ↓vdn, vup, extr_20, extr_21, extr_30, extr_31, extr_32, List.map_cons, List.map_nil, cond_true, cond_false, aop, aThen, aBlock, argEnv, ev, sput, sputO, binK, binI, unK, builtinK, pickK, Nat.reduceBEq, Nat.reduceAdd, Int.reduceBEq, Int.reduceBNe, Int.reduceLT, aPost, resK, tup, tyf, hg, Bool.not_false]
    exact ⟨Ext.refl _ _, by rw [codesR, if_neg (by rw [hg]; exact fun h => by cases h.1)]⟩
  | true =>
  have g := grs_iff.1 hg
  by_cases k1 : k < 1
  · simp (config := {maxSteps := 2000000}) only [s17, ↓aw_region, ↓aw_skip, ↓aw_seq, ↓aw_block, ↓aw_exit, ↓aw_ret, ↓sops_nil, ↓sops_go, ↓dops_nil, ↓dopsX_nil, ↓dopsR_nil, ↓vdn, vup, extr_20, extr_21, extr_30, extr_31, extr_32, List.map_cons, List.map_nil, cond_true, cond_false, aop, aThen, aBlock, argEnv, ev, sput, sputO, binK, binI, unK, builtinK, pickK, Nat.reduceBEq, Nat.reduceAdd, Int.reduceBEq, Int.reduceBNe, Int.reduceLT, aPost, resK, tup, tyf, hg, Bool.not_true, k1]
    exact ⟨Ext.refl _ _, by rw [codesR, if_neg (by omega)]⟩
  by_cases k3 : 3 < k
  · simp (config := {maxSteps := 2000000}) only [s17, ↓aw_region, ↓aw_skip, ↓aw_seq, ↓aw_block, ↓aw_exit, ↓aw_ret, ↓sops_nil, ↓sops_go, ↓dops_nil, ↓dopsX_nil, ↓dopsR_nil, ↓vdn, vup, extr_20, extr_21, extr_30, extr_31, extr_32, List.map_cons, List.map_nil, cond_true, cond_false, aop, aThen, aBlock, argEnv, ev, sput, sputO, binK, binI, unK, builtinK, pickK, Nat.reduceBEq, Nat.reduceAdd, Int.reduceBEq, Int.reduceBNe, Int.reduceLT, aPost, resK, tup, tyf, hg, Bool.not_true, k1, gt_iff_lt, k3]
    exact ⟨Ext.refl _ _, by rw [codesR, if_neg (by omega)]⟩
  simp (config := {maxSteps := 2000000}) only [s17, ↓aw_region, ↓aw_skip, ↓aw_seq, ↓aw_block, ↓aw_exit, ↓aw_ret, ↓sops_nil, ↓sops_go, ↓dops_nil, ↓dopsX_nil, ↓dopsR_nil, ↓vdn, vup, extr_20, extr_21, extr_30, extr_31, extr_32, List.map_cons, List.map_nil, cond_true, cond_false, aop, aThen, aBlock, argEnv, ev, sput, sputO, binK, binI, unK, builtinK, pickK, Nat.reduceBEq, Nat.reduceAdd, Int.reduceBEq, Int.reduceBNe, Int.reduceLT, aPost, resK, tup, tyf, hg, Bool.not_true, k1, gt_iff_lt, k3]
  obtain ⟨n, rfl⟩ : ∃ n : Nat, k = (n : Int) := ⟨k.toNat, by omega⟩
  refine hN [(0, v), (1, vint n), (2, cv), (6, .bool false), (7, .int .i64 0)] _ _ ?_ (by simp (config := {maxSteps := 2000000}) only [↓aw_region, ↓aw_skip, ↓aw_seq, ↓aw_block, ↓aw_exit, ↓aw_ret, ↓sops_nil, ↓sops_go, ↓dops_nil, ↓dopsX_nil, ↓dopsR_nil, ↓vdn, vup, extr_20, extr_21, extr_30, extr_31, extr_32, List.map_cons, List.map_nil, cond_true, cond_false, aop, aThen, aBlock, argEnv, ev, sput, sputO, binK, binI, unK, builtinK, pickK, Nat.reduceBEq, Nat.reduceAdd, Int.reduceBEq, Int.reduceBNe, Int.reduceLT, aPost, resK, tup, tyf])
  clear hN N
  have hcr : codesR xs n cs = (if wn xs n ≤ 64 then .tuple #[.bool (code xs n cs), .int .i64 0] else .tuple #[.bool false, .int .i64 6]) := by
    rw [codesR, if_pos ⟨hg, by omega, by omega⟩, Int.toNat_natCast]
  refine aws_cut fun N hN => ?_
  simp (config := {maxSteps := 2000000}) only [s17, ↓aw_region, ↓aw_skip, ↓aw_seq, ↓aw_block, ↓aw_exit, ↓aw_ret, ↓sops_nil, ↓sops_go, ↓dops_nil, ↓dopsX_nil, ↓dopsR_nil, ↓vdn, vup, extr_20, extr_21, extr_30, extr_31, extr_32, List.map_cons, List.map_nil, cond_true, cond_false, aop, aThen, aBlock, argEnv, ev, sput, sputO, binK, binI, unK, builtinK, pickK, Nat.reduceBEq, Nat.reduceAdd, Int.reduceBEq, Int.reduceBNe, Int.reduceLT, aPost, resK, tup, tyf, callK, List.nil_append, List.append_nil, List.toList_toArray, List.cons_append]
  refine (words_call hv g (show n ≤ 6 by omega)).mono ?_
  rintro r h1 ⟨hE, hr⟩
  by_cases hw : wn xs n ≤ 64
  · rw [if_pos hw] at hr
    obtain ⟨b, rfl, w⟩ := hr
    simp (config := {maxSteps := 2000000}) only [s17, ↓aw_region, ↓aw_skip, ↓aw_seq, ↓aw_block, ↓aw_exit, ↓aw_ret, ↓sops_nil, ↓sops_go, ↓dops_nil, ↓dopsX_nil, ↓dopsR_nil, ↓vdn, vup, extr_20, extr_21, extr_30, extr_31, extr_32, List.map_cons, List.map_nil, cond_true, cond_false, aop, aThen, aBlock, argEnv, ev, sput, sputO, binK, binI, unK, builtinK, pickK, Nat.reduceBEq, Nat.reduceAdd, Int.reduceBEq, Int.reduceBNe, Int.reduceLT, aPost, resK, tup, tyf]
    refine hN [(2, cv), (6, .bool false), (7, .int .i64 0), (8, pt b), (9, .bool true)] _ _ ?_ (by simp (config := {maxSteps := 2000000}) only [↓aw_region, ↓aw_skip, ↓aw_seq, ↓aw_block, ↓aw_exit, ↓aw_ret, ↓sops_nil, ↓sops_go, ↓dops_nil, ↓dopsX_nil, ↓dopsR_nil, ↓vdn, vup, extr_20, extr_21, extr_30, extr_31, extr_32, List.map_cons, List.map_nil, cond_true, cond_false, aop, aThen, aBlock, argEnv, ev, sput, sputO, binK, binI, unK, builtinK, pickK, Nat.reduceBEq, Nat.reduceAdd, Int.reduceBEq, Int.reduceBNe, Int.reduceLT, aPost, resK, tup, tyf])
    clear hN N
    refine aws_cut fun N hN => ?_
    simp (config := {maxSteps := 2000000}) only [s17, ↓aw_region, ↓aw_skip, ↓aw_seq, ↓aw_block, ↓aw_exit, ↓aw_ret, ↓sops_nil, ↓sops_go, ↓dops_nil, ↓dopsX_nil, ↓dopsR_nil, ↓vdn, vup, extr_20, extr_21, extr_30, extr_31, extr_32, List.map_cons, List.map_nil, cond_true, cond_false, aop, aThen, aBlock, argEnv, ev, sput, sputO, binK, binI, unK, builtinK, pickK, Nat.reduceBEq, Nat.reduceAdd, Int.reduceBEq, Int.reduceBNe, Int.reduceLT, aPost, resK, tup, tyf, Bool.not_true]
    refine hN [(2, cv), (6, .bool false), (7, .int .i64 0), (8, pt b)] _ _ ?_ (by simp (config := {maxSteps := 2000000}) only [↓aw_region, ↓aw_skip, ↓aw_seq, ↓aw_block, ↓aw_exit, ↓aw_ret, ↓sops_nil, ↓sops_go, ↓dops_nil, ↓dopsX_nil, ↓dopsR_nil, ↓vdn, vup, extr_20, extr_21, extr_30, extr_31, extr_32, List.map_cons, List.map_nil, cond_true, cond_false, aop, aThen, aBlock, argEnv, ev, sput, sputO, binK, binI, unK, builtinK, pickK, Nat.reduceBEq, Nat.reduceAdd, Int.reduceBEq, Int.reduceBNe, Int.reduceLT, aPost, resK, tup, tyf])
    clear hN N
    refine aws_cut fun N hN => ?_
    refine codes_loop w (IntSl_ext hc hE) hcl hcx hw (fun ht e he => hN [(6, .bool false), (7, .int .i64 0)] _ _ ?_ he) (fun hf e he => ?_)
    · clear hN N
      refine aw_aws ?_
      simp (config := {maxSteps := 2000000}) only [s17, ↓aw_region, ↓aw_skip, ↓aw_seq, ↓aw_block, ↓aw_exit, ↓aw_ret, ↓sops_nil, ↓sops_go, ↓dops_nil, ↓dopsX_nil, ↓dopsR_nil, ↓vdn, vup, extr_20, extr_21, extr_30, extr_31, extr_32, List.map_cons, List.map_nil, cond_true, cond_false, aop, aThen, aBlock, argEnv, ev, sput, sputO, binK, binI, unK, builtinK, pickK, Nat.reduceBEq, Nat.reduceAdd, Int.reduceBEq, Int.reduceBNe, Int.reduceLT, aPost, resK, tup, tyf]
      exact ⟨hE, by rw [hcr, if_pos hw, ht]⟩
    · have e6 := he (6, .bool false) (by simp)
      have e7 := he (7, .int .i64 0) (by simp)
      simp (config := {maxSteps := 2000000}) only [s17, ↓aw_region, ↓aw_skip, ↓aw_seq, ↓aw_block, ↓aw_exit, ↓aw_ret, ↓sops_nil, ↓sops_go, ↓dops_nil, ↓dopsX_nil, ↓dopsR_nil, ↓vdn, vup, extr_20, extr_21, extr_30, extr_31, extr_32, List.map_cons, List.map_nil, cond_true, cond_false, aop, aThen, aBlock, argEnv, ev, sput, sputO, binK, binI, unK, builtinK, pickK, Nat.reduceBEq, Nat.reduceAdd, Int.reduceBEq, Int.reduceBNe, Int.reduceLT, aPost, resK, tup, tyf, e6, e7]
      exact ⟨hE, by rw [hcr, if_pos hw, hf]⟩
  · rw [if_neg hw] at hr
    subst hr
    simp (config := {maxSteps := 2000000}) only [s17, ↓aw_region, ↓aw_skip, ↓aw_seq, ↓aw_block, ↓aw_exit, ↓aw_ret, ↓sops_nil, ↓sops_go, ↓dops_nil, ↓dopsX_nil, ↓dopsR_nil, ↓vdn, vup, extr_20, extr_21, extr_30, extr_31, extr_32, List.map_cons, List.map_nil, cond_true, cond_false, aop, aThen, aBlock, argEnv, ev, sput, sputO, binK, binI, unK, builtinK, pickK, Nat.reduceBEq, Nat.reduceAdd, Int.reduceBEq, Int.reduceBNe, Int.reduceLT, aPost, resK, tup, tyf]
    refine hN [(0, v), (1, vint n), (2, cv), (6, .bool false), (7, .int .i64 0), (8, .pointer none), (9, .bool false)] _ _ ?_ (by simp (config := {maxSteps := 2000000}) only [↓aw_region, ↓aw_skip, ↓aw_seq, ↓aw_block, ↓aw_exit, ↓aw_ret, ↓sops_nil, ↓sops_go, ↓dops_nil, ↓dopsX_nil, ↓dopsR_nil, ↓vdn, vup, extr_20, extr_21, extr_30, extr_31, extr_32, List.map_cons, List.map_nil, cond_true, cond_false, aop, aThen, aBlock, argEnv, ev, sput, sputO, binK, binI, unK, builtinK, pickK, Nat.reduceBEq, Nat.reduceAdd, Int.reduceBEq, Int.reduceBNe, Int.reduceLT, aPost, resK, tup, tyf])
    clear hN N
    refine aw_aws ?_
    simp (config := {maxSteps := 2000000}) only [s17, ↓aw_region, ↓aw_skip, ↓aw_seq, ↓aw_block, ↓aw_exit, ↓aw_ret, ↓sops_nil, ↓sops_go, ↓dops_nil, ↓dopsX_nil, ↓dopsR_nil, ↓vdn, vup, extr_20, extr_21, extr_30, extr_31, extr_32, List.map_cons, List.map_nil, cond_true, cond_false, aop, aThen, aBlock, argEnv, ev, sput, sputO, binK, binI, unK, builtinK, pickK, Nat.reduceBEq, Nat.reduceAdd, Int.reduceBEq, Int.reduceBNe, Int.reduceLT, aPost, resK, tup, tyf, Bool.not_false]
    exact ⟨hE, by rw [hcr, if_neg hw]⟩
end Go.Proofs.Tryd.Am
