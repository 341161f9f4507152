/-
  sure: the first greatest code, as the program finds it.
-/
import Derived.Test.YtaagkbbphgdcdaaDoorSuMost
set_option linter.all false
namespace Go.Proofs.Tryd.Am
open Go.Am Sr
set_option maxRecDepth 100000
set_option maxHeartbeats 1000000

theorem shrAll {m : Nat} (h : m ≤ 64) : shrV .u64 18446744073709551615 ((64 - m : Nat) : Int) = ((2 ^ m - 1 : Nat) : Int) := by
  have e : ∀ m, m ≤ 64 → 18446744073709551615 / 2 ^ (64 - m) = 2 ^ m - 1 := by decide
  have := shrU' (a := 18446744073709551615) (k := ((64 - m : Nat) : Int)) (y := 64 - m) rfl (by decide)
  rw [e m h] at this; exact this
theorem sub64 {m : Nat} (h : m ≤ 64) : subV .i64 64 (m : Int) = ((64 - m : Nat) : Int) := by rw [subV_id (by omega) (by omega)]; omega
theorem subN1 {n : Nat} (h1 : 1 ≤ n) (h : n < 9223372036854775808) : subV .i64 (n : Int) 1 = ((n - 1 : Nat) : Int) := by rw [subV_id (by omega) (by omega)]; omega
theorem litI1 {h : Heap} {x : Int} (K : Value → Heap → Prop) : buildSliceK prog h 22 1 [(0, vint x)] K = K (.slice (some ⟨h.length, 0, none⟩) 1 1) (h ++ [.ints [x] 3 false]) := by
  simp only [buildSliceK, el_22, zero_3, esz_3, reps, fillL, mkb, intsOf, notTuple, cellsOf, List.length_singleton, Nat.mul_one, Nat.zero_mul, Nat.zero_add]
  exact propext ⟨fun h => h.2.2.2, fun h => ⟨trivial, by decide, by decide, h⟩⟩
/-- A slice of ints that a run makes, behind what was there. -/
def RSI (h hp : Heap) (ov : Value) (xs : List Int) : Prop := OwnSl 3 hp ov xs ∧ Ext (fun _ => False) h hp ∧ ∀ b, blkOf ov = some b → h.length ≤ b
theorem RSI.nil (h : Heap) : RSI h h (.slice none 0 0) [] := ⟨.inl ⟨rfl, rfl⟩, Ext.refl _ _, fun b hb => by cases hb⟩
theorem RSI.push {h hp : Heap} {ov : Value} {xs : List Int} (s : RSI h hp ov xs) {x : Int} (hn : xs.length < 1099511627776) {K : Value → Heap → Prop} (hk : ∀ v' h', RSI h h' v' (xs ++ [x]) → K v' h') :
    appendK prog (hp ++ [.ints [x] 3 false]) 22 22 ov (.slice (some ⟨hp.length, 0, none⟩) 1 1) K := by
  obtain ⟨hown, hE, hblk⟩ := s
  have hx1 : Ext (fun _ => False) hp (hp ++ [.ints [x] 3 false]) := Ext.app _ _ _
  refine (hown.ext hx1 fun _ _ => id).append app_22_22 hn (get_new _ _) fun v' h' ho hE' hb => hk v' h' ⟨ho, ?_, fun b hbb => ?_⟩
  · have h1 := hE.1
    have h2 := hx1.1
    have h3 := hE'.1
    refine ⟨by omega, fun i hi _ => ?_⟩
    rw [hE'.2 i (by omega) fun hbb => by have := hblk i hbb; omega, hx1.2 i (by omega) id]
    exact hE.2 i hi id
  · rcases hb with h1 | ⟨b', h1, h2⟩
    · exact hblk b (h1 ▸ hbb)
    · rw [h1] at hbb; cases hbb; have := hE.1; have := hx1.1; omega

/-- What Code gives back. -/
def codeR (h' : Heap) (xs : List Int) (k : Int) (r : Value) : Prop :=
  if grs xs = true ∧ 1 ≤ k ∧ k ≤ 3 then (if wn xs k.toNat ≤ 64 then ∃ w, r = .tuple #[w, .int .i64 0] ∧ OwnSl 3 h' w ((codeL (nearL xs k.toNat)).map Int.ofNat) else r = .tuple #[.slice none 0 0, .int .i64 6]) else r = .tuple #[.slice none 0 0, .int .i64 2]

theorem code_loop [BitTab prog 0] {h : Heap} {b : Nat} {nr : List Nat} (w : WO h b nr) (g : Gr nr) {N : Env → Heap → Prop} {Q0 : Exit → Env → Heap → Prop}
    (hN : ∀ hp ov e, RSI h hp ov ((codeL nr).map Int.ofNat) → ELe e [(4, .slice none 0 0), (5, .int .i64 0), (10, ov)] → N e hp) :
    aw prog 81 (.seq q19_9 (.block 0 (.loop l19_0))) (aThen N Q0) [(4, .slice none 0 0), (5, .int .i64 0), (6, pt b), (8, vu (2 ^ nr.length - 1)), (9, vint (A nr (2 ^ nr.length - 1) : Nat)), (10, .slice none 0 0)] h := by
  have n64 := g.len
  have hnn : ∀ i : Nat, (0 : Int) ≤ (i : Int) := Int.natCast_nonneg
  have w0 := w
  obtain ⟨nv0, hc0, hv0⟩ := w0
  have ldl : ∀ {K : Value → Prop}, loadK prog h 3 (.pointer (some ⟨b, 0, none⟩)) K = K (vint nr.length) := fun {K} => loadC (o := 0) hc0 shp_3 rfl
  simp (config := {maxSteps := 2000000}) only [s19, ↓aw_region, ↓aw_skip, ↓aw_seq, ↓aw_block, ↓aw_exit, ↓aw_ret, ↓sops_nil, ↓sops_go, ↓dops_nil, ↓dopsX_nil, ↓dopsR_nil, ↓vdn, vup, extr_20, extr_21, extr_30, extr_31, extr_32, List.map_cons, List.map_nil, cond_true, cond_false, aop, aThen, aBlock, argEnv, ev, sput, sputO, binK, binI, unK, builtinK, pickK, Nat.reduceBEq, Nat.reduceAdd, Int.reduceBEq, Int.reduceBNe, Int.reduceLT, aPost, resK, tup, tyf, nilK, fldA fld_62_0 esz_3, ldl, ↓aw_loop_eq]
  refine aws_hide fun Q hQ => ?_
  refine aw_loop (γ := Nat × Value × Heap) (fun s => s.1 ≤ nr.length ∧ RSI h s.2.2 s.2.1 ((cAt nr s.1).2.2.map Int.ofNat))
    (fun s => ([(4, .slice none 0 0), (5, .int .i64 0), (6, pt b), (8, vu (cAt nr s.1).1), (9, vint ((cAt nr s.1).2.1 : Nat)), (10, s.2.1), (44, vint nr.length), (45, vint s.1)], s.2.2)) (fun s => nr.length - s.1) (0, .slice none 0 0, h) ⟨Nat.zero_le _, RSI.nil h⟩ (by simp (config := {maxSteps := 2000000}) only [↓aw_region, ↓aw_skip, ↓aw_seq, ↓aw_block, ↓aw_exit, ↓aw_ret, ↓sops_nil, ↓sops_go, ↓dops_nil, ↓dopsX_nil, ↓dopsR_nil, ↓vdn, vup, extr_20, extr_21, extr_30, extr_31, extr_32, List.map_cons, List.map_nil, cond_true, cond_false, aop, aThen, aBlock, argEnv, ev, sput, sputO, binK, binI, unK, builtinK, pickK, Nat.reduceBEq, Nat.reduceAdd, Int.reduceBEq, Int.reduceBNe, Int.reduceLT, aPost, resK, tup, tyf, Int.natCast_zero, cAt, List.range_zero, List.foldl_nil]) rfl ?_
  rintro ⟨i, ov, hp⟩ ⟨hi, hs⟩
  simp only at hi hs
  refine aw_hide fun Q2 hQ2 => ?_
  by_cases hin : (i : Int) < nr.length
  · have hi' : i < nr.length := by omega
    obtain ⟨i1, i2, i3⟩ := cAt_inv g i
    have es := cAt_succ nr i
    generalize cAt nr i = c at i1 i2 i3 es hs
    obtain ⟨left, need, out⟩ := c
    simp only at i1 i2 i3 hs
    have hl64 := lt64 g i1
    have hnd := A_le nr left
    rw [← i2] at hnd
    cases hb : left.testBit i with
    | false =>
      have e : cAt nr (i + 1) = (left, need, out) := by rw [es, cStep, if_neg (by simp only [hb]; decide)]
      simp (config := {maxSteps := 2000000}) only [s19, ↓aw_region, ↓aw_skip, ↓aw_seq, ↓aw_block, ↓aw_exit, ↓aw_ret, ↓sops_nil, ↓sops_go, ↓dops_nil, ↓dopsX_nil, ↓dopsR_nil, ↓vdn, vup, extr_20, extr_21, extr_30, extr_31, extr_32, List.map_cons, List.map_nil, cond_true, cond_false, aop, aThen, aBlock, argEnv, ev, sput, sputO, binK, binI, unK, builtinK, pickK, Nat.reduceBEq, Nat.reduceAdd, Int.reduceBEq, Int.reduceBNe, Int.reduceLT, aPost, resK, tup, tyf, l19_0, hin, hnn, testU hl64, hb, beq0, Bool.not_false, Bool.false_eq_true, if_false, add1 (show i < 9223372036854775807 by omega)]
      exact hQ2 _ _ _ ⟨(i + 1, ov, hp), ⟨by simp only; omega, by simp only [e]; exact hs⟩, by simp only; omega, by simp (config := {maxSteps := 2000000}) only [↓aw_region, ↓aw_skip, ↓aw_seq, ↓aw_block, ↓aw_exit, ↓aw_ret, ↓sops_nil, ↓sops_go, ↓dops_nil, ↓dopsX_nil, ↓dopsR_nil, ↓vdn, vup, extr_20, extr_21, extr_30, extr_31, extr_32, List.map_cons, List.map_nil, cond_true, cond_false, aop, aThen, aBlock, argEnv, ev, sput, sputO, binK, binI, unK, builtinK, pickK, Nat.reduceBEq, Nat.reduceAdd, Int.reduceBEq, Int.reduceBNe, Int.reduceLT, aPost, resK, tup, tyf, e], rfl⟩
    | true =>
      obtain ⟨nv, hc, hv⟩ := w.ext hs.2.1
      have ldn : ∀ {K : Value → Prop}, loadK prog hp 60 (.pointer (some ⟨b, 1, none⟩)) K = K nv := fun {K} => loadC (o := 1) hc shp_60 rfl
      have ix : ∀ {K : Value → Prop}, idxAddrK prog 60 nv (vint i) K = K (elemP nv 1 i) := fun {K} => hv.idx el_60 esz_63 (by rw [List.length_map]; exact hi') K
      have ld : ∀ {K : Value → Prop}, loadK prog hp 63 (elemP nv 1 i) K = K (vu (nb nr i)) := fun {K} => by
        rw [hv.load shp_63 (by rw [List.length_map]; exact hi'), getD_vu hi']
      have hi64 : i < 64 := by omega
      have hcutU : bitsV .andNot .u64 ((less left (2 ^ i) : Nat) : Int) ((nb nr i : Nat) : Int) = ((cut nr left i : Nat) : Int) := by
        rw [lessU (lt64 g (less_lt i1)) (nb64 g i), cut_swap]
      have hmo := most_call (w.ext hs.2.1) g (cut nr left i) (cut_lt i1)
      have hp1 := A_pos g (Nat.lt_of_lt_of_le i1 (Nat.pow_le_pow_right (by decide) g.len)) hb
      have a1 := A_le nr (cut nr left i)
      have e1 : addV .i64 1 ((A nr (cut nr left i) : Nat) : Int) = ((1 + A nr (cut nr left i) : Nat) : Int) := by rw [addV_id (by omega) (by omega)]; omega
      simp (config := {maxSteps := 2000000}) only [s19, ↓aw_region, ↓aw_skip, ↓aw_seq, ↓aw_block, ↓aw_exit, ↓aw_ret, ↓sops_nil, ↓sops_go, ↓dops_nil, ↓dopsX_nil, ↓dopsR_nil, ↓vdn, vup, extr_20, extr_21, extr_30, extr_31, extr_32, List.map_cons, List.map_nil, cond_true, cond_false, aop, aThen, aBlock, argEnv, ev, sput, sputO, binK, binI, unK, builtinK, pickK, Nat.reduceBEq, Nat.reduceAdd, Int.reduceBEq, Int.reduceBNe, Int.reduceLT, aPost, resK, tup, tyf, l19_0, hin, hnn, testU hl64, hb, beq0, Bool.not_true, if_true, shlU1 hi64, lessU hl64 (bit64 hi64), nilK, fldA fld_62_1 esz_60, ldn, ix, ld, hcutU, callK, List.nil_append, List.append_nil, List.toList_toArray, List.cons_append]
      refine hmo.mono ?_
      rintro _ hp ⟨rfl, rfl⟩
      by_cases hq : 1 + A nr (cut nr left i) = need
      · have e : cAt nr (i + 1) = (cut nr left i, need - 1, out ++ [i]) := by rw [es, cStep, if_pos (by exact hb), if_pos (by exact hq)]
        have hq2 : (((1 + A nr (cut nr left i) : Nat) : Int) == ((need : Nat) : Int)) = true := by rw [hq]; exact beq_self_eq_true _
        simp (config := {maxSteps := 2000000}) only [s19, ↓aw_region, ↓aw_skip, ↓aw_seq, ↓aw_block, ↓aw_exit, ↓aw_ret, ↓sops_nil, ↓sops_go, ↓dops_nil, ↓dopsX_nil, ↓dopsR_nil, ↓vdn, vup, extr_20, extr_21, extr_30, extr_31, extr_32, List.map_cons, List.map_nil, cond_true, cond_false, aop, aThen, aBlock, argEnv, ev, sput, sputO, binK, binI, unK, builtinK, pickK, Nat.reduceBEq, Nat.reduceAdd, Int.reduceBEq, Int.reduceBNe, Int.reduceLT, aPost, resK, tup, tyf, e1, hq2, litI1]
        refine hs.push (by rw [List.length_map]; omega) fun v' h' s' => ?_
        simp (config := {maxSteps := 2000000}) only [s19, ↓aw_region, ↓aw_skip, ↓aw_seq, ↓aw_block, ↓aw_exit, ↓aw_ret, ↓sops_nil, ↓sops_go, ↓dops_nil, ↓dopsX_nil, ↓dopsR_nil, ↓vdn, vup, extr_20, extr_21, extr_30, extr_31, extr_32, List.map_cons, List.map_nil, cond_true, cond_false, aop, aThen, aBlock, argEnv, ev, sput, sputO, binK, binI, unK, builtinK, pickK, Nat.reduceBEq, Nat.reduceAdd, Int.reduceBEq, Int.reduceBNe, Int.reduceLT, aPost, resK, tup, tyf, subN1 (show 1 ≤ need by omega) (show need < 9223372036854775808 by omega), add1 (show i < 9223372036854775807 by omega)]
        have em : (out ++ [i]).map Int.ofNat = out.map Int.ofNat ++ [(i : Int)] := by rw [List.map_append]; rfl
        exact hQ2 _ _ _ ⟨(i + 1, v', h'), ⟨by simp only; omega, by simp only [e, em]; exact s'⟩, by simp only; omega, by simp (config := {maxSteps := 2000000}) only [↓aw_region, ↓aw_skip, ↓aw_seq, ↓aw_block, ↓aw_exit, ↓aw_ret, ↓sops_nil, ↓sops_go, ↓dops_nil, ↓dopsX_nil, ↓dopsR_nil, ↓vdn, vup, extr_20, extr_21, extr_30, extr_31, extr_32, List.map_cons, List.map_nil, cond_true, cond_false, aop, aThen, aBlock, argEnv, ev, sput, sputO, binK, binI, unK, builtinK, pickK, Nat.reduceBEq, Nat.reduceAdd, Int.reduceBEq, Int.reduceBNe, Int.reduceLT, aPost, resK, tup, tyf, e], rfl⟩
      · have e : cAt nr (i + 1) = (less left (2 ^ i), need, out) := by rw [es, cStep, if_pos (by exact hb), if_neg (by exact hq)]
        have hq2 : (((1 + A nr (cut nr left i) : Nat) : Int) == ((need : Nat) : Int)) = false := by
          rw [beq_eq_false_iff_ne]; omega
        simp (config := {maxSteps := 2000000}) only [s19, ↓aw_region, ↓aw_skip, ↓aw_seq, ↓aw_block, ↓aw_exit, ↓aw_ret, ↓sops_nil, ↓sops_go, ↓dops_nil, ↓dopsX_nil, ↓dopsR_nil, ↓vdn, vup, extr_20, extr_21, extr_30, extr_31, extr_32, List.map_cons, List.map_nil, cond_true, cond_false, aop, aThen, aBlock, argEnv, ev, sput, sputO, binK, binI, unK, builtinK, pickK, Nat.reduceBEq, Nat.reduceAdd, Int.reduceBEq, Int.reduceBNe, Int.reduceLT, aPost, resK, tup, tyf, e1, hq2, add1 (show i < 9223372036854775807 by omega)]
        exact hQ2 _ _ _ ⟨(i + 1, ov, hp), ⟨by simp only; omega, by simp only [e]; exact hs⟩, by simp only; omega, by simp (config := {maxSteps := 2000000}) only [↓aw_region, ↓aw_skip, ↓aw_seq, ↓aw_block, ↓aw_exit, ↓aw_ret, ↓sops_nil, ↓sops_go, ↓dops_nil, ↓dopsX_nil, ↓dopsR_nil, ↓vdn, vup, extr_20, extr_21, extr_30, extr_31, extr_32, List.map_cons, List.map_nil, cond_true, cond_false, aop, aThen, aBlock, argEnv, ev, sput, sputO, binK, binI, unK, builtinK, pickK, Nat.reduceBEq, Nat.reduceAdd, Int.reduceBEq, Int.reduceBNe, Int.reduceLT, aPost, resK, tup, tyf, e], rfl⟩
  · obtain rfl : i = nr.length := by omega
    simp (config := {maxSteps := 2000000}) only [s19, ↓aw_region, ↓aw_skip, ↓aw_seq, ↓aw_block, ↓aw_exit, ↓aw_ret, ↓sops_nil, ↓sops_go, ↓dops_nil, ↓dopsX_nil, ↓dopsR_nil, ↓vdn, vup, extr_20, extr_21, extr_30, extr_31, extr_32, List.map_cons, List.map_nil, cond_true, cond_false, aop, aThen, aBlock, argEnv, ev, sput, sputO, binK, binI, unK, builtinK, pickK, Nat.reduceBEq, Nat.reduceAdd, Int.reduceBEq, Int.reduceBNe, Int.reduceLT, aPost, resK, tup, tyf, l19_0, Int.lt_irrefl]
    refine hQ2 _ _ _ (hQ _ _ _ ?_)
    simp (config := {maxSteps := 2000000}) only [s19, ↓aw_region, ↓aw_skip, ↓aw_seq, ↓aw_block, ↓aw_exit, ↓aw_ret, ↓sops_nil, ↓sops_go, ↓dops_nil, ↓dopsX_nil, ↓dopsR_nil, ↓vdn, vup, extr_20, extr_21, extr_30, extr_31, extr_32, List.map_cons, List.map_nil, cond_true, cond_false, aop, aThen, aBlock, argEnv, ev, sput, sputO, binK, binI, unK, builtinK, pickK, Nat.reduceBEq, Nat.reduceAdd, Int.reduceBEq, Int.reduceBNe, Int.reduceLT, aPost, resK, tup, tyf, if_true]
    exact hN hp ov _ hs (by simp (config := {maxSteps := 2000000}) only [↓aw_region, ↓aw_skip, ↓aw_seq, ↓aw_block, ↓aw_exit, ↓aw_ret, ↓sops_nil, ↓sops_go, ↓dops_nil, ↓dopsX_nil, ↓dopsR_nil, ↓vdn, vup, extr_20, extr_21, extr_30, extr_31, extr_32, List.map_cons, List.map_nil, cond_true, cond_false, aop, aThen, aBlock, argEnv, ev, sput, sputO, binK, binI, unK, builtinK, pickK, Nat.reduceBEq, Nat.reduceAdd, Int.reduceBEq, Int.reduceBNe, Int.reduceLT, aPost, resK, tup, tyf])

theorem s19_callW [Tabs Tryd.prog] {args : List Value} {h : Heap} {Q : Value → Heap → Prop} (hsz : args.length ≤ 81) (hk : AWS Tryd.prog 81 s19 (aPost Tryd.prog [.tmp 4, .tmp 5] Q) (argEnv 0 args) h) : ACall Tryd.prog 19 args h Q :=
  acall_w Tryd.func19 rfl (enters_of Tryd.func19 (by kernel_rfl) rfl) rfl rfl (by decide) s19_strip s19_ok hsz hk
theorem code_call [BitTab prog 0] {h : Heap} {v : Value} {xs : List Int} (hv : IntSl h v xs) (hl : xs.length < 9223372036854775808) (hx : ∀ x ∈ xs, -9223372036854775808 ≤ x ∧ x < 9223372036854775808) {k : Int} :
    ACall prog 19 [v, vint k] h fun r h' => Ext (fun _ => False) h h' ∧ codeR h' xs k r := by
  have hval := valid_call hv hl hx
  refine s19_callW (by simp) ?_
  simp only [s19]
  refine aws_cut fun N hN => ?_
  simp (config := {maxSteps := 2000000}) only [s19, ↓aw_region, ↓aw_skip, ↓aw_seq, ↓aw_block, ↓aw_exit, ↓aw_ret, ↓sops_nil, ↓sops_go, ↓dops_nil, ↓dopsX_nil, ↓dopsR_nil, ↓vdn, vup, extr_20, extr_21, extr_30, extr_31, extr_32, List.map_cons, List.map_nil, cond_true, cond_false, aop, aThen, aBlock, argEnv, ev, sput, sputO, binK, binI, unK, builtinK, pickK, Nat.reduceBEq, Nat.reduceAdd, Int.reduceBEq, Int.reduceBNe, Int.reduceLT, aPost, resK, tup, tyf]
  refine hN [(0, v), (1, vint k), (4, .slice none 0 0), (5, .int .i64 0)] _ _ ?_ (by simp (config := {maxSteps := 2000000}) only [↓aw_region, ↓aw_skip, ↓aw_seq, ↓aw_block, ↓aw_exit, ↓aw_ret, ↓sops_nil, ↓sops_go, ↓dops_nil, ↓dopsX_nil, ↓dopsR_nil, ↓vdn, vup, extr_20, extr_21, extr_30, extr_31, extr_32, List.map_cons, List.map_nil, cond_true, cond_false, aop, aThen, aBlock, argEnv, ev, sput, sputO, binK, binI, unK, builtinK, pickK, Nat.reduceBEq, Nat.reduceAdd, Int.reduceBEq, Int.reduceBNe, Int.reduceLT, aPost, resK, tup, tyf])
  clear hN N
  refine aws_cut fun N hN => ?_
  simp (config := {maxSteps := 2000000}) only [s19, ↓aw_region, ↓aw_skip, ↓aw_seq, ↓aw_block, ↓aw_exit, ↓aw_ret, ↓sops_nil, ↓sops_go, ↓dops_nil, ↓dopsX_nil, ↓dopsR_nil, ↓vdn, vup, extr_20, extr_21, extr_30, extr_31, extr_32, List.map_cons, List.map_nil, cond_true, cond_false, aop, aThen, aBlock, argEnv, ev, sput, sputO, binK, binI, unK, builtinK, pickK, Nat.reduceBEq, Nat.reduceAdd, Int.reduceBEq, Int.reduceBNe, Int.reduceLT, aPost, resK, tup, tyf, callK, List.nil_append, List.append_nil, List.toList_toArray, List.cons_append]
  refine hval.mono ?_
  rintro _ h ⟨rfl, rfl⟩
  cases hg : grs xs with
  | false =>
    simp (config := {maxSteps := 2000000}) only [s19, ↓aw_region, ↓aw_skip, ↓aw_seq, ↓aw_block, ↓aw_exit, ↓aw_ret, ↓sops_nil, ↓sops_go, ↓dops_nil, ↓dopsX_nil, ↓dopsR_nil, ↓vdn, vup, extr_20, extr_21, extr_30, extr_31, extr_32, List.map_cons, List.map_nil, cond_true, cond_false, aop, aThen, aBlock, argEnv, ev, sput, sputO, binK, binI, unK, builtinK, pickK, Nat.reduceBEq, Nat.reduceAdd, Int.reduceBEq, Int.reduceBNe, Int.reduceLT, aPost, resK, tup, tyf, hg, Bool.not_false]
    exact ⟨Ext.refl _ _, by rw [codeR, if_neg (by rw [hg]; exact fun h => by cases h.1)]⟩
  | true =>
  have g := grs_iff.1 hg
  by_cases k1 : k < 1
  · simp (config := {maxSteps := 2000000}) only [s19, ↓aw_region, ↓aw_skip, ↓aw_seq, ↓aw_block, ↓aw_exit, ↓aw_ret, ↓sops_nil, ↓sops_go, ↓dops_nil, ↓dopsX_nil, ↓dopsR_nil, ↓vdn, vup, extr_20, extr_21, extr_30, extr_31, extr_32, List.map_cons, List.map_nil, cond_true, cond_false, aop, aThen, aBlock, argEnv, ev, sput, sputO, binK, binI, unK, builtinK, pickK, Nat.reduceBEq, Nat.reduceAdd, Int.reduceBEq, Int.reduceBNe, Int.reduceLT, aPost, resK, tup, tyf, hg, Bool.not_true, k1]
    exact ⟨Ext.refl _ _, by rw [codeR, if_neg (by omega)]⟩
  by_cases k3 : 3 < k
  · simp (config := {maxSteps := 2000000}) only [s19, ↓aw_region, ↓aw_skip, ↓aw_seq, ↓aw_block, ↓aw_exit, ↓aw_ret, ↓sops_nil, ↓sops_go, ↓dops_nil, ↓dopsX_nil, ↓dopsR_nil, ↓vdn, vup, extr_20, extr_21, extr_30, extr_31, extr_32, List.map_cons, List.map_nil, cond_true, cond_false, aop, aThen, aBlock, argEnv, ev, sput, sputO, binK, binI, unK, builtinK, pickK, Nat.reduceBEq, Nat.reduceAdd, Int.reduceBEq, Int.reduceBNe, Int.reduceLT, aPost, resK, tup, tyf, hg, Bool.not_true, k1, gt_iff_lt, k3]
    exact ⟨Ext.refl _ _, by rw [codeR, if_neg (by omega)]⟩
  simp (config := {maxSteps := 2000000}) only [s19, ↓aw_region, ↓aw_skip, ↓aw_seq, ↓aw_block, ↓aw_exit, ↓aw_ret, ↓sops_nil, ↓sops_go, ↓dops_nil, ↓dopsX_nil, ↓dopsR_nil, ↓vdn, vup, extr_20, extr_21, extr_30, extr_31, extr_32, List.map_cons, List.map_nil, cond_true, cond_false, aop, aThen, aBlock, argEnv, ev, sput, sputO, binK, binI, unK, builtinK, pickK, Nat.reduceBEq, Nat.reduceAdd, Int.reduceBEq, Int.reduceBNe, Int.reduceLT, aPost, resK, tup, tyf, hg, Bool.not_true, k1, gt_iff_lt, k3]
  obtain ⟨n, rfl⟩ : ∃ n : Nat, k = (n : Int) := ⟨k.toNat, by omega⟩
  refine hN [(0, v), (1, vint n), (4, .slice none 0 0), (5, .int .i64 0)] _ _ ?_ (by simp (config := {maxSteps := 2000000}) only [↓aw_region, ↓aw_skip, ↓aw_seq, ↓aw_block, ↓aw_exit, ↓aw_ret, ↓sops_nil, ↓sops_go, ↓dops_nil, ↓dopsX_nil, ↓dopsR_nil, ↓vdn, vup, extr_20, extr_21, extr_30, extr_31, extr_32, List.map_cons, List.map_nil, cond_true, cond_false, aop, aThen, aBlock, argEnv, ev, sput, sputO, binK, binI, unK, builtinK, pickK, Nat.reduceBEq, Nat.reduceAdd, Int.reduceBEq, Int.reduceBNe, Int.reduceLT, aPost, resK, tup, tyf])
  clear hN N
  have hcr : ∀ h' r, (if wn xs n ≤ 64 then ∃ w, r = .tuple #[w, .int .i64 0] ∧ OwnSl 3 h' w ((codeL (nearL xs n)).map Int.ofNat) else r = .tuple #[.slice none 0 0, .int .i64 6]) → codeR h' xs n r := fun h' r hr => by
    rw [codeR, if_pos ⟨hg, by omega, by omega⟩]; exact hr
  refine aws_cut fun N hN => ?_
  simp (config := {maxSteps := 2000000}) only [s19, ↓aw_region, ↓aw_skip, ↓aw_seq, ↓aw_block, ↓aw_exit, ↓aw_ret, ↓sops_nil, ↓sops_go, ↓dops_nil, ↓dopsX_nil, ↓dopsR_nil, ↓vdn, vup, extr_20, extr_21, extr_30, extr_31, extr_32, List.map_cons, List.map_nil, cond_true, cond_false, aop, aThen, aBlock, argEnv, ev, sput, sputO, binK, binI, unK, builtinK, pickK, Nat.reduceBEq, Nat.reduceAdd, Int.reduceBEq, Int.reduceBNe, Int.reduceLT, aPost, resK, tup, tyf, callK, List.nil_append, List.append_nil, List.toList_toArray, List.cons_append]
  refine (words_call hv g (show n ≤ 6 by omega)).mono ?_
  rintro r h1 ⟨hE, hr⟩
  by_cases hw : wn xs n ≤ 64
  · rw [if_pos hw] at hr
    obtain ⟨b, rfl, w⟩ := hr
    have gr := nearL_gr g hw
    simp (config := {maxSteps := 2000000}) only [s19, ↓aw_region, ↓aw_skip, ↓aw_seq, ↓aw_block, ↓aw_exit, ↓aw_ret, ↓sops_nil, ↓sops_go, ↓dops_nil, ↓dopsX_nil, ↓dopsR_nil, ↓vdn, vup, extr_20, extr_21, extr_30, extr_31, extr_32, List.map_cons, List.map_nil, cond_true, cond_false, aop, aThen, aBlock, argEnv, ev, sput, sputO, binK, binI, unK, builtinK, pickK, Nat.reduceBEq, Nat.reduceAdd, Int.reduceBEq, Int.reduceBNe, Int.reduceLT, aPost, resK, tup, tyf]
    refine hN [(0, v), (1, vint n), (4, .slice none 0 0), (5, .int .i64 0), (6, pt b), (7, .bool true)] _ _ ?_ (by simp (config := {maxSteps := 2000000}) only [↓aw_region, ↓aw_skip, ↓aw_seq, ↓aw_block, ↓aw_exit, ↓aw_ret, ↓sops_nil, ↓sops_go, ↓dops_nil, ↓dopsX_nil, ↓dopsR_nil, ↓vdn, vup, extr_20, extr_21, extr_30, extr_31, extr_32, List.map_cons, List.map_nil, cond_true, cond_false, aop, aThen, aBlock, argEnv, ev, sput, sputO, binK, binI, unK, builtinK, pickK, Nat.reduceBEq, Nat.reduceAdd, Int.reduceBEq, Int.reduceBNe, Int.reduceLT, aPost, resK, tup, tyf])
    clear hN N
    refine aws_cut fun N hN => ?_
    simp (config := {maxSteps := 2000000}) only [s19, ↓aw_region, ↓aw_skip, ↓aw_seq, ↓aw_block, ↓aw_exit, ↓aw_ret, ↓sops_nil, ↓sops_go, ↓dops_nil, ↓dopsX_nil, ↓dopsR_nil, ↓vdn, vup, extr_20, extr_21, extr_30, extr_31, extr_32, List.map_cons, List.map_nil, cond_true, cond_false, aop, aThen, aBlock, argEnv, ev, sput, sputO, binK, binI, unK, builtinK, pickK, Nat.reduceBEq, Nat.reduceAdd, Int.reduceBEq, Int.reduceBNe, Int.reduceLT, aPost, resK, tup, tyf, Bool.not_true]
    refine hN [(0, v), (1, vint n), (4, .slice none 0 0), (5, .int .i64 0), (6, pt b)] _ _ ?_ (by simp (config := {maxSteps := 2000000}) only [↓aw_region, ↓aw_skip, ↓aw_seq, ↓aw_block, ↓aw_exit, ↓aw_ret, ↓sops_nil, ↓sops_go, ↓dops_nil, ↓dopsX_nil, ↓dopsR_nil, ↓vdn, vup, extr_20, extr_21, extr_30, extr_31, extr_32, List.map_cons, List.map_nil, cond_true, cond_false, aop, aThen, aBlock, argEnv, ev, sput, sputO, binK, binI, unK, builtinK, pickK, Nat.reduceBEq, Nat.reduceAdd, Int.reduceBEq, Int.reduceBNe, Int.reduceLT, aPost, resK, tup, tyf])
    clear hN N
    have w0 := w
    obtain ⟨nv0, hc0, hv0⟩ := w0
    have ldl : ∀ {K : Value → Prop}, loadK prog h1 3 (.pointer (some ⟨b, 0, none⟩)) K = K (vint (nearL xs n).length) := fun {K} => loadC (o := 0) hc0 shp_3 rfl
    refine aws_cut fun N hN => ?_
    have n64 := gr.len
    have hnn : (0 : Int) ≤ ((64 - (nearL xs n).length : Nat) : Int) := Int.natCast_nonneg _
    simp (config := {maxSteps := 2000000}) only [s19, ↓aw_region, ↓aw_skip, ↓aw_seq, ↓aw_block, ↓aw_exit, ↓aw_ret, ↓sops_nil, ↓sops_go, ↓dops_nil, ↓dopsX_nil, ↓dopsR_nil, ↓vdn, vup, extr_20, extr_21, extr_30, extr_31, extr_32, List.map_cons, List.map_nil, cond_true, cond_false, aop, aThen, aBlock, argEnv, ev, sput, sputO, binK, binI, unK, builtinK, pickK, Nat.reduceBEq, Nat.reduceAdd, Int.reduceBEq, Int.reduceBNe, Int.reduceLT, aPost, resK, tup, tyf, nilK, fldA fld_62_0 esz_3, ldl, sub64 n64, hnn, shrAll n64]
    refine hN [(4, .slice none 0 0), (5, .int .i64 0), (6, pt b), (8, vu (2 ^ (nearL xs n).length - 1))] _ _ ?_ (by simp (config := {maxSteps := 2000000}) only [↓aw_region, ↓aw_skip, ↓aw_seq, ↓aw_block, ↓aw_exit, ↓aw_ret, ↓sops_nil, ↓sops_go, ↓dops_nil, ↓dopsX_nil, ↓dopsR_nil, ↓vdn, vup, extr_20, extr_21, extr_30, extr_31, extr_32, List.map_cons, List.map_nil, cond_true, cond_false, aop, aThen, aBlock, argEnv, ev, sput, sputO, binK, binI, unK, builtinK, pickK, Nat.reduceBEq, Nat.reduceAdd, Int.reduceBEq, Int.reduceBNe, Int.reduceLT, aPost, resK, tup, tyf])
    clear hN N
    refine aws_cut fun N hN => ?_
    simp (config := {maxSteps := 2000000}) only [s19, ↓aw_region, ↓aw_skip, ↓aw_seq, ↓aw_block, ↓aw_exit, ↓aw_ret, ↓sops_nil, ↓sops_go, ↓dops_nil, ↓dopsX_nil, ↓dopsR_nil, ↓vdn, vup, extr_20, extr_21, extr_30, extr_31, extr_32, List.map_cons, List.map_nil, cond_true, cond_false, aop, aThen, aBlock, argEnv, ev, sput, sputO, binK, binI, unK, builtinK, pickK, Nat.reduceBEq, Nat.reduceAdd, Int.reduceBEq, Int.reduceBNe, Int.reduceLT, aPost, resK, tup, tyf, callK, List.nil_append, List.append_nil, List.toList_toArray, List.cons_append]
    refine (most_call w gr (2 ^ (nearL xs n).length - 1) (by have := Nat.two_pow_pos (nearL xs n).length; omega)).mono ?_
    rintro _ h1 ⟨rfl, rfl⟩
    refine hN [(4, .slice none 0 0), (5, .int .i64 0), (6, pt b), (8, vu (2 ^ (nearL xs n).length - 1)), (9, vint (A (nearL xs n) (2 ^ (nearL xs n).length - 1) : Nat))] _ _ ?_ (by simp (config := {maxSteps := 2000000}) only [↓aw_region, ↓aw_skip, ↓aw_seq, ↓aw_block, ↓aw_exit, ↓aw_ret, ↓sops_nil, ↓sops_go, ↓dops_nil, ↓dopsX_nil, ↓dopsR_nil, ↓vdn, vup, extr_20, extr_21, extr_30, extr_31, extr_32, List.map_cons, List.map_nil, cond_true, cond_false, aop, aThen, aBlock, argEnv, ev, sput, sputO, binK, binI, unK, builtinK, pickK, Nat.reduceBEq, Nat.reduceAdd, Int.reduceBEq, Int.reduceBNe, Int.reduceLT, aPost, resK, tup, tyf])
    clear hN N
    refine aws_cut fun N hN => ?_
    simp (config := {maxSteps := 2000000}) only [s19, ↓aw_region, ↓aw_skip, ↓aw_seq, ↓aw_block, ↓aw_exit, ↓aw_ret, ↓sops_nil, ↓sops_go, ↓dops_nil, ↓dopsX_nil, ↓dopsR_nil, ↓vdn, vup, extr_20, extr_21, extr_30, extr_31, extr_32, List.map_cons, List.map_nil, cond_true, cond_false, aop, aThen, aBlock, argEnv, ev, sput, sputO, binK, binI, unK, builtinK, pickK, Nat.reduceBEq, Nat.reduceAdd, Int.reduceBEq, Int.reduceBNe, Int.reduceLT, aPost, resK, tup, tyf]
    refine hN [(4, .slice none 0 0), (5, .int .i64 0), (6, pt b), (8, vu (2 ^ (nearL xs n).length - 1)), (9, vint (A (nearL xs n) (2 ^ (nearL xs n).length - 1) : Nat)), (10, .slice none 0 0)] _ _ ?_ (by simp (config := {maxSteps := 2000000}) only [↓aw_region, ↓aw_skip, ↓aw_seq, ↓aw_block, ↓aw_exit, ↓aw_ret, ↓sops_nil, ↓sops_go, ↓dops_nil, ↓dopsX_nil, ↓dopsR_nil, ↓vdn, vup, extr_20, extr_21, extr_30, extr_31, extr_32, List.map_cons, List.map_nil, cond_true, cond_false, aop, aThen, aBlock, argEnv, ev, sput, sputO, binK, binI, unK, builtinK, pickK, Nat.reduceBEq, Nat.reduceAdd, Int.reduceBEq, Int.reduceBNe, Int.reduceLT, aPost, resK, tup, tyf])
    clear hN N
    refine aws_cut fun N hN => ?_
    refine code_loop w gr fun hp ov e hs he => hN [(4, .slice none 0 0), (5, .int .i64 0), (10, ov)] _ _ ?_ he
    clear hN N
    refine aw_aws ?_
    simp (config := {maxSteps := 2000000}) only [s19, ↓aw_region, ↓aw_skip, ↓aw_seq, ↓aw_block, ↓aw_exit, ↓aw_ret, ↓sops_nil, ↓sops_go, ↓dops_nil, ↓dopsX_nil, ↓dopsR_nil, ↓vdn, vup, extr_20, extr_21, extr_30, extr_31, extr_32, List.map_cons, List.map_nil, cond_true, cond_false, aop, aThen, aBlock, argEnv, ev, sput, sputO, binK, binI, unK, builtinK, pickK, Nat.reduceBEq, Nat.reduceAdd, Int.reduceBEq, Int.reduceBNe, Int.reduceLT, aPost, resK, tup, tyf]
    exact ⟨hE.trans hs.2.1, hcr _ _ (by rw [if_pos hw]; exact ⟨ov, rfl, hs.1⟩)⟩
  · rw [if_neg hw] at hr
    subst hr
    simp (config := {maxSteps := 2000000}) only [s19, ↓aw_region, ↓aw_skip, ↓aw_seq, ↓aw_block, ↓aw_exit, ↓aw_ret, ↓sops_nil, ↓sops_go, ↓dops_nil, ↓dopsX_nil, ↓dopsR_nil, ↓vdn, vup, extr_20, extr_21, extr_30, extr_31, extr_32, List.map_cons, List.map_nil, cond_true, cond_false, aop, aThen, aBlock, argEnv, ev, sput, sputO, binK, binI, unK, builtinK, pickK, Nat.reduceBEq, Nat.reduceAdd, Int.reduceBEq, Int.reduceBNe, Int.reduceLT, aPost, resK, tup, tyf]
    refine hN [(0, v), (1, vint n), (4, .slice none 0 0), (5, .int .i64 0), (6, .pointer none), (7, .bool false)] _ _ ?_ (by simp (config := {maxSteps := 2000000}) only [↓aw_region, ↓aw_skip, ↓aw_seq, ↓aw_block, ↓aw_exit, ↓aw_ret, ↓sops_nil, ↓sops_go, ↓dops_nil, ↓dopsX_nil, ↓dopsR_nil, ↓vdn, vup, extr_20, extr_21, extr_30, extr_31, extr_32, List.map_cons, List.map_nil, cond_true, cond_false, aop, aThen, aBlock, argEnv, ev, sput, sputO, binK, binI, unK, builtinK, pickK, Nat.reduceBEq, Nat.reduceAdd, Int.reduceBEq, Int.reduceBNe, Int.reduceLT, aPost, resK, tup, tyf])
    clear hN N
    refine aw_aws ?_
    simp (config := {maxSteps := 2000000}) only [s19, ↓aw_region, ↓aw_skip, ↓aw_seq, ↓aw_block, ↓aw_exit, ↓aw_ret, ↓sops_nil, ↓sops_go, ↓dops_nil, ↓dopsX_nil, ↓dopsR_nil, ↓vdn, vup, extr_20, extr_21, extr_30, extr_31, extr_32, List.map_cons, List.map_nil, cond_true, cond_false, aop, aThen, aBlock, argEnv, ev, sput, sputO, binK, binI, unK, builtinK, pickK, Nat.reduceBEq, Nat.reduceAdd, Int.reduceBEq, Int.reduceBNe, Int.reduceLT, aPost, resK, tup, tyf, Bool.not_false]
    exact ⟨hE, hcr _ _ (by rw [if_neg hw])⟩
end Go.Proofs.Tryd.Am
