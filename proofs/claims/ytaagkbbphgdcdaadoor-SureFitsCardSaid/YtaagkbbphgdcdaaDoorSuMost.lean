/-
  sure: how many words of a set can be in one code: the program's count.
-/
import Derived.Test.YtaagkbbphgdcdaaDoorSuWords
set_option linter.all false
namespace Go.Proofs.Tryd.Am
open Go.Am Sr
set_option maxRecDepth 100000
set_option maxHeartbeats 1000000

theorem getD_vu {nr : List Nat} {v : Nat} (hv : v < nr.length) : (nr.map fun x => vu x).getD v undef = vu (nb nr v) := by
  simp [nb, List.getD, List.getElem?_eq_getElem hv]
theorem p64 : (2 : Nat) ^ 64 = 18446744073709551616 := by decide
theorem lt64 {nr : List Nat} (g : Gr nr) {s : Nat} (hs : s < 2 ^ nr.length) : s < 18446744073709551616 := by
  rw [← p64]; exact Nat.lt_of_lt_of_le hs (Nat.pow_le_pow_right (by decide) g.len)
theorem nb64 {nr : List Nat} (g : Gr nr) (v : Nat) : nb nr v < 18446744073709551616 := lt64 g (g.lt v)
theorem bit64 {v : Nat} (h : v < 64) : 2 ^ v < 18446744073709551616 := by
  rw [← p64]; exact Nat.pow_lt_pow_right (by decide) h
theorem cutU {nr : List Nat} (g : Gr nr) {s v : Nat} (hs : s < 2 ^ nr.length) (hv : v < 64) : bitsV .andNot .u64 ((less s (nb nr v) : Nat) : Int) ((2 ^ v : Nat) : Int) = ((cut nr s v : Nat) : Int) := by
  rw [lessU (lt64 g (less_lt hs)) (bit64 hv)]; rfl
theorem bits_head {r : Nat} (hr : r < 18446744073709551616) (h0 : r ≠ 0) : r.testBit (Lib.ctz 64 r) = true := by
  have h := bits_stepU r hr h0
  have : Lib.ctz 64 r ∈ Am.bits r := by rw [h]; exact List.mem_cons_self ..
  exact (List.mem_filter.1 this).2
theorem sub_pred {r t : Nat} (h : ∀ i, r.testBit i = true → t.testBit i = true) (i : Nat) : (r &&& (r - 1)).testBit i = true → t.testBit i = true := by
  rw [Nat.testBit_and, Bool.and_eq_true]; exact fun h2 => h i h2.1

theorem s53_callW [BitTab prog 0] {args : List Value} {h : Heap} {Q : Value → Heap → Prop} (hsz : args.length ≤ 82) (hk : AWS Tryd.prog 82 s53 (aPost Tryd.prog [.tmp 4] Q) (argEnv 0 args) h) : ACall Tryd.prog 53 args h Q :=
  acall_w Tryd.func53 rfl (enters_of Tryd.func53 (by kernel_rfl) rfl) rfl rfl (by decide) s53_strip s53_ok hsz hk

/-- The word with the most that it is confused with, or one with one at most. -/
def pickI (nr : List Nat) (t r : Nat) (p d : Int) : Prop := (p = -1 ∧ d = -1 ∧ r = t) ∨ ∃ v : Nat, p = v ∧ t.testBit v = true ∧ d = ((Am.bits (nb nr v &&& t)).length : Nat) ∧ 1 < (Am.bits (nb nr v &&& t)).length

theorem most_call [BitTab prog 0] {h : Heap} {b : Nat} {nr : List Nat} (w : WO h b nr) (g : Gr nr) : ∀ s, s < 2 ^ nr.length → APure prog 53 [pt b, vu s] h (vint (A nr s : Nat)) := by
  intro s
  induction s using Nat.strongRecOn with
  | _ s ih =>
    intro hs
    obtain ⟨nv, hc, hv⟩ := w
    have ldn : ∀ {K : Value → Prop}, loadK prog h 60 (.pointer (some ⟨b, 1, none⟩)) K = K nv := fun {K} => loadC (o := 1) hc shp_60 rfl
    have ix : ∀ v, v < nr.length → ∀ {K : Value → Prop}, idxAddrK prog 60 nv (vint v) K = K (elemP nv 1 v) := fun v h1 {K} => hv.idx el_60 esz_63 (by rw [List.length_map]; exact h1) K
    have ld : ∀ v, v < nr.length → ∀ {K : Value → Prop}, loadK prog h 63 (elemP nv 1 v) K = K (vu (nb nr v)) := fun v h1 {K} => by
      rw [hv.load shp_63 (by rw [List.length_map]; exact h1), getD_vu h1]
    refine s53_call (by simp) ?_
    simp (config := {maxSteps := 2000000}) only [s53, ↓aw_region, ↓aw_skip, ↓aw_seq, ↓aw_block, ↓aw_exit, ↓aw_ret, ↓sops_nil, ↓sops_go, ↓dops_nil, ↓dopsX_nil, ↓dopsR_nil, ↓vdn, vup, extr_20, extr_21, extr_30, extr_31, extr_32, List.map_cons, List.map_nil, cond_true, cond_false, aop, aThen, aBlock, argEnv, ev, sput, sputO, binK, binI, unK, builtinK, pickK, Nat.reduceBEq, Nat.reduceAdd, Int.reduceBEq, Int.reduceBNe, Int.reduceLT, aPost, resK, tup, tyf, ↓aw_loop_eq]
    refine aws_hide fun Q hQ => ?_
    refine aw_loopW (γ := Nat × Nat) (fun a => a.1 ≤ s ∧ a.1 < 2 ^ nr.length ∧ a.2 + A nr a.1 = A nr s)
      (fun a => ([(0, pt b), (1, vu a.1), (4, .int .i64 0), (5, vint a.2)], h)) (fun a => a.1) (s, 0) ⟨Nat.le_refl _, hs, Nat.zero_add _⟩ (by simp (config := {maxSteps := 2000000}) only [↓aw_region, ↓aw_skip, ↓aw_seq, ↓aw_block, ↓aw_exit, ↓aw_ret, ↓sops_nil, ↓sops_go, ↓dops_nil, ↓dopsX_nil, ↓dopsR_nil, ↓vdn, vup, extr_20, extr_21, extr_30, extr_31, extr_32, List.map_cons, List.map_nil, cond_true, cond_false, aop, aThen, aBlock, argEnv, ev, sput, sputO, binK, binI, unK, builtinK, pickK, Nat.reduceBEq, Nat.reduceAdd, Int.reduceBEq, Int.reduceBNe, Int.reduceLT, aPost, resK, tup, tyf, Int.natCast_zero]) rfl ?_
    rintro ⟨t, o⟩ ⟨h1, h2, h3⟩
    simp only at h1 h2 h3
    have hA := A_le nr s
    refine aws_hide fun Q2 hQ2 => ?_
    simp only [l53_1]
    refine aws_cut fun N hN => ?_
    by_cases t0 : t = 0
    · subst t0
      rw [A_zero] at h3
      simp (config := {maxSteps := 2000000}) only [s53, ↓aw_region, ↓aw_skip, ↓aw_seq, ↓aw_block, ↓aw_exit, ↓aw_ret, ↓sops_nil, ↓sops_go, ↓dops_nil, ↓dopsX_nil, ↓dopsR_nil, ↓vdn, vup, extr_20, extr_21, extr_30, extr_31, extr_32, List.map_cons, List.map_nil, cond_true, cond_false, aop, aThen, aBlock, argEnv, ev, sput, sputO, binK, binI, unK, builtinK, pickK, Nat.reduceBEq, Nat.reduceAdd, Int.reduceBEq, Int.reduceBNe, Int.reduceLT, aPost, resK, tup, tyf, ofNe, ne_eq, not_true_eq_false, decide_false]
      refine hQ2 _ _ _ (hQ _ _ _ ?_)
      simp (config := {maxSteps := 2000000}) only [s53, ↓aw_region, ↓aw_skip, ↓aw_seq, ↓aw_block, ↓aw_exit, ↓aw_ret, ↓sops_nil, ↓sops_go, ↓dops_nil, ↓dopsX_nil, ↓dopsR_nil, ↓vdn, vup, extr_20, extr_21, extr_30, extr_31, extr_32, List.map_cons, List.map_nil, cond_true, cond_false, aop, aThen, aBlock, argEnv, ev, sput, sputO, binK, binI, unK, builtinK, pickK, Nat.reduceBEq, Nat.reduceAdd, Int.reduceBEq, Int.reduceBNe, Int.reduceLT, aPost, resK, tup, tyf, if_true]
      rw [← h3, Nat.add_zero]
    simp (config := {maxSteps := 2000000}) only [s53, ↓aw_region, ↓aw_skip, ↓aw_seq, ↓aw_block, ↓aw_exit, ↓aw_ret, ↓sops_nil, ↓sops_go, ↓dops_nil, ↓dopsX_nil, ↓dopsR_nil, ↓vdn, vup, extr_20, extr_21, extr_30, extr_31, extr_32, List.map_cons, List.map_nil, cond_true, cond_false, aop, aThen, aBlock, argEnv, ev, sput, sputO, binK, binI, unK, builtinK, pickK, Nat.reduceBEq, Nat.reduceAdd, Int.reduceBEq, Int.reduceBNe, Int.reduceLT, aPost, resK, tup, tyf, ofNe, ne_eq, t0, not_false_eq_true, decide_true]
    refine hN [(0, pt b), (1, vu t), (4, .int .i64 0), (5, vint o)] _ _ ?_ (by simp (config := {maxSteps := 2000000}) only [↓aw_region, ↓aw_skip, ↓aw_seq, ↓aw_block, ↓aw_exit, ↓aw_ret, ↓sops_nil, ↓sops_go, ↓dops_nil, ↓dopsX_nil, ↓dopsR_nil, ↓vdn, vup, extr_20, extr_21, extr_30, extr_31, extr_32, List.map_cons, List.map_nil, cond_true, cond_false, aop, aThen, aBlock, argEnv, ev, sput, sputO, binK, binI, unK, builtinK, pickK, Nat.reduceBEq, Nat.reduceAdd, Int.reduceBEq, Int.reduceBNe, Int.reduceLT, aPost, resK, tup, tyf])
    clear hN N
    have ht := lt64 g h2
    refine aws_block ?_
    refine aws_cut fun N hN => ?_
    simp (config := {maxSteps := 2000000}) only [s53, ↓aw_region, ↓aw_skip, ↓aw_seq, ↓aw_block, ↓aw_exit, ↓aw_ret, ↓sops_nil, ↓sops_go, ↓dops_nil, ↓dopsX_nil, ↓dopsR_nil, ↓vdn, vup, extr_20, extr_21, extr_30, extr_31, extr_32, List.map_cons, List.map_nil, cond_true, cond_false, aop, aThen, aBlock, argEnv, ev, sput, sputO, binK, binI, unK, builtinK, pickK, Nat.reduceBEq, Nat.reduceAdd, Int.reduceBEq, Int.reduceBNe, Int.reduceLT, aPost, resK, tup, tyf]
    refine hN [(0, pt b), (1, vu t), (4, .int .i64 0), (5, vint o), (6, .int .i64 (-1)), (7, .int .i64 (-1))] _ _ ?_ (by simp (config := {maxSteps := 2000000}) only [↓aw_region, ↓aw_skip, ↓aw_seq, ↓aw_block, ↓aw_exit, ↓aw_ret, ↓sops_nil, ↓sops_go, ↓dops_nil, ↓dopsX_nil, ↓dopsR_nil, ↓vdn, vup, extr_20, extr_21, extr_30, extr_31, extr_32, List.map_cons, List.map_nil, cond_true, cond_false, aop, aThen, aBlock, argEnv, ev, sput, sputO, binK, binI, unK, builtinK, pickK, Nat.reduceBEq, Nat.reduceAdd, Int.reduceBEq, Int.reduceBNe, Int.reduceLT, aPost, resK, tup, tyf])
    clear hN N
    refine aws_cut fun N hN => ?_
    have go : ∀ v d, t.testBit v = true → d = (Am.bits (nb nr v &&& t)).length → ∀ e, ELe e [(0, pt b), (1, vu t), (4, .int .i64 0), (5, vint o), (6, vint v), (7, vint d)] → N e h := by
      intro v d hb hd e he
      refine hN [(0, pt b), (1, vu t), (4, .int .i64 0), (5, vint o), (6, vint v), (7, vint d)] _ _ ?_ he
      clear hN N he e
      have hvl := bit_lt h2 hb
      have hv64 : v < 64 := Nat.lt_of_lt_of_le hvl g.len
      have hnn : (0 : Int) ≤ (v : Int) := Int.natCast_nonneg _
      refine aws_cut fun N hN => ?_
      by_cases hd1 : (1 : Int) < (d : Int)
      · simp (config := {maxSteps := 2000000}) only [s53, ↓aw_region, ↓aw_skip, ↓aw_seq, ↓aw_block, ↓aw_exit, ↓aw_ret, ↓sops_nil, ↓sops_go, ↓dops_nil, ↓dopsX_nil, ↓dopsR_nil, ↓vdn, vup, extr_20, extr_21, extr_30, extr_31, extr_32, List.map_cons, List.map_nil, cond_true, cond_false, aop, aThen, aBlock, argEnv, ev, sput, sputO, binK, binI, unK, builtinK, pickK, Nat.reduceBEq, Nat.reduceAdd, Int.reduceBEq, Int.reduceBNe, Int.reduceLT, aPost, resK, tup, tyf, gt_iff_lt, hd1]
        have l1 := cut_less g hb
        have l2 := less_bit_lt hb
        have hp := A_pivot g (Nat.lt_of_lt_of_le h2 (Nat.pow_le_pow_right (by decide) g.len)) hb
        refine aw_drawX [(14, 1), (21, 1)] (by kernel_rfl) (by kernel_rfl) (by kernel_rfl) (by kernel_rfl) ?_
        simp (config := {maxSteps := 2000000}) only [s53, ↓aw_region, ↓aw_skip, ↓aw_seq, ↓aw_block, ↓aw_exit, ↓aw_ret, ↓sops_nil, ↓sops_go, ↓dops_nil, ↓dopsX_nil, ↓dopsR_nil, ↓vdn, vup, extr_20, extr_21, extr_30, extr_31, extr_32, List.map_cons, List.map_nil, cond_true, cond_false, aop, aThen, aBlock, argEnv, ev, sput, sputO, binK, binI, unK, builtinK, pickK, Nat.reduceBEq, Nat.reduceAdd, Int.reduceBEq, Int.reduceBNe, Int.reduceLT, aPost, resK, tup, tyf, nilK, fldA fld_62_1 esz_60, ldn, ix v hvl, ld v hvl, hnn, shlU1 hv64, lessU ht (nb64 g v), cutU g h2 hv64, lessU ht (bit64 hv64), callK, List.nil_append, List.append_nil, List.toList_toArray, List.cons_append]
        refine ⟨_, _, ih (cut nr t v) (by omega) (cut_lt h2), rfl, ?_⟩
        have a1 := A_le nr (cut nr t v)
        have a2 := A_le nr (less t (2 ^ v))
        have e1 : addV .i64 1 ((A nr (cut nr t v) : Nat) : Int) = ((1 + A nr (cut nr t v) : Nat) : Int) := by rw [addV_id (by omega) (by omega)]; omega
        simp (config := {maxSteps := 2000000}) only [s53, ↓aw_region, ↓aw_skip, ↓aw_seq, ↓aw_block, ↓aw_exit, ↓aw_ret, ↓sops_nil, ↓sops_go, ↓dops_nil, ↓dopsX_nil, ↓dopsR_nil, ↓vdn, vup, extr_20, extr_21, extr_30, extr_31, extr_32, List.map_cons, List.map_nil, cond_true, cond_false, aop, aThen, aBlock, argEnv, ev, sput, sputO, binK, binI, unK, builtinK, pickK, Nat.reduceBEq, Nat.reduceAdd, Int.reduceBEq, Int.reduceBNe, Int.reduceLT, aPost, resK, tup, tyf, e1, hnn, shlU1 hv64, lessU ht (bit64 hv64), callK, List.nil_append, List.append_nil, List.toList_toArray, List.cons_append]
        refine ⟨_, _, ih (less t (2 ^ v)) (by omega) (less_lt h2), rfl, ?_⟩
        by_cases hm : ((1 + A nr (cut nr t v) : Nat) : Int) < ((A nr (less t (2 ^ v)) : Nat) : Int)
        · have e2 : addV .i64 ((o : Nat) : Int) ((A nr (less t (2 ^ v)) : Nat) : Int) = ((A nr s : Nat) : Int) := by rw [addV_id (by omega) (by omega)]; omega
          simp (config := {maxSteps := 2000000}) only [s53, ↓aw_region, ↓aw_skip, ↓aw_seq, ↓aw_block, ↓aw_exit, ↓aw_ret, ↓sops_nil, ↓sops_go, ↓dops_nil, ↓dopsX_nil, ↓dopsR_nil, ↓vdn, vup, extr_20, extr_21, extr_30, extr_31, extr_32, List.map_cons, List.map_nil, cond_true, cond_false, aop, aThen, aBlock, argEnv, ev, sput, sputO, binK, binI, unK, builtinK, pickK, Nat.reduceBEq, Nat.reduceAdd, Int.reduceBEq, Int.reduceBNe, Int.reduceLT, aPost, resK, tup, tyf, mmK, if_true, gt_iff_lt, hm, e2]
          refine hQ2 _ _ _ (hQ _ _ _ ?_)
          simp (config := {maxSteps := 2000000}) only [↓aw_region, ↓aw_skip, ↓aw_seq, ↓aw_block, ↓aw_exit, ↓aw_ret, ↓sops_nil, ↓sops_go, ↓dops_nil, ↓dopsX_nil, ↓dopsR_nil, ↓vdn, vup, extr_20, extr_21, extr_30, extr_31, extr_32, List.map_cons, List.map_nil, cond_true, cond_false, aop, aThen, aBlock, argEnv, ev, sput, sputO, binK, binI, unK, builtinK, pickK, Nat.reduceBEq, Nat.reduceAdd, Int.reduceBEq, Int.reduceBNe, Int.reduceLT, aPost, resK, tup, tyf]
        · have e2 : addV .i64 ((o : Nat) : Int) ((1 + A nr (cut nr t v) : Nat) : Int) = ((A nr s : Nat) : Int) := by rw [addV_id (by omega) (by omega)]; omega
          simp (config := {maxSteps := 2000000}) only [s53, ↓aw_region, ↓aw_skip, ↓aw_seq, ↓aw_block, ↓aw_exit, ↓aw_ret, ↓sops_nil, ↓sops_go, ↓dops_nil, ↓dopsX_nil, ↓dopsR_nil, ↓vdn, vup, extr_20, extr_21, extr_30, extr_31, extr_32, List.map_cons, List.map_nil, cond_true, cond_false, aop, aThen, aBlock, argEnv, ev, sput, sputO, binK, binI, unK, builtinK, pickK, Nat.reduceBEq, Nat.reduceAdd, Int.reduceBEq, Int.reduceBNe, Int.reduceLT, aPost, resK, tup, tyf, mmK, if_true, if_false, gt_iff_lt, hm, e2]
          refine hQ2 _ _ _ (hQ _ _ _ ?_)
          simp (config := {maxSteps := 2000000}) only [↓aw_region, ↓aw_skip, ↓aw_seq, ↓aw_block, ↓aw_exit, ↓aw_ret, ↓sops_nil, ↓sops_go, ↓dops_nil, ↓dopsX_nil, ↓dopsR_nil, ↓vdn, vup, extr_20, extr_21, extr_30, extr_31, extr_32, List.map_cons, List.map_nil, cond_true, cond_false, aop, aThen, aBlock, argEnv, ev, sput, sputO, binK, binI, unK, builtinK, pickK, Nat.reduceBEq, Nat.reduceAdd, Int.reduceBEq, Int.reduceBNe, Int.reduceLT, aPost, resK, tup, tyf]
      · have hp := A_one g (Nat.lt_of_lt_of_le h2 (Nat.pow_le_pow_right (by decide) g.len)) hb (by omega)
        have hlt := cut_less g hb
        simp (config := {maxSteps := 2000000}) only [s53, ↓aw_region, ↓aw_skip, ↓aw_seq, ↓aw_block, ↓aw_exit, ↓aw_ret, ↓sops_nil, ↓sops_go, ↓dops_nil, ↓dopsX_nil, ↓dopsR_nil, ↓vdn, vup, extr_20, extr_21, extr_30, extr_31, extr_32, List.map_cons, List.map_nil, cond_true, cond_false, aop, aThen, aBlock, argEnv, ev, sput, sputO, binK, binI, unK, builtinK, pickK, Nat.reduceBEq, Nat.reduceAdd, Int.reduceBEq, Int.reduceBNe, Int.reduceLT, aPost, resK, tup, tyf, gt_iff_lt, hd1]
        refine hN [(0, pt b), (1, vu t), (4, .int .i64 0), (5, vint o), (6, vint v)] _ _ ?_ (by simp (config := {maxSteps := 2000000}) only [↓aw_region, ↓aw_skip, ↓aw_seq, ↓aw_block, ↓aw_exit, ↓aw_ret, ↓sops_nil, ↓sops_go, ↓dops_nil, ↓dopsX_nil, ↓dopsR_nil, ↓vdn, vup, extr_20, extr_21, extr_30, extr_31, extr_32, List.map_cons, List.map_nil, cond_true, cond_false, aop, aThen, aBlock, argEnv, ev, sput, sputO, binK, binI, unK, builtinK, pickK, Nat.reduceBEq, Nat.reduceAdd, Int.reduceBEq, Int.reduceBNe, Int.reduceLT, aPost, resK, tup, tyf])
        clear hN N
        refine aws_cut fun N hN => ?_
        simp (config := {maxSteps := 2000000}) only [s53, ↓aw_region, ↓aw_skip, ↓aw_seq, ↓aw_block, ↓aw_exit, ↓aw_ret, ↓sops_nil, ↓sops_go, ↓dops_nil, ↓dopsX_nil, ↓dopsR_nil, ↓vdn, vup, extr_20, extr_21, extr_30, extr_31, extr_32, List.map_cons, List.map_nil, cond_true, cond_false, aop, aThen, aBlock, argEnv, ev, sput, sputO, binK, binI, unK, builtinK, pickK, Nat.reduceBEq, Nat.reduceAdd, Int.reduceBEq, Int.reduceBNe, Int.reduceLT, aPost, resK, tup, tyf, add1 (show o < 9223372036854775807 by omega)]
        refine hN [(0, pt b), (1, vu t), (4, .int .i64 0), (5, vint (o + 1 : Nat)), (6, vint v)] _ _ ?_ (by simp (config := {maxSteps := 2000000}) only [↓aw_region, ↓aw_skip, ↓aw_seq, ↓aw_block, ↓aw_exit, ↓aw_ret, ↓sops_nil, ↓sops_go, ↓dops_nil, ↓dopsX_nil, ↓dopsR_nil, ↓vdn, vup, extr_20, extr_21, extr_30, extr_31, extr_32, List.map_cons, List.map_nil, cond_true, cond_false, aop, aThen, aBlock, argEnv, ev, sput, sputO, binK, binI, unK, builtinK, pickK, Nat.reduceBEq, Nat.reduceAdd, Int.reduceBEq, Int.reduceBNe, Int.reduceLT, aPost, resK, tup, tyf])
        clear hN N
        refine aw_aws ?_
        have hor : bitsV .or .u64 ((nb nr v : Nat) : Int) ((2 ^ v : Nat) : Int) = ((nb nr v ||| 2 ^ v : Nat) : Int) := orU (nb64 g v) (bit64 hv64)
        have hls : bitsV .andNot .u64 (t : Int) ((nb nr v ||| 2 ^ v : Nat) : Int) = ((cut nr t v : Nat) : Int) := by
          rw [lessU ht (by rw [← p64]; exact Nat.or_lt_two_pow (by rw [p64]; exact nb64 g v) (by rw [p64]; exact bit64 hv64)), cut_or]
        refine aw_draw [] (by kernel_rfl) (by kernel_rfl) (by kernel_rfl) ?_
        simp (config := {maxSteps := 2000000}) only [s53, ↓aw_region, ↓aw_skip, ↓aw_seq, ↓aw_block, ↓aw_exit, ↓aw_ret, ↓sops_nil, ↓sops_go, ↓dops_nil, ↓dopsX_nil, ↓dopsR_nil, ↓vdn, vup, extr_20, extr_21, extr_30, extr_31, extr_32, List.map_cons, List.map_nil, cond_true, cond_false, aop, aThen, aBlock, argEnv, ev, sput, sputO, binK, binI, unK, builtinK, pickK, Nat.reduceBEq, Nat.reduceAdd, Int.reduceBEq, Int.reduceBNe, Int.reduceLT, aPost, resK, tup, tyf, nilK, fldA fld_62_1 esz_60, ldn, ix v hvl, ld v hvl, hnn, shlU1 hv64, hor, hls]
        refine hQ2 _ _ _ ⟨(cut nr t v, o + 1), ⟨by simp only; omega, cut_lt h2, by simp only; omega⟩, hlt, by simp (config := {maxSteps := 2000000}) only [↓aw_region, ↓aw_skip, ↓aw_seq, ↓aw_block, ↓aw_exit, ↓aw_ret, ↓sops_nil, ↓sops_go, ↓dops_nil, ↓dopsX_nil, ↓dopsR_nil, ↓vdn, vup, extr_20, extr_21, extr_30, extr_31, extr_32, List.map_cons, List.map_nil, cond_true, cond_false, aop, aThen, aBlock, argEnv, ev, sput, sputO, binK, binI, unK, builtinK, pickK, Nat.reduceBEq, Nat.reduceAdd, Int.reduceBEq, Int.reduceBNe, Int.reduceLT, aPost, resK, tup, tyf], rfl⟩
    simp (config := {maxSteps := 2000000}) only [s53, ↓aw_region, ↓aw_skip, ↓aw_seq, ↓aw_block, ↓aw_exit, ↓aw_ret, ↓sops_nil, ↓sops_go, ↓dops_nil, ↓dopsX_nil, ↓dopsR_nil, ↓vdn, vup, extr_20, extr_21, extr_30, extr_31, extr_32, List.map_cons, List.map_nil, cond_true, cond_false, aop, aThen, aBlock, argEnv, ev, sput, sputO, binK, binI, unK, builtinK, pickK, Nat.reduceBEq, Nat.reduceAdd, Int.reduceBEq, Int.reduceBNe, Int.reduceLT, aPost, resK, tup, tyf, ↓aw_loop_eq]
    refine aws_hide fun Q3 hQ3 => ?_
    refine aw_loop (γ := Nat × Int × Int) (fun a => a.1 ≤ t ∧ (∀ i, a.1.testBit i = true → t.testBit i = true) ∧ pickI nr t a.1 a.2.1 a.2.2)
      (fun a => ([(0, pt b), (1, vu t), (4, .int .i64 0), (5, vint o), (6, .int .i64 a.2.1), (7, .int .i64 a.2.2), (8, vu a.1)], h)) (fun a => a.1) (t, -1, -1) ⟨Nat.le_refl _, fun _ h => h, .inl ⟨rfl, rfl, rfl⟩⟩ (by simp (config := {maxSteps := 2000000}) only [↓aw_region, ↓aw_skip, ↓aw_seq, ↓aw_block, ↓aw_exit, ↓aw_ret, ↓sops_nil, ↓sops_go, ↓dops_nil, ↓dopsX_nil, ↓dopsR_nil, ↓vdn, vup, extr_20, extr_21, extr_30, extr_31, extr_32, List.map_cons, List.map_nil, cond_true, cond_false, aop, aThen, aBlock, argEnv, ev, sput, sputO, binK, binI, unK, builtinK, pickK, Nat.reduceBEq, Nat.reduceAdd, Int.reduceBEq, Int.reduceBNe, Int.reduceLT, aPost, resK, tup, tyf]) rfl ?_
    rintro ⟨r, p, d⟩ ⟨hrt, hr, hp⟩
    simp only at hrt hr hp
    refine aw_hide fun Q4 hQ4 => ?_
    by_cases r0 : r = 0
    · subst r0
      rcases hp with ⟨_, _, h9⟩ | ⟨v, rfl, hb, rfl, h1d⟩
      · exact absurd h9.symm t0
      · simp (config := {maxSteps := 2000000}) only [s53, ↓aw_region, ↓aw_skip, ↓aw_seq, ↓aw_block, ↓aw_exit, ↓aw_ret, ↓sops_nil, ↓sops_go, ↓dops_nil, ↓dopsX_nil, ↓dopsR_nil, ↓vdn, vup, extr_20, extr_21, extr_30, extr_31, extr_32, List.map_cons, List.map_nil, cond_true, cond_false, aop, aThen, aBlock, argEnv, ev, sput, sputO, binK, binI, unK, builtinK, pickK, Nat.reduceBEq, Nat.reduceAdd, Int.reduceBEq, Int.reduceBNe, Int.reduceLT, aPost, resK, tup, tyf, l53_0, ofNe, ne_eq, not_true_eq_false, decide_false]
        exact hQ4 _ _ _ (hQ3 _ _ _ (go v _ hb rfl _ (by simp (config := {maxSteps := 2000000}) only [↓aw_region, ↓aw_skip, ↓aw_seq, ↓aw_block, ↓aw_exit, ↓aw_ret, ↓sops_nil, ↓sops_go, ↓dops_nil, ↓dopsX_nil, ↓dopsR_nil, ↓vdn, vup, extr_20, extr_21, extr_30, extr_31, extr_32, List.map_cons, List.map_nil, cond_true, cond_false, aop, aThen, aBlock, argEnv, ev, sput, sputO, binK, binI, unK, builtinK, pickK, Nat.reduceBEq, Nat.reduceAdd, Int.reduceBEq, Int.reduceBNe, Int.reduceLT, aPost, resK, tup, tyf])))
    have r64 : r < 18446744073709551616 := by omega
    have hb := hr _ (bits_head r64 r0)
    have hlt := and_pred_lt r r0
    have hsb := sub_pred hr
    have htz := tz_call (h := h) r64
    generalize Lib.ctz 64 r = v at hb htz
    have hvl := bit_lt h2 hb
    have hon := ones_call (h := h) (x := nb nr v &&& t) (Nat.lt_of_le_of_lt Nat.and_le_right ht)
    obtain ⟨c, hcd⟩ : ∃ c, c = (Am.bits (nb nr v &&& t)).length := ⟨_, rfl⟩
    rw [← hcd] at hon
    simp (config := {maxSteps := 2000000}) only [s53, ↓aw_region, ↓aw_skip, ↓aw_seq, ↓aw_block, ↓aw_exit, ↓aw_ret, ↓sops_nil, ↓sops_go, ↓dops_nil, ↓dopsX_nil, ↓dopsR_nil, ↓vdn, vup, extr_20, extr_21, extr_30, extr_31, extr_32, List.map_cons, List.map_nil, cond_true, cond_false, aop, aThen, aBlock, argEnv, ev, sput, sputO, binK, binI, unK, builtinK, pickK, Nat.reduceBEq, Nat.reduceAdd, Int.reduceBEq, Int.reduceBNe, Int.reduceLT, aPost, resK, tup, tyf, l53_0, ofNe, ne_eq, r0, not_false_eq_true, decide_true, callK, List.nil_append, List.append_nil, List.toList_toArray, List.cons_append]
    refine htz.mono ?_
    rintro _ h ⟨rfl, rfl⟩
    simp (config := {maxSteps := 2000000}) only [s53, ↓aw_region, ↓aw_skip, ↓aw_seq, ↓aw_block, ↓aw_exit, ↓aw_ret, ↓sops_nil, ↓sops_go, ↓dops_nil, ↓dopsX_nil, ↓dopsR_nil, ↓vdn, vup, extr_20, extr_21, extr_30, extr_31, extr_32, List.map_cons, List.map_nil, cond_true, cond_false, aop, aThen, aBlock, argEnv, ev, sput, sputO, binK, binI, unK, builtinK, pickK, Nat.reduceBEq, Nat.reduceAdd, Int.reduceBEq, Int.reduceBNe, Int.reduceLT, aPost, resK, tup, tyf, nilK, fldA fld_62_1 esz_60, ldn, ix v hvl, ld v hvl, andU (nb64 g v) ht, callK, List.nil_append, List.append_nil, List.toList_toArray, List.cons_append]
    refine hon.mono ?_
    rintro _ h ⟨rfl, rfl⟩
    by_cases c1 : (c : Int) ≤ 1
    · simp (config := {maxSteps := 2000000}) only [s53, ↓aw_region, ↓aw_skip, ↓aw_seq, ↓aw_block, ↓aw_exit, ↓aw_ret, ↓sops_nil, ↓sops_go, ↓dops_nil, ↓dopsX_nil, ↓dopsR_nil, ↓vdn, vup, extr_20, extr_21, extr_30, extr_31, extr_32, List.map_cons, List.map_nil, cond_true, cond_false, aop, aThen, aBlock, argEnv, ev, sput, sputO, binK, binI, unK, builtinK, pickK, Nat.reduceBEq, Nat.reduceAdd, Int.reduceBEq, Int.reduceBNe, Int.reduceLT, aPost, resK, tup, tyf, c1]
      exact hQ4 _ _ _ (hQ3 _ _ _ (go v _ hb hcd _ (by simp (config := {maxSteps := 2000000}) only [↓aw_region, ↓aw_skip, ↓aw_seq, ↓aw_block, ↓aw_exit, ↓aw_ret, ↓sops_nil, ↓sops_go, ↓dops_nil, ↓dopsX_nil, ↓dopsR_nil, ↓vdn, vup, extr_20, extr_21, extr_30, extr_31, extr_32, List.map_cons, List.map_nil, cond_true, cond_false, aop, aThen, aBlock, argEnv, ev, sput, sputO, binK, binI, unK, builtinK, pickK, Nat.reduceBEq, Nat.reduceAdd, Int.reduceBEq, Int.reduceBNe, Int.reduceLT, aPost, resK, tup, tyf])))
    · by_cases cd : d < (c : Int)
      · simp (config := {maxSteps := 2000000}) only [s53, ↓aw_region, ↓aw_skip, ↓aw_seq, ↓aw_block, ↓aw_exit, ↓aw_ret, ↓sops_nil, ↓sops_go, ↓dops_nil, ↓dopsX_nil, ↓dopsR_nil, ↓vdn, vup, extr_20, extr_21, extr_30, extr_31, extr_32, List.map_cons, List.map_nil, cond_true, cond_false, aop, aThen, aBlock, argEnv, ev, sput, sputO, binK, binI, unK, builtinK, pickK, Nat.reduceBEq, Nat.reduceAdd, Int.reduceBEq, Int.reduceBNe, Int.reduceLT, aPost, resK, tup, tyf, c1, gt_iff_lt, cd, subU1 (show 1 ≤ r by omega) r64, andU r64 (show r - 1 < 18446744073709551616 by omega)]
        exact hQ4 _ _ _ ⟨(r &&& (r - 1), v, c), ⟨by simp only; omega, hsb, .inr ⟨v, rfl, hb, by rw [← hcd], by omega⟩⟩, hlt, by simp (config := {maxSteps := 2000000}) only [↓aw_region, ↓aw_skip, ↓aw_seq, ↓aw_block, ↓aw_exit, ↓aw_ret, ↓sops_nil, ↓sops_go, ↓dops_nil, ↓dopsX_nil, ↓dopsR_nil, ↓vdn, vup, extr_20, extr_21, extr_30, extr_31, extr_32, List.map_cons, List.map_nil, cond_true, cond_false, aop, aThen, aBlock, argEnv, ev, sput, sputO, binK, binI, unK, builtinK, pickK, Nat.reduceBEq, Nat.reduceAdd, Int.reduceBEq, Int.reduceBNe, Int.reduceLT, aPost, resK, tup, tyf], rfl⟩
      · have hp2 : pickI nr t (r &&& (r - 1)) p d := by
          rcases hp with ⟨_, h8, _⟩ | h9
          · omega
          · exact .inr h9
        simp (config := {maxSteps := 2000000}) only [s53, ↓aw_region, ↓aw_skip, ↓aw_seq, ↓aw_block, ↓aw_exit, ↓aw_ret, ↓sops_nil, ↓sops_go, ↓dops_nil, ↓dopsX_nil, ↓dopsR_nil, ↓vdn, vup, extr_20, extr_21, extr_30, extr_31, extr_32, List.map_cons, List.map_nil, cond_true, cond_false, aop, aThen, aBlock, argEnv, ev, sput, sputO, binK, binI, unK, builtinK, pickK, Nat.reduceBEq, Nat.reduceAdd, Int.reduceBEq, Int.reduceBNe, Int.reduceLT, aPost, resK, tup, tyf, c1, gt_iff_lt, cd, subU1 (show 1 ≤ r by omega) r64, andU r64 (show r - 1 < 18446744073709551616 by omega)]
        exact hQ4 _ _ _ ⟨(r &&& (r - 1), p, d), ⟨by simp only; omega, hsb, hp2⟩, hlt, by simp (config := {maxSteps := 2000000}) only [↓aw_region, ↓aw_skip, ↓aw_seq, ↓aw_block, ↓aw_exit, ↓aw_ret, ↓sops_nil, ↓sops_go, ↓dops_nil, ↓dopsX_nil, ↓dopsR_nil, ↓vdn, vup, extr_20, extr_21, extr_30, extr_31, extr_32, List.map_cons, List.map_nil, cond_true, cond_false, aop, aThen, aBlock, argEnv, ev, sput, sputO, binK, binI, unK, builtinK, pickK, Nat.reduceBEq, Nat.reduceAdd, Int.reduceBEq, Int.reduceBNe, Int.reduceLT, aPost, resK, tup, tyf], rfl⟩
end Go.Proofs.Tryd.Am
