/-
  ranks: a tournament with some scores: one round of the making, walked.
  ranks: a tournament with some scores.
  Printed by gen.py: the code of some functions, without what no step looks at; held against the program's own by the kernel.
  ranks: the reference's scores, and which are possible. Rests on R.Rising (91), whose contract is taken here as a hypothesis (not walked yet).
  ranks: a tournament with some scores: the whole.
  ranks: a tournament with some scores: the whole.
  ranks: the law RanksLandau.
  ranks: the law RanksScores, given R.Rising.
  ranks: the law RanksScores, given R.Rising: the whole.
  ranks: a whole slice behind one of our own.
-/
import Derived.Test.YtemmcfeekpblkaaDoorPk8
import Derived.Test.YtemmcfeekpblkaaDoorPk3
import Derived.Test.YtemmcfeekpblkaaDoorProg
import Derived.KernelRfl
import Derived.Shelf.Abstract
import Derived.Test.YtemmcfeekpblkaaDoorPk7
import Derived.Test.YtemmcfeekpblkaaDoorPk5
set_option linter.all false
namespace Go.Proofs.Tryd.Am
open Go.Am Rb
set_option maxRecDepth 100000
set_option maxHeartbeats 1000000

theorem ov_cut {b m c : Nat} {K : Value → Prop} (hk : K (.slice (some ⟨b, 0, some 0⟩) m (m + 1 + c))) : sliceK prog 22 (.slice (some ⟨b, 0, some 0⟩) (m + 1) (m + 1 + c)) none (some (vint m)) none K := by
  simp only [sliceK, el_22, esz_3, bnd]
  simp
  refine ⟨by omega, ?_⟩
  exact hk
theorem getL {r : List Nat} {k i : Nat} (hk : r[k]? = some i) : r.getD k 0 = i := by rw [List.getD, hk]; rfl

theorem mk_inner [Tabs prog] {h hp : Heap} {v : Value} {bx bn bt bl n top d cap : Nat} {s : Nat → Int} {nd ts ys : List Int} {r : List Nat} (hn8 : n ≤ 8) (m : MS h hp bx bn bt n nd ts) (hnl : nd.length = n) (hb : hp[bl]? = some (.ints (iL r ++ ys) 3 false)) (hcap : cap = r.length + ys.length)
    (hb1 : bl ≠ bn) (hb2 : bl ≠ bt) (hr : r.Nodup) (hrn : ∀ x ∈ r, x < n) (ht : top < n) (htr : top ∉ r) (hd : nd.getD top 0 = (d : Int)) (hs : ∀ i, i < n → 0 ≤ s i ∧ s i ≤ 7)
    (mi : MI n s ts (UK r top 0) (wK r top d 0 nd)) {Q0 : Exit → Env → Heap → Prop}
    (hN : ∀ hq nk tk e, MS h hq bx bn bt n nk tk → hq[bl]? = some (.ints (iL r ++ ys) 3 false) → ndK r d nd r.length nk → MI n s tk (UK r top r.length) (wK r top d r.length nk) → ELe e [(0, v), (4, .pointer (some ⟨bx, 0, none⟩)), (5, tv bt n), (6, .slice (some ⟨bl, 0, some 0⟩) r.length cap), (8, vint top)] → Q0 .normal e hq) :
    aw prog 126 (.seq q52_17 (.block 4 (.loop l52_1))) Q0 [(0, v), (4, .pointer (some ⟨bx, 0, none⟩)), (5, tv bt n), (6, .slice (some ⟨bl, 0, some 0⟩) r.length cap), (8, vint top)] hp := by
  subst hcap
  have rl : ∀ {hq : Heap}, hq[bl]? = some (.ints (iL r ++ ys) 3 false) → IntSl hq (.slice (some ⟨bl, 0, some 0⟩) r.length (r.length + ys.length)) (iL r) := fun {hq} hb => (show OwnSl 3 hq _ (iL r) from .inr ⟨bl, ys, by rw [iL_len], hb⟩).int
  have hrl : r.length ≤ 8 := by
    have := nodup_le hr (m := List.range n) (fun x hx => List.mem_range.2 (hrn x hx))
    rw [List.length_range] at this; omega
  simp (maxSteps := 2000000) only [s52, ↓aw_region, ↓aw_skip, ↓aw_seq, ↓aw_block, ↓aw_exit, ↓aw_ret, ↓sops_nil, ↓sops_go, ↓dops_nil, ↓dopsX_nil, ↓dopsR_nil, ↓vdn, vup, extr_20, extr_21, extr_30, extr_31, extr_32, List.map_cons, List.map_nil, cond_true, cond_false, aop, aThen, aBlock, argEnv, ev, sput, sputO, binK, binI, unK, builtinK, pickK, Nat.reduceBEq, Nat.reduceAdd, Int.reduceBEq, Int.reduceBNe, Int.reduceLT, aPost, resK, tup, tyf, (rl hb).len, iL_len, ↓aw_loop_eq]
  refine aws_hide fun Q hQ => ?_
  refine aw_loop (γ := Nat × Heap × List Int × List Int) (fun g => g.1 ≤ r.length ∧ MS h g.2.1 bx bn bt n g.2.2.1 g.2.2.2 ∧ g.2.1[bl]? = some (.ints (iL r ++ ys) 3 false) ∧ ndK r d nd g.1 g.2.2.1 ∧ MI n s g.2.2.2 (UK r top g.1) (wK r top d g.1 g.2.2.1))
    (fun g => ([(0, v), (4, .pointer (some ⟨bx, 0, none⟩)), (5, tv bt n), (6, .slice (some ⟨bl, 0, some 0⟩) r.length (r.length + ys.length)), (8, vint top), (85, .slice (some ⟨bl, 0, some 0⟩) r.length (r.length + ys.length)), (86, vint r.length), (87, vint g.1)], g.2.1)) (fun g => r.length - g.1) (0, hp, nd, ts) ⟨Nat.zero_le _, m, hb, ⟨rfl, fun i => by rw [if_neg (by rintro ⟨j, _, h, _⟩; omega)]; exact (Int.sub_zero _).symm⟩, mi⟩ (by simp (maxSteps := 2000000) only [↓aw_region, ↓aw_skip, ↓aw_seq, ↓aw_block, ↓aw_exit, ↓aw_ret, ↓sops_nil, ↓sops_go, ↓dops_nil, ↓dopsX_nil, ↓dopsR_nil, ↓vdn, vup, extr_20, extr_21, extr_30, extr_31, extr_32, List.map_cons, List.map_nil, cond_true, cond_false, aop, aThen, aBlock, argEnv, ev, sput, sputO, binK, binI, unK, builtinK, pickK, Nat.reduceBEq, Nat.reduceAdd, Int.reduceBEq, Int.reduceBNe, Int.reduceLT, aPost, resK, tup, tyf, Int.natCast_zero]) rfl ?_
  clear mi hb m
  rintro ⟨k, hq, nk, tk⟩ ⟨hk, m, hb, hnk, mi⟩
  simp only at hk m hb hnk mi
  refine aw_hide fun Q2 hQ2 => ?_
  by_cases hkn : (k : Int) < r.length
  · have hk' : k < r.length := by omega
    have hkL : k < (iL r).length := by rw [iL_len]; exact hk'
    obtain ⟨i, hi⟩ : ∃ i, r[k]? = some i := ⟨_, List.getElem?_eq_getElem hk'⟩
    have hir : i ∈ r := List.mem_of_getElem? hi
    have hin := hrn i hir
    have hti : top ≠ i := fun e => htr (e ▸ hir)
    have hnkl : nk.length = n := hnk.1.trans hnl
    have htop : nk.getD top 0 = (d : Int) := by
      rw [hnk.2 top, if_neg, hd]; · omega
      rintro ⟨j, _, _, hj⟩; exact htr (List.mem_of_getElem? hj)
    have htl : top < nk.length := by omega
    have hkd : i ∈ r.drop k := by
      obtain ⟨hkl, e⟩ := List.getElem?_eq_some_iff.1 hi
      rw [← e, List.drop_eq_getElem_cons hkl]; exact List.mem_cons_self
    have hlo := hQ2
    by_cases hkd2 : (k : Int) < (d : Int)
    · have mi2 := mi.win (U' := UK r top (k + 1)) (w' := wK r top d (k + 1) nk) hn8 ht hin hti (.inr (.inl ⟨rfl, hkd⟩)) (.inr (.inr ⟨rfl, hkd⟩)) (fun a b _ _ _ => UK_step hr htr hi a b) (fun a ha => by
        rw [wK, wK]
        by_cases har : a ∈ r
        · rw [if_pos har, if_pos har, if_neg (fun (e : a = top) => htr (e ▸ har))]; exact (Int.sub_zero _).symm
        · rw [if_neg har, if_neg har]
          by_cases hat : a = top
          · rw [if_pos hat, if_pos hat, if_pos hat]; omega
          · rw [if_neg hat, if_neg hat, if_neg hat]; rfl)
      have htt : top < tk.length := by rw [mi.len]; exact ht
      simp (maxSteps := 2000000) only [s52, ↓aw_region, ↓aw_skip, ↓aw_seq, ↓aw_block, ↓aw_exit, ↓aw_ret, ↓sops_nil, ↓sops_go, ↓dops_nil, ↓dopsX_nil, ↓dopsR_nil, ↓vdn, vup, extr_20, extr_21, extr_30, extr_31, extr_32, List.map_cons, List.map_nil, cond_true, cond_false, aop, aThen, aBlock, argEnv, ev, sput, sputO, binK, binI, unK, builtinK, pickK, Nat.reduceBEq, Nat.reduceAdd, Int.reduceBEq, Int.reduceBNe, Int.reduceLT, aPost, resK, tup, tyf, l52_1, hkn, (rl hb).idx el_22 esz_3 hkL, (rl hb).load shp_3 hkL, iL_get, getL hi, m.ld, idxW ht, loadX m.nn htl, htop, hkd2]
      refine aw_drawX [] (by kernel_rfl) (by kernel_rfl) (by kernel_rfl) (by kernel_rfl) ?_
      simp (maxSteps := 2000000) only [s52, ↓aw_region, ↓aw_skip, ↓aw_seq, ↓aw_block, ↓aw_exit, ↓aw_ret, ↓sops_nil, ↓sops_go, ↓dops_nil, ↓dopsX_nil, ↓dopsR_nil, ↓vdn, vup, extr_20, extr_21, extr_30, extr_31, extr_32, List.map_cons, List.map_nil, cond_true, cond_false, aop, aThen, aBlock, argEnv, ev, sput, sputO, binK, binI, unK, builtinK, pickK, Nat.reduceBEq, Nat.reduceAdd, Int.reduceBEq, Int.reduceBNe, Int.reduceLT, aPost, resK, tup, tyf, idxT ht, loadX m.tt htt, Int.natCast_nonneg, or_orT hn8 (mi.rng top ht) hin, storeX m.tt htt, add1 (show k < 9223372036854775807 by omega)]
      refine hQ2 _ _ _ ⟨(k + 1, hq.set bt (.ints (orT tk top i) 3 false), nk, orT tk top i), ⟨hk', m.setT _, by rw [List.getElem?_set_ne (Ne.symm hb2)]; exact hb, ndK_keep hnk (by omega), mi2⟩, by simp only; omega, by simp (maxSteps := 2000000) only [↓aw_region, ↓aw_skip, ↓aw_seq, ↓aw_block, ↓aw_exit, ↓aw_ret, ↓sops_nil, ↓sops_go, ↓dops_nil, ↓dopsX_nil, ↓dopsR_nil, ↓vdn, vup, extr_20, extr_21, extr_30, extr_31, extr_32, List.map_cons, List.map_nil, cond_true, cond_false, aop, aThen, aBlock, argEnv, ev, sput, sputO, binK, binI, unK, builtinK, pickK, Nat.reduceBEq, Nat.reduceAdd, Int.reduceBEq, Int.reduceBNe, Int.reduceLT, aPost, resK, tup, tyf], rfl⟩
    · have hil : i < nk.length := by omega
      have hit : i < tk.length := by rw [mi.len]; exact hin
      have hw := mi.won i hin
      rw [wK, if_pos hir] at hw
      have hsi := hs i hin
      have hsc := scr_le (tk.getD i 0)
      have hsub : subV .i64 (nk.getD i 0) 1 = nk.getD i 0 - 1 := subV_id (by omega) (by omega)
      have hnk2 := ndK_step hr hnk hi (by omega) (show d ≤ k by omega)
      have mi2 := mi.win (U' := UK r top (k + 1)) (w' := wK r top d (k + 1) (nk.set i (nk.getD i 0 - 1))) hn8 hin ht (Ne.symm hti) (.inr (.inr ⟨rfl, hkd⟩)) (.inr (.inl ⟨rfl, hkd⟩)) (fun a b _ _ _ => by rw [UK_step hr htr hi a b, And.comm (a := ¬ (a = i ∧ b = top))]) (fun a ha => by
        rw [wK, wK]
        by_cases har : a ∈ r
        · rw [if_pos har, if_pos har]
          by_cases hai : a = i
          · subst hai; rw [if_pos rfl, List.getD, List.getElem?_set_self hil]; rfl
          · rw [if_neg hai, List.getD, List.getElem?_set_ne (Ne.symm hai)]; exact (Int.sub_zero _).symm
        · rw [if_neg har, if_neg har, if_neg (fun (e : a = i) => har (e ▸ hir))]
          split <;> omega)
      simp (maxSteps := 2000000) only [s52, ↓aw_region, ↓aw_skip, ↓aw_seq, ↓aw_block, ↓aw_exit, ↓aw_ret, ↓sops_nil, ↓sops_go, ↓dops_nil, ↓dopsX_nil, ↓dopsR_nil, ↓vdn, vup, extr_20, extr_21, extr_30, extr_31, extr_32, List.map_cons, List.map_nil, cond_true, cond_false, aop, aThen, aBlock, argEnv, ev, sput, sputO, binK, binI, unK, builtinK, pickK, Nat.reduceBEq, Nat.reduceAdd, Int.reduceBEq, Int.reduceBNe, Int.reduceLT, aPost, resK, tup, tyf, l52_1, hkn, (rl hb).idx el_22 esz_3 hkL, (rl hb).load shp_3 hkL, iL_get, getL hi, m.ld, idxW ht, loadX m.nn htl, htop, hkd2]
      have m2 := m.setT (orT tk i top)
      have e2 : (hq.set bt (.ints (tk.set i (((tk.getD i 0).toNat ||| 2 ^ top : Nat) : Int)) 3 false)) = hq.set bt (.ints (orT tk i top) 3 false) := rfl
      refine aw_drawX [] (by kernel_rfl) (by kernel_rfl) (by kernel_rfl) (by kernel_rfl) ?_
      simp (maxSteps := 2000000) only [s52, ↓aw_region, ↓aw_skip, ↓aw_seq, ↓aw_block, ↓aw_exit, ↓aw_ret, ↓sops_nil, ↓sops_go, ↓dops_nil, ↓dopsX_nil, ↓dopsR_nil, ↓vdn, vup, extr_20, extr_21, extr_30, extr_31, extr_32, List.map_cons, List.map_nil, cond_true, cond_false, aop, aThen, aBlock, argEnv, ev, sput, sputO, binK, binI, unK, builtinK, pickK, Nat.reduceBEq, Nat.reduceAdd, Int.reduceBEq, Int.reduceBNe, Int.reduceLT, aPost, resK, tup, tyf, idxT hin, loadX m.tt hit, Int.natCast_nonneg, or_orT hn8 (mi.rng i hin) ht, storeX m.tt hit, e2, m2.ld, idxW hin, loadX m2.nn hil, hsub, storeX m2.nn hil, add1 (show k < 9223372036854775807 by omega)]
      refine hQ2 _ _ _ ⟨(k + 1, (hq.set bt (.ints (orT tk i top) 3 false)).set bn (.ints (nk.set i (nk.getD i 0 - 1)) 3 false), nk.set i (nk.getD i 0 - 1), orT tk i top), ⟨hk', m2.setN _, by rw [List.getElem?_set_ne (Ne.symm hb1), List.getElem?_set_ne (Ne.symm hb2)]; exact hb, hnk2, mi2⟩, by simp only; omega, by simp (maxSteps := 2000000) only [↓aw_region, ↓aw_skip, ↓aw_seq, ↓aw_block, ↓aw_exit, ↓aw_ret, ↓sops_nil, ↓sops_go, ↓dops_nil, ↓dopsX_nil, ↓dopsR_nil, ↓vdn, vup, extr_20, extr_21, extr_30, extr_31, extr_32, List.map_cons, List.map_nil, cond_true, cond_false, aop, aThen, aBlock, argEnv, ev, sput, sputO, binK, binI, unK, builtinK, pickK, Nat.reduceBEq, Nat.reduceAdd, Int.reduceBEq, Int.reduceBNe, Int.reduceLT, aPost, resK, tup, tyf], rfl⟩
  · obtain rfl : k = r.length := by omega
    simp (maxSteps := 2000000) only [s52, ↓aw_region, ↓aw_skip, ↓aw_seq, ↓aw_block, ↓aw_exit, ↓aw_ret, ↓sops_nil, ↓sops_go, ↓dops_nil, ↓dopsX_nil, ↓dopsR_nil, ↓vdn, vup, extr_20, extr_21, extr_30, extr_31, extr_32, List.map_cons, List.map_nil, cond_true, cond_false, aop, aThen, aBlock, argEnv, ev, sput, sputO, binK, binI, unK, builtinK, pickK, Nat.reduceBEq, Nat.reduceAdd, Int.reduceBEq, Int.reduceBNe, Int.reduceLT, aPost, resK, tup, tyf, l52_1, Int.lt_irrefl]
    refine hQ2 _ _ _ (hQ _ _ _ ?_)
    simp (maxSteps := 2000000) only [s52, ↓aw_region, ↓aw_skip, ↓aw_seq, ↓aw_block, ↓aw_exit, ↓aw_ret, ↓sops_nil, ↓sops_go, ↓dops_nil, ↓dopsX_nil, ↓dopsR_nil, ↓vdn, vup, extr_20, extr_21, extr_30, extr_31, extr_32, List.map_cons, List.map_nil, cond_true, cond_false, aop, aThen, aBlock, argEnv, ev, sput, sputO, binK, binI, unK, builtinK, pickK, Nat.reduceBEq, Nat.reduceAdd, Int.reduceBEq, Int.reduceBNe, Int.reduceLT, aPost, resK, tup, tyf, if_true]
    exact hN hq nk tk _ m hb hnk mi (by simp (maxSteps := 2000000) only [↓aw_region, ↓aw_skip, ↓aw_seq, ↓aw_block, ↓aw_exit, ↓aw_ret, ↓sops_nil, ↓sops_go, ↓dops_nil, ↓dopsX_nil, ↓dopsR_nil, ↓vdn, vup, extr_20, extr_21, extr_30, extr_31, extr_32, List.map_cons, List.map_nil, cond_true, cond_false, aop, aThen, aBlock, argEnv, ev, sput, sputO, binK, binI, unK, builtinK, pickK, Nat.reduceBEq, Nat.reduceAdd, Int.reduceBEq, Int.reduceBNe, Int.reduceLT, aPost, resK, tup, tyf])
end Go.Proofs.Tryd.Am

namespace Go.Proofs.Tryd.Am
open Go.Am Rb
set_option maxRecDepth 100000
set_option maxHeartbeats 1000000

theorem isS_iff {xs : List Int} : isS xs = true ↔ 1 ≤ xs.length ∧ xs.length ≤ 8 ∧ srt xs = true ∧ ∀ x ∈ xs, 0 ≤ x ∧ x ≤ 7 := by
  simp only [isS, Bool.and_eq_true, List.all_eq_true, decide_eq_true_eq]
  exact ⟨fun h => ⟨h.1.1.1, h.1.1.2, h.1.2, h.2⟩, fun h => ⟨⟨⟨h.1, h.2.1⟩, h.2.2.1⟩, h.2.2.2⟩⟩
theorem isS_ends {xs : List Int} (h1 : 1 ≤ xs.length) (h8 : xs.length ≤ 8) (hs : srt xs = true) : isS xs = true ↔ 0 ≤ xs.getD 0 0 ∧ xs.getD (xs.length - 1) 0 ≤ 7 := by
  rw [isS_iff]
  have hm : ∀ i, i < xs.length → xs.getD i 0 ∈ xs := fun i hi => by rw [List.getD, List.getElem?_eq_getElem hi, Option.getD_some]; exact List.getElem_mem _
  constructor
  · rintro ⟨_, _, _, h⟩
    exact ⟨(h _ (hm 0 (by omega))).1, (h _ (hm _ (by omega))).2⟩
  · rintro ⟨g1, g2⟩
    refine ⟨h1, h8, hs, fun x hx => ?_⟩
    obtain ⟨i, hi, rfl⟩ := List.getElem_of_mem hx
    have e1 := srt_le hs i 0 (by omega)
    have e2 := srt_le hs (xs.length - 1 - i) i (by omega)
    rw [show i + (xs.length - 1 - i) = xs.length - 1 by omega] at e2
    rw [Nat.zero_add] at e1
    have e3 : xs.getD i 0 = xs[i] := by rw [List.getD, List.getElem?_eq_getElem hi]; rfl
    omega
/-- What Make gives back. -/
def makeR (h' : Heap) (xs : List Int) (r : Value) : Prop :=
  if isS xs = true then (if poss xs.length (nl xs) = true then ∃ w ts, r = .tuple #[w, .int .i64 0] ∧ IntSl h' w ts ∧ trn ts = true ∧ ts.length = xs.length ∧ ∀ i, i < xs.length → (scr (ts.getD i 0) : Int) = xs.getD i 0 else r = .tuple #[.slice none 0 0, .int .i64 4]) else r = .tuple #[.slice none 0 0, .int .i64 2]
theorem iL_range (n : Nat) : iL (List.range (n + 1)) = iL (List.range n) ++ [((n : Nat) : Int)] := by rw [List.range_succ, iL, List.map_append]; rfl
theorem range_getD (xs : List Int) : (List.range xs.length).map (fun i => xs.getD i 0) = xs := by
  apply List.ext_getElem (by simp)
  intro i h1 h2
  simp [List.getD, List.getElem?_eq_getElem h2]

/-- What stands at the beginning of a round. -/
structure RMk (h hp : Heap) (bx bn bt bl n : Nat) (xs : List Int) (L : List Nat) (nd ts ys : List Int) : Prop where
  nodup : L.Nodup
  lt : ∀ x ∈ L, x < n
  m : MS h hp bx bn bt n nd ts
  nl : nd.length = n
  b : hp[bl]? = some (.ints (iL L ++ ys) 3 false)
  mi : MI n (fun i => xs.getD i 0) ts (fun i j => i ∈ L ∧ j ∈ L) (fun i => if i ∈ L then nd.getD i 0 else 0)
  g : gd L (fun i => nd.getD i 0) = poss n (Am.nl xs)

theorem s52_callW [Tabs Tryd.prog] {args : List Value} {h : Heap} {Q : Value → Heap → Prop} (hsz : args.length ≤ 126) (hk : AWS Tryd.prog 126 s52 (aPost Tryd.prog [.tmp 2, .tmp 3] Q) (argEnv 0 args) h) : ACall Tryd.prog 52 args h Q :=
  acall_w Tryd.func52 rfl (enters_of Tryd.func52 (by kernel_rfl) rfl) rfl rfl (by decide) s52_strip s52_ok hsz hk
theorem make_rounds [Tabs prog] {h hp : Heap} {v : Value} {bx bn bt bl n : Nat} {xs ys : List Int} {nd ts : List Int} (hn1 : 1 ≤ n) (hn8 : n ≤ 8) (hxn : xs.length = n) (hS : isS xs = true) (hne : bl ≠ bx ∧ bl ≠ bn ∧ bl ≠ bt) (hbl : h.length ≤ bl)
    (rs : RMk h hp bx bn bt bl n xs (List.range n) nd ts ys) {N : Env → Heap → Prop} {Q0 : Exit → Env → Heap → Prop} (hQ0 : ∀ e hq, poss n (nl xs) = false → Ext (fun _ => False) h hq → ELe e [(2, .slice none 0 0), (3, .int .i64 4)] → Q0 .ret e hq)
    (hN : ∀ hq nk tk ys' e, poss n (nl xs) = true → RMk h hq bx bn bt bl n xs [] nk tk ys' → ELe e [(0, v), (5, tv bt n)] → N e hq) :
    AWS prog 126 (.block 2 (.loop l52_2)) (aThen N Q0) [(0, v), (4, .pointer (some ⟨bx, 0, none⟩)), (5, tv bt n), (6, .slice (some ⟨bl, 0, some 0⟩) n (n + ys.length))] hp := by
  have hSx := isS_iff.1 hS
  have hsx : ∀ i, i < n → 0 ≤ xs.getD i 0 ∧ xs.getD i 0 ≤ 7 := fun i hi => hSx.2.2.2 _ (by rw [List.getD, List.getElem?_eq_getElem (by omega), Option.getD_some]; exact List.getElem_mem _)
  refine aws_block ?_
  refine aws_hide fun Q hQ => ?_
  refine aw_loopW (γ := Heap × List Nat × List Int × List Int × List Int) (fun g => RMk h g.1 bx bn bt bl n xs g.2.1 g.2.2.1 g.2.2.2.1 g.2.2.2.2)
    (fun g => ([(0, v), (4, .pointer (some ⟨bx, 0, none⟩)), (5, tv bt n), (6, .slice (some ⟨bl, 0, some 0⟩) g.2.1.length (g.2.1.length + g.2.2.2.2.length))], g.1)) (fun g => g.2.1.length) (hp, List.range n, nd, ts, ys) rs (by simp (maxSteps := 2000000) only [↓aw_region, ↓aw_skip, ↓aw_seq, ↓aw_block, ↓aw_exit, ↓aw_ret, ↓sops_nil, ↓sops_go, ↓dops_nil, ↓dopsX_nil, ↓dopsR_nil, ↓vdn, vup, extr_20, extr_21, extr_30, extr_31, extr_32, List.map_cons, List.map_nil, cond_true, cond_false, aop, aThen, aBlock, argEnv, ev, sput, sputO, binK, binI, unK, builtinK, pickK, Nat.reduceBEq, Nat.reduceAdd, Int.reduceBEq, Int.reduceBNe, Int.reduceLT, aPost, resK, tup, tyf, List.length_range]) rfl ?_
  clear rs ys nd ts hp
  rintro ⟨hp, L, nd, ts, ys⟩ rs
  simp only at rs
  refine aws_hide fun Q2 hQ2 => ?_
  simp only [l52_2]
  by_cases h0 : L = []
  · subst h0
    refine aws_cut fun N1 hN1 => ?_
    simp (maxSteps := 2000000) only [s52, ↓aw_region, ↓aw_skip, ↓aw_seq, ↓aw_block, ↓aw_exit, ↓aw_ret, ↓sops_nil, ↓sops_go, ↓dops_nil, ↓dopsX_nil, ↓dopsR_nil, ↓vdn, vup, extr_20, extr_21, extr_30, extr_31, extr_32, List.map_cons, List.map_nil, cond_true, cond_false, aop, aThen, aBlock, argEnv, ev, sput, sputO, binK, binI, unK, builtinK, pickK, Nat.reduceBEq, Nat.reduceAdd, Int.reduceBEq, Int.reduceBNe, Int.reduceLT, aPost, resK, tup, tyf, lenK, List.length_nil, Int.natCast_zero, gt_iff_lt, Int.lt_irrefl]
    refine hQ2 _ _ _ (hQ _ _ _ ?_)
    simp (maxSteps := 2000000) only [s52, ↓aw_region, ↓aw_skip, ↓aw_seq, ↓aw_block, ↓aw_exit, ↓aw_ret, ↓sops_nil, ↓sops_go, ↓dops_nil, ↓dopsX_nil, ↓dopsR_nil, ↓vdn, vup, extr_20, extr_21, extr_30, extr_31, extr_32, List.map_cons, List.map_nil, cond_true, cond_false, aop, aThen, aBlock, argEnv, ev, sput, sputO, binK, binI, unK, builtinK, pickK, Nat.reduceBEq, Nat.reduceAdd, Int.reduceBEq, Int.reduceBNe, Int.reduceLT, aPost, resK, tup, tyf, if_true]
    refine hN hp nd ts ys _ ?_ rs (by simp (maxSteps := 2000000) only [↓aw_region, ↓aw_skip, ↓aw_seq, ↓aw_block, ↓aw_exit, ↓aw_ret, ↓sops_nil, ↓sops_go, ↓dops_nil, ↓dopsX_nil, ↓dopsR_nil, ↓vdn, vup, extr_20, extr_21, extr_30, extr_31, extr_32, List.map_cons, List.map_nil, cond_true, cond_false, aop, aThen, aBlock, argEnv, ev, sput, sputO, binK, binI, unK, builtinK, pickK, Nat.reduceBEq, Nat.reduceAdd, Int.reduceBEq, Int.reduceBNe, Int.reduceLT, aPost, resK, tup, tyf])
    have := rs.g
    rw [← this]; rfl
  · have hpos : (0 : Int) < (L.length : Int) := by cases L with | nil => exact absurd rfl h0 | cons x l => simp
    have hLn : L.length ≤ n := by
      have := nodup_le rs.nodup (m := List.range n) (fun x hx => List.mem_range.2 (rs.lt x hx))
      rw [List.length_range] at this; exact this
    have hb100 : ∀ i, i ∈ L → -100 ≤ nd.getD i 0 ∧ nd.getD i 0 ≤ 100 := fun i hi => by
      have := rs.mi.won i (rs.lt i hi)
      simp only [if_pos hi] at this
      have h1 := hsx i (rs.lt i hi)
      have h2 := scr_le (ts.getD i 0)
      omega
    refine aws_cut fun N2 hN2 => ?_
    simp (maxSteps := 2000000) only [s52, ↓aw_region, ↓aw_skip, ↓aw_seq, ↓aw_block, ↓aw_exit, ↓aw_ret, ↓sops_nil, ↓sops_go, ↓dops_nil, ↓dopsX_nil, ↓dopsR_nil, ↓vdn, vup, extr_20, extr_21, extr_30, extr_31, extr_32, List.map_cons, List.map_nil, cond_true, cond_false, aop, aThen, aBlock, argEnv, ev, sput, sputO, binK, binI, unK, builtinK, pickK, Nat.reduceBEq, Nat.reduceAdd, Int.reduceBEq, Int.reduceBNe, Int.reduceLT, aPost, resK, tup, tyf, lenK, gt_iff_lt, hpos]
    refine hN2 [(0, v), (4, .pointer (some ⟨bx, 0, none⟩)), (5, tv bt n), (6, .slice (some ⟨bl, 0, some 0⟩) L.length (L.length + ys.length))] _ _ ?_ (by simp (maxSteps := 2000000) only [↓aw_region, ↓aw_skip, ↓aw_seq, ↓aw_block, ↓aw_exit, ↓aw_ret, ↓sops_nil, ↓sops_go, ↓dops_nil, ↓dopsX_nil, ↓dopsR_nil, ↓vdn, vup, extr_20, extr_21, extr_30, extr_31, extr_32, List.map_cons, List.map_nil, cond_true, cond_false, aop, aThen, aBlock, argEnv, ev, sput, sputO, binK, binI, unK, builtinK, pickK, Nat.reduceBEq, Nat.reduceAdd, Int.reduceBEq, Int.reduceBNe, Int.reduceLT, aPost, resK, tup, tyf])
    clear hN2
    try clear N2
    refine aws_block ?_
    refine aws_cut fun N3 hN3 => ?_
    simp (maxSteps := 2000000) only [s52, ↓aw_region, ↓aw_skip, ↓aw_seq, ↓aw_block, ↓aw_exit, ↓aw_ret, ↓sops_nil, ↓sops_go, ↓dops_nil, ↓dopsX_nil, ↓dopsR_nil, ↓vdn, vup, extr_20, extr_21, extr_30, extr_31, extr_32, List.map_cons, List.map_nil, cond_true, cond_false, aop, aThen, aBlock, argEnv, ev, sput, sputO, binK, binI, unK, builtinK, pickK, Nat.reduceBEq, Nat.reduceAdd, Int.reduceBEq, Int.reduceBNe, Int.reduceLT, aPost, resK, tup, tyf, callK, List.nil_append, List.append_nil, List.toList_toArray, List.cons_append, List.map_toArray]
    refine ((show ACall prog 87 [ov bl L.length ys.length, .func (.func 88) #[] #[.pointer (some ⟨bx, 0, none⟩)]] hp _ from sortF_call (key := fun i => nd.getD i 0) (fun x hx => by have := hb100 x hx; omega) (fun L' x y hx hy => make1_call (rs.m.setL hbl hne.1 hne.2.1 hne.2.2 _).box (rs.m.setL hbl hne.1 hne.2.1 hne.2.2 _).nn rs.nl (rs.lt x hx) (rs.lt y hy) (hb100 x hx) (hb100 y hy)) rs.b (by omega) (fun x hx => by have := rs.lt x hx; omega))).mono ?_
    rintro rr h1 ⟨L', hp1, hp2, rfl⟩
    refine hN3 [(0, v), (4, .pointer (some ⟨bx, 0, none⟩)), (5, tv bt n), (6, .slice (some ⟨bl, 0, some 0⟩) L.length (L.length + ys.length))] _ _ ?_ (by simp (maxSteps := 2000000) only [↓aw_region, ↓aw_skip, ↓aw_seq, ↓aw_block, ↓aw_exit, ↓aw_ret, ↓sops_nil, ↓sops_go, ↓dops_nil, ↓dopsX_nil, ↓dopsR_nil, ↓vdn, vup, extr_20, extr_21, extr_30, extr_31, extr_32, List.map_cons, List.map_nil, cond_true, cond_false, aop, aThen, aBlock, argEnv, ev, sput, sputO, binK, binI, unK, builtinK, pickK, Nat.reduceBEq, Nat.reduceAdd, Int.reduceBEq, Int.reduceBNe, Int.reduceLT, aPost, resK, tup, tyf])
    clear hN3
    try clear N3
    have hL'n : L'.length = L.length := hp1.length_eq
    obtain ⟨r, top, rfl⟩ : ∃ r top, L' = r ++ [top] := ⟨L'.dropLast, L'.getLast (fun e => by rw [e] at hL'n; simp at hL'n; exact h0 (List.length_eq_zero_iff.1 hL'n.symm)), (List.dropLast_concat_getLast _).symm⟩
    have hlr : L.length = r.length + 1 := by simpa using hL'n.symm
    have hm : ∀ x, x ∈ L ↔ x ∈ r ∨ x = top := fun x => by rw [← hp1.mem_iff]; simp
    have hnd' := hp1.nodup_iff.2 rs.nodup
    obtain ⟨hnr, _, hdis⟩ := List.nodup_append.1 hnd'
    have htr : top ∉ r := fun h => hdis top h top (by simp) rfl
    have htn : top < n := rs.lt top ((hm top).2 (.inr rfl))
    have m1 := rs.m.setL hbl hne.1 hne.2.1 hne.2.2 (.ints (iL (r ++ [top]) ++ ys) 3 false)
    have hbb : (hp.set bl (.ints (iL (r ++ [top]) ++ ys) 3 false))[bl]? = some (.ints (iL r ++ ((top : Int) :: ys)) 3 false) := by
      rw [get_set (get_lt rs.b)]; simp [iL]
    have hgd : gd (r ++ [top]) (fun i => nd.getD i 0) = poss n (nl xs) := (gd_perm hp1 _).trans rs.g
    generalize hp.set bl (.ints (iL (r ++ [top]) ++ ys) 3 false) = h1 at m1 hbb ⊢
    have hrl : IntSl h1 (.slice (some ⟨bl, 0, some 0⟩) (r.length + 1) (r.length + 1 + ys.length)) (iL (r ++ [top])) := by
      have : OwnSl 3 h1 (.slice (some ⟨bl, 0, some 0⟩) (iL (r ++ [top])).length ((iL (r ++ [top])).length + ys.length)) (iL (r ++ [top])) := .inr ⟨bl, ys, rfl, by rw [hbb]; simp [iL]⟩
      rw [iL_len, List.length_append, List.length_singleton] at this
      exact this.int
    rw [hlr]
    have hr8 : r.length ≤ 8 := by omega
    have e1 : subV .i64 ((r.length + 1 : Nat) : Int) 1 = ((r.length : Nat) : Int) := by rw [subV_id (by omega) (by omega)]; omega
    have hil : r.length < (iL (r ++ [top])).length := by rw [iL_len]; simp
    have hgt : (r ++ [top]).getD r.length 0 = top := by simp [List.getD]
    refine aws_cut fun N4 hN4 => ?_
    simp (maxSteps := 2000000) only [s52, ↓aw_region, ↓aw_skip, ↓aw_seq, ↓aw_block, ↓aw_exit, ↓aw_ret, ↓sops_nil, ↓sops_go, ↓dops_nil, ↓dopsX_nil, ↓dopsR_nil, ↓vdn, vup, extr_20, extr_21, extr_30, extr_31, extr_32, List.map_cons, List.map_nil, cond_true, cond_false, aop, aThen, aBlock, argEnv, ev, sput, sputO, binK, binI, unK, builtinK, pickK, Nat.reduceBEq, Nat.reduceAdd, Int.reduceBEq, Int.reduceBNe, Int.reduceLT, aPost, resK, tup, tyf, lenK, e1, hrl.idx el_22 esz_3 hil, hrl.load shp_3 hil, iL_get, hgt]
    refine hN4 [(0, v), (4, .pointer (some ⟨bx, 0, none⟩)), (5, tv bt n), (6, .slice (some ⟨bl, 0, some 0⟩) (r.length + 1) (r.length + 1 + ys.length)), (8, vint top)] _ _ ?_ (by simp (maxSteps := 2000000) only [↓aw_region, ↓aw_skip, ↓aw_seq, ↓aw_block, ↓aw_exit, ↓aw_ret, ↓sops_nil, ↓sops_go, ↓dops_nil, ↓dopsX_nil, ↓dopsR_nil, ↓vdn, vup, extr_20, extr_21, extr_30, extr_31, extr_32, List.map_cons, List.map_nil, cond_true, cond_false, aop, aThen, aBlock, argEnv, ev, sput, sputO, binK, binI, unK, builtinK, pickK, Nat.reduceBEq, Nat.reduceAdd, Int.reduceBEq, Int.reduceBNe, Int.reduceLT, aPost, resK, tup, tyf])
    clear hN4
    try clear N4
    refine aws_cut fun N5 hN5 => ?_
    simp (maxSteps := 2000000) only [s52, ↓aw_region, ↓aw_skip, ↓aw_seq, ↓aw_block, ↓aw_exit, ↓aw_ret, ↓sops_nil, ↓sops_go, ↓dops_nil, ↓dopsX_nil, ↓dopsR_nil, ↓vdn, vup, extr_20, extr_21, extr_30, extr_31, extr_32, List.map_cons, List.map_nil, cond_true, cond_false, aop, aThen, aBlock, argEnv, ev, sput, sputO, binK, binI, unK, builtinK, pickK, Nat.reduceBEq, Nat.reduceAdd, Int.reduceBEq, Int.reduceBNe, Int.reduceLT, aPost, resK, tup, tyf, lenK, e1, Option.map_none, Option.map_some]
    refine ov_cut ?_
    refine hN5 [(0, v), (4, .pointer (some ⟨bx, 0, none⟩)), (5, tv bt n), (6, .slice (some ⟨bl, 0, some 0⟩) r.length (r.length + 1 + ys.length)), (8, vint top)] _ _ ?_ (by simp (maxSteps := 2000000) only [↓aw_region, ↓aw_skip, ↓aw_seq, ↓aw_block, ↓aw_exit, ↓aw_ret, ↓sops_nil, ↓sops_go, ↓dops_nil, ↓dopsX_nil, ↓dopsR_nil, ↓vdn, vup, extr_20, extr_21, extr_30, extr_31, extr_32, List.map_cons, List.map_nil, cond_true, cond_false, aop, aThen, aBlock, argEnv, ev, sput, sputO, binK, binI, unK, builtinK, pickK, Nat.reduceBEq, Nat.reduceAdd, Int.reduceBEq, Int.reduceBNe, Int.reduceLT, aPost, resK, tup, tyf])
    clear hN5
    try clear N5
    have htl : top < nd.length := by rw [rs.nl]; exact htn
    have hfail : poss n (nl xs) = false → ∀ e, ELe e [(2, .slice none 0 0), (3, .int .i64 4)] → Q2 .ret e h1 := fun hf e he => hQ2 _ _ _ (hQ _ _ _ (hQ0 e h1 hf m1.E he))
    by_cases hneg : nd.getD top 0 < 0
    · have hf : poss n (nl xs) = false := by rw [← hgd]; exact gd_neg (x := top) (by simp) hneg
      refine aws_cut fun N6 hN6 => ?_
      simp (maxSteps := 2000000) only [s52, ↓aw_region, ↓aw_skip, ↓aw_seq, ↓aw_block, ↓aw_exit, ↓aw_ret, ↓sops_nil, ↓sops_go, ↓dops_nil, ↓dopsX_nil, ↓dopsR_nil, ↓vdn, vup, extr_20, extr_21, extr_30, extr_31, extr_32, List.map_cons, List.map_nil, cond_true, cond_false, aop, aThen, aBlock, argEnv, ev, sput, sputO, binK, binI, unK, builtinK, pickK, Nat.reduceBEq, Nat.reduceAdd, Int.reduceBEq, Int.reduceBNe, Int.reduceLT, aPost, resK, tup, tyf, m1.ld, idxW htn, loadX m1.nn htl, hneg]
      exact hfail hf _ (by simp (maxSteps := 2000000) only [↓aw_region, ↓aw_skip, ↓aw_seq, ↓aw_block, ↓aw_exit, ↓aw_ret, ↓sops_nil, ↓sops_go, ↓dops_nil, ↓dopsX_nil, ↓dopsR_nil, ↓vdn, vup, extr_20, extr_21, extr_30, extr_31, extr_32, List.map_cons, List.map_nil, cond_true, cond_false, aop, aThen, aBlock, argEnv, ev, sput, sputO, binK, binI, unK, builtinK, pickK, Nat.reduceBEq, Nat.reduceAdd, Int.reduceBEq, Int.reduceBNe, Int.reduceLT, aPost, resK, tup, tyf])
    · obtain ⟨d, hd⟩ : ∃ d : Nat, nd.getD top 0 = (d : Int) := ⟨(nd.getD top 0).toNat, by omega⟩
      by_cases hbig : (r.length : Int) < (d : Int)
      · have hf : poss n (nl xs) = false := by rw [← hgd]; exact gd_many hp2 (by show (r.length : Int) < nd.getD top 0; omega)
        have hneg' : ¬ (d : Int) < 0 := by omega
        refine aws_cut fun N7 hN7 => ?_
        simp (maxSteps := 2000000) only [s52, ↓aw_region, ↓aw_skip, ↓aw_seq, ↓aw_block, ↓aw_exit, ↓aw_ret, ↓sops_nil, ↓sops_go, ↓dops_nil, ↓dopsX_nil, ↓dopsR_nil, ↓vdn, vup, extr_20, extr_21, extr_30, extr_31, extr_32, List.map_cons, List.map_nil, cond_true, cond_false, aop, aThen, aBlock, argEnv, ev, sput, sputO, binK, binI, unK, builtinK, pickK, Nat.reduceBEq, Nat.reduceAdd, Int.reduceBEq, Int.reduceBNe, Int.reduceLT, aPost, resK, tup, tyf, m1.ld, idxW htn, loadX m1.nn htl, hd, hneg', lenK, gt_iff_lt, hbig]
        exact hfail hf _ (by simp (maxSteps := 2000000) only [↓aw_region, ↓aw_skip, ↓aw_seq, ↓aw_block, ↓aw_exit, ↓aw_ret, ↓sops_nil, ↓sops_go, ↓dops_nil, ↓dopsX_nil, ↓dopsR_nil, ↓vdn, vup, extr_20, extr_21, extr_30, extr_31, extr_32, List.map_cons, List.map_nil, cond_true, cond_false, aop, aThen, aBlock, argEnv, ev, sput, sputO, binK, binI, unK, builtinK, pickK, Nat.reduceBEq, Nat.reduceAdd, Int.reduceBEq, Int.reduceBNe, Int.reduceLT, aPost, resK, tup, tyf])
      · have hneg' : ¬ (d : Int) < 0 := by omega
        have hdl : d ≤ r.length := by omega
        refine aws_cut fun N8 hN8 => ?_
        simp (maxSteps := 2000000) only [s52, ↓aw_region, ↓aw_skip, ↓aw_seq, ↓aw_block, ↓aw_exit, ↓aw_ret, ↓sops_nil, ↓sops_go, ↓dops_nil, ↓dopsX_nil, ↓dopsR_nil, ↓vdn, vup, extr_20, extr_21, extr_30, extr_31, extr_32, List.map_cons, List.map_nil, cond_true, cond_false, aop, aThen, aBlock, argEnv, ev, sput, sputO, binK, binI, unK, builtinK, pickK, Nat.reduceBEq, Nat.reduceAdd, Int.reduceBEq, Int.reduceBNe, Int.reduceLT, aPost, resK, tup, tyf, m1.ld, idxW htn, loadX m1.nn htl, hd, hneg', lenK, gt_iff_lt, hbig]
        refine hN8 [(0, v), (4, .pointer (some ⟨bx, 0, none⟩)), (5, tv bt n), (6, .slice (some ⟨bl, 0, some 0⟩) r.length (r.length + 1 + ys.length)), (8, vint top)] _ _ ?_ (by simp (maxSteps := 2000000) only [↓aw_region, ↓aw_skip, ↓aw_seq, ↓aw_block, ↓aw_exit, ↓aw_ret, ↓sops_nil, ↓sops_go, ↓dops_nil, ↓dopsX_nil, ↓dopsR_nil, ↓vdn, vup, extr_20, extr_21, extr_30, extr_31, extr_32, List.map_cons, List.map_nil, cond_true, cond_false, aop, aThen, aBlock, argEnv, ev, sput, sputO, binK, binI, unK, builtinK, pickK, Nat.reduceBEq, Nat.reduceAdd, Int.reduceBEq, Int.reduceBNe, Int.reduceLT, aPost, resK, tup, tyf])
        clear hN8
        try clear N8
        have mi0 : MI n (fun i => xs.getD i 0) ts (UK r top 0) (wK r top d 0 nd) := rs.mi.congr (fun i j hi hj hij => by
          rw [UK, List.drop_zero, hm, hm]
          constructor
          · rintro (⟨h1, h2⟩ | ⟨h1, h2⟩ | ⟨h1, h2⟩)
            · exact ⟨.inl h1, .inl h2⟩
            · exact ⟨.inr h1, .inl h2⟩
            · exact ⟨.inl h2, .inr h1⟩
          · rintro ⟨h1 | h1, h2 | h2⟩
            · exact .inl ⟨h1, h2⟩
            · exact .inr (.inr ⟨h2, h1⟩)
            · exact .inr (.inl ⟨h1, h2⟩)
            · exact absurd (h1.trans h2.symm) hij) (fun i hi => by
          rw [wK]
          by_cases h1 : i ∈ r
          · rw [if_pos h1, if_pos ((hm i).2 (.inl h1))]
          · rw [if_neg h1]
            by_cases h2 : i = top
            · rw [if_pos h2, if_pos ((hm i).2 (.inr h2)), h2, hd]; simp
            · rw [if_neg h2, if_neg (fun h => (hm i).1 h |>.elim h1 h2)])
        refine aw_aws ?_
        refine mk_inner (cap := r.length + 1 + ys.length) (ys := (top : Int) :: ys) (nd := nd) (ts := ts) hn8 m1 rs.nl hbb (by rw [List.length_cons]; omega) hne.2.1 hne.2.2 hnr (fun x hx => rs.lt x ((hm x).2 (.inl hx))) htn htr hd hsx mi0 fun hq nk tk e m2 hb2 hnk mi2 he => ?_
        refine hQ2 _ _ _ ⟨(hq, r, nk, tk, (top : Int) :: ys), ⟨hnr, fun x hx => rs.lt x ((hm x).2 (.inl hx)), m2, hnk.1.trans rs.nl, hb2, mi2.congr (fun i j _ _ _ => ?_) (fun i _ => ?_), ?_⟩, by simp only; omega, ?_, rfl⟩
        · rw [UK, List.drop_length]; simp
        · rw [wK]
          by_cases h1 : i ∈ r
          · rw [if_pos h1, if_pos h1]
          · rw [if_neg h1, if_neg h1]; split <;> omega
        · rw [← hgd]
          refine (gd_step hp2 hd hdl fun j hj => ?_).symm
          rw [hnk.2 r[j]]
          congr 1
          by_cases hdj : d ≤ j
          · rw [if_pos hdj, if_pos ⟨j, hdj, hj, List.getElem?_eq_getElem hj⟩]
          · rw [if_neg hdj, if_neg]
            rintro ⟨i, h1, h2, h3⟩
            rw [List.getElem?_eq_getElem h2] at h3
            have hne := List.nodup_iff_pairwise_ne.1 hnr
            exact (List.pairwise_iff_getElem.1 hne) j i hj h2 (by omega) (Option.some.inj h3).symm
        · have hc : r.length + 1 + ys.length = r.length + ((top : Int) :: ys).length := by rw [List.length_cons]; omega
          rw [hc] at he
          intro p hp
          exact he p (by simp only [List.mem_cons, List.not_mem_nil, or_false] at hp ⊢; rcases hp with h | h | h | h <;> simp [h])
end Go.Proofs.Tryd.Am

namespace Go.Proofs.Tryd.Am
open Go.Am
set_option maxRecDepth 100000
end Go.Proofs.Tryd.Am

namespace Go.Proofs.Tryd.Am
open Go.Am Rb
set_option maxRecDepth 100000
set_option maxHeartbeats 1000000

/-- What R.Rising is to answer. -/
def RisingOk [Tabs prog] : Prop := ∀ (h : Heap) (v : Value) (L : List Nat), IntSl h v (iL L) → L.length ≤ 8 → ACall prog 91 [v] h fun r h' => Ext (fun _ => False) h h' ∧ IntSl h' r (iL (rising L))
theorem s53_callW [Tabs Tryd.prog] {args : List Value} {h : Heap} {Q : Value → Heap → Prop} (hsz : args.length ≤ 20) (hk : AWS Tryd.prog 20 s53 (aPost Tryd.prog [.tmp 2] Q) (argEnv 0 args) h) : ACall Tryd.prog 53 args h Q :=
  acall_w Tryd.func53 rfl (enters_of Tryd.func53 (by kernel_rfl) rfl) rfl rfl (by decide) s53_strip s53_ok hsz hk
theorem rscores_call [Tabs prog] (hR : RisingOk) {h : Heap} {v : Value} {xs : List Int} (hv : IntSl h v xs) (ht : trn xs = true) :
    ACall prog 53 [v] h fun r h' => Ext (fun _ => False) h h' ∧ IntSl h' r (iL (rising (scL xs))) := by
  have hxl := trn_len ht
  have h256 := pow8N hxl.2
  refine s53_callW (by simp) ?_
  simp only [s53]
  refine aws_cut fun N1 hN1 => ?_
  simp (maxSteps := 2000000) only [s53, ↓aw_region, ↓aw_skip, ↓aw_seq, ↓aw_block, ↓aw_exit, ↓aw_ret, ↓sops_nil, ↓sops_go, ↓dops_nil, ↓dopsX_nil, ↓dopsR_nil, ↓vdn, vup, extr_20, extr_21, extr_30, extr_31, extr_32, List.map_cons, List.map_nil, cond_true, cond_false, aop, aThen, aBlock, argEnv, ev, sput, sputO, binK, binI, unK, builtinK, pickK, Nat.reduceBEq, Nat.reduceAdd, Int.reduceBEq, Int.reduceBNe, Int.reduceLT, aPost, resK, tup, tyf]
  refine hN1 [(0, v), (2, .slice none 0 0)] _ _ ?_ (by simp (maxSteps := 2000000) only [↓aw_region, ↓aw_skip, ↓aw_seq, ↓aw_block, ↓aw_exit, ↓aw_ret, ↓sops_nil, ↓sops_go, ↓dops_nil, ↓dopsX_nil, ↓dopsR_nil, ↓vdn, vup, extr_20, extr_21, extr_30, extr_31, extr_32, List.map_cons, List.map_nil, cond_true, cond_false, aop, aThen, aBlock, argEnv, ev, sput, sputO, binK, binI, unK, builtinK, pickK, Nat.reduceBEq, Nat.reduceAdd, Int.reduceBEq, Int.reduceBNe, Int.reduceLT, aPost, resK, tup, tyf])
  clear hN1
  try clear N1
  refine aws_cut fun N2 hN2 => ?_
  simp (maxSteps := 2000000) only [s53, ↓aw_region, ↓aw_skip, ↓aw_seq, ↓aw_block, ↓aw_exit, ↓aw_ret, ↓sops_nil, ↓sops_go, ↓dops_nil, ↓dopsX_nil, ↓dopsR_nil, ↓vdn, vup, extr_20, extr_21, extr_30, extr_31, extr_32, List.map_cons, List.map_nil, cond_true, cond_false, aop, aThen, aBlock, argEnv, ev, sput, sputO, binK, binI, unK, builtinK, pickK, Nat.reduceBEq, Nat.reduceAdd, Int.reduceBEq, Int.reduceBNe, Int.reduceLT, aPost, resK, tup, tyf]
  refine hN2 [(0, v), (2, .slice none 0 0), (3, .slice none 0 0)] _ _ ?_ (by simp (maxSteps := 2000000) only [↓aw_region, ↓aw_skip, ↓aw_seq, ↓aw_block, ↓aw_exit, ↓aw_ret, ↓sops_nil, ↓sops_go, ↓dops_nil, ↓dopsX_nil, ↓dopsR_nil, ↓vdn, vup, extr_20, extr_21, extr_30, extr_31, extr_32, List.map_cons, List.map_nil, cond_true, cond_false, aop, aThen, aBlock, argEnv, ev, sput, sputO, binK, binI, unK, builtinK, pickK, Nat.reduceBEq, Nat.reduceAdd, Int.reduceBEq, Int.reduceBNe, Int.reduceLT, aPost, resK, tup, tyf])
  clear hN2
  try clear N2
  refine aws_cut fun Z hZ => ?_
  simp (maxSteps := 2000000) only [s53, ↓aw_region, ↓aw_skip, ↓aw_seq, ↓aw_block, ↓aw_exit, ↓aw_ret, ↓sops_nil, ↓sops_go, ↓dops_nil, ↓dopsX_nil, ↓dopsR_nil, ↓vdn, vup, extr_20, extr_21, extr_30, extr_31, extr_32, List.map_cons, List.map_nil, cond_true, cond_false, aop, aThen, aBlock, argEnv, ev, sput, sputO, binK, binI, unK, builtinK, pickK, Nat.reduceBEq, Nat.reduceAdd, Int.reduceBEq, Int.reduceBNe, Int.reduceLT, aPost, resK, tup, tyf, hv.len, ↓aw_loop_eq]
  refine aws_hide fun Q hQ => ?_
  refine aw_loop (γ := Nat × Value × Heap) (fun s => s.1 ≤ xs.length ∧ RSI h s.2.2 s.2.1 (iL (scL (xs.take s.1))))
    (fun s => ([(0, v), (2, .slice none 0 0), (3, s.2.1), (6, v), (7, vint xs.length), (8, vint s.1)], s.2.2)) (fun s => xs.length - s.1) (0, .slice none 0 0, h) ⟨Nat.zero_le _, RSI.nil h⟩ (by simp (maxSteps := 2000000) only [↓aw_region, ↓aw_skip, ↓aw_seq, ↓aw_block, ↓aw_exit, ↓aw_ret, ↓sops_nil, ↓sops_go, ↓dops_nil, ↓dopsX_nil, ↓dopsR_nil, ↓vdn, vup, extr_20, extr_21, extr_30, extr_31, extr_32, List.map_cons, List.map_nil, cond_true, cond_false, aop, aThen, aBlock, argEnv, ev, sput, sputO, binK, binI, unK, builtinK, pickK, Nat.reduceBEq, Nat.reduceAdd, Int.reduceBEq, Int.reduceBNe, Int.reduceLT, aPost, resK, tup, tyf, Int.natCast_zero]) rfl ?_
  rintro ⟨j, w0, hp⟩ ⟨hj, hs⟩
  simp only at hj hs
  refine aw_hide fun Q2 hQ2 => ?_
  have hv1 := IntSl_ext hv hs.2.1
  by_cases hjn : (j : Int) < xs.length
  · have hj' : j < xs.length := by omega
    obtain ⟨e, hlt⟩ := trn_nat ht hj'
    have hc := size79_call (h := hp) (s := (xs.getD j 0).toNat) (by omega)
    rw [← e] at hc
    simp (maxSteps := 2000000) only [s53, ↓aw_region, ↓aw_skip, ↓aw_seq, ↓aw_block, ↓aw_exit, ↓aw_ret, ↓sops_nil, ↓sops_go, ↓dops_nil, ↓dopsX_nil, ↓dopsR_nil, ↓vdn, vup, extr_20, extr_21, extr_30, extr_31, extr_32, List.map_cons, List.map_nil, cond_true, cond_false, aop, aThen, aBlock, argEnv, ev, sput, sputO, binK, binI, unK, builtinK, pickK, Nat.reduceBEq, Nat.reduceAdd, Int.reduceBEq, Int.reduceBNe, Int.reduceLT, aPost, resK, tup, tyf, l53_0, hjn, hv1.idx el_22 esz_3 hj', hv1.load shp_3 hj', callK, List.nil_append, List.append_nil, List.toList_toArray, List.cons_append]
    refine hc.mono ?_
    rintro _ hp ⟨rfl, rfl⟩
    simp (maxSteps := 2000000) only [s53, ↓aw_region, ↓aw_skip, ↓aw_seq, ↓aw_block, ↓aw_exit, ↓aw_ret, ↓sops_nil, ↓sops_go, ↓dops_nil, ↓dopsX_nil, ↓dopsR_nil, ↓vdn, vup, extr_20, extr_21, extr_30, extr_31, extr_32, List.map_cons, List.map_nil, cond_true, cond_false, aop, aThen, aBlock, argEnv, ev, sput, sputO, binK, binI, unK, builtinK, pickK, Nat.reduceBEq, Nat.reduceAdd, Int.reduceBEq, Int.reduceBNe, Int.reduceLT, aPost, resK, tup, tyf, litI1]
    refine hs.push (by rw [iL_len, scL, List.length_map, List.length_take]; omega) fun v' h' s' => ?_
    simp (maxSteps := 2000000) only [s53, ↓aw_region, ↓aw_skip, ↓aw_seq, ↓aw_block, ↓aw_exit, ↓aw_ret, ↓sops_nil, ↓sops_go, ↓dops_nil, ↓dopsX_nil, ↓dopsR_nil, ↓vdn, vup, extr_20, extr_21, extr_30, extr_31, extr_32, List.map_cons, List.map_nil, cond_true, cond_false, aop, aThen, aBlock, argEnv, ev, sput, sputO, binK, binI, unK, builtinK, pickK, Nat.reduceBEq, Nat.reduceAdd, Int.reduceBEq, Int.reduceBNe, Int.reduceLT, aPost, resK, tup, tyf, add1 (show j < 9223372036854775807 by omega)]
    refine hQ2 _ _ _ ⟨(j + 1, v', h'), ⟨by simp only; omega, by rw [scL_snoc hj']; exact s'⟩, by simp only; omega, by simp (maxSteps := 2000000) only [↓aw_region, ↓aw_skip, ↓aw_seq, ↓aw_block, ↓aw_exit, ↓aw_ret, ↓sops_nil, ↓sops_go, ↓dops_nil, ↓dopsX_nil, ↓dopsR_nil, ↓vdn, vup, extr_20, extr_21, extr_30, extr_31, extr_32, List.map_cons, List.map_nil, cond_true, cond_false, aop, aThen, aBlock, argEnv, ev, sput, sputO, binK, binI, unK, builtinK, pickK, Nat.reduceBEq, Nat.reduceAdd, Int.reduceBEq, Int.reduceBNe, Int.reduceLT, aPost, resK, tup, tyf], rfl⟩
  · obtain rfl : j = xs.length := by omega
    simp (maxSteps := 2000000) only [s53, ↓aw_region, ↓aw_skip, ↓aw_seq, ↓aw_block, ↓aw_exit, ↓aw_ret, ↓sops_nil, ↓sops_go, ↓dops_nil, ↓dopsX_nil, ↓dopsR_nil, ↓vdn, vup, extr_20, extr_21, extr_30, extr_31, extr_32, List.map_cons, List.map_nil, cond_true, cond_false, aop, aThen, aBlock, argEnv, ev, sput, sputO, binK, binI, unK, builtinK, pickK, Nat.reduceBEq, Nat.reduceAdd, Int.reduceBEq, Int.reduceBNe, Int.reduceLT, aPost, resK, tup, tyf, l53_0, Int.lt_irrefl]
    refine hQ2 _ _ _ (hQ _ _ _ ?_)
    simp (maxSteps := 2000000) only [s53, ↓aw_region, ↓aw_skip, ↓aw_seq, ↓aw_block, ↓aw_exit, ↓aw_ret, ↓sops_nil, ↓sops_go, ↓dops_nil, ↓dopsX_nil, ↓dopsR_nil, ↓vdn, vup, extr_20, extr_21, extr_30, extr_31, extr_32, List.map_cons, List.map_nil, cond_true, cond_false, aop, aThen, aBlock, argEnv, ev, sput, sputO, binK, binI, unK, builtinK, pickK, Nat.reduceBEq, Nat.reduceAdd, Int.reduceBEq, Int.reduceBNe, Int.reduceLT, aPost, resK, tup, tyf, if_true]
    refine hZ [(0, v), (2, .slice none 0 0), (3, w0)] _ _ ?_ (by simp (maxSteps := 2000000) only [↓aw_region, ↓aw_skip, ↓aw_seq, ↓aw_block, ↓aw_exit, ↓aw_ret, ↓sops_nil, ↓sops_go, ↓dops_nil, ↓dopsX_nil, ↓dopsR_nil, ↓vdn, vup, extr_20, extr_21, extr_30, extr_31, extr_32, List.map_cons, List.map_nil, cond_true, cond_false, aop, aThen, aBlock, argEnv, ev, sput, sputO, binK, binI, unK, builtinK, pickK, Nat.reduceBEq, Nat.reduceAdd, Int.reduceBEq, Int.reduceBNe, Int.reduceLT, aPost, resK, tup, tyf])
    clear hZ
    try clear Z
    rw [List.take_length] at hs
    obtain ⟨hown, hE, _⟩ := hs
    refine aws_cut fun N3 hN3 => ?_
    simp (maxSteps := 2000000) only [s53, ↓aw_region, ↓aw_skip, ↓aw_seq, ↓aw_block, ↓aw_exit, ↓aw_ret, ↓sops_nil, ↓sops_go, ↓dops_nil, ↓dopsX_nil, ↓dopsR_nil, ↓vdn, vup, extr_20, extr_21, extr_30, extr_31, extr_32, List.map_cons, List.map_nil, cond_true, cond_false, aop, aThen, aBlock, argEnv, ev, sput, sputO, binK, binI, unK, builtinK, pickK, Nat.reduceBEq, Nat.reduceAdd, Int.reduceBEq, Int.reduceBNe, Int.reduceLT, aPost, resK, tup, tyf, callK, List.nil_append, List.append_nil, List.toList_toArray, List.cons_append]
    refine (hR hp w0 (scL xs) hown.int (by simp [scL]; omega)).mono ?_
    rintro r h' ⟨hE2, hr⟩
    refine hN3 [(0, v), (2, r), (3, w0)] _ _ ?_ (by simp (maxSteps := 2000000) only [↓aw_region, ↓aw_skip, ↓aw_seq, ↓aw_block, ↓aw_exit, ↓aw_ret, ↓sops_nil, ↓sops_go, ↓dops_nil, ↓dopsX_nil, ↓dopsR_nil, ↓vdn, vup, extr_20, extr_21, extr_30, extr_31, extr_32, List.map_cons, List.map_nil, cond_true, cond_false, aop, aThen, aBlock, argEnv, ev, sput, sputO, binK, binI, unK, builtinK, pickK, Nat.reduceBEq, Nat.reduceAdd, Int.reduceBEq, Int.reduceBNe, Int.reduceLT, aPost, resK, tup, tyf])
    clear hN3
    try clear N3
    refine aw_aws ?_
    simp (maxSteps := 2000000) only [s53, ↓aw_region, ↓aw_skip, ↓aw_seq, ↓aw_block, ↓aw_exit, ↓aw_ret, ↓sops_nil, ↓sops_go, ↓dops_nil, ↓dopsX_nil, ↓dopsR_nil, ↓vdn, vup, extr_20, extr_21, extr_30, extr_31, extr_32, List.map_cons, List.map_nil, cond_true, cond_false, aop, aThen, aBlock, argEnv, ev, sput, sputO, binK, binI, unK, builtinK, pickK, Nat.reduceBEq, Nat.reduceAdd, Int.reduceBEq, Int.reduceBNe, Int.reduceLT, aPost, resK, tup, tyf]
    exact ⟨hE.trans hE2, hr⟩

theorem red_none {r : List Nat} {d j : Nat} (hj : j < r.length) (hd : d ≤ j) (h0 : r.getD j 0 = 0) : red r d = none := by
  rw [red, if_neg]
  rintro ⟨_, h⟩
  have hm : r[j] ∈ r.drop d := by
    rw [show r[j] = (r.drop d)[j - d]'(by rw [List.length_drop]; omega) by rw [List.getElem_drop]; congr 1; omega]
    exact List.getElem_mem _
  have := List.all_eq_true.1 h _ hm
  rw [List.getD, List.getElem?_eq_getElem hj, Option.getD_some] at h0
  rw [h0] at this; simp at this
/-- The list with the ones behind d lowered, j on. -/
def lowTo (r : List Nat) (d j : Nat) : List Nat := (List.range j).map fun i => if d ≤ i then r.getD i 0 - 1 else r.getD i 0
theorem lowTo_succ (r : List Nat) (d j : Nat) : lowTo r d (j + 1) = lowTo r d j ++ [if d ≤ j then r.getD j 0 - 1 else r.getD j 0] := by rw [lowTo, List.range_succ, List.map_append]; rfl
theorem lowTo_all {r : List Nat} {d : Nat} (hd : d ≤ r.length) : lowTo r d r.length = r.take d ++ (r.drop d).map (· - 1) := by
  apply List.ext_getElem
  · simp [lowTo]; omega
  · intro i h1 h2
    have hi : i < r.length := by simpa [lowTo] using h1
    rw [List.getElem_append]
    simp only [lowTo, List.getElem_map, List.getElem_range, List.length_take, List.getElem_take, List.getElem_drop, List.getD, List.getElem?_eq_getElem hi, Option.getD_some]
    by_cases hdi : d ≤ i
    · rw [if_pos hdi, dif_neg (by omega)]
      congr 2; omega
    · rw [if_neg hdi, dif_pos (by omega)]
theorem s55_callW [Tabs Tryd.prog] {args : List Value} {h : Heap} {Q : Value → Heap → Prop} (hsz : args.length ≤ 49) (hk : AWS Tryd.prog 49 s55 (aPost Tryd.prog [.tmp 2] Q) (argEnv 0 args) h) : ACall Tryd.prog 55 args h Q :=
  acall_w Tryd.func55 rfl (enters_of Tryd.func55 (by kernel_rfl) rfl) rfl rfl (by decide) s55_strip s55_ok hsz hk
theorem possible_call [Tabs prog] (hR : RisingOk) : ∀ (k : Nat) {h : Heap} {v : Value} {L : List Nat}, IntSl h v (iL L) → L.length = k → 1 ≤ k → k ≤ 8 → (∀ x ∈ L, x ≤ 64) → ACall prog 55 [v] h fun r h' => Ext (fun _ => False) h h' ∧ r = .bool (poss k L)
  | 0, h, v, L, _, _, hk, _, _ => absurd hk (by decide)
  | k + 1, h, v, L, hv, hlen, _, hk, hle => by
    obtain ⟨r, d, rfl⟩ : ∃ r d, L = r ++ [d] := by
      have hne : L ≠ [] := fun e => by rw [e] at hlen; simp at hlen
      exact ⟨L.dropLast, L.getLast hne, (List.dropLast_concat_getLast hne).symm⟩
    have hr : r.length = k := by simpa using hlen
    have hLl : (iL (r ++ [d])).length = k + 1 := by rw [iL_len, hlen]
    have hd64 : d ≤ 64 := hle d (by simp)
    have hsub : subV .i64 ((k + 1 : Nat) : Int) 1 = ((k : Nat) : Int) := by rw [subV_id (by omega) (by omega)]; omega
    have hget : ∀ j, j < k → (iL (r ++ [d])).getD j 0 = ((r.getD j 0 : Nat) : Int) := fun j hj => by rw [iL_get, List.getD, List.getElem?_append_left (by omega)]; rfl
    have hgd : (iL (r ++ [d])).getD k 0 = ((d : Nat) : Int) := by rw [iL_get, ← hr, List.getD, List.getElem?_append_right (Nat.le_refl _)]; simp
    rw [poss_snoc]
    refine s55_callW (by simp) ?_
    simp only [s55]
    refine aws_cut fun N4 hN4 => ?_
    simp (maxSteps := 2000000) only [s55, ↓aw_region, ↓aw_skip, ↓aw_seq, ↓aw_block, ↓aw_exit, ↓aw_ret, ↓sops_nil, ↓sops_go, ↓dops_nil, ↓dopsX_nil, ↓dopsR_nil, ↓vdn, vup, extr_20, extr_21, extr_30, extr_31, extr_32, List.map_cons, List.map_nil, cond_true, cond_false, aop, aThen, aBlock, argEnv, ev, sput, sputO, binK, binI, unK, builtinK, pickK, Nat.reduceBEq, Nat.reduceAdd, Int.reduceBEq, Int.reduceBNe, Int.reduceLT, aPost, resK, tup, tyf]
    refine hN4 [(0, v), (2, .bool false)] _ _ ?_ (by simp (maxSteps := 2000000) only [↓aw_region, ↓aw_skip, ↓aw_seq, ↓aw_block, ↓aw_exit, ↓aw_ret, ↓sops_nil, ↓sops_go, ↓dops_nil, ↓dopsX_nil, ↓dopsR_nil, ↓vdn, vup, extr_20, extr_21, extr_30, extr_31, extr_32, List.map_cons, List.map_nil, cond_true, cond_false, aop, aThen, aBlock, argEnv, ev, sput, sputO, binK, binI, unK, builtinK, pickK, Nat.reduceBEq, Nat.reduceAdd, Int.reduceBEq, Int.reduceBNe, Int.reduceLT, aPost, resK, tup, tyf])
    clear hN4
    try clear N4
    refine aws_cut fun N5 hN5 => ?_
    simp (maxSteps := 2000000) only [s55, ↓aw_region, ↓aw_skip, ↓aw_seq, ↓aw_block, ↓aw_exit, ↓aw_ret, ↓sops_nil, ↓sops_go, ↓dops_nil, ↓dopsX_nil, ↓dopsR_nil, ↓vdn, vup, extr_20, extr_21, extr_30, extr_31, extr_32, List.map_cons, List.map_nil, cond_true, cond_false, aop, aThen, aBlock, argEnv, ev, sput, sputO, binK, binI, unK, builtinK, pickK, Nat.reduceBEq, Nat.reduceAdd, Int.reduceBEq, Int.reduceBNe, Int.reduceLT, aPost, resK, tup, tyf, hv.len, hLl, hsub]
    refine hN5 [(0, v), (2, .bool false), (3, vint k)] _ _ ?_ (by simp (maxSteps := 2000000) only [↓aw_region, ↓aw_skip, ↓aw_seq, ↓aw_block, ↓aw_exit, ↓aw_ret, ↓sops_nil, ↓sops_go, ↓dops_nil, ↓dopsX_nil, ↓dopsR_nil, ↓vdn, vup, extr_20, extr_21, extr_30, extr_31, extr_32, List.map_cons, List.map_nil, cond_true, cond_false, aop, aThen, aBlock, argEnv, ev, sput, sputO, binK, binI, unK, builtinK, pickK, Nat.reduceBEq, Nat.reduceAdd, Int.reduceBEq, Int.reduceBNe, Int.reduceLT, aPost, resK, tup, tyf])
    clear hN5
    try clear N5
    by_cases hk0 : k = 0
    · subst hk0
      have hr0 : r = [] := List.length_eq_zero_iff.1 hr
      have z00 : (((0 : Nat) : Int) == 0) = true := rfl
      have hi0 : ∀ {K : Value → Prop}, idxAddrK prog 22 v (.int .i64 0) K = K (elemP v 1 0) := fun {K} => hv.idx el_22 esz_3 (k := .i64) (i := 0) (by omega) K
      have hdz : ((d : Int) == 0) = (d == 0) := by rw [Bool.eq_iff_iff, beq_iff_eq, beq_iff_eq]; omega
      refine aws_cut fun N6 hN6 => ?_
      simp (maxSteps := 2000000) only [s55, ↓aw_region, ↓aw_skip, ↓aw_seq, ↓aw_block, ↓aw_exit, ↓aw_ret, ↓sops_nil, ↓sops_go, ↓dops_nil, ↓dopsX_nil, ↓dopsR_nil, ↓vdn, vup, extr_20, extr_21, extr_30, extr_31, extr_32, List.map_cons, List.map_nil, cond_true, cond_false, aop, aThen, aBlock, argEnv, ev, sput, sputO, binK, binI, unK, builtinK, pickK, Nat.reduceBEq, Nat.reduceAdd, Int.reduceBEq, Int.reduceBNe, Int.reduceLT, aPost, resK, tup, tyf, z00, ↓hi0, ↓hv.load shp_3 (show 0 < (iL (r ++ [d])).length by omega), hgd, hdz]
      exact ⟨Ext.refl _ _, by rw [if_pos hr0]⟩
    · have hrne : r ≠ [] := fun e => hk0 (by rw [← hr, e]; rfl)
      have kz : (((k : Nat) : Int) == 0) = false := by
        cases hh : (((k : Nat) : Int) == 0) with
        | false => rfl
        | true => have := beq_iff_eq.1 hh; omega
      have hkL : k < (iL (r ++ [d])).length := by omega
      refine aws_cut fun N7 hN7 => ?_
      simp (maxSteps := 2000000) only [s55, ↓aw_region, ↓aw_skip, ↓aw_seq, ↓aw_block, ↓aw_exit, ↓aw_ret, ↓sops_nil, ↓sops_go, ↓dops_nil, ↓dopsX_nil, ↓dopsR_nil, ↓vdn, vup, extr_20, extr_21, extr_30, extr_31, extr_32, List.map_cons, List.map_nil, cond_true, cond_false, aop, aThen, aBlock, argEnv, ev, sput, sputO, binK, binI, unK, builtinK, pickK, Nat.reduceBEq, Nat.reduceAdd, Int.reduceBEq, Int.reduceBNe, Int.reduceLT, aPost, resK, tup, tyf, kz]
      refine hN7 [(0, v), (2, .bool false), (3, vint k)] _ _ ?_ (by simp (maxSteps := 2000000) only [↓aw_region, ↓aw_skip, ↓aw_seq, ↓aw_block, ↓aw_exit, ↓aw_ret, ↓sops_nil, ↓sops_go, ↓dops_nil, ↓dopsX_nil, ↓dopsR_nil, ↓vdn, vup, extr_20, extr_21, extr_30, extr_31, extr_32, List.map_cons, List.map_nil, cond_true, cond_false, aop, aThen, aBlock, argEnv, ev, sput, sputO, binK, binI, unK, builtinK, pickK, Nat.reduceBEq, Nat.reduceAdd, Int.reduceBEq, Int.reduceBNe, Int.reduceLT, aPost, resK, tup, tyf])
      clear hN7
      try clear N7
      by_cases hdk : ((k : Nat) : Int) < ((d : Nat) : Int)
      · refine aws_cut fun N8 hN8 => ?_
        simp (maxSteps := 2000000) only [s55, ↓aw_region, ↓aw_skip, ↓aw_seq, ↓aw_block, ↓aw_exit, ↓aw_ret, ↓sops_nil, ↓sops_go, ↓dops_nil, ↓dopsX_nil, ↓dopsR_nil, ↓vdn, vup, extr_20, extr_21, extr_30, extr_31, extr_32, List.map_cons, List.map_nil, cond_true, cond_false, aop, aThen, aBlock, argEnv, ev, sput, sputO, binK, binI, unK, builtinK, pickK, Nat.reduceBEq, Nat.reduceAdd, Int.reduceBEq, Int.reduceBNe, Int.reduceLT, aPost, resK, tup, tyf, ↓hv.idx el_22 esz_3 hkL, ↓hv.load shp_3 hkL, hgd, gt_iff_lt, hdk]
        refine ⟨Ext.refl _ _, ?_⟩
        rw [if_neg hrne, red, if_neg (by omega)]
      · refine aws_cut fun N9 hN9 => ?_
        simp (maxSteps := 2000000) only [s55, ↓aw_region, ↓aw_skip, ↓aw_seq, ↓aw_block, ↓aw_exit, ↓aw_ret, ↓sops_nil, ↓sops_go, ↓dops_nil, ↓dopsX_nil, ↓dopsR_nil, ↓vdn, vup, extr_20, extr_21, extr_30, extr_31, extr_32, List.map_cons, List.map_nil, cond_true, cond_false, aop, aThen, aBlock, argEnv, ev, sput, sputO, binK, binI, unK, builtinK, pickK, Nat.reduceBEq, Nat.reduceAdd, Int.reduceBEq, Int.reduceBNe, Int.reduceLT, aPost, resK, tup, tyf, ↓hv.idx el_22 esz_3 hkL, ↓hv.load shp_3 hkL, hgd, gt_iff_lt, hdk]
        refine hN9 [(0, v), (2, .bool false), (3, vint k)] _ _ ?_ (by simp (maxSteps := 2000000) only [↓aw_region, ↓aw_skip, ↓aw_seq, ↓aw_block, ↓aw_exit, ↓aw_ret, ↓sops_nil, ↓sops_go, ↓dops_nil, ↓dopsX_nil, ↓dopsR_nil, ↓vdn, vup, extr_20, extr_21, extr_30, extr_31, extr_32, List.map_cons, List.map_nil, cond_true, cond_false, aop, aThen, aBlock, argEnv, ev, sput, sputO, binK, binI, unK, builtinK, pickK, Nat.reduceBEq, Nat.reduceAdd, Int.reduceBEq, Int.reduceBNe, Int.reduceLT, aPost, resK, tup, tyf])
        clear hN9
        try clear N9
        have hdk' : d ≤ r.length := by omega
        refine aws_cut fun N10 hN10 => ?_
        simp (maxSteps := 2000000) only [s55, ↓aw_region, ↓aw_skip, ↓aw_seq, ↓aw_block, ↓aw_exit, ↓aw_ret, ↓sops_nil, ↓sops_go, ↓dops_nil, ↓dopsX_nil, ↓dopsR_nil, ↓vdn, vup, extr_20, extr_21, extr_30, extr_31, extr_32, List.map_cons, List.map_nil, cond_true, cond_false, aop, aThen, aBlock, argEnv, ev, sput, sputO, binK, binI, unK, builtinK, pickK, Nat.reduceBEq, Nat.reduceAdd, Int.reduceBEq, Int.reduceBNe, Int.reduceLT, aPost, resK, tup, tyf]
        refine hN10 [(0, v), (2, .bool false), (3, vint k), (4, .slice none 0 0)] _ _ ?_ (by simp (maxSteps := 2000000) only [↓aw_region, ↓aw_skip, ↓aw_seq, ↓aw_block, ↓aw_exit, ↓aw_ret, ↓sops_nil, ↓sops_go, ↓dops_nil, ↓dopsX_nil, ↓dopsR_nil, ↓vdn, vup, extr_20, extr_21, extr_30, extr_31, extr_32, List.map_cons, List.map_nil, cond_true, cond_false, aop, aThen, aBlock, argEnv, ev, sput, sputO, binK, binI, unK, builtinK, pickK, Nat.reduceBEq, Nat.reduceAdd, Int.reduceBEq, Int.reduceBNe, Int.reduceLT, aPost, resK, tup, tyf])
        clear hN10
        try clear N10
        refine aws_cut fun Z hZ => ?_
        simp (maxSteps := 2000000) only [s55, ↓aw_region, ↓aw_skip, ↓aw_seq, ↓aw_block, ↓aw_exit, ↓aw_ret, ↓sops_nil, ↓sops_go, ↓dops_nil, ↓dopsX_nil, ↓dopsR_nil, ↓vdn, vup, extr_20, extr_21, extr_30, extr_31, extr_32, List.map_cons, List.map_nil, cond_true, cond_false, aop, aThen, aBlock, argEnv, ev, sput, sputO, binK, binI, unK, builtinK, pickK, Nat.reduceBEq, Nat.reduceAdd, Int.reduceBEq, Int.reduceBNe, Int.reduceLT, aPost, resK, tup, tyf]
        refine hv.pre el_22 esz_3 (show k ≤ (iL (r ++ [d])).length by omega) fun u hu => ?_
        have hu' : IntSl h u (iL r) := by
          have e : (iL (r ++ [d])).take k = iL r := by rw [iL, iL, List.map_append, List.take_append_of_le_length (by rw [List.length_map]; omega), List.take_of_length_le (by rw [List.length_map]; omega)]
          rw [← e]; exact hu
        have hul : (iL r).length = k := by rw [iL_len, hr]
        simp (maxSteps := 2000000) only [s55, ↓aw_region, ↓aw_skip, ↓aw_seq, ↓aw_block, ↓aw_exit, ↓aw_ret, ↓sops_nil, ↓sops_go, ↓dops_nil, ↓dopsX_nil, ↓dopsR_nil, ↓vdn, vup, extr_20, extr_21, extr_30, extr_31, extr_32, List.map_cons, List.map_nil, cond_true, cond_false, aop, aThen, aBlock, argEnv, ev, sput, sputO, binK, binI, unK, builtinK, pickK, Nat.reduceBEq, Nat.reduceAdd, Int.reduceBEq, Int.reduceBNe, Int.reduceLT, aPost, resK, tup, tyf, hu'.len, hul, ↓aw_loop_eq]
        refine aws_hide fun Q hQ => ?_
        refine aw_loop (γ := Nat × Value × Heap) (fun s => s.1 ≤ k ∧ RSI h s.2.2 s.2.1 (iL (lowTo r d s.1)) ∧ ∀ j, j < s.1 → d ≤ j → 0 < r.getD j 0)
          (fun s => ([(0, v), (2, .bool false), (3, vint k), (4, s.2.1), (24, u), (25, vint k), (26, vint s.1)], s.2.2)) (fun s => k - s.1) (0, .slice none 0 0, h) ⟨Nat.zero_le _, RSI.nil h, fun j hj => by omega⟩ (by simp (maxSteps := 2000000) only [↓aw_region, ↓aw_skip, ↓aw_seq, ↓aw_block, ↓aw_exit, ↓aw_ret, ↓sops_nil, ↓sops_go, ↓dops_nil, ↓dopsX_nil, ↓dopsR_nil, ↓vdn, vup, extr_20, extr_21, extr_30, extr_31, extr_32, List.map_cons, List.map_nil, cond_true, cond_false, aop, aThen, aBlock, argEnv, ev, sput, sputO, binK, binI, unK, builtinK, pickK, Nat.reduceBEq, Nat.reduceAdd, Int.reduceBEq, Int.reduceBNe, Int.reduceLT, aPost, resK, tup, tyf, Int.natCast_zero]) rfl ?_
        rintro ⟨j, w0, hp⟩ ⟨hj, hs, hpos⟩
        simp only at hj hs hpos
        refine aw_hide fun Q2 hQ2 => ?_
        have hvp := IntSl_ext hv hs.2.1
        have hup := IntSl_ext hu' hs.2.1
        by_cases hjn : (j : Int) < k
        · have hj' : j < k := by omega
          have hjL : j < (iL r).length := by omega
          have hg : (iL r).getD j 0 = ((r.getD j 0 : Nat) : Int) := iL_get _ _
          have hlow : (lowTo r d j).length < 1099511627776 := by simp [lowTo]; omega
          have hlen2 : (iL (lowTo r d j)).length < 1099511627776 := by rw [iL_len]; exact hlow
          have hx64 : r.getD j 0 ≤ 64 := hle _ (by rw [List.getD, List.getElem?_eq_getElem (by omega)]; exact List.mem_append.2 (.inl (List.getElem_mem _)))
          have hsn : iL (lowTo r d (j + 1)) = iL (lowTo r d j) ++ [(((if d ≤ j then r.getD j 0 - 1 else r.getD j 0 : Nat)) : Int)] := by rw [lowTo_succ, iL, List.map_append]; rfl
          by_cases hdj : ((d : Nat) : Int) ≤ ((j : Nat) : Int)
          · rw [if_pos (by omega)] at hsn
            by_cases hz : r.getD j 0 = 0
            · have hs1 : subV .i64 ((r.getD j 0 : Nat) : Int) 1 = -1 := by rw [hz]; rfl
              have hneg : ((-1 : Int) < 0) := by decide
              simp (maxSteps := 2000000) only [s55, ↓aw_region, ↓aw_skip, ↓aw_seq, ↓aw_block, ↓aw_exit, ↓aw_ret, ↓sops_nil, ↓sops_go, ↓dops_nil, ↓dopsX_nil, ↓dopsR_nil, ↓vdn, vup, extr_20, extr_21, extr_30, extr_31, extr_32, List.map_cons, List.map_nil, cond_true, cond_false, aop, aThen, aBlock, argEnv, ev, sput, sputO, binK, binI, unK, builtinK, pickK, Nat.reduceBEq, Nat.reduceAdd, Int.reduceBEq, Int.reduceBNe, Int.reduceLT, aPost, resK, tup, tyf, l55_0, hjn, hup.idx el_22 esz_3 hjL, hup.load shp_3 hjL, hg, hvp.idx el_22 esz_3 hkL, hvp.load shp_3 hkL, hgd, ge_iff_le, hdj, hs1, hneg]
              refine hQ2 _ _ _ (hQ _ _ _ ?_)
              simp (maxSteps := 2000000) only [s55, ↓aw_region, ↓aw_skip, ↓aw_seq, ↓aw_block, ↓aw_exit, ↓aw_ret, ↓sops_nil, ↓sops_go, ↓dops_nil, ↓dopsX_nil, ↓dopsR_nil, ↓vdn, vup, extr_20, extr_21, extr_30, extr_31, extr_32, List.map_cons, List.map_nil, cond_true, cond_false, aop, aThen, aBlock, argEnv, ev, sput, sputO, binK, binI, unK, builtinK, pickK, Nat.reduceBEq, Nat.reduceAdd, Int.reduceBEq, Int.reduceBNe, Int.reduceLT, aPost, resK, tup, tyf]
              refine ⟨hs.2.1, ?_⟩
              rw [if_neg hrne, red_none (by omega) (by omega) hz]
            · have hs1 : subV .i64 ((r.getD j 0 : Nat) : Int) 1 = ((r.getD j 0 - 1 : Nat) : Int) := by rw [subV_id (by omega) (by omega)]; omega
              have hneg : ¬ (((r.getD j 0 - 1 : Nat) : Int) < 0) := by omega
              simp (maxSteps := 2000000) only [s55, ↓aw_region, ↓aw_skip, ↓aw_seq, ↓aw_block, ↓aw_exit, ↓aw_ret, ↓sops_nil, ↓sops_go, ↓dops_nil, ↓dopsX_nil, ↓dopsR_nil, ↓vdn, vup, extr_20, extr_21, extr_30, extr_31, extr_32, List.map_cons, List.map_nil, cond_true, cond_false, aop, aThen, aBlock, argEnv, ev, sput, sputO, binK, binI, unK, builtinK, pickK, Nat.reduceBEq, Nat.reduceAdd, Int.reduceBEq, Int.reduceBNe, Int.reduceLT, aPost, resK, tup, tyf, l55_0, hjn, hup.idx el_22 esz_3 hjL, hup.load shp_3 hjL, hg, hvp.idx el_22 esz_3 hkL, hvp.load shp_3 hkL, hgd, ge_iff_le, hdj, hs1, hneg, litI1]
              refine hs.push hlen2 fun v' h' s' => ?_
              simp (maxSteps := 2000000) only [s55, ↓aw_region, ↓aw_skip, ↓aw_seq, ↓aw_block, ↓aw_exit, ↓aw_ret, ↓sops_nil, ↓sops_go, ↓dops_nil, ↓dopsX_nil, ↓dopsR_nil, ↓vdn, vup, extr_20, extr_21, extr_30, extr_31, extr_32, List.map_cons, List.map_nil, cond_true, cond_false, aop, aThen, aBlock, argEnv, ev, sput, sputO, binK, binI, unK, builtinK, pickK, Nat.reduceBEq, Nat.reduceAdd, Int.reduceBEq, Int.reduceBNe, Int.reduceLT, aPost, resK, tup, tyf, add1 (show j < 9223372036854775807 by omega)]
              refine hQ2 _ _ _ ⟨(j + 1, v', h'), ⟨by simp only; omega, by rw [hsn]; exact s', fun i hi hdi => ?_⟩, by simp only; omega, by simp (maxSteps := 2000000) only [↓aw_region, ↓aw_skip, ↓aw_seq, ↓aw_block, ↓aw_exit, ↓aw_ret, ↓sops_nil, ↓sops_go, ↓dops_nil, ↓dopsX_nil, ↓dopsR_nil, ↓vdn, vup, extr_20, extr_21, extr_30, extr_31, extr_32, List.map_cons, List.map_nil, cond_true, cond_false, aop, aThen, aBlock, argEnv, ev, sput, sputO, binK, binI, unK, builtinK, pickK, Nat.reduceBEq, Nat.reduceAdd, Int.reduceBEq, Int.reduceBNe, Int.reduceLT, aPost, resK, tup, tyf], rfl⟩
              by_cases hij : i = j
              · rw [hij]; omega
              · exact hpos i (by simp only at hi; omega) hdi
          · rw [if_neg (by omega)] at hsn
            have hneg : ¬ (((r.getD j 0 : Nat) : Int) < 0) := by omega
            simp (maxSteps := 2000000) only [s55, ↓aw_region, ↓aw_skip, ↓aw_seq, ↓aw_block, ↓aw_exit, ↓aw_ret, ↓sops_nil, ↓sops_go, ↓dops_nil, ↓dopsX_nil, ↓dopsR_nil, ↓vdn, vup, extr_20, extr_21, extr_30, extr_31, extr_32, List.map_cons, List.map_nil, cond_true, cond_false, aop, aThen, aBlock, argEnv, ev, sput, sputO, binK, binI, unK, builtinK, pickK, Nat.reduceBEq, Nat.reduceAdd, Int.reduceBEq, Int.reduceBNe, Int.reduceLT, aPost, resK, tup, tyf, l55_0, hjn, hup.idx el_22 esz_3 hjL, hup.load shp_3 hjL, hg, hvp.idx el_22 esz_3 hkL, hvp.load shp_3 hkL, hgd, ge_iff_le, hdj, hneg, litI1]
            refine hs.push hlen2 fun v' h' s' => ?_
            simp (maxSteps := 2000000) only [s55, ↓aw_region, ↓aw_skip, ↓aw_seq, ↓aw_block, ↓aw_exit, ↓aw_ret, ↓sops_nil, ↓sops_go, ↓dops_nil, ↓dopsX_nil, ↓dopsR_nil, ↓vdn, vup, extr_20, extr_21, extr_30, extr_31, extr_32, List.map_cons, List.map_nil, cond_true, cond_false, aop, aThen, aBlock, argEnv, ev, sput, sputO, binK, binI, unK, builtinK, pickK, Nat.reduceBEq, Nat.reduceAdd, Int.reduceBEq, Int.reduceBNe, Int.reduceLT, aPost, resK, tup, tyf, add1 (show j < 9223372036854775807 by omega)]
            refine hQ2 _ _ _ ⟨(j + 1, v', h'), ⟨by simp only; omega, by rw [hsn]; exact s', fun i hi hdi => ?_⟩, by simp only; omega, by simp (maxSteps := 2000000) only [↓aw_region, ↓aw_skip, ↓aw_seq, ↓aw_block, ↓aw_exit, ↓aw_ret, ↓sops_nil, ↓sops_go, ↓dops_nil, ↓dopsX_nil, ↓dopsR_nil, ↓vdn, vup, extr_20, extr_21, extr_30, extr_31, extr_32, List.map_cons, List.map_nil, cond_true, cond_false, aop, aThen, aBlock, argEnv, ev, sput, sputO, binK, binI, unK, builtinK, pickK, Nat.reduceBEq, Nat.reduceAdd, Int.reduceBEq, Int.reduceBNe, Int.reduceLT, aPost, resK, tup, tyf], rfl⟩
            by_cases hij : i = j
            · omega
            · exact hpos i (by simp only at hi; omega) hdi
        · obtain rfl : j = k := by omega
          simp (maxSteps := 2000000) only [s55, ↓aw_region, ↓aw_skip, ↓aw_seq, ↓aw_block, ↓aw_exit, ↓aw_ret, ↓sops_nil, ↓sops_go, ↓dops_nil, ↓dopsX_nil, ↓dopsR_nil, ↓vdn, vup, extr_20, extr_21, extr_30, extr_31, extr_32, List.map_cons, List.map_nil, cond_true, cond_false, aop, aThen, aBlock, argEnv, ev, sput, sputO, binK, binI, unK, builtinK, pickK, Nat.reduceBEq, Nat.reduceAdd, Int.reduceBEq, Int.reduceBNe, Int.reduceLT, aPost, resK, tup, tyf, l55_0, Int.lt_irrefl]
          refine hQ2 _ _ _ (hQ _ _ _ ?_)
          simp (maxSteps := 2000000) only [s55, ↓aw_region, ↓aw_skip, ↓aw_seq, ↓aw_block, ↓aw_exit, ↓aw_ret, ↓sops_nil, ↓sops_go, ↓dops_nil, ↓dopsX_nil, ↓dopsR_nil, ↓vdn, vup, extr_20, extr_21, extr_30, extr_31, extr_32, List.map_cons, List.map_nil, cond_true, cond_false, aop, aThen, aBlock, argEnv, ev, sput, sputO, binK, binI, unK, builtinK, pickK, Nat.reduceBEq, Nat.reduceAdd, Int.reduceBEq, Int.reduceBNe, Int.reduceLT, aPost, resK, tup, tyf, if_true]
          refine hZ [(0, v), (2, .bool false), (3, vint j), (4, w0)] _ _ ?_ (by simp (maxSteps := 2000000) only [↓aw_region, ↓aw_skip, ↓aw_seq, ↓aw_block, ↓aw_exit, ↓aw_ret, ↓sops_nil, ↓sops_go, ↓dops_nil, ↓dopsX_nil, ↓dopsR_nil, ↓vdn, vup, extr_20, extr_21, extr_30, extr_31, extr_32, List.map_cons, List.map_nil, cond_true, cond_false, aop, aThen, aBlock, argEnv, ev, sput, sputO, binK, binI, unK, builtinK, pickK, Nat.reduceBEq, Nat.reduceAdd, Int.reduceBEq, Int.reduceBNe, Int.reduceLT, aPost, resK, tup, tyf])
          clear hZ
          try clear Z
          have hred : red r d = some (rising (lowTo r d r.length)) := by
            rw [red, if_pos, lowTo_all hdk']
            refine ⟨hdk', List.all_eq_true.2 fun x hx => ?_⟩
            obtain ⟨i, hi, rfl⟩ := List.mem_iff_getElem.1 hx
            rw [List.length_drop] at hi
            have := hpos (d + i) (by omega) (by omega)
            rw [List.getD, List.getElem?_eq_getElem (by omega), Option.getD_some] at this
            rw [List.getElem_drop]; exact decide_eq_true this
          rw [if_neg hrne, hred]
          have hll : (lowTo r d r.length).length = r.length := by simp [lowTo]
          rw [← hr] at hs
          obtain ⟨hown, hE, _⟩ := hs
          refine aws_cut fun N11 hN11 => ?_
          simp (maxSteps := 2000000) only [s55, ↓aw_region, ↓aw_skip, ↓aw_seq, ↓aw_block, ↓aw_exit, ↓aw_ret, ↓sops_nil, ↓sops_go, ↓dops_nil, ↓dopsX_nil, ↓dopsR_nil, ↓vdn, vup, extr_20, extr_21, extr_30, extr_31, extr_32, List.map_cons, List.map_nil, cond_true, cond_false, aop, aThen, aBlock, argEnv, ev, sput, sputO, binK, binI, unK, builtinK, pickK, Nat.reduceBEq, Nat.reduceAdd, Int.reduceBEq, Int.reduceBNe, Int.reduceLT, aPost, resK, tup, tyf, callK, List.nil_append, List.append_nil, List.toList_toArray, List.cons_append]
          refine (hR hp w0 (lowTo r d r.length) hown.int (by omega)).mono ?_
          rintro r1 h' ⟨hE2, hr1⟩
          refine (possible_call hR j hr1 (by rw [rising_len]; omega) (by omega) (by omega) (fun x hx => ?_)).mono ?_
          · exact red_le hred (m := 64) (fun y hy => hle y (by simp [hy])) x hx
          rintro _ h2 ⟨hE3, rfl⟩
          refine hN11 [(0, v), (2, .bool (poss j (rising (lowTo r d r.length)))), (3, vint j), (4, w0)] _ _ ?_ (by simp (maxSteps := 2000000) only [↓aw_region, ↓aw_skip, ↓aw_seq, ↓aw_block, ↓aw_exit, ↓aw_ret, ↓sops_nil, ↓sops_go, ↓dops_nil, ↓dopsX_nil, ↓dopsR_nil, ↓vdn, vup, extr_20, extr_21, extr_30, extr_31, extr_32, List.map_cons, List.map_nil, cond_true, cond_false, aop, aThen, aBlock, argEnv, ev, sput, sputO, binK, binI, unK, builtinK, pickK, Nat.reduceBEq, Nat.reduceAdd, Int.reduceBEq, Int.reduceBNe, Int.reduceLT, aPost, resK, tup, tyf])
          clear hN11
          try clear N11
          refine aw_aws ?_
          simp (maxSteps := 2000000) only [s55, ↓aw_region, ↓aw_skip, ↓aw_seq, ↓aw_block, ↓aw_exit, ↓aw_ret, ↓sops_nil, ↓sops_go, ↓dops_nil, ↓dopsX_nil, ↓dopsR_nil, ↓vdn, vup, extr_20, extr_21, extr_30, extr_31, extr_32, List.map_cons, List.map_nil, cond_true, cond_false, aop, aThen, aBlock, argEnv, ev, sput, sputO, binK, binI, unK, builtinK, pickK, Nat.reduceBEq, Nat.reduceAdd, Int.reduceBEq, Int.reduceBNe, Int.reduceLT, aPost, resK, tup, tyf]
          exact (hE.trans hE2).trans hE3
end Go.Proofs.Tryd.Am

namespace Go.Proofs.Tryd.Am
open Go.Am Rb
set_option maxRecDepth 100000
set_option maxHeartbeats 1000000

theorem srt_nl {xs : List Int} (h : srt xs = true) : (nl xs).Pairwise (· ≤ ·) :=
  List.pairwise_map.2 ((srt_pw h).imp fun h => by omega)
theorem makeR_no {h' : Heap} {xs : List Int} (h : isS xs = false) : makeR h' xs (.tuple #[.slice none 0 0, .int .i64 2]) := by
  rw [makeR, h, if_neg (by decide)]
theorem make_chk [Tabs prog] {h : Heap} {v : Value} {xs : List Int} (hv : IntSl h v xs) (hl : xs.length < 9223372036854775808) {Q : Exit → Env → Heap → Prop}
    (hbad : isS xs = false → ∀ e, ELe e [(2, .slice none 0 0), (3, .int .i64 2)] → Q .ret e h) (hok : isS xs = true → ∀ e, ELe e [(0, v)] → Q .normal e h) :
    aw prog 126 (.seq q52_1 (.cond (.tmp 38) (.seq q52_2 .ret) .skip)) Q [(0, v), (2, .slice none 0 0), (3, .int .i64 0)] h := by
  by_cases h1 : (xs.length : Int) < 1
  · have hno : isS xs = false := by
      cases hS : isS xs with
      | false => rfl
      | true => have := isS_iff.1 hS; omega
    simp (maxSteps := 2000000) only [s52, ↓aw_region, ↓aw_skip, ↓aw_seq, ↓aw_block, ↓aw_exit, ↓aw_ret, ↓sops_nil, ↓sops_go, ↓dops_nil, ↓dopsX_nil, ↓dopsR_nil, ↓vdn, vup, extr_20, extr_21, extr_30, extr_31, extr_32, List.map_cons, List.map_nil, cond_true, cond_false, aop, aThen, aBlock, argEnv, ev, sput, sputO, binK, binI, unK, builtinK, pickK, Nat.reduceBEq, Nat.reduceAdd, Int.reduceBEq, Int.reduceBNe, Int.reduceLT, aPost, resK, tup, tyf, hv.len, h1]
    exact hbad hno _ (by simp (maxSteps := 2000000) only [↓aw_region, ↓aw_skip, ↓aw_seq, ↓aw_block, ↓aw_exit, ↓aw_ret, ↓sops_nil, ↓sops_go, ↓dops_nil, ↓dopsX_nil, ↓dopsR_nil, ↓vdn, vup, extr_20, extr_21, extr_30, extr_31, extr_32, List.map_cons, List.map_nil, cond_true, cond_false, aop, aThen, aBlock, argEnv, ev, sput, sputO, binK, binI, unK, builtinK, pickK, Nat.reduceBEq, Nat.reduceAdd, Int.reduceBEq, Int.reduceBNe, Int.reduceLT, aPost, resK, tup, tyf])
  by_cases h8 : (8 : Int) < (xs.length : Int)
  · have hno : isS xs = false := by
      cases hS : isS xs with
      | false => rfl
      | true => have := isS_iff.1 hS; omega
    simp (maxSteps := 2000000) only [s52, ↓aw_region, ↓aw_skip, ↓aw_seq, ↓aw_block, ↓aw_exit, ↓aw_ret, ↓sops_nil, ↓sops_go, ↓dops_nil, ↓dopsX_nil, ↓dopsR_nil, ↓vdn, vup, extr_20, extr_21, extr_30, extr_31, extr_32, List.map_cons, List.map_nil, cond_true, cond_false, aop, aThen, aBlock, argEnv, ev, sput, sputO, binK, binI, unK, builtinK, pickK, Nat.reduceBEq, Nat.reduceAdd, Int.reduceBEq, Int.reduceBNe, Int.reduceLT, aPost, resK, tup, tyf, hv.len, h1, gt_iff_lt, h8]
    exact hbad hno _ (by simp (maxSteps := 2000000) only [↓aw_region, ↓aw_skip, ↓aw_seq, ↓aw_block, ↓aw_exit, ↓aw_ret, ↓sops_nil, ↓sops_go, ↓dops_nil, ↓dopsX_nil, ↓dopsR_nil, ↓vdn, vup, extr_20, extr_21, extr_30, extr_31, extr_32, List.map_cons, List.map_nil, cond_true, cond_false, aop, aThen, aBlock, argEnv, ev, sput, sputO, binK, binI, unK, builtinK, pickK, Nat.reduceBEq, Nat.reduceAdd, Int.reduceBEq, Int.reduceBNe, Int.reduceLT, aPost, resK, tup, tyf])
  have hl1 : 1 ≤ xs.length := by omega
  have hl8 : xs.length ≤ 8 := by omega
  have hi0 : 0 < xs.length := by omega
  have hi9 : xs.length - 1 < xs.length := by omega
  have e1 : subV .i64 (xs.length : Int) 1 = ((xs.length - 1 : Nat) : Int) := by rw [subV_id (by omega) (by omega)]; omega
  have hix0 : ∀ {K : Value → Prop}, idxAddrK prog 22 v (.int .i64 0) K = K (elemP v 1 0) := fun {K} => hv.idx (i := 0) el_22 esz_3 hi0 K
  simp (maxSteps := 2000000) only [s52, ↓aw_region, ↓aw_skip, ↓aw_seq, ↓aw_block, ↓aw_exit, ↓aw_ret, ↓sops_nil, ↓sops_go, ↓dops_nil, ↓dopsX_nil, ↓dopsR_nil, ↓vdn, vup, extr_20, extr_21, extr_30, extr_31, extr_32, List.map_cons, List.map_nil, cond_true, cond_false, aop, aThen, aBlock, argEnv, ev, sput, sputO, binK, binI, unK, builtinK, pickK, Nat.reduceBEq, Nat.reduceAdd, Int.reduceBEq, Int.reduceBNe, Int.reduceLT, aPost, resK, tup, tyf, callK, List.nil_append, List.append_nil, List.toList_toArray, List.cons_append, hv.len, h1, gt_iff_lt, h8]
  refine (issorted_call hv hl).mono ?_
  rintro _ h ⟨rfl, rfl⟩
  cases hs : srt xs with
  | false =>
    have hno : isS xs = false := by
      cases hS : isS xs with
      | false => rfl
      | true => have := (isS_iff.1 hS).2.2.1; rw [hs] at this; cases this
    simp (maxSteps := 2000000) only [s52, ↓aw_region, ↓aw_skip, ↓aw_seq, ↓aw_block, ↓aw_exit, ↓aw_ret, ↓sops_nil, ↓sops_go, ↓dops_nil, ↓dopsX_nil, ↓dopsR_nil, ↓vdn, vup, extr_20, extr_21, extr_30, extr_31, extr_32, List.map_cons, List.map_nil, cond_true, cond_false, aop, aThen, aBlock, argEnv, ev, sput, sputO, binK, binI, unK, builtinK, pickK, Nat.reduceBEq, Nat.reduceAdd, Int.reduceBEq, Int.reduceBNe, Int.reduceLT, aPost, resK, tup, tyf, Bool.not_false]
    exact hbad hno _ (by simp (maxSteps := 2000000) only [↓aw_region, ↓aw_skip, ↓aw_seq, ↓aw_block, ↓aw_exit, ↓aw_ret, ↓sops_nil, ↓sops_go, ↓dops_nil, ↓dopsX_nil, ↓dopsR_nil, ↓vdn, vup, extr_20, extr_21, extr_30, extr_31, extr_32, List.map_cons, List.map_nil, cond_true, cond_false, aop, aThen, aBlock, argEnv, ev, sput, sputO, binK, binI, unK, builtinK, pickK, Nat.reduceBEq, Nat.reduceAdd, Int.reduceBEq, Int.reduceBNe, Int.reduceLT, aPost, resK, tup, tyf])
  | true =>
  have hends := isS_ends hl1 hl8 hs
  by_cases hneg : xs.getD 0 0 < 0
  · have hno : isS xs = false := by
      cases hS : isS xs with
      | false => rfl
      | true => have := (hends.1 hS).1; omega
    simp (maxSteps := 2000000) only [s52, ↓aw_region, ↓aw_skip, ↓aw_seq, ↓aw_block, ↓aw_exit, ↓aw_ret, ↓sops_nil, ↓sops_go, ↓dops_nil, ↓dopsX_nil, ↓dopsR_nil, ↓vdn, vup, extr_20, extr_21, extr_30, extr_31, extr_32, List.map_cons, List.map_nil, cond_true, cond_false, aop, aThen, aBlock, argEnv, ev, sput, sputO, binK, binI, unK, builtinK, pickK, Nat.reduceBEq, Nat.reduceAdd, Int.reduceBEq, Int.reduceBNe, Int.reduceLT, aPost, resK, tup, tyf, Bool.not_true, hix0, hv.load shp_3 hi0, hneg]
    exact hbad hno _ (by simp (maxSteps := 2000000) only [↓aw_region, ↓aw_skip, ↓aw_seq, ↓aw_block, ↓aw_exit, ↓aw_ret, ↓sops_nil, ↓sops_go, ↓dops_nil, ↓dopsX_nil, ↓dopsR_nil, ↓vdn, vup, extr_20, extr_21, extr_30, extr_31, extr_32, List.map_cons, List.map_nil, cond_true, cond_false, aop, aThen, aBlock, argEnv, ev, sput, sputO, binK, binI, unK, builtinK, pickK, Nat.reduceBEq, Nat.reduceAdd, Int.reduceBEq, Int.reduceBNe, Int.reduceLT, aPost, resK, tup, tyf])
  by_cases hbig : (7 : Int) < xs.getD (xs.length - 1) 0
  · have hno : isS xs = false := by
      cases hS : isS xs with
      | false => rfl
      | true => have := (hends.1 hS).2; omega
    simp (maxSteps := 2000000) only [s52, ↓aw_region, ↓aw_skip, ↓aw_seq, ↓aw_block, ↓aw_exit, ↓aw_ret, ↓sops_nil, ↓sops_go, ↓dops_nil, ↓dopsX_nil, ↓dopsR_nil, ↓vdn, vup, extr_20, extr_21, extr_30, extr_31, extr_32, List.map_cons, List.map_nil, cond_true, cond_false, aop, aThen, aBlock, argEnv, ev, sput, sputO, binK, binI, unK, builtinK, pickK, Nat.reduceBEq, Nat.reduceAdd, Int.reduceBEq, Int.reduceBNe, Int.reduceLT, aPost, resK, tup, tyf, Bool.not_true, hix0, hv.load shp_3 hi0, hneg, hv.len, e1, hv.idx el_22 esz_3 hi9, hv.load shp_3 hi9, gt_iff_lt, hbig]
    exact hbad hno _ (by simp (maxSteps := 2000000) only [↓aw_region, ↓aw_skip, ↓aw_seq, ↓aw_block, ↓aw_exit, ↓aw_ret, ↓sops_nil, ↓sops_go, ↓dops_nil, ↓dopsX_nil, ↓dopsR_nil, ↓vdn, vup, extr_20, extr_21, extr_30, extr_31, extr_32, List.map_cons, List.map_nil, cond_true, cond_false, aop, aThen, aBlock, argEnv, ev, sput, sputO, binK, binI, unK, builtinK, pickK, Nat.reduceBEq, Nat.reduceAdd, Int.reduceBEq, Int.reduceBNe, Int.reduceLT, aPost, resK, tup, tyf])
  have hS : isS xs = true := hends.2 ⟨by omega, by omega⟩
  simp (maxSteps := 2000000) only [s52, ↓aw_region, ↓aw_skip, ↓aw_seq, ↓aw_block, ↓aw_exit, ↓aw_ret, ↓sops_nil, ↓sops_go, ↓dops_nil, ↓dopsX_nil, ↓dopsR_nil, ↓vdn, vup, extr_20, extr_21, extr_30, extr_31, extr_32, List.map_cons, List.map_nil, cond_true, cond_false, aop, aThen, aBlock, argEnv, ev, sput, sputO, binK, binI, unK, builtinK, pickK, Nat.reduceBEq, Nat.reduceAdd, Int.reduceBEq, Int.reduceBNe, Int.reduceLT, aPost, resK, tup, tyf, Bool.not_true, hix0, hv.load shp_3 hi0, hneg, hv.len, e1, hv.idx el_22 esz_3 hi9, hv.load shp_3 hi9, gt_iff_lt, hbig]
  exact hok hS _ (by simp (maxSteps := 2000000) only [↓aw_region, ↓aw_skip, ↓aw_seq, ↓aw_block, ↓aw_exit, ↓aw_ret, ↓sops_nil, ↓sops_go, ↓dops_nil, ↓dopsX_nil, ↓dopsR_nil, ↓vdn, vup, extr_20, extr_21, extr_30, extr_31, extr_32, List.map_cons, List.map_nil, cond_true, cond_false, aop, aThen, aBlock, argEnv, ev, sput, sputO, binK, binI, unK, builtinK, pickK, Nat.reduceBEq, Nat.reduceAdd, Int.reduceBEq, Int.reduceBNe, Int.reduceLT, aPost, resK, tup, tyf])
end Go.Proofs.Tryd.Am

namespace Go.Proofs.Tryd.Am
open Go.Am Rb
set_option maxRecDepth 100000
set_option maxHeartbeats 1000000

theorem make_call [Tabs prog] {h : Heap} {v : Value} {xs : List Int} (hv : IntSl h v xs) (hl : xs.length < 9223372036854775808) (hx : ∀ x ∈ xs, -9223372036854775808 ≤ x ∧ x < 9223372036854775808) :
    ACall prog 52 [v] h fun r h' => Ext (fun _ => False) h h' ∧ makeR h' xs r := by
  refine s52_callW (by simp) ?_
  simp only [s52]
  refine aws_cut fun N1 hN1 => ?_
  simp (maxSteps := 2000000) only [s52, ↓aw_region, ↓aw_skip, ↓aw_seq, ↓aw_block, ↓aw_exit, ↓aw_ret, ↓sops_nil, ↓sops_go, ↓dops_nil, ↓dopsX_nil, ↓dopsR_nil, ↓vdn, vup, extr_20, extr_21, extr_30, extr_31, extr_32, List.map_cons, List.map_nil, cond_true, cond_false, aop, aThen, aBlock, argEnv, ev, sput, sputO, binK, binI, unK, builtinK, pickK, Nat.reduceBEq, Nat.reduceAdd, Int.reduceBEq, Int.reduceBNe, Int.reduceLT, aPost, resK, tup, tyf]
  refine hN1 [(0, v), (2, .slice none 0 0), (3, .int .i64 0)] _ _ ?_ (by simp (maxSteps := 2000000) only [↓aw_region, ↓aw_skip, ↓aw_seq, ↓aw_block, ↓aw_exit, ↓aw_ret, ↓sops_nil, ↓sops_go, ↓dops_nil, ↓dopsX_nil, ↓dopsR_nil, ↓vdn, vup, extr_20, extr_21, extr_30, extr_31, extr_32, List.map_cons, List.map_nil, cond_true, cond_false, aop, aThen, aBlock, argEnv, ev, sput, sputO, binK, binI, unK, builtinK, pickK, Nat.reduceBEq, Nat.reduceAdd, Int.reduceBEq, Int.reduceBNe, Int.reduceLT, aPost, resK, tup, tyf])
  clear hN1
  try clear N1
  refine aws_cut fun N2 hN2 => ?_
  refine make_chk hv hl (fun hno e he => ?_) (fun hS e he => ?_)
  · have h2 : sget e 2 = .slice none 0 0 := he (2, .slice none 0 0) (by simp)
    have h3 : sget e 3 = .int .i64 2 := he (3, .int .i64 2) (by simp)
    simp (maxSteps := 2000000) only [s52, ↓aw_region, ↓aw_skip, ↓aw_seq, ↓aw_block, ↓aw_exit, ↓aw_ret, ↓sops_nil, ↓sops_go, ↓dops_nil, ↓dopsX_nil, ↓dopsR_nil, ↓vdn, vup, extr_20, extr_21, extr_30, extr_31, extr_32, List.map_cons, List.map_nil, cond_true, cond_false, aop, aThen, aBlock, argEnv, ev, sput, sputO, binK, binI, unK, builtinK, pickK, Nat.reduceBEq, Nat.reduceAdd, Int.reduceBEq, Int.reduceBNe, Int.reduceLT, aPost, resK, tup, tyf, h2, h3]
    exact ⟨Ext.refl _ _, makeR_no hno⟩
  refine hN2 [(0, v)] _ _ ?_ he
  have hSx := isS_iff.1 hS
  have hs := hSx.2.2.1
  have hl1 := hSx.1
  have hl8 := hSx.2.1
  have hne : xs ≠ [] := by rintro rfl; simp at hl1
  refine aws_cut fun N3 hN3 => ?_
  simp (maxSteps := 2000000) only [s52, ↓aw_region, ↓aw_skip, ↓aw_seq, ↓aw_block, ↓aw_exit, ↓aw_ret, ↓sops_nil, ↓sops_go, ↓dops_nil, ↓dopsX_nil, ↓dopsR_nil, ↓vdn, vup, extr_20, extr_21, extr_30, extr_31, extr_32, List.map_cons, List.map_nil, cond_true, cond_false, aop, aThen, aBlock, argEnv, ev, sput, sputO, binK, binI, unK, builtinK, pickK, Nat.reduceBEq, Nat.reduceAdd, Int.reduceBEq, Int.reduceBNe, Int.reduceLT, aPost, resK, tup, tyf, callK, List.nil_append, List.append_nil, List.toList_toArray, List.cons_append]
  refine (clone_fresh hv hne (by omega)).mono ?_
  rintro _ g1 ⟨bn, rfl, hbn, hbl, hE1⟩
  have c0 := get_new g1 (Blk.cells [.slice none 0 0] 22 false)
  simp (maxSteps := 2000000) only [s52, ↓aw_region, ↓aw_skip, ↓aw_seq, ↓aw_block, ↓aw_exit, ↓aw_ret, ↓sops_nil, ↓sops_go, ↓dops_nil, ↓dopsX_nil, ↓dopsR_nil, ↓vdn, vup, extr_20, extr_21, extr_30, extr_31, extr_32, List.map_cons, List.map_nil, cond_true, cond_false, aop, aThen, aBlock, argEnv, ev, sput, sputO, binK, binI, unK, builtinK, pickK, Nat.reduceBEq, Nat.reduceAdd, Int.reduceBEq, Int.reduceBNe, Int.reduceLT, aPost, resK, tup, tyf, allocK, newPtr, zero_22, storeC c0 shp_22 (show one (.slice (some ⟨bn, 0, some 0⟩) xs.length xs.length) = true from rfl) (show 0 < 1 by decide), List.set_cons_zero]
  have c1 : ((g1 ++ [Blk.cells [.slice none 0 0] 22 false]).set g1.length (.cells [.slice (some ⟨bn, 0, some 0⟩) xs.length xs.length] 22 false))[g1.length]? = some (.cells [.slice (some ⟨bn, 0, some 0⟩) xs.length xs.length] 22 false) := get_set (by simp) _
  have hE2 : Ext (fun _ => False) g1 ((g1 ++ [Blk.cells [.slice none 0 0] 22 false]).set g1.length (.cells [.slice (some ⟨bn, 0, some 0⟩) xs.length xs.length] 22 false)) := ⟨by simp, fun j hj _ => by rw [List.getElem?_set_ne (by omega), List.getElem?_append_left hj]⟩
  have hlen2 : ((g1 ++ [Blk.cells [.slice none 0 0] 22 false]).set g1.length (.cells [.slice (some ⟨bn, 0, some 0⟩) xs.length xs.length] 22 false)).length = g1.length + 1 := by simp
  refine hN3 [(0, v), (4, .pointer (some ⟨g1.length, 0, none⟩))] _ _ ?_ (by simp (maxSteps := 2000000) only [↓aw_region, ↓aw_skip, ↓aw_seq, ↓aw_block, ↓aw_exit, ↓aw_ret, ↓sops_nil, ↓sops_go, ↓dops_nil, ↓dopsX_nil, ↓dopsR_nil, ↓vdn, vup, extr_20, extr_21, extr_30, extr_31, extr_32, List.map_cons, List.map_nil, cond_true, cond_false, aop, aThen, aBlock, argEnv, ev, sput, sputO, binK, binI, unK, builtinK, pickK, Nat.reduceBEq, Nat.reduceAdd, Int.reduceBEq, Int.reduceBNe, Int.reduceLT, aPost, resK, tup, tyf])
  clear hN3
  try clear N3
  have hg1 : bn < g1.length := get_lt hbn
  have hgE := hE1.1
  have hbn2 := (hE2.2 _ hg1 id).trans hbn
  have hEx := hE1.trans hE2
  generalize ((g1 ++ [Blk.cells [.slice none 0 0] 22 false]).set g1.length (.cells [.slice (some ⟨bn, 0, some 0⟩) xs.length xs.length] 22 false)) = g2 at c1 hE2 hlen2 hbn2 hEx ⊢
  generalize hbx : g1.length = bx at c1 hlen2 hg1 hgE ⊢
  have hv2 := IntSl_ext hv hEx
  refine aws_cut fun N4 hN4 => ?_
  simp (maxSteps := 2000000) only [s52, ↓aw_region, ↓aw_skip, ↓aw_seq, ↓aw_block, ↓aw_exit, ↓aw_ret, ↓sops_nil, ↓sops_go, ↓dops_nil, ↓dopsX_nil, ↓dopsR_nil, ↓vdn, vup, extr_20, extr_21, extr_30, extr_31, extr_32, List.map_cons, List.map_nil, cond_true, cond_false, aop, aThen, aBlock, argEnv, ev, sput, sputO, binK, binI, unK, builtinK, pickK, Nat.reduceBEq, Nat.reduceAdd, Int.reduceBEq, Int.reduceBNe, Int.reduceLT, aPost, resK, tup, tyf, hv2.len, makeI el_55 zero_3 info_3 (show (0 : Int) ≤ (xs.length : Int) by omega) (show (xs.length : Int) ≤ 35184372088832 by omega), Int.toNat_natCast]
  refine hN4 [(0, v), (4, .pointer (some ⟨bx, 0, none⟩)), (5, tv g2.length xs.length)] _ _ ?_ (by simp (maxSteps := 2000000) only [↓aw_region, ↓aw_skip, ↓aw_seq, ↓aw_block, ↓aw_exit, ↓aw_ret, ↓sops_nil, ↓sops_go, ↓dops_nil, ↓dopsX_nil, ↓dopsR_nil, ↓vdn, vup, extr_20, extr_21, extr_30, extr_31, extr_32, List.map_cons, List.map_nil, cond_true, cond_false, aop, aThen, aBlock, argEnv, ev, sput, sputO, binK, binI, unK, builtinK, pickK, Nat.reduceBEq, Nat.reduceAdd, Int.reduceBEq, Int.reduceBNe, Int.reduceLT, aPost, resK, tup, tyf])
  clear hN4
  try clear N4
  have hbt : (g2 ++ [Blk.ints (List.replicate xs.length 0) 3 false])[g2.length]? = some (.ints (List.replicate xs.length 0) 3 false) := get_new _ _
  have hE3 : Ext (fun _ => False) g2 (g2 ++ [Blk.ints (List.replicate xs.length 0) 3 false]) := Ext.app _ _ _
  have hlen3 : (g2 ++ [Blk.ints (List.replicate xs.length 0) 3 false]).length = g2.length + 1 := by simp
  generalize g2 ++ [Blk.ints (List.replicate xs.length 0) 3 false] = g3 at hbt hE3 hlen3 ⊢
  have ms3 : MS h g3 bx bn g2.length xs.length xs (List.replicate xs.length 0) :=
    ⟨(hE3.2 _ (by omega) id).trans c1, (hE3.2 _ (by omega) id).trans hbn2, hbt, hEx.trans hE3, ⟨by omega, by omega, by omega⟩, ⟨by omega, by omega, by omega⟩⟩
  generalize hbte : g2.length = bt at *
  refine aws_cut fun N5 hN5 => ?_
  simp (maxSteps := 2000000) only [s52, ↓aw_region, ↓aw_skip, ↓aw_seq, ↓aw_block, ↓aw_exit, ↓aw_ret, ↓sops_nil, ↓sops_go, ↓dops_nil, ↓dopsX_nil, ↓dopsR_nil, ↓vdn, vup, extr_20, extr_21, extr_30, extr_31, extr_32, List.map_cons, List.map_nil, cond_true, cond_false, aop, aThen, aBlock, argEnv, ev, sput, sputO, binK, binI, unK, builtinK, pickK, Nat.reduceBEq, Nat.reduceAdd, Int.reduceBEq, Int.reduceBNe, Int.reduceLT, aPost, resK, tup, tyf]
  refine hN5 [(0, v), (4, .pointer (some ⟨bx, 0, none⟩)), (5, tv bt xs.length), (6, .slice none 0 0)] _ _ ?_ (by simp (maxSteps := 2000000) only [↓aw_region, ↓aw_skip, ↓aw_seq, ↓aw_block, ↓aw_exit, ↓aw_ret, ↓sops_nil, ↓sops_go, ↓dops_nil, ↓dopsX_nil, ↓dopsR_nil, ↓vdn, vup, extr_20, extr_21, extr_30, extr_31, extr_32, List.map_cons, List.map_nil, cond_true, cond_false, aop, aThen, aBlock, argEnv, ev, sput, sputO, binK, binI, unK, builtinK, pickK, Nat.reduceBEq, Nat.reduceAdd, Int.reduceBEq, Int.reduceBNe, Int.reduceLT, aPost, resK, tup, tyf])
  clear hN5
  try clear N5
  have hv3 := IntSl_ext hv2 hE3
  refine aws_cut fun Z hZ => ?_
  simp (maxSteps := 2000000) only [s52, ↓aw_region, ↓aw_skip, ↓aw_seq, ↓aw_block, ↓aw_exit, ↓aw_ret, ↓sops_nil, ↓sops_go, ↓dops_nil, ↓dopsX_nil, ↓dopsR_nil, ↓vdn, vup, extr_20, extr_21, extr_30, extr_31, extr_32, List.map_cons, List.map_nil, cond_true, cond_false, aop, aThen, aBlock, argEnv, ev, sput, sputO, binK, binI, unK, builtinK, pickK, Nat.reduceBEq, Nat.reduceAdd, Int.reduceBEq, Int.reduceBNe, Int.reduceLT, aPost, resK, tup, tyf, hv3.len, ↓aw_loop_eq]
  refine aws_hide fun Q hQ => ?_
  refine aw_loop (γ := Nat × Value × Heap) (fun s => s.1 ≤ xs.length ∧ RSI g3 s.2.2 s.2.1 (iL (List.range s.1)))
    (fun s => ([(0, v), (4, .pointer (some ⟨bx, 0, none⟩)), (5, tv bt xs.length), (6, s.2.1), (44, v), (45, vint xs.length), (46, vint s.1)], s.2.2)) (fun s => xs.length - s.1) (0, .slice none 0 0, g3) ⟨Nat.zero_le _, RSI.nil g3⟩ (by simp (maxSteps := 2000000) only [↓aw_region, ↓aw_skip, ↓aw_seq, ↓aw_block, ↓aw_exit, ↓aw_ret, ↓sops_nil, ↓sops_go, ↓dops_nil, ↓dopsX_nil, ↓dopsR_nil, ↓vdn, vup, extr_20, extr_21, extr_30, extr_31, extr_32, List.map_cons, List.map_nil, cond_true, cond_false, aop, aThen, aBlock, argEnv, ev, sput, sputO, binK, binI, unK, builtinK, pickK, Nat.reduceBEq, Nat.reduceAdd, Int.reduceBEq, Int.reduceBNe, Int.reduceLT, aPost, resK, tup, tyf, Int.natCast_zero]) rfl ?_
  rintro ⟨j, w0, hp⟩ ⟨hj, hr⟩
  simp only at hj hr
  refine aw_hide fun Q2 hQ2 => ?_
  by_cases hjn : (j : Int) < xs.length
  · simp (maxSteps := 2000000) only [s52, ↓aw_region, ↓aw_skip, ↓aw_seq, ↓aw_block, ↓aw_exit, ↓aw_ret, ↓sops_nil, ↓sops_go, ↓dops_nil, ↓dopsX_nil, ↓dopsR_nil, ↓vdn, vup, extr_20, extr_21, extr_30, extr_31, extr_32, List.map_cons, List.map_nil, cond_true, cond_false, aop, aThen, aBlock, argEnv, ev, sput, sputO, binK, binI, unK, builtinK, pickK, Nat.reduceBEq, Nat.reduceAdd, Int.reduceBEq, Int.reduceBNe, Int.reduceLT, aPost, resK, tup, tyf, l52_0, hjn, litI1]
    refine hr.push (by rw [iL_len, List.length_range]; omega) fun v' h' s' => ?_
    simp (maxSteps := 2000000) only [s52, ↓aw_region, ↓aw_skip, ↓aw_seq, ↓aw_block, ↓aw_exit, ↓aw_ret, ↓sops_nil, ↓sops_go, ↓dops_nil, ↓dopsX_nil, ↓dopsR_nil, ↓vdn, vup, extr_20, extr_21, extr_30, extr_31, extr_32, List.map_cons, List.map_nil, cond_true, cond_false, aop, aThen, aBlock, argEnv, ev, sput, sputO, binK, binI, unK, builtinK, pickK, Nat.reduceBEq, Nat.reduceAdd, Int.reduceBEq, Int.reduceBNe, Int.reduceLT, aPost, resK, tup, tyf, add1 (show j < 9223372036854775807 by omega)]
    refine hQ2 _ _ _ ⟨(j + 1, v', h'), ⟨by simp only; omega, by rw [iL_range]; exact s'⟩, by simp only; omega, by simp (maxSteps := 2000000) only [↓aw_region, ↓aw_skip, ↓aw_seq, ↓aw_block, ↓aw_exit, ↓aw_ret, ↓sops_nil, ↓sops_go, ↓dops_nil, ↓dopsX_nil, ↓dopsR_nil, ↓vdn, vup, extr_20, extr_21, extr_30, extr_31, extr_32, List.map_cons, List.map_nil, cond_true, cond_false, aop, aThen, aBlock, argEnv, ev, sput, sputO, binK, binI, unK, builtinK, pickK, Nat.reduceBEq, Nat.reduceAdd, Int.reduceBEq, Int.reduceBNe, Int.reduceLT, aPost, resK, tup, tyf], rfl⟩
  · obtain rfl : j = xs.length := by omega
    simp (maxSteps := 2000000) only [s52, ↓aw_region, ↓aw_skip, ↓aw_seq, ↓aw_block, ↓aw_exit, ↓aw_ret, ↓sops_nil, ↓sops_go, ↓dops_nil, ↓dopsX_nil, ↓dopsR_nil, ↓vdn, vup, extr_20, extr_21, extr_30, extr_31, extr_32, List.map_cons, List.map_nil, cond_true, cond_false, aop, aThen, aBlock, argEnv, ev, sput, sputO, binK, binI, unK, builtinK, pickK, Nat.reduceBEq, Nat.reduceAdd, Int.reduceBEq, Int.reduceBNe, Int.reduceLT, aPost, resK, tup, tyf, l52_0, Int.lt_irrefl]
    refine hQ2 _ _ _ (hQ _ _ _ ?_)
    simp (maxSteps := 2000000) only [s52, ↓aw_region, ↓aw_skip, ↓aw_seq, ↓aw_block, ↓aw_exit, ↓aw_ret, ↓sops_nil, ↓sops_go, ↓dops_nil, ↓dopsX_nil, ↓dopsR_nil, ↓vdn, vup, extr_20, extr_21, extr_30, extr_31, extr_32, List.map_cons, List.map_nil, cond_true, cond_false, aop, aThen, aBlock, argEnv, ev, sput, sputO, binK, binI, unK, builtinK, pickK, Nat.reduceBEq, Nat.reduceAdd, Int.reduceBEq, Int.reduceBNe, Int.reduceLT, aPost, resK, tup, tyf, if_true]
    refine hZ [(0, v), (4, .pointer (some ⟨bx, 0, none⟩)), (5, tv bt xs.length), (6, w0)] _ _ ?_ (by simp (maxSteps := 2000000) only [↓aw_region, ↓aw_skip, ↓aw_seq, ↓aw_block, ↓aw_exit, ↓aw_ret, ↓sops_nil, ↓sops_go, ↓dops_nil, ↓dopsX_nil, ↓dopsR_nil, ↓vdn, vup, extr_20, extr_21, extr_30, extr_31, extr_32, List.map_cons, List.map_nil, cond_true, cond_false, aop, aThen, aBlock, argEnv, ev, sput, sputO, binK, binI, unK, builtinK, pickK, Nat.reduceBEq, Nat.reduceAdd, Int.reduceBEq, Int.reduceBNe, Int.reduceLT, aPost, resK, tup, tyf])
    clear hZ
    try clear Z
    obtain ⟨hown, hE4, hblk⟩ := hr
    rcases hown with ⟨_, hnil⟩ | ⟨bl, ys, hov, hb⟩
    · have h0 := congrArg List.length hnil
      rw [iL_len, List.length_range] at h0; simp at h0; exact absurd h0 hne
    have hblg := hblk bl (by rw [hov]; rfl)
    rw [iL_len, List.length_range] at hov
    subst hov
    have ms4 : MS h hp bx bn bt xs.length xs (List.replicate xs.length 0) :=
      ⟨(hE4.2 _ (get_lt ms3.box) id).trans ms3.box, (hE4.2 _ (get_lt ms3.nn) id).trans ms3.nn, (hE4.2 _ (get_lt ms3.tt) id).trans ms3.tt, ms3.E.trans hE4, ms3.ge, ms3.ne⟩
    have hbx3 := get_lt ms3.box
    have hbn3 := get_lt ms3.nn
    have hbt3 := get_lt ms3.tt
    have rs : RMk h hp bx bn bt bl xs.length xs (List.range xs.length) xs (List.replicate xs.length 0) ys :=
      ⟨List.nodup_range, fun x hx => List.mem_range.1 hx, ms4, rfl, hb, MI.start.congr (fun i j hi hj _ => by simp [hi, hj]) (fun i hi => by rw [if_pos (List.mem_range.2 hi)]), by
        have := gd_start (srt_nl hs) (s := nl xs) (by rw [nl]; simpa using hne) (L := List.range xs.length) (f := fun i => xs.getD i 0) (by
          rw [range_getD, nl, List.map_map]
          have hpos := (isS_iff.1 hS).2.2.2
          refine ((List.map_congr_left fun x hx => ?_).trans (List.map_id xs)).symm
          have := hpos x hx
          show ((x.toNat : Nat) : Int) = x
          omega)
        rw [this, nl, List.length_map]⟩
    clear ms4 ms3
    have rng : ∀ e hq, poss xs.length (nl xs) = false → Ext (fun _ => False) h hq → ELe e [(2, .slice none 0 0), (3, .int .i64 4)] → True := fun _ _ _ _ _ => trivial
    refine aws_cutW fun Y hY => ?_
    refine make_rounds hl1 hl8 rfl hS ⟨by omega, by omega, by omega⟩ (by have := hEx.1; have := hE3.1; omega) rs (fun e hq hf hE he => ?_) (fun hq nk tk ys' e hp1 rs2 he => ?_)
    · have h2 : sget e 2 = .slice none 0 0 := he (2, .slice none 0 0) (by simp)
      have h3 : sget e 3 = .int .i64 4 := he (3, .int .i64 4) (by simp)
      simp (maxSteps := 2000000) only [s52, ↓aw_region, ↓aw_skip, ↓aw_seq, ↓aw_block, ↓aw_exit, ↓aw_ret, ↓sops_nil, ↓sops_go, ↓dops_nil, ↓dopsX_nil, ↓dopsR_nil, ↓vdn, vup, extr_20, extr_21, extr_30, extr_31, extr_32, List.map_cons, List.map_nil, cond_true, cond_false, aop, aThen, aBlock, argEnv, ev, sput, sputO, binK, binI, unK, builtinK, pickK, Nat.reduceBEq, Nat.reduceAdd, Int.reduceBEq, Int.reduceBNe, Int.reduceLT, aPost, resK, tup, tyf, h2, h3]
      exact ⟨hE, by rw [makeR, if_pos hS, if_neg (by rw [hf]; decide)]⟩
    · refine hY [(0, v), (5, tv bt xs.length)] _ _ ?_ he
      have hd := rs2.mi.done hl1 hl8 (fun i j _ _ _ h => by cases h.1) (fun i _ => if_neg (by simp))
      have hv5 := IntSl_ext hv rs2.m.E
      have ht5 : IntSl hq (tv bt xs.length) tk := by
        have := intSl_blk rs2.m.tt
        rw [rs2.mi.len] at this
        exact this
      have hrng : ∀ i, i < xs.length → 0 ≤ tk.getD i 0 ∧ tk.getD i 0 < 256 := fun i hi => by
        have h1 := rs2.mi.rng i hi
        have h2 := pow8N hl8
        have e : ((2 : Int) ^ xs.length) = ((2 ^ xs.length : Nat) : Int) := by simp
        rw [e] at h1; omega
      have hEq := rs2.m.E
      have hlk := rs2.mi.len
      clear rs2
      refine aws_cut fun N6 hN6 => ?_
      simp (maxSteps := 2000000) only [s52, ↓aw_region, ↓aw_skip, ↓aw_seq, ↓aw_block, ↓aw_exit, ↓aw_ret, ↓sops_nil, ↓sops_go, ↓dops_nil, ↓dopsX_nil, ↓dopsR_nil, ↓vdn, vup, extr_20, extr_21, extr_30, extr_31, extr_32, List.map_cons, List.map_nil, cond_true, cond_false, aop, aThen, aBlock, argEnv, ev, sput, sputO, binK, binI, unK, builtinK, pickK, Nat.reduceBEq, Nat.reduceAdd, Int.reduceBEq, Int.reduceBNe, Int.reduceLT, aPost, resK, tup, tyf, callK, List.nil_append, List.append_nil, List.toList_toArray, List.cons_append, List.map_toArray]
      refine (equalf_call ht5 hv5 hlk hl8 hrng hd.2).mono ?_
      rintro _ hq ⟨rfl, rfl⟩
      simp (maxSteps := 2000000) only [s52, ↓aw_region, ↓aw_skip, ↓aw_seq, ↓aw_block, ↓aw_exit, ↓aw_ret, ↓sops_nil, ↓sops_go, ↓dops_nil, ↓dopsX_nil, ↓dopsR_nil, ↓vdn, vup, extr_20, extr_21, extr_30, extr_31, extr_32, List.map_cons, List.map_nil, cond_true, cond_false, aop, aThen, aBlock, argEnv, ev, sput, sputO, binK, binI, unK, builtinK, pickK, Nat.reduceBEq, Nat.reduceAdd, Int.reduceBEq, Int.reduceBNe, Int.reduceLT, aPost, resK, tup, tyf, Bool.not_true]
      refine hN6 [(0, v), (5, tv bt xs.length)] _ _ ?_ (by simp (maxSteps := 2000000) only [↓aw_region, ↓aw_skip, ↓aw_seq, ↓aw_block, ↓aw_exit, ↓aw_ret, ↓sops_nil, ↓sops_go, ↓dops_nil, ↓dopsX_nil, ↓dopsR_nil, ↓vdn, vup, extr_20, extr_21, extr_30, extr_31, extr_32, List.map_cons, List.map_nil, cond_true, cond_false, aop, aThen, aBlock, argEnv, ev, sput, sputO, binK, binI, unK, builtinK, pickK, Nat.reduceBEq, Nat.reduceAdd, Int.reduceBEq, Int.reduceBNe, Int.reduceLT, aPost, resK, tup, tyf])
      clear hN6
      try clear N6
      refine aw_aws ?_
      simp (maxSteps := 2000000) only [s52, ↓aw_region, ↓aw_skip, ↓aw_seq, ↓aw_block, ↓aw_exit, ↓aw_ret, ↓sops_nil, ↓sops_go, ↓dops_nil, ↓dopsX_nil, ↓dopsR_nil, ↓vdn, vup, extr_20, extr_21, extr_30, extr_31, extr_32, List.map_cons, List.map_nil, cond_true, cond_false, aop, aThen, aBlock, argEnv, ev, sput, sputO, binK, binI, unK, builtinK, pickK, Nat.reduceBEq, Nat.reduceAdd, Int.reduceBEq, Int.reduceBNe, Int.reduceLT, aPost, resK, tup, tyf]
      exact ⟨hEq, by rw [makeR, if_pos hS, if_pos hp1]; exact ⟨_, tk, rfl, ht5, hd.1, hlk, hd.2⟩⟩
end Go.Proofs.Tryd.Am

namespace Go.Proofs.Tryd.Am
open Go.Am Rb
set_option maxRecDepth 100000
set_option maxHeartbeats 1000000

theorem isS_take {xs : List Int} : isS (xs.take 11) = isS xs := by
  by_cases h : xs.length ≤ 11
  · rw [List.take_of_length_le h]
  · rw [isS, isS, decide_eq_false (show ¬ (xs.take 11).length ≤ 8 by simp; omega), decide_eq_false (show ¬ xs.length ≤ 8 by omega)]
    simp
end Go.Proofs.Tryd.Am

namespace Go.Proofs.Tryd.Am
open Go.Am Rb
set_option maxRecDepth 100000
set_option maxHeartbeats 1000000

theorem trn_take16 {xs : List Int} (h : trn xs = true) : xs.take 11 = xs :=
  List.take_of_length_le (by have := trn_len h; omega)
theorem trn_rng16 {xs : List Int} (ht : trn xs = true) : ∀ x ∈ xs, -9223372036854775808 ≤ x ∧ x < 9223372036854775808 := fun x hx => by
  obtain ⟨i, hi, e⟩ := List.mem_iff_getElem.1 hx
  have := trn_at ht hi
  rw [List.getD, List.getElem?_eq_getElem hi, Option.getD_some, e] at this
  omega
theorem score_loop [Tabs prog] {H : Heap} {sv w : Value} {ts ys : List Int} (hw : IntSl H w ts) (hs : IntSl H sv ys) (httr : trn ts = true) (htl : ts.length = ys.length) (hsc : ∀ i, i < ys.length → (scr (ts.getD i 0) : Int) = ys.getD i 0) {N : Env → Heap → Prop} {Q0 : Exit → Env → Heap → Prop}
    (hN : ∀ e, ELe e [(4, .bool false)] → N e H) :
    AWS prog 103 (.seq q16_11 (.block 0 (.loop l16_0))) (aThen N Q0) [(1, sv), (4, .bool false), (7, w)] H := by
  have hxl := trn_len httr
  have h256 := pow8N hxl.2
  refine aw_aws ?_
  simp (maxSteps := 2000000) only [s16, ↓aw_region, ↓aw_skip, ↓aw_seq, ↓aw_block, ↓aw_exit, ↓aw_ret, ↓sops_nil, ↓sops_go, ↓dops_nil, ↓dopsX_nil, ↓dopsR_nil, ↓vdn, vup, extr_20, extr_21, extr_30, extr_31, extr_32, List.map_cons, List.map_nil, cond_true, cond_false, aop, aThen, aBlock, argEnv, ev, sput, sputO, binK, binI, unK, builtinK, pickK, Nat.reduceBEq, Nat.reduceAdd, Int.reduceBEq, Int.reduceBNe, Int.reduceLT, aPost, resK, tup, tyf, hw.len, ↓aw_loop_eq]
  refine aws_hide fun Q3 hQ3 => ?_
  refine aw_loop (γ := Nat) (fun i => i ≤ ts.length)
    (fun i => ([(1, sv), (4, .bool false), (7, w), (88, w), (89, vint ts.length), (90, vint i)], H)) (fun i => ts.length - i) 0 (Nat.zero_le _) (by simp (maxSteps := 2000000) only [↓aw_region, ↓aw_skip, ↓aw_seq, ↓aw_block, ↓aw_exit, ↓aw_ret, ↓sops_nil, ↓sops_go, ↓dops_nil, ↓dopsX_nil, ↓dopsR_nil, ↓vdn, vup, extr_20, extr_21, extr_30, extr_31, extr_32, List.map_cons, List.map_nil, cond_true, cond_false, aop, aThen, aBlock, argEnv, ev, sput, sputO, binK, binI, unK, builtinK, pickK, Nat.reduceBEq, Nat.reduceAdd, Int.reduceBEq, Int.reduceBNe, Int.reduceLT, aPost, resK, tup, tyf, Int.natCast_zero]) rfl ?_
  intro i hi
  refine aw_hide fun Q4 hQ4 => ?_
  by_cases hin : (i : Int) < ts.length
  · have hi' : i < ts.length := by omega
    have hiy : i < ys.length := by omega
    obtain ⟨e, hlt⟩ := trn_nat httr hi'
    have hc := hsc i hiy
    have hne : (((scr (ts.getD i 0) : Nat) : Int) != ys.getD i 0) = false := by rw [hc, bne_self_eq_false]
    have hsz := size_call (h := H) (s := (ts.getD i 0).toNat) (by omega)
    rw [← e] at hsz
    simp (maxSteps := 2000000) only [s16, ↓aw_region, ↓aw_skip, ↓aw_seq, ↓aw_block, ↓aw_exit, ↓aw_ret, ↓sops_nil, ↓sops_go, ↓dops_nil, ↓dopsX_nil, ↓dopsR_nil, ↓vdn, vup, extr_20, extr_21, extr_30, extr_31, extr_32, List.map_cons, List.map_nil, cond_true, cond_false, aop, aThen, aBlock, argEnv, ev, sput, sputO, binK, binI, unK, builtinK, pickK, Nat.reduceBEq, Nat.reduceAdd, Int.reduceBEq, Int.reduceBNe, Int.reduceLT, aPost, resK, tup, tyf, l16_0, hin, ↓hw.idx el_22 esz_3 hi', ↓hw.load shp_3 hi']
    refine aw_drawX [(1, 1)] (by kernel_rfl) (by kernel_rfl) (by kernel_rfl) (by kernel_rfl) ?_
    simp (maxSteps := 2000000) only [s16, ↓aw_region, ↓aw_skip, ↓aw_seq, ↓aw_block, ↓aw_exit, ↓aw_ret, ↓sops_nil, ↓sops_go, ↓dops_nil, ↓dopsX_nil, ↓dopsR_nil, ↓vdn, vup, extr_20, extr_21, extr_30, extr_31, extr_32, List.map_cons, List.map_nil, cond_true, cond_false, aop, aThen, aBlock, argEnv, ev, sput, sputO, binK, binI, unK, builtinK, pickK, Nat.reduceBEq, Nat.reduceAdd, Int.reduceBEq, Int.reduceBNe, Int.reduceLT, aPost, resK, tup, tyf, callK, List.nil_append, List.append_nil, List.toList_toArray, List.cons_append]
    refine ⟨_, _, hsz, rfl, ?_⟩
    simp (maxSteps := 2000000) only [s16, ↓aw_region, ↓aw_skip, ↓aw_seq, ↓aw_block, ↓aw_exit, ↓aw_ret, ↓sops_nil, ↓sops_go, ↓dops_nil, ↓dopsX_nil, ↓dopsR_nil, ↓vdn, vup, extr_20, extr_21, extr_30, extr_31, extr_32, List.map_cons, List.map_nil, cond_true, cond_false, aop, aThen, aBlock, argEnv, ev, sput, sputO, binK, binI, unK, builtinK, pickK, Nat.reduceBEq, Nat.reduceAdd, Int.reduceBEq, Int.reduceBNe, Int.reduceLT, aPost, resK, tup, tyf, ↓hs.idx el_22 esz_3 hiy, ↓hs.load shp_3 hiy]
    rw [scr] at hne
    simp (maxSteps := 2000000) only [s16, ↓aw_region, ↓aw_skip, ↓aw_seq, ↓aw_block, ↓aw_exit, ↓aw_ret, ↓sops_nil, ↓sops_go, ↓dops_nil, ↓dopsX_nil, ↓dopsR_nil, ↓vdn, vup, extr_20, extr_21, extr_30, extr_31, extr_32, List.map_cons, List.map_nil, cond_true, cond_false, aop, aThen, aBlock, argEnv, ev, sput, sputO, binK, binI, unK, builtinK, pickK, Nat.reduceBEq, Nat.reduceAdd, Int.reduceBEq, Int.reduceBNe, Int.reduceLT, aPost, resK, tup, tyf, hne, add1 (show i < 9223372036854775807 by omega)]
    exact hQ4 _ _ _ ⟨i + 1, hi', by omega, by simp (maxSteps := 2000000) only [↓aw_region, ↓aw_skip, ↓aw_seq, ↓aw_block, ↓aw_exit, ↓aw_ret, ↓sops_nil, ↓sops_go, ↓dops_nil, ↓dopsX_nil, ↓dopsR_nil, ↓vdn, vup, extr_20, extr_21, extr_30, extr_31, extr_32, List.map_cons, List.map_nil, cond_true, cond_false, aop, aThen, aBlock, argEnv, ev, sput, sputO, binK, binI, unK, builtinK, pickK, Nat.reduceBEq, Nat.reduceAdd, Int.reduceBEq, Int.reduceBNe, Int.reduceLT, aPost, resK, tup, tyf], rfl⟩
  · obtain rfl : i = ts.length := by omega
    simp (maxSteps := 2000000) only [s16, ↓aw_region, ↓aw_skip, ↓aw_seq, ↓aw_block, ↓aw_exit, ↓aw_ret, ↓sops_nil, ↓sops_go, ↓dops_nil, ↓dopsX_nil, ↓dopsR_nil, ↓vdn, vup, extr_20, extr_21, extr_30, extr_31, extr_32, List.map_cons, List.map_nil, cond_true, cond_false, aop, aThen, aBlock, argEnv, ev, sput, sputO, binK, binI, unK, builtinK, pickK, Nat.reduceBEq, Nat.reduceAdd, Int.reduceBEq, Int.reduceBNe, Int.reduceLT, aPost, resK, tup, tyf, l16_0, Int.lt_irrefl]
    refine hQ4 _ _ _ (hQ3 _ _ _ ?_)
    simp (maxSteps := 2000000) only [s16, ↓aw_region, ↓aw_skip, ↓aw_seq, ↓aw_block, ↓aw_exit, ↓aw_ret, ↓sops_nil, ↓sops_go, ↓dops_nil, ↓dopsX_nil, ↓dopsR_nil, ↓vdn, vup, extr_20, extr_21, extr_30, extr_31, extr_32, List.map_cons, List.map_nil, cond_true, cond_false, aop, aThen, aBlock, argEnv, ev, sput, sputO, binK, binI, unK, builtinK, pickK, Nat.reduceBEq, Nat.reduceAdd, Int.reduceBEq, Int.reduceBNe, Int.reduceLT, aPost, resK, tup, tyf, if_true]
    exact hN _ (by simp (maxSteps := 2000000) only [↓aw_region, ↓aw_skip, ↓aw_seq, ↓aw_block, ↓aw_exit, ↓aw_ret, ↓sops_nil, ↓sops_go, ↓dops_nil, ↓dopsX_nil, ↓dopsR_nil, ↓vdn, vup, extr_20, extr_21, extr_30, extr_31, extr_32, List.map_cons, List.map_nil, cond_true, cond_false, aop, aThen, aBlock, argEnv, ev, sput, sputO, binK, binI, unK, builtinK, pickK, Nat.reduceBEq, Nat.reduceAdd, Int.reduceBEq, Int.reduceBNe, Int.reduceLT, aPost, resK, tup, tyf])

theorem s16_callW [Tabs Tryd.prog] {args : List Value} {h : Heap} {Q : Value → Heap → Prop} (hsz : args.length ≤ 103) (hk : AWS Tryd.prog 103 s16 (aPost Tryd.prog [.tmp 4] Q) (argEnv 0 args) h) : ACall Tryd.prog 16 args h Q :=
  acall_w Tryd.func16 rfl (enters_of Tryd.func16 (by kernel_rfl) rfl) rfl rfl (by decide) s16_strip s16_ok hsz hk
/-- The first look: what Scores has said is what the reference says. -/
theorem scores_first [BitTab prog 1] (hR : RisingOk) {H : Heap} {v sv a b : Value} {xs ys : List Int} {e f : Int} (hv : IntSl H v xs) (hs : IntSl H sv ys) (hl : xs.length < 9223372036854775808) (hx : ∀ x ∈ xs, -9223372036854775808 ≤ x ∧ x < 9223372036854775808)
    (hr : if trn xs = true then e = 0 ∧ IntSl H a (iL (rising (scL xs))) else e = 2 ∧ a = .slice none 0 0) {N : Env → Heap → Prop} {Q0 : Exit → Env → Heap → Prop}
    (hN : ∀ e' H', Ext (fun _ => False) H H' → ELe e' [(1, sv), (4, .bool false), (7, b), (8, .int .i64 f)] → N e' H') :
    aw prog 103 (.seq q16_3 (.cond (.tmp 53) (.seq q16_4 .ret) .skip)) (aThen N Q0) [(0, v), (1, sv), (4, .bool false), (5, a), (6, .int .i64 e), (7, b), (8, .int .i64 f)] H := by
  have awk : ∀ {K : Value → Heap → Prop} {g : Heap}, (∀ g', Ext (fun _ => False) g g' → K (.bool true) g') → ACall prog 21 [] g K := fun {K g} hk => awake_call.mono fun v h' ⟨h1, h2⟩ => by rw [h1]; exact hk _ h2
  have n00 : ((0 : Int) != 0) = false := rfl
  have n22 : ((2 : Int) != 2) = false := rfl
  refine aw_cut fun N0 hN0 => ?_
  refine aw_regcut 3 fun N1 hN1 => ?_
  simp (maxSteps := 2000000) only [s16, ↓aw_region, ↓aw_skip, ↓aw_seq, ↓aw_block, ↓aw_exit, ↓aw_ret, ↓sops_nil, ↓sops_go, ↓dops_nil, ↓dopsX_nil, ↓dopsR_nil, ↓vdn, vup, extr_20, extr_21, extr_30, extr_31, extr_32, List.map_cons, List.map_nil, cond_true, cond_false, aop, aThen, aBlock, argEnv, ev, sput, sputO, binK, binI, unK, builtinK, pickK, Nat.reduceBEq, Nat.reduceAdd, Int.reduceBEq, Int.reduceBNe, Int.reduceLT, aPost, resK, tup, tyf, callK, List.nil_append, List.append_nil, List.toList_toArray, List.cons_append, List.take_succ_cons, List.take_zero]
  refine (rvalid_call hv hl hx).mono ?_
  rintro _ H ⟨rfl, rfl⟩
  try simp (maxSteps := 2000000) only [s16, ↓aw_region, ↓aw_skip, ↓aw_seq, ↓aw_block, ↓aw_exit, ↓aw_ret, ↓sops_nil, ↓sops_go, ↓dops_nil, ↓dopsX_nil, ↓dopsR_nil, ↓vdn, vup, extr_20, extr_21, extr_30, extr_31, extr_32, List.map_cons, List.map_nil, cond_true, cond_false, aop, aThen, aBlock, argEnv, ev, sput, sputO, binK, binI, unK, builtinK, pickK, Nat.reduceBEq, Nat.reduceAdd, Int.reduceBEq, Int.reduceBNe, Int.reduceLT, aPost, resK, tup, tyf]
  refine hN1 _ _ ?_
  clear hN1 N1
  cases ht : trn xs with
  | true =>
    have hxl := trn_len ht
    rw [ht, if_pos rfl] at hr
    obtain ⟨rfl, ha⟩ := hr
    refine aw_regcut 3 fun N1 hN1 => ?_
    simp (maxSteps := 2000000) only [s16, ↓aw_region, ↓aw_skip, ↓aw_seq, ↓aw_block, ↓aw_exit, ↓aw_ret, ↓sops_nil, ↓sops_go, ↓dops_nil, ↓dopsX_nil, ↓dopsR_nil, ↓vdn, vup, extr_20, extr_21, extr_30, extr_31, extr_32, List.map_cons, List.map_nil, cond_true, cond_false, aop, aThen, aBlock, argEnv, ev, sput, sputO, binK, binI, unK, builtinK, pickK, Nat.reduceBEq, Nat.reduceAdd, Int.reduceBEq, Int.reduceBNe, Int.reduceLT, aPost, resK, tup, tyf, callK, List.nil_append, List.append_nil, List.toList_toArray, List.cons_append, List.drop_succ_cons, List.drop_zero, List.take_succ_cons, List.take_zero]
    refine (rscores_call hR hv ht).mono ?_
    rintro r1 H1 ⟨hE1, hr1⟩
    try simp (maxSteps := 2000000) only [s16, ↓aw_region, ↓aw_skip, ↓aw_seq, ↓aw_block, ↓aw_exit, ↓aw_ret, ↓sops_nil, ↓sops_go, ↓dops_nil, ↓dopsX_nil, ↓dopsR_nil, ↓vdn, vup, extr_20, extr_21, extr_30, extr_31, extr_32, List.map_cons, List.map_nil, cond_true, cond_false, aop, aThen, aBlock, argEnv, ev, sput, sputO, binK, binI, unK, builtinK, pickK, Nat.reduceBEq, Nat.reduceAdd, Int.reduceBEq, Int.reduceBNe, Int.reduceLT, aPost, resK, tup, tyf]
    refine hN1 _ _ ?_
    clear hN1 N1
    have hv1 := IntSl_ext hv hE1
    have ha1 := IntSl_ext ha hE1
    have hlr : (iL (rising (scL xs))).length < 9223372036854775808 := by rw [iL_len, rising_len]; simp [scL]; omega
    have hd : decide (iL (rising (scL xs)) = iL (rising (scL xs))) = true := decide_eq_true rfl
    refine aw_regcut 8 fun N1 hN1 => ?_
    simp (maxSteps := 2000000) only [s16, ↓aw_region, ↓aw_skip, ↓aw_seq, ↓aw_block, ↓aw_exit, ↓aw_ret, ↓sops_nil, ↓sops_go, ↓dops_nil, ↓dopsX_nil, ↓dopsR_nil, ↓vdn, vup, extr_20, extr_21, extr_30, extr_31, extr_32, List.map_cons, List.map_nil, cond_true, cond_false, aop, aThen, aBlock, argEnv, ev, sput, sputO, binK, binI, unK, builtinK, pickK, Nat.reduceBEq, Nat.reduceAdd, Int.reduceBEq, Int.reduceBNe, Int.reduceLT, aPost, resK, tup, tyf, callK, List.nil_append, List.append_nil, List.toList_toArray, List.cons_append, List.drop_succ_cons, List.drop_zero, List.take_succ_cons, List.take_zero]
    refine (equal_call ha1 hr1 hlr hlr).mono ?_
    rintro _ H1 ⟨rfl, rfl⟩
    simp (maxSteps := 2000000) only [s16, ↓aw_region, ↓aw_skip, ↓aw_seq, ↓aw_block, ↓aw_exit, ↓aw_ret, ↓sops_nil, ↓sops_go, ↓dops_nil, ↓dopsX_nil, ↓dopsR_nil, ↓vdn, vup, extr_20, extr_21, extr_30, extr_31, extr_32, List.map_cons, List.map_nil, cond_true, cond_false, aop, aThen, aBlock, argEnv, ev, sput, sputO, binK, binI, unK, builtinK, pickK, Nat.reduceBEq, Nat.reduceAdd, Int.reduceBEq, Int.reduceBNe, Int.reduceLT, aPost, resK, tup, tyf, hd, Bool.not_true, n00]
    refine hN1 _ _ ?_
    clear hN1 N1
    refine aw_regcut 2 fun N1 hN1 => ?_
    simp (maxSteps := 2000000) only [s16, ↓aw_region, ↓aw_skip, ↓aw_seq, ↓aw_block, ↓aw_exit, ↓aw_ret, ↓sops_nil, ↓sops_go, ↓dops_nil, ↓dopsX_nil, ↓dopsR_nil, ↓vdn, vup, extr_20, extr_21, extr_30, extr_31, extr_32, List.map_cons, List.map_nil, cond_true, cond_false, aop, aThen, aBlock, argEnv, ev, sput, sputO, binK, binI, unK, builtinK, pickK, Nat.reduceBEq, Nat.reduceAdd, Int.reduceBEq, Int.reduceBNe, Int.reduceLT, aPost, resK, tup, tyf, callK, List.nil_append, List.append_nil, List.toList_toArray, List.cons_append, List.drop_succ_cons, List.drop_zero, List.take_succ_cons, List.take_zero]
    refine (rvalid_call hv1 hl hx).mono ?_
    rintro _ H1 ⟨rfl, rfl⟩
    try simp (maxSteps := 2000000) only [s16, ↓aw_region, ↓aw_skip, ↓aw_seq, ↓aw_block, ↓aw_exit, ↓aw_ret, ↓sops_nil, ↓sops_go, ↓dops_nil, ↓dopsX_nil, ↓dopsR_nil, ↓vdn, vup, extr_20, extr_21, extr_30, extr_31, extr_32, List.map_cons, List.map_nil, cond_true, cond_false, aop, aThen, aBlock, argEnv, ev, sput, sputO, binK, binI, unK, builtinK, pickK, Nat.reduceBEq, Nat.reduceAdd, Int.reduceBEq, Int.reduceBNe, Int.reduceLT, aPost, resK, tup, tyf]
    refine hN1 _ _ ?_
    clear hN1 N1
    refine aw_regcut 12 fun N1 hN1 => ?_
    simp (maxSteps := 2000000) only [s16, ↓aw_region, ↓aw_skip, ↓aw_seq, ↓aw_block, ↓aw_exit, ↓aw_ret, ↓sops_nil, ↓sops_go, ↓dops_nil, ↓dopsX_nil, ↓dopsR_nil, ↓vdn, vup, extr_20, extr_21, extr_30, extr_31, extr_32, List.map_cons, List.map_nil, cond_true, cond_false, aop, aThen, aBlock, argEnv, ev, sput, sputO, binK, binI, unK, builtinK, pickK, Nat.reduceBEq, Nat.reduceAdd, Int.reduceBEq, Int.reduceBNe, Int.reduceLT, aPost, resK, tup, tyf, List.drop_succ_cons, List.drop_zero, List.take_succ_cons, List.take_zero, ht, Bool.not_true]
    refine hN1 _ _ ?_
    clear hN1 N1
    simp (maxSteps := 2000000) only [s16, ↓aw_region, ↓aw_skip, ↓aw_seq, ↓aw_block, ↓aw_exit, ↓aw_ret, ↓sops_nil, ↓sops_go, ↓dops_nil, ↓dopsX_nil, ↓dopsR_nil, ↓vdn, vup, extr_20, extr_21, extr_30, extr_31, extr_32, List.map_cons, List.map_nil, cond_true, cond_false, aop, aThen, aBlock, argEnv, ev, sput, sputO, binK, binI, unK, builtinK, pickK, Nat.reduceBEq, Nat.reduceAdd, Int.reduceBEq, Int.reduceBNe, Int.reduceLT, aPost, resK, tup, tyf, callK, List.nil_append, List.append_nil, List.toList_toArray, List.cons_append, List.drop_succ_cons, List.drop_zero]
    refine awk fun g hg => ?_
    simp (maxSteps := 2000000) only [s16, ↓aw_region, ↓aw_skip, ↓aw_seq, ↓aw_block, ↓aw_exit, ↓aw_ret, ↓sops_nil, ↓sops_go, ↓dops_nil, ↓dopsX_nil, ↓dopsR_nil, ↓vdn, vup, extr_20, extr_21, extr_30, extr_31, extr_32, List.map_cons, List.map_nil, cond_true, cond_false, aop, aThen, aBlock, argEnv, ev, sput, sputO, binK, binI, unK, builtinK, pickK, Nat.reduceBEq, Nat.reduceAdd, Int.reduceBEq, Int.reduceBNe, Int.reduceLT, aPost, resK, tup, tyf, Bool.not_true]
    refine hN0 _ _ ?_
    simp (maxSteps := 2000000) only [s16, ↓aw_region, ↓aw_skip, ↓aw_seq, ↓aw_block, ↓aw_exit, ↓aw_ret, ↓sops_nil, ↓sops_go, ↓dops_nil, ↓dopsX_nil, ↓dopsR_nil, ↓vdn, vup, extr_20, extr_21, extr_30, extr_31, extr_32, List.map_cons, List.map_nil, cond_true, cond_false, aop, aThen, aBlock, argEnv, ev, sput, sputO, binK, binI, unK, builtinK, pickK, Nat.reduceBEq, Nat.reduceAdd, Int.reduceBEq, Int.reduceBNe, Int.reduceLT, aPost, resK, tup, tyf]
    exact hN _ _ (hE1.trans hg) (by simp (maxSteps := 2000000) only [↓aw_region, ↓aw_skip, ↓aw_seq, ↓aw_block, ↓aw_exit, ↓aw_ret, ↓sops_nil, ↓sops_go, ↓dops_nil, ↓dopsX_nil, ↓dopsR_nil, ↓vdn, vup, extr_20, extr_21, extr_30, extr_31, extr_32, List.map_cons, List.map_nil, cond_true, cond_false, aop, aThen, aBlock, argEnv, ev, sput, sputO, binK, binI, unK, builtinK, pickK, Nat.reduceBEq, Nat.reduceAdd, Int.reduceBEq, Int.reduceBNe, Int.reduceLT, aPost, resK, tup, tyf])
  | false =>
    rw [ht, if_neg (by decide)] at hr
    obtain ⟨rfl, rfl⟩ := hr
    have l0 : ∀ {K : Value → Prop}, lenK (.slice none 0 0) K = K (.int .i64 0) := fun {K} => rfl
    refine aw_regcut 11 fun N1 hN1 => ?_
    simp (maxSteps := 2000000) only [s16, ↓aw_region, ↓aw_skip, ↓aw_seq, ↓aw_block, ↓aw_exit, ↓aw_ret, ↓sops_nil, ↓sops_go, ↓dops_nil, ↓dopsX_nil, ↓dopsR_nil, ↓vdn, vup, extr_20, extr_21, extr_30, extr_31, extr_32, List.map_cons, List.map_nil, cond_true, cond_false, aop, aThen, aBlock, argEnv, ev, sput, sputO, binK, binI, unK, builtinK, pickK, Nat.reduceBEq, Nat.reduceAdd, Int.reduceBEq, Int.reduceBNe, Int.reduceLT, aPost, resK, tup, tyf, List.drop_succ_cons, List.drop_zero, List.take_succ_cons, List.take_zero]
    refine hN1 _ _ ?_
    clear hN1 N1
    refine aw_regcut 2 fun N1 hN1 => ?_
    simp (maxSteps := 2000000) only [s16, ↓aw_region, ↓aw_skip, ↓aw_seq, ↓aw_block, ↓aw_exit, ↓aw_ret, ↓sops_nil, ↓sops_go, ↓dops_nil, ↓dopsX_nil, ↓dopsR_nil, ↓vdn, vup, extr_20, extr_21, extr_30, extr_31, extr_32, List.map_cons, List.map_nil, cond_true, cond_false, aop, aThen, aBlock, argEnv, ev, sput, sputO, binK, binI, unK, builtinK, pickK, Nat.reduceBEq, Nat.reduceAdd, Int.reduceBEq, Int.reduceBNe, Int.reduceLT, aPost, resK, tup, tyf, callK, List.nil_append, List.append_nil, List.toList_toArray, List.cons_append, List.drop_succ_cons, List.drop_zero, List.take_succ_cons, List.take_zero]
    refine (rvalid_call hv hl hx).mono ?_
    rintro _ H ⟨rfl, rfl⟩
    try simp (maxSteps := 2000000) only [s16, ↓aw_region, ↓aw_skip, ↓aw_seq, ↓aw_block, ↓aw_exit, ↓aw_ret, ↓sops_nil, ↓sops_go, ↓dops_nil, ↓dopsX_nil, ↓dopsR_nil, ↓vdn, vup, extr_20, extr_21, extr_30, extr_31, extr_32, List.map_cons, List.map_nil, cond_true, cond_false, aop, aThen, aBlock, argEnv, ev, sput, sputO, binK, binI, unK, builtinK, pickK, Nat.reduceBEq, Nat.reduceAdd, Int.reduceBEq, Int.reduceBNe, Int.reduceLT, aPost, resK, tup, tyf]
    refine hN1 _ _ ?_
    clear hN1 N1
    refine aw_regcut 12 fun N1 hN1 => ?_
    simp (maxSteps := 2000000) only [s16, ↓aw_region, ↓aw_skip, ↓aw_seq, ↓aw_block, ↓aw_exit, ↓aw_ret, ↓sops_nil, ↓sops_go, ↓dops_nil, ↓dopsX_nil, ↓dopsR_nil, ↓vdn, vup, extr_20, extr_21, extr_30, extr_31, extr_32, List.map_cons, List.map_nil, cond_true, cond_false, aop, aThen, aBlock, argEnv, ev, sput, sputO, binK, binI, unK, builtinK, pickK, Nat.reduceBEq, Nat.reduceAdd, Int.reduceBEq, Int.reduceBNe, Int.reduceLT, aPost, resK, tup, tyf, List.drop_succ_cons, List.drop_zero, List.take_succ_cons, List.take_zero, ht, Bool.not_false, l0, n00, n22]
    refine hN1 _ _ ?_
    clear hN1 N1
    simp (maxSteps := 2000000) only [s16, ↓aw_region, ↓aw_skip, ↓aw_seq, ↓aw_block, ↓aw_exit, ↓aw_ret, ↓sops_nil, ↓sops_go, ↓dops_nil, ↓dopsX_nil, ↓dopsR_nil, ↓vdn, vup, extr_20, extr_21, extr_30, extr_31, extr_32, List.map_cons, List.map_nil, cond_true, cond_false, aop, aThen, aBlock, argEnv, ev, sput, sputO, binK, binI, unK, builtinK, pickK, Nat.reduceBEq, Nat.reduceAdd, Int.reduceBEq, Int.reduceBNe, Int.reduceLT, aPost, resK, tup, tyf, callK, List.nil_append, List.append_nil, List.toList_toArray, List.cons_append, List.drop_succ_cons, List.drop_zero]
    refine awk fun g hg => ?_
    simp (maxSteps := 2000000) only [s16, ↓aw_region, ↓aw_skip, ↓aw_seq, ↓aw_block, ↓aw_exit, ↓aw_ret, ↓sops_nil, ↓sops_go, ↓dops_nil, ↓dopsX_nil, ↓dopsR_nil, ↓vdn, vup, extr_20, extr_21, extr_30, extr_31, extr_32, List.map_cons, List.map_nil, cond_true, cond_false, aop, aThen, aBlock, argEnv, ev, sput, sputO, binK, binI, unK, builtinK, pickK, Nat.reduceBEq, Nat.reduceAdd, Int.reduceBEq, Int.reduceBNe, Int.reduceLT, aPost, resK, tup, tyf, Bool.not_true]
    refine hN0 _ _ ?_
    simp (maxSteps := 2000000) only [s16, ↓aw_region, ↓aw_skip, ↓aw_seq, ↓aw_block, ↓aw_exit, ↓aw_ret, ↓sops_nil, ↓sops_go, ↓dops_nil, ↓dopsX_nil, ↓dopsR_nil, ↓vdn, vup, extr_20, extr_21, extr_30, extr_31, extr_32, List.map_cons, List.map_nil, cond_true, cond_false, aop, aThen, aBlock, argEnv, ev, sput, sputO, binK, binI, unK, builtinK, pickK, Nat.reduceBEq, Nat.reduceAdd, Int.reduceBEq, Int.reduceBNe, Int.reduceLT, aPost, resK, tup, tyf]
    exact hN _ _ hg (by simp (maxSteps := 2000000) only [↓aw_region, ↓aw_skip, ↓aw_seq, ↓aw_block, ↓aw_exit, ↓aw_ret, ↓sops_nil, ↓sops_go, ↓dops_nil, ↓dopsX_nil, ↓dopsR_nil, ↓vdn, vup, extr_20, extr_21, extr_30, extr_31, extr_32, List.map_cons, List.map_nil, cond_true, cond_false, aop, aThen, aBlock, argEnv, ev, sput, sputO, binK, binI, unK, builtinK, pickK, Nat.reduceBEq, Nat.reduceAdd, Int.reduceBEq, Int.reduceBNe, Int.reduceLT, aPost, resK, tup, tyf])
end Go.Proofs.Tryd.Am

namespace Go.Proofs.Tryd.Am
open Go.Am Rb
set_option maxRecDepth 100000
set_option maxHeartbeats 1000000

theorem law_scores_of [BitTab prog 1] (hR : RisingOk) {h : Heap} {v sv : Value} {xs ys : List Int} (hv : IntSl h v xs) (hl : xs.length < 9223372036854775808) (hx : ∀ x ∈ xs, -9223372036854775808 ≤ x ∧ x < 9223372036854775808) (hs : IntSl h sv ys) (hsl : ys.length < 9223372036854775808)
    (hsx : ∀ x ∈ ys, -9223372036854775808 ≤ x ∧ x < 9223372036854775808) : ACall prog 16 [v, sv] h fun r _ => r = .bool true := by
  have rng11 : ∀ {ys : List Int}, (∀ x ∈ ys, -9223372036854775808 ≤ x ∧ x < 9223372036854775808) → ∀ x ∈ ys.take 11, -9223372036854775808 ≤ x ∧ x < 9223372036854775808 := fun h x hm => h x (List.take_subset _ _ hm)
  have len11 : ∀ {ys : List Int}, (ys.take 11).length < 9223372036854775808 := by intro ys; simp; omega
  have e22 : ((2 : Int) == 2) = true := rfl
  have e44 : ((4 : Int) == 4) = true := rfl
  have e00 : ((0 : Int) == 0) = true := rfl
  have n00 : ((0 : Int) != 0) = false := rfl
  have l0 : ∀ {K : Value → Prop}, lenK (.slice none 0 0) K = K (.int .i64 0) := fun {K} => rfl
  refine s16_callW (by simp) ?_
  simp only [s16]
  refine aws_cut fun N1 hN1 => ?_
  simp (maxSteps := 2000000) only [s16, ↓aw_region, ↓aw_skip, ↓aw_seq, ↓aw_block, ↓aw_exit, ↓aw_ret, ↓sops_nil, ↓sops_go, ↓dops_nil, ↓dopsX_nil, ↓dopsR_nil, ↓vdn, vup, extr_20, extr_21, extr_30, extr_31, extr_32, List.map_cons, List.map_nil, cond_true, cond_false, aop, aThen, aBlock, argEnv, ev, sput, sputO, binK, binI, unK, builtinK, pickK, Nat.reduceBEq, Nat.reduceAdd, Int.reduceBEq, Int.reduceBNe, Int.reduceLT, aPost, resK, tup, tyf]
  refine hN1 [(0, v), (1, sv), (4, .bool false)] _ _ ?_ (by simp (maxSteps := 2000000) only [↓aw_region, ↓aw_skip, ↓aw_seq, ↓aw_block, ↓aw_exit, ↓aw_ret, ↓sops_nil, ↓sops_go, ↓dops_nil, ↓dopsX_nil, ↓dopsR_nil, ↓vdn, vup, extr_20, extr_21, extr_30, extr_31, extr_32, List.map_cons, List.map_nil, cond_true, cond_false, aop, aThen, aBlock, argEnv, ev, sput, sputO, binK, binI, unK, builtinK, pickK, Nat.reduceBEq, Nat.reduceAdd, Int.reduceBEq, Int.reduceBNe, Int.reduceLT, aPost, resK, tup, tyf])
  clear hN1
  try clear N1
  refine aws_cut fun N2 hN2 => ?_
  simp (maxSteps := 2000000) only [s16, ↓aw_region, ↓aw_skip, ↓aw_seq, ↓aw_block, ↓aw_exit, ↓aw_ret, ↓sops_nil, ↓sops_go, ↓dops_nil, ↓dopsX_nil, ↓dopsR_nil, ↓vdn, vup, extr_20, extr_21, extr_30, extr_31, extr_32, List.map_cons, List.map_nil, cond_true, cond_false, aop, aThen, aBlock, argEnv, ev, sput, sputO, binK, binI, unK, builtinK, pickK, Nat.reduceBEq, Nat.reduceAdd, Int.reduceBEq, Int.reduceBNe, Int.reduceLT, aPost, resK, tup, tyf, callK, List.nil_append, List.append_nil, List.toList_toArray, List.cons_append]
  refine (list_call hv hl).mono ?_
  rintro l1 _ ⟨hl1, g1, rfl⟩
  refine (scores_call hl1 len11 (rng11 hx)).mono ?_
  rintro r1 h1 ⟨hE1, hr1⟩
  have hv1 := IntSl_ext (hv.grow g1) hE1
  have hs1 := IntSl_ext (hs.grow g1) hE1
  clear hl1 hE1
  rw [trn_take] at hr1
  obtain ⟨a, e, rfl, hae⟩ : ∃ a e, r1 = .tuple #[a, .int .i64 e] ∧ if trn xs = true then e = 0 ∧ IntSl h1 a (iL (rising (scL xs))) else e = 2 ∧ a = .slice none 0 0 := by
    cases ht : trn xs with
    | true =>
      rw [ht, if_pos rfl, trn_take16 ht] at hr1
      obtain ⟨w, h1, h2⟩ := hr1
      exact ⟨w, 0, h1, by rw [if_pos rfl]; exact ⟨rfl, h2.int⟩⟩
    | false =>
      rw [ht, if_neg (by decide)] at hr1
      exact ⟨_, 2, hr1, by rw [if_neg (by decide)]; exact ⟨rfl, rfl⟩⟩
  clear hr1
  simp (maxSteps := 2000000) only [s16, ↓aw_region, ↓aw_skip, ↓aw_seq, ↓aw_block, ↓aw_exit, ↓aw_ret, ↓sops_nil, ↓sops_go, ↓dops_nil, ↓dopsX_nil, ↓dopsR_nil, ↓vdn, vup, extr_20, extr_21, extr_30, extr_31, extr_32, List.map_cons, List.map_nil, cond_true, cond_false, aop, aThen, aBlock, argEnv, ev, sput, sputO, binK, binI, unK, builtinK, pickK, Nat.reduceBEq, Nat.reduceAdd, Int.reduceBEq, Int.reduceBNe, Int.reduceLT, aPost, resK, tup, tyf]
  refine hN2 [(0, v), (1, sv), (4, .bool false), (5, a), (6, .int .i64 e)] _ _ ?_ (by simp (maxSteps := 2000000) only [↓aw_region, ↓aw_skip, ↓aw_seq, ↓aw_block, ↓aw_exit, ↓aw_ret, ↓sops_nil, ↓sops_go, ↓dops_nil, ↓dopsX_nil, ↓dopsR_nil, ↓vdn, vup, extr_20, extr_21, extr_30, extr_31, extr_32, List.map_cons, List.map_nil, cond_true, cond_false, aop, aThen, aBlock, argEnv, ev, sput, sputO, binK, binI, unK, builtinK, pickK, Nat.reduceBEq, Nat.reduceAdd, Int.reduceBEq, Int.reduceBNe, Int.reduceLT, aPost, resK, tup, tyf])
  clear hN2
  try clear N2
  refine aws_cut fun N3 hN3 => ?_
  simp (maxSteps := 2000000) only [s16, ↓aw_region, ↓aw_skip, ↓aw_seq, ↓aw_block, ↓aw_exit, ↓aw_ret, ↓sops_nil, ↓sops_go, ↓dops_nil, ↓dopsX_nil, ↓dopsR_nil, ↓vdn, vup, extr_20, extr_21, extr_30, extr_31, extr_32, List.map_cons, List.map_nil, cond_true, cond_false, aop, aThen, aBlock, argEnv, ev, sput, sputO, binK, binI, unK, builtinK, pickK, Nat.reduceBEq, Nat.reduceAdd, Int.reduceBEq, Int.reduceBNe, Int.reduceLT, aPost, resK, tup, tyf, callK, List.nil_append, List.append_nil, List.toList_toArray, List.cons_append]
  refine (list_call hs1 hsl).mono ?_
  rintro l2 _ ⟨hl2, g2, rfl⟩
  refine (make_call hl2 len11 (rng11 hsx)).mono ?_
  rintro r2 h2 ⟨hE2, hr2⟩
  have hv2 := IntSl_ext (hv1.grow g2) hE2
  have hs2 := IntSl_ext (hs1.grow g2) hE2
  have hae2 : if trn xs = true then e = 0 ∧ IntSl h2 a (iL (rising (scL xs))) else e = 2 ∧ a = .slice none 0 0 := by
    cases ht : trn xs with
    | true => rw [ht, if_pos rfl] at hae; rw [if_pos rfl]; exact ⟨hae.1, IntSl_ext (hae.2.grow g2) hE2⟩
    | false => rw [ht, if_neg (by decide)] at hae; rw [if_neg (by decide)]; exact hae
  clear hl2 hE2 hae
  rw [makeR, isS_take] at hr2
  cases hS : isS ys with
  | false =>
    rw [hS, if_neg (by decide)] at hr2
    subst hr2
    simp (maxSteps := 2000000) only [s16, ↓aw_region, ↓aw_skip, ↓aw_seq, ↓aw_block, ↓aw_exit, ↓aw_ret, ↓sops_nil, ↓sops_go, ↓dops_nil, ↓dopsX_nil, ↓dopsR_nil, ↓vdn, vup, extr_20, extr_21, extr_30, extr_31, extr_32, List.map_cons, List.map_nil, cond_true, cond_false, aop, aThen, aBlock, argEnv, ev, sput, sputO, binK, binI, unK, builtinK, pickK, Nat.reduceBEq, Nat.reduceAdd, Int.reduceBEq, Int.reduceBNe, Int.reduceLT, aPost, resK, tup, tyf]
    refine hN3 [(0, v), (1, sv), (4, .bool false), (5, a), (6, .int .i64 e), (7, .slice none 0 0), (8, .int .i64 2)] _ _ ?_ (by simp (maxSteps := 2000000) only [↓aw_region, ↓aw_skip, ↓aw_seq, ↓aw_block, ↓aw_exit, ↓aw_ret, ↓sops_nil, ↓sops_go, ↓dops_nil, ↓dopsX_nil, ↓dopsR_nil, ↓vdn, vup, extr_20, extr_21, extr_30, extr_31, extr_32, List.map_cons, List.map_nil, cond_true, cond_false, aop, aThen, aBlock, argEnv, ev, sput, sputO, binK, binI, unK, builtinK, pickK, Nat.reduceBEq, Nat.reduceAdd, Int.reduceBEq, Int.reduceBNe, Int.reduceLT, aPost, resK, tup, tyf])
    clear hN3
    try clear N3
    refine aws_cut fun N4 hN4 => ?_
    refine scores_first hR hv2 hs2 hl hx hae2 fun e' H' hE' he' => ?_
    refine hN4 [(1, sv), (4, .bool false), (7, .slice none 0 0), (8, .int .i64 2)] _ _ ?_ he'
    have hs3 := IntSl_ext hs2 hE'
    refine aws_cut fun N5 hN5 => ?_
    simp (maxSteps := 2000000) only [s16, ↓aw_region, ↓aw_skip, ↓aw_seq, ↓aw_block, ↓aw_exit, ↓aw_ret, ↓sops_nil, ↓sops_go, ↓dops_nil, ↓dopsX_nil, ↓dopsR_nil, ↓vdn, vup, extr_20, extr_21, extr_30, extr_31, extr_32, List.map_cons, List.map_nil, cond_true, cond_false, aop, aThen, aBlock, argEnv, ev, sput, sputO, binK, binI, unK, builtinK, pickK, Nat.reduceBEq, Nat.reduceAdd, Int.reduceBEq, Int.reduceBNe, Int.reduceLT, aPost, resK, tup, tyf, callK, List.nil_append, List.append_nil, List.toList_toArray, List.cons_append]
    refine (isscores_call hs3 hsl hsx).mono ?_
    rintro _ H' ⟨rfl, rfl⟩
    simp (maxSteps := 2000000) only [s16, ↓aw_region, ↓aw_skip, ↓aw_seq, ↓aw_block, ↓aw_exit, ↓aw_ret, ↓sops_nil, ↓sops_go, ↓dops_nil, ↓dopsX_nil, ↓dopsR_nil, ↓vdn, vup, extr_20, extr_21, extr_30, extr_31, extr_32, List.map_cons, List.map_nil, cond_true, cond_false, aop, aThen, aBlock, argEnv, ev, sput, sputO, binK, binI, unK, builtinK, pickK, Nat.reduceBEq, Nat.reduceAdd, Int.reduceBEq, Int.reduceBNe, Int.reduceLT, aPost, resK, tup, tyf, hS, Bool.not_false, l0, e00, e22]
  | true =>
    have hSx := isS_iff.1 hS
    have ht11 : ys.take 11 = ys := List.take_of_length_le (by omega)
    have hyn : iL (nl ys) = ys := by
      rw [nl, iL, List.map_map]
      refine (List.map_congr_left fun x hx => ?_).trans (List.map_id ys)
      have := hSx.2.2.2 x hx
      show ((x.toNat : Nat) : Int) = x
      omega
    have hnl : (nl ys).length = ys.length := by simp [nl]
    have hn64 : ∀ x ∈ nl ys, x ≤ 64 := fun x hm => by
      obtain ⟨y, hy, rfl⟩ := List.mem_map.1 hm
      have := hSx.2.2.2 y hy; omega
    rw [hS, if_pos rfl, ht11] at hr2
    cases hp : poss ys.length (nl ys) with
    | false =>
      rw [hp, if_neg (by decide)] at hr2
      subst hr2
      simp (maxSteps := 2000000) only [s16, ↓aw_region, ↓aw_skip, ↓aw_seq, ↓aw_block, ↓aw_exit, ↓aw_ret, ↓sops_nil, ↓sops_go, ↓dops_nil, ↓dopsX_nil, ↓dopsR_nil, ↓vdn, vup, extr_20, extr_21, extr_30, extr_31, extr_32, List.map_cons, List.map_nil, cond_true, cond_false, aop, aThen, aBlock, argEnv, ev, sput, sputO, binK, binI, unK, builtinK, pickK, Nat.reduceBEq, Nat.reduceAdd, Int.reduceBEq, Int.reduceBNe, Int.reduceLT, aPost, resK, tup, tyf]
      refine hN3 [(0, v), (1, sv), (4, .bool false), (5, a), (6, .int .i64 e), (7, .slice none 0 0), (8, .int .i64 4)] _ _ ?_ (by simp (maxSteps := 2000000) only [↓aw_region, ↓aw_skip, ↓aw_seq, ↓aw_block, ↓aw_exit, ↓aw_ret, ↓sops_nil, ↓sops_go, ↓dops_nil, ↓dopsX_nil, ↓dopsR_nil, ↓vdn, vup, extr_20, extr_21, extr_30, extr_31, extr_32, List.map_cons, List.map_nil, cond_true, cond_false, aop, aThen, aBlock, argEnv, ev, sput, sputO, binK, binI, unK, builtinK, pickK, Nat.reduceBEq, Nat.reduceAdd, Int.reduceBEq, Int.reduceBNe, Int.reduceLT, aPost, resK, tup, tyf])
      clear hN3
      try clear N3
      refine aws_cut fun N6 hN6 => ?_
      refine scores_first hR hv2 hs2 hl hx hae2 fun e' H' hE' he' => ?_
      refine hN6 [(1, sv), (4, .bool false), (7, .slice none 0 0), (8, .int .i64 4)] _ _ ?_ he'
      have hs3 := IntSl_ext hs2 hE'
      refine aws_cut fun N7 hN7 => ?_
      simp (maxSteps := 2000000) only [s16, ↓aw_region, ↓aw_skip, ↓aw_seq, ↓aw_block, ↓aw_exit, ↓aw_ret, ↓sops_nil, ↓sops_go, ↓dops_nil, ↓dopsX_nil, ↓dopsR_nil, ↓vdn, vup, extr_20, extr_21, extr_30, extr_31, extr_32, List.map_cons, List.map_nil, cond_true, cond_false, aop, aThen, aBlock, argEnv, ev, sput, sputO, binK, binI, unK, builtinK, pickK, Nat.reduceBEq, Nat.reduceAdd, Int.reduceBEq, Int.reduceBNe, Int.reduceLT, aPost, resK, tup, tyf, callK, List.nil_append, List.append_nil, List.toList_toArray, List.cons_append]
      refine (isscores_call hs3 hsl hsx).mono ?_
      rintro _ H' ⟨rfl, rfl⟩
      simp (maxSteps := 2000000) only [s16, ↓aw_region, ↓aw_skip, ↓aw_seq, ↓aw_block, ↓aw_exit, ↓aw_ret, ↓sops_nil, ↓sops_go, ↓dops_nil, ↓dopsX_nil, ↓dopsR_nil, ↓vdn, vup, extr_20, extr_21, extr_30, extr_31, extr_32, List.map_cons, List.map_nil, cond_true, cond_false, aop, aThen, aBlock, argEnv, ev, sput, sputO, binK, binI, unK, builtinK, pickK, Nat.reduceBEq, Nat.reduceAdd, Int.reduceBEq, Int.reduceBNe, Int.reduceLT, aPost, resK, tup, tyf, hS, Bool.not_true]
      refine hN7 [(1, sv), (4, .bool false), (7, .slice none 0 0), (8, .int .i64 4)] _ _ ?_ (by simp (maxSteps := 2000000) only [↓aw_region, ↓aw_skip, ↓aw_seq, ↓aw_block, ↓aw_exit, ↓aw_ret, ↓sops_nil, ↓sops_go, ↓dops_nil, ↓dopsX_nil, ↓dopsR_nil, ↓vdn, vup, extr_20, extr_21, extr_30, extr_31, extr_32, List.map_cons, List.map_nil, cond_true, cond_false, aop, aThen, aBlock, argEnv, ev, sput, sputO, binK, binI, unK, builtinK, pickK, Nat.reduceBEq, Nat.reduceAdd, Int.reduceBEq, Int.reduceBNe, Int.reduceLT, aPost, resK, tup, tyf])
      clear hN7
      try clear N7
      refine aws_cut fun N8 hN8 => ?_
      have hpc := possible_call hR ys.length (h := H') (v := sv) (L := nl ys) (by rw [hyn]; exact hs3) hnl hSx.1 hSx.2.1 hn64
      rw [hp] at hpc
      simp (maxSteps := 2000000) only [s16, ↓aw_region, ↓aw_skip, ↓aw_seq, ↓aw_block, ↓aw_exit, ↓aw_ret, ↓sops_nil, ↓sops_go, ↓dops_nil, ↓dopsX_nil, ↓dopsR_nil, ↓vdn, vup, extr_20, extr_21, extr_30, extr_31, extr_32, List.map_cons, List.map_nil, cond_true, cond_false, aop, aThen, aBlock, argEnv, ev, sput, sputO, binK, binI, unK, builtinK, pickK, Nat.reduceBEq, Nat.reduceAdd, Int.reduceBEq, Int.reduceBNe, Int.reduceLT, aPost, resK, tup, tyf, callK, List.nil_append, List.append_nil, List.toList_toArray, List.cons_append]
      refine (hpc).mono ?_
      rintro _ H2 ⟨hE2, rfl⟩
      simp (maxSteps := 2000000) only [s16, ↓aw_region, ↓aw_skip, ↓aw_seq, ↓aw_block, ↓aw_exit, ↓aw_ret, ↓sops_nil, ↓sops_go, ↓dops_nil, ↓dopsX_nil, ↓dopsR_nil, ↓vdn, vup, extr_20, extr_21, extr_30, extr_31, extr_32, List.map_cons, List.map_nil, cond_true, cond_false, aop, aThen, aBlock, argEnv, ev, sput, sputO, binK, binI, unK, builtinK, pickK, Nat.reduceBEq, Nat.reduceAdd, Int.reduceBEq, Int.reduceBNe, Int.reduceLT, aPost, resK, tup, tyf, Bool.not_false, l0, e00, e44]
    | true =>
      rw [hp, if_pos rfl] at hr2
      obtain ⟨w, ts, rfl, hw, httr, htl, hsc⟩ := hr2
      simp (maxSteps := 2000000) only [s16, ↓aw_region, ↓aw_skip, ↓aw_seq, ↓aw_block, ↓aw_exit, ↓aw_ret, ↓sops_nil, ↓sops_go, ↓dops_nil, ↓dopsX_nil, ↓dopsR_nil, ↓vdn, vup, extr_20, extr_21, extr_30, extr_31, extr_32, List.map_cons, List.map_nil, cond_true, cond_false, aop, aThen, aBlock, argEnv, ev, sput, sputO, binK, binI, unK, builtinK, pickK, Nat.reduceBEq, Nat.reduceAdd, Int.reduceBEq, Int.reduceBNe, Int.reduceLT, aPost, resK, tup, tyf]
      refine hN3 [(0, v), (1, sv), (4, .bool false), (5, a), (6, .int .i64 e), (7, w), (8, .int .i64 0)] _ _ ?_ (by simp (maxSteps := 2000000) only [↓aw_region, ↓aw_skip, ↓aw_seq, ↓aw_block, ↓aw_exit, ↓aw_ret, ↓sops_nil, ↓sops_go, ↓dops_nil, ↓dopsX_nil, ↓dopsR_nil, ↓vdn, vup, extr_20, extr_21, extr_30, extr_31, extr_32, List.map_cons, List.map_nil, cond_true, cond_false, aop, aThen, aBlock, argEnv, ev, sput, sputO, binK, binI, unK, builtinK, pickK, Nat.reduceBEq, Nat.reduceAdd, Int.reduceBEq, Int.reduceBNe, Int.reduceLT, aPost, resK, tup, tyf])
      clear hN3
      try clear N3
      refine aws_cut fun N9 hN9 => ?_
      refine scores_first hR hv2 hs2 hl hx hae2 fun e' H' hE' he' => ?_
      refine hN9 [(1, sv), (4, .bool false), (7, w), (8, .int .i64 0)] _ _ ?_ he'
      have hs3 := IntSl_ext hs2 hE'
      have hw3 := IntSl_ext hw hE'
      refine aws_cut fun N10 hN10 => ?_
      simp (maxSteps := 2000000) only [s16, ↓aw_region, ↓aw_skip, ↓aw_seq, ↓aw_block, ↓aw_exit, ↓aw_ret, ↓sops_nil, ↓sops_go, ↓dops_nil, ↓dopsX_nil, ↓dopsR_nil, ↓vdn, vup, extr_20, extr_21, extr_30, extr_31, extr_32, List.map_cons, List.map_nil, cond_true, cond_false, aop, aThen, aBlock, argEnv, ev, sput, sputO, binK, binI, unK, builtinK, pickK, Nat.reduceBEq, Nat.reduceAdd, Int.reduceBEq, Int.reduceBNe, Int.reduceLT, aPost, resK, tup, tyf, callK, List.nil_append, List.append_nil, List.toList_toArray, List.cons_append]
      refine (isscores_call hs3 hsl hsx).mono ?_
      rintro _ H' ⟨rfl, rfl⟩
      simp (maxSteps := 2000000) only [s16, ↓aw_region, ↓aw_skip, ↓aw_seq, ↓aw_block, ↓aw_exit, ↓aw_ret, ↓sops_nil, ↓sops_go, ↓dops_nil, ↓dopsX_nil, ↓dopsR_nil, ↓vdn, vup, extr_20, extr_21, extr_30, extr_31, extr_32, List.map_cons, List.map_nil, cond_true, cond_false, aop, aThen, aBlock, argEnv, ev, sput, sputO, binK, binI, unK, builtinK, pickK, Nat.reduceBEq, Nat.reduceAdd, Int.reduceBEq, Int.reduceBNe, Int.reduceLT, aPost, resK, tup, tyf, hS, Bool.not_true]
      refine hN10 [(1, sv), (4, .bool false), (7, w), (8, .int .i64 0)] _ _ ?_ (by simp (maxSteps := 2000000) only [↓aw_region, ↓aw_skip, ↓aw_seq, ↓aw_block, ↓aw_exit, ↓aw_ret, ↓sops_nil, ↓sops_go, ↓dops_nil, ↓dopsX_nil, ↓dopsR_nil, ↓vdn, vup, extr_20, extr_21, extr_30, extr_31, extr_32, List.map_cons, List.map_nil, cond_true, cond_false, aop, aThen, aBlock, argEnv, ev, sput, sputO, binK, binI, unK, builtinK, pickK, Nat.reduceBEq, Nat.reduceAdd, Int.reduceBEq, Int.reduceBNe, Int.reduceLT, aPost, resK, tup, tyf])
      clear hN10
      try clear N10
      refine aws_cut fun N11 hN11 => ?_
      have hpc := possible_call hR ys.length (h := H') (v := sv) (L := nl ys) (by rw [hyn]; exact hs3) hnl hSx.1 hSx.2.1 hn64
      rw [hp] at hpc
      simp (maxSteps := 2000000) only [s16, ↓aw_region, ↓aw_skip, ↓aw_seq, ↓aw_block, ↓aw_exit, ↓aw_ret, ↓sops_nil, ↓sops_go, ↓dops_nil, ↓dopsX_nil, ↓dopsR_nil, ↓vdn, vup, extr_20, extr_21, extr_30, extr_31, extr_32, List.map_cons, List.map_nil, cond_true, cond_false, aop, aThen, aBlock, argEnv, ev, sput, sputO, binK, binI, unK, builtinK, pickK, Nat.reduceBEq, Nat.reduceAdd, Int.reduceBEq, Int.reduceBNe, Int.reduceLT, aPost, resK, tup, tyf, callK, List.nil_append, List.append_nil, List.toList_toArray, List.cons_append]
      refine (hpc).mono ?_
      rintro _ H2 ⟨hE2, rfl⟩
      have hs4 := IntSl_ext hs3 hE2
      have hw4 := IntSl_ext hw3 hE2
      have hll : (((ts.length : Nat) : Int) != ((ys.length : Nat) : Int)) = false := by rw [htl, bne_self_eq_false]
      simp (maxSteps := 2000000) only [s16, ↓aw_region, ↓aw_skip, ↓aw_seq, ↓aw_block, ↓aw_exit, ↓aw_ret, ↓sops_nil, ↓sops_go, ↓dops_nil, ↓dopsX_nil, ↓dopsR_nil, ↓vdn, vup, extr_20, extr_21, extr_30, extr_31, extr_32, List.map_cons, List.map_nil, cond_true, cond_false, aop, aThen, aBlock, argEnv, ev, sput, sputO, binK, binI, unK, builtinK, pickK, Nat.reduceBEq, Nat.reduceAdd, Int.reduceBEq, Int.reduceBNe, Int.reduceLT, aPost, resK, tup, tyf, Bool.not_true]
      refine hN11 [(1, sv), (4, .bool false), (7, w), (8, .int .i64 0)] _ _ ?_ (by simp (maxSteps := 2000000) only [↓aw_region, ↓aw_skip, ↓aw_seq, ↓aw_block, ↓aw_exit, ↓aw_ret, ↓sops_nil, ↓sops_go, ↓dops_nil, ↓dopsX_nil, ↓dopsR_nil, ↓vdn, vup, extr_20, extr_21, extr_30, extr_31, extr_32, List.map_cons, List.map_nil, cond_true, cond_false, aop, aThen, aBlock, argEnv, ev, sput, sputO, binK, binI, unK, builtinK, pickK, Nat.reduceBEq, Nat.reduceAdd, Int.reduceBEq, Int.reduceBNe, Int.reduceLT, aPost, resK, tup, tyf])
      clear hN11
      try clear N11
      refine aws_cut fun N12 hN12 => ?_
      simp (maxSteps := 2000000) only [s16, ↓aw_region, ↓aw_skip, ↓aw_seq, ↓aw_block, ↓aw_exit, ↓aw_ret, ↓sops_nil, ↓sops_go, ↓dops_nil, ↓dopsX_nil, ↓dopsR_nil, ↓vdn, vup, extr_20, extr_21, extr_30, extr_31, extr_32, List.map_cons, List.map_nil, cond_true, cond_false, aop, aThen, aBlock, argEnv, ev, sput, sputO, binK, binI, unK, builtinK, pickK, Nat.reduceBEq, Nat.reduceAdd, Int.reduceBEq, Int.reduceBNe, Int.reduceLT, aPost, resK, tup, tyf, callK, List.nil_append, List.append_nil, List.toList_toArray, List.cons_append, n00, hw4.len, hs4.len, hll]
      refine (rvalid_call hw4 (by omega) (trn_rng16 httr)).mono ?_
      rintro _ H2 ⟨rfl, rfl⟩
      simp (maxSteps := 2000000) only [s16, ↓aw_region, ↓aw_skip, ↓aw_seq, ↓aw_block, ↓aw_exit, ↓aw_ret, ↓sops_nil, ↓sops_go, ↓dops_nil, ↓dopsX_nil, ↓dopsR_nil, ↓vdn, vup, extr_20, extr_21, extr_30, extr_31, extr_32, List.map_cons, List.map_nil, cond_true, cond_false, aop, aThen, aBlock, argEnv, ev, sput, sputO, binK, binI, unK, builtinK, pickK, Nat.reduceBEq, Nat.reduceAdd, Int.reduceBEq, Int.reduceBNe, Int.reduceLT, aPost, resK, tup, tyf, httr, Bool.not_true]
      refine hN12 [(1, sv), (4, .bool false), (7, w)] _ _ ?_ (by simp (maxSteps := 2000000) only [↓aw_region, ↓aw_skip, ↓aw_seq, ↓aw_block, ↓aw_exit, ↓aw_ret, ↓sops_nil, ↓sops_go, ↓dops_nil, ↓dopsX_nil, ↓dopsR_nil, ↓vdn, vup, extr_20, extr_21, extr_30, extr_31, extr_32, List.map_cons, List.map_nil, cond_true, cond_false, aop, aThen, aBlock, argEnv, ev, sput, sputO, binK, binI, unK, builtinK, pickK, Nat.reduceBEq, Nat.reduceAdd, Int.reduceBEq, Int.reduceBNe, Int.reduceLT, aPost, resK, tup, tyf])
      clear hN12
      try clear N12
      refine aws_cutW fun N13 hN13 => ?_
      refine score_loop hw4 hs4 httr htl hsc fun e2 he2 => ?_
      refine hN13 [(4, .bool false)] _ _ ?_ he2
      refine aw_aws ?_
      simp (maxSteps := 2000000) only [s16, ↓aw_region, ↓aw_skip, ↓aw_seq, ↓aw_block, ↓aw_exit, ↓aw_ret, ↓sops_nil, ↓sops_go, ↓dops_nil, ↓dopsX_nil, ↓dopsR_nil, ↓vdn, vup, extr_20, extr_21, extr_30, extr_31, extr_32, List.map_cons, List.map_nil, cond_true, cond_false, aop, aThen, aBlock, argEnv, ev, sput, sputO, binK, binI, unK, builtinK, pickK, Nat.reduceBEq, Nat.reduceAdd, Int.reduceBEq, Int.reduceBNe, Int.reduceLT, aPost, resK, tup, tyf]
end Go.Proofs.Tryd.Am

namespace Go.Am
set_option maxRecDepth 100000

/-- What is read: a slice, or nothing at all. -/
def Src (h : Heap) (w : Value) (zs : List Int) : Prop := IntSl h w zs ∨ (w = void ∧ zs = [])
/-- A slice that was begun since h0. -/
def Fr (e : TypeId) (h0 h : Heap) (v : Value) (xs : List Int) : Prop :=
  (OwnSl e h v xs ∨ (xs = [] ∧ ∃ b, v = .slice (some ⟨b, 0, none⟩) 0 0 ∧ h[b]? = some (.ints [] e false))) ∧ Ext (fun _ => False) h0 h ∧ ∀ b, blkOf v = some b → h0.length ≤ b
theorem Fr.own {e : TypeId} {h0 h : Heap} {v : Value} {xs : List Int} (f : Fr e h0 h v xs) (hx : xs ≠ []) : OwnSl e h v xs := f.1.resolve_right fun g => hx g.1
theorem put_none {e : TypeId} {h0 h : Heap} {v : Value} {xs : List Int} (f : Fr e h0 h v xs) {K : Value → Heap → Prop} (hk : K v h) : putK h e 1 8 v 0 [] K := by
  rcases f.1 with (⟨rfl, _⟩ | ⟨b, ys, rfl, hb⟩) | ⟨_, b, rfl, hb⟩
  · simp only [putK]; exact ⟨fun _ => hk, fun h => absurd rfl h⟩
  · simp only [putK]; exact ⟨fun _ => ⟨fun _ => hk, fun h => absurd rfl h⟩, fun h => by omega⟩
  · simp only [putK]; exact ⟨fun _ => ⟨fun _ => hk, fun h => absurd rfl h⟩, fun h => by omega⟩
theorem put_some {e : TypeId} {h0 h : Heap} {v : Value} {xs zs : List Int} (f : Fr e h0 h v xs) (hz : zs ≠ []) (hn : xs.length + zs.length < 1099511627776) {K : Value → Heap → Prop} (hk : ∀ v' h', Fr e h0 h' v' (xs ++ zs) → K v' h') : putK h e 1 8 v zs.length (zs.map vint) K := by
  have hpos : 0 < zs.length := List.length_pos_iff.2 hz
  have hone : (zs.map vint).all one = true := by rw [List.all_eq_true]; intro x hx; obtain ⟨y, _, rfl⟩ := List.mem_map.1 hx; rfl
  obtain ⟨f1, f2, f3⟩ := f
  have hl0 := f2.1
  rcases f1 with (⟨rfl, rfl⟩ | ⟨b, ys, rfl, hb⟩) | ⟨rfl, b, rfl, hb⟩
  · simp only [putK]
    refine ⟨fun h => by omega, fun _ => ⟨by omega, hk _ _ ⟨.inl (.inr ⟨h.length, [], by simp, ?_⟩), f2.trans (Ext.app _ _ _), fun b hb => ?_⟩⟩⟩
    · rw [get_new, mkb, intsOf_map']; simp
    · cases hb; exact hl0
  · have hbl := f3 b rfl
    simp only [putK, hb, intsOf_map']
    refine ⟨fun hroom => ⟨fun h => by omega, fun _ => ⟨hone, by simp; omega, ?_⟩⟩, fun hroom => ⟨by omega, trivial, hone, by simp [view, hb, Blk.view], ?_⟩⟩
    · refine hk _ _ ⟨.inl (.inr ⟨b, ys.drop zs.length, by simp; omega, ?_⟩), f2.set_ge hbl _, fun b' hb' => by cases hb'; exact hbl⟩
      have e1 : splice (xs ++ ys) (0 + xs.length * 1) zs = xs ++ zs ++ ys.drop zs.length := by
        rw [splice, Nat.zero_add, Nat.mul_one, List.take_left, List.drop_append, List.drop_eq_nil_of_le (by omega), List.nil_append, Nat.add_sub_cancel_left]
      rw [get_set (get_lt hb), e1]
    · simp only [cellsK, hb]
      refine ⟨by simp, hk _ _ ⟨.inl (.inr ⟨h.length, [], by simp, ?_⟩), (f2.set_ge hbl _).trans (Ext.app _ _ _), fun b' hb' => by cases hb'; exact hl0⟩⟩
      rw [List.getElem?_append_right (by simp)]
      have : intsOf (List.map vint (List.take (xs.length * 1) (List.drop 0 (xs ++ ys))) ++ List.map vint zs) = some (xs ++ zs) := by
        rw [← List.map_append, List.drop_zero, Nat.mul_one, List.take_left]; exact intsOf_map' _
      simp only [mkb, List.length_set, Nat.sub_self, List.getElem?_cons_zero, List.append_nil, this]
  · simp only [putK]
    refine ⟨fun h => by omega, fun _ => ⟨by omega, ?_⟩⟩
    simp only [cellsK, hb]
    refine ⟨by simp, hk _ _ ⟨.inl (.inr ⟨h.length, [], by simp, ?_⟩), f2.trans (Ext.app _ _ _), fun b' hb' => by cases hb'; exact hl0⟩⟩
    rw [get_new]; simp [mkb, intsOf_map']
theorem Fr.app {P : Program} {e t t2 : TypeId} {h0 h : Heap} {v w : Value} {xs zs : List Int} (f : Fr e h0 h v xs) (hw : Src h w zs) (hT : appT P t t2 = some (e, 1, 8)) (hn : xs.length + zs.length < 1099511627776) {K : Value → Heap → Prop} (hk : ∀ v' h', Fr e h0 h' v' (xs ++ zs) → K v' h') : appendK P h t t2 v w K := by
  simp only [appendK, hT]
  have h0k : zs = [] → putK h e 1 8 v 0 [] K := fun hz => put_none f (by subst hz; have := hk v h; rw [List.append_nil] at this; exact this f)
  rcases hw with hw | ⟨rfl, hz⟩
  · rcases Classical.em (zs = []) with hz | hz
    · have h1 := h0k hz
      subst hz
      rcases hw with ⟨rfl, _⟩ | ⟨b, o, sp, cap, c, e', ro, rfl, hc, hb, _⟩
      · exact ⟨rfl, h1⟩
      · exact ⟨fun _ => h1, fun h => absurd rfl h⟩
    · have hw' := hw
      rcases hw with ⟨_, h1⟩ | ⟨b, o, sp, cap, c, e', ro, rfl, hc, hb, _⟩
      · exact absurd h1 hz
      · exact ⟨fun h => absurd (List.length_eq_zero_iff.1 h) hz, fun _ => hw'.cells hz b o sp _ cap rfl (put_some f hz hn hk)⟩
  · exact h0k hz
/-- The end of one of our own. -/
theorem OwnSl.suf {P : Program} {e t : TypeId} {h : Heap} {v : Value} {xs : List Int} {m : Nat} (ho : OwnSl e h v xs) (he : elemOf' P t = some e) (hs : esz P e = some 1) (hm : m ≤ xs.length) {K : Value → Prop} (hk : ∀ w, Src h w (xs.drop m) → K w) : sliceK P t v (some (vint m)) none none K := by
  have hi := ho.int
  rcases ho with ⟨rfl, rfl⟩ | ⟨b, ys, rfl, hb⟩
  · simp only [List.length_nil, Nat.le_zero_eq] at hm
    subst hm
    show _ ∧ _ ∧ _ ∧ _ ∧ _
    exact ⟨by simp [he, hs], rfl, rfl, rfl, hk _ (.inl (.inl ⟨rfl, rfl⟩))⟩
  · simp only [sliceK, he, hs, bnd]
    refine ⟨by omega, by omega, by omega, fun h => (by cases h), fun _ => ?_⟩
    by_cases h0 : m = 0
    · subst h0
      refine .inl ⟨rfl, hk _ (.inl ?_)⟩
      rw [List.drop_zero, Int.toNat_natCast]; exact hi
    · refine .inr ⟨by omega, ?_⟩
      by_cases hl : m < xs.length
      · refine .inl ⟨by omega, by omega, hk _ (.inl (.inr ⟨b, 0 + m * 1, some 0, xs.length + ys.length - m, (xs ++ ys).map vint, e, false, ?_, ?_, by simp [view, hb, Blk.view], fun i hi' => ?_⟩))⟩
        · simp <;> omega
        · simp <;> omega
        · rw [List.length_drop] at hi'
          rw [List.getElem?_map, List.getElem?_append_left (by omega)]
          simp only [Nat.mul_one, Nat.zero_add, List.getD, List.getElem?_drop]
          rw [List.getElem?_eq_getElem (by omega)]; rfl
      · refine .inr ⟨by omega, hk _ (.inr ⟨rfl, List.drop_eq_nil_of_le (by omega)⟩)⟩
end Go.Am
