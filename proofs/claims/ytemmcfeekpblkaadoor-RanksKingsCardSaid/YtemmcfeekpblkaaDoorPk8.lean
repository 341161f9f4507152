/-
  ranks: the parts, as the program finds them: the walk over the map; the whole.
  ranks: the parts, as the program finds them: the whole.
  ranks: the law RanksKings.
-/
import Derived.Test.YtemmcfeekpblkaaDoorPk7
import Derived.Test.YtemmcfeekpblkaaDoorPk6
set_option linter.all false
namespace Go.Proofs.Tryd.Am
open Go.Am Rb Rch
set_option maxRecDepth 100000
set_option maxHeartbeats 1000000

/-- What the walk over the map stands on: the reaches met so far, behind what lies up to the walk's own block. -/
structure WK (h hq : Heap) (bm it : Nat) (l : List (Int × Int)) (w0 : Value) (seen : List Nat) : Prop where
  E : Ext (fun _ => False) h hq
  m : hq[bm]? = some (.map (mI l))
  i : hq[it]? = some (.iter bm l.length seen l.length)
  own : OwnSl 3 hq w0 (iL (seen.map fun j => (l.getD j (0, 0)).1.toNat))
  blk : ∀ b, blkOf w0 = some b → it < b
  nodup : seen.Nodup
  lt : ∀ j ∈ seen, j < l.length
  le : h.length ≤ bm ∧ bm < it
theorem WK.step {h hq : Heap} {bm it : Nat} {l : List (Int × Int)} {w0 : Value} {seen : List Nat} (k : WK h hq bm it l w0 seen) {j : Nat} (hj : j < l.length) (hn : j ∉ seen) (hl : l.length ≤ 8) {K : Value → Heap → Prop}
    (hk : ∀ v' h', WK h h' bm it l v' (seen ++ [j]) → K v' h') :
    appendK prog (hq.set it (.iter bm l.length (seen ++ [j]) l.length) ++ [.ints [(((l.getD j (0, 0)).1.toNat : Nat) : Int)] 3 false]) 22 22 w0 (.slice (some ⟨(hq.set it (.iter bm l.length (seen ++ [j]) l.length)).length, 0, none⟩) 1 1) K := by
  have hil := get_lt k.i
  have hml := get_lt k.m
  have hbi := k.le
  have hsl : seen.length ≤ l.length := by
    have := nodup_le k.nodup (m := List.range l.length) (fun x hx => List.mem_range.2 (k.lt x hx))
    rw [List.length_range] at this; exact this
  generalize hg : hq.set it (.iter bm l.length (seen ++ [j]) l.length) = g
  have hgl : g.length = hq.length := by rw [← hg]; simp
  have g1 : ∀ b, b ≠ it → g[b]? = hq[b]? := fun b hb => by rw [← hg, List.getElem?_set_ne (Ne.symm hb)]
  have gi : g[it]? = some (.iter bm l.length (seen ++ [j]) l.length) := by rw [← hg]; exact get_set hil _
  have rs : RSI (g.take (it + 1)) g w0 (iL (seen.map fun j => (l.getD j (0, 0)).1.toNat)) := by
    refine ⟨k.own.ext (S := fun b => b = it) ⟨by omega, fun b _ hb => g1 b hb⟩ (fun b hb e => by have := k.blk b hb; omega), ⟨by simp; omega, fun b hb _ => ?_⟩, fun b hb => by have := k.blk b hb; simp; omega⟩
    rw [List.getElem?_take, if_pos (by simp at hb; omega)]
  refine rs.push (by rw [iL_len, List.length_map]; omega) fun v' h' s' => hk v' h' ?_
  obtain ⟨o, e, b⟩ := s'
  have keep : ∀ c, c ≤ it → h'[c]? = g[c]? := fun c hc => by
    rw [e.2 c (by simp; omega) id, List.getElem?_take, if_pos (by omega)]
  have hhl : it < h'.length := by have := e.1; simp at this; omega
  refine ⟨⟨by have := k.E.1; omega, fun c hc _ => ?_⟩, ?_, ?_, ?_, fun c hc => by have := b c hc; simp at this; omega, ?_, fun x hx => ?_, k.le⟩
  · rw [keep c (by omega), g1 c (by omega)]; exact k.E.2 c hc id
  · rw [keep bm (by omega), g1 bm (by omega)]; exact k.m
  · rw [keep it (Nat.le_refl _)]; exact gi
  · rw [List.map_append]
    have e2 : iL (List.map (fun j => (l.getD j (0, 0)).1.toNat) seen ++ List.map (fun j => (l.getD j (0, 0)).1.toNat) [j]) = iL (seen.map fun j => (l.getD j (0, 0)).1.toNat) ++ [(((l.getD j (0, 0)).1.toNat : Nat) : Int)] := by
      simp [iL]
    rw [e2]; exact o
  · exact List.nodup_append.2 ⟨k.nodup, by simp, fun a ha b hb => by rw [List.mem_singleton.1 hb]; exact fun e => hn (e ▸ ha)⟩
  · rcases List.mem_append.1 hx with hx | hx
    · exact k.lt x hx
    · rw [List.mem_singleton.1 hx]; exact hj

theorem s49_callW [Tabs Tryd.prog] {args : List Value} {h : Heap} {Q : Value → Heap → Prop} (hsz : args.length ≤ 57) (hk : AWS Tryd.prog 57 s49 (aPost Tryd.prog [.tmp 2, .tmp 3] Q) (argEnv 0 args) h) : ACall Tryd.prog 49 args h Q :=
  acall_w Tryd.func49 rfl (enters_of Tryd.func49 (by kernel_rfl) rfl) rfl rfl (by decide) s49_strip s49_ok hsz hk
theorem parts_walk [Tabs prog] {h hp : Heap} {v : Value} {xs : List Int} {bm : Nat} (hxl : 1 ≤ xs.length ∧ xs.length ≤ 8) (hE : Ext (fun _ => False) h hp) (hm : hp[bm]? = some (.map (mI (pm xs xs.length)))) (hbm : h.length ≤ bm) {Q0 : Exit → Env → Heap → Prop}
    (hN : ∀ hq w0 L e, Ext (fun _ => False) h hq → hq[bm]? = some (.map (mI (pm xs xs.length))) → OwnSl 3 hq w0 (iL L) → L.Perm (kyL xs) → (∀ b, blkOf w0 = some b → h.length ≤ b ∧ bm < b) → ELe e [(0, v), (4, v), (5, .map (some bm)), (7, w0)] → Q0 .normal e hq) :
    AWS prog 57 (.seq q49_11 (.block 2 (.loop l49_1))) Q0 [(0, v), (4, v), (5, .map (some bm)), (7, .slice none 0 0)] hp := by
  obtain ⟨l, hl⟩ : ∃ l, l = pm xs xs.length := ⟨_, rfl⟩
  rw [← hl] at hm hN
  have hl8 : l.length ≤ 8 := by rw [hl]; have := pm_len xs xs.length; omega
  have hlne : l ≠ [] := fun e => by
    have := (kyL_mem xs (rch xs 0)).2 ⟨0, by omega, rfl⟩
    rw [kyL, ← hl, e] at this; cases this
  have hkl : kyL xs = (List.range l.length).map fun j => (l.getD j (0, 0)).1.toNat := by
    rw [kyL, ← hl]
    apply List.ext_getElem (by simp)
    intro i h1 h2
    have : i < l.length := by simpa using h1
    simp [List.getD, List.getElem?_eq_getElem this]
  have hky : ∀ j, j < l.length → (l.getD j (0, 0)).1 = (((l.getD j (0, 0)).1.toNat : Nat) : Int) := fun j hj => by
    have hmem : (l.getD j (0, 0)).1 ∈ (pm xs xs.length).map (·.1) := by
      rw [← hl, List.getD, List.getElem?_eq_getElem hj]; exact List.mem_map_of_mem (List.getElem_mem hj)
    obtain ⟨i, _, e⟩ := ((pm_keys xs xs.length).2 _).1 hmem
    rw [e]; rfl
  refine aws_cut fun Z hZ => ?_
  simp (maxSteps := 2000000) only [s49, ↓aw_region, ↓aw_skip, ↓aw_seq, ↓aw_block, ↓aw_exit, ↓aw_ret, ↓sops_nil, ↓sops_go, ↓dops_nil, ↓dopsX_nil, ↓dopsR_nil, ↓vdn, vup, extr_20, extr_21, extr_30, extr_31, extr_32, List.map_cons, List.map_nil, cond_true, cond_false, aop, aThen, aBlock, argEnv, ev, sput, sputO, binK, binI, unK, builtinK, pickK, Nat.reduceBEq, Nat.reduceAdd, Int.reduceBEq, Int.reduceBNe, Int.reduceLT, aPost, resK, tup, tyf, isPick_map, rangeI hm und_75]
  refine hZ [(0, v), (4, v), (5, .map (some bm)), (7, .slice none 0 0), (32, .pointer (some ⟨hp.length, 0, none⟩))] _ _ ?_ (by simp (maxSteps := 2000000) only [↓aw_region, ↓aw_skip, ↓aw_seq, ↓aw_block, ↓aw_exit, ↓aw_ret, ↓sops_nil, ↓sops_go, ↓dops_nil, ↓dopsX_nil, ↓dopsR_nil, ↓vdn, vup, extr_20, extr_21, extr_30, extr_31, extr_32, List.map_cons, List.map_nil, cond_true, cond_false, aop, aThen, aBlock, argEnv, ev, sput, sputO, binK, binI, unK, builtinK, pickK, Nat.reduceBEq, Nat.reduceAdd, Int.reduceBEq, Int.reduceBNe, Int.reduceLT, aPost, resK, tup, tyf])
  clear hZ
  try clear Z
  have hbl := get_lt hm
  obtain ⟨g, hg⟩ : ∃ g, g = hp ++ [Blk.iter bm l.length [] l.length] := ⟨_, rfl⟩
  have hEg : Ext (fun _ => False) h g := by rw [hg]; exact hE.trans (Ext.app _ _ _)
  have hmg : g[bm]? = some (.map (mI l)) := by rw [hg]; exact get_old hm _
  have hig : g[hp.length]? = some (.iter bm l.length [] l.length) := by rw [hg]; exact get_new _ _
  rw [← hg]
  clear hg
  generalize hit : hp.length = it at *
  refine aws_block ?_
  refine aws_hide fun Q hQ => ?_
  refine aw_loopW (γ := Heap × Value × List Nat) (fun s => WK h s.1 bm it l s.2.1 s.2.2)
    (fun s => ([(0, v), (4, v), (5, .map (some bm)), (7, s.2.1), (32, .pointer (some ⟨it, 0, none⟩))], s.1)) (fun s => l.length - s.2.2.length) (g, .slice none 0 0, []) ⟨hEg, hmg, hig, .inl ⟨rfl, rfl⟩, (fun b hb => by cases hb), List.nodup_nil, (fun j hj => by cases hj), ⟨hbm, hbl⟩⟩ (by simp (maxSteps := 2000000) only [↓aw_region, ↓aw_skip, ↓aw_seq, ↓aw_block, ↓aw_exit, ↓aw_ret, ↓sops_nil, ↓sops_go, ↓dops_nil, ↓dopsX_nil, ↓dopsR_nil, ↓vdn, vup, extr_20, extr_21, extr_30, extr_31, extr_32, List.map_cons, List.map_nil, cond_true, cond_false, aop, aThen, aBlock, argEnv, ev, sput, sputO, binK, binI, unK, builtinK, pickK, Nat.reduceBEq, Nat.reduceAdd, Int.reduceBEq, Int.reduceBNe, Int.reduceLT, aPost, resK, tup, tyf]) rfl ?_
  clear hEg hmg hig
  rintro ⟨hq, w0, seen⟩ k
  simp only at k
  refine aws_hide fun Q2 hQ2 => ?_
  simp only [l49_1]
  refine aws_cut fun Y hY => ?_
  simp (maxSteps := 2000000) only [s49, ↓aw_region, ↓aw_skip, ↓aw_seq, ↓aw_block, ↓aw_exit, ↓aw_ret, ↓sops_nil, ↓sops_go, ↓dops_nil, ↓dopsX_nil, ↓dopsR_nil, ↓vdn, vup, extr_20, extr_21, extr_30, extr_31, extr_32, List.map_cons, List.map_nil, cond_true, cond_false, aop, aThen, aBlock, argEnv, ev, sput, sputO, binK, binI, unK, builtinK, pickK, Nat.reduceBEq, Nat.reduceAdd, Int.reduceBEq, Int.reduceBNe, Int.reduceLT, aPost, resK, tup, tyf, isPick_map, nextI k.i k.m hlne, extr_10]
  refine ⟨fun j hj hn => ?_, fun hall => ?_⟩
  · refine hY [(0, v), (4, v), (5, .map (some bm)), (7, w0), (32, .pointer (some ⟨it, 0, none⟩)), (34, .bool true)] _ _ ?_ (by simp (maxSteps := 2000000) only [↓aw_region, ↓aw_skip, ↓aw_seq, ↓aw_block, ↓aw_exit, ↓aw_ret, ↓sops_nil, ↓sops_go, ↓dops_nil, ↓dopsX_nil, ↓dopsR_nil, ↓vdn, vup, extr_20, extr_21, extr_30, extr_31, extr_32, List.map_cons, List.map_nil, cond_true, cond_false, aop, aThen, aBlock, argEnv, ev, sput, sputO, binK, binI, unK, builtinK, pickK, Nat.reduceBEq, Nat.reduceAdd, Int.reduceBEq, Int.reduceBNe, Int.reduceLT, aPost, resK, tup, tyf])
    clear hY
    try clear Y
    refine aws_cut fun N1 hN1 => ?_
    simp (maxSteps := 2000000) only [s49, ↓aw_region, ↓aw_skip, ↓aw_seq, ↓aw_block, ↓aw_exit, ↓aw_ret, ↓sops_nil, ↓sops_go, ↓dops_nil, ↓dopsX_nil, ↓dopsR_nil, ↓vdn, vup, extr_20, extr_21, extr_30, extr_31, extr_32, List.map_cons, List.map_nil, cond_true, cond_false, aop, aThen, aBlock, argEnv, ev, sput, sputO, binK, binI, unK, builtinK, pickK, Nat.reduceBEq, Nat.reduceAdd, Int.reduceBEq, Int.reduceBNe, Int.reduceLT, aPost, resK, tup, tyf]
    refine hN1 [(0, v), (4, v), (5, .map (some bm)), (7, w0), (32, .pointer (some ⟨it, 0, none⟩))] _ _ ?_ (by simp (maxSteps := 2000000) only [↓aw_region, ↓aw_skip, ↓aw_seq, ↓aw_block, ↓aw_exit, ↓aw_ret, ↓sops_nil, ↓sops_go, ↓dops_nil, ↓dopsX_nil, ↓dopsR_nil, ↓vdn, vup, extr_20, extr_21, extr_30, extr_31, extr_32, List.map_cons, List.map_nil, cond_true, cond_false, aop, aThen, aBlock, argEnv, ev, sput, sputO, binK, binI, unK, builtinK, pickK, Nat.reduceBEq, Nat.reduceAdd, Int.reduceBEq, Int.reduceBNe, Int.reduceLT, aPost, resK, tup, tyf])
    clear hN1
    try clear N1
    refine aws_block ?_
    have hi2 : (hq.set it (.iter bm l.length (seen ++ [j]) l.length))[it]? = some (.iter bm l.length (seen ++ [j]) l.length) := get_set (get_lt k.i) _
    have hm2 : (hq.set it (.iter bm l.length (seen ++ [j]) l.length))[bm]? = some (.map (mI l)) := by rw [List.getElem?_set_ne (by omega)]; exact k.m
    refine aws_cut fun N2 hN2 => ?_
    simp (maxSteps := 2000000) only [s49, ↓aw_region, ↓aw_skip, ↓aw_seq, ↓aw_block, ↓aw_exit, ↓aw_ret, ↓sops_nil, ↓sops_go, ↓dops_nil, ↓dopsX_nil, ↓dopsR_nil, ↓vdn, vup, extr_20, extr_21, extr_30, extr_31, extr_32, List.map_cons, List.map_nil, cond_true, cond_false, aop, aThen, aBlock, argEnv, ev, sput, sputO, binK, binI, unK, builtinK, pickK, Nat.reduceBEq, Nat.reduceAdd, Int.reduceBEq, Int.reduceBNe, Int.reduceLT, aPost, resK, tup, tyf, isPick_map, entryI hi2 hm2 hj]
    rw [hky j hj]
    refine hN2 [(0, v), (4, v), (5, .map (some bm)), (7, w0), (8, vint ((l.getD j (0, 0)).1.toNat : Nat)), (32, .pointer (some ⟨it, 0, none⟩))] _ _ ?_ (by simp (maxSteps := 2000000) only [↓aw_region, ↓aw_skip, ↓aw_seq, ↓aw_block, ↓aw_exit, ↓aw_ret, ↓sops_nil, ↓sops_go, ↓dops_nil, ↓dopsX_nil, ↓dopsR_nil, ↓vdn, vup, extr_20, extr_21, extr_30, extr_31, extr_32, List.map_cons, List.map_nil, cond_true, cond_false, aop, aThen, aBlock, argEnv, ev, sput, sputO, binK, binI, unK, builtinK, pickK, Nat.reduceBEq, Nat.reduceAdd, Int.reduceBEq, Int.reduceBNe, Int.reduceLT, aPost, resK, tup, tyf])
    clear hN2
    try clear N2
    have kst := fun {K} => k.step (K := K) hj hn hl8
    generalize hq.set it (.iter bm l.length (seen ++ [j]) l.length) = g2 at kst ⊢
    generalize (((l.getD j (0, 0)).1.toNat : Nat) : Int) = z at kst ⊢
    refine aw_aws ?_
    simp (maxSteps := 2000000) only [s49, ↓aw_region, ↓aw_skip, ↓aw_seq, ↓aw_block, ↓aw_exit, ↓aw_ret, ↓sops_nil, ↓sops_go, ↓dops_nil, ↓dopsX_nil, ↓dopsR_nil, ↓vdn, vup, extr_20, extr_21, extr_30, extr_31, extr_32, List.map_cons, List.map_nil, cond_true, cond_false, aop, aThen, aBlock, argEnv, ev, sput, sputO, binK, binI, unK, builtinK, pickK, Nat.reduceBEq, Nat.reduceAdd, Int.reduceBEq, Int.reduceBNe, Int.reduceLT, aPost, resK, tup, tyf, litI1]
    refine kst fun v' h' k' => ?_
    have hsl : seen.length < l.length := by
      have := nodup_le k'.nodup (m := List.range l.length) (fun x hx => List.mem_range.2 (k'.lt x hx))
      rw [List.length_range, List.length_append, List.length_singleton] at this; omega
    exact hQ2 _ _ _ ⟨(h', v', seen ++ [j]), k', by simp only [List.length_append, List.length_singleton]; omega, by simp (maxSteps := 2000000) only [↓aw_region, ↓aw_skip, ↓aw_seq, ↓aw_block, ↓aw_exit, ↓aw_ret, ↓sops_nil, ↓sops_go, ↓dops_nil, ↓dopsX_nil, ↓dopsR_nil, ↓vdn, vup, extr_20, extr_21, extr_30, extr_31, extr_32, List.map_cons, List.map_nil, cond_true, cond_false, aop, aThen, aBlock, argEnv, ev, sput, sputO, binK, binI, unK, builtinK, pickK, Nat.reduceBEq, Nat.reduceAdd, Int.reduceBEq, Int.reduceBNe, Int.reduceLT, aPost, resK, tup, tyf], rfl⟩
  · refine hY [(0, v), (4, v), (5, .map (some bm)), (7, w0), (32, .pointer (some ⟨it, 0, none⟩)), (34, .bool false)] _ _ ?_ (by simp (maxSteps := 2000000) only [↓aw_region, ↓aw_skip, ↓aw_seq, ↓aw_block, ↓aw_exit, ↓aw_ret, ↓sops_nil, ↓sops_go, ↓dops_nil, ↓dopsX_nil, ↓dopsR_nil, ↓vdn, vup, extr_20, extr_21, extr_30, extr_31, extr_32, List.map_cons, List.map_nil, cond_true, cond_false, aop, aThen, aBlock, argEnv, ev, sput, sputO, binK, binI, unK, builtinK, pickK, Nat.reduceBEq, Nat.reduceAdd, Int.reduceBEq, Int.reduceBNe, Int.reduceLT, aPost, resK, tup, tyf])
    clear hY
    try clear Y
    refine aw_aws ?_
    simp (maxSteps := 2000000) only [s49, ↓aw_region, ↓aw_skip, ↓aw_seq, ↓aw_block, ↓aw_exit, ↓aw_ret, ↓sops_nil, ↓sops_go, ↓dops_nil, ↓dopsX_nil, ↓dopsR_nil, ↓vdn, vup, extr_20, extr_21, extr_30, extr_31, extr_32, List.map_cons, List.map_nil, cond_true, cond_false, aop, aThen, aBlock, argEnv, ev, sput, sputO, binK, binI, unK, builtinK, pickK, Nat.reduceBEq, Nat.reduceAdd, Int.reduceBEq, Int.reduceBNe, Int.reduceLT, aPost, resK, tup, tyf]
    refine hQ2 _ _ _ (hQ _ _ _ ?_)
    simp (maxSteps := 2000000) only [s49, ↓aw_region, ↓aw_skip, ↓aw_seq, ↓aw_block, ↓aw_exit, ↓aw_ret, ↓sops_nil, ↓sops_go, ↓dops_nil, ↓dopsX_nil, ↓dopsR_nil, ↓vdn, vup, extr_20, extr_21, extr_30, extr_31, extr_32, List.map_cons, List.map_nil, cond_true, cond_false, aop, aThen, aBlock, argEnv, ev, sput, sputO, binK, binI, unK, builtinK, pickK, Nat.reduceBEq, Nat.reduceAdd, Int.reduceBEq, Int.reduceBNe, Int.reduceLT, aPost, resK, tup, tyf, if_true]
    refine hN hq w0 _ _ k.E k.m k.own ?_ (fun b hb => by have := k.blk b hb; have := k.le; omega) (by simp (maxSteps := 2000000) only [↓aw_region, ↓aw_skip, ↓aw_seq, ↓aw_block, ↓aw_exit, ↓aw_ret, ↓sops_nil, ↓sops_go, ↓dops_nil, ↓dopsX_nil, ↓dopsR_nil, ↓vdn, vup, extr_20, extr_21, extr_30, extr_31, extr_32, List.map_cons, List.map_nil, cond_true, cond_false, aop, aThen, aBlock, argEnv, ev, sput, sputO, binK, binI, unK, builtinK, pickK, Nat.reduceBEq, Nat.reduceAdd, Int.reduceBEq, Int.reduceBNe, Int.reduceLT, aPost, resK, tup, tyf])
    rw [hkl]
    refine List.Perm.map _ ?_
    have hlen : seen.length = l.length := by
      have h1 := nodup_le (l := List.range l.length) (m := seen) List.nodup_range (fun x hx => hall x (List.mem_range.1 hx))
      have h2 := nodup_le k.nodup (m := List.range l.length) (fun x hx => List.mem_range.2 (k.lt x hx))
      rw [List.length_range] at h1 h2; omega
    exact (List.perm_ext_iff_of_nodup k.nodup List.nodup_range).2 fun x => ⟨fun hx => List.mem_range.2 (k.lt x hx), fun hx => hall x (List.mem_range.1 hx)⟩
end Go.Proofs.Tryd.Am

namespace Go.Proofs.Tryd.Am
open Go.Am Rb Rch
set_option maxRecDepth 100000
set_option maxHeartbeats 1000000

theorem iL_take_succ {L : List Nat} {j : Nat} (hj : j < L.length) (f : Nat → Nat) : iL ((L.take (j + 1)).map f) = iL ((L.take j).map f) ++ [((f (L.getD j 0) : Nat) : Int)] := by
  have e : L.take (j + 1) = L.take j ++ [L.getD j 0] := by rw [List.take_add_one, List.getD, List.getElem?_eq_getElem hj]; rfl
  rw [e, List.map_append, iL, List.map_append]; rfl
theorem parts_call [BitTab prog 1] {h : Heap} {v : Value} {xs : List Int} (hv : IntSl h v xs) (hl : xs.length < 9223372036854775808) (hx : ∀ x ∈ xs, -9223372036854775808 ≤ x ∧ x < 9223372036854775808) :
    ACall prog 49 [v] h fun r h' => Ext (fun _ => False) h h' ∧ if trn xs = true then ∃ w, r = .tuple #[w, .int .i64 0] ∧ OwnSl 3 h' w (iL (prts xs)) else r = .tuple #[.slice none 0 0, .int .i64 2] := by
  refine s49_callW (by simp) ?_
  simp only [s49]
  refine aws_cut fun N1 hN1 => ?_
  simp (maxSteps := 2000000) only [s49, ↓aw_region, ↓aw_skip, ↓aw_seq, ↓aw_block, ↓aw_exit, ↓aw_ret, ↓sops_nil, ↓sops_go, ↓dops_nil, ↓dopsX_nil, ↓dopsR_nil, ↓vdn, vup, extr_20, extr_21, extr_30, extr_31, extr_32, List.map_cons, List.map_nil, cond_true, cond_false, aop, aThen, aBlock, argEnv, ev, sput, sputO, binK, binI, unK, builtinK, pickK, Nat.reduceBEq, Nat.reduceAdd, Int.reduceBEq, Int.reduceBNe, Int.reduceLT, aPost, resK, tup, tyf]
  refine hN1 [(0, v), (2, .slice none 0 0), (3, .int .i64 0)] _ _ ?_ (by simp (maxSteps := 2000000) only [↓aw_region, ↓aw_skip, ↓aw_seq, ↓aw_block, ↓aw_exit, ↓aw_ret, ↓sops_nil, ↓sops_go, ↓dops_nil, ↓dopsX_nil, ↓dopsR_nil, ↓vdn, vup, extr_20, extr_21, extr_30, extr_31, extr_32, List.map_cons, List.map_nil, cond_true, cond_false, aop, aThen, aBlock, argEnv, ev, sput, sputO, binK, binI, unK, builtinK, pickK, Nat.reduceBEq, Nat.reduceAdd, Int.reduceBEq, Int.reduceBNe, Int.reduceLT, aPost, resK, tup, tyf])
  clear hN1
  try clear N1
  refine aws_cut fun N2 hN2 => ?_
  simp (maxSteps := 2000000) only [s49, ↓aw_region, ↓aw_skip, ↓aw_seq, ↓aw_block, ↓aw_exit, ↓aw_ret, ↓sops_nil, ↓sops_go, ↓dops_nil, ↓dopsX_nil, ↓dopsR_nil, ↓vdn, vup, extr_20, extr_21, extr_30, extr_31, extr_32, List.map_cons, List.map_nil, cond_true, cond_false, aop, aThen, aBlock, argEnv, ev, sput, sputO, binK, binI, unK, builtinK, pickK, Nat.reduceBEq, Nat.reduceAdd, Int.reduceBEq, Int.reduceBNe, Int.reduceLT, aPost, resK, tup, tyf]
  refine hN2 [(0, v), (2, .slice none 0 0), (3, .int .i64 0), (4, v)] _ _ ?_ (by simp (maxSteps := 2000000) only [↓aw_region, ↓aw_skip, ↓aw_seq, ↓aw_block, ↓aw_exit, ↓aw_ret, ↓sops_nil, ↓sops_go, ↓dops_nil, ↓dopsX_nil, ↓dopsR_nil, ↓vdn, vup, extr_20, extr_21, extr_30, extr_31, extr_32, List.map_cons, List.map_nil, cond_true, cond_false, aop, aThen, aBlock, argEnv, ev, sput, sputO, binK, binI, unK, builtinK, pickK, Nat.reduceBEq, Nat.reduceAdd, Int.reduceBEq, Int.reduceBNe, Int.reduceLT, aPost, resK, tup, tyf])
  clear hN2
  try clear N2
  refine aws_cut fun N3 hN3 => ?_
  simp (maxSteps := 2000000) only [s49, ↓aw_region, ↓aw_skip, ↓aw_seq, ↓aw_block, ↓aw_exit, ↓aw_ret, ↓sops_nil, ↓sops_go, ↓dops_nil, ↓dopsX_nil, ↓dopsR_nil, ↓vdn, vup, extr_20, extr_21, extr_30, extr_31, extr_32, List.map_cons, List.map_nil, cond_true, cond_false, aop, aThen, aBlock, argEnv, ev, sput, sputO, binK, binI, unK, builtinK, pickK, Nat.reduceBEq, Nat.reduceAdd, Int.reduceBEq, Int.reduceBNe, Int.reduceLT, aPost, resK, tup, tyf, callK, List.nil_append, List.append_nil, List.toList_toArray, List.cons_append]
  refine (valid_call hv hl hx).mono ?_
  rintro _ h ⟨rfl, rfl⟩
  cases ht : trn xs with
  | false =>
    simp (maxSteps := 2000000) only [s49, ↓aw_region, ↓aw_skip, ↓aw_seq, ↓aw_block, ↓aw_exit, ↓aw_ret, ↓sops_nil, ↓sops_go, ↓dops_nil, ↓dopsX_nil, ↓dopsR_nil, ↓vdn, vup, extr_20, extr_21, extr_30, extr_31, extr_32, List.map_cons, List.map_nil, cond_true, cond_false, aop, aThen, aBlock, argEnv, ev, sput, sputO, binK, binI, unK, builtinK, pickK, Nat.reduceBEq, Nat.reduceAdd, Int.reduceBEq, Int.reduceBNe, Int.reduceLT, aPost, resK, tup, tyf, Bool.not_false]
    exact ⟨Ext.refl _ _, by rw [if_neg (by decide)]; trivial⟩
  | true =>
  have hxl := trn_len ht
  have h256 := pow8N hxl.2
  simp (maxSteps := 2000000) only [s49, ↓aw_region, ↓aw_skip, ↓aw_seq, ↓aw_block, ↓aw_exit, ↓aw_ret, ↓sops_nil, ↓sops_go, ↓dops_nil, ↓dopsX_nil, ↓dopsR_nil, ↓vdn, vup, extr_20, extr_21, extr_30, extr_31, extr_32, List.map_cons, List.map_nil, cond_true, cond_false, aop, aThen, aBlock, argEnv, ev, sput, sputO, binK, binI, unK, builtinK, pickK, Nat.reduceBEq, Nat.reduceAdd, Int.reduceBEq, Int.reduceBNe, Int.reduceLT, aPost, resK, tup, tyf, Bool.not_true]
  refine hN3 [(0, v), (2, .slice none 0 0), (3, .int .i64 0), (4, v)] _ _ ?_ (by simp (maxSteps := 2000000) only [↓aw_region, ↓aw_skip, ↓aw_seq, ↓aw_block, ↓aw_exit, ↓aw_ret, ↓sops_nil, ↓sops_go, ↓dops_nil, ↓dopsX_nil, ↓dopsR_nil, ↓vdn, vup, extr_20, extr_21, extr_30, extr_31, extr_32, List.map_cons, List.map_nil, cond_true, cond_false, aop, aThen, aBlock, argEnv, ev, sput, sputO, binK, binI, unK, builtinK, pickK, Nat.reduceBEq, Nat.reduceAdd, Int.reduceBEq, Int.reduceBNe, Int.reduceLT, aPost, resK, tup, tyf])
  clear hN3
  try clear N3
  refine aws_cut fun N4 hN4 => ?_
  simp (maxSteps := 2000000) only [s49, ↓aw_region, ↓aw_skip, ↓aw_seq, ↓aw_block, ↓aw_exit, ↓aw_ret, ↓sops_nil, ↓sops_go, ↓dops_nil, ↓dopsX_nil, ↓dopsR_nil, ↓vdn, vup, extr_20, extr_21, extr_30, extr_31, extr_32, List.map_cons, List.map_nil, cond_true, cond_false, aop, aThen, aBlock, argEnv, ev, sput, sputO, binK, binI, unK, builtinK, pickK, Nat.reduceBEq, Nat.reduceAdd, Int.reduceBEq, Int.reduceBNe, Int.reduceLT, aPost, resK, tup, tyf, isPick_map, makeMI]
  obtain ⟨bm, hbm⟩ : ∃ bm, bm = h.length := ⟨_, rfl⟩
  rw [← hbm]
  refine hN4 [(0, v), (2, .slice none 0 0), (3, .int .i64 0), (4, v), (5, .map (some bm))] _ _ ?_ (by simp (maxSteps := 2000000) only [↓aw_region, ↓aw_skip, ↓aw_seq, ↓aw_block, ↓aw_exit, ↓aw_ret, ↓sops_nil, ↓sops_go, ↓dops_nil, ↓dopsX_nil, ↓dopsR_nil, ↓vdn, vup, extr_20, extr_21, extr_30, extr_31, extr_32, List.map_cons, List.map_nil, cond_true, cond_false, aop, aThen, aBlock, argEnv, ev, sput, sputO, binK, binI, unK, builtinK, pickK, Nat.reduceBEq, Nat.reduceAdd, Int.reduceBEq, Int.reduceBNe, Int.reduceLT, aPost, resK, tup, tyf])
  clear hN4
  try clear N4
  have hm0 : (h ++ [Blk.map (mI [])])[bm]? = some (.map (mI [])) := by rw [hbm]; exact get_new _ _
  have hE0 : Ext (fun _ => False) h (h ++ [Blk.map (mI [])]) := Ext.app _ _ _
  generalize h ++ [Blk.map (mI [])] = h1 at hm0 hE0 ⊢
  have hv1 := IntSl_ext hv hE0
  have hbv : blkOf v ≠ some bm := fun e => by have := hv.lt e; omega
  refine aws_cut fun M hM => ?_
  refine parts_map hv1 ht hm0 (fun hq e hE1 hm1 he => ?_) hbv
  refine hM [(0, v), (2, .slice none 0 0), (3, .int .i64 0), (4, v), (5, .map (some bm))] _ _ ?_ he
  clear hM
  have hEq : Ext (fun _ => False) h hq := ⟨Nat.le_trans hE0.1 hE1.1, fun i hi _ => by
    rw [hE1.2 i (by have := hE0.1; omega) (by simp only; omega)]; exact hE0.2 i hi id⟩
  refine aws_cut fun N5 hN5 => ?_
  simp (maxSteps := 2000000) only [s49, ↓aw_region, ↓aw_skip, ↓aw_seq, ↓aw_block, ↓aw_exit, ↓aw_ret, ↓sops_nil, ↓sops_go, ↓dops_nil, ↓dopsX_nil, ↓dopsR_nil, ↓vdn, vup, extr_20, extr_21, extr_30, extr_31, extr_32, List.map_cons, List.map_nil, cond_true, cond_false, aop, aThen, aBlock, argEnv, ev, sput, sputO, binK, binI, unK, builtinK, pickK, Nat.reduceBEq, Nat.reduceAdd, Int.reduceBEq, Int.reduceBNe, Int.reduceLT, aPost, resK, tup, tyf]
  refine hN5 [(0, v), (4, v), (5, .map (some bm)), (7, .slice none 0 0)] _ _ ?_ (by simp (maxSteps := 2000000) only [↓aw_region, ↓aw_skip, ↓aw_seq, ↓aw_block, ↓aw_exit, ↓aw_ret, ↓sops_nil, ↓sops_go, ↓dops_nil, ↓dopsX_nil, ↓dopsR_nil, ↓vdn, vup, extr_20, extr_21, extr_30, extr_31, extr_32, List.map_cons, List.map_nil, cond_true, cond_false, aop, aThen, aBlock, argEnv, ev, sput, sputO, binK, binI, unK, builtinK, pickK, Nat.reduceBEq, Nat.reduceAdd, Int.reduceBEq, Int.reduceBNe, Int.reduceLT, aPost, resK, tup, tyf])
  clear hN5
  try clear N5
  clear hm0 hE0 hv1 hE1
  refine aws_cutW fun W hW => ?_
  refine parts_walk hxl hEq hm1 (by omega) fun hq2 w0 L e hE2 hm2 hown hperm hblk he2 => ?_
  refine hW [(0, v), (4, v), (5, .map (some bm)), (7, w0)] _ _ ?_ he2
  clear hW
  have hLx : ∀ x ∈ L, x < 256 := fun x hxm => by
    obtain ⟨j, hj, rfl⟩ := (kyL_mem xs x).1 (hperm.mem_iff.1 hxm)
    have := (rch_nest ht).lt j hj; omega
  have hL8 : L.length ≤ 8 := by rw [hperm.length_eq, kyL, List.length_map]; have := pm_len xs xs.length; omega
  have hb64 : ∀ x : Nat, (Am.bits x).length ≤ 64 := fun x => by have := scr_le (x : Int); rw [scr, Int.toNat_natCast] at this; exact this
  rcases hown with ⟨_, hnil⟩ | ⟨b, ys, hov, hb⟩
  · have h0 : L = [] := by simpa [iL] using hnil
    have := (kyL_mem xs (rch xs 0)).2 ⟨0, by omega, rfl⟩
    rw [← hperm.mem_iff, h0] at this; cases this
  have hbg := hblk b (by rw [hov]; rfl)
  rw [iL_len] at hov
  subst hov
  refine aws_cut fun N6 hN6 => ?_
  simp (maxSteps := 2000000) only [s49, ↓aw_region, ↓aw_skip, ↓aw_seq, ↓aw_block, ↓aw_exit, ↓aw_ret, ↓sops_nil, ↓sops_go, ↓dops_nil, ↓dopsX_nil, ↓dopsR_nil, ↓vdn, vup, extr_20, extr_21, extr_30, extr_31, extr_32, List.map_cons, List.map_nil, cond_true, cond_false, aop, aThen, aBlock, argEnv, ev, sput, sputO, binK, binI, unK, builtinK, pickK, Nat.reduceBEq, Nat.reduceAdd, Int.reduceBEq, Int.reduceBNe, Int.reduceLT, aPost, resK, tup, tyf, callK, List.nil_append, List.append_nil, List.toList_toArray, List.cons_append, List.map_toArray]
  refine ((show ACall prog 83 [ov b L.length ys.length, .func (.func 84) #[] #[]] hq2 _ from sortFn_call (key := fun x => -(((Am.bits x).length : Nat) : Int)) (fun x _ => by have := hb64 x; omega) (fun L' x y hxm hym => parts1_call (hLx x hxm) (hLx y hym)) hb (by omega) (fun x hxm => by have := hLx x hxm; omega))).mono ?_
  rintro rr h5 ⟨L2, hp2, hs2, rfl⟩
  refine hN6 [(0, v), (4, v), (5, .map (some bm)), (7, ov b L.length ys.length)] _ _ ?_ (by simp (maxSteps := 2000000) only [↓aw_region, ↓aw_skip, ↓aw_seq, ↓aw_block, ↓aw_exit, ↓aw_ret, ↓sops_nil, ↓sops_go, ↓dops_nil, ↓dopsX_nil, ↓dopsR_nil, ↓vdn, vup, extr_20, extr_21, extr_30, extr_31, extr_32, List.map_cons, List.map_nil, cond_true, cond_false, aop, aThen, aBlock, argEnv, ev, sput, sputO, binK, binI, unK, builtinK, pickK, Nat.reduceBEq, Nat.reduceAdd, Int.reduceBEq, Int.reduceBNe, Int.reduceLT, aPost, resK, tup, tyf])
  clear hN6
  try clear N6
  have hE5 : Ext (fun _ => False) h (hq2.set b (.ints (iL L2 ++ ys) 3 false)) := hE2.set_ge (by omega) _
  have hm5 : (hq2.set b (.ints (iL L2 ++ ys) 3 false))[bm]? = some (.map (mI (pm xs xs.length))) := by rw [List.getElem?_set_ne (by omega)]; exact hm2
  have hr5 : IntSl (hq2.set b (.ints (iL L2 ++ ys) 3 false)) (ov b L2.length ys.length) (iL L2) := (ov_own (get_lt hb) rfl).int
  have hbl5 : bm < (hq2.set b (.ints (iL L2 ++ ys) 3 false)).length := get_lt hm5
  generalize hq2.set b (.ints (iL L2 ++ ys) 3 false) = h5 at hE5 hm5 hr5 hbl5 ⊢
  have hLL : L2.length = L.length := hp2.length_eq
  rw [← hLL]
  refine aws_cut fun N7 hN7 => ?_
  simp (maxSteps := 2000000) only [s49, ↓aw_region, ↓aw_skip, ↓aw_seq, ↓aw_block, ↓aw_exit, ↓aw_ret, ↓sops_nil, ↓sops_go, ↓dops_nil, ↓dopsX_nil, ↓dopsR_nil, ↓vdn, vup, extr_20, extr_21, extr_30, extr_31, extr_32, List.map_cons, List.map_nil, cond_true, cond_false, aop, aThen, aBlock, argEnv, ev, sput, sputO, binK, binI, unK, builtinK, pickK, Nat.reduceBEq, Nat.reduceAdd, Int.reduceBEq, Int.reduceBNe, Int.reduceLT, aPost, resK, tup, tyf]
  refine hN7 [(0, v), (4, v), (5, .map (some bm)), (7, ov b L2.length ys.length), (9, .slice none 0 0)] _ _ ?_ (by simp (maxSteps := 2000000) only [↓aw_region, ↓aw_skip, ↓aw_seq, ↓aw_block, ↓aw_exit, ↓aw_ret, ↓sops_nil, ↓sops_go, ↓dops_nil, ↓dopsX_nil, ↓dopsR_nil, ↓vdn, vup, extr_20, extr_21, extr_30, extr_31, extr_32, List.map_cons, List.map_nil, cond_true, cond_false, aop, aThen, aBlock, argEnv, ev, sput, sputO, binK, binI, unK, builtinK, pickK, Nat.reduceBEq, Nat.reduceAdd, Int.reduceBEq, Int.reduceBNe, Int.reduceLT, aPost, resK, tup, tyf])
  clear hN7
  try clear N7
  refine aws_cut fun Z hZ => ?_
  simp (maxSteps := 2000000) only [s49, ↓aw_region, ↓aw_skip, ↓aw_seq, ↓aw_block, ↓aw_exit, ↓aw_ret, ↓sops_nil, ↓sops_go, ↓dops_nil, ↓dopsX_nil, ↓dopsR_nil, ↓vdn, vup, extr_20, extr_21, extr_30, extr_31, extr_32, List.map_cons, List.map_nil, cond_true, cond_false, aop, aThen, aBlock, argEnv, ev, sput, sputO, binK, binI, unK, builtinK, pickK, Nat.reduceBEq, Nat.reduceAdd, Int.reduceBEq, Int.reduceBNe, Int.reduceLT, aPost, resK, tup, tyf, hr5.len, iL_len, ↓aw_loop_eq]
  refine aws_hide fun Q hQ => ?_
  refine aw_loop (γ := Nat × Value × Heap) (fun s => s.1 ≤ L2.length ∧ RSI h5 s.2.2 s.2.1 (iL ((L2.take s.1).map (prt xs.length (rch xs)))))
    (fun s => ([(0, v), (4, v), (5, .map (some bm)), (7, ov b L2.length ys.length), (9, s.2.1), (43, ov b L2.length ys.length), (44, vint L2.length), (45, vint s.1)], s.2.2)) (fun s => L2.length - s.1) (0, .slice none 0 0, h5) ⟨Nat.zero_le _, RSI.nil h5⟩ (by simp (maxSteps := 2000000) only [↓aw_region, ↓aw_skip, ↓aw_seq, ↓aw_block, ↓aw_exit, ↓aw_ret, ↓sops_nil, ↓sops_go, ↓dops_nil, ↓dopsX_nil, ↓dopsR_nil, ↓vdn, vup, extr_20, extr_21, extr_30, extr_31, extr_32, List.map_cons, List.map_nil, cond_true, cond_false, aop, aThen, aBlock, argEnv, ev, sput, sputO, binK, binI, unK, builtinK, pickK, Nat.reduceBEq, Nat.reduceAdd, Int.reduceBEq, Int.reduceBNe, Int.reduceLT, aPost, resK, tup, tyf, Int.natCast_zero]) rfl ?_
  rintro ⟨j, w1, hp⟩ ⟨hj, hs⟩
  simp only at hj hs
  refine aw_hide fun Q2 hQ2 => ?_
  have hr6 := IntSl_ext hr5 hs.2.1
  have hm6 := (hs.2.1.2 bm hbl5 id).trans hm5
  by_cases hjn : (j : Int) < L2.length
  · have hj' : j < L2.length := by omega
    have hjL : j < (iL L2).length := by rw [iL_len]; exact hj'
    have hget : mget ((L2.getD j 0 : Nat) : Int) (pm xs xs.length) = ((prt xs.length (rch xs) (L2.getD j 0) : Nat) : Int) := pm_get xs _ _
    simp (maxSteps := 2000000) only [s49, ↓aw_region, ↓aw_skip, ↓aw_seq, ↓aw_block, ↓aw_exit, ↓aw_ret, ↓sops_nil, ↓sops_go, ↓dops_nil, ↓dopsX_nil, ↓dopsR_nil, ↓vdn, vup, extr_20, extr_21, extr_30, extr_31, extr_32, List.map_cons, List.map_nil, cond_true, cond_false, aop, aThen, aBlock, argEnv, ev, sput, sputO, binK, binI, unK, builtinK, pickK, Nat.reduceBEq, Nat.reduceAdd, Int.reduceBEq, Int.reduceBNe, Int.reduceLT, aPost, resK, tup, tyf, l49_2, hjn, hr6.idx el_22 esz_3 hjL, hr6.load shp_3 hjL, iL_get, isPick_map, lookupI hm6 und_75 und_3 zv_3, hget, litI1]
    refine hs.push (by rw [iL_len, List.length_map, List.length_take]; omega) fun v' h' s' => ?_
    simp (maxSteps := 2000000) only [s49, ↓aw_region, ↓aw_skip, ↓aw_seq, ↓aw_block, ↓aw_exit, ↓aw_ret, ↓sops_nil, ↓sops_go, ↓dops_nil, ↓dopsX_nil, ↓dopsR_nil, ↓vdn, vup, extr_20, extr_21, extr_30, extr_31, extr_32, List.map_cons, List.map_nil, cond_true, cond_false, aop, aThen, aBlock, argEnv, ev, sput, sputO, binK, binI, unK, builtinK, pickK, Nat.reduceBEq, Nat.reduceAdd, Int.reduceBEq, Int.reduceBNe, Int.reduceLT, aPost, resK, tup, tyf, add1 (show j < 9223372036854775807 by omega)]
    refine hQ2 _ _ _ ⟨(j + 1, v', h'), ⟨by simp only; omega, by rw [iL_take_succ hj']; exact s'⟩, by simp only; omega, by simp (maxSteps := 2000000) only [↓aw_region, ↓aw_skip, ↓aw_seq, ↓aw_block, ↓aw_exit, ↓aw_ret, ↓sops_nil, ↓sops_go, ↓dops_nil, ↓dopsX_nil, ↓dopsR_nil, ↓vdn, vup, extr_20, extr_21, extr_30, extr_31, extr_32, List.map_cons, List.map_nil, cond_true, cond_false, aop, aThen, aBlock, argEnv, ev, sput, sputO, binK, binI, unK, builtinK, pickK, Nat.reduceBEq, Nat.reduceAdd, Int.reduceBEq, Int.reduceBNe, Int.reduceLT, aPost, resK, tup, tyf], rfl⟩
  · obtain rfl : j = L2.length := by omega
    simp (maxSteps := 2000000) only [s49, ↓aw_region, ↓aw_skip, ↓aw_seq, ↓aw_block, ↓aw_exit, ↓aw_ret, ↓sops_nil, ↓sops_go, ↓dops_nil, ↓dopsX_nil, ↓dopsR_nil, ↓vdn, vup, extr_20, extr_21, extr_30, extr_31, extr_32, List.map_cons, List.map_nil, cond_true, cond_false, aop, aThen, aBlock, argEnv, ev, sput, sputO, binK, binI, unK, builtinK, pickK, Nat.reduceBEq, Nat.reduceAdd, Int.reduceBEq, Int.reduceBNe, Int.reduceLT, aPost, resK, tup, tyf, l49_2, Int.lt_irrefl]
    refine hQ2 _ _ _ (hQ _ _ _ ?_)
    simp (maxSteps := 2000000) only [s49, ↓aw_region, ↓aw_skip, ↓aw_seq, ↓aw_block, ↓aw_exit, ↓aw_ret, ↓sops_nil, ↓sops_go, ↓dops_nil, ↓dopsX_nil, ↓dopsR_nil, ↓vdn, vup, extr_20, extr_21, extr_30, extr_31, extr_32, List.map_cons, List.map_nil, cond_true, cond_false, aop, aThen, aBlock, argEnv, ev, sput, sputO, binK, binI, unK, builtinK, pickK, Nat.reduceBEq, Nat.reduceAdd, Int.reduceBEq, Int.reduceBNe, Int.reduceLT, aPost, resK, tup, tyf, if_true]
    refine hZ [(0, v), (4, v), (5, .map (some bm)), (7, ov b L2.length ys.length), (9, w1)] _ _ ?_ (by simp (maxSteps := 2000000) only [↓aw_region, ↓aw_skip, ↓aw_seq, ↓aw_block, ↓aw_exit, ↓aw_ret, ↓sops_nil, ↓sops_go, ↓dops_nil, ↓dopsX_nil, ↓dopsR_nil, ↓vdn, vup, extr_20, extr_21, extr_30, extr_31, extr_32, List.map_cons, List.map_nil, cond_true, cond_false, aop, aThen, aBlock, argEnv, ev, sput, sputO, binK, binI, unK, builtinK, pickK, Nat.reduceBEq, Nat.reduceAdd, Int.reduceBEq, Int.reduceBNe, Int.reduceLT, aPost, resK, tup, tyf])
    clear hZ
    try clear Z
    rw [List.take_length] at hs
    obtain ⟨hown, hE6, _⟩ := hs
    refine aw_aws ?_
    simp (maxSteps := 2000000) only [s49, ↓aw_region, ↓aw_skip, ↓aw_seq, ↓aw_block, ↓aw_exit, ↓aw_ret, ↓sops_nil, ↓sops_go, ↓dops_nil, ↓dopsX_nil, ↓dopsR_nil, ↓vdn, vup, extr_20, extr_21, extr_30, extr_31, extr_32, List.map_cons, List.map_nil, cond_true, cond_false, aop, aThen, aBlock, argEnv, ev, sput, sputO, binK, binI, unK, builtinK, pickK, Nat.reduceBEq, Nat.reduceAdd, Int.reduceBEq, Int.reduceBNe, Int.reduceLT, aPost, resK, tup, tyf]
    refine ⟨hE5.trans hE6, ?_⟩
    rw [if_pos ht, prts_eq ht (hp2.trans hperm) hs2]
    exact ⟨_, rfl, hown⟩
end Go.Proofs.Tryd.Am

namespace Go.Proofs.Tryd.Am
open Go.Am Rb Rch
set_option maxRecDepth 100000
set_option maxHeartbeats 1000000

theorem cps_len (n : Nat) (R : Nat → Nat) : ∀ k left, (cps n R k left).length ≤ k
  | 0, _ => Nat.le_refl _
  | k + 1, left => by
    rw [cps]; split
    · exact Nat.zero_le _
    · rw [List.length_cons]; have := cps_len n R k (left ^^^ Clr.setL (topL n R left)); omega
theorem trn_take14 {xs : List Int} (h : trn xs = true) : xs.take 11 = xs :=
  List.take_of_length_le (by have := trn_len h; omega)
theorem s14_callW [Tabs Tryd.prog] {args : List Value} {h : Heap} {Q : Value → Heap → Prop} (hsz : args.length ≤ 61) (hk : AWS Tryd.prog 61 s14 (aPost Tryd.prog [.tmp 2] Q) (argEnv 0 args) h) : ACall Tryd.prog 14 args h Q :=
  acall_w Tryd.func14 rfl (enters_of Tryd.func14 (by kernel_rfl) rfl) rfl rfl (by decide) s14_strip s14_ok hsz hk
theorem law_kings [BitTab prog 1] {h : Heap} {v : Value} {xs : List Int} (hv : IntSl h v xs) (hl : xs.length < 9223372036854775808) (hx : ∀ x ∈ xs, -9223372036854775808 ≤ x ∧ x < 9223372036854775808) :
    ACall prog 14 [v] h fun r _ => r = .bool true := by
  have awk : ∀ {K : Value → Heap → Prop} {g : Heap}, (∀ g', Ext (fun _ => False) g g' → K (.bool true) g') → ACall prog 21 [] g K := fun {K g} hk => awake_call.mono fun v h' ⟨h1, h2⟩ => by rw [h1]; exact hk _ h2
  have rng11 : ∀ {ys : List Int}, (∀ x ∈ ys, -9223372036854775808 ≤ x ∧ x < 9223372036854775808) → ∀ x ∈ ys.take 11, -9223372036854775808 ≤ x ∧ x < 9223372036854775808 := fun h x hm => h x (List.take_subset _ _ hm)
  have len11 : ∀ {ys : List Int}, (ys.take 11).length < 9223372036854775808 := by intro ys; simp; omega
  have e22 : ((2 : Int) == 2) = true := rfl
  have e0 : ((0 : Int) == 0) = true := rfl
  have l0 : ∀ {K : Value → Prop}, lenK (.slice none 0 0) K = K (.int .i64 0) := fun {K} => rfl
  refine s14_callW (by simp) ?_
  simp only [s14]
  refine aws_cut fun N1 hN1 => ?_
  simp (maxSteps := 2000000) only [s14, ↓aw_region, ↓aw_skip, ↓aw_seq, ↓aw_block, ↓aw_exit, ↓aw_ret, ↓sops_nil, ↓sops_go, ↓dops_nil, ↓dopsX_nil, ↓dopsR_nil, ↓vdn, vup, extr_20, extr_21, extr_30, extr_31, extr_32, List.map_cons, List.map_nil, cond_true, cond_false, aop, aThen, aBlock, argEnv, ev, sput, sputO, binK, binI, unK, builtinK, pickK, Nat.reduceBEq, Nat.reduceAdd, Int.reduceBEq, Int.reduceBNe, Int.reduceLT, aPost, resK, tup, tyf]
  refine hN1 [(0, v), (2, .bool false)] _ _ ?_ (by simp (maxSteps := 2000000) only [↓aw_region, ↓aw_skip, ↓aw_seq, ↓aw_block, ↓aw_exit, ↓aw_ret, ↓sops_nil, ↓sops_go, ↓dops_nil, ↓dopsX_nil, ↓dopsR_nil, ↓vdn, vup, extr_20, extr_21, extr_30, extr_31, extr_32, List.map_cons, List.map_nil, cond_true, cond_false, aop, aThen, aBlock, argEnv, ev, sput, sputO, binK, binI, unK, builtinK, pickK, Nat.reduceBEq, Nat.reduceAdd, Int.reduceBEq, Int.reduceBNe, Int.reduceLT, aPost, resK, tup, tyf])
  clear hN1
  try clear N1
  refine aws_cut fun N2 hN2 => ?_
  simp (maxSteps := 2000000) only [s14, ↓aw_region, ↓aw_skip, ↓aw_seq, ↓aw_block, ↓aw_exit, ↓aw_ret, ↓sops_nil, ↓sops_go, ↓dops_nil, ↓dopsX_nil, ↓dopsR_nil, ↓vdn, vup, extr_20, extr_21, extr_30, extr_31, extr_32, List.map_cons, List.map_nil, cond_true, cond_false, aop, aThen, aBlock, argEnv, ev, sput, sputO, binK, binI, unK, builtinK, pickK, Nat.reduceBEq, Nat.reduceAdd, Int.reduceBEq, Int.reduceBNe, Int.reduceLT, aPost, resK, tup, tyf, callK, List.nil_append, List.append_nil, List.toList_toArray, List.cons_append]
  refine (list_call hv hl).mono ?_
  rintro l1 _ ⟨hl1, g1, rfl⟩
  refine (kings_call hl1 len11 (rng11 hx)).mono ?_
  rintro r1 h1 ⟨hE1, hr1⟩
  have hv1 := IntSl_ext (hv.grow g1) hE1
  clear hl1 hE1
  cases ht : trn xs with
  | false =>
    rw [trn_take, ht, if_neg (by decide)] at hr1
    subst hr1
    simp (maxSteps := 2000000) only [s14, ↓aw_region, ↓aw_skip, ↓aw_seq, ↓aw_block, ↓aw_exit, ↓aw_ret, ↓sops_nil, ↓sops_go, ↓dops_nil, ↓dopsX_nil, ↓dopsR_nil, ↓vdn, vup, extr_20, extr_21, extr_30, extr_31, extr_32, List.map_cons, List.map_nil, cond_true, cond_false, aop, aThen, aBlock, argEnv, ev, sput, sputO, binK, binI, unK, builtinK, pickK, Nat.reduceBEq, Nat.reduceAdd, Int.reduceBEq, Int.reduceBNe, Int.reduceLT, aPost, resK, tup, tyf]
    refine hN2 [(0, v), (2, .bool false), (3, .int .i64 0), (4, .int .i64 2)] _ _ ?_ (by simp (maxSteps := 2000000) only [↓aw_region, ↓aw_skip, ↓aw_seq, ↓aw_block, ↓aw_exit, ↓aw_ret, ↓sops_nil, ↓sops_go, ↓dops_nil, ↓dopsX_nil, ↓dopsR_nil, ↓vdn, vup, extr_20, extr_21, extr_30, extr_31, extr_32, List.map_cons, List.map_nil, cond_true, cond_false, aop, aThen, aBlock, argEnv, ev, sput, sputO, binK, binI, unK, builtinK, pickK, Nat.reduceBEq, Nat.reduceAdd, Int.reduceBEq, Int.reduceBNe, Int.reduceLT, aPost, resK, tup, tyf])
    clear hN2
    try clear N2
    refine aws_cut fun N3 hN3 => ?_
    simp (maxSteps := 2000000) only [s14, ↓aw_region, ↓aw_skip, ↓aw_seq, ↓aw_block, ↓aw_exit, ↓aw_ret, ↓sops_nil, ↓sops_go, ↓dops_nil, ↓dopsX_nil, ↓dopsR_nil, ↓vdn, vup, extr_20, extr_21, extr_30, extr_31, extr_32, List.map_cons, List.map_nil, cond_true, cond_false, aop, aThen, aBlock, argEnv, ev, sput, sputO, binK, binI, unK, builtinK, pickK, Nat.reduceBEq, Nat.reduceAdd, Int.reduceBEq, Int.reduceBNe, Int.reduceLT, aPost, resK, tup, tyf, callK, List.nil_append, List.append_nil, List.toList_toArray, List.cons_append]
    refine (list_call hv1 hl).mono ?_
    rintro l2 _ ⟨hl2, g2, rfl⟩
    refine (parts_call hl2 len11 (rng11 hx)).mono ?_
    rintro r2 h2 ⟨hE2, hr2⟩
    rw [trn_take, ht, if_neg (by decide)] at hr2
    subst hr2
    have hv2 := IntSl_ext (hv1.grow g2) hE2
    simp (maxSteps := 2000000) only [s14, ↓aw_region, ↓aw_skip, ↓aw_seq, ↓aw_block, ↓aw_exit, ↓aw_ret, ↓sops_nil, ↓sops_go, ↓dops_nil, ↓dopsX_nil, ↓dopsR_nil, ↓vdn, vup, extr_20, extr_21, extr_30, extr_31, extr_32, List.map_cons, List.map_nil, cond_true, cond_false, aop, aThen, aBlock, argEnv, ev, sput, sputO, binK, binI, unK, builtinK, pickK, Nat.reduceBEq, Nat.reduceAdd, Int.reduceBEq, Int.reduceBNe, Int.reduceLT, aPost, resK, tup, tyf]
    refine hN3 [(0, v), (2, .bool false), (3, .int .i64 0), (4, .int .i64 2), (5, .slice none 0 0), (6, .int .i64 2)] _ _ ?_ (by simp (maxSteps := 2000000) only [↓aw_region, ↓aw_skip, ↓aw_seq, ↓aw_block, ↓aw_exit, ↓aw_ret, ↓sops_nil, ↓sops_go, ↓dops_nil, ↓dopsX_nil, ↓dopsR_nil, ↓vdn, vup, extr_20, extr_21, extr_30, extr_31, extr_32, List.map_cons, List.map_nil, cond_true, cond_false, aop, aThen, aBlock, argEnv, ev, sput, sputO, binK, binI, unK, builtinK, pickK, Nat.reduceBEq, Nat.reduceAdd, Int.reduceBEq, Int.reduceBNe, Int.reduceLT, aPost, resK, tup, tyf])
    clear hN3
    try clear N3
    refine aws_cut fun N4 hN4 => ?_
    simp (maxSteps := 2000000) only [s14, ↓aw_region, ↓aw_skip, ↓aw_seq, ↓aw_block, ↓aw_exit, ↓aw_ret, ↓sops_nil, ↓sops_go, ↓dops_nil, ↓dopsX_nil, ↓dopsR_nil, ↓vdn, vup, extr_20, extr_21, extr_30, extr_31, extr_32, List.map_cons, List.map_nil, cond_true, cond_false, aop, aThen, aBlock, argEnv, ev, sput, sputO, binK, binI, unK, builtinK, pickK, Nat.reduceBEq, Nat.reduceAdd, Int.reduceBEq, Int.reduceBNe, Int.reduceLT, aPost, resK, tup, tyf, callK, List.nil_append, List.append_nil, List.toList_toArray, List.cons_append]
    refine (rvalid_call hv2 hl hx).mono ?_
    rintro _ h2 ⟨rfl, rfl⟩
    simp (maxSteps := 2000000) only [s14, ↓aw_region, ↓aw_skip, ↓aw_seq, ↓aw_block, ↓aw_exit, ↓aw_ret, ↓sops_nil, ↓sops_go, ↓dops_nil, ↓dopsX_nil, ↓dopsR_nil, ↓vdn, vup, extr_20, extr_21, extr_30, extr_31, extr_32, List.map_cons, List.map_nil, cond_true, cond_false, aop, aThen, aBlock, argEnv, ev, sput, sputO, binK, binI, unK, builtinK, pickK, Nat.reduceBEq, Nat.reduceAdd, Int.reduceBEq, Int.reduceBNe, Int.reduceLT, aPost, resK, tup, tyf, callK, List.nil_append, List.append_nil, List.toList_toArray, List.cons_append, ht, Bool.not_false, e0, l0, e22]
    refine awk fun g _ => ?_
    simp (maxSteps := 2000000) only [s14, ↓aw_region, ↓aw_skip, ↓aw_seq, ↓aw_block, ↓aw_exit, ↓aw_ret, ↓sops_nil, ↓sops_go, ↓dops_nil, ↓dopsX_nil, ↓dopsR_nil, ↓vdn, vup, extr_20, extr_21, extr_30, extr_31, extr_32, List.map_cons, List.map_nil, cond_true, cond_false, aop, aThen, aBlock, argEnv, ev, sput, sputO, binK, binI, unK, builtinK, pickK, Nat.reduceBEq, Nat.reduceAdd, Int.reduceBEq, Int.reduceBNe, Int.reduceLT, aPost, resK, tup, tyf]
  | true =>
    have hxl := trn_len ht
    rw [trn_take14 ht, ht, if_pos rfl] at hr1
    subst hr1
    simp (maxSteps := 2000000) only [s14, ↓aw_region, ↓aw_skip, ↓aw_seq, ↓aw_block, ↓aw_exit, ↓aw_ret, ↓sops_nil, ↓sops_go, ↓dops_nil, ↓dopsX_nil, ↓dopsR_nil, ↓vdn, vup, extr_20, extr_21, extr_30, extr_31, extr_32, List.map_cons, List.map_nil, cond_true, cond_false, aop, aThen, aBlock, argEnv, ev, sput, sputO, binK, binI, unK, builtinK, pickK, Nat.reduceBEq, Nat.reduceAdd, Int.reduceBEq, Int.reduceBNe, Int.reduceLT, aPost, resK, tup, tyf]
    refine hN2 [(0, v), (2, .bool false), (3, vint (kingsTo xs xs.length : Nat)), (4, .int .i64 0)] _ _ ?_ (by simp (maxSteps := 2000000) only [↓aw_region, ↓aw_skip, ↓aw_seq, ↓aw_block, ↓aw_exit, ↓aw_ret, ↓sops_nil, ↓sops_go, ↓dops_nil, ↓dopsX_nil, ↓dopsR_nil, ↓vdn, vup, extr_20, extr_21, extr_30, extr_31, extr_32, List.map_cons, List.map_nil, cond_true, cond_false, aop, aThen, aBlock, argEnv, ev, sput, sputO, binK, binI, unK, builtinK, pickK, Nat.reduceBEq, Nat.reduceAdd, Int.reduceBEq, Int.reduceBNe, Int.reduceLT, aPost, resK, tup, tyf])
    clear hN2
    try clear N2
    refine aws_cut fun N5 hN5 => ?_
    simp (maxSteps := 2000000) only [s14, ↓aw_region, ↓aw_skip, ↓aw_seq, ↓aw_block, ↓aw_exit, ↓aw_ret, ↓sops_nil, ↓sops_go, ↓dops_nil, ↓dopsX_nil, ↓dopsR_nil, ↓vdn, vup, extr_20, extr_21, extr_30, extr_31, extr_32, List.map_cons, List.map_nil, cond_true, cond_false, aop, aThen, aBlock, argEnv, ev, sput, sputO, binK, binI, unK, builtinK, pickK, Nat.reduceBEq, Nat.reduceAdd, Int.reduceBEq, Int.reduceBNe, Int.reduceLT, aPost, resK, tup, tyf, callK, List.nil_append, List.append_nil, List.toList_toArray, List.cons_append]
    refine (list_call hv1 hl).mono ?_
    rintro l2 _ ⟨hl2, g2, rfl⟩
    rw [trn_take14 ht] at hl2
    refine (parts_call hl2 hl hx).mono ?_
    rintro r2 h2 ⟨hE2, hr2⟩
    rw [if_pos ht] at hr2
    obtain ⟨w, rfl, hw⟩ := hr2
    have hv2 := IntSl_ext (hv1.grow g2) hE2
    simp (maxSteps := 2000000) only [s14, ↓aw_region, ↓aw_skip, ↓aw_seq, ↓aw_block, ↓aw_exit, ↓aw_ret, ↓sops_nil, ↓sops_go, ↓dops_nil, ↓dopsX_nil, ↓dopsR_nil, ↓vdn, vup, extr_20, extr_21, extr_30, extr_31, extr_32, List.map_cons, List.map_nil, cond_true, cond_false, aop, aThen, aBlock, argEnv, ev, sput, sputO, binK, binI, unK, builtinK, pickK, Nat.reduceBEq, Nat.reduceAdd, Int.reduceBEq, Int.reduceBNe, Int.reduceLT, aPost, resK, tup, tyf]
    refine hN5 [(0, v), (2, .bool false), (3, vint (kingsTo xs xs.length : Nat)), (4, .int .i64 0), (5, w), (6, .int .i64 0)] _ _ ?_ (by simp (maxSteps := 2000000) only [↓aw_region, ↓aw_skip, ↓aw_seq, ↓aw_block, ↓aw_exit, ↓aw_ret, ↓sops_nil, ↓sops_go, ↓dops_nil, ↓dopsX_nil, ↓dopsR_nil, ↓vdn, vup, extr_20, extr_21, extr_30, extr_31, extr_32, List.map_cons, List.map_nil, cond_true, cond_false, aop, aThen, aBlock, argEnv, ev, sput, sputO, binK, binI, unK, builtinK, pickK, Nat.reduceBEq, Nat.reduceAdd, Int.reduceBEq, Int.reduceBNe, Int.reduceLT, aPost, resK, tup, tyf])
    clear hN5
    try clear N5
    refine aws_cut fun N6 hN6 => ?_
    simp (maxSteps := 2000000) only [s14, ↓aw_region, ↓aw_skip, ↓aw_seq, ↓aw_block, ↓aw_exit, ↓aw_ret, ↓sops_nil, ↓sops_go, ↓dops_nil, ↓dopsX_nil, ↓dopsR_nil, ↓vdn, vup, extr_20, extr_21, extr_30, extr_31, extr_32, List.map_cons, List.map_nil, cond_true, cond_false, aop, aThen, aBlock, argEnv, ev, sput, sputO, binK, binI, unK, builtinK, pickK, Nat.reduceBEq, Nat.reduceAdd, Int.reduceBEq, Int.reduceBNe, Int.reduceLT, aPost, resK, tup, tyf, callK, List.nil_append, List.append_nil, List.toList_toArray, List.cons_append]
    refine (rvalid_call hv2 hl hx).mono ?_
    rintro _ h2 ⟨rfl, rfl⟩
    simp (maxSteps := 2000000) only [s14, ↓aw_region, ↓aw_skip, ↓aw_seq, ↓aw_block, ↓aw_exit, ↓aw_ret, ↓sops_nil, ↓sops_go, ↓dops_nil, ↓dopsX_nil, ↓dopsR_nil, ↓vdn, vup, extr_20, extr_21, extr_30, extr_31, extr_32, List.map_cons, List.map_nil, cond_true, cond_false, aop, aThen, aBlock, argEnv, ev, sput, sputO, binK, binI, unK, builtinK, pickK, Nat.reduceBEq, Nat.reduceAdd, Int.reduceBEq, Int.reduceBNe, Int.reduceLT, aPost, resK, tup, tyf, ht, Bool.not_true]
    refine hN6 [(0, v), (2, .bool false), (3, vint (kingsTo xs xs.length : Nat)), (4, .int .i64 0), (5, w), (6, .int .i64 0)] _ _ ?_ (by simp (maxSteps := 2000000) only [↓aw_region, ↓aw_skip, ↓aw_seq, ↓aw_block, ↓aw_exit, ↓aw_ret, ↓sops_nil, ↓sops_go, ↓dops_nil, ↓dopsX_nil, ↓dopsR_nil, ↓vdn, vup, extr_20, extr_21, extr_30, extr_31, extr_32, List.map_cons, List.map_nil, cond_true, cond_false, aop, aThen, aBlock, argEnv, ev, sput, sputO, binK, binI, unK, builtinK, pickK, Nat.reduceBEq, Nat.reduceAdd, Int.reduceBEq, Int.reduceBNe, Int.reduceLT, aPost, resK, tup, tyf])
    clear hN6
    try clear N6
    have hkk : (((kingsTo xs xs.length : Nat) : Int) == ((kingsTo xs xs.length : Nat) : Int)) = true := beq_self_eq_true _
    have hpl : (iL (prts xs)).length < 9223372036854775808 := by
      rw [iL_len]; have := cps_len xs.length (rch xs) xs.length (2 ^ xs.length - 1); rw [prts]; omega
    refine aws_cut fun N7 hN7 => ?_
    simp (maxSteps := 2000000) only [s14, ↓aw_region, ↓aw_skip, ↓aw_seq, ↓aw_block, ↓aw_exit, ↓aw_ret, ↓sops_nil, ↓sops_go, ↓dops_nil, ↓dopsX_nil, ↓dopsR_nil, ↓vdn, vup, extr_20, extr_21, extr_30, extr_31, extr_32, List.map_cons, List.map_nil, cond_true, cond_false, aop, aThen, aBlock, argEnv, ev, sput, sputO, binK, binI, unK, builtinK, pickK, Nat.reduceBEq, Nat.reduceAdd, Int.reduceBEq, Int.reduceBNe, Int.reduceLT, aPost, resK, tup, tyf, callK, List.nil_append, List.append_nil, List.toList_toArray, List.cons_append]
    refine (rkings_call hv2 ht).mono ?_
    rintro _ h2 ⟨rfl, rfl⟩
    simp (maxSteps := 2000000) only [s14, ↓aw_region, ↓aw_skip, ↓aw_seq, ↓aw_block, ↓aw_exit, ↓aw_ret, ↓sops_nil, ↓sops_go, ↓dops_nil, ↓dopsX_nil, ↓dopsR_nil, ↓vdn, vup, extr_20, extr_21, extr_30, extr_31, extr_32, List.map_cons, List.map_nil, cond_true, cond_false, aop, aThen, aBlock, argEnv, ev, sput, sputO, binK, binI, unK, builtinK, pickK, Nat.reduceBEq, Nat.reduceAdd, Int.reduceBEq, Int.reduceBNe, Int.reduceLT, aPost, resK, tup, tyf, callK, List.nil_append, List.append_nil, List.toList_toArray, List.cons_append, hkk]
    refine (rparts_call hv2 ht).mono ?_
    rintro r3 h3 ⟨hE3, hr3⟩
    refine (equal_call (IntSl_ext hw.int hE3) hr3 hpl hpl).mono ?_
    rintro _ h3 ⟨rfl, rfl⟩
    have hd : decide (iL (prts xs) = iL (prts xs)) = true := decide_eq_true rfl
    simp (maxSteps := 2000000) only [s14, ↓aw_region, ↓aw_skip, ↓aw_seq, ↓aw_block, ↓aw_exit, ↓aw_ret, ↓sops_nil, ↓sops_go, ↓dops_nil, ↓dopsX_nil, ↓dopsR_nil, ↓vdn, vup, extr_20, extr_21, extr_30, extr_31, extr_32, List.map_cons, List.map_nil, cond_true, cond_false, aop, aThen, aBlock, argEnv, ev, sput, sputO, binK, binI, unK, builtinK, pickK, Nat.reduceBEq, Nat.reduceAdd, Int.reduceBEq, Int.reduceBNe, Int.reduceLT, aPost, resK, tup, tyf, callK, List.nil_append, List.append_nil, List.toList_toArray, List.cons_append, hd, e0]
    refine awk fun g _ => ?_
    refine hN7 [(0, v), (2, .bool true), (3, vint (kingsTo xs xs.length : Nat)), (4, .int .i64 0), (5, w), (6, .int .i64 0)] _ _ ?_ (by simp (maxSteps := 2000000) only [↓aw_region, ↓aw_skip, ↓aw_seq, ↓aw_block, ↓aw_exit, ↓aw_ret, ↓sops_nil, ↓sops_go, ↓dops_nil, ↓dopsX_nil, ↓dopsR_nil, ↓vdn, vup, extr_20, extr_21, extr_30, extr_31, extr_32, List.map_cons, List.map_nil, cond_true, cond_false, aop, aThen, aBlock, argEnv, ev, sput, sputO, binK, binI, unK, builtinK, pickK, Nat.reduceBEq, Nat.reduceAdd, Int.reduceBEq, Int.reduceBNe, Int.reduceLT, aPost, resK, tup, tyf])
    clear hN7
    try clear N7
    refine aw_aws ?_
    simp (maxSteps := 2000000) only [s14, ↓aw_region, ↓aw_skip, ↓aw_seq, ↓aw_block, ↓aw_exit, ↓aw_ret, ↓sops_nil, ↓sops_go, ↓dops_nil, ↓dopsX_nil, ↓dopsR_nil, ↓vdn, vup, extr_20, extr_21, extr_30, extr_31, extr_32, List.map_cons, List.map_nil, cond_true, cond_false, aop, aThen, aBlock, argEnv, ev, sput, sputO, binK, binI, unK, builtinK, pickK, Nat.reduceBEq, Nat.reduceAdd, Int.reduceBEq, Int.reduceBNe, Int.reduceLT, aPost, resK, tup, tyf]
end Go.Proofs.Tryd.Am
