/-
  ranks: the first best order, read out of the table; Order.
  Printed by gen.py: the code of some functions, without what no step looks at; held against the program's own by the kernel.
  ranks: IsOrder of the laws.
  Printed by gen.py: the code of some functions, without what no step looks at; held against the program's own by the kernel.
  ranks: the law RanksTogether: its two inner loops.
  ranks: the law RanksTogether.
-/
import Derived.Test.YtemmcfeekpblkaaDoorPk7
import Derived.Test.YtemmcfeekpblkaaDoorPk3
import Derived.Test.YtemmcfeekpblkaaDoorProg
import Derived.KernelRfl
import Derived.Shelf.Abstract
import Derived.Test.YtemmcfeekpblkaaDoorPk6
set_option linter.all false
namespace Go.Proofs.Tryd.Am
open Go.Am Redei Rb
set_option maxRecDepth 100000
set_option maxHeartbeats 1000000

theorem find_first {p : Nat → Bool} {pre suf : List Nat} {x : Nat} (hpre : ∀ y ∈ pre, p y = false) (hx : p x = true) : (pre ++ [x] ++ suf).find? p = some x := by
  rw [List.append_assoc, List.find?_append]
  have : pre.find? p = none := List.find?_eq_none.2 fun y hy => by rw [hpre y hy]; decide
  rw [this]
  simp [hx]
theorem pick_loop [BitTab prog 1] {h : Heap} {gv : Value} {xs : List Int} {M : Nat} (hv : IntSl h gv xs) (ht : trn xs = true) (hM : 2 ^ xs.length = M) {N : Env → Heap → Prop} {Q0 : Exit → Env → Heap → Prop} {T : List Nat} {H : Heap} {b9 c10 : Nat}
    (o0 : OB h H gv M T) (hT : TOk xs M 0 T) (h9 : H[b9]? = some (.cells [.slice none 0 0] 22 false)) (h10 : H[c10]? = some (.cells [.int .i64 0] 3 false)) (hl9 : h.length + 4 ≤ b9) (hl10 : b9 < c10)
    (hN : ∀ hp ov e, Ext (fun _ => False) h hp → hp[b9]? = some (.cells [ov] 22 false) → OwnSl 3 hp ov (iL (gr (cst xs) xs.length xs.length 0)) → ELe e [(2, .slice none 0 0), (3, .int .i64 0), (9, pt b9)] → N e hp) :
    AWS prog 84 (.block 4 (.loop l38_3)) (aThen N Q0) [(1, pt h.length), (2, .slice none 0 0), (3, .int .i64 0), (4, gv), (5, pt (h.length + 2)), (6, pt (h.length + 3)), (9, pt b9), (10, pt c10)] H := by
  have hnn : ∀ i : Nat, (0 : Int) ≤ (i : Int) := Int.natCast_nonneg
  have hxl : 1 ≤ xs.length ∧ xs.length ≤ 8 := by simp only [trn, Bool.and_eq_true, decide_eq_true_eq] at ht; omega
  have h256 := pow8N hxl.2
  have hp0 := Nat.two_pow_pos xs.length
  rw [hM] at h256 hp0
  have hf0 : (fr xs.length 0).length = xs.length := by rw [fr, List.filter_eq_self.2 (fun i _ => by simp), List.length_range]
  have hbne : ∀ a b : Nat, (((a : Nat) : Int) != ((b : Nat) : Int)) = !(a == b) := fun a b => by rw [Bool.eq_iff_iff, bne_iff_ne, Bool.not_eq_true', beq_eq_false_iff_ne]; omega
  refine aws_block ?_
  refine aws_hide fun Q hQ => ?_
  refine aw_loopW (γ := Nat × Nat × List Nat × Heap × Value × Nat) (fun s => s.2.1 < M ∧ (fr xs.length s.2.1).length = s.1 ∧ s.2.2.1 ++ gr (cst xs) xs.length s.1 s.2.1 = gr (cst xs) xs.length xs.length 0 ∧ s.2.2.1.length + s.1 = xs.length ∧
      OB h s.2.2.2.1 gv M T ∧ s.2.2.2.1[b9]? = some (.cells [s.2.2.2.2.1] 22 false) ∧ OwnSl 3 s.2.2.2.1 s.2.2.2.2.1 (iL s.2.2.1) ∧ s.2.2.2.1[s.2.2.2.2.2]? = some (.cells [vint s.2.1] 3 false) ∧ b9 < s.2.2.2.2.2 ∧ (∀ b, blkOf s.2.2.2.2.1 = some b → h.length + 4 ≤ b))
    (fun s => ([(1, pt h.length), (2, .slice none 0 0), (3, .int .i64 0), (4, gv), (5, pt (h.length + 2)), (6, pt (h.length + 3)), (9, pt b9), (10, pt s.2.2.2.2.2)], s.2.2.2.1)) (fun s => s.1) (xs.length, 0, [], H, .slice none 0 0, c10) ⟨hp0, hf0, rfl, by simp, o0, h9, .inl ⟨rfl, rfl⟩, h10, hl10, fun b hb => by cases hb⟩ (by simp (maxSteps := 2000000) only [↓aw_region, ↓aw_skip, ↓aw_seq, ↓aw_block, ↓aw_exit, ↓aw_ret, ↓sops_nil, ↓sops_go, ↓dops_nil, ↓dopsX_nil, ↓dopsR_nil, ↓vdn, vup, extr_20, extr_21, extr_30, extr_31, extr_32, List.map_cons, List.map_nil, cond_true, cond_false, aop, aThen, aBlock, argEnv, ev, sput, sputO, binK, binI, unK, builtinK, pickK, Nat.reduceBEq, Nat.reduceAdd, Int.reduceBEq, Int.reduceBNe, Int.reduceLT, aPost, resK, tup, tyf]) rfl ?_
  rintro ⟨k, s, O, hp, ov, b10⟩ ⟨hsM, hk, hgr, hOl, o, hb9, hov, hb10, hl10, hbk⟩
  simp only at hsM hk hgr hOl o hb9 hov hb10 hl10 hbk
  refine aws_hide fun Q2 hQ2 => ?_
  simp only [l38_3]
  have hsn : s < 2 ^ xs.length := by rw [hM]; exact hsM
  have hvp := IntSl_ext hv o.E
  have hac : APure prog 63 [gv] hp (vint ((M - 1 : Nat) : Int)) := by have := all_call hvp hxl.2; rw [hM] at this; exact this
  cases k with
  | zero =>
    have hs1 := (fr_full hM hsM).1 (List.length_eq_zero_iff.1 hk)
    have hsb : (s == M - 1) = true := beq_iff_eq.2 hs1
    refine aws_cut fun N1 hN1 => ?_
    simp (maxSteps := 2000000) only [s38, ↓aw_region, ↓aw_skip, ↓aw_seq, ↓aw_block, ↓aw_exit, ↓aw_ret, ↓sops_nil, ↓sops_go, ↓dops_nil, ↓dopsX_nil, ↓dopsR_nil, ↓vdn, vup, extr_20, extr_21, extr_30, extr_31, extr_32, List.map_cons, List.map_nil, cond_true, cond_false, aop, aThen, aBlock, argEnv, ev, sput, sputO, binK, binI, unK, builtinK, pickK, Nat.reduceBEq, Nat.reduceAdd, Int.reduceBEq, Int.reduceBNe, Int.reduceLT, aPost, resK, tup, tyf]
    refine aw_drawX [(2, 1)] (by kernel_rfl) (by kernel_rfl) (by kernel_rfl) (by kernel_rfl) ?_
    simp (maxSteps := 2000000) only [s38, ↓aw_region, ↓aw_skip, ↓aw_seq, ↓aw_block, ↓aw_exit, ↓aw_ret, ↓sops_nil, ↓sops_go, ↓dops_nil, ↓dopsX_nil, ↓dopsR_nil, ↓vdn, vup, extr_20, extr_21, extr_30, extr_31, extr_32, List.map_cons, List.map_nil, cond_true, cond_false, aop, aThen, aBlock, argEnv, ev, sput, sputO, builtinK, Nat.reduceBEq, Nat.reduceAdd, Int.reduceBEq, Int.reduceBNe, Int.reduceLT, aPost, resK, tup, tyf, load1 hb10 shp_3, callK, List.nil_append, List.append_nil, List.toList_toArray, List.cons_append]
    refine ⟨_, _, hac, rfl, ?_⟩
    simp (maxSteps := 2000000) only [s38, ↓aw_region, ↓aw_skip, ↓aw_seq, ↓aw_block, ↓aw_exit, ↓aw_ret, ↓sops_nil, ↓sops_go, ↓dops_nil, ↓dopsX_nil, ↓dopsR_nil, ↓vdn, vup, extr_20, extr_21, extr_30, extr_31, extr_32, List.map_cons, List.map_nil, cond_true, cond_false, aop, aThen, aBlock, argEnv, ev, sput, sputO, binK, binI, unK, builtinK, pickK, Nat.reduceBEq, Nat.reduceAdd, Int.reduceBEq, Int.reduceBNe, Int.reduceLT, aPost, resK, tup, tyf, hbne, hsb, Bool.not_true]
    refine hQ2 _ _ _ (hQ _ _ _ ?_)
    simp (maxSteps := 2000000) only [s38, ↓aw_region, ↓aw_skip, ↓aw_seq, ↓aw_block, ↓aw_exit, ↓aw_ret, ↓sops_nil, ↓sops_go, ↓dops_nil, ↓dopsX_nil, ↓dopsR_nil, ↓vdn, vup, extr_20, extr_21, extr_30, extr_31, extr_32, List.map_cons, List.map_nil, cond_true, cond_false, aop, aThen, aBlock, argEnv, ev, sput, sputO, binK, binI, unK, builtinK, pickK, Nat.reduceBEq, Nat.reduceAdd, Int.reduceBEq, Int.reduceBNe, Int.reduceLT, aPost, resK, tup, tyf, if_true]
    rw [gr, List.append_nil] at hgr
    rw [hgr] at hov
    exact hN hp ov _ o.E hb9 hov (by simp (maxSteps := 2000000) only [↓aw_region, ↓aw_skip, ↓aw_seq, ↓aw_block, ↓aw_exit, ↓aw_ret, ↓sops_nil, ↓sops_go, ↓dops_nil, ↓dopsX_nil, ↓dopsR_nil, ↓vdn, vup, extr_20, extr_21, extr_30, extr_31, extr_32, List.map_cons, List.map_nil, cond_true, cond_false, aop, aThen, aBlock, argEnv, ev, sput, sputO, binK, binI, unK, builtinK, pickK, Nat.reduceBEq, Nat.reduceAdd, Int.reduceBEq, Int.reduceBNe, Int.reduceLT, aPost, resK, tup, tyf])
  | succ k =>
  have hs1 : s ≠ M - 1 := fun e => by rw [(fr_full hM hsM).2 e] at hk; cases hk
  have hsb : (s == M - 1) = false := beq_eq_false_iff_ne.2 hs1
  obtain ⟨xf, hfind, hxf, hgx⟩ := gr_succ (cst_few hxl.2) hxl.2 hsn hk
  refine aws_cut fun N2 hN2 => ?_
  simp (maxSteps := 2000000) only [s38, ↓aw_region, ↓aw_skip, ↓aw_seq, ↓aw_block, ↓aw_exit, ↓aw_ret, ↓sops_nil, ↓sops_go, ↓dops_nil, ↓dopsX_nil, ↓dopsR_nil, ↓vdn, vup, extr_20, extr_21, extr_30, extr_31, extr_32, List.map_cons, List.map_nil, cond_true, cond_false, aop, aThen, aBlock, argEnv, ev, sput, sputO, binK, binI, unK, builtinK, pickK, Nat.reduceBEq, Nat.reduceAdd, Int.reduceBEq, Int.reduceBNe, Int.reduceLT, aPost, resK, tup, tyf]
  refine aw_drawX [(2, 1)] (by kernel_rfl) (by kernel_rfl) (by kernel_rfl) (by kernel_rfl) ?_
  simp (maxSteps := 2000000) only [s38, ↓aw_region, ↓aw_skip, ↓aw_seq, ↓aw_block, ↓aw_exit, ↓aw_ret, ↓sops_nil, ↓sops_go, ↓dops_nil, ↓dopsX_nil, ↓dopsR_nil, ↓vdn, vup, extr_20, extr_21, extr_30, extr_31, extr_32, List.map_cons, List.map_nil, cond_true, cond_false, aop, aThen, aBlock, argEnv, ev, sput, sputO, builtinK, Nat.reduceBEq, Nat.reduceAdd, Int.reduceBEq, Int.reduceBNe, Int.reduceLT, aPost, resK, tup, tyf, load1 hb10 shp_3, callK, List.nil_append, List.append_nil, List.toList_toArray, List.cons_append]
  refine ⟨_, _, hac, rfl, ?_⟩
  simp (maxSteps := 2000000) only [s38, ↓aw_region, ↓aw_skip, ↓aw_seq, ↓aw_block, ↓aw_exit, ↓aw_ret, ↓sops_nil, ↓sops_go, ↓dops_nil, ↓dopsX_nil, ↓dopsR_nil, ↓vdn, vup, extr_20, extr_21, extr_30, extr_31, extr_32, List.map_cons, List.map_nil, cond_true, cond_false, aop, aThen, aBlock, argEnv, ev, sput, sputO, binK, binI, unK, builtinK, pickK, Nat.reduceBEq, Nat.reduceAdd, Int.reduceBEq, Int.reduceBNe, Int.reduceLT, aPost, resK, tup, tyf, hbne, hsb, Bool.not_false]
  refine hN2 [(1, pt h.length), (2, .slice none 0 0), (3, .int .i64 0), (4, gv), (5, pt (h.length + 2)), (6, pt (h.length + 3)), (9, pt b9), (10, pt b10)] _ _ ?_ (by simp (maxSteps := 2000000) only [↓aw_region, ↓aw_skip, ↓aw_seq, ↓aw_block, ↓aw_exit, ↓aw_ret, ↓sops_nil, ↓sops_go, ↓dops_nil, ↓dopsX_nil, ↓dopsR_nil, ↓vdn, vup, extr_20, extr_21, extr_30, extr_31, extr_32, List.map_cons, List.map_nil, cond_true, cond_false, aop, aThen, aBlock, argEnv, ev, sput, sputO, binK, binI, unK, builtinK, pickK, Nat.reduceBEq, Nat.reduceAdd, Int.reduceBEq, Int.reduceBNe, Int.reduceLT, aPost, resK, tup, tyf])
  clear hN2
  try clear N2
  refine aws_cutW fun K hK => ?_
  refine aws_block ?_
  refine aws_cut fun N3 hN3 => ?_
  refine aw_drawX [(1, 1), (4, 4)] (by kernel_rfl) (by kernel_rfl) (by kernel_rfl) (by kernel_rfl) ?_
  simp (maxSteps := 2000000) only [s38, ↓aw_region, ↓aw_skip, ↓aw_seq, ↓aw_block, ↓aw_exit, ↓aw_ret, ↓sops_nil, ↓sops_go, ↓dops_nil, ↓dopsX_nil, ↓dopsR_nil, ↓vdn, vup, extr_20, extr_21, extr_30, extr_31, extr_32, List.map_cons, List.map_nil, cond_true, cond_false, aop, aThen, aBlock, argEnv, ev, sput, sputO, builtinK, Nat.reduceBEq, Nat.reduceAdd, Int.reduceBEq, Int.reduceBNe, Int.reduceLT, aPost, resK, tup, tyf, load1 hb10 shp_3, callK, List.nil_append, List.append_nil, List.toList_toArray, List.cons_append]
  refine ⟨_, _, hac, rfl, ?_⟩
  simp (maxSteps := 2000000) only [s38, ↓aw_region, ↓aw_skip, ↓aw_seq, ↓aw_block, ↓aw_exit, ↓aw_ret, ↓sops_nil, ↓sops_go, ↓dops_nil, ↓dopsX_nil, ↓dopsR_nil, ↓vdn, vup, extr_20, extr_21, extr_30, extr_31, extr_32, List.map_cons, List.map_nil, cond_true, cond_false, aop, aThen, aBlock, argEnv, ev, sput, sputO, builtinK, Nat.reduceBEq, Nat.reduceAdd, Int.reduceBEq, Int.reduceBNe, Int.reduceLT, aPost, resK, tup, tyf, load1 hb10 shp_3, band (show M - 1 < 9223372036854775808 by omega) (show s < 9223372036854775808 by omega), callK, List.nil_append, List.append_nil, List.toList_toArray, List.cons_append]
  refine players_call.mono ?_
  rintro v' h2 ⟨rfl, rfl⟩
  try simp (maxSteps := 2000000) only [s38, ↓aw_region, ↓aw_skip, ↓aw_seq, ↓aw_block, ↓aw_exit, ↓aw_ret, ↓sops_nil, ↓sops_go, ↓dops_nil, ↓dopsX_nil, ↓dopsR_nil, ↓vdn, vup, extr_20, extr_21, extr_30, extr_31, extr_32, List.map_cons, List.map_nil, cond_true, cond_false, aop, aThen, aBlock, argEnv, ev, sput, sputO, binK, binI, unK, builtinK, pickK, Nat.reduceBEq, Nat.reduceAdd, Int.reduceBEq, Int.reduceBNe, Int.reduceLT, aPost, resK, tup, tyf]
  refine hN3 [(1, pt h.length), (2, .slice none 0 0), (3, .int .i64 0), (4, gv), (5, pt (h.length + 2)), (6, pt (h.length + 3)), (9, pt b9), (10, pt b10), (63, .func (.func 93) #[] #[newPtr hp])] _ _ ?_ (by simp (maxSteps := 2000000) only [↓aw_region, ↓aw_skip, ↓aw_seq, ↓aw_block, ↓aw_exit, ↓aw_ret, ↓sops_nil, ↓sops_go, ↓dops_nil, ↓dopsX_nil, ↓dopsR_nil, ↓vdn, vup, extr_20, extr_21, extr_30, extr_31, extr_32, List.map_cons, List.map_nil, cond_true, cond_false, aop, aThen, aBlock, argEnv, ev, sput, sputO, binK, binI, unK, builtinK, pickK, Nat.reduceBEq, Nat.reduceAdd, Int.reduceBEq, Int.reduceBNe, Int.reduceLT, aPost, resK, tup, tyf])
  clear hN3
  try clear N3
  have hbl := bits_left hM (show xs.length ≤ 64 by omega) hsM
  have hll : less (M - 1) s < 2 ^ xs.length := less_lt (by rw [hM]; omega)
  have l9 := get_lt hb9
  have l10 := get_lt hb10
  have fin : ∀ (h3 : Heap) (ov2 : Value), OB h h3 gv M T → h3[b9]? = some (.cells [ov2] 22 false) → OwnSl 3 h3 ov2 (iL (O ++ [xf])) → h3[b10]? = some (.cells [vint (s ||| 2 ^ xf : Nat)] 3 false) → (∀ b, blkOf ov2 = some b → h.length + 4 ≤ b) →
      ∀ e, ELe e [(1, pt h.length), (2, .slice none 0 0), (3, .int .i64 0), (4, gv), (5, pt (h.length + 2)), (6, pt (h.length + 3)), (9, pt b9), (10, pt b10)] → K e h3 := by
    intro h3 ov2 o3 h39 hov3 h310 hbk3 e he
    refine hK [(1, pt h.length), (2, .slice none 0 0), (3, .int .i64 0), (4, gv), (5, pt (h.length + 2)), (6, pt (h.length + 3)), (9, pt b9), (10, pt b10)] _ _ ?_ he
    refine aw_aws ?_
    simp (maxSteps := 2000000) only [s38, ↓aw_region, ↓aw_skip, ↓aw_seq, ↓aw_block, ↓aw_exit, ↓aw_ret, ↓sops_nil, ↓sops_go, ↓dops_nil, ↓dopsX_nil, ↓dopsR_nil, ↓vdn, vup, extr_20, extr_21, extr_30, extr_31, extr_32, List.map_cons, List.map_nil, cond_true, cond_false, aop, aThen, aBlock, argEnv, ev, sput, sputO, binK, binI, unK, builtinK, pickK, Nat.reduceBEq, Nat.reduceAdd, Int.reduceBEq, Int.reduceBNe, Int.reduceLT, aPost, resK, tup, tyf, load1 h310 shp_3, allocK, newPtr, zero_3, Am.storeI (get_new _ _) shp_3, setLast]
    have hx := mem_fr.1 hxf
    have hput := fr_put hxf
    refine hQ2 _ _ _ ⟨(k, s ||| 2 ^ xf, O ++ [xf], h3 ++ [Blk.cells [vint (s ||| 2 ^ xf : Nat)] 3 false], ov2, h3.length), ⟨by rw [← hM]; exact put_lt hsn hx.1, by simp only; omega, ?_, by simp only; rw [List.length_append, List.length_singleton]; omega, o3.up (Ext.app _ _ _), get_old h39 _, ?_, get_new _ _, ?_, hbk3⟩, by simp only; omega, by simp (maxSteps := 2000000) only [↓aw_region, ↓aw_skip, ↓aw_seq, ↓aw_block, ↓aw_exit, ↓aw_ret, ↓sops_nil, ↓sops_go, ↓dops_nil, ↓dopsX_nil, ↓dopsR_nil, ↓vdn, vup, extr_20, extr_21, extr_30, extr_31, extr_32, List.map_cons, List.map_nil, cond_true, cond_false, aop, aThen, aBlock, argEnv, ev, sput, sputO, binK, binI, unK, builtinK, pickK, Nat.reduceBEq, Nat.reduceAdd, Int.reduceBEq, Int.reduceBNe, Int.reduceLT, aPost, resK, tup, tyf], rfl⟩
    · simp only
      rw [List.append_assoc, ← hgr, hgx]; rfl
    · exact hov3.ext (Ext.app (fun _ => False) _ _) fun _ _ => id
    · have := get_lt h310
      simp only; omega
  clear hK
  refine aws_block ?_
  refine aw_aws ?_
  refine aw_range bitIter (bx := hp.length) (s := less (M - 1) s) (et := 3) rfl (get_new _ _) (by omega) (fun pre hk => OB h hk gv M T ∧ hk[b9]? = some (.cells [ov] 22 false) ∧ OwnSl 3 hk ov (iL O) ∧ hk[b10]? = some (.cells [vint s] 3 false) ∧
    ∀ y ∈ pre, (fv (cst xs) xs.length k s y == rst (cst xs) xs.length (k + 1) s) = false) ?_ ?_ ?_
  · have hE : Ext (fun i => h.length + 4 ≤ i) hp ((hp ++ [Blk.cells [vint (less (M - 1) s : Nat)] 3 false]).set hp.length .dead) := (Ext.app _ _ _).trans (Ext.set _ (by omega))
    have keep : ∀ i, i < hp.length → ((hp ++ [Blk.cells [vint (less (M - 1) s : Nat)] 3 false]).set hp.length .dead)[i]? = hp[i]? := fun i hi => by
      rw [List.getElem?_set_ne (by omega), List.getElem?_append_left hi]
    exact ⟨o.up hE, (keep _ l9).trans hb9, hov.same fun b hb => keep b (hov.lt hb), (keep _ l10).trans hb10, fun y hy => by cases hy⟩
  · rintro pre x hk2 hpre ⟨o2, h29, hov2, h210, hno⟩
    rw [hbl] at hpre
    have hx := mem_pre hpre
    obtain ⟨hxn, hxs⟩ := mem_fr.1 hx
    have hsx : s ||| 2 ^ x < 2 ^ xs.length := put_lt hsn hxn
    have hput := fr_put hx
    have hTx : T.getD (s ||| 2 ^ x) 0 = rst (cst xs) xs.length k (s ||| 2 ^ x) := by
      rw [hT.1 _ (Nat.zero_le _) (by rw [← hM]; exact hsx), show (fr xs.length (s ||| 2 ^ x)).length = k by omega]
    have hTs : T.getD s 0 = rst (cst xs) xs.length (k + 1) s := by rw [hT.1 s (Nat.zero_le _) hsM, hk]
    have hcc : APure prog 75 [vint s, vint x, pt h.length, pt (h.length + 2)] hk2 (vint (fv (cst xs) xs.length k s x : Nat)) := by
      have := cost_call o2 hv ht hM hsM hxn (by have := hT.2 (s ||| 2 ^ x); omega)
      rw [hTx] at this; exact this
    simp (maxSteps := 2000000) only [s38, ↓aw_region, ↓aw_skip, ↓aw_seq, ↓aw_block, ↓aw_exit, ↓aw_ret, ↓sops_nil, ↓sops_go, ↓dops_nil, ↓dopsX_nil, ↓dopsR_nil, ↓vdn, vup, extr_20, extr_21, extr_30, extr_31, extr_32, List.map_cons, List.map_nil, cond_true, cond_false, aop, aThen, aBlock, argEnv, ev, sput, sputO, binK, binI, unK, builtinK, pickK, Nat.reduceBEq, Nat.reduceAdd, Int.reduceBEq, Int.reduceBNe, Int.reduceLT, aPost, resK, tup, tyf, r38_2_a, r38_2_b]
    refine aw_drawX [(3, 1)] (by kernel_rfl) (by kernel_rfl) (by kernel_rfl) (by kernel_rfl) ?_
    simp (maxSteps := 2000000) only [s38, ↓aw_region, ↓aw_skip, ↓aw_seq, ↓aw_block, ↓aw_exit, ↓aw_ret, ↓sops_nil, ↓sops_go, ↓dops_nil, ↓dopsX_nil, ↓dopsR_nil, ↓vdn, vup, extr_20, extr_21, extr_30, extr_31, extr_32, List.map_cons, List.map_nil, cond_true, cond_false, aop, aThen, aBlock, argEnv, ev, sput, sputO, builtinK, Nat.reduceBEq, Nat.reduceAdd, Int.reduceBEq, Int.reduceBNe, Int.reduceLT, aPost, resK, tup, tyf, load1 o2.b6 shp_69, load1 h210 shp_3, callK, List.nil_append, List.append_nil, List.toList_toArray, List.cons_append]
    refine ⟨_, _, hcc, rfl, ?_⟩
    cases heq : (fv (cst xs) xs.length k s x == rst (cst xs) xs.length (k + 1) s) with
    | false =>
      simp (maxSteps := 2000000) only [s38, ↓aw_region, ↓aw_skip, ↓aw_seq, ↓aw_block, ↓aw_exit, ↓aw_ret, ↓sops_nil, ↓sops_go, ↓dops_nil, ↓dopsX_nil, ↓dopsR_nil, ↓vdn, vup, extr_20, extr_21, extr_30, extr_31, extr_32, List.map_cons, List.map_nil, cond_true, cond_false, aop, aThen, aBlock, argEnv, ev, sput, sputO, binK, binI, unK, builtinK, pickK, Nat.reduceBEq, Nat.reduceAdd, Int.reduceBEq, Int.reduceBNe, Int.reduceLT, aPost, resK, tup, tyf, load1 o2.b5 shp_22, load1 h210 shp_3, tab_idx o2.bT o2.len hsM, tab_load o2.bT o2.len hsM, hTs, beqN, heq, rangeQ]
      refine ⟨o2, h29, hov2, h210, fun y hy => ?_⟩
      rcases List.mem_append.1 hy with hy | hy
      · exact hno y hy
      · rw [List.mem_singleton.1 hy]; exact heq
    | true =>
      have hxe : x = xf := by
        obtain ⟨suf, hsuf⟩ := hpre
        have := find_first (suf := suf) hno heq
        rw [hsuf, hfind] at this
        exact (Option.some.inj this).symm
      subst hxe
      have p2 : 2 ^ x ≤ 2 ^ 8 := Nat.pow_le_pow_right (by decide) (by omega)
      have hor : bitsV .or .i64 ((s : Nat) : Int) ((2 ^ x : Nat) : Int) = ((s ||| 2 ^ x : Nat) : Int) := bitsV_or (by omega) (by omega)
      simp (maxSteps := 2000000) only [s38, ↓aw_region, ↓aw_skip, ↓aw_seq, ↓aw_block, ↓aw_exit, ↓aw_ret, ↓sops_nil, ↓sops_go, ↓dops_nil, ↓dopsX_nil, ↓dopsR_nil, ↓vdn, vup, extr_20, extr_21, extr_30, extr_31, extr_32, List.map_cons, List.map_nil, cond_true, cond_false, aop, aThen, aBlock, argEnv, ev, sput, sputO, binK, binI, unK, builtinK, pickK, Nat.reduceBEq, Nat.reduceAdd, Int.reduceBEq, Int.reduceBNe, Int.reduceLT, aPost, resK, tup, tyf, load1 o2.b5 shp_22, load1 h210 shp_3, tab_idx o2.bT o2.len hsM, tab_load o2.bT o2.len hsM, hTs, beqN, heq, load1 h29 shp_22, litI1]
      have k9 := get_lt h29
      have k10 := get_lt h210
      refine (hov2.ext (Ext.app (fun _ => False) _ _) fun _ _ => id).append app_22_22 (by rw [iL_len]; omega) (get_new _ _) fun ov3 h3 ho3 hE3 hb3 => ?_
      rw [iL_snoc] at ho3
      have hE3' : Ext (fun i => blkOf ov = some i) hk2 h3 := (Ext.app _ _ _).trans hE3
      have h39 : h3[b9]? = some (.cells [ov] 22 false) := (hE3'.2 _ k9 (own_ne hov2 h29)).trans h29
      have h310 : h3[b10]? = some (.cells [vint s] 3 false) := (hE3'.2 _ k10 (own_ne hov2 h210)).trans h210
      have hbk3 : ∀ b, blkOf ov3 = some b → h.length + 4 ≤ b := fun b hb => by
        rcases hb3 with e | ⟨b', e, hle⟩
        · exact hbk b (e ▸ hb)
        · rw [e] at hb; cases hb
          rw [List.length_append] at hle; omega
      have h310' : (h3.set b9 (.cells [ov3] 22 false))[b10]? = some (.cells [vint s] 3 false) := by rw [List.getElem?_set_ne (by omega)]; exact h310
      simp (maxSteps := 2000000) only [s38, ↓aw_region, ↓aw_skip, ↓aw_seq, ↓aw_block, ↓aw_exit, ↓aw_ret, ↓sops_nil, ↓sops_go, ↓dops_nil, ↓dopsX_nil, ↓dopsR_nil, ↓vdn, vup, extr_20, extr_21, extr_30, extr_31, extr_32, List.map_cons, List.map_nil, cond_true, cond_false, aop, aThen, aBlock, argEnv, ev, sput, sputO, binK, binI, unK, builtinK, pickK, Nat.reduceBEq, Nat.reduceAdd, Int.reduceBEq, Int.reduceBNe, Int.reduceLT, aPost, resK, tup, tyf, store1 h39 shp_22 (own_one ho3)]
      refine aw_drawX [] (by kernel_rfl) (by kernel_rfl) (by kernel_rfl) (by kernel_rfl) ?_
      simp (maxSteps := 2000000) only [s38, ↓aw_region, ↓aw_skip, ↓aw_seq, ↓aw_block, ↓aw_exit, ↓aw_ret, ↓sops_nil, ↓sops_go, ↓dops_nil, ↓dopsX_nil, ↓dopsR_nil, ↓vdn, vup, extr_20, extr_21, extr_30, extr_31, extr_32, List.map_cons, List.map_nil, cond_true, cond_false, aop, aThen, aBlock, argEnv, ev, sput, sputO, binK, binI, unK, builtinK, pickK, Nat.reduceBEq, Nat.reduceAdd, Int.reduceBEq, Int.reduceBNe, Int.reduceLT, aPost, resK, tup, tyf, load1 h310' shp_3, hnn, shlI1 (show x ≤ 62 by omega), hor, Am.storeI h310' shp_3, rangeQ, Nat.reduceEqDiff, if_true, if_false]
      refine fin _ ov3 ((o2.up (hE3'.mono fun i hi => hbk i hi)).up ((Ext.set _ hl9).trans (Ext.set _ (by omega)))) ?_ ?_ (get_set (by rw [List.length_set]; exact get_lt h310) _) hbk3 _ (by simp (maxSteps := 2000000) only [↓aw_region, ↓aw_skip, ↓aw_seq, ↓aw_block, ↓aw_exit, ↓aw_ret, ↓sops_nil, ↓sops_go, ↓dops_nil, ↓dopsX_nil, ↓dopsR_nil, ↓vdn, vup, extr_20, extr_21, extr_30, extr_31, extr_32, List.map_cons, List.map_nil, cond_true, cond_false, aop, aThen, aBlock, argEnv, ev, sput, sputO, binK, binI, unK, builtinK, pickK, Nat.reduceBEq, Nat.reduceAdd, Int.reduceBEq, Int.reduceBNe, Int.reduceLT, aPost, resK, tup, tyf])
      · rw [List.getElem?_set_ne (by omega)]; exact get_set (get_lt h39) _
      · refine ho3.same fun b hb => ?_
        have n9 : blkOf ov3 ≠ some b9 := own_ne ho3 h39
        have n10 : blkOf ov3 ≠ some b10 := own_ne ho3 h310
        rw [List.getElem?_set_ne (fun e => n10 (by rw [hb, e])), List.getElem?_set_ne (fun e => n9 (by rw [hb, e]))]
  · rintro hk2 ⟨_, _, _, _, hno⟩
    rw [hbl] at hno
    obtain ⟨j, hj, he⟩ := rst_att (cst_few hxl.2) hxl.2 hsn hk
    have := hno j hj
    rw [he, beq_self_eq_true] at this; cases this

theorem s38_callW [Tabs Tryd.prog] {args : List Value} {h : Heap} {Q : Value → Heap → Prop} (hsz : args.length ≤ 84) (hk : AWS Tryd.prog 84 s38 (aPost Tryd.prog [.tmp 2, .tmp 3] Q) (argEnv 0 args) h) : ACall Tryd.prog 38 args h Q :=
  acall_w Tryd.func38 rfl (enters_of Tryd.func38 (by kernel_rfl) rfl) rfl rfl (by decide) s38_strip s38_ok hsz hk
theorem order_call [BitTab prog 1] {h : Heap} {v : Value} {xs : List Int} (hv : IntSl h v xs) (hl : xs.length < 9223372036854775808) (hx : ∀ x ∈ xs, -9223372036854775808 ≤ x ∧ x < 9223372036854775808) :
    ACall prog 38 [v] h fun r h' => Ext (fun _ => False) h h' ∧ if trn xs = true then ∃ u, r = .tuple #[u, .int .i64 0] ∧ OwnSl 3 h' u (iL (gr (cst xs) xs.length xs.length 0)) else r = .tuple #[.slice none 0 0, .int .i64 2] := by
  have hnn : ∀ i : Nat, (0 : Int) ≤ (i : Int) := Int.natCast_nonneg
  have slOne : one v = true := by
    rcases hv with ⟨rfl, _⟩ | ⟨b, o, sp, cap, c, e, ro, rfl, _⟩ <;> rfl
  have box22 : ∀ {K : Value → Heap → Prop}, boxK prog h 22 v K = K (newPtr h) (h ++ [.cells [v] 22 false]) := fun {K} => by
    rcases hv with ⟨rfl, _⟩ | ⟨b, o, sp, cap, c, e, ro, rfl, _⟩ <;> simp [boxK, esz_22, cellsOf]
  refine s38_callW (by simp) ?_
  simp only [s38]
  refine aws_cut fun N4 hN4 => ?_
  simp (maxSteps := 2000000) only [s38, ↓aw_region, ↓aw_skip, ↓aw_seq, ↓aw_block, ↓aw_exit, ↓aw_ret, ↓sops_nil, ↓sops_go, ↓dops_nil, ↓dopsX_nil, ↓dopsR_nil, ↓vdn, vup, extr_20, extr_21, extr_30, extr_31, extr_32, List.map_cons, List.map_nil, cond_true, cond_false, aop, aThen, aBlock, argEnv, ev, sput, sputO, binK, binI, unK, builtinK, pickK, Nat.reduceBEq, Nat.reduceAdd, Int.reduceBEq, Int.reduceBNe, Int.reduceLT, aPost, resK, tup, tyf, box22, newPtr]
  refine hN4 [(1, pt h.length), (2, .slice none 0 0), (3, .int .i64 0)] _ _ ?_ (by simp (maxSteps := 2000000) only [↓aw_region, ↓aw_skip, ↓aw_seq, ↓aw_block, ↓aw_exit, ↓aw_ret, ↓sops_nil, ↓sops_go, ↓dops_nil, ↓dopsX_nil, ↓dopsR_nil, ↓vdn, vup, extr_20, extr_21, extr_30, extr_31, extr_32, List.map_cons, List.map_nil, cond_true, cond_false, aop, aThen, aBlock, argEnv, ev, sput, sputO, binK, binI, unK, builtinK, pickK, Nat.reduceBEq, Nat.reduceAdd, Int.reduceBEq, Int.reduceBNe, Int.reduceLT, aPost, resK, tup, tyf])
  clear hN4
  try clear N4
  have hE0 : Ext (fun _ => False) h (h ++ [Blk.cells [v] 22 false]) := Ext.app _ _ _
  have b1 := get_new h (Blk.cells [v] 22 false)
  generalize hH0 : h ++ [Blk.cells [v] 22 false] = H0 at hE0 b1 ⊢
  have l0 : H0.length = h.length + 1 := by rw [← hH0]; simp
  clear hH0
  refine aws_cut fun N5 hN5 => ?_
  simp (maxSteps := 2000000) only [s38, ↓aw_region, ↓aw_skip, ↓aw_seq, ↓aw_block, ↓aw_exit, ↓aw_ret, ↓sops_nil, ↓sops_go, ↓dops_nil, ↓dopsX_nil, ↓dopsR_nil, ↓vdn, vup, extr_20, extr_21, extr_30, extr_31, extr_32, List.map_cons, List.map_nil, cond_true, cond_false, aop, aThen, aBlock, argEnv, ev, sput, sputO, binK, binI, unK, builtinK, pickK, Nat.reduceBEq, Nat.reduceAdd, Int.reduceBEq, Int.reduceBNe, Int.reduceLT, aPost, resK, tup, tyf, load1 b1 shp_22]
  refine hN5 [(1, pt h.length), (2, .slice none 0 0), (3, .int .i64 0), (4, v)] _ _ ?_ (by simp (maxSteps := 2000000) only [↓aw_region, ↓aw_skip, ↓aw_seq, ↓aw_block, ↓aw_exit, ↓aw_ret, ↓sops_nil, ↓sops_go, ↓dops_nil, ↓dopsX_nil, ↓dopsR_nil, ↓vdn, vup, extr_20, extr_21, extr_30, extr_31, extr_32, List.map_cons, List.map_nil, cond_true, cond_false, aop, aThen, aBlock, argEnv, ev, sput, sputO, binK, binI, unK, builtinK, pickK, Nat.reduceBEq, Nat.reduceAdd, Int.reduceBEq, Int.reduceBNe, Int.reduceLT, aPost, resK, tup, tyf])
  clear hN5
  try clear N5
  have hv0 := IntSl_ext hv hE0
  refine aws_cut fun N6 hN6 => ?_
  simp (maxSteps := 2000000) only [s38, ↓aw_region, ↓aw_skip, ↓aw_seq, ↓aw_block, ↓aw_exit, ↓aw_ret, ↓sops_nil, ↓sops_go, ↓dops_nil, ↓dopsX_nil, ↓dopsR_nil, ↓vdn, vup, extr_20, extr_21, extr_30, extr_31, extr_32, List.map_cons, List.map_nil, cond_true, cond_false, aop, aThen, aBlock, argEnv, ev, sput, sputO, binK, binI, unK, builtinK, pickK, Nat.reduceBEq, Nat.reduceAdd, Int.reduceBEq, Int.reduceBNe, Int.reduceLT, aPost, resK, tup, tyf, callK, List.nil_append, List.append_nil, List.toList_toArray, List.cons_append]
  refine (valid_call hv0 hl hx).mono ?_
  rintro _ H0 ⟨rfl, rfl⟩
  cases ht : trn xs with
  | false =>
    simp (maxSteps := 2000000) only [s38, ↓aw_region, ↓aw_skip, ↓aw_seq, ↓aw_block, ↓aw_exit, ↓aw_ret, ↓sops_nil, ↓sops_go, ↓dops_nil, ↓dopsX_nil, ↓dopsR_nil, ↓vdn, vup, extr_20, extr_21, extr_30, extr_31, extr_32, List.map_cons, List.map_nil, cond_true, cond_false, aop, aThen, aBlock, argEnv, ev, sput, sputO, binK, binI, unK, builtinK, pickK, Nat.reduceBEq, Nat.reduceAdd, Int.reduceBEq, Int.reduceBNe, Int.reduceLT, aPost, resK, tup, tyf, Bool.not_false]
    exact ⟨hE0, by simp⟩
  | true =>
  have hxl : 1 ≤ xs.length ∧ xs.length ≤ 8 := by simp only [trn, Bool.and_eq_true, decide_eq_true_eq] at ht; omega
  have h256 := pow8N hxl.2
  have h2n : 2 ^ 1 ≤ 2 ^ xs.length := Nat.pow_le_pow_right (by decide) hxl.1
  obtain ⟨M, hM⟩ : ∃ M, 2 ^ xs.length = M := ⟨_, rfl⟩
  have hsh : shlV .i64 1 (xs.length : Int) = ((M : Nat) : Int) := by rw [shlI1 (by omega), hM]
  rw [hM] at h256 h2n
  simp (maxSteps := 2000000) only [s38, ↓aw_region, ↓aw_skip, ↓aw_seq, ↓aw_block, ↓aw_exit, ↓aw_ret, ↓sops_nil, ↓sops_go, ↓dops_nil, ↓dopsX_nil, ↓dopsR_nil, ↓vdn, vup, extr_20, extr_21, extr_30, extr_31, extr_32, List.map_cons, List.map_nil, cond_true, cond_false, aop, aThen, aBlock, argEnv, ev, sput, sputO, binK, binI, unK, builtinK, pickK, Nat.reduceBEq, Nat.reduceAdd, Int.reduceBEq, Int.reduceBNe, Int.reduceLT, aPost, resK, tup, tyf, Bool.not_true]
  refine hN6 [(1, pt h.length), (2, .slice none 0 0), (3, .int .i64 0), (4, v)] _ _ ?_ (by simp (maxSteps := 2000000) only [↓aw_region, ↓aw_skip, ↓aw_seq, ↓aw_block, ↓aw_exit, ↓aw_ret, ↓sops_nil, ↓sops_go, ↓dops_nil, ↓dopsX_nil, ↓dopsR_nil, ↓vdn, vup, extr_20, extr_21, extr_30, extr_31, extr_32, List.map_cons, List.map_nil, cond_true, cond_false, aop, aThen, aBlock, argEnv, ev, sput, sputO, binK, binI, unK, builtinK, pickK, Nat.reduceBEq, Nat.reduceAdd, Int.reduceBEq, Int.reduceBNe, Int.reduceLT, aPost, resK, tup, tyf])
  clear hN6
  try clear N6
  refine aws_cut fun N7 hN7 => ?_
  have tcell := get_new (H0 ++ [Blk.ints (List.replicate M 0) 3 false]) (Blk.cells [.slice none 0 0] 22 false)
  simp (maxSteps := 2000000) only [s38, ↓aw_region, ↓aw_skip, ↓aw_seq, ↓aw_block, ↓aw_exit, ↓aw_ret, ↓sops_nil, ↓sops_go, ↓dops_nil, ↓dopsX_nil, ↓dopsR_nil, ↓vdn, vup, extr_20, extr_21, extr_30, extr_31, extr_32, List.map_cons, List.map_nil, cond_true, cond_false, aop, aThen, aBlock, argEnv, ev, sput, sputO, binK, binI, unK, builtinK, pickK, Nat.reduceBEq, Nat.reduceAdd, Int.reduceBEq, Int.reduceBNe, Int.reduceLT, aPost, resK, tup, tyf, load1 b1 shp_22, hv0.len, hnn, hsh, makeI el_22 zero_3 info_3 (Int.natCast_nonneg M) (show ((M : Nat) : Int) ≤ 35184372088832 by omega), Int.toNat_natCast, allocK, newPtr, zero_22, store1 tcell shp_22 (show one (tv H0.length M) = true from rfl), setLast]
  refine hN7 [(1, pt h.length), (2, .slice none 0 0), (3, .int .i64 0), (4, v), (5, pt (H0 ++ [Blk.ints (List.replicate M 0) 3 false]).length)] _ _ ?_ (by simp (maxSteps := 2000000) only [↓aw_region, ↓aw_skip, ↓aw_seq, ↓aw_block, ↓aw_exit, ↓aw_ret, ↓sops_nil, ↓sops_go, ↓dops_nil, ↓dopsX_nil, ↓dopsR_nil, ↓vdn, vup, extr_20, extr_21, extr_30, extr_31, extr_32, List.map_cons, List.map_nil, cond_true, cond_false, aop, aThen, aBlock, argEnv, ev, sput, sputO, binK, binI, unK, builtinK, pickK, Nat.reduceBEq, Nat.reduceAdd, Int.reduceBEq, Int.reduceBNe, Int.reduceLT, aPost, resK, tup, tyf])
  clear hN7
  try clear N7
  refine aws_cut fun N8 hN8 => ?_
  simp (maxSteps := 2000000) only [s38, ↓aw_region, ↓aw_skip, ↓aw_seq, ↓aw_block, ↓aw_exit, ↓aw_ret, ↓sops_nil, ↓sops_go, ↓dops_nil, ↓dopsX_nil, ↓dopsR_nil, ↓vdn, vup, extr_20, extr_21, extr_30, extr_31, extr_32, List.map_cons, List.map_nil, cond_true, cond_false, aop, aThen, aBlock, argEnv, ev, sput, sputO, binK, binI, unK, builtinK, pickK, Nat.reduceBEq, Nat.reduceAdd, Int.reduceBEq, Int.reduceBNe, Int.reduceLT, aPost, resK, tup, tyf, List.map_toArray, allocK, newPtr, zero_69, Am.storeF (get_new _ _) shp_69, setLast]
  refine hN8 [(1, pt h.length), (2, .slice none 0 0), (3, .int .i64 0), (4, v), (5, pt (H0 ++ [Blk.ints (List.replicate M 0) 3 false]).length), (6, pt (H0 ++ [Blk.ints (List.replicate M 0) 3 false] ++ [Blk.cells [tv H0.length M] 22 false]).length)] _ _ ?_ (by simp (maxSteps := 2000000) only [↓aw_region, ↓aw_skip, ↓aw_seq, ↓aw_block, ↓aw_exit, ↓aw_ret, ↓sops_nil, ↓sops_go, ↓dops_nil, ↓dopsX_nil, ↓dopsR_nil, ↓vdn, vup, extr_20, extr_21, extr_30, extr_31, extr_32, List.map_cons, List.map_nil, cond_true, cond_false, aop, aThen, aBlock, argEnv, ev, sput, sputO, binK, binI, unK, builtinK, pickK, Nat.reduceBEq, Nat.reduceAdd, Int.reduceBEq, Int.reduceBNe, Int.reduceLT, aPost, resK, tup, tyf])
  clear hN8
  try clear N8
  have e1 : (H0 ++ [Blk.ints (List.replicate M 0) 3 false]).length = h.length + 2 := by simp [l0]
  have e2 : (H0 ++ [Blk.ints (List.replicate M 0) 3 false] ++ [Blk.cells [tv H0.length M] 22 false]).length = h.length + 3 := by simp [l0]
  have hrep : List.replicate M (0 : Int) = iL (List.replicate M 0) := by simp [iL]
  rw [e1, e2, l0, hrep]
  generalize hG : H0 ++ [Blk.ints (iL (List.replicate M 0)) 3 false] ++ [Blk.cells [tv (h.length + 1) M] 22 false] ++ [Blk.cells [.func (.func 75) #[] #[pt h.length, pt (h.length + 2)]] 69 false] = G
  have hGl : G.length = h.length + 4 := by rw [← hG]; simp [l0]
  have o0 : OB h G v M (List.replicate M 0) := by
    rw [← hG]
    refine ⟨get_old (get_old (get_old b1 _) _) _, ?_, ?_, ?_, ((hE0.trans (Ext.app _ _ _)).trans (Ext.app _ _ _)).trans (Ext.app _ _ _), by simp⟩
    · rw [← l0]; exact get_old (get_old (get_new _ _) _) _
    · have := get_new (H0 ++ [Blk.ints (iL (List.replicate M 0)) 3 false]) (Blk.cells [tv (h.length + 1) M] 22 false)
      rw [List.length_append, List.length_singleton, l0] at this
      exact get_old this _
    · have := get_new (H0 ++ [Blk.ints (iL (List.replicate M 0)) 3 false] ++ [Blk.cells [tv (h.length + 1) M] 22 false]) (Blk.cells [.func (.func 75) #[] #[pt h.length, pt (h.length + 2)]] 69 false)
      rw [List.length_append, List.length_append, List.length_singleton, List.length_singleton, l0] at this
      exact this
  clear hG tcell
  have hv1 := IntSl_ext hv o0.E
  have hT0 : TOk xs M (M - 1) (List.replicate M 0) := by
    have hz : ∀ s, (List.replicate M 0).getD s 0 = 0 := fun s => by
      rw [List.getD, List.getElem?_replicate]; split <;> rfl
    refine ⟨fun s h1 h2 => ?_, fun s => by rw [hz]; omega⟩
    rw [hz, (fr_full hM h2).2 (by omega)]; rfl
  have hsub : subV .i64 ((M - 1 : Nat) : Int) 1 = ((M - 1 : Nat) : Int) - 1 := subV_id (by omega) (by omega)
  refine aws_cutW fun Z hZ => ?_
  refine aws_cut fun N9 hN9 => ?_
  simp (maxSteps := 2000000) only [s38, ↓aw_region, ↓aw_skip, ↓aw_seq, ↓aw_block, ↓aw_exit, ↓aw_ret, ↓sops_nil, ↓sops_go, ↓dops_nil, ↓dopsX_nil, ↓dopsR_nil, ↓vdn, vup, extr_20, extr_21, extr_30, extr_31, extr_32, List.map_cons, List.map_nil, cond_true, cond_false, aop, aThen, aBlock, argEnv, ev, sput, sputO, binK, binI, unK, builtinK, pickK, Nat.reduceBEq, Nat.reduceAdd, Int.reduceBEq, Int.reduceBNe, Int.reduceLT, aPost, resK, tup, tyf, callK, List.nil_append, List.append_nil, List.toList_toArray, List.cons_append]
  refine ((show APure prog 63 [v] G (vint ((M - 1 : Nat) : Int)) by have := all_call hv1 hxl.2; rw [hM] at this; exact this)).mono ?_
  rintro _ G ⟨rfl, rfl⟩
  simp (maxSteps := 2000000) only [s38, ↓aw_region, ↓aw_skip, ↓aw_seq, ↓aw_block, ↓aw_exit, ↓aw_ret, ↓sops_nil, ↓sops_go, ↓dops_nil, ↓dopsX_nil, ↓dopsR_nil, ↓vdn, vup, extr_20, extr_21, extr_30, extr_31, extr_32, List.map_cons, List.map_nil, cond_true, cond_false, aop, aThen, aBlock, argEnv, ev, sput, sputO, binK, binI, unK, builtinK, pickK, Nat.reduceBEq, Nat.reduceAdd, Int.reduceBEq, Int.reduceBNe, Int.reduceLT, aPost, resK, tup, tyf, hsub, allocK, newPtr, zero_3, Am.storeI (get_new _ _) shp_3, setLast]
  refine hN9 [(1, pt h.length), (2, .slice none 0 0), (3, .int .i64 0), (4, v), (5, pt (h.length + 2)), (6, pt (h.length + 3)), (7, pt G.length)] _ _ ?_ (by simp (maxSteps := 2000000) only [↓aw_region, ↓aw_skip, ↓aw_seq, ↓aw_block, ↓aw_exit, ↓aw_ret, ↓sops_nil, ↓sops_go, ↓dops_nil, ↓dopsX_nil, ↓dopsR_nil, ↓vdn, vup, extr_20, extr_21, extr_30, extr_31, extr_32, List.map_cons, List.map_nil, cond_true, cond_false, aop, aThen, aBlock, argEnv, ev, sput, sputO, binK, binI, unK, builtinK, pickK, Nat.reduceBEq, Nat.reduceAdd, Int.reduceBEq, Int.reduceBNe, Int.reduceLT, aPost, resK, tup, tyf])
  clear hN9
  try clear N9
  refine fill_loop hv ht hM (o0.up (Ext.app _ _ _)) hT0 (get_new G _) (by omega) ?_
  intro hp T e o hT he
  refine hZ [(1, pt h.length), (2, .slice none 0 0), (3, .int .i64 0), (4, v), (5, pt (h.length + 2)), (6, pt (h.length + 3))] _ _ ?_ he
  clear hZ he
  refine aws_cut fun N10 hN10 => ?_
  simp (maxSteps := 2000000) only [s38, ↓aw_region, ↓aw_skip, ↓aw_seq, ↓aw_block, ↓aw_exit, ↓aw_ret, ↓sops_nil, ↓sops_go, ↓dops_nil, ↓dopsX_nil, ↓dopsR_nil, ↓vdn, vup, extr_20, extr_21, extr_30, extr_31, extr_32, List.map_cons, List.map_nil, cond_true, cond_false, aop, aThen, aBlock, argEnv, ev, sput, sputO, binK, binI, unK, builtinK, pickK, Nat.reduceBEq, Nat.reduceAdd, Int.reduceBEq, Int.reduceBNe, Int.reduceLT, aPost, resK, tup, tyf, allocK, newPtr, zero_22]
  refine hN10 [(1, pt h.length), (2, .slice none 0 0), (3, .int .i64 0), (4, v), (5, pt (h.length + 2)), (6, pt (h.length + 3)), (9, pt hp.length)] _ _ ?_ (by simp (maxSteps := 2000000) only [↓aw_region, ↓aw_skip, ↓aw_seq, ↓aw_block, ↓aw_exit, ↓aw_ret, ↓sops_nil, ↓sops_go, ↓dops_nil, ↓dopsX_nil, ↓dopsR_nil, ↓vdn, vup, extr_20, extr_21, extr_30, extr_31, extr_32, List.map_cons, List.map_nil, cond_true, cond_false, aop, aThen, aBlock, argEnv, ev, sput, sputO, binK, binI, unK, builtinK, pickK, Nat.reduceBEq, Nat.reduceAdd, Int.reduceBEq, Int.reduceBNe, Int.reduceLT, aPost, resK, tup, tyf])
  clear hN10
  try clear N10
  have l4 : h.length + 4 ≤ hp.length := by have := get_lt o.b6; omega
  refine aws_cutW fun Z hZ => ?_
  refine aws_cut fun N11 hN11 => ?_
  simp (maxSteps := 2000000) only [s38, ↓aw_region, ↓aw_skip, ↓aw_seq, ↓aw_block, ↓aw_exit, ↓aw_ret, ↓sops_nil, ↓sops_go, ↓dops_nil, ↓dopsX_nil, ↓dopsR_nil, ↓vdn, vup, extr_20, extr_21, extr_30, extr_31, extr_32, List.map_cons, List.map_nil, cond_true, cond_false, aop, aThen, aBlock, argEnv, ev, sput, sputO, binK, binI, unK, builtinK, pickK, Nat.reduceBEq, Nat.reduceAdd, Int.reduceBEq, Int.reduceBNe, Int.reduceLT, aPost, resK, tup, tyf, allocK, newPtr, zero_3, Am.storeI (get_new _ _) shp_3, setLast]
  refine hN11 [(1, pt h.length), (2, .slice none 0 0), (3, .int .i64 0), (4, v), (5, pt (h.length + 2)), (6, pt (h.length + 3)), (9, pt hp.length), (10, pt (hp ++ [Blk.cells [.slice none 0 0] 22 false]).length)] _ _ ?_ (by simp (maxSteps := 2000000) only [↓aw_region, ↓aw_skip, ↓aw_seq, ↓aw_block, ↓aw_exit, ↓aw_ret, ↓sops_nil, ↓sops_go, ↓dops_nil, ↓dopsX_nil, ↓dopsR_nil, ↓vdn, vup, extr_20, extr_21, extr_30, extr_31, extr_32, List.map_cons, List.map_nil, cond_true, cond_false, aop, aThen, aBlock, argEnv, ev, sput, sputO, binK, binI, unK, builtinK, pickK, Nat.reduceBEq, Nat.reduceAdd, Int.reduceBEq, Int.reduceBNe, Int.reduceLT, aPost, resK, tup, tyf])
  clear hN11
  try clear N11
  refine pick_loop hv ht hM ((o.up (Ext.app _ _ _)).up (Ext.app _ _ _)) hT (get_old (get_new hp _) _) (get_new _ _) l4 (by simp) ?_
  intro h5 ov e hE5 h59 hov he
  refine hZ [(2, .slice none 0 0), (3, .int .i64 0), (9, pt hp.length)] _ _ ?_ he
  clear hZ he
  refine aw_aws ?_
  simp (maxSteps := 2000000) only [s38, ↓aw_region, ↓aw_skip, ↓aw_seq, ↓aw_block, ↓aw_exit, ↓aw_ret, ↓sops_nil, ↓sops_go, ↓dops_nil, ↓dopsX_nil, ↓dopsR_nil, ↓vdn, vup, extr_20, extr_21, extr_30, extr_31, extr_32, List.map_cons, List.map_nil, cond_true, cond_false, aop, aThen, aBlock, argEnv, ev, sput, sputO, binK, binI, unK, builtinK, pickK, Nat.reduceBEq, Nat.reduceAdd, Int.reduceBEq, Int.reduceBNe, Int.reduceLT, aPost, resK, tup, tyf, load1 h59 shp_22]
  refine ⟨hE5, ?_⟩
  rw [if_pos ht]
  exact ⟨ov, rfl, hov⟩
end Go.Proofs.Tryd.Am

namespace Go.Proofs.Tryd.Am
open Go.Am
set_option maxRecDepth 100000
/-! 3: planchet planchetlaw02.RanksRedei -/
@[reducible] def q3_0 : SCode := .region [⟨some 2, .assign (.const (.bool false)), none⟩]
@[reducible] def q3_1 : SCode := .region [⟨some 7, .move (.tmp 0), none⟩,
    ⟨some 8, .call { callee := .value (.func 19), args := #[.tmp 7], argTypes := #[22] }, none⟩,
    ⟨some 9, .call { callee := .value (.func 18), args := #[.tmp 8], argTypes := #[22] }, none⟩,
    ⟨some 6, .move (.tmp 9), none⟩,
    ⟨some 10, .extract (.tmp 6) 0, none⟩,
    ⟨some 11, .extract (.tmp 6) 1, none⟩,
    ⟨some 3, .assign (.tmp 10), none⟩,
    ⟨some 4, .assign (.tmp 11), none⟩]
@[reducible] def q3_2 : SCode := .region [⟨some 12, .move (.tmp 4), none⟩,
    ⟨some 13, .binOp .neq 23 (.tmp 12) (.const (.int .i64 0)) 23, none⟩,
    ⟨some 14, .move (.tmp 13), none⟩,
    ⟨some 15, .move (.tmp 0), some (14, false)⟩,
    ⟨some 16, .call { callee := .value (.func 20), args := #[.tmp 15], argTypes := #[22] }, some (14, false)⟩,
    ⟨some 17, .unOp .not 4 (.tmp 16), some (14, false)⟩,
    ⟨some 18, .pick (.tmp 14) (.const (.bool true)) (.tmp 17), none⟩]
@[reducible] def q3_3 : SCode := .region [⟨some 19, .move (.tmp 4), none⟩,
    ⟨some 20, .binOp .eql 23 (.tmp 19) (.const (.int .i64 2)) 23, none⟩,
    ⟨some 21, .move (.tmp 20), none⟩,
    ⟨some 22, .call { callee := .value (.func 21), args := #[], argTypes := #[] }, some (21, true)⟩,
    ⟨some 23, .pick (.tmp 21) (.tmp 22) (.const (.bool false)), none⟩,
    ⟨some 2, .assign (.tmp 23), none⟩]
@[reducible] def q3_4 : SCode := .region [⟨some 24, .move (.tmp 0), none⟩,
    ⟨some 25, .move (.tmp 3), none⟩,
    ⟨some 26, .call { callee := .value (.func 22), args := #[.tmp 24, .tmp 25], argTypes := #[22, 22] }, none⟩,
    ⟨some 27, .unOp .not 4 (.tmp 26), none⟩]
@[reducible] def q3_5 : SCode := .region [⟨some 2, .assign (.const (.bool false)), none⟩]
@[reducible] def q3_6 : SCode := .region [⟨some 5, .assign (.const (.int .i64 1)), none⟩]
@[reducible] def q3_7 : SCode := .region [⟨some 28, .move (.tmp 5), none⟩,
    ⟨some 29, .move (.tmp 3), none⟩,
    ⟨some 30, .call { callee := .builtin .len, args := #[.tmp 29], argTypes := #[22] }, none⟩,
    ⟨some 31, .binOp .lss 3 (.tmp 28) (.tmp 30) 3, none⟩]
def q3_9 : SCode := .draw [⟨some 34, .move (.tmp 0), none⟩,
    ⟨some 35, .move (.tmp 3), none⟩,
    ⟨some 36, .move (.tmp 5), none⟩,
    ⟨some 37, .binOp .sub 3 (.tmp 36) (.const (.int .i64 1)) 3, none⟩,
    ⟨some 38, .indexAddr 22 (.tmp 35) (.tmp 37), none⟩,
    ⟨some 39, .load 3 (.tmp 38), none⟩,
    ⟨some 40, .indexAddr 22 (.tmp 34) (.tmp 39), none⟩,
    ⟨some 41, .load 3 (.tmp 40), none⟩,
    ⟨some 42, .move (.tmp 3), none⟩,
    ⟨some 43, .move (.tmp 5), none⟩,
    ⟨some 44, .indexAddr 22 (.tmp 42) (.tmp 43), none⟩,
    ⟨some 45, .load 3 (.tmp 44), none⟩,
    ⟨some 46, .binOp .shr 3 (.tmp 41) (.tmp 45) 3, none⟩,
    ⟨some 47, .binOp .and 3 (.tmp 46) (.const (.int .i64 1)) 3, none⟩,
    ⟨some 48, .binOp .eql 3 (.tmp 47) (.const (.int .i64 0)) 3, none⟩]
   [[], [], [], [2], [1, 3], [4], [0, 5], [6], [], [], [8, 9], [10], [7, 11], [12], [13]]
@[reducible] def q3_10 : SCode := .region [⟨some 2, .assign (.const (.bool false)), none⟩]
@[reducible] def q3_8 : SCode := .region [⟨some 32, .move (.tmp 5), none⟩,
    ⟨some 33, .binOp .add 3 (.tmp 32) (.const (.int .i64 1)) 3, none⟩,
    ⟨some 5, .assign (.tmp 33), none⟩]
def l3_0 : SCode := (.seq (.seq q3_7 (.cond (.tmp 31) .skip (.exit 0))) (.seq (.block 1 (.seq q3_9 (.cond (.tmp 48) (.seq q3_10 .ret) .skip))) q3_8))
@[reducible] def q3_11 : SCode := .region [⟨some 49, .move (.tmp 0), none⟩,
    ⟨some 50, .call { callee := .value (.func 23), args := #[.tmp 49, .const (.int .i64 (-1)), .const (.int .i64 0)], argTypes := #[22, 3, 3] }, none⟩,
    ⟨some 51, .binOp .rem 3 (.tmp 50) (.const (.int .i64 2)) 3, none⟩,
    ⟨some 52, .binOp .eql 3 (.tmp 51) (.const (.int .i64 1)) 3, none⟩,
    ⟨some 53, .move (.tmp 52), none⟩,
    ⟨some 54, .call { callee := .value (.func 21), args := #[], argTypes := #[] }, some (53, true)⟩,
    ⟨some 55, .pick (.tmp 53) (.tmp 54) (.const (.bool false)), none⟩,
    ⟨some 2, .assign (.tmp 55), none⟩]
def s3 : SCode := (.seq q3_0 (.seq q3_1 (.seq (.seq q3_2 (.cond (.tmp 18) (.seq q3_3 .ret) .skip)) (.seq (.seq q3_4 (.cond (.tmp 27) (.seq q3_5 .ret) .skip)) (.seq (.seq q3_6 (.block 0 (.loop l3_0))) (.seq q3_11 .ret))))))
/-! 22: planchet planchetref02.IsOrder -/
@[reducible] def q22_0 : SCode := .region [⟨some 4, .assign (.const (.bool false)), none⟩]
@[reducible] def q22_1 : SCode := .region [⟨some 5, .assign (.const (.int .i64 0)), none⟩]
@[reducible] def q22_2 : SCode := .region [⟨some 8, .move (.tmp 1), none⟩,
    ⟨some 9, .call { callee := .builtin .len, args := #[.tmp 8], argTypes := #[22] }, none⟩,
    ⟨some 10, .move (.const (.int .i64 0)), none⟩]
@[reducible] def q22_3 : SCode := .region [⟨some 11, .binOp .lss 3 (.tmp 10) (.tmp 9) 3, none⟩]
@[reducible] def q22_4 : SCode := .region [⟨some 12, .indexAddr 22 (.tmp 8) (.tmp 10), none⟩,
    ⟨some 13, .load 3 (.tmp 12), none⟩,
    ⟨some 7, .assign (.tmp 13), none⟩]
@[reducible] def q22_5 : SCode := .region [⟨some 14, .move (.tmp 7), none⟩,
    ⟨some 15, .binOp .lss 3 (.tmp 14) (.const (.int .i64 0)) 3, none⟩,
    ⟨some 16, .move (.tmp 15), none⟩,
    ⟨some 17, .move (.tmp 7), some (16, false)⟩,
    ⟨some 18, .move (.tmp 0), some (16, false)⟩,
    ⟨some 19, .call { callee := .builtin .len, args := #[.tmp 18], argTypes := #[22] }, some (16, false)⟩,
    ⟨some 20, .binOp .geq 3 (.tmp 17) (.tmp 19) 3, some (16, false)⟩,
    ⟨some 21, .pick (.tmp 16) (.const (.bool true)) (.tmp 20), none⟩,
    ⟨some 22, .move (.tmp 21), none⟩,
    ⟨some 23, .move (.tmp 5), some (22, false)⟩,
    ⟨some 24, .move (.tmp 7), some (22, false)⟩,
    ⟨some 25, .binOp .shr 3 (.tmp 23) (.tmp 24) 3, some (22, false)⟩,
    ⟨some 26, .binOp .and 3 (.tmp 25) (.const (.int .i64 1)) 3, some (22, false)⟩,
    ⟨some 27, .binOp .eql 3 (.tmp 26) (.const (.int .i64 1)) 3, some (22, false)⟩,
    ⟨some 28, .pick (.tmp 22) (.const (.bool true)) (.tmp 27), none⟩]
@[reducible] def q22_6 : SCode := .region [⟨some 4, .assign (.const (.bool false)), none⟩]
@[reducible] def q22_7 : SCode := .region [⟨some 29, .move (.tmp 5), none⟩,
    ⟨some 30, .move (.tmp 7), none⟩,
    ⟨some 31, .binOp .shl 3 (.const (.int .i64 1)) (.tmp 30) 3, none⟩,
    ⟨some 32, .binOp .or 3 (.tmp 29) (.tmp 31) 3, none⟩,
    ⟨some 5, .assign (.tmp 32), none⟩]
@[reducible] def q22_8 : SCode := .region [⟨some 33, .binOp .add 3 (.tmp 10) (.const (.int .i64 1)) 3, none⟩,
    ⟨some 10, .move (.tmp 33), none⟩]
def l22_0 : SCode := (.seq q22_3 (.seq (.cond (.tmp 11) .skip (.exit 0)) (.seq (.block 1 (.seq q22_4 (.seq (.seq q22_5 (.cond (.tmp 28) (.seq q22_6 .ret) .skip)) q22_7))) q22_8)))
@[reducible] def q22_9 : SCode := .region [⟨some 34, .move (.tmp 1), none⟩,
    ⟨some 35, .call { callee := .builtin .len, args := #[.tmp 34], argTypes := #[22] }, none⟩,
    ⟨some 36, .move (.tmp 0), none⟩,
    ⟨some 37, .call { callee := .builtin .len, args := #[.tmp 36], argTypes := #[22] }, none⟩,
    ⟨some 38, .binOp .eql 3 (.tmp 35) (.tmp 37) 3, none⟩,
    ⟨some 4, .assign (.tmp 38), none⟩]
def s22 : SCode := (.seq q22_0 (.seq q22_1 (.seq (.seq q22_2 (.block 0 (.loop l22_0))) (.seq q22_9 .ret))))
theorem s22_strip : stripC (bodyOf Tryd.f22) = s22 := by kernel_rfl
theorem s22_ok : codeOK 39 (bodyOf Tryd.f22) = true := by kernel_rfl
theorem s22_call [Tabs Tryd.prog] {args : List Value} {h : Heap} {Q : Value → Heap → Prop} (hsz : args.length ≤ 39) (hk : aw Tryd.prog 39 s22 (aPost Tryd.prog [.tmp 4] Q) (argEnv 0 args) h) : ACall Tryd.prog 22 args h Q :=
  acall_s Tryd.func22 rfl (enters_of Tryd.func22 (by kernel_rfl) rfl) rfl rfl (by decide) s22_strip s22_ok hsz hk

end Go.Proofs.Tryd.Am

namespace Go.Proofs.Tryd.Am
open Go.Am Redei
set_option maxRecDepth 100000
set_option maxHeartbeats 1000000

theorem setOf_lt {n : Nat} {l : List Int} : ∀ i, i ≤ l.length → (∀ k, k < i → newAt n l k = true) → setOf (l.take i) < 2 ^ n
  | 0, _, _ => Nat.two_pow_pos n
  | i + 1, hi, h => by
    have e : l.take (i + 1) = l.take i ++ [l.getD i 0] := by
      rw [List.take_succ, List.getD, List.getElem?_eq_getElem (show i < l.length by omega)]; rfl
    have h1 := h i (by omega)
    simp only [newAt, Bool.and_eq_true, decide_eq_true_eq] at h1
    rw [e, setOf_snoc]
    exact or_lt (setOf_lt i (by omega) fun k hk => h k (by omega)) (by omega)
theorem setOf_next {l : List Int} {i j : Nat} (hi : i < l.length) (hj : l.getD i 0 = j) : setOf (l.take (i + 1)) = setOf (l.take i) ||| 2 ^ j := by
  rw [show l.take (i + 1) = l.take i ++ [l.getD i 0] by rw [List.take_succ, List.getD, List.getElem?_eq_getElem hi]; rfl, setOf_snoc, hj, Int.toNat_natCast]

theorem isord_call [Tabs prog] {h : Heap} {tv ov : Value} {xs os : List Int} (ht : IntSl h tv xs) (ho : IntSl h ov os) (hn : xs.length ≤ 8) (hol : os.length < 9223372036854775808) :
    APure prog 22 [tv, ov] h (.bool (isOrd xs.length os)) := by
  have hpow : 2 ^ xs.length ≤ 2 ^ 8 := Nat.pow_le_pow_right (by decide) hn
  refine s22_call (by simp) ?_
  simp (maxSteps := 2000000) only [s22, ↓aw_region, ↓aw_skip, ↓aw_seq, ↓aw_block, ↓aw_exit, ↓aw_ret, ↓sops_nil, ↓sops_go, ↓dops_nil, ↓dopsX_nil, ↓dopsR_nil, ↓vdn, vup, extr_20, extr_21, extr_30, extr_31, extr_32, List.map_cons, List.map_nil, cond_true, cond_false, aop, aThen, aBlock, argEnv, ev, sput, sputO, binK, binI, unK, builtinK, pickK, Nat.reduceBEq, Nat.reduceAdd, Int.reduceBEq, Int.reduceBNe, Int.reduceLT, aPost, resK, tup, tyf, ho.len, ↓aw_loop_eq]
  refine aws_hide fun Q hQ => ?_
  refine aw_loop (γ := Nat) (fun i => i ≤ os.length ∧ ∀ k, k < i → newAt xs.length os k = true)
    (fun i => ([(0, tv), (1, ov), (4, .bool false), (5, vint (setOf (os.take i) : Nat)), (8, ov), (9, vint os.length), (10, vint i)], h)) (fun i => os.length - i) 0 ⟨by omega, fun _ hk => by omega⟩ (by simp (maxSteps := 2000000) only [↓aw_region, ↓aw_skip, ↓aw_seq, ↓aw_block, ↓aw_exit, ↓aw_ret, ↓sops_nil, ↓sops_go, ↓dops_nil, ↓dopsX_nil, ↓dopsR_nil, ↓vdn, vup, extr_20, extr_21, extr_30, extr_31, extr_32, List.map_cons, List.map_nil, cond_true, cond_false, aop, aThen, aBlock, argEnv, ev, sput, sputO, binK, binI, unK, builtinK, pickK, Nat.reduceBEq, Nat.reduceAdd, Int.reduceBEq, Int.reduceBNe, Int.reduceLT, aPost, resK, tup, tyf, Int.natCast_zero, List.take_zero, show setOf [] = 0 from rfl]) rfl ?_
  rintro i ⟨hi, hok⟩
  have hset := setOf_lt i hi hok
  refine aw_hide fun Q2 hQ2 => ?_
  by_cases hin : (i : Int) < os.length
  · have hin' : i < os.length := by omega
    have hbad : newAt xs.length os i = false → isOrd xs.length os = false := fun hb => by
      have : (List.range os.length).all (newAt xs.length os) = false := by
        rw [List.all_eq_false]; exact ⟨i, List.mem_range.2 hin', by simp [hb]⟩
      rw [isOrd, this, Bool.false_and]
    by_cases hneg : os.getD i 0 < 0
    · have hb := hbad (by rw [newAt, decide_eq_false (show ¬ 0 ≤ os.getD i 0 by omega)]; rfl)
      simp (maxSteps := 2000000) only [s22, ↓aw_region, ↓aw_skip, ↓aw_seq, ↓aw_block, ↓aw_exit, ↓aw_ret, ↓sops_nil, ↓sops_go, ↓dops_nil, ↓dopsX_nil, ↓dopsR_nil, ↓vdn, vup, extr_20, extr_21, extr_30, extr_31, extr_32, List.map_cons, List.map_nil, cond_true, cond_false, aop, aThen, aBlock, argEnv, ev, sput, sputO, binK, binI, unK, builtinK, pickK, Nat.reduceBEq, Nat.reduceAdd, Int.reduceBEq, Int.reduceBNe, Int.reduceLT, aPost, resK, tup, tyf, l22_0, hin, ho.idx el_22 esz_3 hin', ho.load shp_3 hin', hneg]
      refine hQ2 _ _ _ (hQ _ _ _ ?_)
      simp (maxSteps := 2000000) only [↓aw_region, ↓aw_skip, ↓aw_seq, ↓aw_block, ↓aw_exit, ↓aw_ret, ↓sops_nil, ↓sops_go, ↓dops_nil, ↓dopsX_nil, ↓dopsR_nil, ↓vdn, vup, extr_20, extr_21, extr_30, extr_31, extr_32, List.map_cons, List.map_nil, cond_true, cond_false, aop, aThen, aBlock, argEnv, ev, sput, sputO, binK, binI, unK, builtinK, pickK, Nat.reduceBEq, Nat.reduceAdd, Int.reduceBEq, Int.reduceBNe, Int.reduceLT, aPost, resK, tup, tyf, hb]
    obtain ⟨j, hj⟩ := Int.eq_ofNat_of_zero_le (show 0 ≤ os.getD i 0 by omega)
    have hjneg : ¬ ((j : Int) < 0) := by omega
    by_cases hbig : (xs.length : Int) ≤ j
    · have hb := hbad (by rw [newAt, hj, decide_eq_false (show ¬ ((j : Int) < xs.length) by omega), Bool.and_false]; rfl)
      simp (maxSteps := 2000000) only [s22, ↓aw_region, ↓aw_skip, ↓aw_seq, ↓aw_block, ↓aw_exit, ↓aw_ret, ↓sops_nil, ↓sops_go, ↓dops_nil, ↓dopsX_nil, ↓dopsR_nil, ↓vdn, vup, extr_20, extr_21, extr_30, extr_31, extr_32, List.map_cons, List.map_nil, cond_true, cond_false, aop, aThen, aBlock, argEnv, ev, sput, sputO, binK, binI, unK, builtinK, pickK, Nat.reduceBEq, Nat.reduceAdd, Int.reduceBEq, Int.reduceBNe, Int.reduceLT, aPost, resK, tup, tyf, l22_0, hin, ho.idx el_22 esz_3 hin', ho.load shp_3 hin', hj, hjneg, ht.len, hbig, ge_iff_le]
      refine hQ2 _ _ _ (hQ _ _ _ ?_)
      simp (maxSteps := 2000000) only [↓aw_region, ↓aw_skip, ↓aw_seq, ↓aw_block, ↓aw_exit, ↓aw_ret, ↓sops_nil, ↓sops_go, ↓dops_nil, ↓dopsX_nil, ↓dopsR_nil, ↓vdn, vup, extr_20, extr_21, extr_30, extr_31, extr_32, List.map_cons, List.map_nil, cond_true, cond_false, aop, aThen, aBlock, argEnv, ev, sput, sputO, binK, binI, unK, builtinK, pickK, Nat.reduceBEq, Nat.reduceAdd, Int.reduceBEq, Int.reduceBNe, Int.reduceLT, aPost, resK, tup, tyf, hb]
    have htv := testV (a := setOf (os.take i)) (y := j) (by omega)
    cases hbit : (setOf (os.take i)).testBit j with
    | true =>
      have hb := hbad (by rw [newAt, hj, Int.toNat_natCast, hbit, Bool.not_true, Bool.and_false])
      simp (maxSteps := 2000000) only [s22, ↓aw_region, ↓aw_skip, ↓aw_seq, ↓aw_block, ↓aw_exit, ↓aw_ret, ↓sops_nil, ↓sops_go, ↓dops_nil, ↓dopsX_nil, ↓dopsR_nil, ↓vdn, vup, extr_20, extr_21, extr_30, extr_31, extr_32, List.map_cons, List.map_nil, cond_true, cond_false, aop, aThen, aBlock, argEnv, ev, sput, sputO, binK, binI, unK, builtinK, pickK, Nat.reduceBEq, Nat.reduceAdd, Int.reduceBEq, Int.reduceBNe, Int.reduceLT, aPost, resK, tup, tyf, l22_0, hin, ho.idx el_22 esz_3 hin', ho.load shp_3 hin', hj, hjneg, ht.len, hbig, ge_iff_le, htv, hbit, if_true]
      refine hQ2 _ _ _ (hQ _ _ _ ?_)
      simp (maxSteps := 2000000) only [↓aw_region, ↓aw_skip, ↓aw_seq, ↓aw_block, ↓aw_exit, ↓aw_ret, ↓sops_nil, ↓sops_go, ↓dops_nil, ↓dopsX_nil, ↓dopsR_nil, ↓vdn, vup, extr_20, extr_21, extr_30, extr_31, extr_32, List.map_cons, List.map_nil, cond_true, cond_false, aop, aThen, aBlock, argEnv, ev, sput, sputO, binK, binI, unK, builtinK, pickK, Nat.reduceBEq, Nat.reduceAdd, Int.reduceBEq, Int.reduceBNe, Int.reduceLT, aPost, resK, tup, tyf, hb]
    | false =>
      have hnew : newAt xs.length os i = true := by rw [newAt, hj, Int.toNat_natCast, hbit, decide_eq_true (show (0 : Int) ≤ j by omega), decide_eq_true (show (j : Int) < xs.length by omega)]; rfl
      have hshl : shlV .i64 1 j = 2 ^ j := shl1 (by omega)
      have hor : bitsV .or .i64 ((setOf (os.take i) : Nat) : Int) (2 ^ j) = ((setOf (os.take (i + 1)) : Nat) : Int) := by
        have := bitsV_or (a := setOf (os.take i)) (b := 2 ^ j) (by omega) (Nat.lt_of_lt_of_le (Nat.pow_lt_pow_right (by decide) (show j < 62 by omega)) (by decide))
        rw [setOf_next hin' hj]
        simpa using this
      simp (maxSteps := 2000000) only [s22, ↓aw_region, ↓aw_skip, ↓aw_seq, ↓aw_block, ↓aw_exit, ↓aw_ret, ↓sops_nil, ↓sops_go, ↓dops_nil, ↓dopsX_nil, ↓dopsR_nil, ↓vdn, vup, extr_20, extr_21, extr_30, extr_31, extr_32, List.map_cons, List.map_nil, cond_true, cond_false, aop, aThen, aBlock, argEnv, ev, sput, sputO, binK, binI, unK, builtinK, pickK, Nat.reduceBEq, Nat.reduceAdd, Int.reduceBEq, Int.reduceBNe, Int.reduceLT, aPost, resK, tup, tyf, l22_0, hin, ho.idx el_22 esz_3 hin', ho.load shp_3 hin', hj, hjneg, ht.len, hbig, ge_iff_le, htv, hbit, if_false, Bool.false_eq_true, hshl, hor, add1 (show i < 9223372036854775807 by omega)]
      refine hQ2 _ _ _ ⟨i + 1, ⟨by omega, fun k hk => ?_⟩, by omega, by simp (maxSteps := 2000000) only [↓aw_region, ↓aw_skip, ↓aw_seq, ↓aw_block, ↓aw_exit, ↓aw_ret, ↓sops_nil, ↓sops_go, ↓dops_nil, ↓dopsX_nil, ↓dopsR_nil, ↓vdn, vup, extr_20, extr_21, extr_30, extr_31, extr_32, List.map_cons, List.map_nil, cond_true, cond_false, aop, aThen, aBlock, argEnv, ev, sput, sputO, binK, binI, unK, builtinK, pickK, Nat.reduceBEq, Nat.reduceAdd, Int.reduceBEq, Int.reduceBNe, Int.reduceLT, aPost, resK, tup, tyf], rfl⟩
      by_cases hki : k = i
      · rw [hki]; exact hnew
      · exact hok k (by omega)
  · obtain rfl : i = os.length := by omega
    have hall : (List.range os.length).all (newAt xs.length os) = true := by rw [List.all_eq_true]; exact fun k hk => hok k (List.mem_range.1 hk)
    have he : ((os.length : Int) == xs.length) = isOrd xs.length os := by
      rw [isOrd, hall, Bool.true_and]
      by_cases h : os.length = xs.length
      · rw [decide_eq_true h, h]; exact beq_self_eq_true _
      · rw [decide_eq_false h]
        have : (os.length : Int) ≠ xs.length := by omega
        simpa using this
    simp (maxSteps := 2000000) only [s22, ↓aw_region, ↓aw_skip, ↓aw_seq, ↓aw_block, ↓aw_exit, ↓aw_ret, ↓sops_nil, ↓sops_go, ↓dops_nil, ↓dopsX_nil, ↓dopsR_nil, ↓vdn, vup, extr_20, extr_21, extr_30, extr_31, extr_32, List.map_cons, List.map_nil, cond_true, cond_false, aop, aThen, aBlock, argEnv, ev, sput, sputO, binK, binI, unK, builtinK, pickK, Nat.reduceBEq, Nat.reduceAdd, Int.reduceBEq, Int.reduceBNe, Int.reduceLT, aPost, resK, tup, tyf, l22_0, Int.lt_irrefl]
    refine hQ2 _ _ _ (hQ _ _ _ ?_)
    simp (maxSteps := 2000000) only [s22, ↓aw_region, ↓aw_skip, ↓aw_seq, ↓aw_block, ↓aw_exit, ↓aw_ret, ↓sops_nil, ↓sops_go, ↓dops_nil, ↓dopsX_nil, ↓dopsR_nil, ↓vdn, vup, extr_20, extr_21, extr_30, extr_31, extr_32, List.map_cons, List.map_nil, cond_true, cond_false, aop, aThen, aBlock, argEnv, ev, sput, sputO, binK, binI, unK, builtinK, pickK, Nat.reduceBEq, Nat.reduceAdd, Int.reduceBEq, Int.reduceBNe, Int.reduceLT, aPost, resK, tup, tyf, ho.len, ht.len, he, if_true]

end Go.Proofs.Tryd.Am

namespace Go.Proofs.Tryd.Am
open Go.Am
set_option maxRecDepth 100000
/-! 15: planchet planchetlaw02.RanksTogether -/
@[reducible] def q15_0 : SCode := .region [⟨some 2, .assign (.const (.bool false)), none⟩]
@[reducible] def q15_1 : SCode := .region [⟨some 15, .move (.tmp 0), none⟩,
    ⟨some 16, .call { callee := .value (.func 19), args := #[.tmp 15], argTypes := #[22] }, none⟩,
    ⟨some 17, .call { callee := .value (.func 49), args := #[.tmp 16], argTypes := #[22] }, none⟩,
    ⟨some 14, .move (.tmp 17), none⟩,
    ⟨some 18, .extract (.tmp 14) 0, none⟩,
    ⟨some 19, .extract (.tmp 14) 1, none⟩,
    ⟨some 3, .assign (.tmp 18), none⟩,
    ⟨some 4, .assign (.tmp 19), none⟩]
@[reducible] def q15_2 : SCode := .region [⟨some 21, .move (.tmp 0), none⟩,
    ⟨some 22, .call { callee := .value (.func 19), args := #[.tmp 21], argTypes := #[22] }, none⟩,
    ⟨some 23, .call { callee := .value (.func 38), args := #[.tmp 22], argTypes := #[22] }, none⟩,
    ⟨some 20, .move (.tmp 23), none⟩,
    ⟨some 24, .extract (.tmp 20) 0, none⟩,
    ⟨some 25, .extract (.tmp 20) 1, none⟩,
    ⟨some 5, .assign (.tmp 24), none⟩,
    ⟨some 6, .assign (.tmp 25), none⟩]
@[reducible] def q15_3 : SCode := .region [⟨some 26, .move (.tmp 4), none⟩,
    ⟨some 27, .binOp .neq 23 (.tmp 26) (.const (.int .i64 0)) 23, none⟩,
    ⟨some 28, .move (.tmp 27), none⟩,
    ⟨some 29, .move (.tmp 0), some (28, false)⟩,
    ⟨some 30, .call { callee := .value (.func 20), args := #[.tmp 29], argTypes := #[22] }, some (28, false)⟩,
    ⟨some 31, .unOp .not 4 (.tmp 30), some (28, false)⟩,
    ⟨some 32, .pick (.tmp 28) (.const (.bool true)) (.tmp 31), none⟩]
@[reducible] def q15_4 : SCode := .region [⟨some 33, .move (.tmp 4), none⟩,
    ⟨some 34, .binOp .eql 23 (.tmp 33) (.const (.int .i64 2)) 23, none⟩,
    ⟨some 35, .move (.tmp 34), none⟩,
    ⟨some 36, .move (.tmp 6), some (35, true)⟩,
    ⟨some 37, .binOp .eql 23 (.tmp 36) (.const (.int .i64 2)) 23, some (35, true)⟩,
    ⟨some 38, .pick (.tmp 35) (.tmp 37) (.const (.bool false)), none⟩,
    ⟨some 39, .move (.tmp 38), none⟩,
    ⟨some 40, .call { callee := .value (.func 21), args := #[], argTypes := #[] }, some (39, true)⟩,
    ⟨some 41, .pick (.tmp 39) (.tmp 40) (.const (.bool false)), none⟩,
    ⟨some 2, .assign (.tmp 41), none⟩]
@[reducible] def q15_5 : SCode := .region [⟨some 42, .move (.tmp 6), none⟩,
    ⟨some 43, .binOp .neq 23 (.tmp 42) (.const (.int .i64 0)) 23, none⟩,
    ⟨some 44, .move (.tmp 43), none⟩,
    ⟨some 45, .move (.tmp 0), some (44, false)⟩,
    ⟨some 46, .move (.tmp 5), some (44, false)⟩,
    ⟨some 47, .call { callee := .value (.func 22), args := #[.tmp 45, .tmp 46], argTypes := #[22, 22] }, some (44, false)⟩,
    ⟨some 48, .unOp .not 4 (.tmp 47), some (44, false)⟩,
    ⟨some 49, .pick (.tmp 44) (.const (.bool true)) (.tmp 48), none⟩]
@[reducible] def q15_6 : SCode := .region [⟨some 2, .assign (.const (.bool false)), none⟩]
@[reducible] def q15_7 : SCode := .region [⟨some 7, .assign (.const (.int .i64 0)), none⟩,
    ⟨some 8, .assign (.const (.int .i64 0)), none⟩]
@[reducible] def q15_8 : SCode := .region [⟨some 50, .move (.tmp 3), none⟩,
    ⟨some 51, .call { callee := .builtin .len, args := #[.tmp 50], argTypes := #[22] }, none⟩,
    ⟨some 52, .move (.const (.int .i64 0)), none⟩]
@[reducible] def q15_9 : SCode := .region [⟨some 53, .binOp .lss 3 (.tmp 52) (.tmp 51) 3, none⟩]
@[reducible] def q15_10 : SCode := .region [⟨some 54, .indexAddr 22 (.tmp 50) (.tmp 52), none⟩,
    ⟨some 55, .load 3 (.tmp 54), none⟩,
    ⟨some 10, .assign (.tmp 55), none⟩]
@[reducible] def q15_11 : SCode := .region [⟨some 56, .move (.tmp 10), none⟩,
    ⟨some 57, .binOp .lss 3 (.tmp 56) (.const (.int .i64 1)) 3, none⟩,
    ⟨some 58, .move (.tmp 57), none⟩,
    ⟨some 59, .move (.tmp 10), some (58, false)⟩,
    ⟨some 60, .move (.tmp 0), some (58, false)⟩,
    ⟨some 61, .call { callee := .builtin .len, args := #[.tmp 60], argTypes := #[22] }, some (58, false)⟩,
    ⟨some 62, .binOp .shl 3 (.const (.int .i64 1)) (.tmp 61) 3, some (58, false)⟩,
    ⟨some 63, .binOp .geq 3 (.tmp 59) (.tmp 62) 3, some (58, false)⟩,
    ⟨some 64, .pick (.tmp 58) (.const (.bool true)) (.tmp 63), none⟩,
    ⟨some 65, .move (.tmp 64), none⟩,
    ⟨some 66, .move (.tmp 10), some (65, false)⟩,
    ⟨some 67, .move (.tmp 8), some (65, false)⟩,
    ⟨some 68, .binOp .and 3 (.tmp 66) (.tmp 67) 3, some (65, false)⟩,
    ⟨some 69, .binOp .neq 3 (.tmp 68) (.const (.int .i64 0)) 3, some (65, false)⟩,
    ⟨some 70, .pick (.tmp 65) (.const (.bool true)) (.tmp 69), none⟩]
@[reducible] def q15_12 : SCode := .region [⟨some 2, .assign (.const (.bool false)), none⟩]
@[reducible] def q15_13 : SCode := .region [⟨some 11, .assign (.const (.int .i64 0)), none⟩]
@[reducible] def q15_14 : SCode := .region [⟨some 71, .move (.tmp 10), none⟩,
    ⟨some 72, .call { callee := .value (.func 29), args := #[.tmp 71], argTypes := #[3] }, none⟩,
    ⟨some 73, .move (.const (.int .i64 0)), none⟩]
@[reducible] def q15_15 : SCode := .region [⟨some 74, .binOp .lss 3 (.tmp 73) (.tmp 72) 3, none⟩]
@[reducible] def q15_16 : SCode := .region [⟨some 75, .move (.tmp 7), none⟩,
    ⟨some 76, .move (.tmp 5), none⟩,
    ⟨some 77, .call { callee := .builtin .len, args := #[.tmp 76], argTypes := #[22] }, none⟩,
    ⟨some 78, .binOp .geq 3 (.tmp 75) (.tmp 77) 3, none⟩]
@[reducible] def q15_17 : SCode := .region [⟨some 2, .assign (.const (.bool false)), none⟩]
@[reducible] def q15_18 : SCode := .region [⟨some 79, .move (.tmp 11), none⟩,
    ⟨some 80, .move (.tmp 5), none⟩,
    ⟨some 81, .move (.tmp 7), none⟩,
    ⟨some 82, .indexAddr 22 (.tmp 80) (.tmp 81), none⟩,
    ⟨some 83, .load 3 (.tmp 82), none⟩,
    ⟨some 84, .binOp .shl 3 (.const (.int .i64 1)) (.tmp 83) 3, none⟩,
    ⟨some 85, .binOp .or 3 (.tmp 79) (.tmp 84) 3, none⟩,
    ⟨some 11, .assign (.tmp 85), none⟩]
@[reducible] def q15_19 : SCode := .region [⟨some 86, .move (.tmp 7), none⟩,
    ⟨some 87, .binOp .add 3 (.tmp 86) (.const (.int .i64 1)) 3, none⟩,
    ⟨some 7, .assign (.tmp 87), none⟩]
@[reducible] def q15_20 : SCode := .region [⟨some 88, .binOp .add 3 (.tmp 73) (.const (.int .i64 1)) 3, none⟩,
    ⟨some 73, .move (.tmp 88), none⟩]
def l15_0 : SCode := (.seq q15_15 (.seq (.cond (.tmp 74) .skip (.exit 2)) (.seq (.block 3 (.seq (.seq q15_16 (.cond (.tmp 78) (.seq q15_17 .ret) .skip)) (.seq q15_18 q15_19))) q15_20)))
@[reducible] def q15_21 : SCode := .region [⟨some 89, .move (.tmp 11), none⟩,
    ⟨some 90, .move (.tmp 10), none⟩,
    ⟨some 91, .binOp .neq 3 (.tmp 89) (.tmp 90) 3, none⟩]
@[reducible] def q15_22 : SCode := .region [⟨some 2, .assign (.const (.bool false)), none⟩]
@[reducible] def q15_23 : SCode := .region [⟨some 92, .move (.tmp 8), none⟩,
    ⟨some 93, .move (.tmp 10), none⟩,
    ⟨some 94, .binOp .or 3 (.tmp 92) (.tmp 93) 3, none⟩,
    ⟨some 8, .assign (.tmp 94), none⟩]
@[reducible] def q15_24 : SCode := .region [⟨some 95, .move (.tmp 0), none⟩,
    ⟨some 96, .call { callee := .builtin .len, args := #[.tmp 95], argTypes := #[22] }, none⟩,
    ⟨some 97, .move (.const (.int .i64 0)), none⟩]
@[reducible] def q15_25 : SCode := .region [⟨some 98, .binOp .lss 3 (.tmp 97) (.tmp 96) 3, none⟩]
@[reducible] def q15_26 : SCode := .region [⟨some 99, .move (.tmp 97), none⟩,
    ⟨some 100, .indexAddr 22 (.tmp 95) (.tmp 97), none⟩,
    ⟨some 101, .load 3 (.tmp 100), none⟩,
    ⟨some 12, .assign (.tmp 99), none⟩,
    ⟨some 13, .assign (.tmp 101), none⟩]
def q15_27 : SCode := .draw [⟨some 102, .move (.tmp 10), none⟩,
    ⟨some 103, .move (.tmp 12), none⟩,
    ⟨some 104, .binOp .shr 3 (.tmp 102) (.tmp 103) 3, none⟩,
    ⟨some 105, .binOp .and 3 (.tmp 104) (.const (.int .i64 1)) 3, none⟩,
    ⟨some 106, .binOp .eql 3 (.tmp 105) (.const (.int .i64 1)) 3, none⟩,
    ⟨some 107, .move (.tmp 106), none⟩,
    ⟨some 108, .move (.tmp 13), some (107, true)⟩,
    ⟨some 109, .move (.tmp 0), some (107, true)⟩,
    ⟨some 110, .call { callee := .builtin .len, args := #[.tmp 109], argTypes := #[22] }, some (107, true)⟩,
    ⟨some 111, .binOp .shl 3 (.const (.int .i64 1)) (.tmp 110) 3, some (107, true)⟩,
    ⟨some 112, .binOp .sub 3 (.tmp 111) (.const (.int .i64 1)) 3, some (107, true)⟩,
    ⟨some 113, .binOp .and 3 (.tmp 108) (.tmp 112) 3, some (107, true)⟩,
    ⟨some 114, .move (.tmp 8), some (107, true)⟩,
    ⟨some 115, .binOp .andNot 3 (.tmp 113) (.tmp 114) 3, some (107, true)⟩,
    ⟨some 116, .move (.tmp 0), some (107, true)⟩,
    ⟨some 117, .call { callee := .builtin .len, args := #[.tmp 116], argTypes := #[22] }, some (107, true)⟩,
    ⟨some 118, .binOp .shl 3 (.const (.int .i64 1)) (.tmp 117) 3, some (107, true)⟩,
    ⟨some 119, .binOp .sub 3 (.tmp 118) (.const (.int .i64 1)) 3, some (107, true)⟩,
    ⟨some 120, .move (.tmp 8), some (107, true)⟩,
    ⟨some 121, .binOp .andNot 3 (.tmp 119) (.tmp 120) 3, some (107, true)⟩,
    ⟨some 122, .binOp .neq 3 (.tmp 115) (.tmp 121) 3, some (107, true)⟩,
    ⟨some 123, .pick (.tmp 107) (.tmp 122) (.const (.bool false)), none⟩]
   [[], [], [0, 1], [2], [3], [4], [5], [5], [7, 5], [8, 5], [9, 5], [6, 10, 5], [5], [11, 12, 5], [5], [14, 5], [15, 5], [16, 5], [5], [17, 18, 5], [13, 19, 5], [5, 20]]
@[reducible] def q15_28 : SCode := .region [⟨some 2, .assign (.const (.bool false)), none⟩]
@[reducible] def q15_29 : SCode := .region [⟨some 124, .binOp .add 3 (.tmp 97) (.const (.int .i64 1)) 3, none⟩,
    ⟨some 97, .move (.tmp 124), none⟩]
def l15_1 : SCode := (.seq q15_25 (.seq (.cond (.tmp 98) .skip (.exit 4)) (.seq (.block 5 (.seq q15_26 (.seq q15_27 (.cond (.tmp 123) (.seq q15_28 .ret) .skip)))) q15_29)))
@[reducible] def q15_30 : SCode := .region [⟨some 125, .binOp .add 3 (.tmp 52) (.const (.int .i64 1)) 3, none⟩,
    ⟨some 52, .move (.tmp 125), none⟩]
def l15_2 : SCode := (.seq q15_9 (.seq (.cond (.tmp 53) .skip (.exit 0)) (.seq (.block 1 (.seq q15_10 (.seq (.seq q15_11 (.cond (.tmp 70) (.seq q15_12 .ret) .skip)) (.seq q15_13 (.seq (.seq q15_14 (.block 2 (.loop l15_0))) (.seq (.seq q15_21 (.cond (.tmp 91) (.seq q15_22 .ret) .skip)) (.seq q15_23 (.seq q15_24 (.block 4 (.loop l15_1)))))))))) q15_30)))
@[reducible] def q15_31 : SCode := .region [⟨some 126, .move (.tmp 7), none⟩,
    ⟨some 127, .move (.tmp 5), none⟩,
    ⟨some 128, .call { callee := .builtin .len, args := #[.tmp 127], argTypes := #[22] }, none⟩,
    ⟨some 129, .binOp .eql 3 (.tmp 126) (.tmp 128) 3, none⟩,
    ⟨some 130, .move (.tmp 129), none⟩,
    ⟨some 131, .call { callee := .value (.func 21), args := #[], argTypes := #[] }, some (130, true)⟩,
    ⟨some 132, .pick (.tmp 130) (.tmp 131) (.const (.bool false)), none⟩,
    ⟨some 2, .assign (.tmp 132), none⟩]
def s15 : SCode := (.seq q15_0 (.seq q15_1 (.seq q15_2 (.seq (.seq q15_3 (.cond (.tmp 32) (.seq q15_4 .ret) .skip)) (.seq (.seq q15_5 (.cond (.tmp 49) (.seq q15_6 .ret) .skip)) (.seq q15_7 (.seq (.seq q15_8 (.block 0 (.loop l15_2))) (.seq q15_31 .ret))))))))
theorem s15_strip : stripC (bodyOf Tryd.f15) = s15 := by kernel_rfl
theorem s15_ok : codeOK 133 (bodyOf Tryd.f15) = true := by kernel_rfl
end Go.Proofs.Tryd.Am

namespace Go.Proofs.Tryd.Am
open Go.Am Rb Rch
set_option maxRecDepth 100000
set_option maxHeartbeats 1000000

theorem setL_bound {l : List Nat} (hl : ∀ x ∈ l, x < 8) : Clr.setL l < 256 := Clr.setL_lt (n := 8) hl
theorem set_loop [Tabs prog] {H : Heap} {v u w : Value} {g : List Nat} {a p m met L j : Nat} (hu : IntSl H u (iL g)) (hg : ∀ x ∈ g, x < 8) (hgl : g.length ≤ 8) (hp : p < 256) (hm : (Am.bits p).length = m) (ham : a + m ≤ g.length) {N : Env → Heap → Prop} {Q0 : Exit → Env → Heap → Prop}
    (hN : ∀ e, ELe e [(0, v), (2, .bool false), (5, u), (7, vint ((a + m : Nat) : Int)), (8, vint met), (10, vint p), (11, vint (Clr.setL ((g.drop a).take m) : Nat)), (50, w), (51, vint L), (52, vint j)] → N e H) :
    AWS prog 133 (.seq q15_14 (.block 2 (.loop l15_0))) (aThen N Q0) [(0, v), (2, .bool false), (5, u), (7, vint a), (8, vint met), (10, vint p), (11, .int .i64 0), (50, w), (51, vint L), (52, vint j)] H := by
  have hnn : ∀ i : Nat, (0 : Int) ≤ (i : Int) := Int.natCast_nonneg
  refine aw_aws ?_
  simp (maxSteps := 2000000) only [s15, ↓aw_region, ↓aw_skip, ↓aw_seq, ↓aw_block, ↓aw_exit, ↓aw_ret, ↓sops_nil, ↓sops_go, ↓dops_nil, ↓dopsX_nil, ↓dopsR_nil, ↓vdn, vup, extr_20, extr_21, extr_30, extr_31, extr_32, List.map_cons, List.map_nil, cond_true, cond_false, aop, aThen, aBlock, argEnv, ev, sput, sputO, binK, binI, unK, builtinK, pickK, Nat.reduceBEq, Nat.reduceAdd, Int.reduceBEq, Int.reduceBNe, Int.reduceLT, aPost, resK, tup, tyf, callK, List.nil_append, List.append_nil, List.toList_toArray, List.cons_append]
  refine (size_call (s := p) (by omega)).mono ?_
  rintro _ H ⟨rfl, rfl⟩
  rw [hm]
  simp (maxSteps := 2000000) only [s15, ↓aw_region, ↓aw_skip, ↓aw_seq, ↓aw_block, ↓aw_exit, ↓aw_ret, ↓sops_nil, ↓sops_go, ↓dops_nil, ↓dopsX_nil, ↓dopsR_nil, ↓vdn, vup, extr_20, extr_21, extr_30, extr_31, extr_32, List.map_cons, List.map_nil, cond_true, cond_false, aop, aThen, aBlock, argEnv, ev, sput, sputO, binK, binI, unK, builtinK, pickK, Nat.reduceBEq, Nat.reduceAdd, Int.reduceBEq, Int.reduceBNe, Int.reduceLT, aPost, resK, tup, tyf, ↓aw_loop_eq]
  refine aws_hide fun Q3 hQ3 => ?_
  refine aw_loop (γ := Nat) (fun c => c ≤ m)
    (fun c => ([(0, v), (2, .bool false), (5, u), (7, vint ((a + c : Nat) : Int)), (8, vint met), (10, vint p), (11, vint (Clr.setL ((g.drop a).take c) : Nat)), (50, w), (51, vint L), (52, vint j), (72, vint m), (73, vint c)], H)) (fun c => m - c) 0 (Nat.zero_le _) (by simp (maxSteps := 2000000) only [↓aw_region, ↓aw_skip, ↓aw_seq, ↓aw_block, ↓aw_exit, ↓aw_ret, ↓sops_nil, ↓sops_go, ↓dops_nil, ↓dopsX_nil, ↓dopsR_nil, ↓vdn, vup, extr_20, extr_21, extr_30, extr_31, extr_32, List.map_cons, List.map_nil, cond_true, cond_false, aop, aThen, aBlock, argEnv, ev, sput, sputO, binK, binI, unK, builtinK, pickK, Nat.reduceBEq, Nat.reduceAdd, Int.reduceBEq, Int.reduceBNe, Int.reduceLT, aPost, resK, tup, tyf, Int.natCast_zero, List.take_zero, Clr.setL, List.foldl_nil, Nat.add_zero]) rfl ?_
  intro c hc
  refine aw_hide fun Q4 hQ4 => ?_
  by_cases hcm : (c : Int) < m
  · have hc' : c < m := by omega
    have hac : a + c < g.length := by omega
    have hacI : a + c < (iL g).length := by rw [iL_len]; exact hac
    have hcd : c < (g.drop a).length := by rw [List.length_drop]; omega
    have hge : ¬ (((iL g).length : Nat) : Int) ≤ ((a + c : Nat) : Int) := by omega
    have hgm : g.getD (a + c) 0 < 8 := hg _ (by rw [List.getD, List.getElem?_eq_getElem hac]; exact List.getElem_mem _)
    have hs : Clr.setL ((g.drop a).take (c + 1)) = Clr.setL ((g.drop a).take c) ||| 2 ^ (g.getD (a + c) 0) := by
      have e : (g.drop a).take (c + 1) = (g.drop a).take c ++ [g.getD (a + c) 0] := by
        rw [List.take_succ_eq_append_getElem hcd, List.getElem_drop, List.getD, List.getElem?_eq_getElem hac]; rfl
      rw [e, setL_snoc]
    have hb : Clr.setL ((g.drop a).take c) < 256 := setL_bound fun x hx => hg x ((List.drop_sublist a g).subset (List.take_subset _ _ hx))
    generalize Clr.setL ((g.drop a).take c) = s at hs hb ⊢
    have h2 : 2 ^ (g.getD (a + c) 0) < 2 ^ 8 := Nat.pow_lt_pow_right (by decide) hgm
    have hor : bitsV .or .i64 (s : Int) ((2 ^ (g.getD (a + c) 0) : Nat) : Int) = ((s ||| 2 ^ (g.getD (a + c) 0) : Nat) : Int) := bitsV_or (by omega) (by omega)
    have hadd : addV .i64 ((a + c : Nat) : Int) 1 = ((a + (c + 1) : Nat) : Int) := add1 (by omega)
    simp (maxSteps := 2000000) only [s15, ↓aw_region, ↓aw_skip, ↓aw_seq, ↓aw_block, ↓aw_exit, ↓aw_ret, ↓sops_nil, ↓sops_go, ↓dops_nil, ↓dopsX_nil, ↓dopsR_nil, ↓vdn, vup, extr_20, extr_21, extr_30, extr_31, extr_32, List.map_cons, List.map_nil, cond_true, cond_false, aop, aThen, aBlock, argEnv, ev, sput, sputO, binK, binI, unK, builtinK, pickK, Nat.reduceBEq, Nat.reduceAdd, Int.reduceBEq, Int.reduceBNe, Int.reduceLT, aPost, resK, tup, tyf, l15_0, hcm, hu.len, ge_iff_le, hge, hu.idx el_22 esz_3 hacI, hu.load shp_3 hacI, iL_get, hnn, shlI1 (show g.getD (a + c) 0 ≤ 62 by omega), hor, hadd, add1 (show c < 9223372036854775807 by omega)]
    exact hQ4 _ _ _ ⟨c + 1, hc', by omega, by simp (maxSteps := 2000000) only [↓aw_region, ↓aw_skip, ↓aw_seq, ↓aw_block, ↓aw_exit, ↓aw_ret, ↓sops_nil, ↓sops_go, ↓dops_nil, ↓dopsX_nil, ↓dopsR_nil, ↓vdn, vup, extr_20, extr_21, extr_30, extr_31, extr_32, List.map_cons, List.map_nil, cond_true, cond_false, aop, aThen, aBlock, argEnv, ev, sput, sputO, binK, binI, unK, builtinK, pickK, Nat.reduceBEq, Nat.reduceAdd, Int.reduceBEq, Int.reduceBNe, Int.reduceLT, aPost, resK, tup, tyf, hs], rfl⟩
  · obtain rfl : c = m := by omega
    simp (maxSteps := 2000000) only [s15, ↓aw_region, ↓aw_skip, ↓aw_seq, ↓aw_block, ↓aw_exit, ↓aw_ret, ↓sops_nil, ↓sops_go, ↓dops_nil, ↓dopsX_nil, ↓dopsR_nil, ↓vdn, vup, extr_20, extr_21, extr_30, extr_31, extr_32, List.map_cons, List.map_nil, cond_true, cond_false, aop, aThen, aBlock, argEnv, ev, sput, sputO, binK, binI, unK, builtinK, pickK, Nat.reduceBEq, Nat.reduceAdd, Int.reduceBEq, Int.reduceBNe, Int.reduceLT, aPost, resK, tup, tyf, l15_0, Int.lt_irrefl]
    refine hQ4 _ _ _ (hQ3 _ _ _ ?_)
    simp (maxSteps := 2000000) only [s15, ↓aw_region, ↓aw_skip, ↓aw_seq, ↓aw_block, ↓aw_exit, ↓aw_ret, ↓sops_nil, ↓sops_go, ↓dops_nil, ↓dopsX_nil, ↓dopsR_nil, ↓vdn, vup, extr_20, extr_21, extr_30, extr_31, extr_32, List.map_cons, List.map_nil, cond_true, cond_false, aop, aThen, aBlock, argEnv, ev, sput, sputO, binK, binI, unK, builtinK, pickK, Nat.reduceBEq, Nat.reduceAdd, Int.reduceBEq, Int.reduceBNe, Int.reduceLT, aPost, resK, tup, tyf, if_true]
    exact hN _ (by simp (maxSteps := 2000000) only [↓aw_region, ↓aw_skip, ↓aw_seq, ↓aw_block, ↓aw_exit, ↓aw_ret, ↓sops_nil, ↓sops_go, ↓dops_nil, ↓dopsX_nil, ↓dopsR_nil, ↓vdn, vup, extr_20, extr_21, extr_30, extr_31, extr_32, List.map_cons, List.map_nil, cond_true, cond_false, aop, aThen, aBlock, argEnv, ev, sput, sputO, binK, binI, unK, builtinK, pickK, Nat.reduceBEq, Nat.reduceAdd, Int.reduceBEq, Int.reduceBNe, Int.reduceLT, aPost, resK, tup, tyf])

theorem beat_loop [Tabs prog] {H : Heap} {v u w : Value} {xs : List Int} {a p met L j : Nat} (hv : IntSl H v xs) (ht : trn xs = true) (hp : p < 2 ^ xs.length) (hmet : met < 2 ^ xs.length)
    (hall : ∀ i, i < xs.length → p.testBit i = true → Am.less (tN xs i &&& (2 ^ xs.length - 1)) met = Am.less (2 ^ xs.length - 1) met) {Q : Exit → Env → Heap → Prop}
    (hN : ∀ e, ELe e [(0, v), (2, .bool false), (5, u), (7, vint a), (8, vint met), (10, vint p), (50, w), (51, vint L), (52, vint j)] → Q .normal e H) :
    AWS prog 133 (.seq q15_24 (.block 4 (.loop l15_1))) Q [(0, v), (2, .bool false), (5, u), (7, vint a), (8, vint met), (10, vint p), (50, w), (51, vint L), (52, vint j)] H := by
  have hxl := trn_len ht
  have h256 := pow8N hxl.2
  have hnn : ∀ i : Nat, (0 : Int) ≤ (i : Int) := Int.natCast_nonneg
  have e01 : ((0 : Int) == 1) = false := rfl
  have e11 : ((1 : Int) == 1) = true := rfl
  have h1 := Nat.two_pow_pos xs.length
  have hsh : shlV .i64 1 (xs.length : Int) = ((2 ^ xs.length : Nat) : Int) := shlI1 (by omega)
  have hsub : subV .i64 ((2 ^ xs.length : Nat) : Int) 1 = ((2 ^ xs.length - 1 : Nat) : Int) := by rw [subV_id (by omega) (by omega)]; omega
  refine aw_aws ?_
  simp (maxSteps := 2000000) only [s15, ↓aw_region, ↓aw_skip, ↓aw_seq, ↓aw_block, ↓aw_exit, ↓aw_ret, ↓sops_nil, ↓sops_go, ↓dops_nil, ↓dopsX_nil, ↓dopsR_nil, ↓vdn, vup, extr_20, extr_21, extr_30, extr_31, extr_32, List.map_cons, List.map_nil, cond_true, cond_false, aop, aThen, aBlock, argEnv, ev, sput, sputO, binK, binI, unK, builtinK, pickK, Nat.reduceBEq, Nat.reduceAdd, Int.reduceBEq, Int.reduceBNe, Int.reduceLT, aPost, resK, tup, tyf, hv.len, ↓aw_loop_eq]
  refine aws_hide fun Q3 hQ3 => ?_
  refine aw_loop (γ := Nat) (fun i => i ≤ xs.length)
    (fun i => ([(0, v), (2, .bool false), (5, u), (7, vint a), (8, vint met), (10, vint p), (50, w), (51, vint L), (52, vint j), (95, v), (96, vint xs.length), (97, vint i)], H)) (fun i => xs.length - i) 0 (Nat.zero_le _) (by simp (maxSteps := 2000000) only [↓aw_region, ↓aw_skip, ↓aw_seq, ↓aw_block, ↓aw_exit, ↓aw_ret, ↓sops_nil, ↓sops_go, ↓dops_nil, ↓dopsX_nil, ↓dopsR_nil, ↓vdn, vup, extr_20, extr_21, extr_30, extr_31, extr_32, List.map_cons, List.map_nil, cond_true, cond_false, aop, aThen, aBlock, argEnv, ev, sput, sputO, binK, binI, unK, builtinK, pickK, Nat.reduceBEq, Nat.reduceAdd, Int.reduceBEq, Int.reduceBNe, Int.reduceLT, aPost, resK, tup, tyf, Int.natCast_zero]) rfl ?_
  intro i hi
  refine aw_hide fun Q4 hQ4 => ?_
  by_cases hin : (i : Int) < xs.length
  · have hi' : i < xs.length := by omega
    obtain ⟨hX, hXl⟩ := trn_nat ht hi'
    have htest := testV (a := p) (y := i) (by omega)
    simp (maxSteps := 2000000) only [s15, ↓aw_region, ↓aw_skip, ↓aw_seq, ↓aw_block, ↓aw_exit, ↓aw_ret, ↓sops_nil, ↓sops_go, ↓dops_nil, ↓dopsX_nil, ↓dopsR_nil, ↓vdn, vup, extr_20, extr_21, extr_30, extr_31, extr_32, List.map_cons, List.map_nil, cond_true, cond_false, aop, aThen, aBlock, argEnv, ev, sput, sputO, binK, binI, unK, builtinK, pickK, Nat.reduceBEq, Nat.reduceAdd, Int.reduceBEq, Int.reduceBNe, Int.reduceLT, aPost, resK, tup, tyf, l15_1, hin, hv.idx el_22 esz_3 hi', hv.load shp_3 hi']
    refine aw_drawX [] (by kernel_rfl) (by kernel_rfl) (by kernel_rfl) (by kernel_rfl) ?_
    cases hb : p.testBit i with
    | false =>
      rw [hb, if_neg (by decide)] at htest
      simp (maxSteps := 2000000) only [s15, ↓aw_region, ↓aw_skip, ↓aw_seq, ↓aw_block, ↓aw_exit, ↓aw_ret, ↓sops_nil, ↓sops_go, ↓dops_nil, ↓dopsX_nil, ↓dopsR_nil, ↓vdn, vup, extr_20, extr_21, extr_30, extr_31, extr_32, List.map_cons, List.map_nil, cond_true, cond_false, aop, aThen, aBlock, argEnv, ev, sput, sputO, binK, binI, unK, builtinK, pickK, Nat.reduceBEq, Nat.reduceAdd, Int.reduceBEq, Int.reduceBNe, Int.reduceLT, aPost, resK, tup, tyf, hnn, htest, e01, add1 (show i < 9223372036854775807 by omega)]
      exact hQ4 _ _ _ ⟨i + 1, hi', by omega, by simp (maxSteps := 2000000) only [↓aw_region, ↓aw_skip, ↓aw_seq, ↓aw_block, ↓aw_exit, ↓aw_ret, ↓sops_nil, ↓sops_go, ↓dops_nil, ↓dopsX_nil, ↓dopsR_nil, ↓vdn, vup, extr_20, extr_21, extr_30, extr_31, extr_32, List.map_cons, List.map_nil, cond_true, cond_false, aop, aThen, aBlock, argEnv, ev, sput, sputO, binK, binI, unK, builtinK, pickK, Nat.reduceBEq, Nat.reduceAdd, Int.reduceBEq, Int.reduceBNe, Int.reduceLT, aPost, resK, tup, tyf], rfl⟩
    | true =>
      rw [hb, if_pos rfl] at htest
      have hx := hall i hi' hb
      have hand : bitsV .and .i64 (xs.getD i 0) ((2 ^ xs.length - 1 : Nat) : Int) = ((tN xs i &&& (2 ^ xs.length - 1) : Nat) : Int) := by
        have := bitsV_and (a := tN xs i) (b := 2 ^ xs.length - 1) (by rw [tN]; omega) (by omega)
        rw [tN] at this ⊢
        rw [← hX] at this; exact this
      have hbl : tN xs i &&& (2 ^ xs.length - 1) ≤ 2 ^ xs.length - 1 := Nat.and_le_right
      have hn1 : bitsV .andNot .i64 ((tN xs i &&& (2 ^ xs.length - 1) : Nat) : Int) ((met : Nat) : Int) = ((Am.less (2 ^ xs.length - 1) met : Nat) : Int) := by rw [bitsV_andNot (by omega) (by omega), hx]
      have hn2 : bitsV .andNot .i64 ((2 ^ xs.length - 1 : Nat) : Int) ((met : Nat) : Int) = ((Am.less (2 ^ xs.length - 1) met : Nat) : Int) := bitsV_andNot (by omega) (by omega)
      have hne : ((((Am.less (2 ^ xs.length - 1) met : Nat) : Int)) != ((Am.less (2 ^ xs.length - 1) met : Nat) : Int)) = false := by rw [bne_self_eq_false]
      simp (maxSteps := 2000000) only [s15, ↓aw_region, ↓aw_skip, ↓aw_seq, ↓aw_block, ↓aw_exit, ↓aw_ret, ↓sops_nil, ↓sops_go, ↓dops_nil, ↓dopsX_nil, ↓dopsR_nil, ↓vdn, vup, extr_20, extr_21, extr_30, extr_31, extr_32, List.map_cons, List.map_nil, cond_true, cond_false, aop, aThen, aBlock, argEnv, ev, sput, sputO, binK, binI, unK, builtinK, pickK, Nat.reduceBEq, Nat.reduceAdd, Int.reduceBEq, Int.reduceBNe, Int.reduceLT, aPost, resK, tup, tyf, hnn, htest, e11, hv.len, hsh, hsub, hand, hn1, hn2, hne, add1 (show i < 9223372036854775807 by omega)]
      exact hQ4 _ _ _ ⟨i + 1, hi', by omega, by simp (maxSteps := 2000000) only [↓aw_region, ↓aw_skip, ↓aw_seq, ↓aw_block, ↓aw_exit, ↓aw_ret, ↓sops_nil, ↓sops_go, ↓dops_nil, ↓dopsX_nil, ↓dopsR_nil, ↓vdn, vup, extr_20, extr_21, extr_30, extr_31, extr_32, List.map_cons, List.map_nil, cond_true, cond_false, aop, aThen, aBlock, argEnv, ev, sput, sputO, binK, binI, unK, builtinK, pickK, Nat.reduceBEq, Nat.reduceAdd, Int.reduceBEq, Int.reduceBNe, Int.reduceLT, aPost, resK, tup, tyf], rfl⟩
  · obtain rfl : i = xs.length := by omega
    simp (maxSteps := 2000000) only [s15, ↓aw_region, ↓aw_skip, ↓aw_seq, ↓aw_block, ↓aw_exit, ↓aw_ret, ↓sops_nil, ↓sops_go, ↓dops_nil, ↓dopsX_nil, ↓dopsR_nil, ↓vdn, vup, extr_20, extr_21, extr_30, extr_31, extr_32, List.map_cons, List.map_nil, cond_true, cond_false, aop, aThen, aBlock, argEnv, ev, sput, sputO, binK, binI, unK, builtinK, pickK, Nat.reduceBEq, Nat.reduceAdd, Int.reduceBEq, Int.reduceBNe, Int.reduceLT, aPost, resK, tup, tyf, l15_1, Int.lt_irrefl]
    refine hQ4 _ _ _ (hQ3 _ _ _ ?_)
    simp (maxSteps := 2000000) only [s15, ↓aw_region, ↓aw_skip, ↓aw_seq, ↓aw_block, ↓aw_exit, ↓aw_ret, ↓sops_nil, ↓sops_go, ↓dops_nil, ↓dopsX_nil, ↓dopsR_nil, ↓vdn, vup, extr_20, extr_21, extr_30, extr_31, extr_32, List.map_cons, List.map_nil, cond_true, cond_false, aop, aThen, aBlock, argEnv, ev, sput, sputO, binK, binI, unK, builtinK, pickK, Nat.reduceBEq, Nat.reduceAdd, Int.reduceBEq, Int.reduceBNe, Int.reduceLT, aPost, resK, tup, tyf, if_true]
    exact hN _ (by simp (maxSteps := 2000000) only [↓aw_region, ↓aw_skip, ↓aw_seq, ↓aw_block, ↓aw_exit, ↓aw_ret, ↓sops_nil, ↓sops_go, ↓dops_nil, ↓dopsX_nil, ↓dopsR_nil, ↓vdn, vup, extr_20, extr_21, extr_30, extr_31, extr_32, List.map_cons, List.map_nil, cond_true, cond_false, aop, aThen, aBlock, argEnv, ev, sput, sputO, binK, binI, unK, builtinK, pickK, Nat.reduceBEq, Nat.reduceAdd, Int.reduceBEq, Int.reduceBNe, Int.reduceLT, aPost, resK, tup, tyf])
end Go.Proofs.Tryd.Am

namespace Go.Proofs.Tryd.Am
open Go.Am Rb Rch
set_option maxRecDepth 100000
set_option maxHeartbeats 1000000

theorem trn_take15 {xs : List Int} (h : trn xs = true) : xs.take 11 = xs :=
  List.take_of_length_le (by have := trn_len h; omega)
theorem s15_callW [Tabs Tryd.prog] {args : List Value} {h : Heap} {Q : Value → Heap → Prop} (hsz : args.length ≤ 133) (hk : AWS Tryd.prog 133 s15 (aPost Tryd.prog [.tmp 2] Q) (argEnv 0 args) h) : ACall Tryd.prog 15 args h Q :=
  acall_w Tryd.func15 rfl (enters_of Tryd.func15 (by kernel_rfl) rfl) rfl rfl (by decide) s15_strip s15_ok hsz hk
theorem law_together [BitTab prog 1] {h : Heap} {v : Value} {xs : List Int} (hv : IntSl h v xs) (hl : xs.length < 9223372036854775808) (hx : ∀ x ∈ xs, -9223372036854775808 ≤ x ∧ x < 9223372036854775808) :
    ACall prog 15 [v] h fun r _ => r = .bool true := by
  have awk : ∀ {K : Value → Heap → Prop} {g : Heap}, (∀ g', Ext (fun _ => False) g g' → K (.bool true) g') → ACall prog 21 [] g K := fun {K g} hk => awake_call.mono fun v h' ⟨h1, h2⟩ => by rw [h1]; exact hk _ h2
  have rng11 : ∀ {ys : List Int}, (∀ x ∈ ys, -9223372036854775808 ≤ x ∧ x < 9223372036854775808) → ∀ x ∈ ys.take 11, -9223372036854775808 ≤ x ∧ x < 9223372036854775808 := fun h x hm => h x (List.take_subset _ _ hm)
  have len11 : ∀ {ys : List Int}, (ys.take 11).length < 9223372036854775808 := by intro ys; simp; omega
  have e22 : ((2 : Int) == 2) = true := rfl
  have n20 : ((2 : Int) != 0) = true := rfl
  have n00 : ((0 : Int) != 0) = false := rfl
  have hnn : ∀ i : Nat, (0 : Int) ≤ (i : Int) := Int.natCast_nonneg
  refine s15_callW (by simp) ?_
  simp only [s15]
  refine aws_cut fun N1 hN1 => ?_
  simp (maxSteps := 2000000) only [s15, ↓aw_region, ↓aw_skip, ↓aw_seq, ↓aw_block, ↓aw_exit, ↓aw_ret, ↓sops_nil, ↓sops_go, ↓dops_nil, ↓dopsX_nil, ↓dopsR_nil, ↓vdn, vup, extr_20, extr_21, extr_30, extr_31, extr_32, List.map_cons, List.map_nil, cond_true, cond_false, aop, aThen, aBlock, argEnv, ev, sput, sputO, binK, binI, unK, builtinK, pickK, Nat.reduceBEq, Nat.reduceAdd, Int.reduceBEq, Int.reduceBNe, Int.reduceLT, aPost, resK, tup, tyf]
  refine hN1 [(0, v), (2, .bool false)] _ _ ?_ (by simp (maxSteps := 2000000) only [↓aw_region, ↓aw_skip, ↓aw_seq, ↓aw_block, ↓aw_exit, ↓aw_ret, ↓sops_nil, ↓sops_go, ↓dops_nil, ↓dopsX_nil, ↓dopsR_nil, ↓vdn, vup, extr_20, extr_21, extr_30, extr_31, extr_32, List.map_cons, List.map_nil, cond_true, cond_false, aop, aThen, aBlock, argEnv, ev, sput, sputO, binK, binI, unK, builtinK, pickK, Nat.reduceBEq, Nat.reduceAdd, Int.reduceBEq, Int.reduceBNe, Int.reduceLT, aPost, resK, tup, tyf])
  clear hN1
  try clear N1
  refine aws_cut fun N2 hN2 => ?_
  simp (maxSteps := 2000000) only [s15, ↓aw_region, ↓aw_skip, ↓aw_seq, ↓aw_block, ↓aw_exit, ↓aw_ret, ↓sops_nil, ↓sops_go, ↓dops_nil, ↓dopsX_nil, ↓dopsR_nil, ↓vdn, vup, extr_20, extr_21, extr_30, extr_31, extr_32, List.map_cons, List.map_nil, cond_true, cond_false, aop, aThen, aBlock, argEnv, ev, sput, sputO, binK, binI, unK, builtinK, pickK, Nat.reduceBEq, Nat.reduceAdd, Int.reduceBEq, Int.reduceBNe, Int.reduceLT, aPost, resK, tup, tyf, callK, List.nil_append, List.append_nil, List.toList_toArray, List.cons_append]
  refine (list_call hv hl).mono ?_
  rintro l1 _ ⟨hl1, g1, rfl⟩
  refine (parts_call hl1 len11 (rng11 hx)).mono ?_
  rintro r1 h1 ⟨hE1, hr1⟩
  have hv1 := IntSl_ext (hv.grow g1) hE1
  clear hl1 hE1
  cases ht : trn xs with
  | false =>
    rw [trn_take, ht, if_neg (by decide)] at hr1
    subst hr1
    simp (maxSteps := 2000000) only [s15, ↓aw_region, ↓aw_skip, ↓aw_seq, ↓aw_block, ↓aw_exit, ↓aw_ret, ↓sops_nil, ↓sops_go, ↓dops_nil, ↓dopsX_nil, ↓dopsR_nil, ↓vdn, vup, extr_20, extr_21, extr_30, extr_31, extr_32, List.map_cons, List.map_nil, cond_true, cond_false, aop, aThen, aBlock, argEnv, ev, sput, sputO, binK, binI, unK, builtinK, pickK, Nat.reduceBEq, Nat.reduceAdd, Int.reduceBEq, Int.reduceBNe, Int.reduceLT, aPost, resK, tup, tyf]
    refine hN2 [(0, v), (2, .bool false), (3, .slice none 0 0), (4, .int .i64 2)] _ _ ?_ (by simp (maxSteps := 2000000) only [↓aw_region, ↓aw_skip, ↓aw_seq, ↓aw_block, ↓aw_exit, ↓aw_ret, ↓sops_nil, ↓sops_go, ↓dops_nil, ↓dopsX_nil, ↓dopsR_nil, ↓vdn, vup, extr_20, extr_21, extr_30, extr_31, extr_32, List.map_cons, List.map_nil, cond_true, cond_false, aop, aThen, aBlock, argEnv, ev, sput, sputO, binK, binI, unK, builtinK, pickK, Nat.reduceBEq, Nat.reduceAdd, Int.reduceBEq, Int.reduceBNe, Int.reduceLT, aPost, resK, tup, tyf])
    clear hN2
    try clear N2
    refine aws_cut fun N3 hN3 => ?_
    simp (maxSteps := 2000000) only [s15, ↓aw_region, ↓aw_skip, ↓aw_seq, ↓aw_block, ↓aw_exit, ↓aw_ret, ↓sops_nil, ↓sops_go, ↓dops_nil, ↓dopsX_nil, ↓dopsR_nil, ↓vdn, vup, extr_20, extr_21, extr_30, extr_31, extr_32, List.map_cons, List.map_nil, cond_true, cond_false, aop, aThen, aBlock, argEnv, ev, sput, sputO, binK, binI, unK, builtinK, pickK, Nat.reduceBEq, Nat.reduceAdd, Int.reduceBEq, Int.reduceBNe, Int.reduceLT, aPost, resK, tup, tyf, callK, List.nil_append, List.append_nil, List.toList_toArray, List.cons_append]
    refine (list_call hv1 hl).mono ?_
    rintro l2 _ ⟨hl2, g2, rfl⟩
    refine (order_call hl2 len11 (rng11 hx)).mono ?_
    rintro r2 h2 ⟨hE2, hr2⟩
    rw [trn_take, ht, if_neg (by decide)] at hr2
    subst hr2
    simp (maxSteps := 2000000) only [s15, ↓aw_region, ↓aw_skip, ↓aw_seq, ↓aw_block, ↓aw_exit, ↓aw_ret, ↓sops_nil, ↓sops_go, ↓dops_nil, ↓dopsX_nil, ↓dopsR_nil, ↓vdn, vup, extr_20, extr_21, extr_30, extr_31, extr_32, List.map_cons, List.map_nil, cond_true, cond_false, aop, aThen, aBlock, argEnv, ev, sput, sputO, binK, binI, unK, builtinK, pickK, Nat.reduceBEq, Nat.reduceAdd, Int.reduceBEq, Int.reduceBNe, Int.reduceLT, aPost, resK, tup, tyf]
    refine hN3 [(0, v), (2, .bool false), (3, .slice none 0 0), (4, .int .i64 2), (5, .slice none 0 0), (6, .int .i64 2)] _ _ ?_ (by simp (maxSteps := 2000000) only [↓aw_region, ↓aw_skip, ↓aw_seq, ↓aw_block, ↓aw_exit, ↓aw_ret, ↓sops_nil, ↓sops_go, ↓dops_nil, ↓dopsX_nil, ↓dopsR_nil, ↓vdn, vup, extr_20, extr_21, extr_30, extr_31, extr_32, List.map_cons, List.map_nil, cond_true, cond_false, aop, aThen, aBlock, argEnv, ev, sput, sputO, binK, binI, unK, builtinK, pickK, Nat.reduceBEq, Nat.reduceAdd, Int.reduceBEq, Int.reduceBNe, Int.reduceLT, aPost, resK, tup, tyf])
    clear hN3
    try clear N3
    refine aws_cut fun N4 hN4 => ?_
    simp (maxSteps := 2000000) only [s15, ↓aw_region, ↓aw_skip, ↓aw_seq, ↓aw_block, ↓aw_exit, ↓aw_ret, ↓sops_nil, ↓sops_go, ↓dops_nil, ↓dopsX_nil, ↓dopsR_nil, ↓vdn, vup, extr_20, extr_21, extr_30, extr_31, extr_32, List.map_cons, List.map_nil, cond_true, cond_false, aop, aThen, aBlock, argEnv, ev, sput, sputO, binK, binI, unK, builtinK, pickK, Nat.reduceBEq, Nat.reduceAdd, Int.reduceBEq, Int.reduceBNe, Int.reduceLT, aPost, resK, tup, tyf, callK, List.nil_append, List.append_nil, List.toList_toArray, List.cons_append, n20, e22]
    refine awk fun g _ => ?_
    simp (maxSteps := 2000000) only [s15, ↓aw_region, ↓aw_skip, ↓aw_seq, ↓aw_block, ↓aw_exit, ↓aw_ret, ↓sops_nil, ↓sops_go, ↓dops_nil, ↓dopsX_nil, ↓dopsR_nil, ↓vdn, vup, extr_20, extr_21, extr_30, extr_31, extr_32, List.map_cons, List.map_nil, cond_true, cond_false, aop, aThen, aBlock, argEnv, ev, sput, sputO, binK, binI, unK, builtinK, pickK, Nat.reduceBEq, Nat.reduceAdd, Int.reduceBEq, Int.reduceBNe, Int.reduceLT, aPost, resK, tup, tyf]
  | true =>
    have hxl := trn_len ht
    have h256 := pow8N hxl.2
    rw [trn_take15 ht, ht, if_pos rfl] at hr1
    obtain ⟨w, rfl, hw⟩ := hr1
    simp (maxSteps := 2000000) only [s15, ↓aw_region, ↓aw_skip, ↓aw_seq, ↓aw_block, ↓aw_exit, ↓aw_ret, ↓sops_nil, ↓sops_go, ↓dops_nil, ↓dopsX_nil, ↓dopsR_nil, ↓vdn, vup, extr_20, extr_21, extr_30, extr_31, extr_32, List.map_cons, List.map_nil, cond_true, cond_false, aop, aThen, aBlock, argEnv, ev, sput, sputO, binK, binI, unK, builtinK, pickK, Nat.reduceBEq, Nat.reduceAdd, Int.reduceBEq, Int.reduceBNe, Int.reduceLT, aPost, resK, tup, tyf]
    refine hN2 [(0, v), (2, .bool false), (3, w), (4, .int .i64 0)] _ _ ?_ (by simp (maxSteps := 2000000) only [↓aw_region, ↓aw_skip, ↓aw_seq, ↓aw_block, ↓aw_exit, ↓aw_ret, ↓sops_nil, ↓sops_go, ↓dops_nil, ↓dopsX_nil, ↓dopsR_nil, ↓vdn, vup, extr_20, extr_21, extr_30, extr_31, extr_32, List.map_cons, List.map_nil, cond_true, cond_false, aop, aThen, aBlock, argEnv, ev, sput, sputO, binK, binI, unK, builtinK, pickK, Nat.reduceBEq, Nat.reduceAdd, Int.reduceBEq, Int.reduceBNe, Int.reduceLT, aPost, resK, tup, tyf])
    clear hN2
    try clear N2
    refine aws_cut fun N5 hN5 => ?_
    simp (maxSteps := 2000000) only [s15, ↓aw_region, ↓aw_skip, ↓aw_seq, ↓aw_block, ↓aw_exit, ↓aw_ret, ↓sops_nil, ↓sops_go, ↓dops_nil, ↓dopsX_nil, ↓dopsR_nil, ↓vdn, vup, extr_20, extr_21, extr_30, extr_31, extr_32, List.map_cons, List.map_nil, cond_true, cond_false, aop, aThen, aBlock, argEnv, ev, sput, sputO, binK, binI, unK, builtinK, pickK, Nat.reduceBEq, Nat.reduceAdd, Int.reduceBEq, Int.reduceBNe, Int.reduceLT, aPost, resK, tup, tyf, callK, List.nil_append, List.append_nil, List.toList_toArray, List.cons_append]
    refine (list_call hv1 hl).mono ?_
    rintro l2 _ ⟨hl2, g2, rfl⟩
    rw [trn_take15 ht] at hl2
    refine (order_call hl2 hl hx).mono ?_
    rintro r2 h2 ⟨hE2, hr2⟩
    rw [if_pos ht] at hr2
    obtain ⟨u, rfl, hu⟩ := hr2
    have hv2 := IntSl_ext (hv1.grow g2) hE2
    have hw2 := IntSl_ext (hw.int.grow g2) hE2
    have hu2 : IntSl h2 u (iL (gB xs)) := hu.int
    have hio : isOrd xs.length (iL (gB xs)) = true := (gr_best (xs := xs) hxl.2).1
    obtain ⟨hg1, hg2, hg3⟩ := gB_ok ht
    have hgl : (iL (gB xs)).length = xs.length := by rw [iL_len, hg1]
    have hPl : (prts xs).length ≤ xs.length := by
      have : ∀ k left, (cps xs.length (rch xs) k left).length ≤ k := by
        intro k
        induction k with
        | zero => intro left; exact Nat.le_refl _
        | succ k ih => intro left; rw [cps]; split
                       · exact Nat.zero_le _
                       · rw [List.length_cons]; have := ih (left ^^^ Clr.setL (topL xs.length (rch xs) left)); omega
      exact this _ _
    have hsh : shlV .i64 1 (xs.length : Int) = ((2 ^ xs.length : Nat) : Int) := shlI1 (by omega)
    clear hu hw hl2 hE2
    simp (maxSteps := 2000000) only [s15, ↓aw_region, ↓aw_skip, ↓aw_seq, ↓aw_block, ↓aw_exit, ↓aw_ret, ↓sops_nil, ↓sops_go, ↓dops_nil, ↓dopsX_nil, ↓dopsR_nil, ↓vdn, vup, extr_20, extr_21, extr_30, extr_31, extr_32, List.map_cons, List.map_nil, cond_true, cond_false, aop, aThen, aBlock, argEnv, ev, sput, sputO, binK, binI, unK, builtinK, pickK, Nat.reduceBEq, Nat.reduceAdd, Int.reduceBEq, Int.reduceBNe, Int.reduceLT, aPost, resK, tup, tyf]
    refine hN5 [(0, v), (2, .bool false), (3, w), (4, .int .i64 0), (5, u), (6, .int .i64 0)] _ _ ?_ (by simp (maxSteps := 2000000) only [↓aw_region, ↓aw_skip, ↓aw_seq, ↓aw_block, ↓aw_exit, ↓aw_ret, ↓sops_nil, ↓sops_go, ↓dops_nil, ↓dopsX_nil, ↓dopsR_nil, ↓vdn, vup, extr_20, extr_21, extr_30, extr_31, extr_32, List.map_cons, List.map_nil, cond_true, cond_false, aop, aThen, aBlock, argEnv, ev, sput, sputO, binK, binI, unK, builtinK, pickK, Nat.reduceBEq, Nat.reduceAdd, Int.reduceBEq, Int.reduceBNe, Int.reduceLT, aPost, resK, tup, tyf])
    clear hN5
    try clear N5
    refine aws_cut fun N6 hN6 => ?_
    simp (maxSteps := 2000000) only [s15, ↓aw_region, ↓aw_skip, ↓aw_seq, ↓aw_block, ↓aw_exit, ↓aw_ret, ↓sops_nil, ↓sops_go, ↓dops_nil, ↓dopsX_nil, ↓dopsR_nil, ↓vdn, vup, extr_20, extr_21, extr_30, extr_31, extr_32, List.map_cons, List.map_nil, cond_true, cond_false, aop, aThen, aBlock, argEnv, ev, sput, sputO, binK, binI, unK, builtinK, pickK, Nat.reduceBEq, Nat.reduceAdd, Int.reduceBEq, Int.reduceBNe, Int.reduceLT, aPost, resK, tup, tyf, callK, List.nil_append, List.append_nil, List.toList_toArray, List.cons_append, n00]
    refine (rvalid_call hv2 hl hx).mono ?_
    rintro _ h2 ⟨rfl, rfl⟩
    simp (maxSteps := 2000000) only [s15, ↓aw_region, ↓aw_skip, ↓aw_seq, ↓aw_block, ↓aw_exit, ↓aw_ret, ↓sops_nil, ↓sops_go, ↓dops_nil, ↓dopsX_nil, ↓dopsR_nil, ↓vdn, vup, extr_20, extr_21, extr_30, extr_31, extr_32, List.map_cons, List.map_nil, cond_true, cond_false, aop, aThen, aBlock, argEnv, ev, sput, sputO, binK, binI, unK, builtinK, pickK, Nat.reduceBEq, Nat.reduceAdd, Int.reduceBEq, Int.reduceBNe, Int.reduceLT, aPost, resK, tup, tyf, ht, Bool.not_true]
    refine hN6 [(0, v), (2, .bool false), (3, w), (4, .int .i64 0), (5, u), (6, .int .i64 0)] _ _ ?_ (by simp (maxSteps := 2000000) only [↓aw_region, ↓aw_skip, ↓aw_seq, ↓aw_block, ↓aw_exit, ↓aw_ret, ↓sops_nil, ↓sops_go, ↓dops_nil, ↓dopsX_nil, ↓dopsR_nil, ↓vdn, vup, extr_20, extr_21, extr_30, extr_31, extr_32, List.map_cons, List.map_nil, cond_true, cond_false, aop, aThen, aBlock, argEnv, ev, sput, sputO, binK, binI, unK, builtinK, pickK, Nat.reduceBEq, Nat.reduceAdd, Int.reduceBEq, Int.reduceBNe, Int.reduceLT, aPost, resK, tup, tyf])
    clear hN6
    try clear N6
    refine aws_cut fun N7 hN7 => ?_
    simp (maxSteps := 2000000) only [s15, ↓aw_region, ↓aw_skip, ↓aw_seq, ↓aw_block, ↓aw_exit, ↓aw_ret, ↓sops_nil, ↓sops_go, ↓dops_nil, ↓dopsX_nil, ↓dopsR_nil, ↓vdn, vup, extr_20, extr_21, extr_30, extr_31, extr_32, List.map_cons, List.map_nil, cond_true, cond_false, aop, aThen, aBlock, argEnv, ev, sput, sputO, binK, binI, unK, builtinK, pickK, Nat.reduceBEq, Nat.reduceAdd, Int.reduceBEq, Int.reduceBNe, Int.reduceLT, aPost, resK, tup, tyf, callK, List.nil_append, List.append_nil, List.toList_toArray, List.cons_append, n00]
    refine (isord_call hv2 hu2 hxl.2 (by rw [hgl]; omega)).mono ?_
    rintro _ h2 ⟨rfl, rfl⟩
    simp (maxSteps := 2000000) only [s15, ↓aw_region, ↓aw_skip, ↓aw_seq, ↓aw_block, ↓aw_exit, ↓aw_ret, ↓sops_nil, ↓sops_go, ↓dops_nil, ↓dopsX_nil, ↓dopsR_nil, ↓vdn, vup, extr_20, extr_21, extr_30, extr_31, extr_32, List.map_cons, List.map_nil, cond_true, cond_false, aop, aThen, aBlock, argEnv, ev, sput, sputO, binK, binI, unK, builtinK, pickK, Nat.reduceBEq, Nat.reduceAdd, Int.reduceBEq, Int.reduceBNe, Int.reduceLT, aPost, resK, tup, tyf, hio, Bool.not_true]
    refine hN7 [(0, v), (2, .bool false), (3, w), (5, u)] _ _ ?_ (by simp (maxSteps := 2000000) only [↓aw_region, ↓aw_skip, ↓aw_seq, ↓aw_block, ↓aw_exit, ↓aw_ret, ↓sops_nil, ↓sops_go, ↓dops_nil, ↓dopsX_nil, ↓dopsR_nil, ↓vdn, vup, extr_20, extr_21, extr_30, extr_31, extr_32, List.map_cons, List.map_nil, cond_true, cond_false, aop, aThen, aBlock, argEnv, ev, sput, sputO, binK, binI, unK, builtinK, pickK, Nat.reduceBEq, Nat.reduceAdd, Int.reduceBEq, Int.reduceBNe, Int.reduceLT, aPost, resK, tup, tyf])
    clear hN7
    try clear N7
    refine aws_cut fun N8 hN8 => ?_
    simp (maxSteps := 2000000) only [s15, ↓aw_region, ↓aw_skip, ↓aw_seq, ↓aw_block, ↓aw_exit, ↓aw_ret, ↓sops_nil, ↓sops_go, ↓dops_nil, ↓dopsX_nil, ↓dopsR_nil, ↓vdn, vup, extr_20, extr_21, extr_30, extr_31, extr_32, List.map_cons, List.map_nil, cond_true, cond_false, aop, aThen, aBlock, argEnv, ev, sput, sputO, binK, binI, unK, builtinK, pickK, Nat.reduceBEq, Nat.reduceAdd, Int.reduceBEq, Int.reduceBNe, Int.reduceLT, aPost, resK, tup, tyf]
    refine hN8 [(0, v), (2, .bool false), (3, w), (5, u), (7, .int .i64 0), (8, .int .i64 0)] _ _ ?_ (by simp (maxSteps := 2000000) only [↓aw_region, ↓aw_skip, ↓aw_seq, ↓aw_block, ↓aw_exit, ↓aw_ret, ↓sops_nil, ↓sops_go, ↓dops_nil, ↓dopsX_nil, ↓dopsR_nil, ↓vdn, vup, extr_20, extr_21, extr_30, extr_31, extr_32, List.map_cons, List.map_nil, cond_true, cond_false, aop, aThen, aBlock, argEnv, ev, sput, sputO, binK, binI, unK, builtinK, pickK, Nat.reduceBEq, Nat.reduceAdd, Int.reduceBEq, Int.reduceBNe, Int.reduceLT, aPost, resK, tup, tyf])
    clear hN8
    try clear N8
    refine aws_cutW fun Z hZ => ?_
    refine aws_cut fun N9 hN9 => ?_
    simp (maxSteps := 2000000) only [s15, ↓aw_region, ↓aw_skip, ↓aw_seq, ↓aw_block, ↓aw_exit, ↓aw_ret, ↓sops_nil, ↓sops_go, ↓dops_nil, ↓dopsX_nil, ↓dopsR_nil, ↓vdn, vup, extr_20, extr_21, extr_30, extr_31, extr_32, List.map_cons, List.map_nil, cond_true, cond_false, aop, aThen, aBlock, argEnv, ev, sput, sputO, binK, binI, unK, builtinK, pickK, Nat.reduceBEq, Nat.reduceAdd, Int.reduceBEq, Int.reduceBNe, Int.reduceLT, aPost, resK, tup, tyf, hw2.len, iL_len]
    refine hN9 [(0, v), (2, .bool false), (5, u), (7, .int .i64 0), (8, .int .i64 0), (50, w), (51, vint (prts xs).length), (52, .int .i64 0)] _ _ ?_ (by simp (maxSteps := 2000000) only [↓aw_region, ↓aw_skip, ↓aw_seq, ↓aw_block, ↓aw_exit, ↓aw_ret, ↓sops_nil, ↓sops_go, ↓dops_nil, ↓dopsX_nil, ↓dopsR_nil, ↓vdn, vup, extr_20, extr_21, extr_30, extr_31, extr_32, List.map_cons, List.map_nil, cond_true, cond_false, aop, aThen, aBlock, argEnv, ev, sput, sputO, binK, binI, unK, builtinK, pickK, Nat.reduceBEq, Nat.reduceAdd, Int.reduceBEq, Int.reduceBNe, Int.reduceLT, aPost, resK, tup, tyf])
    clear hN9
    try clear N9
    refine aws_block ?_
    refine aws_hide fun Q hQ => ?_
    refine aw_loopW (γ := Nat × Nat × Nat) (fun s => s.1 ≤ (prts xs).length ∧ TgI xs s.1 s.2.1 s.2.2)
      (fun s => ([(0, v), (2, .bool false), (5, u), (7, vint s.2.1), (8, vint ((2 ^ xs.length - 1) ^^^ s.2.2 : Nat)), (50, w), (51, vint (prts xs).length), (52, vint s.1)], h2)) (fun s => (prts xs).length - s.1) (0, 0, 2 ^ xs.length - 1) ⟨Nat.zero_le _, tgi_start ht⟩ (by simp (maxSteps := 2000000) only [↓aw_region, ↓aw_skip, ↓aw_seq, ↓aw_block, ↓aw_exit, ↓aw_ret, ↓sops_nil, ↓sops_go, ↓dops_nil, ↓dopsX_nil, ↓dopsR_nil, ↓vdn, vup, extr_20, extr_21, extr_30, extr_31, extr_32, List.map_cons, List.map_nil, cond_true, cond_false, aop, aThen, aBlock, argEnv, ev, sput, sputO, binK, binI, unK, builtinK, pickK, Nat.reduceBEq, Nat.reduceAdd, Int.reduceBEq, Int.reduceBNe, Int.reduceLT, aPost, resK, tup, tyf, Int.natCast_zero, Nat.xor_self]) rfl ?_
    rintro ⟨j, a, left⟩ ⟨hj, hT⟩
    simp only at hj hT
    refine aws_hide fun Q2 hQ2 => ?_
    simp only [l15_2]
    by_cases hjn : (j : Int) < (prts xs).length
    · have hj' : j < (prts xs).length := by omega
      have hjL : j < (iL (prts xs)).length := by rw [iL_len]; exact hj'
      obtain ⟨h0, hget, hT2⟩ := tgi_step ht hT hj'
      obtain ⟨p1, p2, p3, p4, p5, p6, p7, p8, p9⟩ := tg_step ht hT.t h0
      have hlt := hT.t.lt
      have hlt2 := p7.lt
      have hF : 2 ^ xs.length - 1 < 2 ^ xs.length := Nat.sub_lt (Nat.two_pow_pos _) (by decide)
      have hm1 : (2 ^ xs.length - 1) ^^^ left < 2 ^ xs.length := Nat.xor_lt_two_pow hF hlt
      have hm2 : (2 ^ xs.length - 1) ^^^ (left ^^^ tP xs left) < 2 ^ xs.length := Nat.xor_lt_two_pow hF hlt2
      have hbeat : ∀ i, i < xs.length → (tP xs left).testBit i = true → Am.less (tN xs i &&& (2 ^ xs.length - 1)) ((2 ^ xs.length - 1) ^^^ (left ^^^ tP xs left)) = Am.less (2 ^ xs.length - 1) ((2 ^ xs.length - 1) ^^^ (left ^^^ tP xs left)) := fun i hi hti => by
        refine Nat.eq_of_testBit_eq fun x => ?_
        have := p9 i hi hti x
        rw [less_testBit, less_testBit, Nat.testBit_and, Nat.testBit_xor, Nat.testBit_two_pow_sub_one]
        cases hb : (left ^^^ tP xs left).testBit x with
        | true => rw [this hb, Bool.true_and]
        | false => cases decide (x < xs.length) <;> simp
      rw [p8.symm] at hm2 hbeat
      generalize tP xs left = p at hget hT2 p1 p2 p3 p4 p5 p6 p7 p8 p9 hm2 hbeat hlt2
      have hl1 : ¬ ((p : Nat) : Int) < 1 := by omega
      have hl2 : ¬ ((2 ^ xs.length : Nat) : Int) ≤ ((p : Nat) : Int) := by omega
      have hand : bitsV .and .i64 ((p : Nat) : Int) (((2 ^ xs.length - 1) ^^^ left : Nat) : Int) = 0 := by rw [bitsV_and (by omega) (by omega), p3]; rfl
      have hor : bitsV .or .i64 (((2 ^ xs.length - 1) ^^^ left : Nat) : Int) ((p : Nat) : Int) = ((((2 ^ xs.length - 1) ^^^ left) ||| p : Nat) : Int) := bitsV_or (by omega) (by omega)
      have hself : (((p : Nat) : Int) != ((p : Nat) : Int)) = false := bne_self_eq_false _
      refine aws_cut fun N10 hN10 => ?_
      simp (maxSteps := 2000000) only [s15, ↓aw_region, ↓aw_skip, ↓aw_seq, ↓aw_block, ↓aw_exit, ↓aw_ret, ↓sops_nil, ↓sops_go, ↓dops_nil, ↓dopsX_nil, ↓dopsR_nil, ↓vdn, vup, extr_20, extr_21, extr_30, extr_31, extr_32, List.map_cons, List.map_nil, cond_true, cond_false, aop, aThen, aBlock, argEnv, ev, sput, sputO, binK, binI, unK, builtinK, pickK, Nat.reduceBEq, Nat.reduceAdd, Int.reduceBEq, Int.reduceBNe, Int.reduceLT, aPost, resK, tup, tyf, hjn]
      refine hN10 [(0, v), (2, .bool false), (5, u), (7, vint a), (8, vint ((2 ^ xs.length - 1) ^^^ left : Nat)), (50, w), (51, vint (prts xs).length), (52, vint j), (53, .bool true)] _ _ ?_ (by simp (maxSteps := 2000000) only [↓aw_region, ↓aw_skip, ↓aw_seq, ↓aw_block, ↓aw_exit, ↓aw_ret, ↓sops_nil, ↓sops_go, ↓dops_nil, ↓dopsX_nil, ↓dopsR_nil, ↓vdn, vup, extr_20, extr_21, extr_30, extr_31, extr_32, List.map_cons, List.map_nil, cond_true, cond_false, aop, aThen, aBlock, argEnv, ev, sput, sputO, binK, binI, unK, builtinK, pickK, Nat.reduceBEq, Nat.reduceAdd, Int.reduceBEq, Int.reduceBNe, Int.reduceLT, aPost, resK, tup, tyf])
      clear hN10
      try clear N10
      refine aws_cut fun N11 hN11 => ?_
      simp (maxSteps := 2000000) only [s15, ↓aw_region, ↓aw_skip, ↓aw_seq, ↓aw_block, ↓aw_exit, ↓aw_ret, ↓sops_nil, ↓sops_go, ↓dops_nil, ↓dopsX_nil, ↓dopsR_nil, ↓vdn, vup, extr_20, extr_21, extr_30, extr_31, extr_32, List.map_cons, List.map_nil, cond_true, cond_false, aop, aThen, aBlock, argEnv, ev, sput, sputO, binK, binI, unK, builtinK, pickK, Nat.reduceBEq, Nat.reduceAdd, Int.reduceBEq, Int.reduceBNe, Int.reduceLT, aPost, resK, tup, tyf]
      refine hN11 [(0, v), (2, .bool false), (5, u), (7, vint a), (8, vint ((2 ^ xs.length - 1) ^^^ left : Nat)), (50, w), (51, vint (prts xs).length), (52, vint j)] _ _ ?_ (by simp (maxSteps := 2000000) only [↓aw_region, ↓aw_skip, ↓aw_seq, ↓aw_block, ↓aw_exit, ↓aw_ret, ↓sops_nil, ↓sops_go, ↓dops_nil, ↓dopsX_nil, ↓dopsR_nil, ↓vdn, vup, extr_20, extr_21, extr_30, extr_31, extr_32, List.map_cons, List.map_nil, cond_true, cond_false, aop, aThen, aBlock, argEnv, ev, sput, sputO, binK, binI, unK, builtinK, pickK, Nat.reduceBEq, Nat.reduceAdd, Int.reduceBEq, Int.reduceBNe, Int.reduceLT, aPost, resK, tup, tyf])
      clear hN11
      try clear N11
      refine aws_cutW fun M hM => ?_
      refine aws_block ?_
      refine aws_cut fun N12 hN12 => ?_
      simp (maxSteps := 2000000) only [s15, ↓aw_region, ↓aw_skip, ↓aw_seq, ↓aw_block, ↓aw_exit, ↓aw_ret, ↓sops_nil, ↓sops_go, ↓dops_nil, ↓dopsX_nil, ↓dopsR_nil, ↓vdn, vup, extr_20, extr_21, extr_30, extr_31, extr_32, List.map_cons, List.map_nil, cond_true, cond_false, aop, aThen, aBlock, argEnv, ev, sput, sputO, binK, binI, unK, builtinK, pickK, Nat.reduceBEq, Nat.reduceAdd, Int.reduceBEq, Int.reduceBNe, Int.reduceLT, aPost, resK, tup, tyf, hw2.idx el_22 esz_3 hjL, hw2.load shp_3 hjL, iL_get, hget]
      refine hN12 [(0, v), (2, .bool false), (5, u), (7, vint a), (8, vint ((2 ^ xs.length - 1) ^^^ left : Nat)), (10, vint p), (50, w), (51, vint (prts xs).length), (52, vint j)] _ _ ?_ (by simp (maxSteps := 2000000) only [↓aw_region, ↓aw_skip, ↓aw_seq, ↓aw_block, ↓aw_exit, ↓aw_ret, ↓sops_nil, ↓sops_go, ↓dops_nil, ↓dopsX_nil, ↓dopsR_nil, ↓vdn, vup, extr_20, extr_21, extr_30, extr_31, extr_32, List.map_cons, List.map_nil, cond_true, cond_false, aop, aThen, aBlock, argEnv, ev, sput, sputO, binK, binI, unK, builtinK, pickK, Nat.reduceBEq, Nat.reduceAdd, Int.reduceBEq, Int.reduceBNe, Int.reduceLT, aPost, resK, tup, tyf])
      clear hN12
      try clear N12
      refine aws_cut fun N13 hN13 => ?_
      simp (maxSteps := 2000000) only [s15, ↓aw_region, ↓aw_skip, ↓aw_seq, ↓aw_block, ↓aw_exit, ↓aw_ret, ↓sops_nil, ↓sops_go, ↓dops_nil, ↓dopsX_nil, ↓dopsR_nil, ↓vdn, vup, extr_20, extr_21, extr_30, extr_31, extr_32, List.map_cons, List.map_nil, cond_true, cond_false, aop, aThen, aBlock, argEnv, ev, sput, sputO, binK, binI, unK, builtinK, pickK, Nat.reduceBEq, Nat.reduceAdd, Int.reduceBEq, Int.reduceBNe, Int.reduceLT, aPost, resK, tup, tyf, hl1, hv2.len, hnn, hsh, ge_iff_le, hl2, hand, n00]
      refine hN13 [(0, v), (2, .bool false), (5, u), (7, vint a), (8, vint ((2 ^ xs.length - 1) ^^^ left : Nat)), (10, vint p), (50, w), (51, vint (prts xs).length), (52, vint j)] _ _ ?_ (by simp (maxSteps := 2000000) only [↓aw_region, ↓aw_skip, ↓aw_seq, ↓aw_block, ↓aw_exit, ↓aw_ret, ↓sops_nil, ↓sops_go, ↓dops_nil, ↓dopsX_nil, ↓dopsR_nil, ↓vdn, vup, extr_20, extr_21, extr_30, extr_31, extr_32, List.map_cons, List.map_nil, cond_true, cond_false, aop, aThen, aBlock, argEnv, ev, sput, sputO, binK, binI, unK, builtinK, pickK, Nat.reduceBEq, Nat.reduceAdd, Int.reduceBEq, Int.reduceBNe, Int.reduceLT, aPost, resK, tup, tyf])
      clear hN13
      try clear N13
      refine aws_cut fun N14 hN14 => ?_
      simp (maxSteps := 2000000) only [s15, ↓aw_region, ↓aw_skip, ↓aw_seq, ↓aw_block, ↓aw_exit, ↓aw_ret, ↓sops_nil, ↓sops_go, ↓dops_nil, ↓dopsX_nil, ↓dopsR_nil, ↓vdn, vup, extr_20, extr_21, extr_30, extr_31, extr_32, List.map_cons, List.map_nil, cond_true, cond_false, aop, aThen, aBlock, argEnv, ev, sput, sputO, binK, binI, unK, builtinK, pickK, Nat.reduceBEq, Nat.reduceAdd, Int.reduceBEq, Int.reduceBNe, Int.reduceLT, aPost, resK, tup, tyf]
      refine hN14 [(0, v), (2, .bool false), (5, u), (7, vint a), (8, vint ((2 ^ xs.length - 1) ^^^ left : Nat)), (10, vint p), (11, .int .i64 0), (50, w), (51, vint (prts xs).length), (52, vint j)] _ _ ?_ (by simp (maxSteps := 2000000) only [↓aw_region, ↓aw_skip, ↓aw_seq, ↓aw_block, ↓aw_exit, ↓aw_ret, ↓sops_nil, ↓sops_go, ↓dops_nil, ↓dopsX_nil, ↓dopsR_nil, ↓vdn, vup, extr_20, extr_21, extr_30, extr_31, extr_32, List.map_cons, List.map_nil, cond_true, cond_false, aop, aThen, aBlock, argEnv, ev, sput, sputO, binK, binI, unK, builtinK, pickK, Nat.reduceBEq, Nat.reduceAdd, Int.reduceBEq, Int.reduceBNe, Int.reduceLT, aPost, resK, tup, tyf])
      clear hN14
      try clear N14
      refine aws_cutW fun S hS => ?_
      refine set_loop hu2 (fun x hx => by have := hg2 x hx; omega) (by omega) (by omega) rfl (by omega) fun e he => ?_
      rw [p6] at he
      refine hS [(0, v), (2, .bool false), (5, u), (7, vint ((a + (Am.bits p).length : Nat) : Int)), (8, vint ((2 ^ xs.length - 1) ^^^ left : Nat)), (10, vint p), (11, vint p), (50, w), (51, vint (prts xs).length), (52, vint j)] _ _ ?_ he
      clear he hS
      refine aws_cut fun N15 hN15 => ?_
      simp (maxSteps := 2000000) only [s15, ↓aw_region, ↓aw_skip, ↓aw_seq, ↓aw_block, ↓aw_exit, ↓aw_ret, ↓sops_nil, ↓sops_go, ↓dops_nil, ↓dopsX_nil, ↓dopsR_nil, ↓vdn, vup, extr_20, extr_21, extr_30, extr_31, extr_32, List.map_cons, List.map_nil, cond_true, cond_false, aop, aThen, aBlock, argEnv, ev, sput, sputO, binK, binI, unK, builtinK, pickK, Nat.reduceBEq, Nat.reduceAdd, Int.reduceBEq, Int.reduceBNe, Int.reduceLT, aPost, resK, tup, tyf, hself]
      refine hN15 [(0, v), (2, .bool false), (5, u), (7, vint ((a + (Am.bits p).length : Nat) : Int)), (8, vint ((2 ^ xs.length - 1) ^^^ left : Nat)), (10, vint p), (50, w), (51, vint (prts xs).length), (52, vint j)] _ _ ?_ (by simp (maxSteps := 2000000) only [↓aw_region, ↓aw_skip, ↓aw_seq, ↓aw_block, ↓aw_exit, ↓aw_ret, ↓sops_nil, ↓sops_go, ↓dops_nil, ↓dopsX_nil, ↓dopsR_nil, ↓vdn, vup, extr_20, extr_21, extr_30, extr_31, extr_32, List.map_cons, List.map_nil, cond_true, cond_false, aop, aThen, aBlock, argEnv, ev, sput, sputO, binK, binI, unK, builtinK, pickK, Nat.reduceBEq, Nat.reduceAdd, Int.reduceBEq, Int.reduceBNe, Int.reduceLT, aPost, resK, tup, tyf])
      clear hN15
      try clear N15
      refine aws_cut fun N16 hN16 => ?_
      simp (maxSteps := 2000000) only [s15, ↓aw_region, ↓aw_skip, ↓aw_seq, ↓aw_block, ↓aw_exit, ↓aw_ret, ↓sops_nil, ↓sops_go, ↓dops_nil, ↓dopsX_nil, ↓dopsR_nil, ↓vdn, vup, extr_20, extr_21, extr_30, extr_31, extr_32, List.map_cons, List.map_nil, cond_true, cond_false, aop, aThen, aBlock, argEnv, ev, sput, sputO, binK, binI, unK, builtinK, pickK, Nat.reduceBEq, Nat.reduceAdd, Int.reduceBEq, Int.reduceBNe, Int.reduceLT, aPost, resK, tup, tyf, hor]
      refine hN16 [(0, v), (2, .bool false), (5, u), (7, vint ((a + (Am.bits p).length : Nat) : Int)), (8, vint (((2 ^ xs.length - 1) ^^^ left) ||| p : Nat)), (10, vint p), (50, w), (51, vint (prts xs).length), (52, vint j)] _ _ ?_ (by simp (maxSteps := 2000000) only [↓aw_region, ↓aw_skip, ↓aw_seq, ↓aw_block, ↓aw_exit, ↓aw_ret, ↓sops_nil, ↓sops_go, ↓dops_nil, ↓dopsX_nil, ↓dopsR_nil, ↓vdn, vup, extr_20, extr_21, extr_30, extr_31, extr_32, List.map_cons, List.map_nil, cond_true, cond_false, aop, aThen, aBlock, argEnv, ev, sput, sputO, binK, binI, unK, builtinK, pickK, Nat.reduceBEq, Nat.reduceAdd, Int.reduceBEq, Int.reduceBNe, Int.reduceLT, aPost, resK, tup, tyf])
      clear hN16
      try clear N16
      refine beat_loop hv2 ht p2 (by rw [p8] at hm2 ⊢; exact hm2) hbeat fun e he => ?_
      simp only [aBlock, aThen]
      refine hM [(0, v), (2, .bool false), (5, u), (7, vint ((a + (Am.bits p).length : Nat) : Int)), (8, vint (((2 ^ xs.length - 1) ^^^ left) ||| p : Nat)), (10, vint p), (50, w), (51, vint (prts xs).length), (52, vint j)] _ _ ?_ he
      refine aw_aws ?_
      simp (maxSteps := 2000000) only [s15, ↓aw_region, ↓aw_skip, ↓aw_seq, ↓aw_block, ↓aw_exit, ↓aw_ret, ↓sops_nil, ↓sops_go, ↓dops_nil, ↓dopsX_nil, ↓dopsR_nil, ↓vdn, vup, extr_20, extr_21, extr_30, extr_31, extr_32, List.map_cons, List.map_nil, cond_true, cond_false, aop, aThen, aBlock, argEnv, ev, sput, sputO, binK, binI, unK, builtinK, pickK, Nat.reduceBEq, Nat.reduceAdd, Int.reduceBEq, Int.reduceBNe, Int.reduceLT, aPost, resK, tup, tyf, add1 (show j < 9223372036854775807 by omega)]
      exact hQ2 _ _ _ ⟨(j + 1, a + (Am.bits p).length, left ^^^ p), ⟨hj', hT2⟩, by simp only; omega, by simp (maxSteps := 2000000) only [↓aw_region, ↓aw_skip, ↓aw_seq, ↓aw_block, ↓aw_exit, ↓aw_ret, ↓sops_nil, ↓sops_go, ↓dops_nil, ↓dopsX_nil, ↓dopsR_nil, ↓vdn, vup, extr_20, extr_21, extr_30, extr_31, extr_32, List.map_cons, List.map_nil, cond_true, cond_false, aop, aThen, aBlock, argEnv, ev, sput, sputO, binK, binI, unK, builtinK, pickK, Nat.reduceBEq, Nat.reduceAdd, Int.reduceBEq, Int.reduceBNe, Int.reduceLT, aPost, resK, tup, tyf, p8], rfl⟩
    · have ha := tgi_end ht hT (by omega)
      obtain rfl : j = (prts xs).length := by omega
      subst ha
      refine aws_cut fun Y hY => ?_
      simp (maxSteps := 2000000) only [s15, ↓aw_region, ↓aw_skip, ↓aw_seq, ↓aw_block, ↓aw_exit, ↓aw_ret, ↓sops_nil, ↓sops_go, ↓dops_nil, ↓dopsX_nil, ↓dopsR_nil, ↓vdn, vup, extr_20, extr_21, extr_30, extr_31, extr_32, List.map_cons, List.map_nil, cond_true, cond_false, aop, aThen, aBlock, argEnv, ev, sput, sputO, binK, binI, unK, builtinK, pickK, Nat.reduceBEq, Nat.reduceAdd, Int.reduceBEq, Int.reduceBNe, Int.reduceLT, aPost, resK, tup, tyf, Int.lt_irrefl]
      refine hY [(0, v), (2, .bool false), (5, u), (7, vint xs.length), (8, vint ((2 ^ xs.length - 1) ^^^ left : Nat)), (50, w), (51, vint (prts xs).length), (52, vint (prts xs).length), (53, .bool false)] _ _ ?_ (by simp (maxSteps := 2000000) only [↓aw_region, ↓aw_skip, ↓aw_seq, ↓aw_block, ↓aw_exit, ↓aw_ret, ↓sops_nil, ↓sops_go, ↓dops_nil, ↓dopsX_nil, ↓dopsR_nil, ↓vdn, vup, extr_20, extr_21, extr_30, extr_31, extr_32, List.map_cons, List.map_nil, cond_true, cond_false, aop, aThen, aBlock, argEnv, ev, sput, sputO, binK, binI, unK, builtinK, pickK, Nat.reduceBEq, Nat.reduceAdd, Int.reduceBEq, Int.reduceBNe, Int.reduceLT, aPost, resK, tup, tyf])
      clear hY
      try clear Y
      refine aw_aws ?_
      simp (maxSteps := 2000000) only [s15, ↓aw_region, ↓aw_skip, ↓aw_seq, ↓aw_block, ↓aw_exit, ↓aw_ret, ↓sops_nil, ↓sops_go, ↓dops_nil, ↓dopsX_nil, ↓dopsR_nil, ↓vdn, vup, extr_20, extr_21, extr_30, extr_31, extr_32, List.map_cons, List.map_nil, cond_true, cond_false, aop, aThen, aBlock, argEnv, ev, sput, sputO, binK, binI, unK, builtinK, pickK, Nat.reduceBEq, Nat.reduceAdd, Int.reduceBEq, Int.reduceBNe, Int.reduceLT, aPost, resK, tup, tyf]
      refine hQ2 _ _ _ (hQ _ _ _ ?_)
      simp (maxSteps := 2000000) only [s15, ↓aw_region, ↓aw_skip, ↓aw_seq, ↓aw_block, ↓aw_exit, ↓aw_ret, ↓sops_nil, ↓sops_go, ↓dops_nil, ↓dopsX_nil, ↓dopsR_nil, ↓vdn, vup, extr_20, extr_21, extr_30, extr_31, extr_32, List.map_cons, List.map_nil, cond_true, cond_false, aop, aThen, aBlock, argEnv, ev, sput, sputO, binK, binI, unK, builtinK, pickK, Nat.reduceBEq, Nat.reduceAdd, Int.reduceBEq, Int.reduceBNe, Int.reduceLT, aPost, resK, tup, tyf, if_true]
      refine hZ [(0, v), (2, .bool false), (5, u), (7, vint xs.length)] _ _ ?_ (by simp (maxSteps := 2000000) only [↓aw_region, ↓aw_skip, ↓aw_seq, ↓aw_block, ↓aw_exit, ↓aw_ret, ↓sops_nil, ↓sops_go, ↓dops_nil, ↓dopsX_nil, ↓dopsR_nil, ↓vdn, vup, extr_20, extr_21, extr_30, extr_31, extr_32, List.map_cons, List.map_nil, cond_true, cond_false, aop, aThen, aBlock, argEnv, ev, sput, sputO, binK, binI, unK, builtinK, pickK, Nat.reduceBEq, Nat.reduceAdd, Int.reduceBEq, Int.reduceBNe, Int.reduceLT, aPost, resK, tup, tyf])
      have heq : ((xs.length : Int) == (xs.length : Int)) = true := beq_self_eq_true _
      refine aws_cut fun N17 hN17 => ?_
      simp (maxSteps := 2000000) only [s15, ↓aw_region, ↓aw_skip, ↓aw_seq, ↓aw_block, ↓aw_exit, ↓aw_ret, ↓sops_nil, ↓sops_go, ↓dops_nil, ↓dopsX_nil, ↓dopsR_nil, ↓vdn, vup, extr_20, extr_21, extr_30, extr_31, extr_32, List.map_cons, List.map_nil, cond_true, cond_false, aop, aThen, aBlock, argEnv, ev, sput, sputO, binK, binI, unK, builtinK, pickK, Nat.reduceBEq, Nat.reduceAdd, Int.reduceBEq, Int.reduceBNe, Int.reduceLT, aPost, resK, tup, tyf, callK, List.nil_append, List.append_nil, List.toList_toArray, List.cons_append, hu2.len, hgl, heq]
      refine awk fun g _ => ?_
      refine hN17 [(0, v), (2, .bool true), (5, u), (7, vint xs.length)] _ _ ?_ (by simp (maxSteps := 2000000) only [↓aw_region, ↓aw_skip, ↓aw_seq, ↓aw_block, ↓aw_exit, ↓aw_ret, ↓sops_nil, ↓sops_go, ↓dops_nil, ↓dopsX_nil, ↓dopsR_nil, ↓vdn, vup, extr_20, extr_21, extr_30, extr_31, extr_32, List.map_cons, List.map_nil, cond_true, cond_false, aop, aThen, aBlock, argEnv, ev, sput, sputO, binK, binI, unK, builtinK, pickK, Nat.reduceBEq, Nat.reduceAdd, Int.reduceBEq, Int.reduceBNe, Int.reduceLT, aPost, resK, tup, tyf])
      clear hN17
      try clear N17
      refine aw_aws ?_
      simp (maxSteps := 2000000) only [s15, ↓aw_region, ↓aw_skip, ↓aw_seq, ↓aw_block, ↓aw_exit, ↓aw_ret, ↓sops_nil, ↓sops_go, ↓dops_nil, ↓dopsX_nil, ↓dopsR_nil, ↓vdn, vup, extr_20, extr_21, extr_30, extr_31, extr_32, List.map_cons, List.map_nil, cond_true, cond_false, aop, aThen, aBlock, argEnv, ev, sput, sputO, binK, binI, unK, builtinK, pickK, Nat.reduceBEq, Nat.reduceAdd, Int.reduceBEq, Int.reduceBNe, Int.reduceLT, aPost, resK, tup, tyf]
end Go.Proofs.Tryd.Am
