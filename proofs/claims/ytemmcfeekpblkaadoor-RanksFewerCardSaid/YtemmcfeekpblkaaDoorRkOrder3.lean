/-
  ranks: the first best order, read out of the table; Order.
-/
import Derived.Test.YtemmcfeekpblkaaDoorRkOrder2
set_option linter.all false
namespace Go.Proofs.Tryd.Am
open Go.Am Redei Rb
set_option maxRecDepth 100000
set_option maxHeartbeats 1000000

theorem find_first {p : Nat → Bool} {pre suf : List Nat} {x : Nat} (hpre : ∀ y ∈ pre, p y = false) (hx : p x = true) : (pre ++ [x] ++ suf).find? p = some x := by
  rw [List.append_assoc, List.find?_append]
  have : pre.find? p = none := List.find?_eq_none.2 fun y hy => by rw [hpre y hy]; decide
  rw [this]
  simp [hx]
theorem pick_loop [BitTab prog 1] {h : Heap} {gv : Value} {xs : List Int} {M : Nat} (hv : IntSl h gv xs) (ht : trn xs = true) (hM : 2 ^ xs.length = M) {N : Env → Heap → Prop} {Q0 : Exit → Env → Heap → Prop} {T : List Nat} {H : Heap} {b9 c10 : Nat}
    (o0 : OB h H gv M T) (hT : TOk xs M 0 T) (h9 : H[b9]? = some (.cells [.slice none 0 0] 22 false)) (h10 : H[c10]? = some (.cells [.int .i64 0] 3 false)) (hl9 : h.length + 4 ≤ b9) (hl10 : b9 < c10)
    (hN : ∀ hp ov e, Ext (fun _ => False) h hp → hp[b9]? = some (.cells [ov] 22 false) → OwnSl 3 hp ov (iL (gr (cst xs) xs.length xs.length 0)) → ELe e [(2, .slice none 0 0), (3, .int .i64 0), (9, pt b9)] → N e hp) :
    AWS prog 84 (.block 4 (.loop l38_3)) (aThen N Q0) [(1, pt h.length), (2, .slice none 0 0), (3, .int .i64 0), (4, gv), (5, pt (h.length + 2)), (6, pt (h.length + 3)), (9, pt b9), (10, pt c10)] H := by
  have hnn : ∀ i : Nat, (0 : Int) ≤ (i : Int) := Int.natCast_nonneg
  have hxl : 1 ≤ xs.length ∧ xs.length ≤ 8 := by simp only [trn, Bool.and_eq_true, decide_eq_true_eq] at ht; omega
  have h256 := pow8N hxl.2
  have hp0 := Nat.two_pow_pos xs.length
  rw [hM] at h256 hp0
  have hf0 : (fr xs.length 0).length = xs.length := by rw [fr, List.filter_eq_self.2 (fun i _ => by simp), List.length_range]
  have hbne : ∀ a b : Nat, (((a : Nat) : Int) != ((b : Nat) : Int)) = !(a == b) := fun a b => by rw [Bool.eq_iff_iff, bne_iff_ne, Bool.not_eq_true', beq_eq_false_iff_ne]; omega
  refine aws_block ?_
  refine aws_hide fun Q hQ => ?_
  refine aw_loopW (γ := Nat × Nat × List Nat × Heap × Value × Nat) (fun s => s.2.1 < M ∧ (fr xs.length s.2.1).length = s.1 ∧ s.2.2.1 ++ gr (cst xs) xs.length s.1 s.2.1 = gr (cst xs) xs.length xs.length 0 ∧ s.2.2.1.length + s.1 = xs.length ∧
      OB h s.2.2.2.1 gv M T ∧ s.2.2.2.1[b9]? = some (.cells [s.2.2.2.2.1] 22 false) ∧ OwnSl 3 s.2.2.2.1 s.2.2.2.2.1 (iL s.2.2.1) ∧ s.2.2.2.1[s.2.2.2.2.2]? = some (.cells [vint s.2.1] 3 false) ∧ b9 < s.2.2.2.2.2 ∧ (∀ b, blkOf s.2.2.2.2.1 = some b → h.length + 4 ≤ b))
    (fun s => ([(1, pt h.length), (2, .slice none 0 0), (3, .int .i64 0), (4, gv), (5, pt (h.length + 2)), (6, pt (h.length + 3)), (9, pt b9), (10, pt s.2.2.2.2.2)], s.2.2.2.1)) (fun s => s.1) (xs.length, 0, [], H, .slice none 0 0, c10) ⟨hp0, hf0, rfl, by simp, o0, h9, .inl ⟨rfl, rfl⟩, h10, hl10, fun b hb => by cases hb⟩ (by simp (config := {maxSteps := 2000000}) only [↓aw_region, ↓aw_skip, ↓aw_seq, ↓aw_block, ↓aw_exit, ↓aw_ret, ↓sops_nil, ↓sops_go, ↓dops_nil, ↓dopsX_nil, ↓dopsR_nil, ↓vdn, vup, extr_20, extr_21, extr_30, extr_31, extr_32, List.map_cons, List.map_nil, cond_true, cond_false, aop, aThen, aBlock, argEnv, ev, sput, sputO, binK, binI, unK, builtinK, pickK, Nat.reduceBEq, Nat.reduceAdd, Int.reduceBEq, Int.reduceBNe, Int.reduceLT, aPost, resK, tup, tyf]) rfl ?_
  rintro ⟨k, s, O, hp, ov, b10⟩ ⟨hsM, hk, hgr, hOl, o, hb9, hov, hb10, hl10, hbk⟩
  simp only at hsM hk hgr hOl o hb9 hov hb10 hl10 hbk
  refine aws_hide fun Q2 hQ2 => ?_
  simp only [l38_3]
  have hsn : s < 2 ^ xs.length := by rw [hM]; exact hsM
  have hvp := IntSl_ext hv o.E
  have hac : APure prog 63 [gv] hp (vint ((M - 1 : Nat) : Int)) := by have := all_call hvp hxl.2; rw [hM] at this; exact this
  cases k with
  | zero =>
    have hs1 := (fr_full hM hsM).1 (List.length_eq_zero_iff.1 hk)
    have hsb : (s == M - 1) = true := beq_iff_eq.2 hs1
    refine aws_cut fun N1 hN1 => ?_
    simp (config := {maxSteps := 2000000}) only [s38, ↓aw_region, ↓aw_skip, ↓aw_seq, ↓aw_block, ↓aw_exit, ↓aw_ret, ↓sops_nil, ↓sops_go, ↓dops_nil, ↓dopsX_nil, ↓dopsR_nil, ↓vdn, vup, extr_20, extr_21, extr_30, extr_31, extr_32, List.map_cons, List.map_nil, cond_true, cond_false, aop, aThen, aBlock, argEnv, ev, sput, sputO, binK, binI, unK, builtinK, pickK, Nat.reduceBEq, Nat.reduceAdd, Int.reduceBEq, Int.reduceBNe, Int.reduceLT, aPost, resK, tup, tyf]
    refine aw_drawX [(2, 1)] (by kernel_rfl) (by kernel_rfl) (by kernel_rfl) (by kernel_rfl) ?_
    simp (config := {maxSteps := 2000000}) only [s38, ↓aw_region, ↓aw_skip, ↓aw_seq, ↓aw_block, ↓aw_exit, ↓aw_ret, ↓sops_nil, ↓sops_go, ↓dops_nil, ↓dopsX_nil, ↓dopsR_nil, ↓vdn, vup, extr_20, extr_21, extr_30, extr_31, extr_32, List.map_cons, List.map_nil, cond_true, cond_false, aop, aThen, aBlock, argEnv, ev, sput, sputO, builtinK, Nat.reduceBEq, Nat.reduceAdd, Int.reduceBEq, Int.reduceBNe, Int.reduceLT, aPost, resK, tup, tyf, load1 hb10 shp_3, callK, List.nil_append, List.append_nil, List.toList_toArray, List.cons_append]
    refine ⟨_, _, hac, rfl, ?_⟩
    simp (config := {maxSteps := 2000000}) only [s38, ↓aw_region, ↓aw_skip, ↓aw_seq, ↓aw_block, ↓aw_exit, ↓aw_ret, ↓sops_nil, ↓sops_go, ↓dops_nil, ↓dopsX_nil, ↓dopsR_nil, ↓vdn, vup, extr_20, extr_21, extr_30, extr_31, extr_32, List.map_cons, List.map_nil, cond_true, cond_false, aop, aThen, aBlock, argEnv, ev, sput, sputO, binK, binI, unK, builtinK, pickK, Nat.reduceBEq, Nat.reduceAdd, Int.reduceBEq, Int.reduceBNe, Int.reduceLT, aPost, resK, tup, tyf, hbne, hsb, Bool.not_true]
    refine hQ2 _ _ _ (hQ _ _ _ ?_)
    simp (config := {maxSteps := 2000000}) only [s38, ↓aw_region, ↓aw_skip, ↓aw_seq, ↓aw_block, ↓aw_exit, ↓aw_ret, ↓sops_nil, ↓sops_go, ↓dops_nil, ↓dopsX_nil, ↓dopsR_nil, ↓vdn, vup, extr_20, extr_21, extr_30, extr_31, extr_32, List.map_cons, List.map_nil, cond_true, cond_false, aop, aThen, aBlock, argEnv, ev, sput, sputO, binK, binI, unK, builtinK, pickK, Nat.reduceBEq, Nat.reduceAdd, Int.reduceBEq, Int.reduceBNe, Int.reduceLT, aPost, resK, tup, tyf, if_true]
    rw [gr, List.append_nil] at hgr
    rw [hgr] at hov
    exact hN hp ov _ o.E hb9 hov (by simp (config := {maxSteps := 2000000}) only [↓aw_region, ↓aw_skip, ↓aw_seq, ↓aw_block, ↓aw_exit, ↓aw_ret, ↓sops_nil, ↓sops_go, ↓dops_nil, ↓dopsX_nil, ↓dopsR_nil, ↓vdn, vup, extr_20, extr_21, extr_30, extr_31, extr_32, List.map_cons, List.map_nil, cond_true, cond_false, aop, aThen, aBlock, argEnv, ev, sput, sputO, binK, binI, unK, builtinK, pickK, Nat.reduceBEq, Nat.reduceAdd, Int.reduceBEq, Int.reduceBNe, Int.reduceLT, aPost, resK, tup, tyf])
  | succ k =>
  have hs1 : s ≠ M - 1 := fun e => by rw [(fr_full hM hsM).2 e] at hk; cases hk
  have hsb : (s == M - 1) = false := beq_eq_false_iff_ne.2 hs1
  obtain ⟨xf, hfind, hxf, hgx⟩ := gr_succ (cst_few hxl.2) hxl.2 hsn hk
  refine aws_cut fun N2 hN2 => ?_
  simp (config := {maxSteps := 2000000}) only [s38, ↓aw_region, ↓aw_skip, ↓aw_seq, ↓aw_block, ↓aw_exit, ↓aw_ret, ↓sops_nil, ↓sops_go, ↓dops_nil, ↓dopsX_nil, ↓dopsR_nil, ↓vdn, vup, extr_20, extr_21, extr_30, extr_31, extr_32, List.map_cons, List.map_nil, cond_true, cond_false, aop, aThen, aBlock, argEnv, ev, sput, sputO, binK, binI, unK, builtinK, pickK, Nat.reduceBEq, Nat.reduceAdd, Int.reduceBEq, Int.reduceBNe, Int.reduceLT, aPost, resK, tup, tyf]
  refine aw_drawX [(2, 1)] (by kernel_rfl) (by kernel_rfl) (by kernel_rfl) (by kernel_rfl) ?_
  simp (config := {maxSteps := 2000000}) only [s38, ↓aw_region, ↓aw_skip, ↓aw_seq, ↓aw_block, ↓aw_exit, ↓aw_ret, ↓sops_nil, ↓sops_go, ↓dops_nil, ↓dopsX_nil, ↓dopsR_nil, ↓vdn, vup, extr_20, extr_21, extr_30, extr_31, extr_32, List.map_cons, List.map_nil, cond_true, cond_false, aop, aThen, aBlock, argEnv, ev, sput, sputO, builtinK, Nat.reduceBEq, Nat.reduceAdd, Int.reduceBEq, Int.reduceBNe, Int.reduceLT, aPost, resK, tup, tyf, load1 hb10 shp_3, callK, List.nil_append, List.append_nil, List.toList_toArray, List.cons_append]
  refine ⟨_, _, hac, rfl, ?_⟩
  simp (config := {maxSteps := 2000000}) only [s38, ↓aw_region, ↓aw_skip, ↓aw_seq, ↓aw_block, ↓aw_exit, ↓aw_ret, ↓sops_nil, ↓sops_go, ↓dops_nil, ↓dopsX_nil, ↓dopsR_nil, ↓vdn, vup, extr_20, extr_21, extr_30, extr_31, extr_32, List.map_cons, List.map_nil, cond_true, cond_false, aop, aThen, aBlock, argEnv, ev, sput, sputO, binK, binI, unK, builtinK, pickK, Nat.reduceBEq, Nat.reduceAdd, Int.reduceBEq, Int.reduceBNe, Int.reduceLT, aPost, resK, tup, tyf, hbne, hsb, Bool.not_false]
  refine hN2 [(1, pt h.length), (2, .slice none 0 0), (3, .int .i64 0), (4, gv), (5, pt (h.length + 2)), (6, pt (h.length + 3)), (9, pt b9), (10, pt b10)] _ _ ?_ (by simp (config := {maxSteps := 2000000}) only [↓aw_region, ↓aw_skip, ↓aw_seq, ↓aw_block, ↓aw_exit, ↓aw_ret, ↓sops_nil, ↓sops_go, ↓dops_nil, ↓dopsX_nil, ↓dopsR_nil, ↓vdn, vup, extr_20, extr_21, extr_30, extr_31, extr_32, List.map_cons, List.map_nil, cond_true, cond_false, aop, aThen, aBlock, argEnv, ev, sput, sputO, binK, binI, unK, builtinK, pickK, Nat.reduceBEq, Nat.reduceAdd, Int.reduceBEq, Int.reduceBNe, Int.reduceLT, aPost, resK, tup, tyf])
  clear hN2
  try clear N2
  refine aws_cutW fun K hK => ?_
  refine aws_block ?_
  refine aws_cut fun N3 hN3 => ?_
  refine aw_drawX [(1, 1), (4, 4)] (by kernel_rfl) (by kernel_rfl) (by kernel_rfl) (by kernel_rfl) ?_
  simp (config := {maxSteps := 2000000}) only [s38, ↓aw_region, ↓aw_skip, ↓aw_seq, ↓aw_block, ↓aw_exit, ↓aw_ret, ↓sops_nil, ↓sops_go, ↓dops_nil, ↓dopsX_nil, ↓dopsR_nil, ↓vdn, vup, extr_20, extr_21, extr_30, extr_31, extr_32, List.map_cons, List.map_nil, cond_true, cond_false, aop, aThen, aBlock, argEnv, ev, sput, sputO, builtinK, Nat.reduceBEq, Nat.reduceAdd, Int.reduceBEq, Int.reduceBNe, Int.reduceLT, aPost, resK, tup, tyf, load1 hb10 shp_3, callK, List.nil_append, List.append_nil, List.toList_toArray, List.cons_append]
  refine ⟨_, _, hac, rfl, ?_⟩
  simp (config := {maxSteps := 2000000}) only [s38, ↓aw_region, ↓aw_skip, ↓aw_seq, ↓aw_block, ↓aw_exit, ↓aw_ret, ↓sops_nil, ↓sops_go, ↓dops_nil, ↓dopsX_nil, ↓dopsR_nil, ↓vdn, vup, extr_20, extr_21, extr_30, extr_31, extr_32, List.map_cons, List.map_nil, cond_true, cond_false, aop, aThen, aBlock, argEnv, ev, sput, sputO, builtinK, Nat.reduceBEq, Nat.reduceAdd, Int.reduceBEq, Int.reduceBNe, Int.reduceLT, aPost, resK, tup, tyf, load1 hb10 shp_3, band (show M - 1 < 9223372036854775808 by omega) (show s < 9223372036854775808 by omega), callK, List.nil_append, List.append_nil, List.toList_toArray, List.cons_append]
  refine players_call.mono ?_
  rintro v' h2 ⟨rfl, rfl⟩
  try simp (config := {maxSteps := 2000000}) only [s38, ↓aw_region, ↓aw_skip, ↓aw_seq, ↓aw_block, ↓aw_exit, ↓aw_ret, ↓sops_nil, ↓sops_go, ↓dops_nil, ↓dopsX_nil, ↓dopsR_nil, ↓vdn, vup, extr_20, extr_21, extr_30, extr_31, extr_32, List.map_cons, List.map_nil, cond_true, cond_false, aop, aThen, aBlock, argEnv, ev, sput, sputO, binK, binI, unK, builtinK, pickK, Nat.reduceBEq, Nat.reduceAdd, Int.reduceBEq, Int.reduceBNe, Int.reduceLT, aPost, resK, tup, tyf]
  refine hN3 [(1, pt h.length), (2, .slice none 0 0), (3, .int .i64 0), (4, gv), (5, pt (h.length + 2)), (6, pt (h.length + 3)), (9, pt b9), (10, pt b10), (63, .func (.func 93) #[] #[newPtr hp])] _ _ ?_ (by simp (config := {maxSteps := 2000000}) only [↓aw_region, ↓aw_skip, ↓aw_seq, ↓aw_block, ↓aw_exit, ↓aw_ret, ↓sops_nil, ↓sops_go, ↓dops_nil, ↓dopsX_nil, ↓dopsR_nil, ↓vdn, vup, extr_20, extr_21, extr_30, extr_31, extr_32, List.map_cons, List.map_nil, cond_true, cond_false, aop, aThen, aBlock, argEnv, ev, sput, sputO, binK, binI, unK, builtinK, pickK, Nat.reduceBEq, Nat.reduceAdd, Int.reduceBEq, Int.reduceBNe, Int.reduceLT, aPost, resK, tup, tyf])
  clear hN3
  try clear N3
  have hbl := bits_left hM (show xs.length ≤ 64 by omega) hsM
  have hll : less (M - 1) s < 2 ^ xs.length := less_lt (by rw [hM]; omega)
  have l9 := get_lt hb9
  have l10 := get_lt hb10
  have fin : ∀ (h3 : Heap) (ov2 : Value), OB h h3 gv M T → h3[b9]? = some (.cells [ov2] 22 false) → OwnSl 3 h3 ov2 (iL (O ++ [xf])) → h3[b10]? = some (.cells [vint (s ||| 2 ^ xf : Nat)] 3 false) → (∀ b, blkOf ov2 = some b → h.length + 4 ≤ b) →
      ∀ e, ELe e [(1, pt h.length), (2, .slice none 0 0), (3, .int .i64 0), (4, gv), (5, pt (h.length + 2)), (6, pt (h.length + 3)), (9, pt b9), (10, pt b10)] → K e h3 := by
    intro h3 ov2 o3 h39 hov3 h310 hbk3 e he
    refine hK [(1, pt h.length), (2, .slice none 0 0), (3, .int .i64 0), (4, gv), (5, pt (h.length + 2)), (6, pt (h.length + 3)), (9, pt b9), (10, pt b10)] _ _ ?_ he
    refine aw_aws ?_
    simp (config := {maxSteps := 2000000}) only [s38, ↓aw_region, ↓aw_skip, ↓aw_seq, ↓aw_block, ↓aw_exit, ↓aw_ret, ↓sops_nil, ↓sops_go, ↓dops_nil, ↓dopsX_nil, ↓dopsR_nil, ↓vdn, vup, extr_20, extr_21, extr_30, extr_31, extr_32, List.map_cons, List.map_nil, cond_true, cond_false, aop, aThen, aBlock, argEnv, ev, sput, sputO, binK, binI, unK, builtinK, pickK, Nat.reduceBEq, Nat.reduceAdd, Int.reduceBEq, Int.reduceBNe, Int.reduceLT, aPost, resK, tup, tyf, load1 h310 shp_3, allocK, newPtr, zero_3, Am.storeI (get_new _ _) shp_3, setLast]
    have hx := mem_fr.1 hxf
    have hput := fr_put hxf
    refine hQ2 _ _ _ ⟨(k, s ||| 2 ^ xf, O ++ [xf], h3 ++ [Blk.cells [vint (s ||| 2 ^ xf : Nat)] 3 false], ov2, h3.length), ⟨by rw [← hM]; exact put_lt hsn hx.1, by simp only; omega, ?_, by simp only; rw [List.length_append, List.length_singleton]; omega, o3.up (Ext.app _ _ _), get_old h39 _, ?_, get_new _ _, ?_, hbk3⟩, by simp only; omega, by simp (config := {maxSteps := 2000000}) only [↓aw_region, ↓aw_skip, ↓aw_seq, ↓aw_block, ↓aw_exit, ↓aw_ret, ↓sops_nil, ↓sops_go, ↓dops_nil, ↓dopsX_nil, ↓dopsR_nil, ↓vdn, vup, extr_20, extr_21, extr_30, extr_31, extr_32, List.map_cons, List.map_nil, cond_true, cond_false, aop, aThen, aBlock, argEnv, ev, sput, sputO, binK, binI, unK, builtinK, pickK, Nat.reduceBEq, Nat.reduceAdd, Int.reduceBEq, Int.reduceBNe, Int.reduceLT, aPost, resK, tup, tyf], rfl⟩
    · simp only
      rw [List.append_assoc, ← hgr, hgx]; rfl
    · exact hov3.ext (Ext.app (fun _ => False) _ _) fun _ _ => id
    · have := get_lt h310
      simp only; omega
  clear hK
  refine aws_block ?_
  refine aw_aws ?_
  refine aw_range bitIter (bx := hp.length) (s := less (M - 1) s) (et := 3) rfl (get_new _ _) (by omega) (fun pre hk => OB h hk gv M T ∧ hk[b9]? = some (.cells [ov] 22 false) ∧ OwnSl 3 hk ov (iL O) ∧ hk[b10]? = some (.cells [vint s] 3 false) ∧
    ∀ y ∈ pre, (fv (cst xs) xs.length k s y == rst (cst xs) xs.length (k + 1) s) = false) ?_ ?_ ?_
  · have hE : Ext (fun i => h.length + 4 ≤ i) hp ((hp ++ [Blk.cells [vint (less (M - 1) s : Nat)] 3 false]).set hp.length .dead) := (Ext.app _ _ _).trans (Ext.set _ (by omega))
    have keep : ∀ i, i < hp.length → ((hp ++ [Blk.cells [vint (less (M - 1) s : Nat)] 3 false]).set hp.length .dead)[i]? = hp[i]? := fun i hi => by
      rw [List.getElem?_set_ne (by omega), List.getElem?_append_left hi]
    exact ⟨o.up hE, (keep _ l9).trans hb9, hov.same fun b hb => keep b (hov.lt hb), (keep _ l10).trans hb10, fun y hy => by cases hy⟩
  · rintro pre x hk2 hpre ⟨o2, h29, hov2, h210, hno⟩
    rw [hbl] at hpre
    have hx := mem_pre hpre
    obtain ⟨hxn, hxs⟩ := mem_fr.1 hx
    have hsx : s ||| 2 ^ x < 2 ^ xs.length := put_lt hsn hxn
    have hput := fr_put hx
    have hTx : T.getD (s ||| 2 ^ x) 0 = rst (cst xs) xs.length k (s ||| 2 ^ x) := by
      rw [hT.1 _ (Nat.zero_le _) (by rw [← hM]; exact hsx), show (fr xs.length (s ||| 2 ^ x)).length = k by omega]
    have hTs : T.getD s 0 = rst (cst xs) xs.length (k + 1) s := by rw [hT.1 s (Nat.zero_le _) hsM, hk]
    have hcc : APure prog 75 [vint s, vint x, pt h.length, pt (h.length + 2)] hk2 (vint (fv (cst xs) xs.length k s x : Nat)) := by
      have := cost_call o2 hv ht hM hsM hxn (by have := hT.2 (s ||| 2 ^ x); omega)
      rw [hTx] at this; exact this
    simp (config := {maxSteps := 2000000}) only [s38, ↓aw_region, ↓aw_skip, ↓aw_seq, ↓aw_block, ↓aw_exit, ↓aw_ret, ↓sops_nil, ↓sops_go, ↓dops_nil, ↓dopsX_nil, ↓dopsR_nil, ↓vdn, vup, extr_20, extr_21, extr_30, extr_31, extr_32, List.map_cons, List.map_nil, cond_true, cond_false, aop, aThen, aBlock, argEnv, ev, sput, sputO, binK, binI, unK, builtinK, pickK, Nat.reduceBEq, Nat.reduceAdd, Int.reduceBEq, Int.reduceBNe, Int.reduceLT, aPost, resK, tup, tyf, r38_2_a, r38_2_b]
    refine aw_drawX [(3, 1)] (by kernel_rfl) (by kernel_rfl) (by kernel_rfl) (by kernel_rfl) ?_
    simp (config := {maxSteps := 2000000}) only [s38, ↓aw_region, ↓aw_skip, ↓aw_seq, ↓aw_block, ↓aw_exit, ↓aw_ret, ↓sops_nil, ↓sops_go, ↓dops_nil, ↓dopsX_nil, ↓dopsR_nil, ↓vdn, vup, extr_20, extr_21, extr_30, extr_31, extr_32, List.map_cons, List.map_nil, cond_true, cond_false, aop, aThen, aBlock, argEnv, ev, sput, sputO, builtinK, Nat.reduceBEq, Nat.reduceAdd, Int.reduceBEq, Int.reduceBNe, Int.reduceLT, aPost, resK, tup, tyf, load1 o2.b6 shp_69, load1 h210 shp_3, callK, List.nil_append, List.append_nil, List.toList_toArray, List.cons_append]
    refine ⟨_, _, hcc, rfl, ?_⟩
    cases heq : (fv (cst xs) xs.length k s x == rst (cst xs) xs.length (k + 1) s) with
    | false =>
      simp (config := {maxSteps := 2000000}) only [s38, ↓aw_region, ↓aw_skip, ↓aw_seq, ↓aw_block, ↓aw_exit, ↓aw_ret, ↓sops_nil, ↓sops_go, ↓dops_nil, ↓dopsX_nil, ↓dopsR_nil, ↓vdn, vup, extr_20, extr_21, extr_30, extr_31, extr_32, List.map_cons, List.map_nil, cond_true, cond_false, aop, aThen, aBlock, argEnv, ev, sput, sputO, binK, binI, unK, builtinK, pickK, Nat.reduceBEq, Nat.reduceAdd, Int.reduceBEq, Int.reduceBNe, Int.reduceLT, aPost, resK, tup, tyf, load1 o2.b5 shp_22, load1 h210 shp_3, tab_idx o2.bT o2.len hsM, tab_load o2.bT o2.len hsM, hTs, beqN, heq, rangeQ]
      refine ⟨o2, h29, hov2, h210, fun y hy => ?_⟩
      rcases List.mem_append.1 hy with hy | hy
      · exact hno y hy
      · rw [List.mem_singleton.1 hy]; exact heq
    | true =>
      have hxe : x = xf := by
        obtain ⟨suf, hsuf⟩ := hpre
        have := find_first (suf := suf) hno heq
        rw [hsuf, hfind] at this
        exact (Option.some.inj this).symm
      subst hxe
      have p2 : 2 ^ x ≤ 2 ^ 8 := Nat.pow_le_pow_right (by decide) (by omega)
      have hor : bitsV .or .i64 ((s : Nat) : Int) ((2 ^ x : Nat) : Int) = ((s ||| 2 ^ x : Nat) : Int) := bitsV_or (by omega) (by omega)
      simp (config := {maxSteps := 2000000}) only [s38, ↓aw_region, ↓aw_skip, ↓aw_seq, ↓aw_block, ↓aw_exit, ↓aw_ret, ↓sops_nil, ↓sops_go, ↓dops_nil, ↓dopsX_nil, ↓dopsR_nil, ↓vdn, vup, extr_20, extr_21, extr_30, extr_31, extr_32, List.map_cons, List.map_nil, cond_true, cond_false, aop, aThen, aBlock, argEnv, ev, sput, sputO, binK, binI, unK, builtinK, pickK, Nat.reduceBEq, Nat.reduceAdd, Int.reduceBEq, Int.reduceBNe, Int.reduceLT, aPost, resK, tup, tyf, load1 o2.b5 shp_22, load1 h210 shp_3, tab_idx o2.bT o2.len hsM, tab_load o2.bT o2.len hsM, hTs, beqN, heq, load1 h29 shp_22, litI1]
      have k9 := get_lt h29
      have k10 := get_lt h210
      refine (hov2.ext (Ext.app (fun _ => False) _ _) fun _ _ => id).append app_22_22 (by rw [iL_len]; omega) (get_new _ _) fun ov3 h3 ho3 hE3 hb3 => ?_
      rw [iL_snoc] at ho3
      have hE3' : Ext (fun i => blkOf ov = some i) hk2 h3 := (Ext.app _ _ _).trans hE3
      have h39 : h3[b9]? = some (.cells [ov] 22 false) := (hE3'.2 _ k9 (own_ne hov2 h29)).trans h29
      have h310 : h3[b10]? = some (.cells [vint s] 3 false) := (hE3'.2 _ k10 (own_ne hov2 h210)).trans h210
      have hbk3 : ∀ b, blkOf ov3 = some b → h.length + 4 ≤ b := fun b hb => by
        rcases hb3 with e | ⟨b', e, hle⟩
        · exact hbk b (e ▸ hb)
        · rw [e] at hb; cases hb
          rw [List.length_append] at hle; omega
      have h310' : (h3.set b9 (.cells [ov3] 22 false))[b10]? = some (.cells [vint s] 3 false) := by rw [List.getElem?_set_ne (by omega)]; exact h310
      simp (config := {maxSteps := 2000000}) only [s38, ↓aw_region, ↓aw_skip, ↓aw_seq, ↓aw_block, ↓aw_exit, ↓aw_ret, ↓sops_nil, ↓sops_go, ↓dops_nil, ↓dopsX_nil, ↓dopsR_nil, ↓vdn, vup, extr_20, extr_21, extr_30, extr_31, extr_32, List.map_cons, List.map_nil, cond_true, cond_false, aop, aThen, aBlock, argEnv, ev, sput, sputO, binK, binI, unK, builtinK, pickK, Nat.reduceBEq, Nat.reduceAdd, Int.reduceBEq, Int.reduceBNe, Int.reduceLT, aPost, resK, tup, tyf, store1 h39 shp_22 (own_one ho3)]
      refine aw_drawX [] (by kernel_rfl) (by kernel_rfl) (by kernel_rfl) (by kernel_rfl) ?_
      simp (config := {maxSteps := 2000000}) only [s38, ↓aw_region, ↓aw_skip, ↓aw_seq, ↓aw_block, ↓aw_exit, ↓aw_ret, ↓sops_nil, ↓sops_go, ↓dops_nil, ↓dopsX_nil, ↓dopsR_nil, ↓vdn, vup, extr_20, extr_21, extr_30, extr_31, extr_32, List.map_cons, List.map_nil, cond_true, cond_false, aop, aThen, aBlock, argEnv, ev, sput, sputO, binK, binI, unK, builtinK, pickK, Nat.reduceBEq, Nat.reduceAdd, Int.reduceBEq, Int.reduceBNe, Int.reduceLT, aPost, resK, tup, tyf, load1 h310' shp_3, hnn, shlI1 (show x ≤ 62 by omega), hor, Am.storeI h310' shp_3, rangeQ, Nat.reduceEqDiff, if_true, if_false]
      refine fin _ ov3 ((o2.up (hE3'.mono fun i hi => hbk i hi)).up ((Ext.set _ hl9).trans (Ext.set _ (by omega)))) ?_ ?_ (get_set (by rw [List.length_set]; exact get_lt h310) _) hbk3 _ (by simp (config := {maxSteps := 2000000}) only [↓aw_region, ↓aw_skip, ↓aw_seq, ↓aw_block, ↓aw_exit, ↓aw_ret, ↓sops_nil, ↓sops_go, ↓dops_nil, ↓dopsX_nil, ↓dopsR_nil, ↓vdn, vup, extr_20, extr_21, extr_30, extr_31, extr_32, List.map_cons, List.map_nil, cond_true, cond_false, aop, aThen, aBlock, argEnv, ev, sput, sputO, binK, binI, unK, builtinK, pickK, Nat.reduceBEq, Nat.reduceAdd, Int.reduceBEq, Int.reduceBNe, Int.reduceLT, aPost, resK, tup, tyf])
      · rw [List.getElem?_set_ne (by omega)]; exact get_set (get_lt h39) _
      · refine ho3.same fun b hb => ?_
        have n9 : blkOf ov3 ≠ some b9 := own_ne ho3 h39
        have n10 : blkOf ov3 ≠ some b10 := own_ne ho3 h310
        rw [List.getElem?_set_ne (fun e => n10 (by rw [hb, e])), List.getElem?_set_ne (fun e => n9 (by rw [hb, e]))]
  · rintro hk2 ⟨_, _, _, _, hno⟩
    rw [hbl] at hno
    obtain ⟨j, hj, he⟩ := rst_att (cst_few hxl.2) hxl.2 hsn hk
    have := hno j hj
    rw [he, beq_self_eq_true] at this; cases this

theorem s38_callW [Tabs Tryd.prog] {args : List Value} {h : Heap} {Q : Value → Heap → Prop} (hsz : args.length ≤ 84) (hk : AWS Tryd.prog 84 s38 (aPost Tryd.prog [.tmp 2, .tmp 3] Q) (argEnv 0 args) h) : ACall Tryd.prog 38 args h Q :=
  acall_w Tryd.func38 rfl (enters_of Tryd.func38 (by kernel_rfl) rfl) rfl rfl (by decide) s38_strip s38_ok hsz hk
theorem order_call [BitTab prog 1] {h : Heap} {v : Value} {xs : List Int} (hv : IntSl h v xs) (hl : xs.length < 9223372036854775808) (hx : ∀ x ∈ xs, -9223372036854775808 ≤ x ∧ x < 9223372036854775808) :
    ACall prog 38 [v] h fun r h' => Ext (fun _ => False) h h' ∧ if trn xs = true then ∃ u, r = .tuple #[u, .int .i64 0] ∧ OwnSl 3 h' u (iL (gr (cst xs) xs.length xs.length 0)) else r = .tuple #[.slice none 0 0, .int .i64 2] := by
  have hnn : ∀ i : Nat, (0 : Int) ≤ (i : Int) := Int.natCast_nonneg
  have slOne : one v = true := by
    rcases hv with ⟨rfl, _⟩ | ⟨b, o, sp, cap, c, e, ro, rfl, _⟩ <;> rfl
  have box22 : ∀ {K : Value → Heap → Prop}, boxK prog h 22 v K = K (newPtr h) (h ++ [.cells [v] 22 false]) := fun {K} => by
    rcases hv with ⟨rfl, _⟩ | ⟨b, o, sp, cap, c, e, ro, rfl, _⟩ <;> simp [boxK, esz_22, cellsOf]
  refine s38_callW (by simp) ?_
  simp only [s38]
  refine aws_cut fun N4 hN4 => ?_
  simp (config := {maxSteps := 2000000}) only [s38, ↓aw_region, ↓aw_skip, ↓aw_seq, ↓aw_block, ↓aw_exit, ↓aw_ret, ↓sops_nil, ↓sops_go, ↓dops_nil, ↓dopsX_nil, ↓dopsR_nil, ↓vdn, vup, extr_20, extr_21, extr_30, extr_31, extr_32, List.map_cons, List.map_nil, cond_true, cond_false, aop, aThen, aBlock, argEnv, ev, sput, sputO, binK, binI, unK, builtinK, pickK, Nat.reduceBEq, Nat.reduceAdd, Int.reduceBEq, Int.reduceBNe, Int.reduceLT, aPost, resK, tup, tyf, box22, newPtr]
  refine hN4 [(1, pt h.length), (2, .slice none 0 0), (3, .int .i64 0)] _ _ ?_ (by simp (config := {maxSteps := 2000000}) only [↓aw_region, ↓aw_skip, ↓aw_seq, ↓aw_block, ↓aw_exit, ↓aw_ret, ↓sops_nil, ↓sops_go, ↓dops_nil, ↓dopsX_nil, ↓dopsR_nil, ↓vdn, vup, extr_20, extr_21, extr_30, extr_31, extr_32, List.map_cons, List.map_nil, cond_true, cond_false, aop, aThen, aBlock, argEnv, ev, sput, sputO, binK, binI, unK, builtinK, pickK, Nat.reduceBEq, Nat.reduceAdd, Int.reduceBEq, Int.reduceBNe, Int.reduceLT, aPost, resK, tup, tyf])
  clear hN4
  try clear N4
  have hE0 : Ext (fun _ => False) h (h ++ [Blk.cells [v] 22 false]) := Ext.app _ _ _
  have b1 := get_new h (Blk.cells [v] 22 false)
  generalize hH0 : h ++ [Blk.cells [v] 22 false] = H0 at hE0 b1 ⊢
  have l0 : H0.length = h.length + 1 := by rw [← hH0]; simp
  clear hH0
  refine aws_cut fun N5 hN5 => ?_
  simp (config := {maxSteps := 2000000}) only [s38, ↓aw_region, ↓aw_skip, ↓aw_seq, ↓aw_block, ↓aw_exit, ↓aw_ret, ↓sops_nil, ↓sops_go, ↓dops_nil, ↓dopsX_nil, ↓dopsR_nil, ↓vdn, vup, extr_20, extr_21, extr_30, extr_31, extr_32, List.map_cons, List.map_nil, cond_true, cond_false, aop, aThen, aBlock, argEnv, ev, sput, sputO, binK, binI, unK, builtinK, pickK, Nat.reduceBEq, Nat.reduceAdd, Int.reduceBEq, Int.reduceBNe, Int.reduceLT, aPost, resK, tup, tyf, load1 b1 shp_22]
  refine hN5 [(1, pt h.length), (2, .slice none 0 0), (3, .int .i64 0), (4, v)] _ _ ?_ (by simp (config := {maxSteps := 2000000}) only [↓aw_region, ↓aw_skip, ↓aw_seq, ↓aw_block, ↓aw_exit, ↓aw_ret, ↓sops_nil, ↓sops_go, ↓dops_nil, ↓dopsX_nil, ↓dopsR_nil, ↓vdn, vup, extr_20, extr_21, extr_30, extr_31, extr_32, List.map_cons, List.map_nil, cond_true, cond_false, aop, aThen, aBlock, argEnv, ev, sput, sputO, binK, binI, unK, builtinK, pickK, Nat.reduceBEq, Nat.reduceAdd, Int.reduceBEq, Int.reduceBNe, Int.reduceLT, aPost, resK, tup, tyf])
  clear hN5
  try clear N5
  have hv0 := IntSl_ext hv hE0
  refine aws_cut fun N6 hN6 => ?_
  simp (config := {maxSteps := 2000000}) only [s38, ↓aw_region, ↓aw_skip, ↓aw_seq, ↓aw_block, ↓aw_exit, ↓aw_ret, ↓sops_nil, ↓sops_go, ↓dops_nil, ↓dopsX_nil, ↓dopsR_nil, ↓vdn, vup, extr_20, extr_21, extr_30, extr_31, extr_32, List.map_cons, List.map_nil, cond_true, cond_false, aop, aThen, aBlock, argEnv, ev, sput, sputO, binK, binI, unK, builtinK, pickK, Nat.reduceBEq, Nat.reduceAdd, Int.reduceBEq, Int.reduceBNe, Int.reduceLT, aPost, resK, tup, tyf, callK, List.nil_append, List.append_nil, List.toList_toArray, List.cons_append]
  refine (valid_call hv0 hl hx).mono ?_
  rintro _ H0 ⟨rfl, rfl⟩
  cases ht : trn xs with
  | false =>
    simp (config := {maxSteps := 2000000}) only [s38, ↓aw_region, ↓aw_skip, ↓aw_seq, ↓aw_block, ↓aw_exit, ↓aw_ret, ↓sops_nil, ↓sops_go, ↓dops_nil, ↓dopsX_nil, ↓dopsR_nil, ↓vdn, vup, extr_20, extr_21, extr_30, extr_31, extr_32, List.map_cons, List.map_nil, cond_true, cond_false, aop, aThen, aBlock, argEnv, ev, sput, sputO, binK, binI, unK, builtinK, pickK, Nat.reduceBEq, Nat.reduceAdd, Int.reduceBEq, Int.reduceBNe, Int.reduceLT, aPost, resK, tup, tyf, Bool.not_false]
    exact ⟨hE0, by simp⟩
  | true =>
  have hxl : 1 ≤ xs.length ∧ xs.length ≤ 8 := by simp only [trn, Bool.and_eq_true, decide_eq_true_eq] at ht; omega
  have h256 := pow8N hxl.2
  have h2n : 2 ^ 1 ≤ 2 ^ xs.length := Nat.pow_le_pow_right (by decide) hxl.1
  obtain ⟨M, hM⟩ : ∃ M, 2 ^ xs.length = M := ⟨_, rfl⟩
  have hsh : shlV .i64 1 (xs.length : Int) = ((M : Nat) : Int) := by rw [shlI1 (by omega), hM]
  rw [hM] at h256 h2n
  simp (config := {maxSteps := 2000000}) only [s38, ↓aw_region, ↓aw_skip, ↓aw_seq, ↓aw_block, ↓aw_exit, ↓aw_ret, ↓sops_nil, ↓sops_go, ↓dops_nil, ↓dopsX_nil, ↓dopsR_nil, ↓vdn, vup, extr_20, extr_21, extr_30, extr_31, extr_32, List.map_cons, List.map_nil, cond_true, cond_false, aop, aThen, aBlock, argEnv, ev, sput, sputO, binK, binI, unK, builtinK, pickK, Nat.reduceBEq, Nat.reduceAdd, Int.reduceBEq, Int.reduceBNe, Int.reduceLT, aPost, resK, tup, tyf, Bool.not_true]
  refine hN6 [(1, pt h.length), (2, .slice none 0 0), (3, .int .i64 0), (4, v)] _ _ ?_ (by simp (config := {maxSteps := 2000000}) only [↓aw_region, ↓aw_skip, ↓aw_seq, ↓aw_block, ↓aw_exit, ↓aw_ret, ↓sops_nil, ↓sops_go, ↓dops_nil, ↓dopsX_nil, ↓dopsR_nil, ↓vdn, vup, extr_20, extr_21, extr_30, extr_31, extr_32, List.map_cons, List.map_nil, cond_true, cond_false, aop, aThen, aBlock, argEnv, ev, sput, sputO, binK, binI, unK, builtinK, pickK, Nat.reduceBEq, Nat.reduceAdd, Int.reduceBEq, Int.reduceBNe, Int.reduceLT, aPost, resK, tup, tyf])
  clear hN6
  try clear N6
  refine aws_cut fun N7 hN7 => ?_
  have tcell := get_new (H0 ++ [Blk.ints (List.replicate M 0) 3 false]) (Blk.cells [.slice none 0 0] 22 false)
  simp (config := {maxSteps := 2000000}) only [s38, ↓aw_region, ↓aw_skip, ↓aw_seq, ↓aw_block, ↓aw_exit, ↓aw_ret, ↓sops_nil, ↓sops_go, ↓dops_nil, ↓dopsX_nil, ↓dopsR_nil, ↓vdn, vup, extr_20, extr_21, extr_30, extr_31, extr_32, List.map_cons, List.map_nil, cond_true, cond_false, aop, aThen, aBlock, argEnv, ev, sput, sputO, binK, binI, unK, builtinK, pickK, Nat.reduceBEq, Nat.reduceAdd, Int.reduceBEq, Int.reduceBNe, Int.reduceLT, aPost, resK, tup, tyf, load1 b1 shp_22, hv0.len, hnn, hsh, makeI el_22 zero_3 info_3 (Int.natCast_nonneg M) (show ((M : Nat) : Int) ≤ 35184372088832 by omega), Int.toNat_natCast, allocK, newPtr, zero_22, store1 tcell shp_22 (show one (tv H0.length M) = true from rfl), setLast]
  refine hN7 [(1, pt h.length), (2, .slice none 0 0), (3, .int .i64 0), (4, v), (5, pt (H0 ++ [Blk.ints (List.replicate M 0) 3 false]).length)] _ _ ?_ (by simp (config := {maxSteps := 2000000}) only [↓aw_region, ↓aw_skip, ↓aw_seq, ↓aw_block, ↓aw_exit, ↓aw_ret, ↓sops_nil, ↓sops_go, ↓dops_nil, ↓dopsX_nil, ↓dopsR_nil, ↓vdn, vup, extr_20, extr_21, extr_30, extr_31, extr_32, List.map_cons, List.map_nil, cond_true, cond_false, aop, aThen, aBlock, argEnv, ev, sput, sputO, binK, binI, unK, builtinK, pickK, Nat.reduceBEq, Nat.reduceAdd, Int.reduceBEq, Int.reduceBNe, Int.reduceLT, aPost, resK, tup, tyf])
  clear hN7
  try clear N7
  refine aws_cut fun N8 hN8 => ?_
  simp (config := {maxSteps := 2000000}) only [s38, ↓aw_region, ↓aw_skip, ↓aw_seq, ↓aw_block, ↓aw_exit, ↓aw_ret, ↓sops_nil, ↓sops_go, ↓dops_nil, ↓dopsX_nil, ↓dopsR_nil, ↓vdn, vup, extr_20, extr_21, extr_30, extr_31, extr_32, List.map_cons, List.map_nil, cond_true, cond_false, aop, aThen, aBlock, argEnv, ev, sput, sputO, binK, binI, unK, builtinK, pickK, Nat.reduceBEq, Nat.reduceAdd, Int.reduceBEq, Int.reduceBNe, Int.reduceLT, aPost, resK, tup, tyf, List.map_toArray, allocK, newPtr, zero_69, Am.storeF (get_new _ _) shp_69, setLast]
  refine hN8 [(1, pt h.length), (2, .slice none 0 0), (3, .int .i64 0), (4, v), (5, pt (H0 ++ [Blk.ints (List.replicate M 0) 3 false]).length), (6, pt (H0 ++ [Blk.ints (List.replicate M 0) 3 false] ++ [Blk.cells [tv H0.length M] 22 false]).length)] _ _ ?_ (by simp (config := {maxSteps := 2000000}) only [↓aw_region, ↓aw_skip, ↓aw_seq, ↓aw_block, ↓aw_exit, ↓aw_ret, ↓sops_nil, ↓sops_go, ↓dops_nil, ↓dopsX_nil, ↓dopsR_nil, ↓vdn, vup, extr_20, extr_21, extr_30, extr_31, extr_32, List.map_cons, List.map_nil, cond_true, cond_false, aop, aThen, aBlock, argEnv, ev, sput, sputO, binK, binI, unK, builtinK, pickK, Nat.reduceBEq, Nat.reduceAdd, Int.reduceBEq, Int.reduceBNe, Int.reduceLT, aPost, resK, tup, tyf])
  clear hN8
  try clear N8
  have e1 : (H0 ++ [Blk.ints (List.replicate M 0) 3 false]).length = h.length + 2 := by simp [l0]
  have e2 : (H0 ++ [Blk.ints (List.replicate M 0) 3 false] ++ [Blk.cells [tv H0.length M] 22 false]).length = h.length + 3 := by simp [l0]
  have hrep : List.replicate M (0 : Int) = iL (List.replicate M 0) := by simp [iL]
  rw [e1, e2, l0, hrep]
  generalize hG : H0 ++ [Blk.ints (iL (List.replicate M 0)) 3 false] ++ [Blk.cells [tv (h.length + 1) M] 22 false] ++ [Blk.cells [.func (.func 75) #[] #[pt h.length, pt (h.length + 2)]] 69 false] = G
  have hGl : G.length = h.length + 4 := by rw [← hG]; simp [l0]
  have o0 : OB h G v M (List.replicate M 0) := by
    rw [← hG]
    refine ⟨get_old (get_old (get_old b1 _) _) _, ?_, ?_, ?_, ((hE0.trans (Ext.app _ _ _)).trans (Ext.app _ _ _)).trans (Ext.app _ _ _), by simp⟩
    · rw [← l0]; exact get_old (get_old (get_new _ _) _) _
    · have := get_new (H0 ++ [Blk.ints (iL (List.replicate M 0)) 3 false]) (Blk.cells [tv (h.length + 1) M] 22 false)
      rw [List.length_append, List.length_singleton, l0] at this
      exact get_old this _
    · have := get_new (H0 ++ [Blk.ints (iL (List.replicate M 0)) 3 false] ++ [Blk.cells [tv (h.length + 1) M] 22 false]) (Blk.cells [.func (.func 75) #[] #[pt h.length, pt (h.length + 2)]] 69 false)
      rw [List.length_append, List.length_append, List.length_singleton, List.length_singleton, l0] at this
      exact this
  clear hG tcell
  have hv1 := IntSl_ext hv o0.E
  have hT0 : TOk xs M (M - 1) (List.replicate M 0) := by
    have hz : ∀ s, (List.replicate M 0).getD s 0 = 0 := fun s => by
      rw [List.getD, List.getElem?_replicate]; split <;> rfl
    refine ⟨fun s h1 h2 => ?_, fun s => by rw [hz]; omega⟩
    rw [hz, (fr_full hM h2).2 (by omega)]; rfl
  have hsub : subV .i64 ((M - 1 : Nat) : Int) 1 = ((M - 1 : Nat) : Int) - 1 := subV_id (by omega) (by omega)
  refine aws_cutW fun Z hZ => ?_
  refine aws_cut fun N9 hN9 => ?_
  simp (config := {maxSteps := 2000000}) only [s38, ↓aw_region, ↓aw_skip, ↓aw_seq, ↓aw_block, ↓aw_exit, ↓aw_ret, ↓sops_nil, ↓sops_go, ↓dops_nil, ↓dopsX_nil, ↓dopsR_nil, ↓vdn, vup, extr_20, extr_21, extr_30, extr_31, extr_32, List.map_cons, List.map_nil, cond_true, cond_false, aop, aThen, aBlock, argEnv, ev, sput, sputO, binK, binI, unK, builtinK, pickK, Nat.reduceBEq, Nat.reduceAdd, Int.reduceBEq, Int.reduceBNe, Int.reduceLT, aPost, resK, tup, tyf, callK, List.nil_append, List.append_nil, List.toList_toArray, List.cons_append]
  refine ((show APure prog 63 [v] G (vint ((M - 1 : Nat) : Int)) by have := all_call hv1 hxl.2; rw [hM] at this; exact this)).mono ?_
  rintro _ G ⟨rfl, rfl⟩
  simp (config := {maxSteps := 2000000}) only [s38, ↓aw_region, ↓aw_skip, ↓aw_seq, ↓aw_block, ↓aw_exit, ↓aw_ret, ↓sops_nil, ↓sops_go, ↓dops_nil, ↓dopsX_nil, ↓dopsR_nil, ↓vdn, vup, extr_20, extr_21, extr_30, extr_31, extr_32, List.map_cons, List.map_nil, cond_true, cond_false, aop, aThen, aBlock, argEnv, ev, sput, sputO, binK, binI, unK, builtinK, pickK, Nat.reduceBEq, Nat.reduceAdd, Int.reduceBEq, Int.reduceBNe, Int.reduceLT, aPost, resK, tup, tyf, hsub, allocK, newPtr, zero_3, Am.storeI (get_new _ _) shp_3, setLast]
  refine hN9 [(1, pt h.length), (2, .slice none 0 0), (3, .int .i64 0), (4, v), (5, pt (h.length + 2)), (6, pt (h.length + 3)), (7, pt G.length)] _ _ ?_ (by simp (config := {maxSteps := 2000000}) only [↓aw_region, ↓aw_skip, ↓aw_seq, ↓aw_block, ↓aw_exit, ↓aw_ret, ↓sops_nil, ↓sops_go, ↓dops_nil, ↓dopsX_nil, ↓dopsR_nil, ↓vdn, vup, extr_20, extr_21, extr_30, extr_31, extr_32, List.map_cons, List.map_nil, cond_true, cond_false, aop, aThen, aBlock, argEnv, ev, sput, sputO, binK, binI, unK, builtinK, pickK, Nat.reduceBEq, Nat.reduceAdd, Int.reduceBEq, Int.reduceBNe, Int.reduceLT, aPost, resK, tup, tyf])
  clear hN9
  try clear N9
  refine fill_loop hv ht hM (o0.up (Ext.app _ _ _)) hT0 (get_new G _) (by omega) ?_
  intro hp T e o hT he
  refine hZ [(1, pt h.length), (2, .slice none 0 0), (3, .int .i64 0), (4, v), (5, pt (h.length + 2)), (6, pt (h.length + 3))] _ _ ?_ he
  clear hZ he
  refine aws_cut fun N10 hN10 => ?_
  simp (config := {maxSteps := 2000000}) only [s38, ↓aw_region, ↓aw_skip, ↓aw_seq, ↓aw_block, ↓aw_exit, ↓aw_ret, ↓sops_nil, ↓sops_go, ↓dops_nil, ↓dopsX_nil, ↓dopsR_nil, ↓vdn, vup, extr_20, extr_21, extr_30, extr_31, extr_32, List.map_cons, List.map_nil, cond_true, cond_false, aop, aThen, aBlock, argEnv, ev, sput, sputO, binK, binI, unK, builtinK, pickK, Nat.reduceBEq, Nat.reduceAdd, Int.reduceBEq, Int.reduceBNe, Int.reduceLT, aPost, resK, tup, tyf, allocK, newPtr, zero_22]
  refine hN10 [(1, pt h.length), (2, .slice none 0 0), (3, .int .i64 0), (4, v), (5, pt (h.length + 2)), (6, pt (h.length + 3)), (9, pt hp.length)] _ _ ?_ (by simp (config := {maxSteps := 2000000}) only [↓aw_region, ↓aw_skip, ↓aw_seq, ↓aw_block, ↓aw_exit, ↓aw_ret, ↓sops_nil, ↓sops_go, ↓dops_nil, ↓dopsX_nil, ↓dopsR_nil, ↓vdn, vup, extr_20, extr_21, extr_30, extr_31, extr_32, List.map_cons, List.map_nil, cond_true, cond_false, aop, aThen, aBlock, argEnv, ev, sput, sputO, binK, binI, unK, builtinK, pickK, Nat.reduceBEq, Nat.reduceAdd, Int.reduceBEq, Int.reduceBNe, Int.reduceLT, aPost, resK, tup, tyf])
  clear hN10
  try clear N10
  have l4 : h.length + 4 ≤ hp.length := by have := get_lt o.b6; omega
  refine aws_cutW fun Z hZ => ?_
  refine aws_cut fun N11 hN11 => ?_
  simp (config := {maxSteps := 2000000}) only [s38, ↓aw_region, ↓aw_skip, ↓aw_seq, ↓aw_block, ↓aw_exit, ↓aw_ret, ↓sops_nil, ↓sops_go, ↓dops_nil, ↓dopsX_nil, ↓dopsR_nil, ↓vdn, vup, extr_20, extr_21, extr_30, extr_31, extr_32, List.map_cons, List.map_nil, cond_true, cond_false, aop, aThen, aBlock, argEnv, ev, sput, sputO, binK, binI, unK, builtinK, pickK, Nat.reduceBEq, Nat.reduceAdd, Int.reduceBEq, Int.reduceBNe, Int.reduceLT, aPost, resK, tup, tyf, allocK, newPtr, zero_3, Am.storeI (get_new _ _) shp_3, setLast]
  refine hN11 [(1, pt h.length), (2, .slice none 0 0), (3, .int .i64 0), (4, v), (5, pt (h.length + 2)), (6, pt (h.length + 3)), (9, pt hp.length), (10, pt (hp ++ [Blk.cells [.slice none 0 0] 22 false]).length)] _ _ ?_ (by simp (config := {maxSteps := 2000000}) only [↓aw_region, ↓aw_skip, ↓aw_seq, ↓aw_block, ↓aw_exit, ↓aw_ret, ↓sops_nil, ↓sops_go, ↓dops_nil, ↓dopsX_nil, ↓dopsR_nil, ↓vdn, vup, extr_20, extr_21, extr_30, extr_31, extr_32, List.map_cons, List.map_nil, cond_true, cond_false, aop, aThen, aBlock, argEnv, ev, sput, sputO, binK, binI, unK, builtinK, pickK, Nat.reduceBEq, Nat.reduceAdd, Int.reduceBEq, Int.reduceBNe, Int.reduceLT, aPost, resK, tup, tyf])
  clear hN11
  try clear N11
  refine pick_loop hv ht hM ((o.up (Ext.app _ _ _)).up (Ext.app _ _ _)) hT (get_old (get_new hp _) _) (get_new _ _) l4 (by simp) ?_
  intro h5 ov e hE5 h59 hov he
  refine hZ [(2, .slice none 0 0), (3, .int .i64 0), (9, pt hp.length)] _ _ ?_ he
  clear hZ he
  refine aw_aws ?_
  simp (config := {maxSteps := 2000000}) only [s38, ↓aw_region, ↓aw_skip, ↓aw_seq, ↓aw_block, ↓aw_exit, ↓aw_ret, ↓sops_nil, ↓sops_go, ↓dops_nil, ↓dopsX_nil, ↓dopsR_nil, ↓vdn, vup, extr_20, extr_21, extr_30, extr_31, extr_32, List.map_cons, List.map_nil, cond_true, cond_false, aop, aThen, aBlock, argEnv, ev, sput, sputO, binK, binI, unK, builtinK, pickK, Nat.reduceBEq, Nat.reduceAdd, Int.reduceBEq, Int.reduceBNe, Int.reduceLT, aPost, resK, tup, tyf, load1 h59 shp_22]
  refine ⟨hE5, ?_⟩
  rw [if_pos ht]
  exact ⟨ov, rfl, hov⟩
end Go.Proofs.Tryd.Am
