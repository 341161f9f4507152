/-
  ranks: the cycles; whether a set has one; how many a set has.
-/
import Derived.Test.YtemmcfeekpblkaaDoorRkLess
import Derived.Test.YtemmcfeekpblkaaDoorFnD
set_option linter.all false
namespace Go.Proofs.Tryd.Am
open Go.Am
set_option maxRecDepth 100000
set_option maxHeartbeats 1000000

/-- The cycles under way: t's box and the list's box; what lay before lies as it lay. -/
structure CS (h : Heap) (n : Nat) (v : Value) (hp : Heap) (ov : Value) (ts : List T3) : Prop where
  t : hp[n]? = some (.cells [v] 55 false)
  o : hp[n + 1]? = some (.cells [ov] 36 false)
  own : OwnT 40 hp ov ts
  blk : ∀ b, blkOf ov = some b → n + 2 ≤ b
  ext : Ext (fun _ => False) h hp
  len : h.length = n
/-- What a part of the run may touch. -/
def cS (n : Nat) (ov : Value) (i : Nat) : Prop := i = n + 1 ∨ blkOf ov = some i
def Mv (n : Nat) (ov : Value) (h : Heap) (ov' : Value) (h' : Heap) : Prop := Ext (cS n ov) h h' ∧ (blkOf ov' = blkOf ov ∨ ∃ b, blkOf ov' = some b ∧ h.length ≤ b)
section
variable {h hp hq : Heap} {n : Nat} {v ov ov' ov2 : Value} {ts : List T3}
theorem _root_.Go.Am.OwnT.notCells {e e2 : TypeId} {c : List Value} {ro : Bool} {j : Nat} (ho : OwnT e hp v ts) (hj : hp[j]? = some (.cells c e2 ro)) : blkOf v ≠ some j := fun hb => by
  obtain ⟨ys, hy⟩ := ho.ints hb
  rw [hj] at hy; cases hy
theorem CS.new (s : CS h n v hp ov ts) (hE : Ext (fun _ => False) hp hq) : CS h n v hq ov ts :=
  ⟨(hE.2 _ (get_lt s.t) id).trans s.t, (hE.2 _ (get_lt s.o) id).trans s.o, s.own.ext hE, s.blk, s.ext.trans hE, s.len⟩
theorem Mv.new (hE : Ext (fun _ => False) hp hq) : Mv n ov hp ov hq := ⟨hE.mono fun _ h => h.elim, .inl rfl⟩
theorem Mv.trans (a : Mv n ov h ov' hp) (b : Mv n ov' hp ov2 hq) (hn : n + 1 < h.length) : Mv n ov h ov2 hq := by
  have hl := a.1.1
  refine ⟨⟨Nat.le_trans hl b.1.1, fun i hi hs => ?_⟩, ?_⟩
  · rw [b.1.2 i (by omega) ?_, a.1.2 i hi hs]
    rintro (h1 | h1)
    · exact hs (.inl h1)
    · rcases a.2 with h2 | ⟨b', h2, h3⟩
      · exact hs (.inr (h2 ▸ h1))
      · rw [h2] at h1; cases h1; omega
  · rcases b.2 with h1 | ⟨b', h1, h2⟩
    · rw [h1]; exact a.2
    · exact .inr ⟨b', h1, by omega⟩
theorem Mv.box (m : Mv n ov hp ov' hq) (s : CS h n v hp ov ts) {j : Nat} {c : List Value} {e : TypeId} {ro : Bool} (hj : hp[j]? = some (.cells c e ro)) (hn : n + 2 ≤ j) : hq[j]? = some (.cells c e ro) := by
  rw [m.1.2 j (get_lt hj) ?_]
  · exact hj
  · rintro (h1 | h1)
    · omega
    · exact s.own.notCells hj h1
/-- One cycle more. -/
theorem CS.push (s : CS h n v hp ov ts) {t : T3} (hE : Ext (fun i => blkOf ov = some i) hp hq) (ho : OwnT 40 hq ov' (ts ++ [t])) (hb : blkOf ov' = blkOf ov ∨ ∃ b, blkOf ov' = some b ∧ hp.length ≤ b) :
    CS h n v (hq.set (n + 1) (.cells [ov'] 36 false)) ov' (ts ++ [t]) ∧ Mv n ov hp ov' (hq.set (n + 1) (.cells [ov'] 36 false)) := by
  have hl := hE.1
  have ho1 := get_lt s.o
  have hnb : ∀ b, blkOf ov' = some b → n + 2 ≤ b := fun b hbb => by
    rcases hb with h1 | ⟨b', h1, h2⟩
    · exact s.blk b (h1 ▸ hbb)
    · rw [h1] at hbb; cases hbb; omega
  refine ⟨⟨?_, get_set (by omega) _, ?_, hnb, ⟨?_, fun i hi _ => ?_⟩, s.len⟩, ⟨(hE.mono fun _ h => .inr h).trans (Ext.set _ (.inl rfl)), hb⟩⟩
  · rw [List.getElem?_set_ne (by omega), hE.2 _ (get_lt s.t) (s.own.notCells s.t)]; exact s.t
  · exact ho.same fun b hbb => List.getElem?_set_ne (by have := hnb b hbb; omega)
  · have := s.ext.1; simp; omega
  · have := s.ext.1
    have hsl := s.len
    rw [List.getElem?_set_ne (by omega), hE.2 i (by omega) fun hbb => by have := s.blk i hbb; omega]
    exact s.ext.2 i hi id
end
theorem boxS {h : Heap} {v : Value} {xs : List Int} (hv : IntSl h v xs) {K : Value → Heap → Prop} : boxK prog h 55 v K = K (newPtr h) (h ++ [.cells [v] 55 false]) := by
  rcases hv with ⟨rfl, _⟩ | ⟨b, o, sp, cap, c, e, ro, rfl, _⟩ <;> simp [boxK, esz_55, cellsOf]
theorem newBox (g : Heap) (x : Int) : ((g ++ [Blk.cells [.int .i64 0] 3 false]).set g.length (.cells [.int .i64 x] 3 false))[g.length]? = some (.cells [.int .i64 x] 3 false) ∧ Ext (fun _ => False) g ((g ++ [Blk.cells [.int .i64 0] 3 false]).set g.length (.cells [.int .i64 x] 3 false)) :=
  ⟨get_set (by simp) _, by simp, fun i hi _ => by rw [List.getElem?_set_ne (by omega), List.getElem?_append_left hi]⟩
theorem deadBox (g : Heap) (B : Blk) : Ext (fun _ => False) g ((g ++ [B]).set g.length .dead) :=
  ⟨by simp, fun i hi _ => by rw [List.getElem?_set_ne (by omega), List.getElem?_append_left hi]⟩
theorem bld3 {x y z : Int} {K : Value → Prop} : buildK prog 40 [(0, vint x), (1, vint y), (2, vint z)] K = K (.agg #[vint x, vint y, vint z]) := by
  simp [buildK, zero_40, fillL, pl_40_0, pl_40_1, pl_40_2, notTuple, cellsOf, splice]
theorem cX_le {xs : List Int} (h : trn xs = true) {a : Nat} {pre : List Nat} (hp : ∀ x ∈ pre, x < xs.length) (hl : pre.length ≤ 8) : (cX xs a pre).length ≤ 64 := by
  have := flat_le (f := fun x => cC xs a x (Am.bits (xs.getD x 0).toNat)) (k := 8) pre fun x hx => Nat.le_trans (cC_le _) (bits_len8 h (hp x hx))
  have e : cX xs a pre = pre.flatMap fun x => cC xs a x (Am.bits (xs.getD x 0).toNat) := rfl
  rw [e]; omega
theorem bits_in {xs : List Int} (h : trn xs = true) {i : Nat} (hi : i < xs.length) {x : Nat} (hx : x ∈ Am.bits (xs.getD i 0).toNat) : x < xs.length ∧ bb xs i x = true := by
  rw [bits_bb h hi, List.mem_filter, List.mem_range] at hx; exact hx
theorem cA_le {xs : List Int} (h : trn xs = true) {k : Nat} (hk : k ≤ xs.length) : (cA xs k).length ≤ 512 := by
  have hl := trn_len h
  have := flat_le (f := fun a => cX xs a (Am.bits (xs.getD a 0).toNat)) (k := 64) (List.range k) fun a ha => cX_le h (fun x hx => (bits_in h (by have := List.mem_range.1 ha; omega) hx).1) (bits_len8 h (by have := List.mem_range.1 ha; omega))
  have e : cA xs k = (List.range k).flatMap fun a => cX xs a (Am.bits (xs.getD a 0).toNat) := rfl
  rw [e]; rw [List.length_range] at this; omega
theorem pre_sub {α : Type} {pre l : List α} {x : α} (h : pre ++ [x] <+: l) : ∀ y ∈ pre, y ∈ l := fun y hy => h.subset (by simp [hy])
theorem pre_len {α : Type} {pre l : List α} {x : α} (h : pre ++ [x] <+: l) : pre.length ≤ l.length := by
  have := h.length_le
  simp at this; omega

theorem cycles_call [BitTab prog 1] {h : Heap} {v : Value} {xs : List Int} (hv : IntSl h v xs) (ht : trn xs = true) : ACall prog 64 [v] h fun r h' => OwnT 40 h' r (cA xs xs.length) ∧ Ext (fun _ => False) h h' := by
  have hl := trn_len ht
  have hpw : 2 ^ xs.length ≤ 2 ^ 8 := Nat.pow_le_pow_right (by decide) hl.2
  refine s64_call (by simp) ?_
  simp only [s64]
  refine aw_cut fun N hN => ?_
  simp (config := {maxSteps := 2000000}) only [s64, ↓aw_region, ↓aw_skip, ↓aw_seq, ↓aw_block, ↓aw_exit, ↓aw_ret, ↓sops_nil, ↓sops_go, ↓dops_nil, ↓dopsX_nil, ↓dopsR_nil, ↓vdn, vup, extr_20, extr_21, extr_30, extr_31, extr_32, List.map_cons, List.map_nil, cond_true, cond_false, aop, aThen, aBlock, argEnv, ev, sput, sputO, binK, binI, unK, builtinK, pickK, Nat.reduceBEq, Nat.reduceAdd, Int.reduceBEq, Int.reduceBNe, Int.reduceLT, aPost, resK, tup, tyf, boxS hv, newPtr]
  refine hN _ _ ?_
  clear hN N
  refine aw_cut fun N hN => ?_
  simp (config := {maxSteps := 2000000}) only [s64, ↓aw_region, ↓aw_skip, ↓aw_seq, ↓aw_block, ↓aw_exit, ↓aw_ret, ↓sops_nil, ↓sops_go, ↓dops_nil, ↓dopsX_nil, ↓dopsR_nil, ↓vdn, vup, extr_20, extr_21, extr_30, extr_31, extr_32, List.map_cons, List.map_nil, cond_true, cond_false, aop, aThen, aBlock, argEnv, ev, sput, sputO, binK, binI, unK, builtinK, pickK, Nat.reduceBEq, Nat.reduceAdd, Int.reduceBEq, Int.reduceBNe, Int.reduceLT, aPost, resK, tup, tyf, allocK, newPtr, zero_36]
  refine hN _ _ ?_
  clear hN N
  obtain ⟨n, hn⟩ : ∃ n, n = h.length := ⟨_, rfl⟩
  simp only [List.length_append, List.length_cons, List.length_nil, Nat.zero_add, ← hn]
  have s0 : CS h n v (h ++ [Blk.cells [v] 55 false] ++ [Blk.cells [.slice none 0 0] 36 false]) (.slice none 0 0) [] :=
    ⟨by rw [hn]; exact get_old (get_new _ _) _, by have := get_new (h ++ [Blk.cells [v] 55 false]) (Blk.cells [.slice none 0 0] 36 false); simpa [hn] using this, .inl ⟨rfl, rfl⟩, fun _ h => (by cases h), by rw [List.append_assoc]; exact Ext.app _ _ _, hn.symm⟩
  generalize h ++ [Blk.cells [v] 55 false] ++ [Blk.cells [.slice none 0 0] 36 false] = H at s0 ⊢
  refine aw_cut fun N hN => ?_
  simp (config := {maxSteps := 2000000}) only [s64, ↓aw_region, ↓aw_skip, ↓aw_seq, ↓aw_block, ↓aw_exit, ↓aw_ret, ↓sops_nil, ↓sops_go, ↓dops_nil, ↓dopsX_nil, ↓dopsR_nil, ↓vdn, vup, extr_20, extr_21, extr_30, extr_31, extr_32, List.map_cons, List.map_nil, cond_true, cond_false, aop, aThen, aBlock, argEnv, ev, sput, sputO, binK, binI, unK, builtinK, pickK, Nat.reduceBEq, Nat.reduceAdd, Int.reduceBEq, Int.reduceBNe, Int.reduceLT, aPost, resK, tup, tyf, load1 s0.t shp_55, (IntSl_ext hv s0.ext).len, ↓aw_loop_eq]
  refine aws_hide fun Q hQ => ?_
  refine aw_loop (γ := Nat × Value × Heap) (fun s => s.1 ≤ xs.length ∧ CS h n v s.2.2 s.2.1 (cA xs s.1))
    (fun s => ([(0, v), (1, .pointer (some ⟨n, 0, none⟩)), (2, .slice none 0 0), (3, .pointer (some ⟨n + 1, 0, none⟩)), (8, vint xs.length), (9, vint s.1)], s.2.2)) (fun s => xs.length - s.1) (0, .slice none 0 0, H) ⟨Nat.zero_le _, s0⟩ (by simp (config := {maxSteps := 2000000}) only [↓aw_region, ↓aw_skip, ↓aw_seq, ↓aw_block, ↓aw_exit, ↓aw_ret, ↓sops_nil, ↓sops_go, ↓dops_nil, ↓dopsX_nil, ↓dopsR_nil, ↓vdn, vup, extr_20, extr_21, extr_30, extr_31, extr_32, List.map_cons, List.map_nil, cond_true, cond_false, aop, aThen, aBlock, argEnv, ev, sput, sputO, binK, binI, unK, builtinK, pickK, Nat.reduceBEq, Nat.reduceAdd, Int.reduceBEq, Int.reduceBNe, Int.reduceLT, aPost, resK, tup, tyf, Int.natCast_zero]) rfl ?_
  rintro ⟨a, ov, hp⟩ ⟨ha, s⟩
  simp only at ha s
  refine aw_hide fun Q2 hQ2 => ?_
  by_cases hin : (a : Int) < xs.length
  · have ha' : a < xs.length := by omega
    obtain ⟨hX, hXl⟩ := trn_nat ht ha'
    simp only [l64_2]
    obtain ⟨ba1, hE1⟩ := newBox hp a
    have s1 := s.new hE1
    have hlp : n + 2 ≤ hp.length := by have := get_lt s.o; omega
    simp (config := {maxSteps := 2000000}) only [s64, ↓aw_region, ↓aw_skip, ↓aw_seq, ↓aw_block, ↓aw_exit, ↓aw_ret, ↓sops_nil, ↓sops_go, ↓dops_nil, ↓dopsX_nil, ↓dopsR_nil, ↓vdn, vup, extr_20, extr_21, extr_30, extr_31, extr_32, List.map_cons, List.map_nil, cond_true, cond_false, aop, aThen, aBlock, argEnv, ev, sput, sputO, binK, binI, unK, builtinK, pickK, Nat.reduceBEq, Nat.reduceAdd, Int.reduceBEq, Int.reduceBNe, Int.reduceLT, aPost, resK, tup, tyf, hin, allocK, newPtr, zero_3]
    rw [storeI (get_new _ _) shp_3]
    generalize hba : hp.length = ba at ba1 hE1 hlp s1 ⊢
    generalize (hp ++ [Blk.cells [.int .i64 0] 3 false]).set ba (.cells [.int .i64 (a : Int)] 3 false) = h1 at ba1 hE1 s1 ⊢
    have hv1 := IntSl_ext hv s1.ext
    simp (config := {maxSteps := 2000000}) only [s64, ↓aw_region, ↓aw_skip, ↓aw_seq, ↓aw_block, ↓aw_exit, ↓aw_ret, ↓sops_nil, ↓sops_go, ↓dops_nil, ↓dopsX_nil, ↓dopsR_nil, ↓vdn, vup, extr_20, extr_21, extr_30, extr_31, extr_32, List.map_cons, List.map_nil, cond_true, cond_false, aop, aThen, aBlock, argEnv, ev, sput, sputO, binK, binI, unK, builtinK, pickK, Nat.reduceBEq, Nat.reduceAdd, Int.reduceBEq, Int.reduceBNe, Int.reduceLT, aPost, resK, tup, tyf, load1 s1.t shp_55, load1 ba1 shp_3, hv1.idx el_55 esz_3 ha', hv1.load shp_3 ha', callK, List.nil_append, List.append_nil, List.toList_toArray, List.cons_append]
    refine players_call.mono ?_
    rintro _ _ ⟨rfl, rfl⟩
    simp (config := {maxSteps := 2000000}) only [s64, ↓aw_region, ↓aw_skip, ↓aw_seq, ↓aw_block, ↓aw_exit, ↓aw_ret, ↓sops_nil, ↓sops_go, ↓dops_nil, ↓dopsX_nil, ↓dopsR_nil, ↓vdn, vup, extr_20, extr_21, extr_30, extr_31, extr_32, List.map_cons, List.map_nil, cond_true, cond_false, aop, aThen, aBlock, argEnv, ev, sput, sputO, binK, binI, unK, builtinK, pickK, Nat.reduceBEq, Nat.reduceAdd, Int.reduceBEq, Int.reduceBNe, Int.reduceLT, aPost, resK, tup, tyf, newPtr]
    have hE2 := deadBox h1 (Blk.cells [vint (xs.getD a 0)] 3 false)
    have s2 := s1.new hE2
    have ba2 := (hE2.2 _ (get_lt ba1) id).trans ba1
    have hlb : n + 2 ≤ h1.length := by have := get_lt s1.o; omega
    generalize hX2 : (xs.getD a 0).toNat = X at hX hXl
    refine aw_range bitIter (bx := h1.length) (s := X) (et := 3) rfl (by rw [hX]; exact get_new _ _) (by omega) (fun pre hk => ∃ ov', CS h n v hk ov' (cA xs a ++ cX xs a pre) ∧ Mv n ov ((h1 ++ [Blk.cells [vint (xs.getD a 0)] 3 false]).set h1.length .dead) ov' hk) ?_ ?_ ?_
    · exact ⟨ov, by simpa [cX] using s2, Mv.new (Ext.refl _ _)⟩
    · rintro pre x hk hpre ⟨ov1, s3, m3⟩
      have hxm := mem_pre hpre
      rw [← hX2] at hxm
      obtain ⟨hx', hxb⟩ := bits_in ht ha' hxm
      obtain ⟨hY, hYl⟩ := trn_nat ht hx'
      have ba3 := m3.box s2 ba2 (by omega)
      obtain ⟨bx4, hE4⟩ := newBox hk x
      have s4 := s3.new hE4
      have ba4 := (hE4.2 _ (get_lt ba3) id).trans ba3
      have hlk : n + 2 ≤ hk.length := by have := get_lt s3.o; omega
      simp (config := {maxSteps := 2000000}) only [s64, ↓aw_region, ↓aw_skip, ↓aw_seq, ↓aw_block, ↓aw_exit, ↓aw_ret, ↓sops_nil, ↓sops_go, ↓dops_nil, ↓dopsX_nil, ↓dopsR_nil, ↓vdn, vup, extr_20, extr_21, extr_30, extr_31, extr_32, List.map_cons, List.map_nil, cond_true, cond_false, aop, aThen, aBlock, argEnv, ev, sput, sputO, binK, binI, unK, builtinK, pickK, Nat.reduceBEq, Nat.reduceAdd, Int.reduceBEq, Int.reduceBNe, Int.reduceLT, aPost, resK, tup, tyf, r64_1_a, r64_1_b, allocK, newPtr, zero_3]
      rw [storeI (get_new _ _) shp_3]
      generalize hbx : hk.length = bx at bx4 hE4 hlk s4 ba4 ⊢
      generalize (hk ++ [Blk.cells [.int .i64 0] 3 false]).set bx (.cells [.int .i64 (x : Int)] 3 false) = h4 at bx4 hE4 s4 ba4 ⊢
      have hv4 := IntSl_ext hv s4.ext
      simp (config := {maxSteps := 2000000}) only [s64, ↓aw_region, ↓aw_skip, ↓aw_seq, ↓aw_block, ↓aw_exit, ↓aw_ret, ↓sops_nil, ↓sops_go, ↓dops_nil, ↓dopsX_nil, ↓dopsR_nil, ↓vdn, vup, extr_20, extr_21, extr_30, extr_31, extr_32, List.map_cons, List.map_nil, cond_true, cond_false, aop, aThen, aBlock, argEnv, ev, sput, sputO, binK, binI, unK, builtinK, pickK, Nat.reduceBEq, Nat.reduceAdd, Int.reduceBEq, Int.reduceBNe, Int.reduceLT, aPost, resK, tup, tyf, load1 s4.t shp_55, load1 bx4 shp_3, hv4.idx el_55 esz_3 hx', hv4.load shp_3 hx', callK, List.nil_append, List.append_nil, List.toList_toArray, List.cons_append]
      refine players_call.mono ?_
      rintro _ _ ⟨rfl, rfl⟩
      simp (config := {maxSteps := 2000000}) only [s64, ↓aw_region, ↓aw_skip, ↓aw_seq, ↓aw_block, ↓aw_exit, ↓aw_ret, ↓sops_nil, ↓sops_go, ↓dops_nil, ↓dopsX_nil, ↓dopsR_nil, ↓vdn, vup, extr_20, extr_21, extr_30, extr_31, extr_32, List.map_cons, List.map_nil, cond_true, cond_false, aop, aThen, aBlock, argEnv, ev, sput, sputO, binK, binI, unK, builtinK, pickK, Nat.reduceBEq, Nat.reduceAdd, Int.reduceBEq, Int.reduceBNe, Int.reduceLT, aPost, resK, tup, tyf, newPtr]
      have hE5 := deadBox h4 (Blk.cells [vint (xs.getD x 0)] 3 false)
      have s5 := s4.new hE5
      have ba5 := (hE5.2 _ (get_lt ba4) id).trans ba4
      have bx5 := (hE5.2 _ (get_lt bx4) id).trans bx4
      have m5 : Mv n ov1 hk ov1 ((h4 ++ [Blk.cells [vint (xs.getD x 0)] 3 false]).set h4.length .dead) := Mv.new (hE4.trans hE5)
      generalize hY2 : (xs.getD x 0).toNat = Y at hY hYl
      refine aw_range bitIter (bx := h4.length) (s := Y) (et := 3) rfl (by rw [hY]; exact get_new _ _) (by omega) (fun pre' hk' => ∃ ov2, CS h n v hk' ov2 (cA xs a ++ cX xs a pre ++ cC xs a x pre') ∧ Mv n ov1 ((h4 ++ [Blk.cells [vint (xs.getD x 0)] 3 false]).set h4.length .dead) ov2 hk') ?_ ?_ ?_
      · exact ⟨ov1, by simpa [cC] using s5, Mv.new (Ext.refl _ _)⟩
      · rintro pre' c hk' hpre' ⟨ov2, s6, m6⟩
        have hcm := mem_pre hpre'
        rw [← hY2] at hcm
        obtain ⟨hc', hcb⟩ := bits_in ht hx' hcm
        obtain ⟨hC, hCl⟩ := trn_nat ht hc'
        have ba6 := m6.box s5 ba5 (by omega)
        have bx6 := m6.box s5 bx5 (by omega)
        have hv6 := IntSl_ext hv s6.ext
        have hlen : (cA xs a ++ cX xs a pre ++ cC xs a x pre').length ≤ 1024 := by
          have g1 := cA_le ht (show a ≤ xs.length by omega)
          have g2 := cX_le ht (a := a) (pre := pre) (fun y hy => (bits_in ht ha' (by rw [hX2]; exact pre_sub hpre y hy)).1) (Nat.le_trans (pre_len hpre) (by rw [← hX2]; exact bits_len8 ht ha'))
          have g3 := cC_le (xs := xs) (a := a) (x := x) pre'
          have g4 := Nat.le_trans (pre_len hpre') (by rw [← hY2]; exact bits_len8 ht hx')
          simp only [List.length_append]; omega
        have stay : ¬ (a < x ∧ a < c ∧ bb xs c a = true) → ∃ ov2', CS h n v hk' ov2' (cA xs a ++ cX xs a pre ++ cC xs a x (pre' ++ [c])) ∧ Mv n ov1 ((h4 ++ [Blk.cells [vint (xs.getD x 0)] 3 false]).set h4.length .dead) ov2' hk' := fun hno => ⟨ov2, by rw [cC_snoc, if_neg hno, List.append_nil]; exact s6, m6⟩
        simp (config := {maxSteps := 2000000}) only [s64, ↓aw_region, ↓aw_skip, ↓aw_seq, ↓aw_block, ↓aw_exit, ↓aw_ret, ↓sops_nil, ↓sops_go, ↓dops_nil, ↓dopsX_nil, ↓dopsR_nil, ↓vdn, vup, extr_20, extr_21, extr_30, extr_31, extr_32, List.map_cons, List.map_nil, cond_true, cond_false, aop, aThen, aBlock, argEnv, ev, sput, sputO, binK, binI, unK, builtinK, pickK, Nat.reduceBEq, Nat.reduceAdd, Int.reduceBEq, Int.reduceBNe, Int.reduceLT, aPost, resK, tup, tyf, r64_0_a, r64_0_b]
        by_cases hax : a < x
        · have c1 : (a : Int) < (x : Int) := by omega
          by_cases hac : a < c
          · have c2 : (a : Int) < (c : Int) := by omega
            simp (config := {maxSteps := 2000000}) only [s64, ↓aw_region, ↓aw_skip, ↓aw_seq, ↓aw_block, ↓aw_exit, ↓aw_ret, ↓sops_nil, ↓sops_go, ↓dops_nil, ↓dopsX_nil, ↓dopsR_nil, ↓vdn, vup, extr_20, extr_21, extr_30, extr_31, extr_32, List.map_cons, List.map_nil, cond_true, cond_false, aop, aThen, aBlock, argEnv, ev, sput, sputO, binK, binI, unK, builtinK, pickK, Nat.reduceBEq, Nat.reduceAdd, Int.reduceBEq, Int.reduceBNe, Int.reduceLT, aPost, resK, tup, tyf, load1 ba6 shp_3, load1 bx6 shp_3, load1 s6.t shp_55, c1, c2, callK, List.nil_append, List.append_nil, List.toList_toArray, List.cons_append]
            refine (beats_call hv6 hc' (by omega) (by omega)).mono ?_
            rintro _ hk' ⟨rfl, rfl⟩
            cases hbb : bitI (xs.getD c 0) a with
            | false =>
              simp (config := {maxSteps := 2000000}) only [s64, ↓aw_region, ↓aw_skip, ↓aw_seq, ↓aw_block, ↓aw_exit, ↓aw_ret, ↓sops_nil, ↓sops_go, ↓dops_nil, ↓dopsX_nil, ↓dopsR_nil, ↓vdn, vup, extr_20, extr_21, extr_30, extr_31, extr_32, List.map_cons, List.map_nil, cond_true, cond_false, aop, aThen, aBlock, argEnv, ev, sput, sputO, binK, binI, unK, builtinK, pickK, Nat.reduceBEq, Nat.reduceAdd, Int.reduceBEq, Int.reduceBNe, Int.reduceLT, aPost, resK, tup, tyf, hbb, rangeQ]
              exact stay fun h => by rw [bb, hbb] at h; cases h.2.2
            | true =>
              simp (config := {maxSteps := 2000000}) only [s64, ↓aw_region, ↓aw_skip, ↓aw_seq, ↓aw_block, ↓aw_exit, ↓aw_ret, ↓sops_nil, ↓sops_go, ↓dops_nil, ↓dopsX_nil, ↓dopsR_nil, ↓vdn, vup, extr_20, extr_21, extr_30, extr_31, extr_32, List.map_cons, List.map_nil, cond_true, cond_false, aop, aThen, aBlock, argEnv, ev, sput, sputO, binK, binI, unK, builtinK, pickK, Nat.reduceBEq, Nat.reduceAdd, Int.reduceBEq, Int.reduceBNe, Int.reduceLT, aPost, resK, tup, tyf, hbb, load1 s6.o shp_36, load1 ba6 shp_3, load1 bx6 shp_3, List.toList_toArray, bld3, litT el_36 zero_40 esz_40]
              have hx1 : Ext (fun _ => False) hk' (hk' ++ [.ints [(a : Int), (x : Int), (c : Int)] 40 false]) := Ext.app _ _ _
              refine (s6.own.ext hx1).append app_36_36 (by omega) (get_new _ _) ?_
              intro ov3 h7 ho7 hx7 hb7
              have hx8 : Ext (fun i => blkOf ov2 = some i) hk' h7 := (hx1.mono fun _ h => h.elim).trans hx7
              have hb8 : blkOf ov3 = blkOf ov2 ∨ ∃ b, blkOf ov3 = some b ∧ hk'.length ≤ b := by
                rcases hb7 with h | ⟨b, h, hl⟩
                · exact .inl h
                · exact .inr ⟨b, h, by simp at hl; omega⟩
              have ho8 : h7[n + 1]? = some (.cells [ov2] 36 false) := (hx8.2 _ (get_lt s6.o) (s6.own.notCells s6.o)).trans s6.o
              obtain ⟨s9, m9⟩ := s6.push hx8 ho7 hb8
              simp (config := {maxSteps := 2000000}) only [s64, ↓aw_region, ↓aw_skip, ↓aw_seq, ↓aw_block, ↓aw_exit, ↓aw_ret, ↓sops_nil, ↓sops_go, ↓dops_nil, ↓dopsX_nil, ↓dopsR_nil, ↓vdn, vup, extr_20, extr_21, extr_30, extr_31, extr_32, List.map_cons, List.map_nil, cond_true, cond_false, aop, aThen, aBlock, argEnv, ev, sput, sputO, binK, binI, unK, builtinK, pickK, Nat.reduceBEq, Nat.reduceAdd, Int.reduceBEq, Int.reduceBNe, Int.reduceLT, aPost, resK, tup, tyf, store1 ho8 shp_36 ho7.one, rangeQ]
              refine ⟨ov3, ?_, m6.trans m9 (by have := get_lt s5.o; omega)⟩
              rw [cC_snoc, if_pos ⟨hax, hac, hbb⟩, ← List.append_assoc]
              exact s9
          · have c2 : ¬ (a : Int) < (c : Int) := by omega
            simp (config := {maxSteps := 2000000}) only [s64, ↓aw_region, ↓aw_skip, ↓aw_seq, ↓aw_block, ↓aw_exit, ↓aw_ret, ↓sops_nil, ↓sops_go, ↓dops_nil, ↓dopsX_nil, ↓dopsR_nil, ↓vdn, vup, extr_20, extr_21, extr_30, extr_31, extr_32, List.map_cons, List.map_nil, cond_true, cond_false, aop, aThen, aBlock, argEnv, ev, sput, sputO, binK, binI, unK, builtinK, pickK, Nat.reduceBEq, Nat.reduceAdd, Int.reduceBEq, Int.reduceBNe, Int.reduceLT, aPost, resK, tup, tyf, load1 ba6 shp_3, load1 bx6 shp_3, c1, c2, rangeQ]
            exact stay fun h => hac h.2.1
        · have c1 : ¬ (a : Int) < (x : Int) := by omega
          simp (config := {maxSteps := 2000000}) only [s64, ↓aw_region, ↓aw_skip, ↓aw_seq, ↓aw_block, ↓aw_exit, ↓aw_ret, ↓sops_nil, ↓sops_go, ↓dops_nil, ↓dopsX_nil, ↓dopsR_nil, ↓vdn, vup, extr_20, extr_21, extr_30, extr_31, extr_32, List.map_cons, List.map_nil, cond_true, cond_false, aop, aThen, aBlock, argEnv, ev, sput, sputO, binK, binI, unK, builtinK, pickK, Nat.reduceBEq, Nat.reduceAdd, Int.reduceBEq, Int.reduceBNe, Int.reduceLT, aPost, resK, tup, tyf, load1 ba6 shp_3, load1 bx6 shp_3, c1, rangeQ]
          exact stay fun h => hax h.1
      · rintro hk' ⟨ov2, s6, m6⟩
        simp (config := {maxSteps := 2000000}) only [s64, ↓aw_region, ↓aw_skip, ↓aw_seq, ↓aw_block, ↓aw_exit, ↓aw_ret, ↓sops_nil, ↓sops_go, ↓dops_nil, ↓dopsX_nil, ↓dopsR_nil, ↓vdn, vup, extr_20, extr_21, extr_30, extr_31, extr_32, List.map_cons, List.map_nil, cond_true, cond_false, aop, aThen, aBlock, argEnv, ev, sput, sputO, binK, binI, unK, builtinK, pickK, Nat.reduceBEq, Nat.reduceAdd, Int.reduceBEq, Int.reduceBNe, Int.reduceLT, aPost, resK, tup, tyf, rangeQ]
        refine ⟨ov2, ?_, (m3.trans m5 (by have := get_lt s2.o; omega)).trans m6 (by have := get_lt s2.o; omega)⟩
        rw [cX_snoc, hY2, ← List.append_assoc]
        exact s6
    · rintro hk ⟨ov1, s3, m3⟩
      simp (config := {maxSteps := 2000000}) only [s64, ↓aw_region, ↓aw_skip, ↓aw_seq, ↓aw_block, ↓aw_exit, ↓aw_ret, ↓sops_nil, ↓sops_go, ↓dops_nil, ↓dopsX_nil, ↓dopsR_nil, ↓vdn, vup, extr_20, extr_21, extr_30, extr_31, extr_32, List.map_cons, List.map_nil, cond_true, cond_false, aop, aThen, aBlock, argEnv, ev, sput, sputO, binK, binI, unK, builtinK, pickK, Nat.reduceBEq, Nat.reduceAdd, Int.reduceBEq, Int.reduceBNe, Int.reduceLT, aPost, resK, tup, tyf, add1 (show a < 9223372036854775807 by omega)]
      refine hQ2 _ _ _ ⟨(a + 1, ov1, hk), ⟨by simp only; omega, ?_⟩, by simp only; omega, by simp (config := {maxSteps := 2000000}) only [↓aw_region, ↓aw_skip, ↓aw_seq, ↓aw_block, ↓aw_exit, ↓aw_ret, ↓sops_nil, ↓sops_go, ↓dops_nil, ↓dopsX_nil, ↓dopsR_nil, ↓vdn, vup, extr_20, extr_21, extr_30, extr_31, extr_32, List.map_cons, List.map_nil, cond_true, cond_false, aop, aThen, aBlock, argEnv, ev, sput, sputO, binK, binI, unK, builtinK, pickK, Nat.reduceBEq, Nat.reduceAdd, Int.reduceBEq, Int.reduceBNe, Int.reduceLT, aPost, resK, tup, tyf], rfl⟩
      simp only
      rw [cA_succ, hX2]
      exact s3
  · obtain rfl : a = xs.length := by omega
    simp (config := {maxSteps := 2000000}) only [s64, ↓aw_region, ↓aw_skip, ↓aw_seq, ↓aw_block, ↓aw_exit, ↓aw_ret, ↓sops_nil, ↓sops_go, ↓dops_nil, ↓dopsX_nil, ↓dopsR_nil, ↓vdn, vup, extr_20, extr_21, extr_30, extr_31, extr_32, List.map_cons, List.map_nil, cond_true, cond_false, aop, aThen, aBlock, argEnv, ev, sput, sputO, binK, binI, unK, builtinK, pickK, Nat.reduceBEq, Nat.reduceAdd, Int.reduceBEq, Int.reduceBNe, Int.reduceLT, aPost, resK, tup, tyf, l64_2, Int.lt_irrefl]
    refine hQ2 _ _ _ (hQ _ _ _ ?_)
    simp (config := {maxSteps := 2000000}) only [s64, ↓aw_region, ↓aw_skip, ↓aw_seq, ↓aw_block, ↓aw_exit, ↓aw_ret, ↓sops_nil, ↓sops_go, ↓dops_nil, ↓dopsX_nil, ↓dopsR_nil, ↓vdn, vup, extr_20, extr_21, extr_30, extr_31, extr_32, List.map_cons, List.map_nil, cond_true, cond_false, aop, aThen, aBlock, argEnv, ev, sput, sputO, binK, binI, unK, builtinK, pickK, Nat.reduceBEq, Nat.reduceAdd, Int.reduceBEq, Int.reduceBNe, Int.reduceLT, aPost, resK, tup, tyf, if_true]
    refine hN _ _ ?_
    simp (config := {maxSteps := 2000000}) only [s64, ↓aw_region, ↓aw_skip, ↓aw_seq, ↓aw_block, ↓aw_exit, ↓aw_ret, ↓sops_nil, ↓sops_go, ↓dops_nil, ↓dopsX_nil, ↓dopsR_nil, ↓vdn, vup, extr_20, extr_21, extr_30, extr_31, extr_32, List.map_cons, List.map_nil, cond_true, cond_false, aop, aThen, aBlock, argEnv, ev, sput, sputO, binK, binI, unK, builtinK, pickK, Nat.reduceBEq, Nat.reduceAdd, Int.reduceBEq, Int.reduceBNe, Int.reduceLT, aPost, resK, tup, tyf, load1 s.o shp_36]
    exact ⟨s.own, s.ext⟩

end Go.Proofs.Tryd.Am
