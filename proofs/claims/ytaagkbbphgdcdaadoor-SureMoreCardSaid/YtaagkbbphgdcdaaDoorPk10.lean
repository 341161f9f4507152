/-
  sure: the corners, one after another: the whole walk.
  sure: sets within others bound nothing more. Plain Lean, no program.
  sure: packings.
  Printed by gen.py: the code of some functions, without what no step looks at; held against the program's own by the kernel.
  sure: Weigh, small, Less.
  sure: what the table of covers holds.
  sure: whether words are a code, by the program and by the reference.
  sure: whether words are a code, by the reference; what the statements call awake.
  sure: the beginnings that the statements look at; what Code and Codes give back.
  What codes there are, plain; codes of longer words.
  sure: a pair of neighbours more.
  Printed by gen.py: the code of some functions, without what no step looks at; held against the program's own by the kernel.
-/
import Derived.Test.YtaagkbbphgdcdaaDoorPk9
import Derived.Test.YtaagkbbphgdcdaaDoorPk3
import Derived.Test.YtaagkbbphgdcdaaDoorProg
import Derived.KernelRfl
import Derived.Shelf.Abstract
import Derived.Test.YtaagkbbphgdcdaaDoorPk6
import Derived.Test.YtaagkbbphgdcdaaDoorPk5
set_option linter.all false
namespace Go.Proofs.Tryd.Am
open Go.Am Bq
set_option maxRecDepth 100000
set_option maxHeartbeats 4000000

theorem each_map {R : Value → List Int → Prop} {f : Nat → Value} {g : Nat → List Int} : ∀ {B : List Nat}, (∀ k ∈ B, R (f k) (g k)) → Each R (B.map f) (B.map g)
  | [], _ => trivial
  | k :: B, h => ⟨h k (by simp), each_map fun k hk => h k (by simp [hk])⟩
theorem GE.row {n : Nat} {sets : List Nat} {rws : List Value} {h0 H : Yd} {pn pr pg ps pb : Nat} {rv sv : Value} (ge : GE n sets rws h0 pn pr pg ps pb rv sv) (hk : KG h0 pb H) {k : Nat} (h : k < sets.length + n) : IntSl H (rws.getD k undef) (rowI n sets k) := by
  have := (ge.rows H hk).2.get undef [] (k := k) (by simpa using h)
  rwa [List.getD, List.getD, List.getElem?_map, List.getElem?_range h] at this
theorem buildSlW {P : Program} {h : Yd} {w : Value} {t e : TypeId} (he : elemOf' P t = some e) (hz : We P e = some [.slice none 0 0]) (hs : esz P e = some 1) {xs : List Int} (hw : IntSl h w xs) {K : Value → Yd → Prop} :
    Yt P h t 1 [(0, w)] K = K (.slice (some ⟨h.length, 0, none⟩) 1 1) (h ++ [.cells [w] e false]) := by
  have e1 : fillL (fun i => some (i * 1, 1)) (reps [.slice none 0 0] 1) [(0, w)] = some [w] := by
    rcases hw with ⟨rfl, rfl⟩ | ⟨b, o, sp, cap, c, e', ro, rfl, _⟩ <;> simp [fillL, Va, cellsOf, reps, Yr]
  have e2 : mkb [w] e = .cells [w] e false := mkb_no (by simp) fun w' hw' => by
    rw [List.mem_singleton.1 hw']; exact (intSl_notI hw).1
  simp only [Yt, he, hz, hs, e1, e2]
  exact propext ⟨fun h => h.2.2.2, fun h => ⟨rfl, by decide, by decide, h⟩⟩
theorem grow_call [Tabs prog] {n : Nat} {sets : List Nat} {rws : List Value} {h0 : Yd} {pn pr pg ps pb : Nat} {rv sv : Value} (ge : GE n sets rws h0 pn pr pg ps pb rv sv) : ∀ (d fr : Nat) (B : List Nat) (h : Yd) (v : Value) (q : Rat), B.length + d = n → KG h0 pb h → OwnV 22 h v (B.map fun k => rws.getD k undef) →
    (∀ k ∈ B, k < sets.length + n) → fr ≤ sets.length + n → h[pb]? = some (bC q) → Att n sets q →
    ACall prog 85 [Zy (fr : Nat), v, .pointer (some ⟨pn, 0, none⟩), .pointer (some ⟨pr, 0, none⟩), .pointer (some ⟨pg, 0, none⟩), .pointer (some ⟨ps, 0, none⟩), .pointer (some ⟨pb, 0, none⟩)] h fun _ h' => GR n sets pb h q B fr d h' := by
  intro d
  induction d with
  | zero =>
    intro fr B h v q hB hk ho hBm hfr hq ha
    exact leaf_call ge (by omega) hk ⟨_, ho.val, each_map fun k hkB => ge.row hk (hBm k hkB)⟩ hq ha fun x hx => by rw [List.append_nil]; exact hx
  | succ d ih =>
    intro fr B h v q hB hk ho hBm hfr hq ha
    have hn6 := ge.n6
    have hlS := ge.l
    have hlt : (B.length : Int) < n := by omega
    have hml : (B.map fun k => rws.getD k undef).length = B.length := List.length_map ..
    refine s85_callW (by simp) ?_
    simp only [s85]
    refine Yg fun M hM => ?_
    refine Yc fun N1 hN1 => ?_
    simp (maxSteps := 2000000) only [s85, ↓Za, ↓Zk, ↓Zs, ↓Zf, ↓Zn, ↓Zt, ↓Ze, ↓Zj, ↓Zg, ↓Zb, ↓Zc, ↓vdn, vup, Zl, Zh, Zi, Zm, Zo, List.map_cons, List.map_nil, cond_true, cond_false, aop, Zw, Zr, Zp, ev, sput, Zu, Zz, Yb, unK, Zd, Zx, Nat.reduceBEq, Nat.reduceAdd, Int.reduceBEq, Int.reduceBNe, Int.reduceLT, Zv, Ya, tup, tyf, ho.val.len, hml, load1 (hk.at_ ge.nb ge.fn) Xl, hlt]
    refine hN1 [(0, Zy (fr : Nat)), (1, v), (2, .pointer (some ⟨pn, 0, none⟩)), (3, .pointer (some ⟨pr, 0, none⟩)), (4, .pointer (some ⟨pg, 0, none⟩)), (5, .pointer (some ⟨ps, 0, none⟩)), (6, .pointer (some ⟨pb, 0, none⟩)), (25, .bool true)] _ _ ?_ (by simp (maxSteps := 2000000) only [↓Za, ↓Zk, ↓Zs, ↓Zf, ↓Zn, ↓Zt, ↓Ze, ↓Zj, ↓Zg, ↓Zb, ↓Zc, ↓vdn, vup, Zl, Zh, Zi, Zm, Zo, List.map_cons, List.map_nil, cond_true, cond_false, aop, Zw, Zr, Zp, ev, sput, Zu, Zz, Yb, unK, Zd, Zx, Nat.reduceBEq, Nat.reduceAdd, Int.reduceBEq, Int.reduceBNe, Int.reduceLT, Zv, Ya, tup, tyf])
    clear hN1
    try clear N1
    refine Xq rfl ?_
    refine Yg fun Z hZ => ?_
    refine Yc fun N2 hN2 => ?_
    simp (maxSteps := 2000000) only [s85, ↓Za, ↓Zk, ↓Zs, ↓Zf, ↓Zn, ↓Zt, ↓Ze, ↓Zj, ↓Zg, ↓Zb, ↓Zc, ↓vdn, vup, Zl, Zh, Zi, Zm, Zo, List.map_cons, List.map_nil, cond_true, cond_false, aop, Zw, Zr, Zp, ev, sput, Zu, Zz, Yb, unK, Zd, Zx, Nat.reduceBEq, Nat.reduceAdd, Int.reduceBEq, Int.reduceBNe, Int.reduceLT, Zv, Ya, tup, tyf]
    refine hN2 [(0, Zy (fr : Nat)), (1, v), (2, .pointer (some ⟨pn, 0, none⟩)), (3, .pointer (some ⟨pr, 0, none⟩)), (4, .pointer (some ⟨pg, 0, none⟩)), (5, .pointer (some ⟨ps, 0, none⟩)), (6, .pointer (some ⟨pb, 0, none⟩)), (9, Zy (fr : Nat)), (25, .bool true)] _ _ ?_ (by simp (maxSteps := 2000000) only [↓Za, ↓Zk, ↓Zs, ↓Zf, ↓Zn, ↓Zt, ↓Ze, ↓Zj, ↓Zg, ↓Zb, ↓Zc, ↓vdn, vup, Zl, Zh, Zi, Zm, Zo, List.map_cons, List.map_nil, cond_true, cond_false, aop, Zw, Zr, Zp, ev, sput, Zu, Zz, Yb, unK, Zd, Zx, Nat.reduceBEq, Nat.reduceAdd, Int.reduceBEq, Int.reduceBNe, Int.reduceLT, Zv, Ya, tup, tyf])
    clear hN2
    try clear N2
    refine Yo ?_
    refine Yh fun Q hQ => ?_
    refine Xs (γ := Nat × Yd × Rat) (fun g => (fr ≤ g.1 ∧ g.1 ≤ sets.length + n) ∧ Ext (fun b => b = pb) h g.2.1 ∧ g.2.1[pb]? = some (bC g.2.2) ∧ Att n sets g.2.2 ∧ q ≤ g.2.2 ∧
        ∀ k t, fr ≤ k → k < g.1 → t.Sublist (List.range' (k + 1) (sets.length + n - (k + 1))) → t.length = d → ∀ x, Corner n sets (B ++ k :: t) x → sumTo x n ≤ g.2.2)
      (fun g => ([(0, Zy (fr : Nat)), (1, v), (2, .pointer (some ⟨pn, 0, none⟩)), (3, .pointer (some ⟨pr, 0, none⟩)), (4, .pointer (some ⟨pg, 0, none⟩)), (5, .pointer (some ⟨ps, 0, none⟩)), (6, .pointer (some ⟨pb, 0, none⟩)), (9, Zy (g.1 : Nat)), (25, .bool true)], g.2.1)) (fun g => sets.length + n - g.1) (fr, h, q) ⟨⟨Nat.le_refl _, hfr⟩, Ext.refl _ _, hq, ha, Rat.le_refl, fun k t h1 h2 => absurd h2 (Nat.not_lt.2 h1)⟩ (by simp (maxSteps := 2000000) only [↓Za, ↓Zk, ↓Zs, ↓Zf, ↓Zn, ↓Zt, ↓Ze, ↓Zj, ↓Zg, ↓Zb, ↓Zc, ↓vdn, vup, Zl, Zh, Zi, Zm, Zo, List.map_cons, List.map_nil, cond_true, cond_false, aop, Zw, Zr, Zp, ev, sput, Zu, Zz, Yb, unK, Zd, Zx, Nat.reduceBEq, Nat.reduceAdd, Int.reduceBEq, Int.reduceBNe, Int.reduceLT, Zv, Ya, tup, tyf]) rfl ?_
    rintro ⟨k, H, qk⟩ ⟨⟨hk1, hk2⟩, hE, hqk, hak, hle, hno⟩
    simp only at hk1 hk2 hE hqk hak hle hno
    refine Yh fun Q2 hQ2 => ?_
    simp only [l85_0]
    have hkH : KG h0 pb H := hk.trans hE
    obtain ⟨r1, r2⟩ := ge.rows H hkH
    have hrl : rws.length = sets.length + n := r2.len.trans (by simp)
    by_cases hkin : (k : Int) < ((sets.length + n : Nat) : Int)
    · have hk' : k < sets.length + n := by omega
      have hkW : k < rws.length := by omega
      refine Yg fun A hA => ?_
      refine Yc fun N3 hN3 => ?_
      simp (maxSteps := 2000000) only [s85, ↓Za, ↓Zk, ↓Zs, ↓Zf, ↓Zn, ↓Zt, ↓Ze, ↓Zj, ↓Zg, ↓Zb, ↓Zc, ↓vdn, vup, Zl, Zh, Zi, Zm, Zo, List.map_cons, List.map_nil, cond_true, cond_false, aop, Zw, Zr, Zp, ev, sput, Zu, Zz, Yb, unK, Zd, Zx, Nat.reduceBEq, Nat.reduceAdd, Int.reduceBEq, Int.reduceBNe, Int.reduceLT, Zv, Ya, tup, tyf, load1 (hkH.at_ ge.rb ge.fr) shp_82, r1.len, hrl, hkin]
      refine hN3 [(0, Zy (fr : Nat)), (1, v), (2, .pointer (some ⟨pn, 0, none⟩)), (3, .pointer (some ⟨pr, 0, none⟩)), (4, .pointer (some ⟨pg, 0, none⟩)), (5, .pointer (some ⟨ps, 0, none⟩)), (6, .pointer (some ⟨pb, 0, none⟩)), (9, Zy (k : Nat)), (25, .bool true), (30, .bool true)] _ _ ?_ (by simp (maxSteps := 2000000) only [↓Za, ↓Zk, ↓Zs, ↓Zf, ↓Zn, ↓Zt, ↓Ze, ↓Zj, ↓Zg, ↓Zb, ↓Zc, ↓vdn, vup, Zl, Zh, Zi, Zm, Zo, List.map_cons, List.map_nil, cond_true, cond_false, aop, Zw, Zr, Zp, ev, sput, Zu, Zz, Yb, unK, Zd, Zx, Nat.reduceBEq, Nat.reduceAdd, Int.reduceBEq, Int.reduceBNe, Int.reduceLT, Zv, Ya, tup, tyf])
      clear hN3
      try clear N3
      refine Xq rfl ?_
      refine Yf ?_
      simp (maxSteps := 2000000) only [s85, ↓Za, ↓Zk, ↓Zs, ↓Zf, ↓Zn, ↓Zt, ↓Ze, ↓Zj, ↓Zg, ↓Zb, ↓Zc, ↓vdn, vup, Zl, Zh, Zi, Zm, Zo, List.map_cons, List.map_nil, cond_true, cond_false, aop, Zw, Zr, Zp, ev, sput, Zu, Zz, Yb, unK, Zd, Zx, Nat.reduceBEq, Nat.reduceAdd, Int.reduceBEq, Int.reduceBNe, Int.reduceLT, Zv, Ya, tup, tyf]
      refine hA [(0, Zy (fr : Nat)), (1, v), (2, .pointer (some ⟨pn, 0, none⟩)), (3, .pointer (some ⟨pr, 0, none⟩)), (4, .pointer (some ⟨pg, 0, none⟩)), (5, .pointer (some ⟨ps, 0, none⟩)), (6, .pointer (some ⟨pb, 0, none⟩)), (9, Zy (k : Nat)), (25, .bool true)] _ _ ?_ (by simp (maxSteps := 2000000) only [↓Za, ↓Zk, ↓Zs, ↓Zf, ↓Zn, ↓Zt, ↓Ze, ↓Zj, ↓Zg, ↓Zb, ↓Zc, ↓vdn, vup, Zl, Zh, Zi, Zm, Zo, List.map_cons, List.map_nil, cond_true, cond_false, aop, Zw, Zr, Zp, ev, sput, Zu, Zz, Yb, unK, Zd, Zx, Nat.reduceBEq, Nat.reduceAdd, Int.reduceBEq, Int.reduceBNe, Int.reduceLT, Zv, Ya, tup, tyf])
      clear hA
      try clear A
      refine Yg fun Y hY => ?_
      refine Yo ?_
      refine Yf ?_
      simp only [q85_4]
      have hgH := hkH.at_ ge.gb ge.fg
      obtain ⟨gf, hgf⟩ : ∃ z : Value, z = .func (.func 85) #[] #[.pointer (some ⟨pn, 0, none⟩), .pointer (some ⟨pr, 0, none⟩), .pointer (some ⟨pg, 0, none⟩), .pointer (some ⟨ps, 0, none⟩), .pointer (some ⟨pb, 0, none⟩)] := ⟨_, rfl⟩
      rw [← hgf] at hgH
      have hoH : OwnV 22 H v (B.map fun k => rws.getD k undef) := ho.same fun b hb => hE.2 b (ho.lt hb) fun hc => by
        obtain ⟨c, hc'⟩ := ho.blk hb
        rw [hc, hq] at hc'; cases hc'
      obtain ⟨w, hw⟩ : ∃ w, w = rws.getD k undef := ⟨_, rfl⟩
      have hwI : IntSl H w (rowI n sets k) := hw ▸ ge.row hkH hk'
      have hld : ∀ {K : Value → Prop}, Xt prog H 22 (Wo rv 1 k) K = K w := fun {K} => by rw [r1.load shp_22 hkW, hw]
      refine aw_drawR (fun z => z[pg]? = some (.cells [gf] 83 false)) [(0, 5), (15, 4)] (by kernel_rfl) (by kernel_rfl) (by kernel_rfl) (by kernel_rfl) hgH ?_
      simp (maxSteps := 2000000) only [s85, ↓Za, ↓Zk, ↓Zs, ↓Zf, ↓Zn, ↓Zt, ↓Ze, ↓Zj, ↓Zg, ↓Zb, ↓Zc, ↓vdn, vup, Zl, Zh, Zi, Zm, Zo, List.map_cons, List.map_nil, cond_true, cond_false, aop, Zw, Zr, Zp, ev, sput, Zu, Zz, Yb, unK, Zd, Zx, Nat.reduceBEq, Nat.reduceAdd, Int.reduceBEq, Int.reduceBNe, Int.reduceLT, Zv, Ya, tup, tyf, Nat.reduceLT, Bool.false_or, Bool.true_or]
      refine ⟨gf, fun hp hhp => by simp only [load1 hhp shp_83], ?_⟩
      simp (maxSteps := 2000000) only [s85, ↓Za, ↓Zk, ↓Zs, ↓Zf, ↓Zn, ↓Zt, ↓Ze, ↓Zj, ↓Zg, ↓Zb, ↓Zc, ↓vdn, vup, Zl, Zh, Zi, Zm, Zo, List.map_cons, List.map_nil, cond_true, cond_false, aop, Zw, Zr, Zp, ev, sput, Zu, Zz, Yb, unK, Zd, Zx, Nat.reduceBEq, Nat.reduceAdd, Int.reduceBEq, Int.reduceBNe, Int.reduceLT, Zv, Ya, tup, tyf, Nat.reduceLT, Bool.false_or, Bool.true_or, add1 (show k < 9223372036854775807 by omega), hoH.val.len, Option.map_some, Option.map_none]
      refine hoH.cap el_84 esz_22 fun cv hcv => ?_
      simp (maxSteps := 2000000) only [s85, ↓Za, ↓Zk, ↓Zs, ↓Zf, ↓Zn, ↓Zt, ↓Ze, ↓Zj, ↓Zg, ↓Zb, ↓Zc, ↓vdn, vup, Zl, Zh, Zi, Zm, Zo, List.map_cons, List.map_nil, cond_true, cond_false, aop, Zw, Zr, Zp, ev, sput, Zu, Zz, Yb, unK, Zd, Zx, Nat.reduceBEq, Nat.reduceAdd, Int.reduceBEq, Int.reduceBNe, Int.reduceLT, Zv, Ya, tup, tyf, Nat.reduceLT, Bool.false_or, Bool.true_or, load1 (hkH.at_ ge.rb ge.fr) shp_82, r1.idx el_82 esz_22 hkW, hld, List.toList_toArray, buildSlW el_84 zero_22 esz_22 hwI]
      refine ⟨get_old hgH _, ?_⟩
      have hval : ValSl (H ++ [Blk.cells [w] 22 false]) (.slice (some ⟨H.length, 0, none⟩) 1 1) [w] := .inr ⟨H.length, 0, none, 1, [w], 22, false, rfl, Nat.le_refl _, by simp [view, Blk.view], rfl⟩
      have hmapw : (B ++ [k]).map (fun k => rws.getD k undef) = B.map (fun k => rws.getD k undef) ++ [w] := by rw [List.map_append, hw]; rfl
      have hBm' : ∀ j ∈ B ++ [k], j < sets.length + n := fun j hj => by
        rcases List.mem_append.1 hj with hj | hj
        · exact hBm j hj
        · rw [List.mem_singleton.1 hj]; exact hk'
      refine (hcv.ext (Ext.app _ _ _)).app app_84_84 hval (by simp) (fun z hz => by
        rw [← hmapw, List.mem_map] at hz
        obtain ⟨j, hj, rfl⟩ := hz
        exact intSl_notI (ge.row hkH (hBm' j hj))) (by rw [hml]; simp only [List.length_singleton]; omega) fun nv hnv => ?_
      rw [← hmapw] at hnv ⊢
      obtain ⟨G, hG⟩ : ∃ G, G = H ++ [Blk.cells [w] 22 false] ++ [Blk.cells ((B ++ [k]).map fun k => rws.getD k undef) 22 false] := ⟨_, rfl⟩
      rw [← hG] at hnv ⊢
      have hEHG : Ext (fun _ => False) H G := by rw [hG]; simp only [List.append_assoc]; exact Ext.app _ _ _
      have hgG : G[pg]? = some (.cells [gf] 83 false) := (hEHG.2 _ (Xg hgH) id).trans hgH
      have hqG : G[pb]? = some (bC qk) := (hEHG.2 _ (Xg hqk) id).trans hqk
      have hEG : Ext (fun b => b = pb) h G := hE.trans (hEHG.mono fun _ h => h.elim)
      refine ⟨hgG, ?_⟩
      rw [hgf]
      simp (maxSteps := 2000000) only [s85, ↓Za, ↓Zk, ↓Zs, ↓Zf, ↓Zn, ↓Zt, ↓Ze, ↓Zj, ↓Zg, ↓Zb, ↓Zc, ↓vdn, vup, Zl, Zh, Zi, Zm, Zo, List.map_cons, List.map_nil, cond_true, cond_false, aop, Zw, Zr, Zp, ev, sput, Zu, Zz, Yb, unK, Zd, Zx, Nat.reduceBEq, Nat.reduceAdd, Int.reduceBEq, Int.reduceBNe, Int.reduceLT, Zv, Ya, tup, tyf, Nat.reduceLT, Bool.false_or, Bool.true_or, Yy, List.nil_append, List.append_nil, List.toList_toArray, List.cons_append]
      refine (ih (k + 1) (B ++ [k]) G nv qk (by rw [List.length_append, List.length_singleton]; omega) (hk.trans hEG) hnv hBm' hk' hqG hak).mono ?_
      rintro r G2 ⟨hE2, q2, hb2, ha2, hle2, hc2⟩
      refine ⟨by have := (hE2.2 _ (Xg hgG) ge.fg).trans hgG; rw [hgf] at this; exact this, ?_⟩
      refine hY [(0, Zy (fr : Nat)), (1, v), (2, .pointer (some ⟨pn, 0, none⟩)), (3, .pointer (some ⟨pr, 0, none⟩)), (4, .pointer (some ⟨pg, 0, none⟩)), (5, .pointer (some ⟨ps, 0, none⟩)), (6, .pointer (some ⟨pb, 0, none⟩)), (9, Zy (k : Nat)), (25, .bool true)] _ _ ?_ (by simp (maxSteps := 2000000) only [↓Za, ↓Zk, ↓Zs, ↓Zf, ↓Zn, ↓Zt, ↓Ze, ↓Zj, ↓Zg, ↓Zb, ↓Zc, ↓vdn, vup, Zl, Zh, Zi, Zm, Zo, List.map_cons, List.map_nil, cond_true, cond_false, aop, Zw, Zr, Zp, ev, sput, Zu, Zz, Yb, unK, Zd, Zx, Nat.reduceBEq, Nat.reduceAdd, Int.reduceBEq, Int.reduceBNe, Int.reduceLT, Zv, Ya, tup, tyf])
      clear hY
      try clear Y
      refine Yf ?_
      simp (maxSteps := 2000000) only [s85, ↓Za, ↓Zk, ↓Zs, ↓Zf, ↓Zn, ↓Zt, ↓Ze, ↓Zj, ↓Zg, ↓Zb, ↓Zc, ↓vdn, vup, Zl, Zh, Zi, Zm, Zo, List.map_cons, List.map_nil, cond_true, cond_false, aop, Zw, Zr, Zp, ev, sput, Zu, Zz, Yb, unK, Zd, Zx, Nat.reduceBEq, Nat.reduceAdd, Int.reduceBEq, Int.reduceBNe, Int.reduceLT, Zv, Ya, tup, tyf, add1 (show k < 9223372036854775807 by omega)]
      refine hQ2 _ _ _ ⟨(k + 1, G2, q2), ⟨⟨by simp only; omega, hk'⟩, hEG.trans hE2, hb2, ha2, Rat.le_trans hle hle2, fun k' t h1 h2 h3 h4 x hx => ?_⟩, by simp only; omega, by simp (maxSteps := 2000000) only [↓Za, ↓Zk, ↓Zs, ↓Zf, ↓Zn, ↓Zt, ↓Ze, ↓Zj, ↓Zg, ↓Zb, ↓Zc, ↓vdn, vup, Zl, Zh, Zi, Zm, Zo, List.map_cons, List.map_nil, cond_true, cond_false, aop, Zw, Zr, Zp, ev, sput, Zu, Zz, Yb, unK, Zd, Zx, Nat.reduceBEq, Nat.reduceAdd, Int.reduceBEq, Int.reduceBNe, Int.reduceLT, Zv, Ya, tup, tyf], rfl⟩
      simp only at h2
      by_cases hkk : k' = k
      · subst hkk
        exact hc2 t h3 h4 x (by rw [List.append_assoc]; exact hx)
      · exact Rat.le_trans (hno k' t h1 (by omega) h3 h4 x hx) hle2
    obtain rfl : k = sets.length + n := by omega
    refine Yg fun A hA => ?_
    refine Yc fun N4 hN4 => ?_
    simp (maxSteps := 2000000) only [s85, ↓Za, ↓Zk, ↓Zs, ↓Zf, ↓Zn, ↓Zt, ↓Ze, ↓Zj, ↓Zg, ↓Zb, ↓Zc, ↓vdn, vup, Zl, Zh, Zi, Zm, Zo, List.map_cons, List.map_nil, cond_true, cond_false, aop, Zw, Zr, Zp, ev, sput, Zu, Zz, Yb, unK, Zd, Zx, Nat.reduceBEq, Nat.reduceAdd, Int.reduceBEq, Int.reduceBNe, Int.reduceLT, Zv, Ya, tup, tyf, load1 (hkH.at_ ge.rb ge.fr) shp_82, r1.len, hrl, hkin]
    refine hN4 [(0, Zy (fr : Nat)), (1, v), (2, .pointer (some ⟨pn, 0, none⟩)), (3, .pointer (some ⟨pr, 0, none⟩)), (4, .pointer (some ⟨pg, 0, none⟩)), (5, .pointer (some ⟨ps, 0, none⟩)), (6, .pointer (some ⟨pb, 0, none⟩)), (9, Zy (sets.length + n : Nat)), (25, .bool true), (30, .bool false)] _ _ ?_ (by simp (maxSteps := 2000000) only [↓Za, ↓Zk, ↓Zs, ↓Zf, ↓Zn, ↓Zt, ↓Ze, ↓Zj, ↓Zg, ↓Zb, ↓Zc, ↓vdn, vup, Zl, Zh, Zi, Zm, Zo, List.map_cons, List.map_nil, cond_true, cond_false, aop, Zw, Zr, Zp, ev, sput, Zu, Zz, Yb, unK, Zd, Zx, Nat.reduceBEq, Nat.reduceAdd, Int.reduceBEq, Int.reduceBNe, Int.reduceLT, Zv, Ya, tup, tyf])
    clear hN4
    try clear N4
    refine Yz rfl ?_
    refine Yf ?_
    simp (maxSteps := 2000000) only [s85, ↓Za, ↓Zk, ↓Zs, ↓Zf, ↓Zn, ↓Zt, ↓Ze, ↓Zj, ↓Zg, ↓Zb, ↓Zc, ↓vdn, vup, Zl, Zh, Zi, Zm, Zo, List.map_cons, List.map_nil, cond_true, cond_false, aop, Zw, Zr, Zp, ev, sput, Zu, Zz, Yb, unK, Zd, Zx, Nat.reduceBEq, Nat.reduceAdd, Int.reduceBEq, Int.reduceBNe, Int.reduceLT, Zv, Ya, tup, tyf]
    refine hQ2 _ _ _ (hQ _ _ _ ?_)
    simp (maxSteps := 2000000) only [s85, ↓Za, ↓Zk, ↓Zs, ↓Zf, ↓Zn, ↓Zt, ↓Ze, ↓Zj, ↓Zg, ↓Zb, ↓Zc, ↓vdn, vup, Zl, Zh, Zi, Zm, Zo, List.map_cons, List.map_nil, cond_true, cond_false, aop, Zw, Zr, Zp, ev, sput, Zu, Zz, Yb, unK, Zd, Zx, Nat.reduceBEq, Nat.reduceAdd, Int.reduceBEq, Int.reduceBNe, Int.reduceLT, Zv, Ya, tup, tyf, if_true]
    refine hZ [(0, Zy (fr : Nat)), (1, v), (2, .pointer (some ⟨pn, 0, none⟩)), (3, .pointer (some ⟨pr, 0, none⟩)), (4, .pointer (some ⟨pg, 0, none⟩)), (5, .pointer (some ⟨ps, 0, none⟩)), (6, .pointer (some ⟨pb, 0, none⟩))] _ _ ?_ (by simp (maxSteps := 2000000) only [↓Za, ↓Zk, ↓Zs, ↓Zf, ↓Zn, ↓Zt, ↓Ze, ↓Zj, ↓Zg, ↓Zb, ↓Zc, ↓vdn, vup, Zl, Zh, Zi, Zm, Zo, List.map_cons, List.map_nil, cond_true, cond_false, aop, Zw, Zr, Zp, ev, sput, Zu, Zz, Yb, unK, Zd, Zx, Nat.reduceBEq, Nat.reduceAdd, Int.reduceBEq, Int.reduceBNe, Int.reduceLT, Zv, Ya, tup, tyf])
    clear hZ
    try clear Z
    refine Yf ?_
    simp (maxSteps := 2000000) only [s85, ↓Za, ↓Zk, ↓Zs, ↓Zf, ↓Zn, ↓Zt, ↓Ze, ↓Zj, ↓Zg, ↓Zb, ↓Zc, ↓vdn, vup, Zl, Zh, Zi, Zm, Zo, List.map_cons, List.map_nil, cond_true, cond_false, aop, Zw, Zr, Zp, ev, sput, Zu, Zz, Yb, unK, Zd, Zx, Nat.reduceBEq, Nat.reduceAdd, Int.reduceBEq, Int.reduceBNe, Int.reduceLT, Zv, Ya, tup, tyf]
    refine ⟨hE, qk, hqk, hak, hle, fun t ht htl x hx => ?_⟩
    cases t with
    | nil => cases htl
    | cons k t =>
      obtain ⟨h1, h2, h3⟩ := sub_cons ht
      rw [show fr + (sets.length + n - fr) = sets.length + n by omega] at h2 h3
      exact hno k t h1 h2 h3 (by simpa using htl) x hx
end Go.Proofs.Tryd.Am

namespace Bq
open Go.Am

def withinB (sets : List Nat) (s : Nat) : Bool := sets.any fun t => decide (s ≠ t) && decide (less s t = 0)
def keepL (sets : List Nat) : List Nat := sets.filter fun s => !withinB sets s
theorem less_sub {a b : Nat} : less a b = 0 ↔ ∀ k, a.testBit k = true → b.testBit k = true := by
  constructor
  · intro h k hk
    have := Yn a b k
    rw [h, Nat.zero_testBit, hk] at this
    simpa using this.symm
  · intro h
    refine Nat.eq_of_testBit_eq fun k => ?_
    rw [Yn, Nat.zero_testBit]
    cases hk : a.testBit k with
    | false => rfl
    | true => rw [h k hk]; rfl
theorem sub_le {a b : Nat} (h : less a b = 0) : a ≤ b := by
  have h1 : a &&& b = a := Nat.eq_of_testBit_eq fun k => by
    rw [Nat.testBit_and]
    cases hk : a.testBit k with
    | false => rfl
    | true => rw [less_sub.1 h k hk]; rfl
  rw [← h1]; exact Nat.and_le_right
theorem kept_over {sets : List Nat} {M : Nat} (hM : ∀ s ∈ sets, s < M) : ∀ (d s : Nat), M - s ≤ d → s ∈ sets → ∃ t ∈ keepL sets, less s t = 0 := by
  intro d
  induction d with
  | zero => intro s hd hs; have := hM s hs; omega
  | succ d ih =>
    intro s hd hs
    cases hw : withinB sets s with
    | false => exact ⟨s, List.mem_filter.2 ⟨hs, by rw [hw]; rfl⟩, less_sub.2 fun k h => h⟩
    | true =>
      obtain ⟨t, ht, h2⟩ := List.any_eq_true.1 hw
      rw [Bool.and_eq_true, decide_eq_true_eq, decide_eq_true_eq] at h2
      have h3 := sub_le h2.2
      have h4 := hM t ht
      obtain ⟨u, hu, h5⟩ := ih t (by omega) ht
      exact ⟨u, hu, less_sub.2 fun k hk => less_sub.1 h5 k (less_sub.1 h2.2 k hk)⟩
theorem feas_keep {n : Nat} {sets : List Nat} {x : Nat → Rat} : PFeas n (keepL sets) x ↔ PFeas n sets x := by
  constructor
  · intro h
    refine ⟨h.nn, fun s hs => ?_⟩
    obtain ⟨M, hM⟩ : ∃ M, ∀ s ∈ sets, s < M := by
      clear h hs
      induction sets with
      | nil => exact ⟨0, fun s h => by cases h⟩
      | cons a l ih =>
        obtain ⟨M, hM⟩ := ih
        refine ⟨max M (a + 1), fun s hs => ?_⟩
        rcases List.mem_cons.1 hs with rfl | hs
        · omega
        · have := hM s hs; omega
    obtain ⟨t, ht, hst⟩ := kept_over hM _ s (Nat.le_refl _) hs
    refine Rat.le_trans (sumTo_le fun i hi => ?_) (h.le t ht)
    refine Rat.mul_le_mul_of_nonneg_right ?_ (h.nn i hi)
    rw [bitQ, bitQ]
    by_cases hb : s.testBit i = true
    · rw [if_pos hb, if_pos (less_sub.1 hst i hb)]; exact Rat.le_refl
    · rw [if_neg hb]; split <;> decide
  · intro h
    exact ⟨h.nn, fun s hs => h.le s (List.mem_filter.1 hs).1⟩
theorem opt_keep {n : Nat} {sets : List Nat} {q : Rat} (h : IsOpt n (keepL sets) q) : IsOpt n sets q := by
  obtain ⟨⟨x, hx, e⟩, h2⟩ := h
  exact ⟨⟨x, feas_keep.1 hx, e⟩, fun x hx => h2 x (feas_keep.2 hx)⟩
theorem keep_cover {n : Nat} {sets : List Nat} (hM : ∀ s ∈ sets, s < 2 ^ n) (hc : ∀ i, i < n → ∃ s ∈ sets, s.testBit i = true) : ∀ i, i < n → ∃ s ∈ keepL sets, s.testBit i = true := fun i hi => by
  obtain ⟨s, hs, hb⟩ := hc i hi
  obtain ⟨t, ht, h⟩ := kept_over hM _ s (Nat.le_refl _) hs
  exact ⟨t, ht, less_sub.1 h i hb⟩
end Bq

namespace Go.Proofs.Tryd.Am
open Go.Am Bq
set_option maxRecDepth 100000
set_option maxHeartbeats 4000000

theorem boxV22 {h : Yd} {v : Value} {xs : List Int} (hv : IntSl h v xs) {g : Yd} {K : Value → Yd → Prop} : boxK prog g 22 v K = K (Wd g) (g ++ [.cells [v] 22 false]) := by
  rcases hv with ⟨rfl, rfl⟩ | ⟨b, o, sp, cap, c, e, ro, rfl, _⟩ <;> simp [boxK, esz_22, Wd, cellsOf]
theorem intSl_box {h : Yd} {r v : Value} {xs zs : List Int} {b : Nat} {e : TypeId} {ro : Bool} (hr : IntSl h r xs) (hx : xs ≠ []) (hv : IntSl h v zs) (hb : h[b]? = some (.cells [v] e ro)) : Yq r ≠ some b := fun hc => by
  rcases hr with ⟨rfl, rfl⟩ | ⟨b', o, sp, cap, c, e', ro', rfl, hcap, hw, hg⟩
  · exact hx rfl
  · cases hc
    simp only [view, hb, Option.bind_some, Blk.view] at hw
    cases hw
    have h0 := hg 0 (List.length_pos_iff.2 hx)
    have h1 := List.mem_of_getElem? h0
    rw [List.mem_singleton] at h1
    rcases hv with ⟨rfl, _⟩ | ⟨b2, o2, sp2, cap2, c2, e2, ro2, rfl, _⟩ <;> cases h1
theorem ints_but {h h' : Yd} {v : Value} {xs : List Int} {bb : Nat} (hv : IntSl h v xs) (hn : Yq v ≠ some bb) (hE : Ext (fun i => i = bb) h h') : IntSl h' v xs :=
  hv.same fun b hb => hE.2 b (hv.lt hb) fun he => hn (by rw [hb, he])
def sI (sets : List Nat) : List Int := sets.map fun s => ((s : Nat) : Int)
theorem sI_len (sets : List Nat) : (sI sets).length = sets.length := by simp [sI]
theorem within_any (sets : List Nat) (s : Nat) : (sI sets).any (inB s) = withinB sets s := by
  rw [sI, List.any_map, withinB]
  congr 1
  funext t
  simp only [Function.comp, inB, Int.toNat_natCast]
  congr 1
  rw [decide_eq_decide]; omega
theorem keep_ints (sets : List Nat) : (sI sets).filter (fun x => !(sI sets).any (inB x.toNat)) = sI (keepL sets) := by
  have h : ∀ l : List Nat, (sI l).filter (fun x => !(sI sets).any (inB x.toNat)) = sI (l.filter fun s => !withinB sets s) := fun l => by
    rw [sI, sI, List.filter_map]
    congr 1
    refine List.filter_congr fun s _ => ?_
    have := within_any sets s
    rw [sI] at this
    simp only [Function.comp, Int.toNat_natCast, this]
  exact h sets

def RW (G : Yd) (p5 : Nat) (rv w : Value) (l : List Int) : Prop := IntSl G w l ∧ ∀ b, Yq w = some b → b ≠ p5 ∧ Yq rv ≠ some b
structure RS (n : Nat) (sets : List Nat) (H0 : Yd) (p5 : Nat) (G : Yd) (rv : Value) (ws : List Value) (k : Nat) : Prop where
  ext : Ext (fun b => b = p5) H0 G
  box : G[p5]? = some (.cells [rv] 82 false)
  own : OwnV 22 G rv ws
  rows : Each (RW G p5 rv) ws ((List.range k).map (rowI n sets))
  new : ∀ b, Yq rv = some b → H0.length ≤ b
  p : p5 < H0.length
theorem RS.keep {n : Nat} {sets : List Nat} {H0 : Yd} {p5 : Nat} {G : Yd} {rv : Value} {ws : List Value} {k : Nat} (s : RS n sets H0 p5 G rv ws k) {b : Nat} {B : Blk} (hb : H0[b]? = some B) (hn : b ≠ p5) : G[b]? = some B := (s.ext.2 b (Xg hb) hn).trans hb
theorem RS.step {n : Nat} {sets : List Nat} {H0 : Yd} {p5 : Nat} {G : Yd} {rv : Value} {ws : List Value} {k : Nat} (s : RS n sets H0 p5 G rv ws k) {G1 : Yd} (hE : Ext (fun _ => False) G G1) {w : Value} (hw : IntSl G1 w (rowI n sets k)) (hb : ∀ b, Yq w = some b → G.length ≤ b) (hk1 : k < 2000) {K : Value → Yd → Prop}
    (hk : ∀ v' h', h'[p5]? = some (.cells [rv] 82 false) → one v' = true → RS n sets H0 p5 (h'.set p5 (.cells [v'] 82 false)) v' (ws ++ [w]) (k + 1) → K v' h') :
    Yw prog (G1 ++ [.cells [w] 22 false]) 82 82 rv (.slice (some ⟨G1.length, 0, none⟩) 1 1) K := by
  obtain ⟨G2, hG2⟩ : ∃ G2, G2 = G1 ++ [Blk.cells [w] 22 false] := ⟨_, rfl⟩
  have hval : ValSl G2 (.slice (some ⟨G1.length, 0, none⟩) 1 1) [w] := by
    rw [hG2]; exact .inr ⟨G1.length, 0, none, 1, [w], 22, false, rfl, Nat.le_refl _, by simp [view, Blk.view], rfl⟩
  have hE12 : Ext (fun _ => False) G1 G2 := by rw [hG2]; exact Ext.app _ _ _
  have hEa : Ext (fun _ => False) G G2 := hE.trans hE12
  have hl2 : G2.length = G1.length + 1 := by rw [hG2]; simp
  have hGG : G.length ≤ G1.length := hE.1
  rw [← hG2]
  have hlen := s.rows.len
  rw [List.length_map, List.length_range] at hlen
  have hHG : H0.length ≤ G.length := s.ext.1
  have hp := s.p
  refine (s.own.ext hEa).app app_82_82 hval (fun x hx => ?_) (by rw [hlen, List.length_singleton]; omega) fun v' h' ho hE2 hb2 => ?_
  · rcases List.mem_append.1 hx with hx | hx
    · obtain ⟨l, hl⟩ := s.rows.mem x hx; exact intSl_notI hl.1
    · rw [List.mem_singleton.1 hx]; exact intSl_notI hw
  have hE3 : Ext (fun i => Yq rv = some i) G h' := (hEa.mono fun _ h => h.elim).trans hE2
  have hrp : Yq rv ≠ some p5 := fun hc => by have := s.new _ hc; omega
  have hbox : h'[p5]? = some (.cells [rv] 82 false) := (hE3.2 p5 (Xg s.box) hrp).trans s.box
  have hvp : ∀ b, Yq v' = some b → H0.length ≤ b := fun b hc => by
    rcases hb2 with h1 | ⟨b', h1, h2⟩
    · exact s.new b (h1 ▸ hc)
    · rw [h1] at hc; cases hc; omega
  have hset : ∀ b, b ≠ p5 → (h'.set p5 (Blk.cells [v'] 82 false))[b]? = h'[b]? := fun b hne => List.getElem?_set_ne fun he => hne he.symm
  refine hk v' h' hbox (by rcases ho with ⟨rfl, _⟩ | ⟨b, ys, rfl, _⟩ <;> rfl) ⟨⟨by rw [List.length_set]; exact Nat.le_trans hHG hE3.1, fun i hi hne => ?_⟩, get_set (Xg hbox) _, ho.same fun b hc => hset b (by have := hvp b hc; omega), ?_, hvp, hp⟩
  · rw [hset i hne, hE3.2 i (by omega) (fun hc => by have := s.new _ hc; omega)]
    exact s.ext.2 i hi hne
  · rw [List.range_succ, List.map_append]
    refine Each.app (s.rows.imp fun x l ⟨hx, hxb⟩ => ⟨hx.same fun b hc => ?_, fun b hc => ⟨(hxb b hc).1, fun hc2 => ?_⟩⟩) ⟨⟨hw.same fun b hc => ?_, fun b hc => ⟨?_, fun hc2 => ?_⟩⟩, trivial⟩
    · rw [hset b (hxb b hc).1]
      exact hE3.2 b (hx.lt hc) (hxb b hc).2
    · rcases hb2 with h1 | ⟨b', h1, h2⟩
      · exact (hxb b hc).2 (h1 ▸ hc2)
      · rw [h1] at hc2; cases hc2
        have := hx.lt hc; omega
    · have h1 := hb b hc
      have h2 := hw.lt hc
      rw [hset b (by omega), hE2.2 b (by omega) (fun hc3 => by have := s.own.lt hc3; omega)]
      exact hE12.2 b h2 id
    · have := hb b hc; omega
    · have h1' := hb b hc
      have h2' := hw.lt hc
      rcases hb2 with h1 | ⟨b', h1, h2⟩
      · rw [h1] at hc2
        have := s.own.lt hc2; omega
      · rw [h1] at hc2; cases hc2; omega
theorem RS.nil {n : Nat} {sets : List Nat} (G0 : Yd) : RS n sets (G0 ++ [.cells [.slice none 0 0] 82 false]) G0.length (G0 ++ [.cells [.slice none 0 0] 82 false]) (.slice none 0 0) [] 0 :=
  ⟨Ext.refl _ _, Xp _ _, .inl ⟨rfl, rfl⟩, trivial, fun b hb => (by cases hb), by simp⟩
def bitsI (t i : Nat) : List Int := (List.range i).map fun j => if t.testBit j then 1 else 0
theorem bitsI_len (t i : Nat) : (bitsI t i).length = i := by simp [bitsI]
theorem bitsI_succ (t i : Nat) : bitsI t (i + 1) = bitsI t i ++ [if t.testBit i then 1 else 0] := by rw [bitsI, List.range_succ, List.map_append]; rfl
theorem row_set {n : Nat} {sets : List Nat} {k : Nat} (h : k < sets.length) : rowI n sets k = bitsI (sets.getD k 0) n ++ [1] := by
  rw [rowI, bitsI, if_pos h]
  congr 1
  refine List.map_congr_left fun i _ => by rw [if_pos h]
theorem row_unit {n : Nat} {sets : List Nat} {i : Nat} (h : i < n) : rowI n sets (sets.length + i) = (List.replicate (n + 1) (0 : Int)).set i 1 := by
  rw [rowI, if_neg (by omega)]
  refine List.ext_getElem (by simp) fun j h1 h2 => ?_
  rw [List.length_append, List.length_map, List.length_range, List.length_singleton] at h1
  rw [List.getElem_set]
  by_cases hj : j < n
  · rw [List.getElem_append_left (by simpa using hj), List.getElem_map, List.getElem_range, if_neg (by omega), Nat.add_sub_cancel_left, List.getElem_replicate]
    by_cases hij : j = i
    · rw [if_pos hij, if_pos hij.symm]
    · rw [if_neg hij, if_neg fun h => hij h.symm]
  · rw [List.getElem_append_right (by simpa using hj), if_neg (by omega), List.getElem_replicate]; simp
theorem ext_ge {S : Nat → Prop} {h a b : Yd} (h1 : Ext (fun _ => False) h a) (hs : ∀ i, S i → h.length ≤ i) (h2 : Ext S a b) : Ext (fun _ => False) h b :=
  ⟨Nat.le_trans h1.1 h2.1, fun i hi _ => (h2.2 i (Nat.lt_of_lt_of_le hi h1.1) fun hc => by have := hs i hc; omega).trans (h1.2 i hi id)⟩

theorem s61_callW [Tabs Tryd.prog] {args : List Value} {h : Yd} {Q : Value → Yd → Prop} (hsz : args.length ≤ 63) (hk : AWS Tryd.prog 63 s61 (Zv Tryd.prog [.cell 4 44] Q) (Zp 0 args) h) : ACall Tryd.prog 61 args h Q :=
  Wb Tryd.func61 rfl (enters_of Tryd.func61 (by kernel_rfl) rfl) rfl rfl (by decide) s61_strip s61_ok hsz hk
theorem packing_call [Tabs prog] {n : Nat} {sets : List Nat} {h : Yd} {v : Value} (hv : IntSl h v (sI sets)) (h0 : sets ≠ []) (n1 : 1 ≤ n) (n6 : n ≤ 6) (hs : ∀ s ∈ sets, s < 2 ^ n) (hl : sets.length < 1000) (hc : ∀ i, i < n → ∃ s ∈ sets, s.testBit i = true) :
    ACall prog 61 [Zy (n : Nat), v] h fun r h' => Ext (fun _ => False) h h' ∧ ∃ q, r = qV q ∧ IsOpt n sets q ∧ Att n sets q := by
  have hs64 : ∀ s ∈ sets, s < 64 := fun s hm => Nat.lt_of_lt_of_le (hs s hm) (show 2 ^ n ≤ 2 ^ 6 from Nat.pow_le_pow_right (by decide) n6)
  obtain ⟨H, hH⟩ : ∃ H, H = h ++ [Blk.cells [Zy (n : Nat)] 3 false] ++ [Blk.cells [v] 22 false] ++ [Blk.cells [.int .i64 0, .int .i64 0] 44 false] := ⟨_, rfl⟩
  have c2 : H[h.length]? = some (.cells [Zy (n : Nat)] 3 false) := by rw [hH]; simp
  have c3 : H[h.length + 1]? = some (.cells [v] 22 false) := by rw [hH]; simp
  have c4 : H[h.length + 2]? = some (.cells [.int .i64 0, .int .i64 0] 44 false) := by rw [hH]; simp
  have lH : H.length = h.length + 3 := by rw [hH]; simp
  have hEH : Ext (fun _ => False) h H := by rw [hH]; simp only [List.append_assoc]; exact Ext.app _ _ _
  have hvH : IntSl H v (sI sets) := Xn hv hEH
  refine s61_callW (by simp) ?_
  simp only [s61]
  refine Yc fun N1 hN1 => ?_
  simp (maxSteps := 2000000) only [s61, ↓Za, ↓Zk, ↓Zs, ↓Zf, ↓Zn, ↓Zt, ↓Ze, ↓Zj, ↓Zg, ↓Zb, ↓Zc, ↓vdn, vup, Zl, Zh, Zi, Zm, Zo, List.map_cons, List.map_nil, cond_true, cond_false, aop, Zw, Zr, Zp, ev, sput, Zu, Zz, Yb, unK, Zd, Zx, Nat.reduceBEq, Nat.reduceAdd, Int.reduceBEq, Int.reduceBNe, Int.reduceLT, Zv, Ya, tup, tyf, boxI, boxV22 hv, Wd, Ve, zero_44, List.length_append, List.length_singleton, Nat.add_assoc, Nat.reduceAdd]
  rw [← hH]
  refine hN1 [(0, Zy (n : Nat)), (1, v), (2, .pointer (some ⟨h.length, 0, none⟩)), (3, .pointer (some ⟨h.length + 1, 0, none⟩)), (4, .pointer (some ⟨h.length + 2, 0, none⟩))] _ _ ?_ (by simp (maxSteps := 2000000) only [↓Za, ↓Zk, ↓Zs, ↓Zf, ↓Zn, ↓Zt, ↓Ze, ↓Zj, ↓Zg, ↓Zb, ↓Zc, ↓vdn, vup, Zl, Zh, Zi, Zm, Zo, List.map_cons, List.map_nil, cond_true, cond_false, aop, Zw, Zr, Zp, ev, sput, Zu, Zz, Yb, unK, Zd, Zx, Nat.reduceBEq, Nat.reduceAdd, Int.reduceBEq, Int.reduceBNe, Int.reduceLT, Zv, Ya, tup, tyf])
  clear hN1
  try clear N1
  refine Yc fun N2 hN2 => ?_
  simp (maxSteps := 2000000) only [s61, ↓Za, ↓Zk, ↓Zs, ↓Zf, ↓Zn, ↓Zt, ↓Ze, ↓Zj, ↓Zg, ↓Zb, ↓Zc, ↓vdn, vup, Zl, Zh, Zi, Zm, Zo, List.map_cons, List.map_nil, cond_true, cond_false, aop, Zw, Zr, Zp, ev, sput, Zu, Zz, Yb, unK, Zd, Zx, Nat.reduceBEq, Nat.reduceAdd, Int.reduceBEq, Int.reduceBNe, Int.reduceLT, Zv, Ya, tup, tyf, load1 c3 shp_22, Yy, List.nil_append, List.append_nil, List.toList_toArray, List.cons_append]
  refine (clone_rsi hvH (fun hc => h0 (by simpa [sI] using hc)) (by rw [sI_len]; omega)).mono ?_
  rintro w H1 hw1
  simp (maxSteps := 2000000) only [s61, ↓Za, ↓Zk, ↓Zs, ↓Zf, ↓Zn, ↓Zt, ↓Ze, ↓Zj, ↓Zg, ↓Zb, ↓Zc, ↓vdn, vup, Zl, Zh, Zi, Zm, Zo, List.map_cons, List.map_nil, cond_true, cond_false, aop, Zw, Zr, Zp, ev, sput, Zu, Zz, Yb, unK, Zd, Zx, Nat.reduceBEq, Nat.reduceAdd, Int.reduceBEq, Int.reduceBNe, Int.reduceLT, Zv, Ya, tup, tyf, List.map_toArray, Yy, List.nil_append, List.append_nil, List.toList_toArray, List.cons_append]
  have hbw : ∀ b, b < H.length → Yq w ≠ some b := fun b hb hc => by have := hw1.2.2 b hc; omega
  have keepG : ∀ {G : Yd}, Ext (fun b => Yq w = some b) H1 G → ∀ {b : Nat} {C : Blk}, H[b]? = some C → G[b]? = some C := fun {G} hG {b C} hb =>
    (hG.2 b (Xg ((hw1.2.1.2 b (Xg hb) id).trans hb)) (hbw b (Xg hb))).trans ((hw1.2.1.2 b (Xg hb) id).trans hb)
  have vG : ∀ {G : Yd}, Ext (fun b => Yq w = some b) H1 G → IntSl G v (sI sets) := fun {G} hG => hvH.same fun b hb => by
    have hl := hvH.lt hb
    obtain ⟨C, hC⟩ : ∃ C, H[b]? = some C := ⟨_, List.getElem?_eq_getElem hl⟩
    rw [keepG hG hC, hC]
  refine (delete_call (p := fun x => (sI sets).any (inB x.toNat)) hw1.1 (by rw [sI_len]; omega) fun G hG x hx => ?_).mono ?_
  · obtain ⟨s, hsm, rfl⟩ := List.mem_map.1 hx
    have := hs64 s hsm
    exact sub_call (keepG hG c3) (vG hG) (by rw [sI_len]; omega) (by omega) fun y hy => by
      obtain ⟨t, ht, rfl⟩ := List.mem_map.1 hy
      have := hs64 t ht
      exact ⟨t, rfl, by omega⟩
  rintro r H2 ⟨hr, hE2⟩
  rw [keep_ints] at hr
  have hkne : keepL sets ≠ [] := fun hc => by
    obtain ⟨i, hi⟩ := List.exists_mem_of_ne_nil _ h0
    obtain ⟨t, ht, _⟩ := kept_over hs _ i (Nat.le_refl _) hi
    rw [hc] at ht; cases ht
  have c3' := keepG hE2 c3
  simp (maxSteps := 2000000) only [s61, ↓Za, ↓Zk, ↓Zs, ↓Zf, ↓Zn, ↓Zt, ↓Ze, ↓Zj, ↓Zg, ↓Zb, ↓Zc, ↓vdn, vup, Zl, Zh, Zi, Zm, Zo, List.map_cons, List.map_nil, cond_true, cond_false, aop, Zw, Zr, Zp, ev, sput, Zu, Zz, Yb, unK, Zd, Zx, Nat.reduceBEq, Nat.reduceAdd, Int.reduceBEq, Int.reduceBNe, Int.reduceLT, Zv, Ya, tup, tyf, store1 c3' shp_22 (intSl_notI hr).2]
  have hrb := intSl_box hr (fun hc => hkne (by simpa [sI] using hc)) (vG hE2) c3'
  obtain ⟨G0, hG0⟩ : ∃ G0, G0 = H2.set (h.length + 1) (.cells [r] 22 false) := ⟨_, rfl⟩
  have hrG : IntSl G0 r (sI (keepL sets)) := hr.same fun b hb => by rw [hG0]; exact List.getElem?_set_ne fun he => hrb (by rw [he]; exact hb)
  rw [← hG0]
  refine hN2 [(0, Zy (n : Nat)), (1, v), (2, .pointer (some ⟨h.length, 0, none⟩)), (3, .pointer (some ⟨h.length + 1, 0, none⟩)), (4, .pointer (some ⟨h.length + 2, 0, none⟩))] _ _ ?_ (by simp (maxSteps := 2000000) only [↓Za, ↓Zk, ↓Zs, ↓Zf, ↓Zn, ↓Zt, ↓Ze, ↓Zj, ↓Zg, ↓Zb, ↓Zc, ↓vdn, vup, Zl, Zh, Zi, Zm, Zo, List.map_cons, List.map_nil, cond_true, cond_false, aop, Zw, Zr, Zp, ev, sput, Zu, Zz, Yb, unK, Zd, Zx, Nat.reduceBEq, Nat.reduceAdd, Int.reduceBEq, Int.reduceBNe, Int.reduceLT, Zv, Ya, tup, tyf])
  clear hN2
  try clear N2
  have keep0 : ∀ {b : Nat} {C : Blk}, H[b]? = some C → b ≠ h.length + 1 → G0[b]? = some C := fun {b C} hb hn => by
    rw [hG0, List.getElem?_set_ne fun he => hn he.symm]; exact keepG hE2 hb
  have hl0 : H.length ≤ G0.length := by rw [hG0, List.length_set]; exact Nat.le_trans hw1.2.1.1 hE2.1
  refine Yc fun N3 hN3 => ?_
  simp (maxSteps := 2000000) only [s61, ↓Za, ↓Zk, ↓Zs, ↓Zf, ↓Zn, ↓Zt, ↓Ze, ↓Zj, ↓Zg, ↓Zb, ↓Zc, ↓vdn, vup, Zl, Zh, Zi, Zm, Zo, List.map_cons, List.map_nil, cond_true, cond_false, aop, Zw, Zr, Zp, ev, sput, Zu, Zz, Yb, unK, Zd, Zx, Nat.reduceBEq, Nat.reduceAdd, Int.reduceBEq, Int.reduceBNe, Int.reduceLT, Zv, Ya, tup, tyf, Ve, Wd, zero_82]
  have s0 : RS n (keepL sets) (G0 ++ [Blk.cells [.slice none 0 0] 82 false]) G0.length (G0 ++ [Blk.cells [.slice none 0 0] 82 false]) (.slice none 0 0) [] 0 := RS.nil G0
  obtain ⟨H0, hH0⟩ : ∃ H0, H0 = G0 ++ [Blk.cells [.slice none 0 0] 82 false] := ⟨_, rfl⟩
  rw [← hH0] at s0 ⊢
  refine hN3 [(0, Zy (n : Nat)), (1, v), (2, .pointer (some ⟨h.length, 0, none⟩)), (3, .pointer (some ⟨h.length + 1, 0, none⟩)), (4, .pointer (some ⟨h.length + 2, 0, none⟩)), (5, .pointer (some ⟨G0.length, 0, none⟩))] _ _ ?_ (by simp (maxSteps := 2000000) only [↓Za, ↓Zk, ↓Zs, ↓Zf, ↓Zn, ↓Zt, ↓Ze, ↓Zj, ↓Zg, ↓Zb, ↓Zc, ↓vdn, vup, Zl, Zh, Zi, Zm, Zo, List.map_cons, List.map_nil, cond_true, cond_false, aop, Zw, Zr, Zp, ev, sput, Zu, Zz, Yb, unK, Zd, Zx, Nat.reduceBEq, Nat.reduceAdd, Int.reduceBEq, Int.reduceBNe, Int.reduceLT, Zv, Ya, tup, tyf])
  clear hN3
  try clear N3
  have hE00 : Ext (fun _ => False) G0 H0 := by rw [hH0]; exact Ext.app _ _ _
  have up : ∀ {b : Nat} {C : Blk}, G0[b]? = some C → H0[b]? = some C := fun {b C} hb => (hE00.2 b (Xg hb) id).trans hb
  have e2 := up (keep0 c2 (by omega))
  have e3 : H0[h.length + 1]? = some (.cells [r] 22 false) := up (by rw [hG0]; exact get_set (Xg c3') _)
  have e4 := up (keep0 c4 (by omega))
  have hrH : IntSl H0 r (sI (keepL sets)) := hrG.same fun b hb => hE00.2 b (hrG.lt hb) id
  have hr5 : Yq r ≠ some G0.length := fun hc => by have := hrG.lt hc; omega
  obtain ⟨K, hK⟩ : ∃ K, keepL sets = K := ⟨_, rfl⟩
  have hKl : K.length ≤ sets.length := by rw [← hK, keepL]; exact List.length_filter_le ..
  have hKm : ∀ t ∈ K, t ∈ sets := fun t ht => by rw [← hK] at ht; exact (List.mem_filter.1 ht).1
  rw [hK] at s0 hrH
  refine Yg fun Z hZ => ?_
  refine Yc fun N4 hN4 => ?_
  simp (maxSteps := 2000000) only [s61, ↓Za, ↓Zk, ↓Zs, ↓Zf, ↓Zn, ↓Zt, ↓Ze, ↓Zj, ↓Zg, ↓Zb, ↓Zc, ↓vdn, vup, Zl, Zh, Zi, Zm, Zo, List.map_cons, List.map_nil, cond_true, cond_false, aop, Zw, Zr, Zp, ev, sput, Zu, Zz, Yb, unK, Zd, Zx, Nat.reduceBEq, Nat.reduceAdd, Int.reduceBEq, Int.reduceBNe, Int.reduceLT, Zv, Ya, tup, tyf, load1 e3 shp_22, hrH.len, sI_len]
  refine hN4 [(0, Zy (n : Nat)), (1, v), (2, .pointer (some ⟨h.length, 0, none⟩)), (3, .pointer (some ⟨h.length + 1, 0, none⟩)), (4, .pointer (some ⟨h.length + 2, 0, none⟩)), (5, .pointer (some ⟨G0.length, 0, none⟩)), (18, r), (19, Zy K.length), (20, .int .i64 0)] _ _ ?_ (by simp (maxSteps := 2000000) only [↓Za, ↓Zk, ↓Zs, ↓Zf, ↓Zn, ↓Zt, ↓Ze, ↓Zj, ↓Zg, ↓Zb, ↓Zc, ↓vdn, vup, Zl, Zh, Zi, Zm, Zo, List.map_cons, List.map_nil, cond_true, cond_false, aop, Zw, Zr, Zp, ev, sput, Zu, Zz, Yb, unK, Zd, Zx, Nat.reduceBEq, Nat.reduceAdd, Int.reduceBEq, Int.reduceBNe, Int.reduceLT, Zv, Ya, tup, tyf])
  clear hN4
  try clear N4
  refine Yo ?_
  refine Yh fun Q hQ => ?_
  refine Xs (γ := Nat × Yd × Value × List Value) (fun g => g.1 ≤ K.length ∧ RS n K H0 G0.length g.2.1 g.2.2.1 g.2.2.2 g.1)
    (fun g => ([(0, Zy (n : Nat)), (1, v), (2, .pointer (some ⟨h.length, 0, none⟩)), (3, .pointer (some ⟨h.length + 1, 0, none⟩)), (4, .pointer (some ⟨h.length + 2, 0, none⟩)), (5, .pointer (some ⟨G0.length, 0, none⟩)), (18, r), (19, Zy K.length), (20, Zy (g.1 : Nat))], g.2.1)) (fun g => K.length - g.1) (0, H0, .slice none 0 0, []) ⟨Nat.zero_le _, s0⟩ (by simp (maxSteps := 2000000) only [↓Za, ↓Zk, ↓Zs, ↓Zf, ↓Zn, ↓Zt, ↓Ze, ↓Zj, ↓Zg, ↓Zb, ↓Zc, ↓vdn, vup, Zl, Zh, Zi, Zm, Zo, List.map_cons, List.map_nil, cond_true, cond_false, aop, Zw, Zr, Zp, ev, sput, Zu, Zz, Yb, unK, Zd, Zx, Nat.reduceBEq, Nat.reduceAdd, Int.reduceBEq, Int.reduceBNe, Int.reduceLT, Zv, Ya, tup, tyf, Int.natCast_zero]) rfl ?_
  rintro ⟨k, G, rv, ws⟩ ⟨hk, s⟩
  simp only at hk s
  refine Yh fun Q2 hQ2 => ?_
  simp only [l61_1]
  by_cases hkn : (k : Int) < K.length
  · have hk' : k < K.length := by omega
    have hkS : k < (sI K).length := by rw [sI_len]; exact hk'
    obtain ⟨t, ht⟩ : ∃ t, K.getD k 0 = t := ⟨_, rfl⟩
    have htm : t ∈ K := ht ▸ getD_in hk'
    have ht64 := hs64 t (hKm t htm)
    have htest := fun y => @testV t y (by omega)
    have hrGk := ints_but hrH hr5 s.ext
    have e2G := s.keep e2 (by omega)
    have hsg : (sI K).getD k 0 = ((t : Nat) : Int) := by rw [← ht, sI, List.getD, List.getElem?_map, List.getD, List.getElem?_eq_getElem hk']; rfl
    refine Yc fun N5 hN5 => ?_
    simp (maxSteps := 2000000) only [s61, ↓Za, ↓Zk, ↓Zs, ↓Zf, ↓Zn, ↓Zt, ↓Ze, ↓Zj, ↓Zg, ↓Zb, ↓Zc, ↓vdn, vup, Zl, Zh, Zi, Zm, Zo, List.map_cons, List.map_nil, cond_true, cond_false, aop, Zw, Zr, Zp, ev, sput, Zu, Zz, Yb, unK, Zd, Zx, Nat.reduceBEq, Nat.reduceAdd, Int.reduceBEq, Int.reduceBNe, Int.reduceLT, Zv, Ya, tup, tyf, hkn]
    refine hN5 [(0, Zy (n : Nat)), (1, v), (2, .pointer (some ⟨h.length, 0, none⟩)), (3, .pointer (some ⟨h.length + 1, 0, none⟩)), (4, .pointer (some ⟨h.length + 2, 0, none⟩)), (5, .pointer (some ⟨G0.length, 0, none⟩)), (18, r), (19, Zy K.length), (20, Zy (k : Nat)), (21, .bool true)] _ _ ?_ (by simp (maxSteps := 2000000) only [↓Za, ↓Zk, ↓Zs, ↓Zf, ↓Zn, ↓Zt, ↓Ze, ↓Zj, ↓Zg, ↓Zb, ↓Zc, ↓vdn, vup, Zl, Zh, Zi, Zm, Zo, List.map_cons, List.map_nil, cond_true, cond_false, aop, Zw, Zr, Zp, ev, sput, Zu, Zz, Yb, unK, Zd, Zx, Nat.reduceBEq, Nat.reduceAdd, Int.reduceBEq, Int.reduceBNe, Int.reduceLT, Zv, Ya, tup, tyf])
    clear hN5
    try clear N5
    refine Yc fun N6 hN6 => ?_
    simp (maxSteps := 2000000) only [s61, ↓Za, ↓Zk, ↓Zs, ↓Zf, ↓Zn, ↓Zt, ↓Ze, ↓Zj, ↓Zg, ↓Zb, ↓Zc, ↓vdn, vup, Zl, Zh, Zi, Zm, Zo, List.map_cons, List.map_nil, cond_true, cond_false, aop, Zw, Zr, Zp, ev, sput, Zu, Zz, Yb, unK, Zd, Zx, Nat.reduceBEq, Nat.reduceAdd, Int.reduceBEq, Int.reduceBNe, Int.reduceLT, Zv, Ya, tup, tyf]
    refine hN6 [(0, Zy (n : Nat)), (1, v), (2, .pointer (some ⟨h.length, 0, none⟩)), (3, .pointer (some ⟨h.length + 1, 0, none⟩)), (4, .pointer (some ⟨h.length + 2, 0, none⟩)), (5, .pointer (some ⟨G0.length, 0, none⟩)), (18, r), (19, Zy K.length), (20, Zy (k : Nat))] _ _ ?_ (by simp (maxSteps := 2000000) only [↓Za, ↓Zk, ↓Zs, ↓Zf, ↓Zn, ↓Zt, ↓Ze, ↓Zj, ↓Zg, ↓Zb, ↓Zc, ↓vdn, vup, Zl, Zh, Zi, Zm, Zo, List.map_cons, List.map_nil, cond_true, cond_false, aop, Zw, Zr, Zp, ev, sput, Zu, Zz, Yb, unK, Zd, Zx, Nat.reduceBEq, Nat.reduceAdd, Int.reduceBEq, Int.reduceBNe, Int.reduceLT, Zv, Ya, tup, tyf])
    clear hN6
    try clear N6
    refine Yg fun B hB => ?_
    refine Yo ?_
    refine Yc fun N7 hN7 => ?_
    simp (maxSteps := 2000000) only [s61, ↓Za, ↓Zk, ↓Zs, ↓Zf, ↓Zn, ↓Zt, ↓Ze, ↓Zj, ↓Zg, ↓Zb, ↓Zc, ↓vdn, vup, Zl, Zh, Zi, Zm, Zo, List.map_cons, List.map_nil, cond_true, cond_false, aop, Zw, Zr, Zp, ev, sput, Zu, Zz, Yb, unK, Zd, Zx, Nat.reduceBEq, Nat.reduceAdd, Int.reduceBEq, Int.reduceBNe, Int.reduceLT, Zv, Ya, tup, tyf, hrGk.idx Xv Xi hkS, hrGk.load Xl hkS, hsg]
    refine hN7 [(0, Zy (n : Nat)), (1, v), (2, .pointer (some ⟨h.length, 0, none⟩)), (3, .pointer (some ⟨h.length + 1, 0, none⟩)), (4, .pointer (some ⟨h.length + 2, 0, none⟩)), (5, .pointer (some ⟨G0.length, 0, none⟩)), (7, Zy (t : Nat)), (18, r), (19, Zy K.length), (20, Zy (k : Nat))] _ _ ?_ (by simp (maxSteps := 2000000) only [↓Za, ↓Zk, ↓Zs, ↓Zf, ↓Zn, ↓Zt, ↓Ze, ↓Zj, ↓Zg, ↓Zb, ↓Zc, ↓vdn, vup, Zl, Zh, Zi, Zm, Zo, List.map_cons, List.map_nil, cond_true, cond_false, aop, Zw, Zr, Zp, ev, sput, Zu, Zz, Yb, unK, Zd, Zx, Nat.reduceBEq, Nat.reduceAdd, Int.reduceBEq, Int.reduceBNe, Int.reduceLT, Zv, Ya, tup, tyf])
    clear hN7
    try clear N7
    refine Yc fun N8 hN8 => ?_
    simp (maxSteps := 2000000) only [s61, ↓Za, ↓Zk, ↓Zs, ↓Zf, ↓Zn, ↓Zt, ↓Ze, ↓Zj, ↓Zg, ↓Zb, ↓Zc, ↓vdn, vup, Zl, Zh, Zi, Zm, Zo, List.map_cons, List.map_nil, cond_true, cond_false, aop, Zw, Zr, Zp, ev, sput, Zu, Zz, Yb, unK, Zd, Zx, Nat.reduceBEq, Nat.reduceAdd, Int.reduceBEq, Int.reduceBNe, Int.reduceLT, Zv, Ya, tup, tyf]
    refine hN8 [(0, Zy (n : Nat)), (1, v), (2, .pointer (some ⟨h.length, 0, none⟩)), (3, .pointer (some ⟨h.length + 1, 0, none⟩)), (4, .pointer (some ⟨h.length + 2, 0, none⟩)), (5, .pointer (some ⟨G0.length, 0, none⟩)), (7, Zy (t : Nat)), (8, .slice none 0 0), (18, r), (19, Zy K.length), (20, Zy (k : Nat))] _ _ ?_ (by simp (maxSteps := 2000000) only [↓Za, ↓Zk, ↓Zs, ↓Zf, ↓Zn, ↓Zt, ↓Ze, ↓Zj, ↓Zg, ↓Zb, ↓Zc, ↓vdn, vup, Zl, Zh, Zi, Zm, Zo, List.map_cons, List.map_nil, cond_true, cond_false, aop, Zw, Zr, Zp, ev, sput, Zu, Zz, Yb, unK, Zd, Zx, Nat.reduceBEq, Nat.reduceAdd, Int.reduceBEq, Int.reduceBNe, Int.reduceLT, Zv, Ya, tup, tyf])
    clear hN8
    try clear N8
    refine Yg fun A hA => ?_
    refine Yc fun N9 hN9 => ?_
    simp (maxSteps := 2000000) only [s61, ↓Za, ↓Zk, ↓Zs, ↓Zf, ↓Zn, ↓Zt, ↓Ze, ↓Zj, ↓Zg, ↓Zb, ↓Zc, ↓vdn, vup, Zl, Zh, Zi, Zm, Zo, List.map_cons, List.map_nil, cond_true, cond_false, aop, Zw, Zr, Zp, ev, sput, Zu, Zz, Yb, unK, Zd, Zx, Nat.reduceBEq, Nat.reduceAdd, Int.reduceBEq, Int.reduceBNe, Int.reduceLT, Zv, Ya, tup, tyf, load1 e2G Xl]
    refine hN9 [(0, Zy (n : Nat)), (1, v), (2, .pointer (some ⟨h.length, 0, none⟩)), (3, .pointer (some ⟨h.length + 1, 0, none⟩)), (4, .pointer (some ⟨h.length + 2, 0, none⟩)), (5, .pointer (some ⟨G0.length, 0, none⟩)), (7, Zy (t : Nat)), (8, .slice none 0 0), (18, r), (19, Zy K.length), (20, Zy (k : Nat)), (24, Zy (n : Nat)), (25, .int .i64 0)] _ _ ?_ (by simp (maxSteps := 2000000) only [↓Za, ↓Zk, ↓Zs, ↓Zf, ↓Zn, ↓Zt, ↓Ze, ↓Zj, ↓Zg, ↓Zb, ↓Zc, ↓vdn, vup, Zl, Zh, Zi, Zm, Zo, List.map_cons, List.map_nil, cond_true, cond_false, aop, Zw, Zr, Zp, ev, sput, Zu, Zz, Yb, unK, Zd, Zx, Nat.reduceBEq, Nat.reduceAdd, Int.reduceBEq, Int.reduceBNe, Int.reduceLT, Zv, Ya, tup, tyf])
    clear hN9
    try clear N9
    refine Yo ?_
    refine Yh fun Qa hQa => ?_
    refine Xs (γ := Nat × Value × Yd) (fun g => g.1 ≤ n ∧ RSI G g.2.2 g.2.1 (bitsI t g.1))
      (fun g => ([(0, Zy (n : Nat)), (1, v), (2, .pointer (some ⟨h.length, 0, none⟩)), (3, .pointer (some ⟨h.length + 1, 0, none⟩)), (4, .pointer (some ⟨h.length + 2, 0, none⟩)), (5, .pointer (some ⟨G0.length, 0, none⟩)), (7, Zy (t : Nat)), (8, g.2.1), (18, r), (19, Zy K.length), (20, Zy (k : Nat)), (24, Zy (n : Nat)), (25, Zy (g.1 : Nat))], g.2.2)) (fun g => n - g.1) (0, .slice none 0 0, G) ⟨Nat.zero_le _, RSI.nil G⟩ (by simp (maxSteps := 2000000) only [↓Za, ↓Zk, ↓Zs, ↓Zf, ↓Zn, ↓Zt, ↓Ze, ↓Zj, ↓Zg, ↓Zb, ↓Zc, ↓vdn, vup, Zl, Zh, Zi, Zm, Zo, List.map_cons, List.map_nil, cond_true, cond_false, aop, Zw, Zr, Zp, ev, sput, Zu, Zz, Yb, unK, Zd, Zx, Nat.reduceBEq, Nat.reduceAdd, Int.reduceBEq, Int.reduceBNe, Int.reduceLT, Zv, Ya, tup, tyf, Int.natCast_zero]) rfl ?_
    rintro ⟨i, bv, G1⟩ ⟨hi, hbv⟩
    simp only at hi hbv
    refine Yh fun Qb hQb => ?_
    simp only [l61_0]
    by_cases hin : (i : Int) < n
    · have hi' : i < n := by omega
      refine Yc fun N10 hN10 => ?_
      simp (maxSteps := 2000000) only [s61, ↓Za, ↓Zk, ↓Zs, ↓Zf, ↓Zn, ↓Zt, ↓Ze, ↓Zj, ↓Zg, ↓Zb, ↓Zc, ↓vdn, vup, Zl, Zh, Zi, Zm, Zo, List.map_cons, List.map_nil, cond_true, cond_false, aop, Zw, Zr, Zp, ev, sput, Zu, Zz, Yb, unK, Zd, Zx, Nat.reduceBEq, Nat.reduceAdd, Int.reduceBEq, Int.reduceBNe, Int.reduceLT, Zv, Ya, tup, tyf, hin]
      refine hN10 [(0, Zy (n : Nat)), (1, v), (2, .pointer (some ⟨h.length, 0, none⟩)), (3, .pointer (some ⟨h.length + 1, 0, none⟩)), (4, .pointer (some ⟨h.length + 2, 0, none⟩)), (5, .pointer (some ⟨G0.length, 0, none⟩)), (7, Zy (t : Nat)), (8, bv), (18, r), (19, Zy K.length), (20, Zy (k : Nat)), (24, Zy (n : Nat)), (25, Zy (i : Nat)), (26, .bool true)] _ _ ?_ (by simp (maxSteps := 2000000) only [↓Za, ↓Zk, ↓Zs, ↓Zf, ↓Zn, ↓Zt, ↓Ze, ↓Zj, ↓Zg, ↓Zb, ↓Zc, ↓vdn, vup, Zl, Zh, Zi, Zm, Zo, List.map_cons, List.map_nil, cond_true, cond_false, aop, Zw, Zr, Zp, ev, sput, Zu, Zz, Yb, unK, Zd, Zx, Nat.reduceBEq, Nat.reduceAdd, Int.reduceBEq, Int.reduceBNe, Int.reduceLT, Zv, Ya, tup, tyf])
      clear hN10
      try clear N10
      refine Yc fun N11 hN11 => ?_
      simp (maxSteps := 2000000) only [s61, ↓Za, ↓Zk, ↓Zs, ↓Zf, ↓Zn, ↓Zt, ↓Ze, ↓Zj, ↓Zg, ↓Zb, ↓Zc, ↓vdn, vup, Zl, Zh, Zi, Zm, Zo, List.map_cons, List.map_nil, cond_true, cond_false, aop, Zw, Zr, Zp, ev, sput, Zu, Zz, Yb, unK, Zd, Zx, Nat.reduceBEq, Nat.reduceAdd, Int.reduceBEq, Int.reduceBNe, Int.reduceLT, Zv, Ya, tup, tyf]
      refine hN11 [(0, Zy (n : Nat)), (1, v), (2, .pointer (some ⟨h.length, 0, none⟩)), (3, .pointer (some ⟨h.length + 1, 0, none⟩)), (4, .pointer (some ⟨h.length + 2, 0, none⟩)), (5, .pointer (some ⟨G0.length, 0, none⟩)), (7, Zy (t : Nat)), (8, bv), (18, r), (19, Zy K.length), (20, Zy (k : Nat)), (24, Zy (n : Nat)), (25, Zy (i : Nat))] _ _ ?_ (by simp (maxSteps := 2000000) only [↓Za, ↓Zk, ↓Zs, ↓Zf, ↓Zn, ↓Zt, ↓Ze, ↓Zj, ↓Zg, ↓Zb, ↓Zc, ↓vdn, vup, Zl, Zh, Zi, Zm, Zo, List.map_cons, List.map_nil, cond_true, cond_false, aop, Zw, Zr, Zp, ev, sput, Zu, Zz, Yb, unK, Zd, Zx, Nat.reduceBEq, Nat.reduceAdd, Int.reduceBEq, Int.reduceBNe, Int.reduceLT, Zv, Ya, tup, tyf])
      clear hN11
      try clear N11
      refine Yg fun D hD => ?_
      refine Yo ?_
      refine Yc fun N12 hN12 => ?_
      simp (maxSteps := 2000000) only [s61, ↓Za, ↓Zk, ↓Zs, ↓Zf, ↓Zn, ↓Zt, ↓Ze, ↓Zj, ↓Zg, ↓Zb, ↓Zc, ↓vdn, vup, Zl, Zh, Zi, Zm, Zo, List.map_cons, List.map_nil, cond_true, cond_false, aop, Zw, Zr, Zp, ev, sput, Zu, Zz, Yb, unK, Zd, Zx, Nat.reduceBEq, Nat.reduceAdd, Int.reduceBEq, Int.reduceBNe, Int.reduceLT, Zv, Ya, tup, tyf]
      refine hN12 [(0, Zy (n : Nat)), (1, v), (2, .pointer (some ⟨h.length, 0, none⟩)), (3, .pointer (some ⟨h.length + 1, 0, none⟩)), (4, .pointer (some ⟨h.length + 2, 0, none⟩)), (5, .pointer (some ⟨G0.length, 0, none⟩)), (7, Zy (t : Nat)), (8, bv), (9, Zy (i : Nat)), (18, r), (19, Zy K.length), (20, Zy (k : Nat)), (24, Zy (n : Nat)), (25, Zy (i : Nat))] _ _ ?_ (by simp (maxSteps := 2000000) only [↓Za, ↓Zk, ↓Zs, ↓Zf, ↓Zn, ↓Zt, ↓Ze, ↓Zj, ↓Zg, ↓Zb, ↓Zc, ↓vdn, vup, Zl, Zh, Zi, Zm, Zo, List.map_cons, List.map_nil, cond_true, cond_false, aop, Zw, Zr, Zp, ev, sput, Zu, Zz, Yb, unK, Zd, Zx, Nat.reduceBEq, Nat.reduceAdd, Int.reduceBEq, Int.reduceBNe, Int.reduceLT, Zv, Ya, tup, tyf])
      clear hN12
      try clear N12
      refine Yf ?_
      simp (maxSteps := 2000000) only [s61, ↓Za, ↓Zk, ↓Zs, ↓Zf, ↓Zn, ↓Zt, ↓Ze, ↓Zj, ↓Zg, ↓Zb, ↓Zc, ↓vdn, vup, Zl, Zh, Zi, Zm, Zo, List.map_cons, List.map_nil, cond_true, cond_false, aop, Zw, Zr, Zp, ev, sput, Zu, Zz, Yb, unK, Zd, Zx, Nat.reduceBEq, Nat.reduceAdd, Int.reduceBEq, Int.reduceBNe, Int.reduceLT, Zv, Ya, tup, tyf, Int.natCast_nonneg, htest, List.map_toArray, litI1]
      refine hbv.push (by rw [bitsI_len]; omega) fun bv' G2 hbv' => ?_
      rw [← bitsI_succ] at hbv'
      refine hD [(0, Zy (n : Nat)), (1, v), (2, .pointer (some ⟨h.length, 0, none⟩)), (3, .pointer (some ⟨h.length + 1, 0, none⟩)), (4, .pointer (some ⟨h.length + 2, 0, none⟩)), (5, .pointer (some ⟨G0.length, 0, none⟩)), (7, Zy (t : Nat)), (8, bv'), (18, r), (19, Zy K.length), (20, Zy (k : Nat)), (24, Zy (n : Nat)), (25, Zy (i : Nat))] _ _ ?_ (by simp (maxSteps := 2000000) only [↓Za, ↓Zk, ↓Zs, ↓Zf, ↓Zn, ↓Zt, ↓Ze, ↓Zj, ↓Zg, ↓Zb, ↓Zc, ↓vdn, vup, Zl, Zh, Zi, Zm, Zo, List.map_cons, List.map_nil, cond_true, cond_false, aop, Zw, Zr, Zp, ev, sput, Zu, Zz, Yb, unK, Zd, Zx, Nat.reduceBEq, Nat.reduceAdd, Int.reduceBEq, Int.reduceBNe, Int.reduceLT, Zv, Ya, tup, tyf])
      clear hD
      try clear D
      refine Yf ?_
      simp (maxSteps := 2000000) only [s61, ↓Za, ↓Zk, ↓Zs, ↓Zf, ↓Zn, ↓Zt, ↓Ze, ↓Zj, ↓Zg, ↓Zb, ↓Zc, ↓vdn, vup, Zl, Zh, Zi, Zm, Zo, List.map_cons, List.map_nil, cond_true, cond_false, aop, Zw, Zr, Zp, ev, sput, Zu, Zz, Yb, unK, Zd, Zx, Nat.reduceBEq, Nat.reduceAdd, Int.reduceBEq, Int.reduceBNe, Int.reduceLT, Zv, Ya, tup, tyf, add1 (show i < 9223372036854775807 by omega)]
      exact hQb _ _ _ ⟨(i + 1, bv', G2), ⟨hi', hbv'⟩, by simp only; omega, by simp (maxSteps := 2000000) only [↓Za, ↓Zk, ↓Zs, ↓Zf, ↓Zn, ↓Zt, ↓Ze, ↓Zj, ↓Zg, ↓Zb, ↓Zc, ↓vdn, vup, Zl, Zh, Zi, Zm, Zo, List.map_cons, List.map_nil, cond_true, cond_false, aop, Zw, Zr, Zp, ev, sput, Zu, Zz, Yb, unK, Zd, Zx, Nat.reduceBEq, Nat.reduceAdd, Int.reduceBEq, Int.reduceBNe, Int.reduceLT, Zv, Ya, tup, tyf], rfl⟩
    obtain rfl : n = i := by omega
    refine Yc fun N13 hN13 => ?_
    simp (maxSteps := 2000000) only [s61, ↓Za, ↓Zk, ↓Zs, ↓Zf, ↓Zn, ↓Zt, ↓Ze, ↓Zj, ↓Zg, ↓Zb, ↓Zc, ↓vdn, vup, Zl, Zh, Zi, Zm, Zo, List.map_cons, List.map_nil, cond_true, cond_false, aop, Zw, Zr, Zp, ev, sput, Zu, Zz, Yb, unK, Zd, Zx, Nat.reduceBEq, Nat.reduceAdd, Int.reduceBEq, Int.reduceBNe, Int.reduceLT, Zv, Ya, tup, tyf, hin]
    refine hN13 [(0, Zy (n : Nat)), (1, v), (2, .pointer (some ⟨h.length, 0, none⟩)), (3, .pointer (some ⟨h.length + 1, 0, none⟩)), (4, .pointer (some ⟨h.length + 2, 0, none⟩)), (5, .pointer (some ⟨G0.length, 0, none⟩)), (7, Zy (t : Nat)), (8, bv), (18, r), (19, Zy K.length), (20, Zy (k : Nat)), (24, Zy (n : Nat)), (25, Zy (n : Nat)), (26, .bool false)] _ _ ?_ (by simp (maxSteps := 2000000) only [↓Za, ↓Zk, ↓Zs, ↓Zf, ↓Zn, ↓Zt, ↓Ze, ↓Zj, ↓Zg, ↓Zb, ↓Zc, ↓vdn, vup, Zl, Zh, Zi, Zm, Zo, List.map_cons, List.map_nil, cond_true, cond_false, aop, Zw, Zr, Zp, ev, sput, Zu, Zz, Yb, unK, Zd, Zx, Nat.reduceBEq, Nat.reduceAdd, Int.reduceBEq, Int.reduceBNe, Int.reduceLT, Zv, Ya, tup, tyf])
    clear hN13
    try clear N13
    refine Yc fun N14 hN14 => ?_
    simp (maxSteps := 2000000) only [s61, ↓Za, ↓Zk, ↓Zs, ↓Zf, ↓Zn, ↓Zt, ↓Ze, ↓Zj, ↓Zg, ↓Zb, ↓Zc, ↓vdn, vup, Zl, Zh, Zi, Zm, Zo, List.map_cons, List.map_nil, cond_true, cond_false, aop, Zw, Zr, Zp, ev, sput, Zu, Zz, Yb, unK, Zd, Zx, Nat.reduceBEq, Nat.reduceAdd, Int.reduceBEq, Int.reduceBNe, Int.reduceLT, Zv, Ya, tup, tyf]
    refine hQb _ _ _ (hQa _ _ _ ?_)
    simp (maxSteps := 2000000) only [s61, ↓Za, ↓Zk, ↓Zs, ↓Zf, ↓Zn, ↓Zt, ↓Ze, ↓Zj, ↓Zg, ↓Zb, ↓Zc, ↓vdn, vup, Zl, Zh, Zi, Zm, Zo, List.map_cons, List.map_nil, cond_true, cond_false, aop, Zw, Zr, Zp, ev, sput, Zu, Zz, Yb, unK, Zd, Zx, Nat.reduceBEq, Nat.reduceAdd, Int.reduceBEq, Int.reduceBNe, Int.reduceLT, Zv, Ya, tup, tyf, if_true]
    refine hA [(0, Zy (n : Nat)), (1, v), (2, .pointer (some ⟨h.length, 0, none⟩)), (3, .pointer (some ⟨h.length + 1, 0, none⟩)), (4, .pointer (some ⟨h.length + 2, 0, none⟩)), (5, .pointer (some ⟨G0.length, 0, none⟩)), (7, Zy (t : Nat)), (8, bv), (18, r), (19, Zy K.length), (20, Zy (k : Nat))] _ _ ?_ (by simp (maxSteps := 2000000) only [↓Za, ↓Zk, ↓Zs, ↓Zf, ↓Zn, ↓Zt, ↓Ze, ↓Zj, ↓Zg, ↓Zb, ↓Zc, ↓vdn, vup, Zl, Zh, Zi, Zm, Zo, List.map_cons, List.map_nil, cond_true, cond_false, aop, Zw, Zr, Zp, ev, sput, Zu, Zz, Yb, unK, Zd, Zx, Nat.reduceBEq, Nat.reduceAdd, Int.reduceBEq, Int.reduceBNe, Int.reduceLT, Zv, Ya, tup, tyf])
    clear hA
    try clear A
    clear hQa hQb
    have hb1 : G1[G0.length]? = some (.cells [rv] 82 false) := (hbv.2.1.2 _ (Xg s.box) id).trans s.box
    refine Yf ?_
    simp only [q61_12]
    refine aw_drawR (fun z => z[G0.length]? = some (.cells [rv] 82 false)) [(0, 5), (6, 6)] (by kernel_rfl) (by kernel_rfl) (by kernel_rfl) (by kernel_rfl) hb1 ?_
    simp (maxSteps := 2000000) only [s61, ↓Za, ↓Zk, ↓Zs, ↓Zf, ↓Zn, ↓Zt, ↓Ze, ↓Zj, ↓Zg, ↓Zb, ↓Zc, ↓vdn, vup, Zl, Zh, Zi, Zm, Zo, List.map_cons, List.map_nil, cond_true, cond_false, aop, Zw, Zr, Zp, ev, sput, Zu, Zz, Yb, unK, Zd, Zx, Nat.reduceBEq, Nat.reduceAdd, Int.reduceBEq, Int.reduceBNe, Int.reduceLT, Zv, Ya, tup, tyf, Nat.reduceLT, Bool.false_or, Bool.true_or]
    refine ⟨rv, fun hp hhp => by simp only [load1 hhp shp_82], ?_⟩
    simp (maxSteps := 2000000) only [s61, ↓Za, ↓Zk, ↓Zs, ↓Zf, ↓Zn, ↓Zt, ↓Ze, ↓Zj, ↓Zg, ↓Zb, ↓Zc, ↓vdn, vup, Zl, Zh, Zi, Zm, Zo, List.map_cons, List.map_nil, cond_true, cond_false, aop, Zw, Zr, Zp, ev, sput, Zu, Zz, Yb, unK, Zd, Zx, Nat.reduceBEq, Nat.reduceAdd, Int.reduceBEq, Int.reduceBNe, Int.reduceLT, Zv, Ya, tup, tyf, Nat.reduceLT, Bool.false_or, Bool.true_or, List.map_toArray, litI1]
    refine ⟨get_old hb1 _, ?_⟩
    refine hbv.push (by rw [bitsI_len]; omega) fun w G2 hw => ?_
    have hb2 : G2[G0.length]? = some (.cells [rv] 82 false) := (hw.2.1.2 _ (Xg s.box) id).trans s.box
    refine ⟨hb2, ?_⟩
    simp (maxSteps := 2000000) only [s61, ↓Za, ↓Zk, ↓Zs, ↓Zf, ↓Zn, ↓Zt, ↓Ze, ↓Zj, ↓Zg, ↓Zb, ↓Zc, ↓vdn, vup, Zl, Zh, Zi, Zm, Zo, List.map_cons, List.map_nil, cond_true, cond_false, aop, Zw, Zr, Zp, ev, sput, Zu, Zz, Yb, unK, Zd, Zx, Nat.reduceBEq, Nat.reduceAdd, Int.reduceBEq, Int.reduceBNe, Int.reduceLT, Zv, Ya, tup, tyf, Nat.reduceLT, Bool.false_or, Bool.true_or, List.map_toArray, buildSlW el_82 zero_22 esz_22 hw.1.int]
    refine ⟨get_old hb2 _, ?_⟩
    refine s.step hw.2.1 (by rw [row_set hk', ht]; exact hw.1.int) hw.2.2 (by omega) fun rv' G3 hb3 h1 s' => ⟨hb3, ?_⟩
    simp (maxSteps := 2000000) only [s61, ↓Za, ↓Zk, ↓Zs, ↓Zf, ↓Zn, ↓Zt, ↓Ze, ↓Zj, ↓Zg, ↓Zb, ↓Zc, ↓vdn, vup, Zl, Zh, Zi, Zm, Zo, List.map_cons, List.map_nil, cond_true, cond_false, aop, Zw, Zr, Zp, ev, sput, Zu, Zz, Yb, unK, Zd, Zx, Nat.reduceBEq, Nat.reduceAdd, Int.reduceBEq, Int.reduceBNe, Int.reduceLT, Zv, Ya, tup, tyf, Nat.reduceLT, Bool.false_or, Bool.true_or, store1 hb3 shp_82 h1]
    refine hB [(0, Zy (n : Nat)), (1, v), (2, .pointer (some ⟨h.length, 0, none⟩)), (3, .pointer (some ⟨h.length + 1, 0, none⟩)), (4, .pointer (some ⟨h.length + 2, 0, none⟩)), (5, .pointer (some ⟨G0.length, 0, none⟩)), (18, r), (19, Zy K.length), (20, Zy (k : Nat))] _ _ ?_ (by simp (maxSteps := 2000000) only [↓Za, ↓Zk, ↓Zs, ↓Zf, ↓Zn, ↓Zt, ↓Ze, ↓Zj, ↓Zg, ↓Zb, ↓Zc, ↓vdn, vup, Zl, Zh, Zi, Zm, Zo, List.map_cons, List.map_nil, cond_true, cond_false, aop, Zw, Zr, Zp, ev, sput, Zu, Zz, Yb, unK, Zd, Zx, Nat.reduceBEq, Nat.reduceAdd, Int.reduceBEq, Int.reduceBNe, Int.reduceLT, Zv, Ya, tup, tyf])
    clear hB
    try clear B
    refine Yf ?_
    simp (maxSteps := 2000000) only [s61, ↓Za, ↓Zk, ↓Zs, ↓Zf, ↓Zn, ↓Zt, ↓Ze, ↓Zj, ↓Zg, ↓Zb, ↓Zc, ↓vdn, vup, Zl, Zh, Zi, Zm, Zo, List.map_cons, List.map_nil, cond_true, cond_false, aop, Zw, Zr, Zp, ev, sput, Zu, Zz, Yb, unK, Zd, Zx, Nat.reduceBEq, Nat.reduceAdd, Int.reduceBEq, Int.reduceBNe, Int.reduceLT, Zv, Ya, tup, tyf, add1 (show k < 9223372036854775807 by omega)]
    exact hQ2 _ _ _ ⟨(k + 1, _, rv', ws ++ [w]), ⟨hk', s'⟩, by simp only; omega, by simp (maxSteps := 2000000) only [↓Za, ↓Zk, ↓Zs, ↓Zf, ↓Zn, ↓Zt, ↓Ze, ↓Zj, ↓Zg, ↓Zb, ↓Zc, ↓vdn, vup, Zl, Zh, Zi, Zm, Zo, List.map_cons, List.map_nil, cond_true, cond_false, aop, Zw, Zr, Zp, ev, sput, Zu, Zz, Yb, unK, Zd, Zx, Nat.reduceBEq, Nat.reduceAdd, Int.reduceBEq, Int.reduceBNe, Int.reduceLT, Zv, Ya, tup, tyf], rfl⟩
  obtain rfl : k = K.length := by omega
  refine Yc fun N15 hN15 => ?_
  simp (maxSteps := 2000000) only [s61, ↓Za, ↓Zk, ↓Zs, ↓Zf, ↓Zn, ↓Zt, ↓Ze, ↓Zj, ↓Zg, ↓Zb, ↓Zc, ↓vdn, vup, Zl, Zh, Zi, Zm, Zo, List.map_cons, List.map_nil, cond_true, cond_false, aop, Zw, Zr, Zp, ev, sput, Zu, Zz, Yb, unK, Zd, Zx, Nat.reduceBEq, Nat.reduceAdd, Int.reduceBEq, Int.reduceBNe, Int.reduceLT, Zv, Ya, tup, tyf, hkn]
  refine hN15 [(0, Zy (n : Nat)), (1, v), (2, .pointer (some ⟨h.length, 0, none⟩)), (3, .pointer (some ⟨h.length + 1, 0, none⟩)), (4, .pointer (some ⟨h.length + 2, 0, none⟩)), (5, .pointer (some ⟨G0.length, 0, none⟩)), (18, r), (19, Zy K.length), (20, Zy K.length), (21, .bool false)] _ _ ?_ (by simp (maxSteps := 2000000) only [↓Za, ↓Zk, ↓Zs, ↓Zf, ↓Zn, ↓Zt, ↓Ze, ↓Zj, ↓Zg, ↓Zb, ↓Zc, ↓vdn, vup, Zl, Zh, Zi, Zm, Zo, List.map_cons, List.map_nil, cond_true, cond_false, aop, Zw, Zr, Zp, ev, sput, Zu, Zz, Yb, unK, Zd, Zx, Nat.reduceBEq, Nat.reduceAdd, Int.reduceBEq, Int.reduceBNe, Int.reduceLT, Zv, Ya, tup, tyf])
  clear hN15
  try clear N15
  refine Yc fun N16 hN16 => ?_
  simp (maxSteps := 2000000) only [s61, ↓Za, ↓Zk, ↓Zs, ↓Zf, ↓Zn, ↓Zt, ↓Ze, ↓Zj, ↓Zg, ↓Zb, ↓Zc, ↓vdn, vup, Zl, Zh, Zi, Zm, Zo, List.map_cons, List.map_nil, cond_true, cond_false, aop, Zw, Zr, Zp, ev, sput, Zu, Zz, Yb, unK, Zd, Zx, Nat.reduceBEq, Nat.reduceAdd, Int.reduceBEq, Int.reduceBNe, Int.reduceLT, Zv, Ya, tup, tyf]
  refine hQ2 _ _ _ (hQ _ _ _ ?_)
  simp (maxSteps := 2000000) only [s61, ↓Za, ↓Zk, ↓Zs, ↓Zf, ↓Zn, ↓Zt, ↓Ze, ↓Zj, ↓Zg, ↓Zb, ↓Zc, ↓vdn, vup, Zl, Zh, Zi, Zm, Zo, List.map_cons, List.map_nil, cond_true, cond_false, aop, Zw, Zr, Zp, ev, sput, Zu, Zz, Yb, unK, Zd, Zx, Nat.reduceBEq, Nat.reduceAdd, Int.reduceBEq, Int.reduceBNe, Int.reduceLT, Zv, Ya, tup, tyf, if_true]
  refine hZ [(0, Zy (n : Nat)), (1, v), (2, .pointer (some ⟨h.length, 0, none⟩)), (3, .pointer (some ⟨h.length + 1, 0, none⟩)), (4, .pointer (some ⟨h.length + 2, 0, none⟩)), (5, .pointer (some ⟨G0.length, 0, none⟩))] _ _ ?_ (by simp (maxSteps := 2000000) only [↓Za, ↓Zk, ↓Zs, ↓Zf, ↓Zn, ↓Zt, ↓Ze, ↓Zj, ↓Zg, ↓Zb, ↓Zc, ↓vdn, vup, Zl, Zh, Zi, Zm, Zo, List.map_cons, List.map_nil, cond_true, cond_false, aop, Zw, Zr, Zp, ev, sput, Zu, Zz, Yb, unK, Zd, Zx, Nat.reduceBEq, Nat.reduceAdd, Int.reduceBEq, Int.reduceBNe, Int.reduceLT, Zv, Ya, tup, tyf])
  clear hZ
  try clear Z
  clear hQ hQ2
  have e2G := s.keep e2 (by omega)
  refine Yg fun Z hZ => ?_
  refine Yc fun N17 hN17 => ?_
  simp (maxSteps := 2000000) only [s61, ↓Za, ↓Zk, ↓Zs, ↓Zf, ↓Zn, ↓Zt, ↓Ze, ↓Zj, ↓Zg, ↓Zb, ↓Zc, ↓vdn, vup, Zl, Zh, Zi, Zm, Zo, List.map_cons, List.map_nil, cond_true, cond_false, aop, Zw, Zr, Zp, ev, sput, Zu, Zz, Yb, unK, Zd, Zx, Nat.reduceBEq, Nat.reduceAdd, Int.reduceBEq, Int.reduceBNe, Int.reduceLT, Zv, Ya, tup, tyf, load1 e2G Xl]
  refine hN17 [(0, Zy (n : Nat)), (1, v), (2, .pointer (some ⟨h.length, 0, none⟩)), (3, .pointer (some ⟨h.length + 1, 0, none⟩)), (4, .pointer (some ⟨h.length + 2, 0, none⟩)), (5, .pointer (some ⟨G0.length, 0, none⟩)), (43, Zy (n : Nat)), (44, .int .i64 0)] _ _ ?_ (by simp (maxSteps := 2000000) only [↓Za, ↓Zk, ↓Zs, ↓Zf, ↓Zn, ↓Zt, ↓Ze, ↓Zj, ↓Zg, ↓Zb, ↓Zc, ↓vdn, vup, Zl, Zh, Zi, Zm, Zo, List.map_cons, List.map_nil, cond_true, cond_false, aop, Zw, Zr, Zp, ev, sput, Zu, Zz, Yb, unK, Zd, Zx, Nat.reduceBEq, Nat.reduceAdd, Int.reduceBEq, Int.reduceBNe, Int.reduceLT, Zv, Ya, tup, tyf])
  clear hN17
  try clear N17
  refine Yo ?_
  refine Yh fun Q hQ => ?_
  refine Xs (γ := Nat × Yd × Value × List Value) (fun g => g.1 ≤ n ∧ RS n K H0 G0.length g.2.1 g.2.2.1 g.2.2.2 (K.length + g.1))
    (fun g => ([(0, Zy (n : Nat)), (1, v), (2, .pointer (some ⟨h.length, 0, none⟩)), (3, .pointer (some ⟨h.length + 1, 0, none⟩)), (4, .pointer (some ⟨h.length + 2, 0, none⟩)), (5, .pointer (some ⟨G0.length, 0, none⟩)), (43, Zy (n : Nat)), (44, Zy (g.1 : Nat))], g.2.1)) (fun g => n - g.1) (0, G, rv, ws) ⟨Nat.zero_le _, s⟩ (by simp (maxSteps := 2000000) only [↓Za, ↓Zk, ↓Zs, ↓Zf, ↓Zn, ↓Zt, ↓Ze, ↓Zj, ↓Zg, ↓Zb, ↓Zc, ↓vdn, vup, Zl, Zh, Zi, Zm, Zo, List.map_cons, List.map_nil, cond_true, cond_false, aop, Zw, Zr, Zp, ev, sput, Zu, Zz, Yb, unK, Zd, Zx, Nat.reduceBEq, Nat.reduceAdd, Int.reduceBEq, Int.reduceBNe, Int.reduceLT, Zv, Ya, tup, tyf, Int.natCast_zero]) rfl ?_
  clear s e2G
  rintro ⟨i, G, rv, ws⟩ ⟨hi, s⟩
  simp only at hi s
  refine Yh fun Q2 hQ2 => ?_
  simp only [l61_2]
  have e2G := s.keep e2 (by omega)
  by_cases hin : (i : Int) < n
  · have hi' : i < n := by omega
    have hnat : ((n : Int) + 1) = ((n + 1 : Nat) : Int) := rfl
    refine Yc fun N18 hN18 => ?_
    simp (maxSteps := 2000000) only [s61, ↓Za, ↓Zk, ↓Zs, ↓Zf, ↓Zn, ↓Zt, ↓Ze, ↓Zj, ↓Zg, ↓Zb, ↓Zc, ↓vdn, vup, Zl, Zh, Zi, Zm, Zo, List.map_cons, List.map_nil, cond_true, cond_false, aop, Zw, Zr, Zp, ev, sput, Zu, Zz, Yb, unK, Zd, Zx, Nat.reduceBEq, Nat.reduceAdd, Int.reduceBEq, Int.reduceBNe, Int.reduceLT, Zv, Ya, tup, tyf, hin]
    refine hN18 [(0, Zy (n : Nat)), (1, v), (2, .pointer (some ⟨h.length, 0, none⟩)), (3, .pointer (some ⟨h.length + 1, 0, none⟩)), (4, .pointer (some ⟨h.length + 2, 0, none⟩)), (5, .pointer (some ⟨G0.length, 0, none⟩)), (43, Zy (n : Nat)), (44, Zy (i : Nat)), (45, .bool true)] _ _ ?_ (by simp (maxSteps := 2000000) only [↓Za, ↓Zk, ↓Zs, ↓Zf, ↓Zn, ↓Zt, ↓Ze, ↓Zj, ↓Zg, ↓Zb, ↓Zc, ↓vdn, vup, Zl, Zh, Zi, Zm, Zo, List.map_cons, List.map_nil, cond_true, cond_false, aop, Zw, Zr, Zp, ev, sput, Zu, Zz, Yb, unK, Zd, Zx, Nat.reduceBEq, Nat.reduceAdd, Int.reduceBEq, Int.reduceBNe, Int.reduceLT, Zv, Ya, tup, tyf])
    clear hN18
    try clear N18
    refine Yc fun N19 hN19 => ?_
    simp (maxSteps := 2000000) only [s61, ↓Za, ↓Zk, ↓Zs, ↓Zf, ↓Zn, ↓Zt, ↓Ze, ↓Zj, ↓Zg, ↓Zb, ↓Zc, ↓vdn, vup, Zl, Zh, Zi, Zm, Zo, List.map_cons, List.map_nil, cond_true, cond_false, aop, Zw, Zr, Zp, ev, sput, Zu, Zz, Yb, unK, Zd, Zx, Nat.reduceBEq, Nat.reduceAdd, Int.reduceBEq, Int.reduceBNe, Int.reduceLT, Zv, Ya, tup, tyf]
    refine hN19 [(0, Zy (n : Nat)), (1, v), (2, .pointer (some ⟨h.length, 0, none⟩)), (3, .pointer (some ⟨h.length + 1, 0, none⟩)), (4, .pointer (some ⟨h.length + 2, 0, none⟩)), (5, .pointer (some ⟨G0.length, 0, none⟩)), (43, Zy (n : Nat)), (44, Zy (i : Nat))] _ _ ?_ (by simp (maxSteps := 2000000) only [↓Za, ↓Zk, ↓Zs, ↓Zf, ↓Zn, ↓Zt, ↓Ze, ↓Zj, ↓Zg, ↓Zb, ↓Zc, ↓vdn, vup, Zl, Zh, Zi, Zm, Zo, List.map_cons, List.map_nil, cond_true, cond_false, aop, Zw, Zr, Zp, ev, sput, Zu, Zz, Yb, unK, Zd, Zx, Nat.reduceBEq, Nat.reduceAdd, Int.reduceBEq, Int.reduceBNe, Int.reduceLT, Zv, Ya, tup, tyf])
    clear hN19
    try clear N19
    refine Yg fun B hB => ?_
    refine Yo ?_
    refine Yc fun N20 hN20 => ?_
    simp (maxSteps := 2000000) only [s61, ↓Za, ↓Zk, ↓Zs, ↓Zf, ↓Zn, ↓Zt, ↓Ze, ↓Zj, ↓Zg, ↓Zb, ↓Zc, ↓vdn, vup, Zl, Zh, Zi, Zm, Zo, List.map_cons, List.map_nil, cond_true, cond_false, aop, Zw, Zr, Zp, ev, sput, Zu, Zz, Yb, unK, Zd, Zx, Nat.reduceBEq, Nat.reduceAdd, Int.reduceBEq, Int.reduceBNe, Int.reduceLT, Zv, Ya, tup, tyf]
    refine hN20 [(0, Zy (n : Nat)), (1, v), (2, .pointer (some ⟨h.length, 0, none⟩)), (3, .pointer (some ⟨h.length + 1, 0, none⟩)), (4, .pointer (some ⟨h.length + 2, 0, none⟩)), (5, .pointer (some ⟨G0.length, 0, none⟩)), (10, Zy (i : Nat)), (43, Zy (n : Nat)), (44, Zy (i : Nat))] _ _ ?_ (by simp (maxSteps := 2000000) only [↓Za, ↓Zk, ↓Zs, ↓Zf, ↓Zn, ↓Zt, ↓Ze, ↓Zj, ↓Zg, ↓Zb, ↓Zc, ↓vdn, vup, Zl, Zh, Zi, Zm, Zo, List.map_cons, List.map_nil, cond_true, cond_false, aop, Zw, Zr, Zp, ev, sput, Zu, Zz, Yb, unK, Zd, Zx, Nat.reduceBEq, Nat.reduceAdd, Int.reduceBEq, Int.reduceBNe, Int.reduceLT, Zv, Ya, tup, tyf])
    clear hN20
    try clear N20
    refine Yc fun N21 hN21 => ?_
    simp (maxSteps := 2000000) only [s61, ↓Za, ↓Zk, ↓Zs, ↓Zf, ↓Zn, ↓Zt, ↓Ze, ↓Zj, ↓Zg, ↓Zb, ↓Zc, ↓vdn, vup, Zl, Zh, Zi, Zm, Zo, List.map_cons, List.map_nil, cond_true, cond_false, aop, Zw, Zr, Zp, ev, sput, Zu, Zz, Yb, unK, Zd, Zx, Nat.reduceBEq, Nat.reduceAdd, Int.reduceBEq, Int.reduceBNe, Int.reduceLT, Zv, Ya, tup, tyf, load1 e2G Xl, add1 (show n < 9223372036854775807 by omega), makeI Xv zero_3 info_3 (Int.natCast_nonneg (n + 1)) (show ((n + 1 : Nat) : Int) ≤ 35184372088832 by omega), Int.toNat_natCast]
    obtain ⟨wv, hwv⟩ : ∃ wv, wv = Value.slice (some ⟨G.length, 0, none⟩) (n + 1) (n + 1) := ⟨_, rfl⟩
    rw [← hwv]
    refine hN21 [(0, Zy (n : Nat)), (1, v), (2, .pointer (some ⟨h.length, 0, none⟩)), (3, .pointer (some ⟨h.length + 1, 0, none⟩)), (4, .pointer (some ⟨h.length + 2, 0, none⟩)), (5, .pointer (some ⟨G0.length, 0, none⟩)), (10, Zy (i : Nat)), (11, wv), (43, Zy (n : Nat)), (44, Zy (i : Nat))] _ _ ?_ (by simp (maxSteps := 2000000) only [↓Za, ↓Zk, ↓Zs, ↓Zf, ↓Zn, ↓Zt, ↓Ze, ↓Zj, ↓Zg, ↓Zb, ↓Zc, ↓vdn, vup, Zl, Zh, Zi, Zm, Zo, List.map_cons, List.map_nil, cond_true, cond_false, aop, Zw, Zr, Zp, ev, sput, Zu, Zz, Yb, unK, Zd, Zx, Nat.reduceBEq, Nat.reduceAdd, Int.reduceBEq, Int.reduceBNe, Int.reduceLT, Zv, Ya, tup, tyf])
    clear hN21
    try clear N21
    have hz : (G ++ [Blk.ints (List.replicate (n + 1) (0 : Int)) 3 false])[G.length]? = some (.ints (List.replicate (n + 1) (0 : Int)) 3 false) := Xp _ _
    have hzI : IntSl (G ++ [Blk.ints (List.replicate (n + 1) (0 : Int)) 3 false]) wv (List.replicate (n + 1) 0) := by
      have := intSl_blk hz
      rw [List.length_replicate] at this
      rw [hwv]; exact this
    have hel : Wo wv 1 i = .pointer (some ⟨G.length, i, none⟩) := by rw [hwv]; exact elemP_new _ _ _ _
    refine Yc fun N22 hN22 => ?_
    simp (maxSteps := 2000000) only [s61, ↓Za, ↓Zk, ↓Zs, ↓Zf, ↓Zn, ↓Zt, ↓Ze, ↓Zj, ↓Zg, ↓Zb, ↓Zc, ↓vdn, vup, Zl, Zh, Zi, Zm, Zo, List.map_cons, List.map_nil, cond_true, cond_false, aop, Zw, Zr, Zp, ev, sput, Zu, Zz, Yb, unK, Zd, Zx, Nat.reduceBEq, Nat.reduceAdd, Int.reduceBEq, Int.reduceBNe, Int.reduceLT, Zv, Ya, tup, tyf, hzI.idx Xv Xi (show i < (List.replicate (n + 1) (0 : Int)).length by simp; omega), hel, storeBI hz Xl (show i < (List.replicate (n + 1) (0 : Int)).length by simp; omega), set_new]
    obtain ⟨G1, hG1⟩ : ∃ G1, G1 = G ++ [Blk.ints ((List.replicate (n + 1) (0 : Int)).set i 1) 3 false] := ⟨_, rfl⟩
    rw [← hG1]
    refine hN22 [(0, Zy (n : Nat)), (1, v), (2, .pointer (some ⟨h.length, 0, none⟩)), (3, .pointer (some ⟨h.length + 1, 0, none⟩)), (4, .pointer (some ⟨h.length + 2, 0, none⟩)), (5, .pointer (some ⟨G0.length, 0, none⟩)), (10, Zy (i : Nat)), (11, wv), (43, Zy (n : Nat)), (44, Zy (i : Nat))] _ _ ?_ (by simp (maxSteps := 2000000) only [↓Za, ↓Zk, ↓Zs, ↓Zf, ↓Zn, ↓Zt, ↓Ze, ↓Zj, ↓Zg, ↓Zb, ↓Zc, ↓vdn, vup, Zl, Zh, Zi, Zm, Zo, List.map_cons, List.map_nil, cond_true, cond_false, aop, Zw, Zr, Zp, ev, sput, Zu, Zz, Yb, unK, Zd, Zx, Nat.reduceBEq, Nat.reduceAdd, Int.reduceBEq, Int.reduceBNe, Int.reduceLT, Zv, Ya, tup, tyf])
    clear hN22
    try clear N22
    have hE1 : Ext (fun _ => False) G G1 := by rw [hG1]; exact Ext.app _ _ _
    have hwI : IntSl G1 wv (rowI n K (K.length + i)) := by
      rw [row_unit hi', hG1]
      have := intSl_blk (Xp G (Blk.ints ((List.replicate (n + 1) (0 : Int)).set i 1) 3 false))
      rw [List.length_set, List.length_replicate] at this
      rw [hwv]; exact this
    have hb1 : G1[G0.length]? = some (.cells [rv] 82 false) := (hE1.2 _ (Xg s.box) id).trans s.box
    refine Yf ?_
    simp (maxSteps := 2000000) only [s61, ↓Za, ↓Zk, ↓Zs, ↓Zf, ↓Zn, ↓Zt, ↓Ze, ↓Zj, ↓Zg, ↓Zb, ↓Zc, ↓vdn, vup, Zl, Zh, Zi, Zm, Zo, List.map_cons, List.map_nil, cond_true, cond_false, aop, Zw, Zr, Zp, ev, sput, Zu, Zz, Yb, unK, Zd, Zx, Nat.reduceBEq, Nat.reduceAdd, Int.reduceBEq, Int.reduceBNe, Int.reduceLT, Zv, Ya, tup, tyf, load1 hb1 shp_82, List.map_toArray, buildSlW el_82 zero_22 esz_22 hwI]
    refine s.step hE1 hwI (fun b hb => by rw [hwv] at hb; cases hb; exact Nat.le_refl _) (by omega) fun rv' G3 hb3 h1 s' => ?_
    simp (maxSteps := 2000000) only [s61, ↓Za, ↓Zk, ↓Zs, ↓Zf, ↓Zn, ↓Zt, ↓Ze, ↓Zj, ↓Zg, ↓Zb, ↓Zc, ↓vdn, vup, Zl, Zh, Zi, Zm, Zo, List.map_cons, List.map_nil, cond_true, cond_false, aop, Zw, Zr, Zp, ev, sput, Zu, Zz, Yb, unK, Zd, Zx, Nat.reduceBEq, Nat.reduceAdd, Int.reduceBEq, Int.reduceBNe, Int.reduceLT, Zv, Ya, tup, tyf, store1 hb3 shp_82 h1]
    refine hB [(0, Zy (n : Nat)), (1, v), (2, .pointer (some ⟨h.length, 0, none⟩)), (3, .pointer (some ⟨h.length + 1, 0, none⟩)), (4, .pointer (some ⟨h.length + 2, 0, none⟩)), (5, .pointer (some ⟨G0.length, 0, none⟩)), (43, Zy (n : Nat)), (44, Zy (i : Nat))] _ _ ?_ (by simp (maxSteps := 2000000) only [↓Za, ↓Zk, ↓Zs, ↓Zf, ↓Zn, ↓Zt, ↓Ze, ↓Zj, ↓Zg, ↓Zb, ↓Zc, ↓vdn, vup, Zl, Zh, Zi, Zm, Zo, List.map_cons, List.map_nil, cond_true, cond_false, aop, Zw, Zr, Zp, ev, sput, Zu, Zz, Yb, unK, Zd, Zx, Nat.reduceBEq, Nat.reduceAdd, Int.reduceBEq, Int.reduceBNe, Int.reduceLT, Zv, Ya, tup, tyf])
    clear hB
    try clear B
    refine Yf ?_
    simp (maxSteps := 2000000) only [s61, ↓Za, ↓Zk, ↓Zs, ↓Zf, ↓Zn, ↓Zt, ↓Ze, ↓Zj, ↓Zg, ↓Zb, ↓Zc, ↓vdn, vup, Zl, Zh, Zi, Zm, Zo, List.map_cons, List.map_nil, cond_true, cond_false, aop, Zw, Zr, Zp, ev, sput, Zu, Zz, Yb, unK, Zd, Zx, Nat.reduceBEq, Nat.reduceAdd, Int.reduceBEq, Int.reduceBNe, Int.reduceLT, Zv, Ya, tup, tyf, add1 (show i < 9223372036854775807 by omega)]
    exact hQ2 _ _ _ ⟨(i + 1, _, rv', ws ++ [wv]), ⟨hi', s'⟩, by simp only; omega, by simp (maxSteps := 2000000) only [↓Za, ↓Zk, ↓Zs, ↓Zf, ↓Zn, ↓Zt, ↓Ze, ↓Zj, ↓Zg, ↓Zb, ↓Zc, ↓vdn, vup, Zl, Zh, Zi, Zm, Zo, List.map_cons, List.map_nil, cond_true, cond_false, aop, Zw, Zr, Zp, ev, sput, Zu, Zz, Yb, unK, Zd, Zx, Nat.reduceBEq, Nat.reduceAdd, Int.reduceBEq, Int.reduceBNe, Int.reduceLT, Zv, Ya, tup, tyf], rfl⟩
  obtain rfl : n = i := by omega
  refine Yc fun N23 hN23 => ?_
  simp (maxSteps := 2000000) only [s61, ↓Za, ↓Zk, ↓Zs, ↓Zf, ↓Zn, ↓Zt, ↓Ze, ↓Zj, ↓Zg, ↓Zb, ↓Zc, ↓vdn, vup, Zl, Zh, Zi, Zm, Zo, List.map_cons, List.map_nil, cond_true, cond_false, aop, Zw, Zr, Zp, ev, sput, Zu, Zz, Yb, unK, Zd, Zx, Nat.reduceBEq, Nat.reduceAdd, Int.reduceBEq, Int.reduceBNe, Int.reduceLT, Zv, Ya, tup, tyf, hin]
  refine hN23 [(0, Zy (n : Nat)), (1, v), (2, .pointer (some ⟨h.length, 0, none⟩)), (3, .pointer (some ⟨h.length + 1, 0, none⟩)), (4, .pointer (some ⟨h.length + 2, 0, none⟩)), (5, .pointer (some ⟨G0.length, 0, none⟩)), (43, Zy (n : Nat)), (44, Zy (n : Nat)), (45, .bool false)] _ _ ?_ (by simp (maxSteps := 2000000) only [↓Za, ↓Zk, ↓Zs, ↓Zf, ↓Zn, ↓Zt, ↓Ze, ↓Zj, ↓Zg, ↓Zb, ↓Zc, ↓vdn, vup, Zl, Zh, Zi, Zm, Zo, List.map_cons, List.map_nil, cond_true, cond_false, aop, Zw, Zr, Zp, ev, sput, Zu, Zz, Yb, unK, Zd, Zx, Nat.reduceBEq, Nat.reduceAdd, Int.reduceBEq, Int.reduceBNe, Int.reduceLT, Zv, Ya, tup, tyf])
  clear hN23
  try clear N23
  refine Yc fun N24 hN24 => ?_
  simp (maxSteps := 2000000) only [s61, ↓Za, ↓Zk, ↓Zs, ↓Zf, ↓Zn, ↓Zt, ↓Ze, ↓Zj, ↓Zg, ↓Zb, ↓Zc, ↓vdn, vup, Zl, Zh, Zi, Zm, Zo, List.map_cons, List.map_nil, cond_true, cond_false, aop, Zw, Zr, Zp, ev, sput, Zu, Zz, Yb, unK, Zd, Zx, Nat.reduceBEq, Nat.reduceAdd, Int.reduceBEq, Int.reduceBNe, Int.reduceLT, Zv, Ya, tup, tyf]
  refine hQ2 _ _ _ (hQ _ _ _ ?_)
  simp (maxSteps := 2000000) only [s61, ↓Za, ↓Zk, ↓Zs, ↓Zf, ↓Zn, ↓Zt, ↓Ze, ↓Zj, ↓Zg, ↓Zb, ↓Zc, ↓vdn, vup, Zl, Zh, Zi, Zm, Zo, List.map_cons, List.map_nil, cond_true, cond_false, aop, Zw, Zr, Zp, ev, sput, Zu, Zz, Yb, unK, Zd, Zx, Nat.reduceBEq, Nat.reduceAdd, Int.reduceBEq, Int.reduceBNe, Int.reduceLT, Zv, Ya, tup, tyf, if_true]
  refine hZ [(0, Zy (n : Nat)), (1, v), (2, .pointer (some ⟨h.length, 0, none⟩)), (3, .pointer (some ⟨h.length + 1, 0, none⟩)), (4, .pointer (some ⟨h.length + 2, 0, none⟩)), (5, .pointer (some ⟨G0.length, 0, none⟩))] _ _ ?_ (by simp (maxSteps := 2000000) only [↓Za, ↓Zk, ↓Zs, ↓Zf, ↓Zn, ↓Zt, ↓Ze, ↓Zj, ↓Zg, ↓Zb, ↓Zc, ↓vdn, vup, Zl, Zh, Zi, Zm, Zo, List.map_cons, List.map_nil, cond_true, cond_false, aop, Zw, Zr, Zp, ev, sput, Zu, Zz, Yb, unK, Zd, Zx, Nat.reduceBEq, Nat.reduceAdd, Int.reduceBEq, Int.reduceBNe, Int.reduceLT, Zv, Ya, tup, tyf])
  clear hZ
  try clear Z
  clear hQ hQ2
  have hst : ∀ {Kk : Yd → Prop}, Xu prog (G ++ [Blk.cells [.int .i64 0, .int .i64 0] 44 false]) 44 (.pointer (some ⟨G.length, 0, none⟩)) (.agg #[Zy 0, Zy 1]) Kk = Kk (G ++ [bC 0]) := fun {Kk} => by
    rw [storeF (Xp G (Blk.cells [.int .i64 0, .int .i64 0] 44 false)) rfl, set_new]; rfl
  refine Yc fun N25 hN25 => ?_
  simp (maxSteps := 2000000) only [s61, ↓Za, ↓Zk, ↓Zs, ↓Zf, ↓Zn, ↓Zt, ↓Ze, ↓Zj, ↓Zg, ↓Zb, ↓Zc, ↓vdn, vup, Zl, Zh, Zi, Zm, Zo, List.map_cons, List.map_nil, cond_true, cond_false, aop, Zw, Zr, Zp, ev, sput, Zu, Zz, Yb, unK, Zd, Zx, Nat.reduceBEq, Nat.reduceAdd, Int.reduceBEq, Int.reduceBNe, Int.reduceLT, Zv, Ya, tup, tyf, bldF, Ve, Wd, zero_44, hst]
  refine hN25 [(0, Zy (n : Nat)), (1, v), (2, .pointer (some ⟨h.length, 0, none⟩)), (3, .pointer (some ⟨h.length + 1, 0, none⟩)), (4, .pointer (some ⟨h.length + 2, 0, none⟩)), (5, .pointer (some ⟨G0.length, 0, none⟩)), (12, .pointer (some ⟨G.length, 0, none⟩))] _ _ ?_ (by simp (maxSteps := 2000000) only [↓Za, ↓Zk, ↓Zs, ↓Zf, ↓Zn, ↓Zt, ↓Ze, ↓Zj, ↓Zg, ↓Zb, ↓Zc, ↓vdn, vup, Zl, Zh, Zi, Zm, Zo, List.map_cons, List.map_nil, cond_true, cond_false, aop, Zw, Zr, Zp, ev, sput, Zu, Zz, Yb, unK, Zd, Zx, Nat.reduceBEq, Nat.reduceAdd, Int.reduceBEq, Int.reduceBNe, Int.reduceLT, Zv, Ya, tup, tyf])
  clear hN25
  try clear N25
  refine Yc fun N26 hN26 => ?_
  simp (maxSteps := 2000000) only [s61, ↓Za, ↓Zk, ↓Zs, ↓Zf, ↓Zn, ↓Zt, ↓Ze, ↓Zj, ↓Zg, ↓Zb, ↓Zc, ↓vdn, vup, Zl, Zh, Zi, Zm, Zo, List.map_cons, List.map_nil, cond_true, cond_false, aop, Zw, Zr, Zp, ev, sput, Zu, Zz, Yb, unK, Zd, Zx, Nat.reduceBEq, Nat.reduceAdd, Int.reduceBEq, Int.reduceBNe, Int.reduceLT, Zv, Ya, tup, tyf, Ve, Wd, zero_83, List.length_append, List.length_singleton]
  refine hN26 [(0, Zy (n : Nat)), (1, v), (2, .pointer (some ⟨h.length, 0, none⟩)), (3, .pointer (some ⟨h.length + 1, 0, none⟩)), (4, .pointer (some ⟨h.length + 2, 0, none⟩)), (5, .pointer (some ⟨G0.length, 0, none⟩)), (12, .pointer (some ⟨G.length, 0, none⟩)), (13, .pointer (some ⟨G.length + 1, 0, none⟩))] _ _ ?_ (by simp (maxSteps := 2000000) only [↓Za, ↓Zk, ↓Zs, ↓Zf, ↓Zn, ↓Zt, ↓Ze, ↓Zj, ↓Zg, ↓Zb, ↓Zc, ↓vdn, vup, Zl, Zh, Zi, Zm, Zo, List.map_cons, List.map_nil, cond_true, cond_false, aop, Zw, Zr, Zp, ev, sput, Zu, Zz, Yb, unK, Zd, Zx, Nat.reduceBEq, Nat.reduceAdd, Int.reduceBEq, Int.reduceBNe, Int.reduceLT, Zv, Ya, tup, tyf])
  clear hN26
  try clear N26
  have hg0 : (G ++ [bC 0] ++ [Blk.cells [.nilFunc] 83 false])[G.length + 1]? = some (.cells [.nilFunc] 83 false) := by
    rw [List.getElem?_append_right (by simp)]; simp
  obtain ⟨gv, hgv⟩ : ∃ gv : Value, gv = .func (.func 85) #[] #[.pointer (some ⟨h.length, 0, none⟩), .pointer (some ⟨G0.length, 0, none⟩), .pointer (some ⟨G.length + 1, 0, none⟩), .pointer (some ⟨h.length + 1, 0, none⟩), .pointer (some ⟨G.length, 0, none⟩)] := ⟨_, rfl⟩
  refine Yc fun N27 hN27 => ?_
  simp (maxSteps := 2000000) only [s61, ↓Za, ↓Zk, ↓Zs, ↓Zf, ↓Zn, ↓Zt, ↓Ze, ↓Zj, ↓Zg, ↓Zb, ↓Zc, ↓vdn, vup, Zl, Zh, Zi, Zm, Zo, List.map_cons, List.map_nil, cond_true, cond_false, aop, Zw, Zr, Zp, ev, sput, Zu, Zz, Yb, unK, Zd, Zx, Nat.reduceBEq, Nat.reduceAdd, Int.reduceBEq, Int.reduceBNe, Int.reduceLT, Zv, Ya, tup, tyf, List.map_toArray, ← hgv]
  rw [store1 hg0 shp_83 (by rw [hgv]; rfl)]
  obtain ⟨Hf, hHf⟩ : ∃ Hf, Hf = (G ++ [bC 0] ++ [Blk.cells [.nilFunc] 83 false]).set (G.length + 1) (.cells [gv] 83 false) := ⟨_, rfl⟩
  rw [← hHf]
  refine hN27 [(0, Zy (n : Nat)), (1, v), (2, .pointer (some ⟨h.length, 0, none⟩)), (3, .pointer (some ⟨h.length + 1, 0, none⟩)), (4, .pointer (some ⟨h.length + 2, 0, none⟩)), (5, .pointer (some ⟨G0.length, 0, none⟩)), (12, .pointer (some ⟨G.length, 0, none⟩)), (13, .pointer (some ⟨G.length + 1, 0, none⟩))] _ _ ?_ (by simp (maxSteps := 2000000) only [↓Za, ↓Zk, ↓Zs, ↓Zf, ↓Zn, ↓Zt, ↓Ze, ↓Zj, ↓Zg, ↓Zb, ↓Zc, ↓vdn, vup, Zl, Zh, Zi, Zm, Zo, List.map_cons, List.map_nil, cond_true, cond_false, aop, Zw, Zr, Zp, ev, sput, Zu, Zz, Yb, unK, Zd, Zx, Nat.reduceBEq, Nat.reduceAdd, Int.reduceBEq, Int.reduceBNe, Int.reduceLT, Zv, Ya, tup, tyf])
  clear hN27
  try clear N27
  have hEf : Ext (fun _ => False) G Hf := by
    rw [hHf]; exact ((Ext.app _ _ _).trans (Ext.app _ _ _)).set_ge (by omega) _
  have hlf : Hf.length = G.length + 2 := by rw [hHf]; simp
  have uf : ∀ {b : Nat} {C : Blk}, G[b]? = some C → Hf[b]? = some C := fun {b C} hb => (hEf.2 b (Xg hb) id).trans hb
  have hgf : Hf[G.length + 1]? = some (.cells [gv] 83 false) := by rw [hHf]; exact get_set (Xg hg0) _
  have hbf : Hf[G.length]? = some (bC 0) := by
    rw [hHf, List.getElem?_set_ne (by omega), List.getElem?_append_left (by simp)]; exact Xp _ _
  have h5l : G0.length < G.length := by have := Xg s.box; omega
  have hhl : h.length + 3 ≤ G0.length := by omega
  have hrG' := ints_but hrH hr5 s.ext
  have ge : GE n K ws Hf h.length G0.length (G.length + 1) (h.length + 1) G.length rv r := by
    refine ⟨n1, n6, fun t ht => hs t (hKm t ht), by omega, uf (s.keep e2 (by omega)), uf s.box, by rw [hgf, hgv], uf (s.keep e3 (by omega)), by omega, by omega, by omega, by omega, fun H' hk' => ?_, fun H' hk' => ?_⟩
    · have hkeep : ∀ b, b < G.length → H'[b]? = G[b]? := fun b hb => (hk'.2 b (by omega) (by omega)).trans (hEf.2 b hb id)
      exact ⟨s.own.val.same fun b hb => hkeep b (s.own.lt hb), s.rows.imp fun x l hx => hx.1.same fun b hb => hkeep b (hx.1.lt hb)⟩
    · exact hrG'.same fun b hb => (hk'.2 b (by have := hrG'.lt hb; omega) (by have := hrG'.lt hb; omega)).trans (hEf.2 b (hrG'.lt hb) id)
  have hz0 : ∀ m, sumTo (fun _ => (0 : Rat)) m = 0 := fun m => Xj fun _ _ => rfl
  have ha0 : Att n K 0 := ⟨⟨fun _ => 0, ⟨fun i _ => Rat.le_refl, fun t _ => by
    have : dot (bitQ t) (fun _ => 0) n = 0 := Xj fun i _ => Rat.mul_zero _
    rw [this]; decide⟩, hz0 n⟩, by decide, by decide⟩
  refine Yc fun N28 hN28 => ?_
  simp (maxSteps := 2000000) only [s61, ↓Za, ↓Zk, ↓Zs, ↓Zf, ↓Zn, ↓Zt, ↓Ze, ↓Zj, ↓Zg, ↓Zb, ↓Zc, ↓vdn, vup, Zl, Zh, Zi, Zm, Zo, List.map_cons, List.map_nil, cond_true, cond_false, aop, Zw, Zr, Zp, ev, sput, Zu, Zz, Yb, unK, Zd, Zx, Nat.reduceBEq, Nat.reduceAdd, Int.reduceBEq, Int.reduceBNe, Int.reduceLT, Zv, Ya, tup, tyf, load1 hgf shp_83]
  rw [hgv]
  simp (maxSteps := 2000000) only [s61, ↓Za, ↓Zk, ↓Zs, ↓Zf, ↓Zn, ↓Zt, ↓Ze, ↓Zj, ↓Zg, ↓Zb, ↓Zc, ↓vdn, vup, Zl, Zh, Zi, Zm, Zo, List.map_cons, List.map_nil, cond_true, cond_false, aop, Zw, Zr, Zp, ev, sput, Zu, Zz, Yb, unK, Zd, Zx, Nat.reduceBEq, Nat.reduceAdd, Int.reduceBEq, Int.reduceBNe, Int.reduceLT, Zv, Ya, tup, tyf, Yy, List.nil_append, List.append_nil, List.toList_toArray, List.cons_append]
  refine (grow_call ge n 0 [] Hf (.slice none 0 0) 0 (by simp) (Ext.refl _ _) (.inl ⟨rfl, rfl⟩) (fun k hk => by cases hk) (Nat.zero_le _) hbf ha0).mono ?_
  rintro _ H3 ⟨hE3, q, hq, haq, _, hle⟩
  refine hN28 [(0, Zy (n : Nat)), (1, v), (2, .pointer (some ⟨h.length, 0, none⟩)), (3, .pointer (some ⟨h.length + 1, 0, none⟩)), (4, .pointer (some ⟨h.length + 2, 0, none⟩)), (5, .pointer (some ⟨G0.length, 0, none⟩)), (12, .pointer (some ⟨G.length, 0, none⟩)), (13, .pointer (some ⟨G.length + 1, 0, none⟩))] _ _ ?_ (by simp (maxSteps := 2000000) only [↓Za, ↓Zk, ↓Zs, ↓Zf, ↓Zn, ↓Zt, ↓Ze, ↓Zj, ↓Zg, ↓Zb, ↓Zc, ↓vdn, vup, Zl, Zh, Zi, Zm, Zo, List.map_cons, List.map_nil, cond_true, cond_false, aop, Zw, Zr, Zp, ev, sput, Zu, Zz, Yb, unK, Zd, Zx, Nat.reduceBEq, Nat.reduceAdd, Int.reduceBEq, Int.reduceBNe, Int.reduceLT, Zv, Ya, tup, tyf])
  clear hN28
  try clear N28
  have h4f : H3[h.length + 2]? = some (.cells [.int .i64 0, .int .i64 0] 44 false) := (hE3.2 _ (Xg (uf (s.keep e4 (by omega)))) (by omega)).trans (uf (s.keep e4 (by omega)))
  refine Yf ?_
  simp (maxSteps := 2000000) only [s61, ↓Za, ↓Zk, ↓Zs, ↓Zf, ↓Zn, ↓Zt, ↓Ze, ↓Zj, ↓Zg, ↓Zb, ↓Zc, ↓vdn, vup, Zl, Zh, Zi, Zm, Zo, List.map_cons, List.map_nil, cond_true, cond_false, aop, Zw, Zr, Zp, ev, sput, Zu, Zz, Yb, unK, Zd, Zx, Nat.reduceBEq, Nat.reduceAdd, Int.reduceBEq, Int.reduceBNe, Int.reduceLT, Zv, Ya, tup, tyf, loadF hq, storeF h4f rfl, loadF (get_set (Xg h4f) _)]
  have hcK : ∀ i, i < n → ∃ t ∈ K, t.testBit i = true := hK ▸ keep_cover hs hc
  refine ⟨?_, q, rfl, opt_keep (hK.symm ▸ isOpt_of hcK haq.1 fun B x hx => hle B (by
    have := hx.sub
    rwa [List.range_eq_range'] at this) hx.len x (by simpa using hx)), ?_⟩
  · have hEa : Ext (fun _ => False) h G0 := by
      have : Ext (fun b => h.length ≤ b) h G0 := by
        rw [hG0]
        exact (((hEH.mono fun _ h => h.elim).trans (hw1.2.1.mono fun _ h => h.elim)).trans (hE2.mono fun b hb => by have := hw1.2.2 b hb; omega)).trans (Ext.set _ (by omega))
      exact ⟨this.1, fun i hi _ => this.2 i hi (by omega)⟩
    have hEb : Ext (fun _ => False) h G := ext_ge (hEa.trans hE00) (fun i hi => by omega) s.ext
    exact (ext_ge (hEb.trans hEf) (fun i hi => by have := hEb.1; omega) hE3).set_ge (by omega) _
  · obtain ⟨⟨x, hx, e⟩, h5⟩ := haq
    exact ⟨⟨x, feas_keep.1 (hK.symm ▸ hx), e⟩, h5⟩
end Go.Proofs.Tryd.Am

namespace Go.Proofs.Tryd.Am
open Go.Am
set_option maxRecDepth 100000
/-! 36: planchet planchetlaw05.small -/
@[reducible] def q36_0 : SCode := .region [⟨some 1, .box 44 (.tmp 0), none⟩,
    ⟨some 2, .assign (.const (.bool false)), none⟩]
@[reducible] def q36_1 : SCode := .region [⟨some 3, .fieldAddr 44 (.tmp 1) 1, none⟩,
    ⟨some 4, .load 3 (.tmp 3), none⟩,
    ⟨some 5, .binOp .geq 3 (.tmp 4) (.const (.int .i64 1)) 3, none⟩,
    ⟨some 6, .move (.tmp 5), none⟩,
    ⟨some 7, .fieldAddr 44 (.tmp 1) 1, some (6, true)⟩,
    ⟨some 8, .load 3 (.tmp 7), some (6, true)⟩,
    ⟨some 9, .binOp .leq 3 (.tmp 8) (.const (.int .i64 1000)) 3, some (6, true)⟩,
    ⟨some 10, .pick (.tmp 6) (.tmp 9) (.const (.bool false)), none⟩,
    ⟨some 11, .move (.tmp 10), none⟩,
    ⟨some 12, .fieldAddr 44 (.tmp 1) 0, some (11, true)⟩,
    ⟨some 13, .load 3 (.tmp 12), some (11, true)⟩,
    ⟨some 14, .fieldAddr 44 (.tmp 1) 1, some (11, true)⟩,
    ⟨some 15, .load 3 (.tmp 14), some (11, true)⟩,
    ⟨some 16, .binOp .geq 3 (.tmp 13) (.tmp 15) 3, some (11, true)⟩,
    ⟨some 17, .pick (.tmp 11) (.tmp 16) (.const (.bool false)), none⟩,
    ⟨some 18, .move (.tmp 17), none⟩,
    ⟨some 19, .fieldAddr 44 (.tmp 1) 0, some (18, true)⟩,
    ⟨some 20, .load 3 (.tmp 19), some (18, true)⟩,
    ⟨some 21, .fieldAddr 44 (.tmp 1) 1, some (18, true)⟩,
    ⟨some 22, .load 3 (.tmp 21), some (18, true)⟩,
    ⟨some 23, .binOp .mul 3 (.const (.int .i64 6)) (.tmp 22) 3, some (18, true)⟩,
    ⟨some 24, .binOp .leq 3 (.tmp 20) (.tmp 23) 3, some (18, true)⟩,
    ⟨some 25, .pick (.tmp 18) (.tmp 24) (.const (.bool false)), none⟩,
    ⟨some 2, .assign (.tmp 25), none⟩]
def s36 : SCode := (.seq q36_0 (.seq q36_1 .ret))
theorem s36_strip : Yi (Ym Tryd.f36) = s36 := by kernel_rfl
theorem s36_ok : Yx 26 (Ym Tryd.f36) = true := by kernel_rfl
/-! 37: planchet planchetref05.Less -/
@[reducible] def q37_0 : SCode := .region [⟨some 2, .box 44 (.tmp 0), none⟩,
    ⟨some 3, .box 44 (.tmp 1), none⟩,
    ⟨some 4, .assign (.const (.bool false)), none⟩]
@[reducible] def q37_1 : SCode := .region [⟨some 5, .fieldAddr 44 (.tmp 2) 0, none⟩,
    ⟨some 6, .load 3 (.tmp 5), none⟩,
    ⟨some 7, .fieldAddr 44 (.tmp 3) 1, none⟩,
    ⟨some 8, .load 3 (.tmp 7), none⟩,
    ⟨some 9, .binOp .mul 3 (.tmp 6) (.tmp 8) 3, none⟩,
    ⟨some 10, .fieldAddr 44 (.tmp 3) 0, none⟩,
    ⟨some 11, .load 3 (.tmp 10), none⟩,
    ⟨some 12, .fieldAddr 44 (.tmp 2) 1, none⟩,
    ⟨some 13, .load 3 (.tmp 12), none⟩,
    ⟨some 14, .binOp .mul 3 (.tmp 11) (.tmp 13) 3, none⟩,
    ⟨some 15, .binOp .lss 3 (.tmp 9) (.tmp 14) 3, none⟩,
    ⟨some 4, .assign (.tmp 15), none⟩]
def s37 : SCode := (.seq q37_0 (.seq q37_1 .ret))
theorem s37_strip : Yi (Ym Tryd.f37) = s37 := by kernel_rfl
theorem s37_ok : Yx 16 (Ym Tryd.f37) = true := by kernel_rfl
theorem s37_call [Tabs Tryd.prog] {args : List Value} {h : Yd} {Q : Value → Yd → Prop} (hsz : args.length ≤ 16) (hk : aw Tryd.prog 16 s37 (Zv Tryd.prog [.tmp 4] Q) (Zp 0 args) h) : ACall Tryd.prog 37 args h Q :=
  Wq Tryd.func37 rfl (enters_of Tryd.func37 (by kernel_rfl) rfl) rfl rfl (by decide) s37_strip s37_ok hsz hk

end Go.Proofs.Tryd.Am

namespace Go.Proofs.Tryd.Am
open Go.Am Sr Bq
set_option maxRecDepth 100000
set_option maxHeartbeats 1000000

theorem gn_bit (xs : List Int) (i j : Nat) : (gn xs i).testBit j = gb xs i j := rfl
theorem cq_iff {xs : List Int} {s i : Nat} (hi : gb xs i i = false) : cq xs s i = true ↔ (s.testBit i = true → ∀ j, j ≠ i → s.testBit j = true → gb xs i j = true) := by
  rw [cq]
  cases hs : s.testBit i with
  | false => simp
  | true =>
    rw [Bool.not_true, Bool.false_or, beq_iff_eq]
    constructor
    · intro h _ j hj hb
      have h1 := Yn s (gn xs i) j
      rw [h, hb, Nat.testBit_two_pow_of_ne (Ne.symm hj), gn_bit] at h1
      simpa using h1.symm
    · intro h
      refine Nat.eq_of_testBit_eq fun j => ?_
      rw [Yn, gn_bit, Nat.testBit_two_pow]
      by_cases hj : j = i
      · rw [hj, hs, hi]; simp
      · rw [decide_eq_false (fun h => hj h.symm)]
        cases hb : s.testBit j with
        | false => rfl
        | true => rw [h rfl j hj hb]; rfl
theorem mem_clq {xs : List Int} (g : Gs xs) {s : Nat} : s ∈ clq xs ↔ s < 2 ^ xs.length ∧ 0 < s ∧ ∀ i, i < xs.length → s.testBit i = true → ∀ j, j ≠ i → s.testBit j = true → gb xs i j = true := by
  rw [clq, clqTo, List.mem_filter, List.mem_range, Bool.and_eq_true, decide_eq_true_eq, isC, List.all_eq_true]
  refine and_congr_right fun _ => and_congr_right fun _ => ⟨fun h i hi => (cq_iff (g.2.2 i hi).2.1).1 (h i (List.mem_range.2 hi)), fun h i hi => ?_⟩
  rw [List.mem_range] at hi
  exact (cq_iff (g.2.2 i hi).2.1).2 (h i hi)
theorem single_clq {xs : List Int} (g : Gs xs) {i : Nat} (hi : i < xs.length) : 2 ^ i ∈ clq xs := by
  rw [mem_clq g]
  refine ⟨Nat.pow_lt_pow_right (by decide) hi, Nat.two_pow_pos i, fun k hk hb j hj hj2 => ?_⟩
  rw [Nat.testBit_two_pow, decide_eq_true_eq] at hb hj2
  omega
theorem clq_cover {xs : List Int} (g : Gs xs) (i : Nat) (hi : i < xs.length) : ∃ s ∈ clq xs, s.testBit i = true := ⟨_, single_clq g hi, Nat.testBit_two_pow_self⟩
def WQ (xs : List Int) (q : Rat) : Prop := IsOpt xs.length (clq xs) q ∧ q.num.natAbs ≤ 4320 ∧ q.den ≤ 720
theorem clq_ne {xs : List Int} (g : Gs xs) : clq xs ≠ [] := fun h => by
  have := single_clq g (i := 0) (by have := g.1; omega)
  rw [h] at this; cases this
theorem WQ.ge {xs : List Int} (g : Gs xs) {q : Rat} (w : WQ xs q) : 1 ≤ q := by
  have h0 : 0 < xs.length := by have := g.1; omega
  have := w.1.le (fun i => if i = 0 then 1 else 0) ⟨fun i _ => by split <;> decide, fun s _ => by
    have : dot (bitQ s) (fun i => if i = 0 then 1 else 0) xs.length = bitQ s 0 := by
      have h1 := dot_unit (n := xs.length) (t := 0) (fun i => if i = 0 then 1 else 0) (bitQ s) h0 fun i _ => rfl
      rw [← h1, dot, dot]
      exact Ye fun i _ => Rat.mul_comm _ _
    rw [this, bitQ]; split <;> decide⟩
  have e : Bq.sumTo (fun i => if i = 0 then (1 : Rat) else 0) xs.length = 1 := by
    have h1 := dot_unit (n := xs.length) (t := 0) (fun i => if i = 0 then 1 else 0) (fun _ => 1) h0 fun i _ => rfl
    exact (Ye fun i _ => (Rat.mul_one _).symm).trans h1
  rwa [e] at this
theorem feas_one {xs : List Int} (g : Gs xs) {x : Nat → Rat} (hx : PFeas xs.length (clq xs) x) {i : Nat} (hi : i < xs.length) : x i ≤ 1 := by
  have := hx.le _ (single_clq g hi)
  rwa [dot_unit (bitQ (2 ^ i)) x hi fun k _ => by
    rw [bitQ, Nat.testBit_two_pow]
    by_cases h : i = k
    · rw [decide_eq_true h, if_pos rfl, if_pos h.symm]
    · rw [decide_eq_false h, if_neg (by decide), if_neg fun he => h he.symm]] at this
theorem radd_le {a b c d : Rat} (h1 : a ≤ b) (h2 : c ≤ d) : a + c ≤ b + d := by grind
theorem sum_le_nat {x : Nat → Rat} : ∀ {n : Nat}, (∀ i, i < n → x i ≤ 1) → Bq.sumTo x n ≤ ((n : Nat) : Rat)
  | 0, _ => by rw [Bq.sumTo]; decide
  | n + 1, h => by
    have h1 := sum_le_nat (x := x) (n := n) fun i hi => h i (by omega)
    have h2 := h n (by omega)
    rw [Bq.sumTo, Rat.natCast_add]
    exact radd_le h1 h2
theorem WQ.le {xs : List Int} (g : Gs xs) {q : Rat} (w : WQ xs q) : q ≤ ((xs.length : Nat) : Rat) := by
  obtain ⟨x, hx, rfl⟩ := w.1.at_
  exact sum_le_nat fun i hi => feas_one g hx hi
theorem WQ.inj {xs : List Int} {p q : Rat} (h1 : WQ xs p) (h2 : WQ xs q) : p = q := h1.1.inj h2.1
theorem WQ.small {xs : List Int} (g : Gs xs) {q : Rat} (w : WQ xs q) : (q.den : Int) ≤ q.num ∧ q.num ≤ 6 * q.den := by
  have h1 := w.ge g
  have h2 := w.le g
  have h6 := g.2.1
  have h3 : q ≤ ((6 : Nat) : Rat) := Rat.le_trans h2 (by
    have : ((xs.length : Int) : Rat) ≤ ((6 : Int) : Rat) := Rat.intCast_le_intCast.2 (by omega)
    exact this)
  rw [Rat.le_iff] at h1 h3
  have e1 : (1 : Rat).num = 1 := rfl
  have e2 : (1 : Rat).den = 1 := rfl
  have e3 : ((6 : Nat) : Rat).num = 6 := rfl
  have e4 : ((6 : Nat) : Rat).den = 1 := rfl
  rw [e1, e2] at h1
  rw [e3, e4] at h3
  omega
def weighR (xs : List Int) (r : Value) : Prop := if grs xs = true then ∃ q, r = .tuple #[qV q, .int .i64 0] ∧ WQ xs q else r = .tuple #[frV 0 0, .int .i64 2]
theorem weighR_take {xs : List Int} {r : Value} (hr : weighR (xs.take 80) r) (ht : grs (xs.take 80) = grs xs) (hs : grs xs = true → xs.take 80 = xs) : weighR xs r := by
  rw [weighR, ht] at hr
  rw [weighR]
  split
  · next h => rw [if_pos h, hs h] at hr; exact hr
  · next h => rw [if_neg h] at hr; exact hr

theorem s35_callW [Tabs Tryd.prog] {args : List Value} {h : Yd} {Q : Value → Yd → Prop} (hsz : args.length ≤ 13) (hk : AWS Tryd.prog 13 s35 (Zv Tryd.prog [.cell 2 44, .tmp 3] Q) (Zp 0 args) h) : ACall Tryd.prog 35 args h Q :=
  Wb Tryd.func35 rfl (enters_of Tryd.func35 (by kernel_rfl) rfl) rfl rfl (by decide) s35_strip s35_ok hsz hk
theorem weigh_call [Tabs prog] {h : Yd} {v : Value} {xs : List Int} (hv : IntSl h v xs) (hl : xs.length < 9223372036854775808) (hx : ∀ x ∈ xs, -9223372036854775808 ≤ x ∧ x < 9223372036854775808) :
    ACall prog 35 [v] h fun r h' => Ext (fun _ => False) h h' ∧ weighR xs r := by
  obtain ⟨H, hH⟩ : ∃ H, H = h ++ [Blk.cells [.int .i64 0, .int .i64 0] 44 false] := ⟨_, rfl⟩
  have hc : H[h.length]? = some (.cells [.int .i64 0, .int .i64 0] 44 false) := by rw [hH]; exact Xp _ _
  have hv0 : IntSl H v xs := hH ▸ hv.grow _
  have hE0 : Ext (fun _ => False) h H := hH ▸ Ext.app _ _ _
  refine s35_callW (by simp) ?_
  simp only [s35]
  refine Yc fun N1 hN1 => ?_
  simp (maxSteps := 2000000) only [s35, ↓Za, ↓Zk, ↓Zs, ↓Zf, ↓Zn, ↓Zt, ↓Ze, ↓Zj, ↓Zg, ↓Zb, ↓Zc, ↓vdn, vup, Zl, Zh, Zi, Zm, Zo, List.map_cons, List.map_nil, cond_true, cond_false, aop, Zw, Zr, Zp, ev, sput, Zu, Zz, Yb, unK, Zd, Zx, Nat.reduceBEq, Nat.reduceAdd, Int.reduceBEq, Int.reduceBNe, Int.reduceLT, Zv, Ya, tup, tyf, Ve, Wd, zero_44, ← hH]
  refine hN1 [(0, v), (2, .pointer (some ⟨h.length, 0, none⟩)), (3, .int .i64 0)] _ _ ?_ (by simp (maxSteps := 2000000) only [↓Za, ↓Zk, ↓Zs, ↓Zf, ↓Zn, ↓Zt, ↓Ze, ↓Zj, ↓Zg, ↓Zb, ↓Zc, ↓vdn, vup, Zl, Zh, Zi, Zm, Zo, List.map_cons, List.map_nil, cond_true, cond_false, aop, Zw, Zr, Zp, ev, sput, Zu, Zz, Yb, unK, Zd, Zx, Nat.reduceBEq, Nat.reduceAdd, Int.reduceBEq, Int.reduceBNe, Int.reduceLT, Zv, Ya, tup, tyf])
  clear hN1
  try clear N1
  refine Yg fun M hM => ?_
  refine Yc fun N2 hN2 => ?_
  simp (maxSteps := 2000000) only [s35, ↓Za, ↓Zk, ↓Zs, ↓Zf, ↓Zn, ↓Zt, ↓Ze, ↓Zj, ↓Zg, ↓Zb, ↓Zc, ↓vdn, vup, Zl, Zh, Zi, Zm, Zo, List.map_cons, List.map_nil, cond_true, cond_false, aop, Zw, Zr, Zp, ev, sput, Zu, Zz, Yb, unK, Zd, Zx, Nat.reduceBEq, Nat.reduceAdd, Int.reduceBEq, Int.reduceBNe, Int.reduceLT, Zv, Ya, tup, tyf, Yy, List.nil_append, List.append_nil, List.toList_toArray, List.cons_append]
  refine (valid_call hv0 hl hx).mono ?_
  rintro _ H ⟨rfl, rfl⟩
  cases hg : grs xs with
  | false =>
    simp (maxSteps := 2000000) only [s35, ↓Za, ↓Zk, ↓Zs, ↓Zf, ↓Zn, ↓Zt, ↓Ze, ↓Zj, ↓Zg, ↓Zb, ↓Zc, ↓vdn, vup, Zl, Zh, Zi, Zm, Zo, List.map_cons, List.map_nil, cond_true, cond_false, aop, Zw, Zr, Zp, ev, sput, Zu, Zz, Yb, unK, Zd, Zx, Nat.reduceBEq, Nat.reduceAdd, Int.reduceBEq, Int.reduceBNe, Int.reduceLT, Zv, Ya, tup, tyf, Bool.not_false]
    refine hN2 [(0, v), (2, .pointer (some ⟨h.length, 0, none⟩)), (3, .int .i64 0), (6, .bool true)] _ _ ?_ (by simp (maxSteps := 2000000) only [↓Za, ↓Zk, ↓Zs, ↓Zf, ↓Zn, ↓Zt, ↓Ze, ↓Zj, ↓Zg, ↓Zb, ↓Zc, ↓vdn, vup, Zl, Zh, Zi, Zm, Zo, List.map_cons, List.map_nil, cond_true, cond_false, aop, Zw, Zr, Zp, ev, sput, Zu, Zz, Yb, unK, Zd, Zx, Nat.reduceBEq, Nat.reduceAdd, Int.reduceBEq, Int.reduceBNe, Int.reduceLT, Zv, Ya, tup, tyf])
    clear hN2
    try clear N2
    refine Xq rfl ?_
    refine Yf ?_
    have hst : ∀ {K : Yd → Prop}, Xu prog H 44 (.pointer (some ⟨h.length, 0, none⟩)) (.agg #[Zy 0, Zy 0]) K = K (H.set h.length (.cells [Zy 0, Zy 0] 44 false)) := fun {K} => storeF hc rfl
    simp (maxSteps := 2000000) only [s35, ↓Za, ↓Zk, ↓Zs, ↓Zf, ↓Zn, ↓Zt, ↓Ze, ↓Zj, ↓Zg, ↓Zb, ↓Zc, ↓vdn, vup, Zl, Zh, Zi, Zm, Zo, List.map_cons, List.map_nil, cond_true, cond_false, aop, Zw, Zr, Zp, ev, sput, Zu, Zz, Yb, unK, Zd, Zx, Nat.reduceBEq, Nat.reduceAdd, Int.reduceBEq, Int.reduceBNe, Int.reduceLT, Zv, Ya, tup, tyf, bldF0, hst, loadF (get_set (Xg hc) _)]
    exact ⟨hE0.set_ge (Nat.le_refl _) _, by rw [weighR, hg, if_neg (by decide)]; rfl⟩
  | true =>
    have g := grs_iff.1 hg
    have h6 := g.2.1
    simp (maxSteps := 2000000) only [s35, ↓Za, ↓Zk, ↓Zs, ↓Zf, ↓Zn, ↓Zt, ↓Ze, ↓Zj, ↓Zg, ↓Zb, ↓Zc, ↓vdn, vup, Zl, Zh, Zi, Zm, Zo, List.map_cons, List.map_nil, cond_true, cond_false, aop, Zw, Zr, Zp, ev, sput, Zu, Zz, Yb, unK, Zd, Zx, Nat.reduceBEq, Nat.reduceAdd, Int.reduceBEq, Int.reduceBNe, Int.reduceLT, Zv, Ya, tup, tyf, Bool.not_true]
    refine hN2 [(0, v), (2, .pointer (some ⟨h.length, 0, none⟩)), (3, .int .i64 0), (6, .bool false)] _ _ ?_ (by simp (maxSteps := 2000000) only [↓Za, ↓Zk, ↓Zs, ↓Zf, ↓Zn, ↓Zt, ↓Ze, ↓Zj, ↓Zg, ↓Zb, ↓Zc, ↓vdn, vup, Zl, Zh, Zi, Zm, Zo, List.map_cons, List.map_nil, cond_true, cond_false, aop, Zw, Zr, Zp, ev, sput, Zu, Zz, Yb, unK, Zd, Zx, Nat.reduceBEq, Nat.reduceAdd, Int.reduceBEq, Int.reduceBNe, Int.reduceLT, Zv, Ya, tup, tyf])
    clear hN2
    try clear N2
    refine Yz rfl ?_
    refine Yf ?_
    simp (maxSteps := 2000000) only [s35, ↓Za, ↓Zk, ↓Zs, ↓Zf, ↓Zn, ↓Zt, ↓Ze, ↓Zj, ↓Zg, ↓Zb, ↓Zc, ↓vdn, vup, Zl, Zh, Zi, Zm, Zo, List.map_cons, List.map_nil, cond_true, cond_false, aop, Zw, Zr, Zp, ev, sput, Zu, Zz, Yb, unK, Zd, Zx, Nat.reduceBEq, Nat.reduceAdd, Int.reduceBEq, Int.reduceBNe, Int.reduceLT, Zv, Ya, tup, tyf]
    refine hM [(0, v), (2, .pointer (some ⟨h.length, 0, none⟩)), (3, .int .i64 0)] _ _ ?_ (by simp (maxSteps := 2000000) only [↓Za, ↓Zk, ↓Zs, ↓Zf, ↓Zn, ↓Zt, ↓Ze, ↓Zj, ↓Zg, ↓Zb, ↓Zc, ↓vdn, vup, Zl, Zh, Zi, Zm, Zo, List.map_cons, List.map_nil, cond_true, cond_false, aop, Zw, Zr, Zp, ev, sput, Zu, Zz, Yb, unK, Zd, Zx, Nat.reduceBEq, Nat.reduceAdd, Int.reduceBEq, Int.reduceBNe, Int.reduceLT, Zv, Ya, tup, tyf])
    clear hM
    try clear M
    refine Yf ?_
    simp (maxSteps := 2000000) only [s35, ↓Za, ↓Zk, ↓Zs, ↓Zf, ↓Zn, ↓Zt, ↓Ze, ↓Zj, ↓Zg, ↓Zb, ↓Zc, ↓vdn, vup, Zl, Zh, Zi, Zm, Zo, List.map_cons, List.map_nil, cond_true, cond_false, aop, Zw, Zr, Zp, ev, sput, Zu, Zz, Yb, unK, Zd, Zx, Nat.reduceBEq, Nat.reduceAdd, Int.reduceBEq, Int.reduceBNe, Int.reduceLT, Zv, Ya, tup, tyf, Yy, List.nil_append, List.append_nil, List.toList_toArray, List.cons_append, hv0.len]
    refine (cliques_call hv0 g).mono ?_
    rintro r1 h1 ⟨ho1, hE1, _⟩
    have hlt : ∀ s ∈ clq xs, s < 2 ^ xs.length := fun s hs => ((mem_clq g).1 hs).1
    have hln : (clq xs).length < 1000 := by
      have := clqTo_len xs (2 ^ xs.length)
      have := pow6N h6
      rw [clq]; omega
    refine (packing_call (n := xs.length) (sets := clq xs) ho1.int (clq_ne g) g.1 h6 hlt hln (clq_cover g)).mono ?_
    rintro r2 h2 ⟨hE2, q, rfl, hq, ha⟩
    have hE12 := hE1.trans hE2
    have hc2 := (hE12.2 _ (Xg hc) id).trans hc
    simp (maxSteps := 2000000) only [s35, ↓Za, ↓Zk, ↓Zs, ↓Zf, ↓Zn, ↓Zt, ↓Ze, ↓Zj, ↓Zg, ↓Zb, ↓Zc, ↓vdn, vup, Zl, Zh, Zi, Zm, Zo, List.map_cons, List.map_nil, cond_true, cond_false, aop, Zw, Zr, Zp, ev, sput, Zu, Zz, Yb, unK, Zd, Zx, Nat.reduceBEq, Nat.reduceAdd, Int.reduceBEq, Int.reduceBNe, Int.reduceLT, Zv, Ya, tup, tyf, qV, frV, storeF hc2 rfl, loadF (get_set (Xg hc2) _)]
    exact ⟨(hE0.trans hE12).set_ge (Nat.le_refl _) _, by rw [weighR, hg, if_pos rfl]; exact ⟨q, rfl, hq, ha.2⟩⟩
theorem s36_callW [Tabs Tryd.prog] {args : List Value} {h : Yd} {Q : Value → Yd → Prop} (hsz : args.length ≤ 26) (hk : AWS Tryd.prog 26 s36 (Zv Tryd.prog [.tmp 2] Q) (Zp 0 args) h) : ACall Tryd.prog 36 args h Q :=
  Wb Tryd.func36 rfl (enters_of Tryd.func36 (by kernel_rfl) rfl) rfl rfl (by decide) s36_strip s36_ok hsz hk
theorem small_call [Tabs prog] {h : Yd} {q : Rat} (h1 : (q.den : Int) ≤ q.num) (h2 : q.num ≤ 6 * q.den) (h3 : q.den ≤ 720) : APure prog 36 [qV q] h (.bool true) := by
  have hE : Ext (fun _ => False) h (h ++ [Blk.cells [Zy q.num, Zy q.den] 44 false]) := Ext.app _ _ _
  have hd := q.den_pos
  have e1 : (1 : Int) ≤ q.den := by omega
  have e2 : (q.den : Int) ≤ 1000 := by omega
  have e3 : mulV .i64 6 (q.den : Int) = 6 * (q.den : Int) := mulV_id (by omega) (by omega)
  refine ACall.forget (.bool _) ?_
  refine s36_callW (by simp) ?_
  simp only [s36]
  refine Yf ?_
  simp (maxSteps := 2000000) only [s36, ↓Za, ↓Zk, ↓Zs, ↓Zf, ↓Zn, ↓Zt, ↓Ze, ↓Zj, ↓Zg, ↓Zb, ↓Zc, ↓vdn, vup, Zl, Zh, Zi, Zm, Zo, List.map_cons, List.map_nil, cond_true, cond_false, aop, Zw, Zr, Zp, ev, sput, Zu, Zz, Yb, unK, Zd, Zx, Nat.reduceBEq, Nat.reduceAdd, Int.reduceBEq, Int.reduceBNe, Int.reduceLT, Zv, Ya, tup, tyf, qV, frV, boxF, Wd, fA0, fA1, loadF0 (Xp h (Blk.cells [Zy q.num, Zy q.den] 44 false)), loadF1 (Xp h (Blk.cells [Zy q.num, Zy q.den] 44 false)), ge_iff_le, e1, e2, e3, h1, h2]
  exact hE
theorem rless_call [Tabs prog] {h : Yd} {a b c d : Int} (h1 : -9223372036854775808 ≤ a * d ∧ a * d < 9223372036854775808) (h2 : -9223372036854775808 ≤ c * b ∧ c * b < 9223372036854775808) : APure prog 37 [frV a b, frV c d] h (.bool (decide (a * d < c * b))) := by
  refine ACall.forget (.bool _) ?_
  have e1 := get_old (Xp h (Blk.cells [Zy a, Zy b] 44 false)) [Blk.cells [Zy c, Zy d] 44 false]
  have e2 := Xp (h ++ [Blk.cells [Zy a, Zy b] 44 false]) (Blk.cells [Zy c, Zy d] 44 false)
  have hE : Ext (fun _ => False) h (h ++ [Blk.cells [Zy a, Zy b] 44 false] ++ [Blk.cells [Zy c, Zy d] 44 false]) := (Ext.app _ _ _).trans (Ext.app _ _ _)
  refine s37_call (by simp) ?_
  simp only [s37, frV]
  simp (maxSteps := 2000000) only [s37, ↓Za, ↓Zk, ↓Zs, ↓Zf, ↓Zn, ↓Zt, ↓Ze, ↓Zj, ↓Zg, ↓Zb, ↓Zc, ↓vdn, vup, Zl, Zh, Zi, Zm, Zo, List.map_cons, List.map_nil, cond_true, cond_false, aop, Zw, Zr, Zp, ev, sput, Zu, Zz, Yb, unK, Zd, Zx, Nat.reduceBEq, Nat.reduceAdd, Int.reduceBEq, Int.reduceBNe, Int.reduceLT, Zv, Ya, tup, tyf, boxF, Wd, fA0, fA1, loadF0 e1, loadF1 e1, loadF0 e2, loadF1 e2, mulV_id h1.1 h1.2, mulV_id h2.1 h2.2]
  exact hE
end Go.Proofs.Tryd.Am

namespace Go.Proofs.Tryd.Am
open Go.Am Sr Bq

theorem getD_ne {L : List Nat} {s i x : Nat} (h : i ≠ s) : (L.set s x).getD i 0 = L.getD i 0 := by
  rw [List.getD, List.getElem?_set_ne (fun he => h he.symm), List.getD]
theorem cvS_ne {s c i : Nat} {L : List Nat} (h : i ≠ s) : (cvS s L c).getD i 0 = L.getD i 0 := by
  rw [cvS]; split
  · rfl
  · exact getD_ne h
theorem cvJ_ne {C : List Nat} {n s i : Nat} {L : List Nat} (h : i ≠ s) : ∀ j, j ≤ C.length → (cvJ C n s L j).getD i 0 = L.getD i 0
  | 0, _ => by rw [cvJ_zero]; exact getD_ne h
  | j + 1, hj => by rw [cvJ_succ n s L (by omega), cvS_ne h]; exact cvJ_ne h j (by omega)
theorem less_lt_self {s c : Nat} (h : c &&& s ≠ 0) : less s c < s := by
  refine Nat.lt_of_le_of_ne (Sr.less_le s c) fun he => h (Nat.eq_of_testBit_eq fun i => ?_)
  have := Yn s c i
  rw [he] at this
  rw [Nat.testBit_and, Nat.zero_testBit]
  cases hs : s.testBit i with
  | false => rw [Bool.and_false]
  | true => rw [hs] at this; simpa using this
def CovAt (C : List Nat) (n s : Nat) (L : List Nat) (v : Nat) : Prop := (v = n ∨ ∃ c ∈ C, c &&& s ≠ 0 ∧ v = 1 + L.getD (less s c) 0) ∧ v ≤ n ∧ ∀ c ∈ C, c &&& s ≠ 0 → v ≤ 1 + L.getD (less s c) 0
theorem cvJ_at {C : List Nat} {M n s : Nat} {L : List Nat} (b : CvB M n L) (hs : s < M) : ∀ j, j ≤ C.length → CovAt (C.take j) n s L ((cvJ C n s L j).getD s 0)
  | 0, _ => by
    rw [cvJ_zero, getD_setN (by rw [b.len]; exact hs), if_pos rfl]
    exact ⟨.inl rfl, Nat.le_refl _, fun c hc => by cases hc⟩
  | j + 1, hj => by
    obtain ⟨h1, h2, h3⟩ := cvJ_at b hs (C := C) j (by omega)
    obtain ⟨V, hV⟩ : ∃ V, V = cvJ C n s L j := ⟨_, rfl⟩
    have hVl : V.length = M := by rw [hV]; exact (b.run hs j (by omega)).len
    obtain ⟨c, hc⟩ : ∃ c, c = C.getD j 0 := ⟨_, rfl⟩
    have hcm : C.take (j + 1) = C.take j ++ [c] := by
      rw [List.take_succ_eq_append_getElem (by omega), hc, List.getD, List.getElem?_eq_getElem (by omega)]; rfl
    rw [← hV] at h1 h2 h3
    rw [cvJ_succ n s L (by omega), ← hc, ← hV, hcm, cvS]
    split
    · next h0 =>
      refine ⟨h1.imp id fun ⟨d, hd, h⟩ => ⟨d, List.mem_append_left _ hd, h⟩, h2, fun d hd hne => ?_⟩
      rcases List.mem_append.1 hd with hd | hd
      · exact h3 d hd hne
      · rw [List.mem_singleton.1 hd] at hne; exact absurd h0 hne
    · next h0 =>
      have hlt := less_lt_self h0
      have e1 : V.getD (less s c) 0 = L.getD (less s c) 0 := by rw [hV]; exact cvJ_ne (by omega) j (by omega)
      rw [getD_setN (by rw [hVl]; exact hs), if_pos rfl, e1, mn]
      obtain ⟨w, hw⟩ : ∃ w, w = V.getD s 0 := ⟨_, rfl⟩
      obtain ⟨u, hu⟩ : ∃ u, u = 1 + L.getD (less s c) 0 := ⟨_, rfl⟩
      rw [← hw] at h1 h2 h3
      rw [← hw, ← hu]
      by_cases huw : u < w
      · rw [if_pos huw]
        refine ⟨.inr ⟨c, by simp, h0, hu⟩, by omega, fun d hd hne => ?_⟩
        rcases List.mem_append.1 hd with hd | hd
        · have := h3 d hd hne; omega
        · rw [List.mem_singleton.1 hd, ← hu]; exact Nat.le_refl _
      · rw [if_neg huw]
        refine ⟨h1.imp id fun ⟨d, hd, h⟩ => ⟨d, List.mem_append_left _ hd, h⟩, h2, fun d hd hne => ?_⟩
        rcases List.mem_append.1 hd with hd | hd
        · exact h3 d hd hne
        · rw [List.mem_singleton.1 hd, ← hu]; omega
theorem cvAt_ge (C : List Nat) (n M : Nat) {i : Nat} : ∀ k, i ≤ k → (cvAt C n M k).getD i 0 = (cvAt C n M i).getD i 0
  | 0, h => by rw [Nat.le_zero.1 h]
  | k + 1, h => by
    by_cases hi : i = k + 1
    · rw [hi]
    · rw [cvAt, cvJ_ne hi _ (Nat.le_refl _)]
      exact cvAt_ge C n M k (by omega)
def cvV (C : List Nat) (n M s : Nat) : Nat := (cvAt C n M s).getD s 0
theorem cvV_zero (C : List Nat) (n M : Nat) : cvV C n M 0 = 0 := by
  rw [cvV, cvAt, List.getD]
  by_cases h : 0 < M
  · rw [List.getElem?_replicate, if_pos h]; rfl
  · rw [List.getElem?_replicate, if_neg h]; rfl
theorem cvV_spec {C : List Nat} {n M s : Nat} (h0 : 0 < s) (hs : s < M) : (cvV C n M s = n ∨ ∃ c ∈ C, c &&& s ≠ 0 ∧ cvV C n M s = 1 + cvV C n M (less s c)) ∧ cvV C n M s ≤ n ∧ ∀ c ∈ C, c &&& s ≠ 0 → cvV C n M s ≤ 1 + cvV C n M (less s c) := by
  obtain ⟨k, rfl⟩ : ∃ k, s = k + 1 := ⟨s - 1, by omega⟩
  have h := cvJ_at (cvB_at C n M k (by omega)) hs (C := C) C.length (Nat.le_refl _)
  rw [List.take_length] at h
  have e : ∀ c, c &&& (k + 1) ≠ 0 → (cvAt C n M k).getD (less (k + 1) c) 0 = cvV C n M (less (k + 1) c) := fun c hc => cvAt_ge C n M k (by have := less_lt_self hc; omega)
  obtain ⟨h1, h2, h3⟩ := h
  refine ⟨h1.imp id fun ⟨c, hc, hne, h⟩ => ⟨c, hc, hne, by rw [← e c hne]; exact h⟩, h2, fun c hc hne => by rw [← e c hne]; exact h3 c hc hne⟩
theorem cov_eq (xs : List Int) : cov xs = cvV (clq xs) xs.length (2 ^ xs.length) (2 ^ xs.length - 1) := rfl
theorem cvV_mono {C D : List Nat} {n M : Nat} (h : ∀ c ∈ C, c ∈ D) : ∀ s, s < M → cvV D n M s ≤ cvV C n M s := by
  intro s
  induction s using Nat.strongRecOn with
  | _ s ih =>
    intro hs
    rcases Nat.eq_zero_or_pos s with rfl | h0
    · rw [cvV_zero, cvV_zero]; exact Nat.le_refl _
    · obtain ⟨h1, _, _⟩ := cvV_spec (C := C) (n := n) h0 hs
      obtain ⟨_, g2, g3⟩ := cvV_spec (C := D) (n := n) h0 hs
      rcases h1 with h1 | ⟨c, hc, hne, h1⟩
      · rw [h1]; exact g2
      · have h4 := g3 c (h c hc) hne
        have h5 := less_lt_self hne
        have h6 := ih _ h5 (by omega)
        omega
end Go.Proofs.Tryd.Am

namespace Go.Proofs.Tryd.Am
open Go.Am Sr
set_option maxRecDepth 100000
set_option maxHeartbeats 1000000

end Go.Proofs.Tryd.Am

namespace Go.Proofs.Tryd.Am
open Go.Am Sr
set_option maxRecDepth 100000
set_option maxHeartbeats 1000000

theorem IntSl_new (h : Yd) (xs : List Int) (e : TypeId) : IntSl (h ++ [.ints xs e false]) (.slice (some ⟨h.length, 0, none⟩) xs.length xs.length) xs :=
  .inr ⟨h.length, 0, none, xs.length, xs.map Zy, e, false, rfl, Nat.le_refl _, by simp [view, Blk.view], fun i hi => by rw [Nat.zero_add, List.getElem?_map, List.getD, List.getElem?_eq_getElem hi]; rfl⟩
theorem litI2 {h : Yd} {x y : Int} (K : Value → Yd → Prop) : Yt prog h 22 2 [(0, Zy x), (1, Zy y)] K = K (.slice (some ⟨h.length, 0, none⟩) 2 2) (h ++ [.ints [x, y] 3 false]) := by
  simp only [Yt, Xv, zero_3, Xi, reps, fillL, mkb, Xk, Va, cellsOf, Yr, List.length_singleton, List.length_cons, List.length_nil, Nat.mul_one, Nat.one_mul, Nat.zero_mul, Nat.zero_add]
  exact propext ⟨fun h => h.2.2.2, fun h => ⟨trivial, by decide, by decide, h⟩⟩
theorem s21_callW [Tabs Tryd.prog] {args : List Value} {h : Yd} {Q : Value → Yd → Prop} (hsz : args.length ≤ 15) (hk : AWS Tryd.prog 15 s21 (Zv Tryd.prog [.tmp 0] Q) (Zp 0 args) h) : ACall Tryd.prog 21 args h Q :=
  Wb Tryd.func21 rfl (enters_of Tryd.func21 (by kernel_rfl) rfl) rfl rfl (by decide) s21_strip s21_ok hsz hk
theorem awake_call [BitTab prog 0] {h : Yd} : ACall prog 21 [] h fun r h' => r = .bool true ∧ Ext (fun _ => False) h h' := by
  refine s21_callW (by simp) ?_
  simp only [s21]
  refine Yc fun N7 hN7 => ?_
  simp (maxSteps := 2000000) only [s21, ↓Za, ↓Zk, ↓Zs, ↓Zf, ↓Zn, ↓Zt, ↓Ze, ↓Zj, ↓Zg, ↓Zb, ↓Zc, ↓vdn, vup, Zl, Zh, Zi, Zm, Zo, List.map_cons, List.map_nil, cond_true, cond_false, aop, Zw, Zr, Zp, ev, sput, Zu, Zz, Yb, unK, Zd, Zx, Nat.reduceBEq, Nat.reduceAdd, Int.reduceBEq, Int.reduceBNe, Int.reduceLT, Zv, Ya, tup, tyf]
  refine hN7 [(0, .bool false)] _ _ ?_ (by simp (maxSteps := 2000000) only [↓Za, ↓Zk, ↓Zs, ↓Zf, ↓Zn, ↓Zt, ↓Ze, ↓Zj, ↓Zg, ↓Zb, ↓Zc, ↓vdn, vup, Zl, Zh, Zi, Zm, Zo, List.map_cons, List.map_nil, cond_true, cond_false, aop, Zw, Zr, Zp, ev, sput, Zu, Zz, Yb, unK, Zd, Zx, Nat.reduceBEq, Nat.reduceAdd, Int.reduceBEq, Int.reduceBNe, Int.reduceLT, Zv, Ya, tup, tyf])
  clear hN7
  try clear N7
  have hi : IntSl (h ++ [.ints [2, 1] 3 false]) (.slice (some ⟨h.length, 0, none⟩) 2 2) [2, 1] := IntSl_new h [2, 1] 3
  have hc := code_call hi (by decide) (by decide) (k := 1)
  refine Yc fun N8 hN8 => ?_
  simp (maxSteps := 2000000) only [s21, ↓Za, ↓Zk, ↓Zs, ↓Zf, ↓Zn, ↓Zt, ↓Ze, ↓Zj, ↓Zg, ↓Zb, ↓Zc, ↓vdn, vup, Zl, Zh, Zi, Zm, Zo, List.map_cons, List.map_nil, cond_true, cond_false, aop, Zw, Zr, Zp, ev, sput, Zu, Zz, Yb, unK, Zd, Zx, Nat.reduceBEq, Nat.reduceAdd, Int.reduceBEq, Int.reduceBNe, Int.reduceLT, Zv, Ya, tup, tyf, Yy, List.nil_append, List.append_nil, List.toList_toArray, List.cons_append, litI2]
  refine (hc).mono ?_
  rintro r h' ⟨hE, hr⟩
  have hg : grs [2, 1] = true := by decide
  have hcl : codeL (Wm [2, 1] 1) = [0] := by decide +kernel
  rw [codeR, if_pos ⟨hg, by decide, by decide⟩] at hr
  rw [if_pos (by decide)] at hr
  obtain ⟨w, rfl, hw⟩ := hr
  rw [show (1 : Int).toNat = 1 from rfl, hcl] at hw
  simp (maxSteps := 2000000) only [s21, ↓Za, ↓Zk, ↓Zs, ↓Zf, ↓Zn, ↓Zt, ↓Ze, ↓Zj, ↓Zg, ↓Zb, ↓Zc, ↓vdn, vup, Zl, Zh, Zi, Zm, Zo, List.map_cons, List.map_nil, cond_true, cond_false, aop, Zw, Zr, Zp, ev, sput, Zu, Zz, Yb, unK, Zd, Zx, Nat.reduceBEq, Nat.reduceAdd, Int.reduceBEq, Int.reduceBNe, Int.reduceLT, Zv, Ya, tup, tyf]
  refine hN8 [(0, .bool false), (1, w), (2, .int .i64 0)] _ _ ?_ (by simp (maxSteps := 2000000) only [↓Za, ↓Zk, ↓Zs, ↓Zf, ↓Zn, ↓Zt, ↓Ze, ↓Zj, ↓Zg, ↓Zb, ↓Zc, ↓vdn, vup, Zl, Zh, Zi, Zm, Zo, List.map_cons, List.map_nil, cond_true, cond_false, aop, Zw, Zr, Zp, ev, sput, Zu, Zz, Yb, unK, Zd, Zx, Nat.reduceBEq, Nat.reduceAdd, Int.reduceBEq, Int.reduceBNe, Int.reduceLT, Zv, Ya, tup, tyf])
  clear hN8
  try clear N8
  have hi2 : IntSl (h' ++ [.ints [0] 3 false]) (.slice (some ⟨h'.length, 0, none⟩) 1 1) [0] := IntSl_new h' [0] 3
  have heq := equal_call (hw.int.grow [.ints [0] 3 false]) hi2 (by decide) (by decide)
  have e0 : ((0 : Int) == 0) = true := rfl
  refine Yf ?_
  simp (maxSteps := 2000000) only [s21, ↓Za, ↓Zk, ↓Zs, ↓Zf, ↓Zn, ↓Zt, ↓Ze, ↓Zj, ↓Zg, ↓Zb, ↓Zc, ↓vdn, vup, Zl, Zh, Zi, Zm, Zo, List.map_cons, List.map_nil, cond_true, cond_false, aop, Zw, Zr, Zp, ev, sput, Zu, Zz, Yb, unK, Zd, Zx, Nat.reduceBEq, Nat.reduceAdd, Int.reduceBEq, Int.reduceBNe, Int.reduceLT, Zv, Ya, tup, tyf, Yy, List.nil_append, List.append_nil, List.toList_toArray, List.cons_append, e0, litI1]
  refine (heq).mono ?_
  rintro _ _ ⟨rfl, rfl⟩
  have hd : decide ([0].map Int.ofNat = [0]) = true := by decide
  refine ⟨congrArg Value.bool hd, ?_⟩
  exact ((Ext.app (fun _ => False) h _).trans hE).trans (Ext.app _ _ _)
end Go.Proofs.Tryd.Am

namespace Go.Proofs.Tryd.Am
open Go.Am Sr
set_option maxRecDepth 100000
set_option maxHeartbeats 1000000

/-! The beginnings that the statements look at. -/
theorem grs_take (xs : List Int) : grs (xs.take 80) = grs xs := by
  by_cases hl : xs.length ≤ 80
  · rw [List.take_of_length_le hl]
  · have h1 : grs xs = false := by
      cases h : grs xs with
      | false => rfl
      | true => have := (grs_iff.1 h).2.1; omega
    have h2 : grs (xs.take 80) = false := by
      cases h : grs (xs.take 80) with
      | false => rfl
      | true => have := (grs_iff.1 h).2.1; rw [List.length_take] at this; omega
    rw [h1, h2]
theorem grs_same {xs : List Int} (h : grs xs = true) : xs.take 80 = xs := List.take_of_length_le (by have := (grs_iff.1 h).2.1; omega)
abbrev Okk (xs : List Int) (k : Int) : Prop := grs xs = true ∧ 1 ≤ k ∧ k ≤ 3
theorem codeR_take {h : Yd} {xs : List Int} {k : Int} {r : Value} (hr : codeR h (xs.take 80) k r) : codeR h xs k r := by
  unfold codeR at hr ⊢
  rw [grs_take] at hr
  by_cases h : grs xs = true ∧ 1 ≤ k ∧ k ≤ 3
  · rw [if_pos h, grs_same h.1] at hr; rw [if_pos h]; exact hr
  · rw [if_neg h] at hr ⊢; exact hr
theorem codeR_form {h' : Yd} {xs : List Int} {k : Int} {r : Value} (hr : codeR h' xs k r) : ∃ w e, r = .tuple #[w, .int .i64 e] ∧
    ((¬ Okk xs k ∧ w = .slice none 0 0 ∧ e = 2) ∨ (Okk xs k ∧ ¬ wn xs k.toNat ≤ 64 ∧ w = .slice none 0 0 ∧ e = 6) ∨ (Okk xs k ∧ wn xs k.toNat ≤ 64 ∧ OwnSl 3 h' w ((codeL (Wm xs k.toNat)).map Int.ofNat) ∧ e = 0)) := by
  unfold codeR at hr
  by_cases h : grs xs = true ∧ 1 ≤ k ∧ k ≤ 3
  · rw [if_pos h] at hr
    by_cases hw : wn xs k.toNat ≤ 64
    · rw [if_pos hw] at hr
      obtain ⟨w, h1, h2⟩ := hr
      exact ⟨_, _, h1, .inr (.inr ⟨h, hw, h2, rfl⟩)⟩
    · rw [if_neg hw] at hr; exact ⟨_, _, hr, .inr (.inl ⟨h, hw, rfl, rfl⟩)⟩
  · rw [if_neg h] at hr; exact ⟨_, _, hr, .inl ⟨h, rfl, rfl⟩⟩
theorem awk [BitTab prog 0] {K : Value → Yd → Prop} {g : Yd} (hk : ∀ g', Ext (fun _ => False) g g' → K (.bool true) g') : ACall prog 21 [] g K := awake_call.mono fun v h' ⟨h1, h2⟩ => by rw [h1]; exact hk _ h2
theorem take80_rng {xs : List Int} (hx : ∀ x ∈ xs, -9223372036854775808 ≤ x ∧ x < 9223372036854775808) : ∀ x ∈ xs.take 80, -9223372036854775808 ≤ x ∧ x < 9223372036854775808 := fun x hm => hx x (List.take_subset _ _ hm)
theorem take80_len (xs : List Int) : (xs.take 80).length < 9223372036854775808 := by simp; omega
end Go.Proofs.Tryd.Am

set_option maxRecDepth 100000
namespace Sr
open Go.Am
def fullA (nr : List Nat) : Nat := A nr (2 ^ nr.length - 1)
structure CI (nr : List Nat) (k : Nat) (s : Nat × Nat × List Nat) : Prop where
  lt : s.1 < 2 ^ nr.length
  need : s.2.1 = A nr s.1
  hi : ∀ i, s.1.testBit i = true → k ≤ i
  sum : s.2.2.length + A nr s.1 = fullA nr
  lo : ∀ u ∈ s.2.2, u < k
  far : ∀ u ∈ s.2.2, ∀ x, s.1.testBit x = true → ok nr u x = true
  pw : s.2.2.Pairwise fun x y => x < y ∧ ok nr x y = true
theorem cAt_ci {nr : List Nat} (g : Gr nr) : ∀ k, CI nr k (cAt nr k)
  | 0 => by
    have := Nat.two_pow_pos nr.length
    exact ⟨by show 2 ^ nr.length - 1 < _; omega, rfl, fun _ _ => Nat.zero_le _, by show 0 + _ = _; rw [Nat.zero_add]; rfl, (fun u h => by cases h), (fun u h => by cases h), List.Pairwise.nil⟩
  | k + 1 => by
    obtain ⟨h1, h2, h3, h4, h5, h6, h7⟩ := cAt_ci g k
    have h64 : (cAt nr k).1 < 2 ^ 64 := Nat.lt_of_lt_of_le h1 (Nat.pow_le_pow_right (by decide) g.len)
    rw [cAt_succ]
    generalize cAt nr k = s at h1 h2 h3 h4 h5 h6 h7 h64
    unfold cStep
    split
    · rename_i hb
      have hp := A_pivot g h64 hb
      split
      · rename_i ht
        refine ⟨cut_lt h1, by simp only; omega, fun i hi => ?_, ?_, ?_, ?_, ?_⟩
        · rw [cut_bit] at hi; simp at hi
          have := h3 i hi.1; omega
        · rw [List.length_append, List.length_singleton]; simp only; omega
        · intro u hu
          rcases List.mem_append.1 hu with hu | hu
          · have := h5 u hu; omega
          · rw [List.mem_singleton.1 hu]; omega
        · intro u hu x hx
          rw [cut_bit] at hx; simp at hx
          rcases List.mem_append.1 hu with hu | hu
          · exact h6 u hu x hx.1
          · rw [List.mem_singleton.1 hu]; exact hx.2.2
        · refine List.pairwise_append.2 ⟨h7, List.pairwise_singleton _ _, fun x hx y hy => ?_⟩
          rw [List.mem_singleton.1 hy]; exact ⟨h5 x hx, h6 x hx k hb⟩
      · rename_i ht
        refine ⟨less_lt h1, by simp only; omega, fun i hi => ?_, by simp only; omega, fun u hu => by have := h5 u hu; omega, fun u hu x hx => ?_, h7⟩
        · rw [less_bit] at hi; simp at hi
          have := h3 i hi.1; omega
        · rw [less_bit] at hx; simp at hx; exact h6 u hu x hx.1
    · rename_i hb
      refine ⟨h1, h2, fun i hi => ?_, h4, fun u hu => by have := h5 u hu; omega, h6, h7⟩
      have := h3 i hi
      have : i ≠ k := fun e => hb (e ▸ hi)
      omega
theorem codeL_len {nr : List Nat} (g : Gr nr) : (codeL nr).length = fullA nr := by
  have h := cAt_ci g nr.length
  have h0 : (cAt nr nr.length).1 = 0 := by
    apply Nat.eq_of_testBit_eq; intro i
    rw [Nat.zero_testBit, ← Bool.not_eq_true]; intro hi
    have h1 := h.hi i hi
    have := bit_lt h.lt hi; omega
  have hs := h.sum
  rw [h0, A_zero] at hs
  exact hs
theorem cnt_mem {L : List Nat} (hL : L.Nodup) : ∀ l : List Nat, l.Nodup → (∀ x ∈ l, x ∈ L) → L.countP (fun x => l.contains x) = l.length
  | [], _, _ => by simp
  | c :: r, hn, hs => by
    have hn' := List.nodup_cons.1 hn
    rw [Wh _ L hL (hs c (by simp)) (by simp), List.length_cons]
    congr 1
    rw [← cnt_mem hL r hn'.2 fun x hx => hs x (by simp [hx])]
    refine List.countP_congr fun x _ => ?_
    by_cases h : x = c
    · subst h; simp [hn'.1]
    · simp [h]
theorem code_le {nr : List Nat} (g : Gr nr) {l : List Nat} (hl : ∀ x ∈ l, x < nr.length) (hp : l.Pairwise fun x y => x < y ∧ ok nr x y = true) : l.length ≤ fullA nr := by
  have hn : l.Nodup := hp.imp fun h => by have := h.1; omega
  have h64 := g.len
  rw [← cnt_mem (L := List.range 64) List.nodup_range l hn fun x hx => List.mem_range.2 (by have := hl x hx; omega)]
  refine Vb _ _ _ List.nodup_range ?_ ?_
  · intro i _ j _ hne h1 h2
    have m1 := List.contains_iff_mem.1 h1
    have m2 := List.contains_iff_mem.1 h2
    have : ∀ x ∈ l, ∀ y ∈ l, x ≠ y → ok nr x y = true := by
      clear hn hl h64 m1 m2 h1 h2
      induction l with
      | nil => intro x hx; cases hx
      | cons c r ih =>
        have hp' := List.pairwise_cons.1 hp
        intro x hx y hy hne
        rcases List.mem_cons.1 hx with e1 | hx <;> rcases List.mem_cons.1 hy with e2 | hy
        · exact absurd (e1.trans e2.symm) hne
        · rw [e1]; exact (hp'.1 y hy).2
        · rw [e2, ok_comm g]; exact (hp'.1 x hx).2
        · exact ih hp'.2 x hx y hy hne
    exact this i m1 j m2 hne
  · intro i _ h1
    have := hl i (List.contains_iff_mem.1 h1)
    rw [Nat.testBit_two_pow_sub_one]; simpa using this

theorem code_pw {xs : List Int} {k : Nat} {c : List Int} : code xs k c = true ↔ (∀ x ∈ c, 0 ≤ x ∧ x < wn xs k) ∧ c.Pairwise fun x y => x < y ∧ cf xs k y.toNat x.toNat = false := by
  rw [code_iff]
  have gd : ∀ i (h : i < c.length), c.getD i 0 = c[i] := fun i h => by rw [List.getD, List.getElem?_eq_getElem h]; rfl
  constructor
  · intro h
    refine ⟨fun x hx => ?_, List.pairwise_iff_getElem.2 fun i j hi hj hij => ⟨?_, ?_⟩⟩
    · obtain ⟨i, hi, rfl⟩ := List.mem_iff_getElem.1 hx
      rw [← gd i hi]; exact ⟨(h i hi).1, (h i hi).2.1⟩
    · have : ∀ d, i + 1 + d < c.length → c.getD i 0 < c.getD (i + 1 + d) 0 := by
        intro d
        induction d with
        | zero =>
          intro hd
          have := (h (i + 1) hd).2.2.1
          rw [Nat.add_sub_cancel] at this
          rcases this with h1 | h1
          · omega
          · exact h1
        | succ d ih =>
          intro hd
          have := (h (i + 1 + d + 1) hd).2.2.1
          rw [Nat.add_sub_cancel] at this
          have := ih (by omega)
          rcases ‹_ ∨ _› with h1 | h1
          · omega
          · show c.getD i 0 < c.getD (i + 1 + d + 1) 0; omega
      have := this (j - (i + 1)) (by omega)
      rw [show i + 1 + (j - (i + 1)) = j by omega, gd i hi, gd j hj] at this; exact this
    · have := (h j hj).2.2.2 i hij
      rw [gd i hi, gd j hj] at this; exact this
  · rintro ⟨h1, h2⟩ i hi
    have h3 := List.pairwise_iff_getElem.1 h2
    rw [gd i hi]
    refine ⟨(h1 _ (List.getElem_mem hi)).1, (h1 _ (List.getElem_mem hi)).2, ?_, fun j hj => ?_⟩
    · by_cases h0 : i = 0
      · exact .inl h0
      · rw [gd (i - 1) (by omega)]; exact .inr (h3 _ _ (by omega) hi (by omega)).1
    · rw [gd j (by omega)]; exact (h3 _ _ (by omega) hi hj).2
theorem okW {xs : List Int} {k x y : Nat} (hx : x < wn xs k) (hy : y < wn xs k) (hne : x ≠ y) : ok (Wm xs k) x y = !cf xs k x y := by
  rw [ok, nearL_bit]; simp [hx, hy, hne]
theorem codeL_code {xs : List Int} (g : Gs xs) {k : Nat} (hk : wn xs k ≤ 64) : code xs k ((codeL (Wm xs k)).map Int.ofNat) = true := by
  have h := cAt_ci (nearL_gr g hk) (Wm xs k).length
  have hlo : ∀ u ∈ codeL (Wm xs k), u < wn xs k := fun u hu => by have := h.lo u hu; rw [nearL_len] at this; exact this
  refine code_pw.2 ⟨fun x hx => ?_, List.pairwise_map.2 ?_⟩
  · obtain ⟨u, hu, rfl⟩ := List.mem_map.1 hx
    have := hlo u hu
    exact ⟨Int.natCast_nonneg u, Int.ofNat_lt.2 this⟩
  · refine List.Pairwise.imp_of_mem ?_ h.pw
    intro x y hx hy hxy
    refine ⟨Int.ofNat_lt.2 hxy.1, ?_⟩
    have := hxy.2
    rw [okW (hlo x hx) (hlo y hy) (by omega)] at this
    show cf xs k y x = false
    rw [cf_comm g]; simpa using this
theorem code_max {xs : List Int} (g : Gs xs) {k : Nat} (hk : wn xs k ≤ 64) {c : List Int} (h : code xs k c = true) : c.length ≤ (codeL (Wm xs k)).length := by
  obtain ⟨h1, h2⟩ := code_pw.1 h
  rw [codeL_len (nearL_gr g hk)]
  have := code_le (nearL_gr g hk) (l := c.map Int.toNat) (fun x hx => ?_) (List.pairwise_map.2 (List.Pairwise.imp_of_mem ?_ h2))
  · rw [List.length_map] at this; exact this
  · obtain ⟨u, hu, rfl⟩ := List.mem_map.1 hx
    have := h1 u hu
    rw [nearL_len]; omega
  · intro x y hx hy hxy
    have a1 := h1 x hx
    have a2 := h1 y hy
    have := hxy.1
    refine ⟨by omega, ?_⟩
    rw [okW (by omega) (by omega) (by omega), cf_comm g]; simpa using hxy.2
def both (xs : List Int) (k : Nat) (a b : List Int) : List Int := a.flatMap fun x => b.map fun y => x * wn xs k + y
end Sr

namespace Go.Proofs.Tryd.Am
open Go.Am Sr Bq

section
variable {xs ys : List Int}
theorem cf_mono (hl : xs.length = ys.length) (h : ∀ i j, i < xs.length → j < xs.length → gb xs i j = true → gb ys i j = true) (h0 : 0 < xs.length) : ∀ k a b, cf xs k a b = true → cf ys k a b = true
  | 0, _, _, _ => rfl
  | k + 1, a, b, h1 => by
    rw [cf, Bool.and_eq_true, Bool.or_eq_true] at h1 ⊢
    rw [← hl]
    exact ⟨h1.1.imp id (h _ _ (Nat.mod_lt _ h0) (Nat.mod_lt _ h0)), cf_mono hl h h0 k _ _ h1.2⟩
theorem code_mono (hl : xs.length = ys.length) (h : ∀ i j, i < xs.length → j < xs.length → gb xs i j = true → gb ys i j = true) (h0 : 0 < xs.length) {k : Nat} {c : List Int} (hc : code ys k c = true) : code xs k c = true := by
  rw [code_iff] at hc ⊢
  intro i hi
  obtain ⟨h1, h2, h3, h4⟩ := hc i hi
  refine ⟨h1, by rw [wn, hl]; exact h2, h3, fun j hj => ?_⟩
  have := h4 j hj
  rw [← Bool.not_eq_true] at this ⊢
  exact fun hh => this (cf_mono hl h h0 _ _ _ hh)
theorem more_code (gx : Gs xs) (gy : Gs ys) (hl : xs.length = ys.length) (h : ∀ i j, i < xs.length → j < xs.length → gb xs i j = true → gb ys i j = true) {k : Nat} (hk : wn xs k ≤ 64) : (codeL (Wm ys k)).length ≤ (codeL (Wm xs k)).length := by
  have := code_max gx hk (code_mono hl h (by have := gx.1; omega) (codeL_code gy (by rw [wn, ← hl]; exact hk)))
  rwa [List.length_map] at this
theorem clq_mono (gx : Gs xs) (gy : Gs ys) (hl : xs.length = ys.length) (h : ∀ i j, i < xs.length → j < xs.length → gb xs i j = true → gb ys i j = true) : ∀ c ∈ clq xs, c ∈ clq ys := fun c hc => by
  obtain ⟨h1, h2, h3⟩ := (mem_clq gx).1 hc
  refine (mem_clq gy).2 ⟨hl ▸ h1, h2, fun i hi hb j hj hb2 => h i j (by omega) ?_ (h3 i (by omega) hb j hj hb2)⟩
  refine Nat.lt_of_not_le fun hge => ?_
  rw [Nat.testBit_lt_two_pow (Nat.lt_of_lt_of_le h1 (Nat.pow_le_pow_right (by decide) hge))] at hb2
  cases hb2
theorem more_weigh (gx : Gs xs) (gy : Gs ys) (hl : xs.length = ys.length) (h : ∀ i j, i < xs.length → j < xs.length → gb xs i j = true → gb ys i j = true) {p q : Rat} (hp : WQ xs p) (hq : WQ ys q) : q ≤ p := by
  obtain ⟨x, hx, rfl⟩ := hq.1.at_
  rw [← hl] at hx ⊢
  exact hp.1.le x ⟨hx.nn, fun s hs => hx.le s (clq_mono gx gy hl h s hs)⟩
theorem more_cov (gx : Gs xs) (gy : Gs ys) (hl : xs.length = ys.length) (h : ∀ i j, i < xs.length → j < xs.length → gb xs i j = true → gb ys i j = true) : cov ys ≤ cov xs := by
  rw [cov_eq, cov_eq, ← hl]
  exact cvV_mono (clq_mono gx gy hl h) _ (by have := Nat.two_pow_pos xs.length; omega)
end
def moreL (xs : List Int) (i j : Nat) : List Int := (xs.set i ((gn xs i ||| 2 ^ j : Nat) : Int)).set j ((gn xs j ||| 2 ^ i : Nat) : Int)
theorem moreL_len (xs : List Int) (i j : Nat) : (moreL xs i j).length = xs.length := by simp [moreL]
section
variable {xs : List Int} {i j : Nat}
theorem gn_more (hi : i < xs.length) (hj : j < xs.length) (a : Nat) : gn (moreL xs i j) a = if a = j then gn xs j ||| 2 ^ i else if a = i then gn xs i ||| 2 ^ j else gn xs a := by
  rw [gn, moreL, List.getD, List.getElem?_set]
  by_cases h1 : a = j
  · rw [if_pos h1.symm, if_pos (by simpa using hj), if_pos h1]; rfl
  · rw [if_neg fun h => h1 h.symm, if_neg h1, List.getElem?_set]
    by_cases h2 : a = i
    · rw [if_pos h2.symm, if_pos hi, if_pos h2]; rfl
    · rw [if_neg fun h => h2 h.symm, if_neg h2]; rfl
theorem gb_more (hi : i < xs.length) (hj : j < xs.length) (hij : i ≠ j) (a b : Nat) : gb (moreL xs i j) a b = (gb xs a b || (decide (a = i ∧ b = j) || decide (a = j ∧ b = i))) := by
  rw [← gn_bit, ← gn_bit, gn_more hi hj]
  by_cases h1 : a = j
  · subst h1
    rw [if_pos rfl, Nat.testBit_or, Nat.testBit_two_pow]
    congr 1
    rw [Bool.eq_iff_iff, Bool.or_eq_true, decide_eq_true_eq, decide_eq_true_eq, decide_eq_true_eq]; omega
  · rw [if_neg h1]
    by_cases h2 : a = i
    · subst h2
      rw [if_pos rfl, Nat.testBit_or, Nat.testBit_two_pow]
      congr 1
      rw [Bool.eq_iff_iff, Bool.or_eq_true, decide_eq_true_eq, decide_eq_true_eq, decide_eq_true_eq]; omega
    · rw [if_neg h2, decide_eq_false (fun h => h2 h.1), decide_eq_false (fun h => h1 h.1)]; simp
theorem more_gs (g : Gs xs) (hi : i < xs.length) (hj : j < xs.length) (hij : i ≠ j) : Gs (moreL xs i j) := by
  refine ⟨by rw [moreL_len]; exact g.1, by rw [moreL_len]; exact g.2.1, fun a ha => ?_⟩
  rw [moreL_len] at ha ⊢
  obtain ⟨h1, h2, h3⟩ := g.2.2 a ha
  have hlt : ∀ a, a < xs.length → gn xs a < 2 ^ xs.length := fun a ha => by
    have := (g.2.2 a ha).1
    have h4 : ((gn xs a : Nat) : Int) = xs.getD a 0 := by rw [gn]; omega
    have h5 : ((2 ^ xs.length : Nat) : Int) = (2 : Int) ^ xs.length := by simp
    omega
  refine ⟨?_, ?_, fun b hb => ?_⟩
  · have h6 : gn (moreL xs i j) a < 2 ^ xs.length := by
      rw [gn_more hi hj]
      split
      · exact Nat.or_lt_two_pow (hlt j hj) (Nat.pow_lt_pow_right (by decide) hi)
      · split
        · exact Nat.or_lt_two_pow (hlt i hi) (Nat.pow_lt_pow_right (by decide) hj)
        · exact hlt a ha
    have h7 : 0 ≤ (moreL xs i j).getD a 0 := by
      rw [moreL, List.getD, List.getElem?_set]
      by_cases e1 : j = a
      · rw [if_pos e1, if_pos (by simpa using hj)]; simp only [Option.getD_some]; omega
      · rw [if_neg e1, List.getElem?_set]
        by_cases e2 : i = a
        · rw [if_pos e2, if_pos hi]; simp only [Option.getD_some]; omega
        · rw [if_neg e2]; exact h1.1
    have h5 : ((2 ^ xs.length : Nat) : Int) = (2 : Int) ^ xs.length := by simp
    rw [gn] at h6
    omega
  · rw [gb_more hi hj hij, h2, decide_eq_false (fun h => hij (h.1.symm.trans h.2)), decide_eq_false (fun h => hij (h.2.symm.trans h.1))]; rfl
  · rw [gb_more hi hj hij, gb_more hi hj hij, h3 b hb]
    congr 1
    rw [Bool.eq_iff_iff, Bool.or_eq_true, Bool.or_eq_true, decide_eq_true_eq, decide_eq_true_eq, decide_eq_true_eq, decide_eq_true_eq]; omega
theorem more_gb (hi : i < xs.length) (hj : j < xs.length) (hij : i ≠ j) : ∀ a b, a < xs.length → b < xs.length → gb xs a b = true → gb (moreL xs i j) a b = true := fun a b _ _ h => by rw [gb_more hi hj hij, h]; rfl
end
def modN (i : Int) (n : Nat) : Nat := (IntKind.u64.wrap i).toNat % n
theorem u64_range (i : Int) : 0 ≤ IntKind.u64.wrap i ∧ IntKind.u64.wrap i < 18446744073709551616 := by rw [IntKind.wrap_u64]; omega
theorem u64_id {n : Nat} (h : n ≤ 6) : IntKind.u64.wrap (n : Int) = (n : Int) := by rw [IntKind.wrap_u64]; omega
theorem modN_eq (i : Int) {n : Nat} (h0 : 1 ≤ n) (h6 : n ≤ 6) : IntKind.i64.wrap ((IntKind.u64.wrap i).tmod (n : Int)) = ((modN i n : Nat) : Int) := by
  obtain ⟨h1, h2⟩ := u64_range i
  have hlt : modN i n < n := Nat.mod_lt _ (by omega)
  have e : (IntKind.u64.wrap i).tmod (n : Int) = ((modN i n : Nat) : Int) := by
    rw [Int.tmod_eq_emod_of_nonneg h1, modN, Int.natCast_emod, Int.toNat_of_nonneg h1]
  rw [e]; exact wrap_id (by omega) (by omega)
theorem modN_lt (i : Int) {n : Nat} (h0 : 1 ≤ n) : modN i n < n := Nat.mod_lt _ (by omega)
set_option maxRecDepth 100000
set_option maxHeartbeats 1000000
theorem list_rsi [Tabs prog] {h : Yd} {v : Value} {xs : List Int} (hv : IntSl h v xs) (hx : xs ≠ []) (hl : xs.length ≤ 80) : ACall prog 18 [v] h fun r h' => RSI h h' r xs := by
  refine s18_call (by simp) ?_
  simp (maxSteps := 2000000) only [s18, ↓Za, ↓Zk, ↓Zs, ↓Zf, ↓Zn, ↓Zt, ↓Ze, ↓Zj, ↓Zg, ↓Zb, ↓Zc, ↓vdn, vup, Zl, Zh, Zi, Zm, Zo, List.map_cons, List.map_nil, cond_true, cond_false, aop, Zw, Zr, Zp, ev, sput, Zu, Zz, Yb, unK, Zd, Zx, Nat.reduceBEq, Nat.reduceAdd, Int.reduceBEq, Int.reduceBNe, Int.reduceLT, Zv, Ya, tup, tyf, hv.len, mmK, Bool.false_eq_true, if_false, gt_iff_lt, min80, Option.map_none, Option.map_some]
  refine hv.pre Xv Xi (Nat.min_le_left _ _) ?_
  intro v' hv'
  rw [Nat.min_eq_left hl, List.take_length] at hv'
  simp (maxSteps := 2000000) only [↓Za, ↓Zk, ↓Zs, ↓Zf, ↓Zn, ↓Zt, ↓Ze, ↓Zj, ↓Zg, ↓Zb, ↓Zc, ↓vdn, vup, Zl, Zh, Zi, Zm, Zo, List.map_cons, List.map_nil, cond_true, cond_false, aop, Zw, Zr, Zp, ev, sput, Zu, Zz, Yb, unK, Zd, Zx, Nat.reduceBEq, Nat.reduceAdd, Int.reduceBEq, Int.reduceBNe, Int.reduceLT, Zv, Ya, tup, tyf, Yy, List.nil_append, List.append_nil]
  exact clone_rsi hv' hx (by omega)
theorem newF {h : Yd} {x y : Int} {K : Yd → Prop} : Xu prog (h ++ [Blk.cells [.int .i64 0, .int .i64 0] 44 false]) 44 (.pointer (some ⟨h.length, 0, none⟩)) (.agg #[Zy x, Zy y]) K = K (h ++ [.cells [Zy x, Zy y] 44 false]) := by
  rw [storeF (Xp h (Blk.cells [.int .i64 0, .int .i64 0] 44 false)) rfl, set_new]
theorem weigh_ok {xs : List Int} {r : Value} (hg : grs xs = true) (hr : weighR (xs.take 80) r) : ∃ q, r = .tuple #[.agg #[Zy q.num, Zy q.den], .int .i64 0] ∧ WQ xs q := by
  have := weighR_take hr (grs_take xs) grs_same
  rwa [weighR, if_pos hg] at this
end Go.Proofs.Tryd.Am

namespace Go.Proofs.Tryd.Am
open Go.Am
set_option maxRecDepth 100000
/-! 8: planchet planchetlaw05.SureMore -/
@[reducible] def q8_0 : SCode := .region [⟨some 8, .assign (.const (.bool false)), none⟩]
@[reducible] def q8_1 : SCode := .region [⟨some 22, .move (.tmp 0), none⟩,
    ⟨some 23, .call { callee := .value (.func 20), args := #[.tmp 22], argTypes := #[22] }, none⟩,
    ⟨some 24, .unOp .not 4 (.tmp 23), none⟩]
@[reducible] def q8_2 : SCode := .region [⟨some 25, .call { callee := .value (.func 21), args := #[], argTypes := #[] }, none⟩,
    ⟨some 8, .assign (.tmp 25), none⟩]
def q8_3 : SCode := .draw [⟨some 26, .move (.tmp 1), none⟩,
    ⟨some 27, .convert 3 42 (.tmp 26), none⟩,
    ⟨some 28, .move (.tmp 0), none⟩,
    ⟨some 29, .call { callee := .builtin .len, args := #[.tmp 28], argTypes := #[22] }, none⟩,
    ⟨some 30, .convert 3 42 (.tmp 29), none⟩,
    ⟨some 31, .binOp .rem 42 (.tmp 27) (.tmp 30) 42, none⟩,
    ⟨some 32, .convert 42 3 (.tmp 31), none⟩,
    ⟨some 33, .move (.tmp 2), none⟩,
    ⟨some 34, .convert 3 42 (.tmp 33), none⟩,
    ⟨some 35, .move (.tmp 0), none⟩,
    ⟨some 36, .call { callee := .builtin .len, args := #[.tmp 35], argTypes := #[22] }, none⟩,
    ⟨some 37, .convert 3 42 (.tmp 36), none⟩,
    ⟨some 38, .binOp .rem 42 (.tmp 34) (.tmp 37) 42, none⟩,
    ⟨some 39, .convert 42 3 (.tmp 38), none⟩,
    ⟨some 1, .assign (.tmp 32), none⟩,
    ⟨some 2, .assign (.tmp 39), none⟩]
   [[], [0], [], [2], [3], [1, 4], [5], [], [7], [], [9], [10], [8, 11], [12], [6, 0, 1, 2, 3, 4, 5, 6], [13, 14, 0, 1, 2, 3, 4, 5, 6, 7, 8, 9, 10, 11, 12, 13, 14]]
@[reducible] def q8_4 : SCode := .region [⟨some 40, .move (.tmp 1), none⟩,
    ⟨some 41, .move (.tmp 2), none⟩,
    ⟨some 42, .binOp .eql 3 (.tmp 40) (.tmp 41) 3, none⟩]
@[reducible] def q8_5 : SCode := .region [⟨some 43, .call { callee := .value (.func 21), args := #[], argTypes := #[] }, none⟩,
    ⟨some 8, .assign (.tmp 43), none⟩]
@[reducible] def q8_6 : SCode := .region [⟨some 44, .move (.tmp 0), none⟩,
    ⟨some 45, .call { callee := .value (.func 18), args := #[.tmp 44], argTypes := #[22] }, none⟩,
    ⟨some 9, .assign (.tmp 45), none⟩]
def q8_7 : SCode := .draw [⟨some 46, .move (.tmp 9), none⟩,
    ⟨some 47, .move (.tmp 1), none⟩,
    ⟨some 48, .indexAddr 22 (.tmp 46) (.tmp 47), none⟩,
    ⟨some 49, .load 3 (.tmp 48), none⟩,
    ⟨some 50, .move (.tmp 2), none⟩,
    ⟨some 51, .binOp .shl 3 (.const (.int .i64 1)) (.tmp 50) 3, none⟩,
    ⟨some 52, .binOp .or 3 (.tmp 49) (.tmp 51) 3, none⟩,
    ⟨some 53, .indexAddr 22 (.tmp 46) (.tmp 47), none⟩,
    ⟨none, .store 3 (.tmp 53) (.tmp 52), none⟩]
   [[], [], [0, 1], [2], [], [4], [3, 5], [0, 1, 0, 1, 2, 3, 4, 5, 6], [7, 6, 0, 1, 2, 3, 4, 5, 6]]
def q8_8 : SCode := .draw [⟨some 54, .move (.tmp 9), none⟩,
    ⟨some 55, .move (.tmp 2), none⟩,
    ⟨some 56, .indexAddr 22 (.tmp 54) (.tmp 55), none⟩,
    ⟨some 57, .load 3 (.tmp 56), none⟩,
    ⟨some 58, .move (.tmp 1), none⟩,
    ⟨some 59, .binOp .shl 3 (.const (.int .i64 1)) (.tmp 58) 3, none⟩,
    ⟨some 60, .binOp .or 3 (.tmp 57) (.tmp 59) 3, none⟩,
    ⟨some 61, .indexAddr 22 (.tmp 54) (.tmp 55), none⟩,
    ⟨none, .store 3 (.tmp 61) (.tmp 60), none⟩]
   [[], [], [0, 1], [2], [], [4], [3, 5], [0, 1, 0, 1, 2, 3, 4, 5, 6], [7, 6, 0, 1, 2, 3, 4, 5, 6]]
@[reducible] def q8_9 : SCode := .region [⟨some 63, .move (.tmp 0), none⟩,
    ⟨some 64, .call { callee := .value (.func 18), args := #[.tmp 63], argTypes := #[22] }, none⟩,
    ⟨some 65, .move (.tmp 3), none⟩,
    ⟨some 66, .call { callee := .value (.func 19), args := #[.tmp 64, .tmp 65], argTypes := #[22, 3] }, none⟩,
    ⟨some 62, .move (.tmp 66), none⟩,
    ⟨some 67, .extract (.tmp 62) 0, none⟩,
    ⟨some 68, .extract (.tmp 62) 1, none⟩,
    ⟨some 10, .assign (.tmp 67), none⟩,
    ⟨some 11, .assign (.tmp 68), none⟩]
@[reducible] def q8_10 : SCode := .region [⟨some 70, .move (.tmp 9), none⟩,
    ⟨some 71, .call { callee := .value (.func 18), args := #[.tmp 70], argTypes := #[22] }, none⟩,
    ⟨some 72, .move (.tmp 3), none⟩,
    ⟨some 73, .call { callee := .value (.func 19), args := #[.tmp 71, .tmp 72], argTypes := #[22, 3] }, none⟩,
    ⟨some 69, .move (.tmp 73), none⟩,
    ⟨some 74, .extract (.tmp 69) 0, none⟩,
    ⟨some 75, .extract (.tmp 69) 1, none⟩,
    ⟨some 12, .assign (.tmp 74), none⟩,
    ⟨some 13, .assign (.tmp 75), none⟩]
@[reducible] def q8_11 : SCode := .region [⟨some 76, .move (.tmp 11), none⟩,
    ⟨some 77, .move (.tmp 13), none⟩,
    ⟨some 78, .binOp .neq 23 (.tmp 76) (.tmp 77) 23, none⟩,
    ⟨some 79, .move (.tmp 78), none⟩,
    ⟨some 80, .move (.tmp 11), some (79, false)⟩,
    ⟨some 81, .binOp .neq 23 (.tmp 80) (.const (.int .i64 0)) 23, some (79, false)⟩,
    ⟨some 82, .move (.tmp 81), some (79, false)⟩,
    ⟨some 83, .move (.tmp 11), some (82, true)⟩,
    ⟨some 84, .binOp .neq 23 (.tmp 83) (.const (.int .i64 2)) 23, some (82, true)⟩,
    ⟨some 85, .pick (.tmp 82) (.tmp 84) (.const (.bool false)), some (79, false)⟩,
    ⟨some 86, .move (.tmp 85), some (79, false)⟩,
    ⟨some 87, .move (.tmp 11), some (86, true)⟩,
    ⟨some 88, .binOp .neq 23 (.tmp 87) (.const (.int .i64 6)) 23, some (86, true)⟩,
    ⟨some 89, .pick (.tmp 86) (.tmp 88) (.const (.bool false)), some (79, false)⟩,
    ⟨some 90, .pick (.tmp 79) (.const (.bool true)) (.tmp 89), none⟩,
    ⟨some 91, .move (.tmp 90), none⟩,
    ⟨some 92, .move (.tmp 12), some (91, false)⟩,
    ⟨some 93, .call { callee := .builtin .len, args := #[.tmp 92], argTypes := #[22] }, some (91, false)⟩,
    ⟨some 94, .move (.tmp 10), some (91, false)⟩,
    ⟨some 95, .call { callee := .builtin .len, args := #[.tmp 94], argTypes := #[22] }, some (91, false)⟩,
    ⟨some 96, .binOp .gtr 3 (.tmp 93) (.tmp 95) 3, some (91, false)⟩,
    ⟨some 97, .pick (.tmp 91) (.const (.bool true)) (.tmp 96), none⟩]
@[reducible] def q8_12 : SCode := .region [⟨some 8, .assign (.const (.bool false)), none⟩]
@[reducible] def q8_13 : SCode := .region [⟨some 99, .move (.tmp 0), none⟩,
    ⟨some 100, .call { callee := .value (.func 18), args := #[.tmp 99], argTypes := #[22] }, none⟩,
    ⟨some 101, .call { callee := .value (.func 35), args := #[.tmp 100], argTypes := #[22] }, none⟩,
    ⟨some 98, .move (.tmp 101), none⟩,
    ⟨some 102, .extract (.tmp 98) 0, none⟩,
    ⟨some 103, .extract (.tmp 98) 1, none⟩,
    ⟨some 14, .alloc 44, none⟩,
    ⟨none, .store 44 (.tmp 14) (.tmp 102), none⟩,
    ⟨some 15, .assign (.tmp 103), none⟩]
@[reducible] def q8_14 : SCode := .region [⟨some 105, .move (.tmp 9), none⟩,
    ⟨some 106, .call { callee := .value (.func 18), args := #[.tmp 105], argTypes := #[22] }, none⟩,
    ⟨some 107, .call { callee := .value (.func 35), args := #[.tmp 106], argTypes := #[22] }, none⟩,
    ⟨some 104, .move (.tmp 107), none⟩,
    ⟨some 108, .extract (.tmp 104) 0, none⟩,
    ⟨some 109, .extract (.tmp 104) 1, none⟩,
    ⟨some 16, .alloc 44, none⟩,
    ⟨none, .store 44 (.tmp 16) (.tmp 108), none⟩,
    ⟨some 17, .assign (.tmp 109), none⟩]
@[reducible] def q8_15 : SCode := .region [⟨some 111, .move (.tmp 0), none⟩,
    ⟨some 112, .call { callee := .value (.func 18), args := #[.tmp 111], argTypes := #[22] }, none⟩,
    ⟨some 113, .call { callee := .value (.func 28), args := #[.tmp 112], argTypes := #[22] }, none⟩,
    ⟨some 110, .move (.tmp 113), none⟩,
    ⟨some 114, .extract (.tmp 110) 0, none⟩,
    ⟨some 115, .extract (.tmp 110) 1, none⟩,
    ⟨some 18, .assign (.tmp 114), none⟩,
    ⟨some 19, .assign (.tmp 115), none⟩]
@[reducible] def q8_16 : SCode := .region [⟨some 117, .move (.tmp 9), none⟩,
    ⟨some 118, .call { callee := .value (.func 28), args := #[.tmp 117], argTypes := #[22] }, none⟩,
    ⟨some 116, .move (.tmp 118), none⟩,
    ⟨some 119, .extract (.tmp 116) 0, none⟩,
    ⟨some 120, .extract (.tmp 116) 1, none⟩,
    ⟨some 20, .assign (.tmp 119), none⟩,
    ⟨some 21, .assign (.tmp 120), none⟩]
@[reducible] def q8_17 : SCode := .region [⟨some 121, .move (.tmp 15), none⟩,
    ⟨some 122, .binOp .eql 23 (.tmp 121) (.const (.int .i64 0)) 23, none⟩,
    ⟨some 123, .move (.tmp 122), none⟩,
    ⟨some 124, .move (.tmp 17), some (123, true)⟩,
    ⟨some 125, .binOp .eql 23 (.tmp 124) (.const (.int .i64 0)) 23, some (123, true)⟩,
    ⟨some 126, .pick (.tmp 123) (.tmp 125) (.const (.bool false)), none⟩,
    ⟨some 127, .move (.tmp 126), none⟩,
    ⟨some 128, .move (.tmp 19), some (127, true)⟩,
    ⟨some 129, .binOp .eql 23 (.tmp 128) (.const (.int .i64 0)) 23, some (127, true)⟩,
    ⟨some 130, .pick (.tmp 127) (.tmp 129) (.const (.bool false)), none⟩,
    ⟨some 131, .move (.tmp 130), none⟩,
    ⟨some 132, .move (.tmp 21), some (131, true)⟩,
    ⟨some 133, .binOp .eql 23 (.tmp 132) (.const (.int .i64 0)) 23, some (131, true)⟩,
    ⟨some 134, .pick (.tmp 131) (.tmp 133) (.const (.bool false)), none⟩,
    ⟨some 135, .move (.tmp 134), none⟩,
    ⟨some 136, .load 44 (.tmp 14), some (135, true)⟩,
    ⟨some 137, .call { callee := .value (.func 36), args := #[.tmp 136], argTypes := #[44] }, some (135, true)⟩,
    ⟨some 138, .pick (.tmp 135) (.tmp 137) (.const (.bool false)), none⟩,
    ⟨some 139, .move (.tmp 138), none⟩,
    ⟨some 140, .load 44 (.tmp 16), some (139, true)⟩,
    ⟨some 141, .call { callee := .value (.func 36), args := #[.tmp 140], argTypes := #[44] }, some (139, true)⟩,
    ⟨some 142, .pick (.tmp 139) (.tmp 141) (.const (.bool false)), none⟩,
    ⟨some 143, .move (.tmp 142), none⟩,
    ⟨some 144, .load 44 (.tmp 14), some (143, true)⟩,
    ⟨some 145, .load 44 (.tmp 16), some (143, true)⟩,
    ⟨some 146, .call { callee := .value (.func 37), args := #[.tmp 144, .tmp 145], argTypes := #[44, 44] }, some (143, true)⟩,
    ⟨some 147, .unOp .not 4 (.tmp 146), some (143, true)⟩,
    ⟨some 148, .pick (.tmp 143) (.tmp 147) (.const (.bool false)), none⟩,
    ⟨some 149, .move (.tmp 148), none⟩,
    ⟨some 150, .move (.tmp 20), some (149, true)⟩,
    ⟨some 151, .move (.tmp 18), some (149, true)⟩,
    ⟨some 152, .binOp .leq 3 (.tmp 150) (.tmp 151) 3, some (149, true)⟩,
    ⟨some 153, .pick (.tmp 149) (.tmp 152) (.const (.bool false)), none⟩,
    ⟨some 154, .move (.tmp 153), none⟩,
    ⟨some 155, .call { callee := .value (.func 21), args := #[], argTypes := #[] }, some (154, true)⟩,
    ⟨some 156, .pick (.tmp 154) (.tmp 155) (.const (.bool false)), none⟩,
    ⟨some 8, .assign (.tmp 156), none⟩]
def s8 : SCode := (.seq q8_0 (.seq (.seq q8_1 (.cond (.tmp 24) (.seq q8_2 .ret) .skip)) (.seq q8_3 (.seq (.seq q8_4 (.cond (.tmp 42) (.seq q8_5 .ret) .skip)) (.seq q8_6 (.seq q8_7 (.seq q8_8 (.seq q8_9 (.seq q8_10 (.seq (.seq q8_11 (.cond (.tmp 97) (.seq q8_12 .ret) .skip)) (.seq q8_13 (.seq q8_14 (.seq q8_15 (.seq q8_16 (.seq q8_17 .ret)))))))))))))))
theorem s8_strip : Yi (Ym Tryd.f8) = s8 := by kernel_rfl
theorem s8_ok : Yx 157 (Ym Tryd.f8) = true := by kernel_rfl
end Go.Proofs.Tryd.Am
