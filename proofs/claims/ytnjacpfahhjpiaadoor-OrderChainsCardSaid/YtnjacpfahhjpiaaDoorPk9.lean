/-
  order: Chains.
  Printed by gen.py: the code of some functions, without what no step looks at; held against the program's own by the kernel.
  order: slices of pairs: copies, whether they are pairs of elements.
  order: Close.
  order: the reference's Close.
  order: the reference's Add; how many lines have one element before another one; the most even pair.
  order: the law OrderMakes.
  order: laws Chains and Dilworth.
-/
import Derived.Test.YtnjacpfahhjpiaaDoorPk8
import Derived.Test.YtnjacpfahhjpiaaDoorPk3
import Derived.Test.YtnjacpfahhjpiaaDoorProg
import Derived.KernelRfl
import Derived.Shelf.Abstract
import Derived.Test.YtnjacpfahhjpiaaDoorPk6
import Derived.Test.YtnjacpfahhjpiaaDoorPk4
import Derived.Test.YtnjacpfahhjpiaaDoorPk5
set_option linter.all false
namespace Go.Proofs.Tryd.Am
open Go.Am Ord
set_option maxRecDepth 100000
set_option maxHeartbeats 4000000

theorem s97_callW [Tabs Tryd.prog] {args : List Value} {h : Ya} {Q : Value → Ya → Prop} (hsz : args.length ≤ 11) (hk : AWS Tryd.prog 11 s97 (Zu Tryd.prog [.tmp 5] Q) (Zp 0 args) h) : ACall Tryd.prog 97 args h Q :=
  Xu Tryd.func97 rfl (enters_of Tryd.func97 (by kernel_rfl) rfl) rfl rfl (by decide) s97_strip s97_ok hsz hk
theorem chains2_call [Tabs prog] {h : Ya} {bo : Nat} {o : List Int} (ho : ord o = true) (hb : h[bo]? = some (.cells (Vb o) 77 false)) {i j : Nat} (hi : i < o.length) (hj : j < o.length) : Wo prog 97 [Yb (i : Nat), Yb (j : Nat), .pointer (some ⟨bo, 0, none⟩)] h (.bool (fr o i j == false)) := by
  have hl := Yz ho
  refine s97_callW (by simp) ?_
  refine Yf ?_
  simp (maxSteps := 2000000) only [s97, ↓Za, ↓Zl, ↓Zr, ↓Ze, ↓Zo, ↓Zs, ↓Zg, ↓Zj, ↓Zf, ↓Zc, ↓Zb, ↓vdn, vup, Zn, Zm, Zi, Zh, Zk, List.map_cons, List.map_nil, cond_true, cond_false, aop, Zv, Zq, Zp, ev, sput, Zt, Zx, Zz, unK, Zd, Zw, Nat.reduceBEq, Nat.reduceAdd, Int.reduceBEq, Int.reduceBNe, Int.reduceLT, Zu, Zy, tup, tyf, Yt, List.nil_append, List.append_nil, List.toList_toArray, List.cons_append, loadO hb Xf hl.2]
  refine (free_call ho hi hj).mono ?_
  rintro _ h ⟨rfl, rfl⟩
  rw [show (fr o i j == false) = !fr o i j by cases fr o i j <;> rfl]
  simp (maxSteps := 2000000) only [s97, ↓Za, ↓Zl, ↓Zr, ↓Ze, ↓Zo, ↓Zs, ↓Zg, ↓Zj, ↓Zf, ↓Zc, ↓Zb, ↓vdn, vup, Zn, Zm, Zi, Zh, Zk, List.map_cons, List.map_nil, cond_true, cond_false, aop, Zv, Zq, Zp, ev, sput, Zt, Zx, Zz, unK, Zd, Zw, Nat.reduceBEq, Nat.reduceAdd, Int.reduceBEq, Int.reduceBNe, Int.reduceLT, Zu, Zy, tup, tyf]
theorem s96_callW [Tabs Tryd.prog] {args : List Value} {h : Ya} {Q : Value → Ya → Prop} (hsz : args.length ≤ 11) (hk : AWS Tryd.prog 11 s96 (Zu Tryd.prog [.tmp 3] Q) (Zp 0 args) h) : ACall Tryd.prog 96 args h Q :=
  Xu Tryd.func96 rfl (enters_of Tryd.func96 (by kernel_rfl) rfl) rfl rfl (by decide) s96_strip s96_ok hsz hk
theorem chains1_call [BitTab prog 1] {h : Ya} {bo : Nat} {o : List Int} {s : Nat} (ho : ord o = true) (hs : s < 2 ^ o.length) (hb : h[bo]? = some (.cells (Vb o) 77 false)) : Wo prog 96 [Yb (s : Nat), .pointer (some ⟨bo, 0, none⟩)] h (.bool (decide (0 < s) && uni o s false)) := by
  have hl := Yz ho
  have hp := pow6 hl.2
  have hpc := two_call (h := h) (s := s) (fn := 97) (first := #[]) (cap := #[.pointer (some ⟨bo, 0, none⟩)]) (by omega) (fun i j => fr o i j == false) fun i j h' hi hj hji hE =>
    chains2_call ho ((hE.2 _ (Xd hb) id).trans hb) (lt_bit hs hi) (lt_bit hs hj)
  rw [prB_uni hs hl.2] at hpc
  refine s96_callW (by simp) ?_
  refine Yf ?_
  by_cases h0 : 0 < s
  · have h0' : (0 : Int) < (s : Nat) := by omega
    simp (maxSteps := 2000000) only [s96, ↓Za, ↓Zl, ↓Zr, ↓Ze, ↓Zo, ↓Zs, ↓Zg, ↓Zj, ↓Zf, ↓Zc, ↓Zb, ↓vdn, vup, Zn, Zm, Zi, Zh, Zk, List.map_cons, List.map_nil, cond_true, cond_false, aop, Zv, Zq, Zp, ev, sput, Zt, Zx, Zz, unK, Zd, Zw, Nat.reduceBEq, Nat.reduceAdd, Int.reduceBEq, Int.reduceBNe, Int.reduceLT, Zu, Zy, tup, tyf, Yt, List.nil_append, List.append_nil, List.toList_toArray, List.cons_append, gt_iff_lt, decide_eq_true h0', List.map_toArray]
    refine (hpc).mono ?_
    rintro _ h ⟨rfl, rfl⟩
    simp (maxSteps := 2000000) only [s96, ↓Za, ↓Zl, ↓Zr, ↓Ze, ↓Zo, ↓Zs, ↓Zg, ↓Zj, ↓Zf, ↓Zc, ↓Zb, ↓vdn, vup, Zn, Zm, Zi, Zh, Zk, List.map_cons, List.map_nil, cond_true, cond_false, aop, Zv, Zq, Zp, ev, sput, Zt, Zx, Zz, unK, Zd, Zw, Nat.reduceBEq, Nat.reduceAdd, Int.reduceBEq, Int.reduceBNe, Int.reduceLT, Zu, Zy, tup, tyf, decide_eq_true h0, Bool.true_and]
  · have h0' : ¬ (0 : Int) < (s : Nat) := by omega
    simp (maxSteps := 2000000) only [s96, ↓Za, ↓Zl, ↓Zr, ↓Ze, ↓Zo, ↓Zs, ↓Zg, ↓Zj, ↓Zf, ↓Zc, ↓Zb, ↓vdn, vup, Zn, Zm, Zi, Zh, Zk, List.map_cons, List.map_nil, cond_true, cond_false, aop, Zv, Zq, Zp, ev, sput, Zt, Zx, Zz, unK, Zd, Zw, Nat.reduceBEq, Nat.reduceAdd, Int.reduceBEq, Int.reduceBNe, Int.reduceLT, Zu, Zy, tup, tyf, gt_iff_lt, decide_eq_false h0', decide_eq_false h0, Bool.false_and]

/-- The chains that the program looks at. -/
def chnL (o : List Int) : List Nat := setsL o fun s => decide (0 < s) && uni o s false
theorem mem_chnL {o : List Int} {c : Nat} : c ∈ chnL o ↔ c < 2 ^ o.length ∧ c ≠ 0 ∧ uni o c false = true := by
  rw [chnL, mem_setsL, Bool.and_eq_true, decide_eq_true_eq]
  exact and_congr_right fun _ => and_congr_left fun _ => by omega
/-- What Chains hands back. -/
def ChainsIs (o : List Int) (h' : Ya) (x : Value) (e : Int) : Prop :=
  if ord o = true then e = 0 ∧ ∃ L cs : List Nat, Part o (2 ^ o.length - 1) cs ∧ cs.length = fw o (2 ^ o.length - 1) ∧ L.Perm cs ∧ L.Pairwise (fun a b => a ≤ b) ∧ OwnSl 3 h' x (iL L) else x = .slice none 0 0 ∧ e = 2
theorem part_app {o : List Int} {s c : Nat} {pre : List Nat} (hpre : ∀ rest, Part o s rest → Part o (2 ^ o.length - 1) (pre ++ rest)) (hc : okC o s c) : ∀ rest, Part o (Xk s c) rest → Part o (2 ^ o.length - 1) ((pre ++ [c]) ++ rest) := fun rest hr => by
  rw [List.append_assoc]
  exact hpre (c :: rest) ⟨hc.1, hc.2.1, hc.2.2, hr⟩

/-- The second table: which chain comes first. -/
def FstI (o : List Int) (F : List Int) (s : Nat) : Prop := F.length = 2 ^ o.length ∧ ∀ t, 0 < t → t < s → ∃ c : Nat, F.getD t 0 = (c : Nat) ∧ okC o t c ∧ fw o t = 1 + fw o (Xk t c)

theorem s57_callW [Tabs Tryd.prog] {args : List Value} {h : Ya} {Q : Value → Ya → Prop} (hsz : args.length ≤ 103) (hk : AWS Tryd.prog 103 s57 (Zu Tryd.prog [.tmp 2, .tmp 3] Q) (Zp 0 args) h) : ACall Tryd.prog 57 args h Q :=
  Xu Tryd.func57 rfl (enters_of Tryd.func57 (by kernel_rfl) rfl) rfl rfl (by decide) s57_strip s57_ok hsz hk
theorem chains_call [BitTab prog 1] {h : Ya} {v : Value} {o : List Int} (hv : IntSl h v o) (hl : o.length < 9223372036854775808) (hx : ∀ x ∈ o, -9223372036854775808 ≤ x ∧ x < 9223372036854775808) :
    ACall prog 57 [v] h fun r h' => Ext (fun _ => False) h h' ∧ ∃ x e, r = .tuple #[x, .int .i64 e] ∧ ChainsIs o h' x e := by
  refine s57_callW (by simp) ?_
  simp only [s57]
  refine Yc fun N1 hN1 => ?_
  simp (maxSteps := 2000000) only [s57, ↓Za, ↓Zl, ↓Zr, ↓Ze, ↓Zo, ↓Zs, ↓Zg, ↓Zj, ↓Zf, ↓Zc, ↓Zb, ↓vdn, vup, Zn, Zm, Zi, Zh, Zk, List.map_cons, List.map_nil, cond_true, cond_false, aop, Zv, Zq, Zp, ev, sput, Zt, Zx, Zz, unK, Zd, Zw, Nat.reduceBEq, Nat.reduceAdd, Int.reduceBEq, Int.reduceBNe, Int.reduceLT, Zu, Zy, tup, tyf]
  refine hN1 [(0, v), (2, .slice none 0 0), (3, .int .i64 0)] _ _ ?_ (by simp (maxSteps := 2000000) only [↓Za, ↓Zl, ↓Zr, ↓Ze, ↓Zo, ↓Zs, ↓Zg, ↓Zj, ↓Zf, ↓Zc, ↓Zb, ↓vdn, vup, Zn, Zm, Zi, Zh, Zk, List.map_cons, List.map_nil, cond_true, cond_false, aop, Zv, Zq, Zp, ev, sput, Zt, Zx, Zz, unK, Zd, Zw, Nat.reduceBEq, Nat.reduceAdd, Int.reduceBEq, Int.reduceBNe, Int.reduceLT, Zu, Zy, tup, tyf])
  clear hN1
  try clear N1
  refine Yc fun N2 hN2 => ?_
  simp (maxSteps := 2000000) only [s57, ↓Za, ↓Zl, ↓Zr, ↓Ze, ↓Zo, ↓Zs, ↓Zg, ↓Zj, ↓Zf, ↓Zc, ↓Zb, ↓vdn, vup, Zn, Zm, Zi, Zh, Zk, List.map_cons, List.map_nil, cond_true, cond_false, aop, Zv, Zq, Zp, ev, sput, Zt, Zx, Zz, unK, Zd, Zw, Nat.reduceBEq, Nat.reduceAdd, Int.reduceBEq, Int.reduceBNe, Int.reduceLT, Zu, Zy, tup, tyf, Yt, List.nil_append, List.append_nil, List.toList_toArray, List.cons_append]
  refine (read_call hv hl hx).mono ?_
  rintro _ g ⟨rfl, rfl⟩
  simp (maxSteps := 2000000) only [s57, ↓Za, ↓Zl, ↓Zr, ↓Ze, ↓Zo, ↓Zs, ↓Zg, ↓Zj, ↓Zf, ↓Zc, ↓Zb, ↓vdn, vup, Zn, Zm, Zi, Zh, Zk, List.map_cons, List.map_nil, cond_true, cond_false, aop, Zv, Zq, Zp, ev, sput, Zt, Zx, Zz, unK, Zd, Zw, Nat.reduceBEq, Nat.reduceAdd, Int.reduceBEq, Int.reduceBNe, Int.reduceLT, Zu, Zy, tup, tyf, Wr, Wp, zeroN, zero_77]
  rw [storeRd]
  obtain ⟨hE, hb⟩ := rdBox g o
  generalize hgl : g.length = gl at hE hb ⊢
  generalize (g ++ [Blk.cells (ordN 0) 77 false]).set gl (.cells (rdC o) 77 false) = G at hE hb ⊢
  refine hN2 [(2, .slice none 0 0), (3, .int .i64 0), (4, .pointer (some ⟨gl, 0, none⟩)), (5, .bool (ord o))] _ _ ?_ (by simp (maxSteps := 2000000) only [↓Za, ↓Zl, ↓Zr, ↓Ze, ↓Zo, ↓Zs, ↓Zg, ↓Zj, ↓Zf, ↓Zc, ↓Zb, ↓vdn, vup, Zn, Zm, Zi, Zh, Zk, List.map_cons, List.map_nil, cond_true, cond_false, aop, Zv, Zq, Zp, ev, sput, Zt, Zx, Zz, unK, Zd, Zw, Nat.reduceBEq, Nat.reduceAdd, Int.reduceBEq, Int.reduceBNe, Int.reduceLT, Zu, Zy, tup, tyf])
  clear hN2
  try clear N2
  refine Yk fun M hM => ?_
  cases ho : ord o with
  | false =>
    refine Yc fun N3 hN3 => ?_
    simp (maxSteps := 2000000) only [s57, ↓Za, ↓Zl, ↓Zr, ↓Ze, ↓Zo, ↓Zs, ↓Zg, ↓Zj, ↓Zf, ↓Zc, ↓Zb, ↓vdn, vup, Zn, Zm, Zi, Zh, Zk, List.map_cons, List.map_nil, cond_true, cond_false, aop, Zv, Zq, Zp, ev, sput, Zt, Zx, Zz, unK, Zd, Zw, Nat.reduceBEq, Nat.reduceAdd, Int.reduceBEq, Int.reduceBNe, Int.reduceLT, Zu, Zy, tup, tyf, Bool.not_false]
    refine hN3 [(2, .slice none 0 0), (3, .int .i64 0), (4, .pointer (some ⟨gl, 0, none⟩)), (5, .bool false), (20, .bool true)] _ _ ?_ (by simp (maxSteps := 2000000) only [↓Za, ↓Zl, ↓Zr, ↓Ze, ↓Zo, ↓Zs, ↓Zg, ↓Zj, ↓Zf, ↓Zc, ↓Zb, ↓vdn, vup, Zn, Zm, Zi, Zh, Zk, List.map_cons, List.map_nil, cond_true, cond_false, aop, Zv, Zq, Zp, ev, sput, Zt, Zx, Zz, unK, Zd, Zw, Nat.reduceBEq, Nat.reduceAdd, Int.reduceBEq, Int.reduceBNe, Int.reduceLT, Zu, Zy, tup, tyf])
    clear hN3
    try clear N3
    refine Wb rfl ?_
    refine Yf ?_
    simp (maxSteps := 2000000) only [s57, ↓Za, ↓Zl, ↓Zr, ↓Ze, ↓Zo, ↓Zs, ↓Zg, ↓Zj, ↓Zf, ↓Zc, ↓Zb, ↓vdn, vup, Zn, Zm, Zi, Zh, Zk, List.map_cons, List.map_nil, cond_true, cond_false, aop, Zv, Zq, Zp, ev, sput, Zt, Zx, Zz, unK, Zd, Zw, Nat.reduceBEq, Nat.reduceAdd, Int.reduceBEq, Int.reduceBNe, Int.reduceLT, Zu, Zy, tup, tyf]
    exact ⟨hE, _, _, rfl, by rw [ChainsIs, ho]; exact ⟨rfl, rfl⟩⟩
  | true =>
    have hln := Yz ho
    have hrd : rdC o = Vb o := if_pos hln
    rw [hrd] at hb
    refine Yc fun N4 hN4 => ?_
    simp (maxSteps := 2000000) only [s57, ↓Za, ↓Zl, ↓Zr, ↓Ze, ↓Zo, ↓Zs, ↓Zg, ↓Zj, ↓Zf, ↓Zc, ↓Zb, ↓vdn, vup, Zn, Zm, Zi, Zh, Zk, List.map_cons, List.map_nil, cond_true, cond_false, aop, Zv, Zq, Zp, ev, sput, Zt, Zx, Zz, unK, Zd, Zw, Nat.reduceBEq, Nat.reduceAdd, Int.reduceBEq, Int.reduceBNe, Int.reduceLT, Zu, Zy, tup, tyf, Bool.not_true]
    refine hN4 [(2, .slice none 0 0), (3, .int .i64 0), (4, .pointer (some ⟨gl, 0, none⟩)), (5, .bool true), (20, .bool false)] _ _ ?_ (by simp (maxSteps := 2000000) only [↓Za, ↓Zl, ↓Zr, ↓Ze, ↓Zo, ↓Zs, ↓Zg, ↓Zj, ↓Zf, ↓Zc, ↓Zb, ↓vdn, vup, Zn, Zm, Zi, Zh, Zk, List.map_cons, List.map_nil, cond_true, cond_false, aop, Zv, Zq, Zp, ev, sput, Zt, Zx, Zz, unK, Zd, Zw, Nat.reduceBEq, Nat.reduceAdd, Int.reduceBEq, Int.reduceBNe, Int.reduceLT, Zu, Zy, tup, tyf])
    clear hN4
    try clear N4
    refine Ys rfl ?_
    refine Yf ?_
    simp (maxSteps := 2000000) only [s57, ↓Za, ↓Zl, ↓Zr, ↓Ze, ↓Zo, ↓Zs, ↓Zg, ↓Zj, ↓Zf, ↓Zc, ↓Zb, ↓vdn, vup, Zn, Zm, Zi, Zh, Zk, List.map_cons, List.map_nil, cond_true, cond_false, aop, Zv, Zq, Zp, ev, sput, Zt, Zx, Zz, unK, Zd, Zw, Nat.reduceBEq, Nat.reduceAdd, Int.reduceBEq, Int.reduceBNe, Int.reduceLT, Zu, Zy, tup, tyf]
    refine hM [(2, .slice none 0 0), (3, .int .i64 0), (4, .pointer (some ⟨gl, 0, none⟩)), (5, .bool true)] _ _ ?_ (by simp (maxSteps := 2000000) only [↓Za, ↓Zl, ↓Zr, ↓Ze, ↓Zo, ↓Zs, ↓Zg, ↓Zj, ↓Zf, ↓Zc, ↓Zb, ↓vdn, vup, Zn, Zm, Zi, Zh, Zk, List.map_cons, List.map_nil, cond_true, cond_false, aop, Zv, Zq, Zp, ev, sput, Zt, Zx, Zz, unK, Zd, Zw, Nat.reduceBEq, Nat.reduceAdd, Int.reduceBEq, Int.reduceBNe, Int.reduceLT, Zu, Zy, tup, tyf])
    clear hM
    try clear M
    have sc := sets_call (h := G) (fn := 96) (cap := #[.pointer (some ⟨gl, 0, none⟩)]) ho (fun s => decide (0 < s) && uni o s false) fun s h' hs hE' => chains1_call ho hs ((hE'.2 _ (Xd hb) id).trans hb)
    refine Yc fun N5 hN5 => ?_
    simp (maxSteps := 2000000) only [s57, ↓Za, ↓Zl, ↓Zr, ↓Ze, ↓Zo, ↓Zs, ↓Zg, ↓Zj, ↓Zf, ↓Zc, ↓Zb, ↓vdn, vup, Zn, Zm, Zi, Zh, Zk, List.map_cons, List.map_nil, cond_true, cond_false, aop, Zv, Zq, Zp, ev, sput, Zt, Zx, Zz, unK, Zd, Zw, Nat.reduceBEq, Nat.reduceAdd, Int.reduceBEq, Int.reduceBNe, Int.reduceLT, Zu, Zy, tup, tyf, Yt, List.nil_append, List.append_nil, List.toList_toArray, List.cons_append, loadO hb Xf hln.2, List.map_toArray]
    refine (sc).mono ?_
    rintro r H1 ⟨hr, hE1, _⟩
    refine hN5 [(2, .slice none 0 0), (3, .int .i64 0), (4, .pointer (some ⟨gl, 0, none⟩)), (6, r)] _ _ ?_ (by simp (maxSteps := 2000000) only [↓Za, ↓Zl, ↓Zr, ↓Ze, ↓Zo, ↓Zs, ↓Zg, ↓Zj, ↓Zf, ↓Zc, ↓Zb, ↓vdn, vup, Zn, Zm, Zi, Zh, Zk, List.map_cons, List.map_nil, cond_true, cond_false, aop, Zv, Zq, Zp, ev, sput, Zt, Zx, Zz, unK, Zd, Zw, Nat.reduceBEq, Nat.reduceAdd, Int.reduceBEq, Int.reduceBNe, Int.reduceLT, Zu, Zy, tup, tyf])
    clear hN5
    try clear N5
    have hr2 : OwnSl 3 H1 r (iL (chnL o)) := hr
    clear hr sc
    have hadd := all_add hln.2
    have hallc := fun z => all_call (h := z) (o := o) hln.2
    have hp := pow6 hln.2
    obtain ⟨N, hN⟩ : ∃ N, N = 2 ^ o.length := ⟨_, rfl⟩
    rw [← hN] at hadd hp
    simp only [← hN] at hallc
    have hmk : ∀ {z : Ya} {K : Value → Ya → Prop}, makeK prog z 22 (Yb (N : Nat)) (Yb (N : Nat)) K = K (.slice (some ⟨z.length, 0, none⟩) N N) (z ++ [.ints (List.replicate N 0) 3 false]) := fun {z K} => makeI Xm zero_3 info_3 (by omega) (by omega)
    obtain ⟨n1, hn1⟩ : ∃ n, n = H1.length := ⟨_, rfl⟩
    have hb1 : H1[gl]? = some (.cells (Vb o) 77 false) := (hE1.2 _ (Xd hb) id).trans hb
    have hgl1 := Xd hb1
    refine Yc fun N6 hN6 => ?_
    simp (maxSteps := 2000000) only [s57, ↓Za, ↓Zl, ↓Zr, ↓Ze, ↓Zo, ↓Zs, ↓Zg, ↓Zj, ↓Zf, ↓Zc, ↓Zb, ↓vdn, vup, Zn, Zm, Zi, Zh, Zk, List.map_cons, List.map_nil, cond_true, cond_false, aop, Zv, Zq, Zp, ev, sput, Zt, Zx, Zz, unK, Zd, Zw, Nat.reduceBEq, Nat.reduceAdd, Int.reduceBEq, Int.reduceBNe, Int.reduceLT, Zu, Zy, tup, tyf, Yt, List.nil_append, List.append_nil, List.toList_toArray, List.cons_append, loadO hb1 Xf hln.2]
    refine (hallc H1).mono ?_
    rintro _ H1 ⟨rfl, rfl⟩
    simp (maxSteps := 2000000) only [s57, ↓Za, ↓Zl, ↓Zr, ↓Ze, ↓Zo, ↓Zs, ↓Zg, ↓Zj, ↓Zf, ↓Zc, ↓Zb, ↓vdn, vup, Zn, Zm, Zi, Zh, Zk, List.map_cons, List.map_nil, cond_true, cond_false, aop, Zv, Zq, Zp, ev, sput, Zt, Zx, Zz, unK, Zd, Zw, Nat.reduceBEq, Nat.reduceAdd, Int.reduceBEq, Int.reduceBNe, Int.reduceLT, Zu, Zy, tup, tyf, hadd, hmk]
    rw [← hn1]
    refine hN6 [(2, .slice none 0 0), (3, .int .i64 0), (4, .pointer (some ⟨gl, 0, none⟩)), (6, r), (7, .slice (some ⟨n1, 0, none⟩) N N)] _ _ ?_ (by simp (maxSteps := 2000000) only [↓Za, ↓Zl, ↓Zr, ↓Ze, ↓Zo, ↓Zs, ↓Zg, ↓Zj, ↓Zf, ↓Zc, ↓Zb, ↓vdn, vup, Zn, Zm, Zi, Zh, Zk, List.map_cons, List.map_nil, cond_true, cond_false, aop, Zv, Zq, Zp, ev, sput, Zt, Zx, Zz, unK, Zd, Zw, Nat.reduceBEq, Nat.reduceAdd, Int.reduceBEq, Int.reduceBNe, Int.reduceLT, Zu, Zy, tup, tyf])
    clear hN6
    try clear N6
    have hb2 : (H1 ++ [Blk.ints (List.replicate N 0) 3 false])[gl]? = some (.cells (Vb o) 77 false) := get_old hb1 _
    refine Yc fun N7 hN7 => ?_
    simp (maxSteps := 2000000) only [s57, ↓Za, ↓Zl, ↓Zr, ↓Ze, ↓Zo, ↓Zs, ↓Zg, ↓Zj, ↓Zf, ↓Zc, ↓Zb, ↓vdn, vup, Zn, Zm, Zi, Zh, Zk, List.map_cons, List.map_nil, cond_true, cond_false, aop, Zv, Zq, Zp, ev, sput, Zt, Zx, Zz, unK, Zd, Zw, Nat.reduceBEq, Nat.reduceAdd, Int.reduceBEq, Int.reduceBNe, Int.reduceLT, Zu, Zy, tup, tyf, Yt, List.nil_append, List.append_nil, List.toList_toArray, List.cons_append, loadO hb2 Xf hln.2]
    refine (hallc _).mono ?_
    rintro _ _ ⟨rfl, rfl⟩
    simp (maxSteps := 2000000) only [s57, ↓Za, ↓Zl, ↓Zr, ↓Ze, ↓Zo, ↓Zs, ↓Zg, ↓Zj, ↓Zf, ↓Zc, ↓Zb, ↓vdn, vup, Zn, Zm, Zi, Zh, Zk, List.map_cons, List.map_nil, cond_true, cond_false, aop, Zv, Zq, Zp, ev, sput, Zt, Zx, Zz, unK, Zd, Zw, Nat.reduceBEq, Nat.reduceAdd, Int.reduceBEq, Int.reduceBNe, Int.reduceLT, Zu, Zy, tup, tyf, hadd, hmk, List.length_append, List.length_singleton]
    rw [← hn1]
    refine hN7 [(2, .slice none 0 0), (3, .int .i64 0), (4, .pointer (some ⟨gl, 0, none⟩)), (6, r), (7, .slice (some ⟨n1, 0, none⟩) N N), (8, .slice (some ⟨n1 + 1, 0, none⟩) N N)] _ _ ?_ (by simp (maxSteps := 2000000) only [↓Za, ↓Zl, ↓Zr, ↓Ze, ↓Zo, ↓Zs, ↓Zg, ↓Zj, ↓Zf, ↓Zc, ↓Zb, ↓vdn, vup, Zn, Zm, Zi, Zh, Zk, List.map_cons, List.map_nil, cond_true, cond_false, aop, Zv, Zq, Zp, ev, sput, Zt, Zx, Zz, unK, Zd, Zw, Nat.reduceBEq, Nat.reduceAdd, Int.reduceBEq, Int.reduceBNe, Int.reduceLT, Zu, Zy, tup, tyf])
    clear hN7
    try clear N7
    obtain ⟨X, hX⟩ : ∃ X : List Int → List Int → Ya, X = fun T F => H1 ++ [Blk.ints T 3 false] ++ [Blk.ints F 3 false] := ⟨_, rfl⟩
    have hX0 : H1 ++ [Blk.ints (List.replicate N 0) 3 false] ++ [Blk.ints (List.replicate N 0) 3 false] = X (List.replicate N 0) (List.replicate N 0) := by rw [hX]
    rw [hX0]
    have xT : ∀ T F, (X T F)[n1]? = some (.ints T 3 false) := fun T F => by rw [hX, hn1]; simp
    have xF : ∀ T F, (X T F)[n1 + 1]? = some (.ints F 3 false) := fun T F => by rw [hX, hn1]; simp
    have xE : ∀ T F, Ext (fun _ => False) H1 (X T F) := fun T F => by rw [hX]; simp only [List.append_assoc]; exact Ext.app _ _ _
    have xb : ∀ T F, (X T F)[gl]? = some (.cells (Vb o) 77 false) := fun T F => ((xE T F).2 _ hgl1 id).trans hb1
    have xl : ∀ T F, (X T F).length = n1 + 2 := fun T F => by rw [hX, hn1]; simp
    have setT : ∀ T F T', (X T F).set n1 (.ints T' 3 false) = X T' F := fun T F T' => by
      rw [hX, hn1]; simp only [List.append_assoc]
      rw [List.set_append_right _ _ (Nat.le_refl _), Nat.sub_self]; rfl
    have setF : ∀ T F F', (X T F).set (n1 + 1) (.ints F' 3 false) = X T F' := fun T F F' => by
      rw [hX, hn1]; simp only [List.append_assoc]
      rw [List.set_append_right _ _ (by omega), show H1.length + 1 - H1.length = 1 by omega]; rfl
    have hrX : ∀ T F, IntSl (X T F) r (iL (chnL o)) := fun T F => Xg hr2.int (xE T F)
    have f4 : ∀ {K : Value → Prop}, Xs prog 77 (.pointer (some ⟨gl, 0, none⟩)) 0 K = K (.pointer (some ⟨gl, 0, none⟩)) := fun {K} => by
      simp [Xs, fld_77_0, Xh]
    clear hX0 hX hmk hb2
    have hChl : (iL (chnL o)).length = (chnL o).length := Wy _
    have hC64 : (chnL o).length ≤ N := by rw [chnL, setsL, ← hN]; exact filter_len _ _
    refine Yk fun Z hZ => ?_
    refine Yc fun N8 hN8 => ?_
    simp (maxSteps := 2000000) only [s57, ↓Za, ↓Zl, ↓Zr, ↓Ze, ↓Zo, ↓Zs, ↓Zg, ↓Zj, ↓Zf, ↓Zc, ↓Zb, ↓vdn, vup, Zn, Zm, Zi, Zh, Zk, List.map_cons, List.map_nil, cond_true, cond_false, aop, Zv, Zq, Zp, ev, sput, Zt, Zx, Zz, unK, Zd, Zw, Nat.reduceBEq, Nat.reduceAdd, Int.reduceBEq, Int.reduceBNe, Int.reduceLT, Zu, Zy, tup, tyf]
    refine hN8 [(2, .slice none 0 0), (3, .int .i64 0), (4, .pointer (some ⟨gl, 0, none⟩)), (6, r), (7, .slice (some ⟨n1, 0, none⟩) N N), (8, .slice (some ⟨n1 + 1, 0, none⟩) N N), (9, .int .i64 1)] _ _ ?_ (by simp (maxSteps := 2000000) only [↓Za, ↓Zl, ↓Zr, ↓Ze, ↓Zo, ↓Zs, ↓Zg, ↓Zj, ↓Zf, ↓Zc, ↓Zb, ↓vdn, vup, Zn, Zm, Zi, Zh, Zk, List.map_cons, List.map_nil, cond_true, cond_false, aop, Zv, Zq, Zp, ev, sput, Zt, Zx, Zz, unK, Zd, Zw, Nat.reduceBEq, Nat.reduceAdd, Int.reduceBEq, Int.reduceBNe, Int.reduceLT, Zu, Zy, tup, tyf])
    clear hN8
    try clear N8
    refine Yl ?_
    refine Yj fun Q hQ => ?_
    refine Xt (γ := Nat × List Int × List Int) (fun s => 1 ≤ s.1 ∧ s.1 ≤ N ∧ TabI o s.2.1 s.1 ∧ FstI o s.2.2 s.1)
      (fun s => ([(2, .slice none 0 0), (3, .int .i64 0), (4, .pointer (some ⟨gl, 0, none⟩)), (6, r), (7, .slice (some ⟨n1, 0, none⟩) N N), (8, .slice (some ⟨n1 + 1, 0, none⟩) N N), (9, Yb (s.1 : Nat))], X s.2.1 s.2.2)) (fun s => N - s.1) (1, List.replicate N 0, List.replicate N 0) ⟨Nat.le_refl _, by omega, ⟨by simp [hN], fun t ht => by rw [show t = 0 by omega, fw_zero]; cases N <;> simp [List.getD]⟩, by simp [hN], fun t h0 ht => by omega⟩ (by simp (maxSteps := 2000000) only [↓Za, ↓Zl, ↓Zr, ↓Ze, ↓Zo, ↓Zs, ↓Zg, ↓Zj, ↓Zf, ↓Zc, ↓Zb, ↓vdn, vup, Zn, Zm, Zi, Zh, Zk, List.map_cons, List.map_nil, cond_true, cond_false, aop, Zv, Zq, Zp, ev, sput, Zt, Zx, Zz, unK, Zd, Zw, Nat.reduceBEq, Nat.reduceAdd, Int.reduceBEq, Int.reduceBNe, Int.reduceLT, Zu, Zy, tup, tyf, Int.natCast_one]) rfl ?_
    rintro ⟨s, T, F⟩ ⟨hs1, hs, hT, hF⟩
    simp only at hs1 hs hT hF
    refine Yj fun Q2 hQ2 => ?_
    simp only [l57_1]
    refine Yk fun C hC => ?_
    refine Yc fun N9 hN9 => ?_
    simp (maxSteps := 2000000) only [s57, ↓Za, ↓Zl, ↓Zr, ↓Ze, ↓Zo, ↓Zs, ↓Zg, ↓Zj, ↓Zf, ↓Zc, ↓Zb, ↓vdn, vup, Zn, Zm, Zi, Zh, Zk, List.map_cons, List.map_nil, cond_true, cond_false, aop, Zv, Zq, Zp, ev, sput, Zt, Zx, Zz, unK, Zd, Zw, Nat.reduceBEq, Nat.reduceAdd, Int.reduceBEq, Int.reduceBNe, Int.reduceLT, Zu, Zy, tup, tyf, Yt, List.nil_append, List.append_nil, List.toList_toArray, List.cons_append, loadO (xb T F) Xf hln.2]
    refine (hallc _).mono ?_
    rintro _ _ ⟨rfl, rfl⟩
    by_cases hin : (s : Int) ≤ ((N - 1 : Nat) : Int)
    · have hs' : s < N := by omega
      have hs2 : s < 2 ^ o.length := by omega
      simp (maxSteps := 2000000) only [s57, ↓Za, ↓Zl, ↓Zr, ↓Ze, ↓Zo, ↓Zs, ↓Zg, ↓Zj, ↓Zf, ↓Zc, ↓Zb, ↓vdn, vup, Zn, Zm, Zi, Zh, Zk, List.map_cons, List.map_nil, cond_true, cond_false, aop, Zv, Zq, Zp, ev, sput, Zt, Zx, Zz, unK, Zd, Zw, Nat.reduceBEq, Nat.reduceAdd, Int.reduceBEq, Int.reduceBNe, Int.reduceLT, Zu, Zy, tup, tyf, hin]
      refine hN9 [(2, .slice none 0 0), (3, .int .i64 0), (4, .pointer (some ⟨gl, 0, none⟩)), (6, r), (7, .slice (some ⟨n1, 0, none⟩) N N), (8, .slice (some ⟨n1 + 1, 0, none⟩) N N), (9, Yb (s : Nat)), (35, .bool true)] _ _ ?_ (by simp (maxSteps := 2000000) only [↓Za, ↓Zl, ↓Zr, ↓Ze, ↓Zo, ↓Zs, ↓Zg, ↓Zj, ↓Zf, ↓Zc, ↓Zb, ↓vdn, vup, Zn, Zm, Zi, Zh, Zk, List.map_cons, List.map_nil, cond_true, cond_false, aop, Zv, Zq, Zp, ev, sput, Zt, Zx, Zz, unK, Zd, Zw, Nat.reduceBEq, Nat.reduceAdd, Int.reduceBEq, Int.reduceBNe, Int.reduceLT, Zu, Zy, tup, tyf])
      clear hN9
      try clear N9
      refine Wb rfl ?_
      refine Yf ?_
      simp (maxSteps := 2000000) only [s57, ↓Za, ↓Zl, ↓Zr, ↓Ze, ↓Zo, ↓Zs, ↓Zg, ↓Zj, ↓Zf, ↓Zc, ↓Zb, ↓vdn, vup, Zn, Zm, Zi, Zh, Zk, List.map_cons, List.map_nil, cond_true, cond_false, aop, Zv, Zq, Zp, ev, sput, Zt, Zx, Zz, unK, Zd, Zw, Nat.reduceBEq, Nat.reduceAdd, Int.reduceBEq, Int.reduceBNe, Int.reduceLT, Zu, Zy, tup, tyf]
      refine hC [(2, .slice none 0 0), (3, .int .i64 0), (4, .pointer (some ⟨gl, 0, none⟩)), (6, r), (7, .slice (some ⟨n1, 0, none⟩) N N), (8, .slice (some ⟨n1 + 1, 0, none⟩) N N), (9, Yb (s : Nat))] _ _ ?_ (by simp (maxSteps := 2000000) only [↓Za, ↓Zl, ↓Zr, ↓Ze, ↓Zo, ↓Zs, ↓Zg, ↓Zj, ↓Zf, ↓Zc, ↓Zb, ↓vdn, vup, Zn, Zm, Zi, Zh, Zk, List.map_cons, List.map_nil, cond_true, cond_false, aop, Zv, Zq, Zp, ev, sput, Zt, Zx, Zz, unK, Zd, Zw, Nat.reduceBEq, Nat.reduceAdd, Int.reduceBEq, Int.reduceBNe, Int.reduceLT, Zu, Zy, tup, tyf])
      clear hC
      try clear C
      refine Yk fun B hB => ?_
      refine Yl ?_
      have hTl : T.length = N := by rw [hT.len, hN]
      obtain ⟨hT1, hx1⟩ := hT.put hs2 ((o.length + 1 : Nat) : Int)
      refine Yc fun N10 hN10 => ?_
      simp (maxSteps := 2000000) only [s57, ↓Za, ↓Zl, ↓Zr, ↓Ze, ↓Zo, ↓Zs, ↓Zg, ↓Zj, ↓Zf, ↓Zc, ↓Zb, ↓vdn, vup, Zn, Zm, Zi, Zh, Zk, List.map_cons, List.map_nil, cond_true, cond_false, aop, Zv, Zq, Zp, ev, sput, Zt, Zx, Zz, unK, Zd, Zw, Nat.reduceBEq, Nat.reduceAdd, Int.reduceBEq, Int.reduceBNe, Int.reduceLT, Zu, Zy, tup, tyf, f4, loadN (xb T F) Yp, add1 (show o.length < 9223372036854775807 by omega), idxS Xm Xh hs', storeBI (xT T F) Yp (show s < T.length by omega), setT]
      refine hN10 [(2, .slice none 0 0), (3, .int .i64 0), (4, .pointer (some ⟨gl, 0, none⟩)), (6, r), (7, .slice (some ⟨n1, 0, none⟩) N N), (8, .slice (some ⟨n1 + 1, 0, none⟩) N N), (9, Yb (s : Nat))] _ _ ?_ (by simp (maxSteps := 2000000) only [↓Za, ↓Zl, ↓Zr, ↓Ze, ↓Zo, ↓Zs, ↓Zg, ↓Zj, ↓Zf, ↓Zc, ↓Zb, ↓vdn, vup, Zn, Zm, Zi, Zh, Zk, List.map_cons, List.map_nil, cond_true, cond_false, aop, Zv, Zq, Zp, ev, sput, Zt, Zx, Zz, unK, Zd, Zw, Nat.reduceBEq, Nat.reduceAdd, Int.reduceBEq, Int.reduceBNe, Int.reduceLT, Zu, Zy, tup, tyf])
      clear hN10
      try clear N10
      generalize T.set s ((o.length + 1 : Nat) : Int) = T1 at hT1 hx1
      clear hT hTl
      refine Yc fun N11 hN11 => ?_
      simp (maxSteps := 2000000) only [s57, ↓Za, ↓Zl, ↓Zr, ↓Ze, ↓Zo, ↓Zs, ↓Zg, ↓Zj, ↓Zf, ↓Zc, ↓Zb, ↓vdn, vup, Zn, Zm, Zi, Zh, Zk, List.map_cons, List.map_nil, cond_true, cond_false, aop, Zv, Zq, Zp, ev, sput, Zt, Zx, Zz, unK, Zd, Zw, Nat.reduceBEq, Nat.reduceAdd, Int.reduceBEq, Int.reduceBNe, Int.reduceLT, Zu, Zy, tup, tyf, (hrX T1 F).len, hChl]
      refine hN11 [(2, .slice none 0 0), (3, .int .i64 0), (4, .pointer (some ⟨gl, 0, none⟩)), (6, r), (7, .slice (some ⟨n1, 0, none⟩) N N), (8, .slice (some ⟨n1 + 1, 0, none⟩) N N), (9, Yb (s : Nat)), (44, r), (45, Yb (chnL o).length), (46, .int .i64 0)] _ _ ?_ (by simp (maxSteps := 2000000) only [↓Za, ↓Zl, ↓Zr, ↓Ze, ↓Zo, ↓Zs, ↓Zg, ↓Zj, ↓Zf, ↓Zc, ↓Zb, ↓vdn, vup, Zn, Zm, Zi, Zh, Zk, List.map_cons, List.map_nil, cond_true, cond_false, aop, Zv, Zq, Zp, ev, sput, Zt, Zx, Zz, unK, Zd, Zw, Nat.reduceBEq, Nat.reduceAdd, Int.reduceBEq, Int.reduceBNe, Int.reduceLT, Zu, Zy, tup, tyf])
      clear hN11
      try clear N11
      refine Yl ?_
      refine Yj fun Qa hQa => ?_
      refine Xt (γ := Nat × List Int × List Int × Nat) (fun q => q.1 ≤ (chnL o).length ∧ TabI o q.2.1 s ∧ FstI o q.2.2.1 s ∧ q.2.1.getD s 0 = (q.2.2.2 : Nat) ∧ q.2.2.2 ≤ 7 ∧ BstI o s (fun c => ∃ i, i < q.1 ∧ (chnL o).getD i 0 = c) q.2.2.2 ∧ (q.2.2.2 = o.length + 1 ∨ ∃ c : Nat, q.2.2.1.getD s 0 = (c : Nat) ∧ okC o s c ∧ q.2.2.2 = 1 + fw o (Xk s c)))
        (fun q => ([(2, .slice none 0 0), (3, .int .i64 0), (4, .pointer (some ⟨gl, 0, none⟩)), (6, r), (7, .slice (some ⟨n1, 0, none⟩) N N), (8, .slice (some ⟨n1 + 1, 0, none⟩) N N), (9, Yb (s : Nat)), (44, r), (45, Yb (chnL o).length), (46, Yb (q.1 : Nat))], X q.2.1 q.2.2.1)) (fun q => (chnL o).length - q.1) (0, T1, F, o.length + 1) ⟨Nat.zero_le _, hT1, hF, hx1, by show o.length + 1 ≤ 7; omega, ⟨by have := fw_le (o := o) hs2; show fw o s ≤ o.length + 1; omega, fun c hc _ => by obtain ⟨i, hi, _⟩ := hc; exact absurd hi (Nat.not_lt_zero i)⟩, .inl rfl⟩ (by simp (maxSteps := 2000000) only [↓Za, ↓Zl, ↓Zr, ↓Ze, ↓Zo, ↓Zs, ↓Zg, ↓Zj, ↓Zf, ↓Zc, ↓Zb, ↓vdn, vup, Zn, Zm, Zi, Zh, Zk, List.map_cons, List.map_nil, cond_true, cond_false, aop, Zv, Zq, Zp, ev, sput, Zt, Zx, Zz, unK, Zd, Zw, Nat.reduceBEq, Nat.reduceAdd, Int.reduceBEq, Int.reduceBNe, Int.reduceLT, Zu, Zy, tup, tyf, Int.natCast_zero]) rfl ?_
      rintro ⟨j, T, F, x⟩ ⟨hj, hT, hF, hx, hx7, hbst, hfst⟩
      simp only at hj hT hF hx hx7 hbst hfst
      refine Yj fun Qb hQb => ?_
      simp only [l57_0]
      have hTl : T.length = N := by rw [hT.len, hN]
      have hFl : F.length = N := by rw [hF.1, hN]
      by_cases hjin : (j : Int) < (chnL o).length
      · have hj' : j < (chnL o).length := by omega
        have hj2 : j < (iL (chnL o)).length := by omega
        obtain ⟨c, hc⟩ : ∃ c, (chnL o).getD j 0 = c := ⟨_, rfl⟩
        have hcm : c ∈ chnL o := hc ▸ getD_memN hj'
        obtain ⟨hc1, hc2, hc3⟩ := mem_chnL.1 hcm
        refine Yc fun N12 hN12 => ?_
        simp (maxSteps := 2000000) only [s57, ↓Za, ↓Zl, ↓Zr, ↓Ze, ↓Zo, ↓Zs, ↓Zg, ↓Zj, ↓Zf, ↓Zc, ↓Zb, ↓vdn, vup, Zn, Zm, Zi, Zh, Zk, List.map_cons, List.map_nil, cond_true, cond_false, aop, Zv, Zq, Zp, ev, sput, Zt, Zx, Zz, unK, Zd, Zw, Nat.reduceBEq, Nat.reduceAdd, Int.reduceBEq, Int.reduceBNe, Int.reduceLT, Zu, Zy, tup, tyf, hjin]
        refine hN12 [(2, .slice none 0 0), (3, .int .i64 0), (4, .pointer (some ⟨gl, 0, none⟩)), (6, r), (7, .slice (some ⟨n1, 0, none⟩) N N), (8, .slice (some ⟨n1 + 1, 0, none⟩) N N), (9, Yb (s : Nat)), (44, r), (45, Yb (chnL o).length), (46, Yb (j : Nat)), (47, .bool true)] _ _ ?_ (by simp (maxSteps := 2000000) only [↓Za, ↓Zl, ↓Zr, ↓Ze, ↓Zo, ↓Zs, ↓Zg, ↓Zj, ↓Zf, ↓Zc, ↓Zb, ↓vdn, vup, Zn, Zm, Zi, Zh, Zk, List.map_cons, List.map_nil, cond_true, cond_false, aop, Zv, Zq, Zp, ev, sput, Zt, Zx, Zz, unK, Zd, Zw, Nat.reduceBEq, Nat.reduceAdd, Int.reduceBEq, Int.reduceBNe, Int.reduceLT, Zu, Zy, tup, tyf])
        clear hN12
        try clear N12
        refine Yc fun N13 hN13 => ?_
        simp (maxSteps := 2000000) only [s57, ↓Za, ↓Zl, ↓Zr, ↓Ze, ↓Zo, ↓Zs, ↓Zg, ↓Zj, ↓Zf, ↓Zc, ↓Zb, ↓vdn, vup, Zn, Zm, Zi, Zh, Zk, List.map_cons, List.map_nil, cond_true, cond_false, aop, Zv, Zq, Zp, ev, sput, Zt, Zx, Zz, unK, Zd, Zw, Nat.reduceBEq, Nat.reduceAdd, Int.reduceBEq, Int.reduceBNe, Int.reduceLT, Zu, Zy, tup, tyf]
        refine hN13 [(2, .slice none 0 0), (3, .int .i64 0), (4, .pointer (some ⟨gl, 0, none⟩)), (6, r), (7, .slice (some ⟨n1, 0, none⟩) N N), (8, .slice (some ⟨n1 + 1, 0, none⟩) N N), (9, Yb (s : Nat)), (44, r), (45, Yb (chnL o).length), (46, Yb (j : Nat))] _ _ ?_ (by simp (maxSteps := 2000000) only [↓Za, ↓Zl, ↓Zr, ↓Ze, ↓Zo, ↓Zs, ↓Zg, ↓Zj, ↓Zf, ↓Zc, ↓Zb, ↓vdn, vup, Zn, Zm, Zi, Zh, Zk, List.map_cons, List.map_nil, cond_true, cond_false, aop, Zv, Zq, Zp, ev, sput, Zt, Zx, Zz, unK, Zd, Zw, Nat.reduceBEq, Nat.reduceAdd, Int.reduceBEq, Int.reduceBNe, Int.reduceLT, Zu, Zy, tup, tyf])
        clear hN13
        try clear N13
        refine Yk fun D hD => ?_
        refine Yl ?_
        refine Yc fun N14 hN14 => ?_
        simp (maxSteps := 2000000) only [s57, ↓Za, ↓Zl, ↓Zr, ↓Ze, ↓Zo, ↓Zs, ↓Zg, ↓Zj, ↓Zf, ↓Zc, ↓Zb, ↓vdn, vup, Zn, Zm, Zi, Zh, Zk, List.map_cons, List.map_nil, cond_true, cond_false, aop, Zv, Zq, Zp, ev, sput, Zt, Zx, Zz, unK, Zd, Zw, Nat.reduceBEq, Nat.reduceAdd, Int.reduceBEq, Int.reduceBNe, Int.reduceLT, Zu, Zy, tup, tyf, (hrX T F).idx Xm Xh hj2, (hrX T F).load Yp hj2, iL_get, hc]
        refine hN14 [(2, .slice none 0 0), (3, .int .i64 0), (4, .pointer (some ⟨gl, 0, none⟩)), (6, r), (7, .slice (some ⟨n1, 0, none⟩) N N), (8, .slice (some ⟨n1 + 1, 0, none⟩) N N), (9, Yb (s : Nat)), (11, Yb (c : Nat)), (44, r), (45, Yb (chnL o).length), (46, Yb (j : Nat))] _ _ ?_ (by simp (maxSteps := 2000000) only [↓Za, ↓Zl, ↓Zr, ↓Ze, ↓Zo, ↓Zs, ↓Zg, ↓Zj, ↓Zf, ↓Zc, ↓Zb, ↓vdn, vup, Zn, Zm, Zi, Zh, Zk, List.map_cons, List.map_nil, cond_true, cond_false, aop, Zv, Zq, Zp, ev, sput, Zt, Zx, Zz, unK, Zd, Zw, Nat.reduceBEq, Nat.reduceAdd, Int.reduceBEq, Int.reduceBNe, Int.reduceLT, Zu, Zy, tup, tyf])
        clear hN14
        try clear N14
        have goOn : ∀ (T' F' : List Int) (x' : Nat), TabI o T' s → FstI o F' s → T'.getD s 0 = (x' : Nat) → x' ≤ 7 → BstI o s (fun c => ∃ i, i < j + 1 ∧ (chnL o).getD i 0 = c) x' → (x' = o.length + 1 ∨ ∃ c : Nat, F'.getD s 0 = (c : Nat) ∧ okC o s c ∧ x' = 1 + fw o (Xk s c)) → ∀ e, ELe e [(2, .slice none 0 0), (3, .int .i64 0), (4, .pointer (some ⟨gl, 0, none⟩)), (6, r), (7, .slice (some ⟨n1, 0, none⟩) N N), (8, .slice (some ⟨n1 + 1, 0, none⟩) N N), (9, Yb (s : Nat)), (44, r), (45, Yb (chnL o).length), (46, Yb (j : Nat))] → D e (X T' F') := by
          intro T' F' x' g1 g2 g3 g4 g5 g6 e he
          refine hD _ _ _ ?_ he
          refine Yf ?_
          simp (maxSteps := 2000000) only [s57, ↓Za, ↓Zl, ↓Zr, ↓Ze, ↓Zo, ↓Zs, ↓Zg, ↓Zj, ↓Zf, ↓Zc, ↓Zb, ↓vdn, vup, Zn, Zm, Zi, Zh, Zk, List.map_cons, List.map_nil, cond_true, cond_false, aop, Zv, Zq, Zp, ev, sput, Zt, Zx, Zz, unK, Zd, Zw, Nat.reduceBEq, Nat.reduceAdd, Int.reduceBEq, Int.reduceBNe, Int.reduceLT, Zu, Zy, tup, tyf, add1 (show j < 9223372036854775807 by omega)]
          exact hQb _ _ _ ⟨(j + 1, T', F', x'), ⟨hj', g1, g2, g3, g4, g5, g6⟩, by simp only; omega, by simp (maxSteps := 2000000) only [↓Za, ↓Zl, ↓Zr, ↓Ze, ↓Zo, ↓Zs, ↓Zg, ↓Zj, ↓Zf, ↓Zc, ↓Zb, ↓vdn, vup, Zn, Zm, Zi, Zh, Zk, List.map_cons, List.map_nil, cond_true, cond_false, aop, Zv, Zq, Zp, ev, sput, Zt, Zx, Zz, unK, Zd, Zw, Nat.reduceBEq, Nat.reduceAdd, Int.reduceBEq, Int.reduceBNe, Int.reduceLT, Zu, Zy, tup, tyf], rfl⟩
        have noC : (okC o s c → x ≤ 1 + fw o (Xk s c)) → BstI o s (fun c => ∃ i, i < j + 1 ∧ (chnL o).getD i 0 = c) x := fun hno => ⟨hbst.ge, fun d hd hk => by
          obtain ⟨i, hi, hdi⟩ := hd
          by_cases he : i = j
          · rw [he, hc] at hdi; subst hdi; exact hno hk
          · exact hbst.le d ⟨i, by omega, hdi⟩ hk⟩
        have han := andNot_eq (a := c) (b := s) (by omega) (by omega)
        have han2 := andNot_eq (a := s) (b := c) (by omega) (by omega)
        refine Yc fun N15 hN15 => ?_
        simp only [q57_14]
        refine Xy [] (by kernel_rfl) (by kernel_rfl) (by kernel_rfl) (by kernel_rfl) ?_
        by_cases hz : Xk c s = 0
        · have hz' : (((Xk c s : Nat) : Int) == 0) = true := by rw [hz]; rfl
          have hok : okC o s c := ⟨hc2, hz, hc3⟩
          obtain ⟨y, hy⟩ : ∃ y, y = fw o (Xk s c) := ⟨_, rfl⟩
          have hlt := less_lt hok.1 hok.2.1
          have hgy : T.getD (Xk s c) 0 = (y : Nat) := by rw [hT.get _ hlt, hy]
          have hy6 : y ≤ 6 := by rw [hy]; exact fw_le6 ho (by omega)
          have hadd1 : addV .i64 1 ((y : Nat) : Int) = ((1 + y : Nat) : Int) := by
            rw [addV_id (by omega) (by omega)]; omega
          by_cases hlt2 : 1 + y < x
          · have hlt2' : ((1 + y : Nat) : Int) < ((x : Nat) : Int) := by omega
            simp (maxSteps := 2000000) only [s57, ↓Za, ↓Zl, ↓Zr, ↓Ze, ↓Zo, ↓Zs, ↓Zg, ↓Zj, ↓Zf, ↓Zc, ↓Zb, ↓vdn, vup, Zn, Zm, Zi, Zh, Zk, List.map_cons, List.map_nil, cond_true, cond_false, aop, Zv, Zq, Zp, ev, sput, Zt, Zx, Zz, unK, Zd, Zw, Nat.reduceBEq, Nat.reduceAdd, Int.reduceBEq, Int.reduceBNe, Int.reduceLT, Zu, Zy, tup, tyf, han, hz', han2, idxS Xm Xh (show Xk s c < N by omega), loadX (xT T F) Yp (show Xk s c < T.length by omega), hgy, hadd1, idxS Xm Xh hs', loadX (xT T F) Yp (show s < T.length by omega), hx, decide_eq_true hlt2']
            refine hN15 [(2, .slice none 0 0), (3, .int .i64 0), (4, .pointer (some ⟨gl, 0, none⟩)), (6, r), (7, .slice (some ⟨n1, 0, none⟩) N N), (8, .slice (some ⟨n1 + 1, 0, none⟩) N N), (9, Yb (s : Nat)), (11, Yb (c : Nat)), (44, r), (45, Yb (chnL o).length), (46, Yb (j : Nat)), (67, .bool true)] _ _ ?_ (by simp (maxSteps := 2000000) only [↓Za, ↓Zl, ↓Zr, ↓Ze, ↓Zo, ↓Zs, ↓Zg, ↓Zj, ↓Zf, ↓Zc, ↓Zb, ↓vdn, vup, Zn, Zm, Zi, Zh, Zk, List.map_cons, List.map_nil, cond_true, cond_false, aop, Zv, Zq, Zp, ev, sput, Zt, Zx, Zz, unK, Zd, Zw, Nat.reduceBEq, Nat.reduceAdd, Int.reduceBEq, Int.reduceBNe, Int.reduceLT, Zu, Zy, tup, tyf])
            clear hN15
            try clear N15
            refine Wb rfl ?_
            obtain ⟨hT2, hx2⟩ := hT.put hs2 ((1 + y : Nat) : Int)
            have hF2 : FstI o (F.set s ((c : Nat) : Int)) s := ⟨by rw [List.length_set, hF.1], fun t h0 ht => by rw [getD_setI (by omega), if_neg (by omega)]; exact hF.2 t h0 ht⟩
            have hfx : (F.set s ((c : Nat) : Int)).getD s 0 = (c : Nat) := by rw [getD_setI (by omega), if_pos rfl]
            refine Yf ?_
            simp (maxSteps := 2000000) only [s57, ↓Za, ↓Zl, ↓Zr, ↓Ze, ↓Zo, ↓Zs, ↓Zg, ↓Zj, ↓Zf, ↓Zc, ↓Zb, ↓vdn, vup, Zn, Zm, Zi, Zh, Zk, List.map_cons, List.map_nil, cond_true, cond_false, aop, Zv, Zq, Zp, ev, sput, Zt, Zx, Zz, unK, Zd, Zw, Nat.reduceBEq, Nat.reduceAdd, Int.reduceBEq, Int.reduceBNe, Int.reduceLT, Zu, Zy, tup, tyf, han2, idxS Xm Xh (show Xk s c < N by omega), loadX (xT T F) Yp (show Xk s c < T.length by omega), hgy, hadd1, idxS Xm Xh hs', storeBI (xT T F) Yp (show s < T.length by omega), setT, storeBI (xF _ F) Yp (show s < F.length by omega), setF]
            refine goOn _ _ (1 + y) hT2 hF2 hx2 (by omega) ⟨?_, fun d hd hk => ?_⟩ (.inr ⟨c, hfx, hok, by rw [hy]⟩) _ (by simp (maxSteps := 2000000) only [↓Za, ↓Zl, ↓Zr, ↓Ze, ↓Zo, ↓Zs, ↓Zg, ↓Zj, ↓Zf, ↓Zc, ↓Zb, ↓vdn, vup, Zn, Zm, Zi, Zh, Zk, List.map_cons, List.map_nil, cond_true, cond_false, aop, Zv, Zq, Zp, ev, sput, Zt, Zx, Zz, unK, Zd, Zw, Nat.reduceBEq, Nat.reduceAdd, Int.reduceBEq, Int.reduceBNe, Int.reduceLT, Zu, Zy, tup, tyf])
            · have := fw_le_one hok; omega
            · obtain ⟨i, hi, hdi⟩ := hd
              by_cases he : i = j
              · rw [he, hc] at hdi; subst hdi; omega
              · have := hbst.le d ⟨i, by omega, hdi⟩ hk; omega
          · have hlt2' : ¬ ((1 + y : Nat) : Int) < ((x : Nat) : Int) := by omega
            simp (maxSteps := 2000000) only [s57, ↓Za, ↓Zl, ↓Zr, ↓Ze, ↓Zo, ↓Zs, ↓Zg, ↓Zj, ↓Zf, ↓Zc, ↓Zb, ↓vdn, vup, Zn, Zm, Zi, Zh, Zk, List.map_cons, List.map_nil, cond_true, cond_false, aop, Zv, Zq, Zp, ev, sput, Zt, Zx, Zz, unK, Zd, Zw, Nat.reduceBEq, Nat.reduceAdd, Int.reduceBEq, Int.reduceBNe, Int.reduceLT, Zu, Zy, tup, tyf, han, hz', han2, idxS Xm Xh (show Xk s c < N by omega), loadX (xT T F) Yp (show Xk s c < T.length by omega), hgy, hadd1, idxS Xm Xh hs', loadX (xT T F) Yp (show s < T.length by omega), hx, decide_eq_false hlt2']
            refine hN15 [(2, .slice none 0 0), (3, .int .i64 0), (4, .pointer (some ⟨gl, 0, none⟩)), (6, r), (7, .slice (some ⟨n1, 0, none⟩) N N), (8, .slice (some ⟨n1 + 1, 0, none⟩) N N), (9, Yb (s : Nat)), (11, Yb (c : Nat)), (44, r), (45, Yb (chnL o).length), (46, Yb (j : Nat)), (67, .bool false)] _ _ ?_ (by simp (maxSteps := 2000000) only [↓Za, ↓Zl, ↓Zr, ↓Ze, ↓Zo, ↓Zs, ↓Zg, ↓Zj, ↓Zf, ↓Zc, ↓Zb, ↓vdn, vup, Zn, Zm, Zi, Zh, Zk, List.map_cons, List.map_nil, cond_true, cond_false, aop, Zv, Zq, Zp, ev, sput, Zt, Zx, Zz, unK, Zd, Zw, Nat.reduceBEq, Nat.reduceAdd, Int.reduceBEq, Int.reduceBNe, Int.reduceLT, Zu, Zy, tup, tyf])
            clear hN15
            try clear N15
            refine Ys rfl ?_
            refine Yf ?_
            simp (maxSteps := 2000000) only [s57, ↓Za, ↓Zl, ↓Zr, ↓Ze, ↓Zo, ↓Zs, ↓Zg, ↓Zj, ↓Zf, ↓Zc, ↓Zb, ↓vdn, vup, Zn, Zm, Zi, Zh, Zk, List.map_cons, List.map_nil, cond_true, cond_false, aop, Zv, Zq, Zp, ev, sput, Zt, Zx, Zz, unK, Zd, Zw, Nat.reduceBEq, Nat.reduceAdd, Int.reduceBEq, Int.reduceBNe, Int.reduceLT, Zu, Zy, tup, tyf]
            exact goOn T F x hT hF hx hx7 (noC fun _ => by omega) hfst _ (by simp (maxSteps := 2000000) only [↓Za, ↓Zl, ↓Zr, ↓Ze, ↓Zo, ↓Zs, ↓Zg, ↓Zj, ↓Zf, ↓Zc, ↓Zb, ↓vdn, vup, Zn, Zm, Zi, Zh, Zk, List.map_cons, List.map_nil, cond_true, cond_false, aop, Zv, Zq, Zp, ev, sput, Zt, Zx, Zz, unK, Zd, Zw, Nat.reduceBEq, Nat.reduceAdd, Int.reduceBEq, Int.reduceBNe, Int.reduceLT, Zu, Zy, tup, tyf])
        · have hz' : (((Xk c s : Nat) : Int) == 0) = false := by
            rw [beq_eq_false_iff_ne]; omega
          simp (maxSteps := 2000000) only [s57, ↓Za, ↓Zl, ↓Zr, ↓Ze, ↓Zo, ↓Zs, ↓Zg, ↓Zj, ↓Zf, ↓Zc, ↓Zb, ↓vdn, vup, Zn, Zm, Zi, Zh, Zk, List.map_cons, List.map_nil, cond_true, cond_false, aop, Zv, Zq, Zp, ev, sput, Zt, Zx, Zz, unK, Zd, Zw, Nat.reduceBEq, Nat.reduceAdd, Int.reduceBEq, Int.reduceBNe, Int.reduceLT, Zu, Zy, tup, tyf, han, hz']
          refine hN15 [(2, .slice none 0 0), (3, .int .i64 0), (4, .pointer (some ⟨gl, 0, none⟩)), (6, r), (7, .slice (some ⟨n1, 0, none⟩) N N), (8, .slice (some ⟨n1 + 1, 0, none⟩) N N), (9, Yb (s : Nat)), (11, Yb (c : Nat)), (44, r), (45, Yb (chnL o).length), (46, Yb (j : Nat)), (67, .bool false)] _ _ ?_ (by simp (maxSteps := 2000000) only [↓Za, ↓Zl, ↓Zr, ↓Ze, ↓Zo, ↓Zs, ↓Zg, ↓Zj, ↓Zf, ↓Zc, ↓Zb, ↓vdn, vup, Zn, Zm, Zi, Zh, Zk, List.map_cons, List.map_nil, cond_true, cond_false, aop, Zv, Zq, Zp, ev, sput, Zt, Zx, Zz, unK, Zd, Zw, Nat.reduceBEq, Nat.reduceAdd, Int.reduceBEq, Int.reduceBNe, Int.reduceLT, Zu, Zy, tup, tyf])
          clear hN15
          try clear N15
          refine Ys rfl ?_
          refine Yf ?_
          simp (maxSteps := 2000000) only [s57, ↓Za, ↓Zl, ↓Zr, ↓Ze, ↓Zo, ↓Zs, ↓Zg, ↓Zj, ↓Zf, ↓Zc, ↓Zb, ↓vdn, vup, Zn, Zm, Zi, Zh, Zk, List.map_cons, List.map_nil, cond_true, cond_false, aop, Zv, Zq, Zp, ev, sput, Zt, Zx, Zz, unK, Zd, Zw, Nat.reduceBEq, Nat.reduceAdd, Int.reduceBEq, Int.reduceBNe, Int.reduceLT, Zu, Zy, tup, tyf]
          exact goOn T F x hT hF hx hx7 (noC fun hk => absurd hk.2.1 hz) hfst _ (by simp (maxSteps := 2000000) only [↓Za, ↓Zl, ↓Zr, ↓Ze, ↓Zo, ↓Zs, ↓Zg, ↓Zj, ↓Zf, ↓Zc, ↓Zb, ↓vdn, vup, Zn, Zm, Zi, Zh, Zk, List.map_cons, List.map_nil, cond_true, cond_false, aop, Zv, Zq, Zp, ev, sput, Zt, Zx, Zz, unK, Zd, Zw, Nat.reduceBEq, Nat.reduceAdd, Int.reduceBEq, Int.reduceBNe, Int.reduceLT, Zu, Zy, tup, tyf])
      · obtain rfl : j = (chnL o).length := by omega
        have hxf := hbst.fin (by omega) fun d hd => by
          have hds := sub_leN hd.2.1
          obtain ⟨i, hi, he⟩ := List.mem_iff_getElem.1 (mem_chnL.2 ⟨by omega, hd.1, hd.2.2⟩)
          exact ⟨i, hi, by rw [List.getD, List.getElem?_eq_getElem hi, he]; rfl⟩
        subst hxf
        have hfl := fw_le (o := o) hs2
        have hF2 : FstI o F (s + 1) := ⟨hF.1, fun t h0 ht => by
          by_cases he : t = s
          · subst he
            rcases hfst with h1 | h1
            · omega
            · exact h1
          · exact hF.2 t h0 (by omega)⟩
        refine Yc fun N16 hN16 => ?_
        simp (maxSteps := 2000000) only [s57, ↓Za, ↓Zl, ↓Zr, ↓Ze, ↓Zo, ↓Zs, ↓Zg, ↓Zj, ↓Zf, ↓Zc, ↓Zb, ↓vdn, vup, Zn, Zm, Zi, Zh, Zk, List.map_cons, List.map_nil, cond_true, cond_false, aop, Zv, Zq, Zp, ev, sput, Zt, Zx, Zz, unK, Zd, Zw, Nat.reduceBEq, Nat.reduceAdd, Int.reduceBEq, Int.reduceBNe, Int.reduceLT, Zu, Zy, tup, tyf, hjin]
        refine hN16 [(2, .slice none 0 0), (3, .int .i64 0), (4, .pointer (some ⟨gl, 0, none⟩)), (6, r), (7, .slice (some ⟨n1, 0, none⟩) N N), (8, .slice (some ⟨n1 + 1, 0, none⟩) N N), (9, Yb (s : Nat)), (44, r), (45, Yb (chnL o).length), (46, Yb (chnL o).length), (47, .bool false)] _ _ ?_ (by simp (maxSteps := 2000000) only [↓Za, ↓Zl, ↓Zr, ↓Ze, ↓Zo, ↓Zs, ↓Zg, ↓Zj, ↓Zf, ↓Zc, ↓Zb, ↓vdn, vup, Zn, Zm, Zi, Zh, Zk, List.map_cons, List.map_nil, cond_true, cond_false, aop, Zv, Zq, Zp, ev, sput, Zt, Zx, Zz, unK, Zd, Zw, Nat.reduceBEq, Nat.reduceAdd, Int.reduceBEq, Int.reduceBNe, Int.reduceLT, Zu, Zy, tup, tyf])
        clear hN16
        try clear N16
        refine Yc fun N17 hN17 => ?_
        simp (maxSteps := 2000000) only [s57, ↓Za, ↓Zl, ↓Zr, ↓Ze, ↓Zo, ↓Zs, ↓Zg, ↓Zj, ↓Zf, ↓Zc, ↓Zb, ↓vdn, vup, Zn, Zm, Zi, Zh, Zk, List.map_cons, List.map_nil, cond_true, cond_false, aop, Zv, Zq, Zp, ev, sput, Zt, Zx, Zz, unK, Zd, Zw, Nat.reduceBEq, Nat.reduceAdd, Int.reduceBEq, Int.reduceBNe, Int.reduceLT, Zu, Zy, tup, tyf]
        refine hQb _ _ _ (hQa _ _ _ ?_)
        simp (maxSteps := 2000000) only [s57, ↓Za, ↓Zl, ↓Zr, ↓Ze, ↓Zo, ↓Zs, ↓Zg, ↓Zj, ↓Zf, ↓Zc, ↓Zb, ↓vdn, vup, Zn, Zm, Zi, Zh, Zk, List.map_cons, List.map_nil, cond_true, cond_false, aop, Zv, Zq, Zp, ev, sput, Zt, Zx, Zz, unK, Zd, Zw, Nat.reduceBEq, Nat.reduceAdd, Int.reduceBEq, Int.reduceBNe, Int.reduceLT, Zu, Zy, tup, tyf, if_true]
        refine hB [(2, .slice none 0 0), (3, .int .i64 0), (4, .pointer (some ⟨gl, 0, none⟩)), (6, r), (7, .slice (some ⟨n1, 0, none⟩) N N), (8, .slice (some ⟨n1 + 1, 0, none⟩) N N), (9, Yb (s : Nat))] _ _ ?_ (by simp (maxSteps := 2000000) only [↓Za, ↓Zl, ↓Zr, ↓Ze, ↓Zo, ↓Zs, ↓Zg, ↓Zj, ↓Zf, ↓Zc, ↓Zb, ↓vdn, vup, Zn, Zm, Zi, Zh, Zk, List.map_cons, List.map_nil, cond_true, cond_false, aop, Zv, Zq, Zp, ev, sput, Zt, Zx, Zz, unK, Zd, Zw, Nat.reduceBEq, Nat.reduceAdd, Int.reduceBEq, Int.reduceBNe, Int.reduceLT, Zu, Zy, tup, tyf])
        clear hB
        try clear B
        refine Yf ?_
        simp (maxSteps := 2000000) only [s57, ↓Za, ↓Zl, ↓Zr, ↓Ze, ↓Zo, ↓Zs, ↓Zg, ↓Zj, ↓Zf, ↓Zc, ↓Zb, ↓vdn, vup, Zn, Zm, Zi, Zh, Zk, List.map_cons, List.map_nil, cond_true, cond_false, aop, Zv, Zq, Zp, ev, sput, Zt, Zx, Zz, unK, Zd, Zw, Nat.reduceBEq, Nat.reduceAdd, Int.reduceBEq, Int.reduceBNe, Int.reduceLT, Zu, Zy, tup, tyf, add1 (show s < 9223372036854775807 by omega)]
        exact hQ2 _ _ _ ⟨(s + 1, T, F), ⟨by simp only; omega, hs', hT.next hx, hF2⟩, by simp only; omega, by simp (maxSteps := 2000000) only [↓Za, ↓Zl, ↓Zr, ↓Ze, ↓Zo, ↓Zs, ↓Zg, ↓Zj, ↓Zf, ↓Zc, ↓Zb, ↓vdn, vup, Zn, Zm, Zi, Zh, Zk, List.map_cons, List.map_nil, cond_true, cond_false, aop, Zv, Zq, Zp, ev, sput, Zt, Zx, Zz, unK, Zd, Zw, Nat.reduceBEq, Nat.reduceAdd, Int.reduceBEq, Int.reduceBNe, Int.reduceLT, Zu, Zy, tup, tyf], rfl⟩
    · obtain rfl : N = s := by omega
      simp (maxSteps := 2000000) only [s57, ↓Za, ↓Zl, ↓Zr, ↓Ze, ↓Zo, ↓Zs, ↓Zg, ↓Zj, ↓Zf, ↓Zc, ↓Zb, ↓vdn, vup, Zn, Zm, Zi, Zh, Zk, List.map_cons, List.map_nil, cond_true, cond_false, aop, Zv, Zq, Zp, ev, sput, Zt, Zx, Zz, unK, Zd, Zw, Nat.reduceBEq, Nat.reduceAdd, Int.reduceBEq, Int.reduceBNe, Int.reduceLT, Zu, Zy, tup, tyf, hin]
      refine hN9 [(2, .slice none 0 0), (3, .int .i64 0), (4, .pointer (some ⟨gl, 0, none⟩)), (6, r), (7, .slice (some ⟨n1, 0, none⟩) N N), (8, .slice (some ⟨n1 + 1, 0, none⟩) N N), (9, Yb (N : Nat)), (35, .bool false)] _ _ ?_ (by simp (maxSteps := 2000000) only [↓Za, ↓Zl, ↓Zr, ↓Ze, ↓Zo, ↓Zs, ↓Zg, ↓Zj, ↓Zf, ↓Zc, ↓Zb, ↓vdn, vup, Zn, Zm, Zi, Zh, Zk, List.map_cons, List.map_nil, cond_true, cond_false, aop, Zv, Zq, Zp, ev, sput, Zt, Zx, Zz, unK, Zd, Zw, Nat.reduceBEq, Nat.reduceAdd, Int.reduceBEq, Int.reduceBNe, Int.reduceLT, Zu, Zy, tup, tyf])
      clear hN9
      try clear N9
      refine Ys rfl ?_
      refine Yf ?_
      simp (maxSteps := 2000000) only [s57, ↓Za, ↓Zl, ↓Zr, ↓Ze, ↓Zo, ↓Zs, ↓Zg, ↓Zj, ↓Zf, ↓Zc, ↓Zb, ↓vdn, vup, Zn, Zm, Zi, Zh, Zk, List.map_cons, List.map_nil, cond_true, cond_false, aop, Zv, Zq, Zp, ev, sput, Zt, Zx, Zz, unK, Zd, Zw, Nat.reduceBEq, Nat.reduceAdd, Int.reduceBEq, Int.reduceBNe, Int.reduceLT, Zu, Zy, tup, tyf]
      refine hQ2 _ _ _ (hQ _ _ _ ?_)
      simp (maxSteps := 2000000) only [s57, ↓Za, ↓Zl, ↓Zr, ↓Ze, ↓Zo, ↓Zs, ↓Zg, ↓Zj, ↓Zf, ↓Zc, ↓Zb, ↓vdn, vup, Zn, Zm, Zi, Zh, Zk, List.map_cons, List.map_nil, cond_true, cond_false, aop, Zv, Zq, Zp, ev, sput, Zt, Zx, Zz, unK, Zd, Zw, Nat.reduceBEq, Nat.reduceAdd, Int.reduceBEq, Int.reduceBNe, Int.reduceLT, Zu, Zy, tup, tyf, if_true]
      refine hZ [(2, .slice none 0 0), (3, .int .i64 0), (4, .pointer (some ⟨gl, 0, none⟩)), (6, r), (7, .slice (some ⟨n1, 0, none⟩) N N), (8, .slice (some ⟨n1 + 1, 0, none⟩) N N)] _ _ ?_ (by simp (maxSteps := 2000000) only [↓Za, ↓Zl, ↓Zr, ↓Ze, ↓Zo, ↓Zs, ↓Zg, ↓Zj, ↓Zf, ↓Zc, ↓Zb, ↓vdn, vup, Zn, Zm, Zi, Zh, Zk, List.map_cons, List.map_nil, cond_true, cond_false, aop, Zv, Zq, Zp, ev, sput, Zt, Zx, Zz, unK, Zd, Zw, Nat.reduceBEq, Nat.reduceAdd, Int.reduceBEq, Int.reduceBNe, Int.reduceLT, Zu, Zy, tup, tyf])
      clear hZ
      try clear Z
      clear hQ hQ2
      have hFl : F.length = N := by rw [hF.1, hN]
      refine Yc fun N18 hN18 => ?_
      simp (maxSteps := 2000000) only [s57, ↓Za, ↓Zl, ↓Zr, ↓Ze, ↓Zo, ↓Zs, ↓Zg, ↓Zj, ↓Zf, ↓Zc, ↓Zb, ↓vdn, vup, Zn, Zm, Zi, Zh, Zk, List.map_cons, List.map_nil, cond_true, cond_false, aop, Zv, Zq, Zp, ev, sput, Zt, Zx, Zz, unK, Zd, Zw, Nat.reduceBEq, Nat.reduceAdd, Int.reduceBEq, Int.reduceBNe, Int.reduceLT, Zu, Zy, tup, tyf]
      refine hN18 [(2, .slice none 0 0), (3, .int .i64 0), (4, .pointer (some ⟨gl, 0, none⟩)), (6, r), (7, .slice (some ⟨n1, 0, none⟩) N N), (8, .slice (some ⟨n1 + 1, 0, none⟩) N N), (12, .slice none 0 0)] _ _ ?_ (by simp (maxSteps := 2000000) only [↓Za, ↓Zl, ↓Zr, ↓Ze, ↓Zo, ↓Zs, ↓Zg, ↓Zj, ↓Zf, ↓Zc, ↓Zb, ↓vdn, vup, Zn, Zm, Zi, Zh, Zk, List.map_cons, List.map_nil, cond_true, cond_false, aop, Zv, Zq, Zp, ev, sput, Zt, Zx, Zz, unK, Zd, Zw, Nat.reduceBEq, Nat.reduceAdd, Int.reduceBEq, Int.reduceBNe, Int.reduceLT, Zu, Zy, tup, tyf])
      clear hN18
      try clear N18
      refine Yk fun Z hZ => ?_
      refine Yc fun N19 hN19 => ?_
      simp (maxSteps := 2000000) only [s57, ↓Za, ↓Zl, ↓Zr, ↓Ze, ↓Zo, ↓Zs, ↓Zg, ↓Zj, ↓Zf, ↓Zc, ↓Zb, ↓vdn, vup, Zn, Zm, Zi, Zh, Zk, List.map_cons, List.map_nil, cond_true, cond_false, aop, Zv, Zq, Zp, ev, sput, Zt, Zx, Zz, unK, Zd, Zw, Nat.reduceBEq, Nat.reduceAdd, Int.reduceBEq, Int.reduceBNe, Int.reduceLT, Zu, Zy, tup, tyf, Yt, List.nil_append, List.append_nil, List.toList_toArray, List.cons_append, loadO (xb T F) Xf hln.2]
      refine (hallc _).mono ?_
      rintro _ _ ⟨rfl, rfl⟩
      refine hN19 [(2, .slice none 0 0), (3, .int .i64 0), (4, .pointer (some ⟨gl, 0, none⟩)), (6, r), (7, .slice (some ⟨n1, 0, none⟩) N N), (8, .slice (some ⟨n1 + 1, 0, none⟩) N N), (12, .slice none 0 0), (13, Yb (N - 1 : Nat))] _ _ ?_ (by simp (maxSteps := 2000000) only [↓Za, ↓Zl, ↓Zr, ↓Ze, ↓Zo, ↓Zs, ↓Zg, ↓Zj, ↓Zf, ↓Zc, ↓Zb, ↓vdn, vup, Zn, Zm, Zi, Zh, Zk, List.map_cons, List.map_nil, cond_true, cond_false, aop, Zv, Zq, Zp, ev, sput, Zt, Zx, Zz, unK, Zd, Zw, Nat.reduceBEq, Nat.reduceAdd, Int.reduceBEq, Int.reduceBNe, Int.reduceLT, Zu, Zy, tup, tyf])
      clear hN19
      try clear N19
      refine Yl ?_
      refine Yj fun Q hQ => ?_
      refine Xt (γ := Nat × List Nat × Value × Ya) (fun q => q.1 < N ∧ OwnSl 3 q.2.2.2 q.2.2.1 (iL q.2.1) ∧ Ext (fun _ => False) (X T F) q.2.2.2 ∧ (∀ b, Xa q.2.2.1 = some b → n1 + 2 ≤ b) ∧ (∀ rest, Part o q.1 rest → Part o (2 ^ o.length - 1) (q.2.1 ++ rest)) ∧ q.2.1.length + fw o q.1 = fw o (2 ^ o.length - 1) ∧ ∀ c ∈ q.2.1, c < N)
        (fun q => ([(2, .slice none 0 0), (3, .int .i64 0), (4, .pointer (some ⟨gl, 0, none⟩)), (6, r), (7, .slice (some ⟨n1, 0, none⟩) N N), (8, .slice (some ⟨n1 + 1, 0, none⟩) N N), (12, q.2.2.1), (13, Yb (q.1 : Nat))], q.2.2.2)) (fun q => q.1) (N - 1, [], .slice none 0 0, X T F) ⟨by omega, .inl ⟨rfl, rfl⟩, Ext.refl _ _, fun b hb => (by cases hb), fun rest hr => (by rw [List.nil_append, ← hN]; exact hr), by simp [hN], fun c hc => by cases hc⟩ (by simp (maxSteps := 2000000) only [↓Za, ↓Zl, ↓Zr, ↓Ze, ↓Zo, ↓Zs, ↓Zg, ↓Zj, ↓Zf, ↓Zc, ↓Zb, ↓vdn, vup, Zn, Zm, Zi, Zh, Zk, List.map_cons, List.map_nil, cond_true, cond_false, aop, Zv, Zq, Zp, ev, sput, Zt, Zx, Zz, unK, Zd, Zw, Nat.reduceBEq, Nat.reduceAdd, Int.reduceBEq, Int.reduceBNe, Int.reduceLT, Zu, Zy, tup, tyf]) rfl ?_
      rintro ⟨t, pre, w, H⟩ ⟨ht, how, hEH, hbw, hpart, hsum, hpreN⟩
      simp only at ht how hEH hbw hpart hsum hpreN
      refine Yj fun Q2 hQ2 => ?_
      simp only [l57_2]
      refine Yk fun C hC => ?_
      have hF8 : H[n1 + 1]? = some (.ints F 3 false) := (hEH.2 _ (Xd (xF T F)) id).trans (xF T F)
      by_cases h0 : t = 0
      · subst h0
        have hz : (((0 : Nat) : Int) != 0) = false := rfl
        refine Yc fun N20 hN20 => ?_
        simp (maxSteps := 2000000) only [s57, ↓Za, ↓Zl, ↓Zr, ↓Ze, ↓Zo, ↓Zs, ↓Zg, ↓Zj, ↓Zf, ↓Zc, ↓Zb, ↓vdn, vup, Zn, Zm, Zi, Zh, Zk, List.map_cons, List.map_nil, cond_true, cond_false, aop, Zv, Zq, Zp, ev, sput, Zt, Zx, Zz, unK, Zd, Zw, Nat.reduceBEq, Nat.reduceAdd, Int.reduceBEq, Int.reduceBNe, Int.reduceLT, Zu, Zy, tup, tyf, hz]
        refine hN20 [(2, .slice none 0 0), (3, .int .i64 0), (4, .pointer (some ⟨gl, 0, none⟩)), (6, r), (7, .slice (some ⟨n1, 0, none⟩) N N), (8, .slice (some ⟨n1 + 1, 0, none⟩) N N), (12, w), (13, Yb (0 : Nat)), (86, .bool false)] _ _ ?_ (by simp (maxSteps := 2000000) only [↓Za, ↓Zl, ↓Zr, ↓Ze, ↓Zo, ↓Zs, ↓Zg, ↓Zj, ↓Zf, ↓Zc, ↓Zb, ↓vdn, vup, Zn, Zm, Zi, Zh, Zk, List.map_cons, List.map_nil, cond_true, cond_false, aop, Zv, Zq, Zp, ev, sput, Zt, Zx, Zz, unK, Zd, Zw, Nat.reduceBEq, Nat.reduceAdd, Int.reduceBEq, Int.reduceBNe, Int.reduceLT, Zu, Zy, tup, tyf])
        clear hN20
        try clear N20
        refine Ys rfl ?_
        refine Yf ?_
        simp (maxSteps := 2000000) only [s57, ↓Za, ↓Zl, ↓Zr, ↓Ze, ↓Zo, ↓Zs, ↓Zg, ↓Zj, ↓Zf, ↓Zc, ↓Zb, ↓vdn, vup, Zn, Zm, Zi, Zh, Zk, List.map_cons, List.map_nil, cond_true, cond_false, aop, Zv, Zq, Zp, ev, sput, Zt, Zx, Zz, unK, Zd, Zw, Nat.reduceBEq, Nat.reduceAdd, Int.reduceBEq, Int.reduceBNe, Int.reduceLT, Zu, Zy, tup, tyf]
        refine hQ2 _ _ _ (hQ _ _ _ ?_)
        simp (maxSteps := 2000000) only [s57, ↓Za, ↓Zl, ↓Zr, ↓Ze, ↓Zo, ↓Zs, ↓Zg, ↓Zj, ↓Zf, ↓Zc, ↓Zb, ↓vdn, vup, Zn, Zm, Zi, Zh, Zk, List.map_cons, List.map_nil, cond_true, cond_false, aop, Zv, Zq, Zp, ev, sput, Zt, Zx, Zz, unK, Zd, Zw, Nat.reduceBEq, Nat.reduceAdd, Int.reduceBEq, Int.reduceBNe, Int.reduceLT, Zu, Zy, tup, tyf, if_true]
        refine hZ [(2, .slice none 0 0), (3, .int .i64 0), (4, .pointer (some ⟨gl, 0, none⟩)), (6, r), (7, .slice (some ⟨n1, 0, none⟩) N N), (8, .slice (some ⟨n1 + 1, 0, none⟩) N N), (12, w), (86, .bool false)] _ _ ?_ (by simp (maxSteps := 2000000) only [↓Za, ↓Zl, ↓Zr, ↓Ze, ↓Zo, ↓Zs, ↓Zg, ↓Zj, ↓Zf, ↓Zc, ↓Zb, ↓vdn, vup, Zn, Zm, Zi, Zh, Zk, List.map_cons, List.map_nil, cond_true, cond_false, aop, Zv, Zq, Zp, ev, sput, Zt, Zx, Zz, unK, Zd, Zw, Nat.reduceBEq, Nat.reduceAdd, Int.reduceBEq, Int.reduceBNe, Int.reduceLT, Zu, Zy, tup, tyf])
        clear hZ
        try clear Z
        have hpp := hpart [] rfl
        rw [List.append_nil] at hpp
        rw [fw_zero, Nat.add_zero] at hsum
        have h1 : 2 ^ o.length - 1 ≠ 0 := by
          have : 2 ^ 1 ≤ 2 ^ o.length := Nat.pow_le_pow_right (by decide) hln.1
          omega
        have hpl : pre ≠ [] := by rintro rfl; exact h1 hpp
        have hpl6 : pre.length ≤ 6 := by rw [hsum]; exact fw_le6 ho (by omega)
        rcases how with ⟨_, hnil⟩ | ⟨b, ys, rfl, hblk⟩
        · exact absurd (List.map_eq_nil_iff.1 hnil) hpl
        have hbn := hbw b rfl
        rw [Wy]
        refine Yc fun N21 hN21 => ?_
        simp (maxSteps := 2000000) only [s57, ↓Za, ↓Zl, ↓Zr, ↓Ze, ↓Zo, ↓Zs, ↓Zg, ↓Zj, ↓Zf, ↓Zc, ↓Zb, ↓vdn, vup, Zn, Zm, Zi, Zh, Zk, List.map_cons, List.map_nil, cond_true, cond_false, aop, Zv, Zq, Zp, ev, sput, Zt, Zx, Zz, unK, Zd, Zw, Nat.reduceBEq, Nat.reduceAdd, Int.reduceBEq, Int.reduceBNe, Int.reduceLT, Zu, Zy, tup, tyf, Yt, List.nil_append, List.append_nil, List.toList_toArray, List.cons_append]
        refine (sortO_call hblk (by omega) (fun x hx => by have := hpreN x hx; omega)).mono ?_
        rintro _ H2 ⟨L, hLp, hLs, hH2⟩
        refine hN21 [(2, .slice none 0 0), (3, .int .i64 0), (4, .pointer (some ⟨gl, 0, none⟩)), (6, r), (7, .slice (some ⟨n1, 0, none⟩) N N), (8, .slice (some ⟨n1 + 1, 0, none⟩) N N), (12, .slice (some ⟨b, 0, some 0⟩) pre.length (pre.length + ys.length)), (86, .bool false)] _ _ ?_ (by simp (maxSteps := 2000000) only [↓Za, ↓Zl, ↓Zr, ↓Ze, ↓Zo, ↓Zs, ↓Zg, ↓Zj, ↓Zf, ↓Zc, ↓Zb, ↓vdn, vup, Zn, Zm, Zi, Zh, Zk, List.map_cons, List.map_nil, cond_true, cond_false, aop, Zv, Zq, Zp, ev, sput, Zt, Zx, Zz, unK, Zd, Zw, Nat.reduceBEq, Nat.reduceAdd, Int.reduceBEq, Int.reduceBNe, Int.reduceLT, Zu, Zy, tup, tyf])
        clear hN21
        try clear N21
        refine Yf ?_
        simp (maxSteps := 2000000) only [s57, ↓Za, ↓Zl, ↓Zr, ↓Ze, ↓Zo, ↓Zs, ↓Zg, ↓Zj, ↓Zf, ↓Zc, ↓Zb, ↓vdn, vup, Zn, Zm, Zi, Zh, Zk, List.map_cons, List.map_nil, cond_true, cond_false, aop, Zv, Zq, Zp, ev, sput, Zt, Zx, Zz, unK, Zd, Zw, Nat.reduceBEq, Nat.reduceAdd, Int.reduceBEq, Int.reduceBNe, Int.reduceLT, Zu, Zy, tup, tyf]
        have hlXH : (X T F).length ≤ H.length := hEH.1
        have hgX : Ext (fun _ => False) g H2 := by
          rw [hH2]
          have e1 := ((hE.trans hE1).trans (xE T F)).trans hEH
          have := (hE.trans hE1).1
          exact e1.set_ge (by omega) _
        refine ⟨hgX, _, _, rfl, ?_⟩
        rw [ChainsIs, ho]
        refine ⟨rfl, L, pre, hpp, hsum, hLp, hLs, .inr ⟨b, ys, ?_, ?_⟩⟩
        · rw [Wy, hLp.length_eq]
        · rw [hH2]; exact Xw (Xd hblk) _
      · have hz : (((t : Nat) : Int) != 0) = true := by rw [bne_iff_ne]; omega
        obtain ⟨c, hc, hok, hfc⟩ := hF.2 t (by omega) ht
        have hct := sub_leN hok.2.1
        have han := andNot_eq (a := t) (b := c) (by omega) (by omega)
        have hllt := less_lt hok.1 hok.2.1
        have hpl6 : pre.length ≤ 6 := by have := fw_le6 (t := 2 ^ o.length - 1) ho (by omega); omega
        refine Yc fun N22 hN22 => ?_
        simp (maxSteps := 2000000) only [s57, ↓Za, ↓Zl, ↓Zr, ↓Ze, ↓Zo, ↓Zs, ↓Zg, ↓Zj, ↓Zf, ↓Zc, ↓Zb, ↓vdn, vup, Zn, Zm, Zi, Zh, Zk, List.map_cons, List.map_nil, cond_true, cond_false, aop, Zv, Zq, Zp, ev, sput, Zt, Zx, Zz, unK, Zd, Zw, Nat.reduceBEq, Nat.reduceAdd, Int.reduceBEq, Int.reduceBNe, Int.reduceLT, Zu, Zy, tup, tyf, hz]
        refine hN22 [(2, .slice none 0 0), (3, .int .i64 0), (4, .pointer (some ⟨gl, 0, none⟩)), (6, r), (7, .slice (some ⟨n1, 0, none⟩) N N), (8, .slice (some ⟨n1 + 1, 0, none⟩) N N), (12, w), (13, Yb (t : Nat)), (86, .bool true)] _ _ ?_ (by simp (maxSteps := 2000000) only [↓Za, ↓Zl, ↓Zr, ↓Ze, ↓Zo, ↓Zs, ↓Zg, ↓Zj, ↓Zf, ↓Zc, ↓Zb, ↓vdn, vup, Zn, Zm, Zi, Zh, Zk, List.map_cons, List.map_nil, cond_true, cond_false, aop, Zv, Zq, Zp, ev, sput, Zt, Zx, Zz, unK, Zd, Zw, Nat.reduceBEq, Nat.reduceAdd, Int.reduceBEq, Int.reduceBNe, Int.reduceLT, Zu, Zy, tup, tyf])
        clear hN22
        try clear N22
        refine Wb rfl ?_
        refine Yf ?_
        simp (maxSteps := 2000000) only [s57, ↓Za, ↓Zl, ↓Zr, ↓Ze, ↓Zo, ↓Zs, ↓Zg, ↓Zj, ↓Zf, ↓Zc, ↓Zb, ↓vdn, vup, Zn, Zm, Zi, Zh, Zk, List.map_cons, List.map_nil, cond_true, cond_false, aop, Zv, Zq, Zp, ev, sput, Zt, Zx, Zz, unK, Zd, Zw, Nat.reduceBEq, Nat.reduceAdd, Int.reduceBEq, Int.reduceBNe, Int.reduceLT, Zu, Zy, tup, tyf]
        refine hC [(2, .slice none 0 0), (3, .int .i64 0), (4, .pointer (some ⟨gl, 0, none⟩)), (6, r), (7, .slice (some ⟨n1, 0, none⟩) N N), (8, .slice (some ⟨n1 + 1, 0, none⟩) N N), (12, w), (13, Yb (t : Nat))] _ _ ?_ (by simp (maxSteps := 2000000) only [↓Za, ↓Zl, ↓Zr, ↓Ze, ↓Zo, ↓Zs, ↓Zg, ↓Zj, ↓Zf, ↓Zc, ↓Zb, ↓vdn, vup, Zn, Zm, Zi, Zh, Zk, List.map_cons, List.map_nil, cond_true, cond_false, aop, Zv, Zq, Zp, ev, sput, Zt, Zx, Zz, unK, Zd, Zw, Nat.reduceBEq, Nat.reduceAdd, Int.reduceBEq, Int.reduceBNe, Int.reduceLT, Zu, Zy, tup, tyf])
        clear hC
        try clear C
        refine Yk fun B hB => ?_
        refine Yl ?_
        refine Yf ?_
        simp (maxSteps := 2000000) only [s57, ↓Za, ↓Zl, ↓Zr, ↓Ze, ↓Zo, ↓Zs, ↓Zg, ↓Zj, ↓Zf, ↓Zc, ↓Zb, ↓vdn, vup, Zn, Zm, Zi, Zh, Zk, List.map_cons, List.map_nil, cond_true, cond_false, aop, Zv, Zq, Zp, ev, sput, Zt, Zx, Zz, unK, Zd, Zw, Nat.reduceBEq, Nat.reduceAdd, Int.reduceBEq, Int.reduceBNe, Int.reduceLT, Zu, Zy, tup, tyf, idxS Xm Xh (show t < N by omega), loadX hF8 Yp (show t < F.length by omega), hc, litI1]
        refine OwnSl.append (x := (c : Int)) (how.ext (S := fun _ => False) (Ext.app _ _ _) (fun _ _ => id)) app_22_22 (by rw [Wy]; omega) (Xc _ _) ?_
        intro w' G2 ho' hE' hb'
        rw [iL_snoc] at ho'
        have hE2 : Ext (fun _ => False) (X T F) G2 := ext_app hEH (H' := H ++ [Blk.ints [(c : Int)] 3 false]) (by simp) (fun q hq => List.getElem?_append_left (by have := hEH.1; omega)) (fun b hb => by have := hbw b hb; rw [xl]; exact this) hE'
        have hbw' : ∀ b, Xa w' = some b → n1 + 2 ≤ b := fun b hb => by
          rcases hb' with h1 | ⟨b', h1, h2⟩
          · exact hbw b (h1 ▸ hb)
          · rw [h1] at hb; cases hb
            rw [List.length_append] at h2
            have := hEH.1; rw [xl] at this; omega
        have hF9 : G2[n1 + 1]? = some (.ints F 3 false) := (hE2.2 _ (Xd (xF T F)) id).trans (xF T F)
        refine hB [(2, .slice none 0 0), (3, .int .i64 0), (4, .pointer (some ⟨gl, 0, none⟩)), (6, r), (7, .slice (some ⟨n1, 0, none⟩) N N), (8, .slice (some ⟨n1 + 1, 0, none⟩) N N), (12, w'), (13, Yb (t : Nat))] _ _ ?_ (by simp (maxSteps := 2000000) only [↓Za, ↓Zl, ↓Zr, ↓Ze, ↓Zo, ↓Zs, ↓Zg, ↓Zj, ↓Zf, ↓Zc, ↓Zb, ↓vdn, vup, Zn, Zm, Zi, Zh, Zk, List.map_cons, List.map_nil, cond_true, cond_false, aop, Zv, Zq, Zp, ev, sput, Zt, Zx, Zz, unK, Zd, Zw, Nat.reduceBEq, Nat.reduceAdd, Int.reduceBEq, Int.reduceBNe, Int.reduceLT, Zu, Zy, tup, tyf])
        clear hB
        try clear B
        refine Yf ?_
        simp (maxSteps := 2000000) only [s57, ↓Za, ↓Zl, ↓Zr, ↓Ze, ↓Zo, ↓Zs, ↓Zg, ↓Zj, ↓Zf, ↓Zc, ↓Zb, ↓vdn, vup, Zn, Zm, Zi, Zh, Zk, List.map_cons, List.map_nil, cond_true, cond_false, aop, Zv, Zq, Zp, ev, sput, Zt, Zx, Zz, unK, Zd, Zw, Nat.reduceBEq, Nat.reduceAdd, Int.reduceBEq, Int.reduceBNe, Int.reduceLT, Zu, Zy, tup, tyf, idxS Xm Xh (show t < N by omega), loadX hF9 Yp (show t < F.length by omega), hc, han]
        refine hQ2 _ _ _ ⟨(Xk t c, pre ++ [c], w', G2), ⟨by simp only; omega, ho', hE2, hbw', part_app hpart hok, ?_, fun d hd => ?_⟩, hllt, by simp (maxSteps := 2000000) only [↓Za, ↓Zl, ↓Zr, ↓Ze, ↓Zo, ↓Zs, ↓Zg, ↓Zj, ↓Zf, ↓Zc, ↓Zb, ↓vdn, vup, Zn, Zm, Zi, Zh, Zk, List.map_cons, List.map_nil, cond_true, cond_false, aop, Zv, Zq, Zp, ev, sput, Zt, Zx, Zz, unK, Zd, Zw, Nat.reduceBEq, Nat.reduceAdd, Int.reduceBEq, Int.reduceBNe, Int.reduceLT, Zu, Zy, tup, tyf], rfl⟩
        · simp only [List.length_append, List.length_singleton]; omega
        · simp only at hd
          rcases List.mem_append.1 hd with h1 | h1
          · exact hpreN d h1
          · rw [List.mem_singleton.1 h1]; omega
end Go.Proofs.Tryd.Am

namespace Go.Proofs.Tryd.Am
open Go.Am
set_option maxRecDepth 100000
/-! 34: slices.Equal[[]int,int] -/
@[reducible] def q34_0 : SCode := .region [⟨some 4, .assign (.const (.bool false)), none⟩]
@[reducible] def q34_1 : SCode := .region [⟨some 6, .move (.tmp 0), none⟩,
    ⟨some 7, .call { callee := .builtin .len, args := #[.tmp 6], argTypes := #[22] }, none⟩,
    ⟨some 8, .move (.tmp 1), none⟩,
    ⟨some 9, .call { callee := .builtin .len, args := #[.tmp 8], argTypes := #[22] }, none⟩,
    ⟨some 10, .binOp .neq 3 (.tmp 7) (.tmp 9) 3, none⟩]
@[reducible] def q34_2 : SCode := .region [⟨some 4, .assign (.const (.bool false)), none⟩]
@[reducible] def q34_3 : SCode := .region [⟨some 11, .move (.tmp 0), none⟩,
    ⟨some 12, .call { callee := .builtin .len, args := #[.tmp 11], argTypes := #[22] }, none⟩,
    ⟨some 13, .move (.const (.int .i64 0)), none⟩]
@[reducible] def q34_4 : SCode := .region [⟨some 14, .binOp .lss 3 (.tmp 13) (.tmp 12) 3, none⟩]
@[reducible] def q34_5 : SCode := .region [⟨some 15, .move (.tmp 13), none⟩,
    ⟨some 5, .assign (.tmp 15), none⟩]
def q34_6 : SCode := .draw [⟨some 16, .move (.tmp 0), none⟩,
    ⟨some 17, .move (.tmp 5), none⟩,
    ⟨some 18, .indexAddr 22 (.tmp 16) (.tmp 17), none⟩,
    ⟨some 19, .load 3 (.tmp 18), none⟩,
    ⟨some 20, .move (.tmp 1), none⟩,
    ⟨some 21, .move (.tmp 5), none⟩,
    ⟨some 22, .indexAddr 22 (.tmp 20) (.tmp 21), none⟩,
    ⟨some 23, .load 3 (.tmp 22), none⟩,
    ⟨some 24, .binOp .neq 3 (.tmp 19) (.tmp 23) 3, none⟩]
   [[], [], [0, 1], [2], [], [], [4, 5], [6], [3, 7]]
@[reducible] def q34_7 : SCode := .region [⟨some 4, .assign (.const (.bool false)), none⟩]
@[reducible] def q34_8 : SCode := .region [⟨some 25, .binOp .add 3 (.tmp 13) (.const (.int .i64 1)) 3, none⟩,
    ⟨some 13, .move (.tmp 25), none⟩]
def l34_0 : SCode := (.seq q34_4 (.seq (.cond (.tmp 14) .skip (.exit 0)) (.seq (.block 1 (.seq q34_5 (.seq q34_6 (.cond (.tmp 24) (.seq q34_7 .ret) .skip)))) q34_8)))
@[reducible] def q34_9 : SCode := .region [⟨some 4, .assign (.const (.bool true)), none⟩]
def s34 : SCode := (.seq q34_0 (.seq (.seq q34_1 (.cond (.tmp 10) (.seq q34_2 .ret) .skip)) (.seq (.seq q34_3 (.block 0 (.loop l34_0))) (.seq q34_9 .ret))))
theorem s34_strip : Ye (Yd Tryd.f34) = s34 := by kernel_rfl
theorem s34_ok : Ym 26 (Yd Tryd.f34) = true := by kernel_rfl
theorem s34_call [Tabs Tryd.prog] {args : List Value} {h : Ya} {Q : Value → Ya → Prop} (hsz : args.length ≤ 26) (hk : aw Tryd.prog 26 s34 (Zu Tryd.prog [.tmp 4] Q) (Zp 0 args) h) : ACall Tryd.prog 34 args h Q :=
  Xn Tryd.func34 rfl (enters_of Tryd.func34 (by kernel_rfl) rfl) rfl rfl (by decide) s34_strip s34_ok hsz hk

end Go.Proofs.Tryd.Am

namespace Go.Proofs.Tryd.Am
open Go.Am Ord
set_option maxRecDepth 100000
set_option maxHeartbeats 1000000

section
variable {h : Ya} {b : Nat} {e : TypeId} {ro : Bool} {x y : Int} {K : Value → Prop}
end

end Go.Proofs.Tryd.Am

namespace Go.Proofs.Tryd.Am
open Go.Am Ord
set_option maxRecDepth 100000
set_option maxHeartbeats 1000000

end Go.Proofs.Tryd.Am

namespace Go.Proofs.Tryd.Am
open Go.Am Ord
set_option maxRecDepth 100000
set_option maxHeartbeats 1000000

end Go.Proofs.Tryd.Am

namespace Go.Proofs.Tryd.Am
open Go.Am Ord
set_option maxRecDepth 100000
set_option maxHeartbeats 1000000

end Go.Proofs.Tryd.Am

namespace Go.Proofs.Tryd.Am
open Go.Am Ord
set_option maxRecDepth 100000
set_option maxHeartbeats 1000000

theorem equal_call [Tabs prog] {h : Ya} {v w : Value} {xs ys : List Int} (hv : IntSl h v xs) (hw : IntSl h w ys) (hl : xs.length < 9223372036854775808) (hl2 : ys.length < 9223372036854775808) :
    Wo prog 34 [v, w] h (.bool (decide (xs = ys))) := by
  refine s34_call (by simp) ?_
  by_cases hlen : xs.length = ys.length
  · have hne : ((xs.length : Int) != ys.length) = false := by simp [hlen]
    simp (maxSteps := 2000000) only [s34, ↓Za, ↓Zl, ↓Zr, ↓Ze, ↓Zo, ↓Zs, ↓Zg, ↓Zj, ↓Zf, ↓Zc, ↓Zb, ↓vdn, vup, Zn, Zm, Zi, Zh, Zk, List.map_cons, List.map_nil, cond_true, cond_false, aop, Zv, Zq, Zp, ev, sput, Zt, Zx, Zz, unK, Zd, Zw, Nat.reduceBEq, Nat.reduceAdd, Int.reduceBEq, Int.reduceBNe, Int.reduceLT, Zu, Zy, tup, tyf, hv.len, hw.len, hne, ↓Wz]
    refine Yj fun Q hQ => ?_
    refine aw_loop (γ := Nat) (fun i => i ≤ xs.length ∧ ∀ k, k < i → xs.getD k 0 = ys.getD k 0)
      (fun i => ([(0, v), (1, w), (12, Yb xs.length), (13, Yb i)], h)) (fun i => xs.length - i) 0 ⟨by omega, fun _ hk => by omega⟩ (by simp (maxSteps := 2000000) only [↓Za, ↓Zl, ↓Zr, ↓Ze, ↓Zo, ↓Zs, ↓Zg, ↓Zj, ↓Zf, ↓Zc, ↓Zb, ↓vdn, vup, Zn, Zm, Zi, Zh, Zk, List.map_cons, List.map_nil, cond_true, cond_false, aop, Zv, Zq, Zp, ev, sput, Zt, Zx, Zz, unK, Zd, Zw, Nat.reduceBEq, Nat.reduceAdd, Int.reduceBEq, Int.reduceBNe, Int.reduceLT, Zu, Zy, tup, tyf, Int.natCast_zero]) rfl ?_
    rintro i ⟨hi, hok⟩
    refine aw_hide fun Q2 hQ2 => ?_
    by_cases hin : (i : Int) < xs.length
    · have h1 : i < xs.length := by omega
      have h2 : i < ys.length := by omega
      simp (maxSteps := 2000000) only [s34, ↓Za, ↓Zl, ↓Zr, ↓Ze, ↓Zo, ↓Zs, ↓Zg, ↓Zj, ↓Zf, ↓Zc, ↓Zb, ↓vdn, vup, Zn, Zm, Zi, Zh, Zk, List.map_cons, List.map_nil, cond_true, cond_false, aop, Zv, Zq, Zp, ev, sput, Zt, Zx, Zz, unK, Zd, Zw, Nat.reduceBEq, Nat.reduceAdd, Int.reduceBEq, Int.reduceBNe, Int.reduceLT, Zu, Zy, tup, tyf, l34_0, hin]
      refine aw_draw [] (by kernel_rfl) (by kernel_rfl) (by kernel_rfl) ?_
      by_cases heq : xs.getD i 0 = ys.getD i 0
      · have hb : (xs.getD i 0 != ys.getD i 0) = false := by rw [heq]; exact bne_self_eq_false _
        simp (maxSteps := 2000000) only [s34, ↓Za, ↓Zl, ↓Zr, ↓Ze, ↓Zo, ↓Zs, ↓Zg, ↓Zj, ↓Zf, ↓Zc, ↓Zb, ↓vdn, vup, Zn, Zm, Zi, Zh, Zk, List.map_cons, List.map_nil, cond_true, cond_false, aop, Zv, Zq, Zp, ev, sput, Zt, Zx, Zz, unK, Zd, Zw, Nat.reduceBEq, Nat.reduceAdd, Int.reduceBEq, Int.reduceBNe, Int.reduceLT, Zu, Zy, tup, tyf, hv.idx Xm Xh h1, hv.load Yp h1, hw.idx Xm Xh h2, hw.load Yp h2, hb, add1 (show i < 9223372036854775807 by omega)]
        refine hQ2 _ _ _ ⟨i + 1, ⟨by omega, fun k hk => ?_⟩, by omega, by simp (maxSteps := 2000000) only [↓Za, ↓Zl, ↓Zr, ↓Ze, ↓Zo, ↓Zs, ↓Zg, ↓Zj, ↓Zf, ↓Zc, ↓Zb, ↓vdn, vup, Zn, Zm, Zi, Zh, Zk, List.map_cons, List.map_nil, cond_true, cond_false, aop, Zv, Zq, Zp, ev, sput, Zt, Zx, Zz, unK, Zd, Zw, Nat.reduceBEq, Nat.reduceAdd, Int.reduceBEq, Int.reduceBNe, Int.reduceLT, Zu, Zy, tup, tyf], rfl⟩
        by_cases hki : k = i
        · subst hki; exact heq
        · exact hok k (by omega)
      · have hb : (xs.getD i 0 != ys.getD i 0) = true := by simp only [bne_iff_ne, ne_eq]; exact heq
        simp (maxSteps := 2000000) only [s34, ↓Za, ↓Zl, ↓Zr, ↓Ze, ↓Zo, ↓Zs, ↓Zg, ↓Zj, ↓Zf, ↓Zc, ↓Zb, ↓vdn, vup, Zn, Zm, Zi, Zh, Zk, List.map_cons, List.map_nil, cond_true, cond_false, aop, Zv, Zq, Zp, ev, sput, Zt, Zx, Zz, unK, Zd, Zw, Nat.reduceBEq, Nat.reduceAdd, Int.reduceBEq, Int.reduceBNe, Int.reduceLT, Zu, Zy, tup, tyf, hv.idx Xm Xh h1, hv.load Yp h1, hw.idx Xm Xh h2, hw.load Yp h2, hb]
        refine hQ2 _ _ _ (hQ _ _ _ ?_)
        have hne : decide (xs = ys) = false := decide_eq_false (fun he => heq (by rw [he]))
        simp (maxSteps := 2000000) only [↓Za, ↓Zl, ↓Zr, ↓Ze, ↓Zo, ↓Zs, ↓Zg, ↓Zj, ↓Zf, ↓Zc, ↓Zb, ↓vdn, vup, Zn, Zm, Zi, Zh, Zk, List.map_cons, List.map_nil, cond_true, cond_false, aop, Zv, Zq, Zp, ev, sput, Zt, Zx, Zz, unK, Zd, Zw, Nat.reduceBEq, Nat.reduceAdd, Int.reduceBEq, Int.reduceBNe, Int.reduceLT, Zu, Zy, tup, tyf, hne]
    · obtain rfl : i = xs.length := by omega
      simp (maxSteps := 2000000) only [s34, ↓Za, ↓Zl, ↓Zr, ↓Ze, ↓Zo, ↓Zs, ↓Zg, ↓Zj, ↓Zf, ↓Zc, ↓Zb, ↓vdn, vup, Zn, Zm, Zi, Zh, Zk, List.map_cons, List.map_nil, cond_true, cond_false, aop, Zv, Zq, Zp, ev, sput, Zt, Zx, Zz, unK, Zd, Zw, Nat.reduceBEq, Nat.reduceAdd, Int.reduceBEq, Int.reduceBNe, Int.reduceLT, Zu, Zy, tup, tyf, l34_0, Int.lt_irrefl]
      refine hQ2 _ _ _ (hQ _ _ _ ?_)
      have he : decide (xs = ys) = true := decide_eq_true (List.ext_getElem hlen fun k h1 h2 => by
        have := hok k h1
        simpa [List.getD, List.getElem?_eq_getElem h1, List.getElem?_eq_getElem h2] using this)
      simp (maxSteps := 2000000) only [s34, ↓Za, ↓Zl, ↓Zr, ↓Ze, ↓Zo, ↓Zs, ↓Zg, ↓Zj, ↓Zf, ↓Zc, ↓Zb, ↓vdn, vup, Zn, Zm, Zi, Zh, Zk, List.map_cons, List.map_nil, cond_true, cond_false, aop, Zv, Zq, Zp, ev, sput, Zt, Zx, Zz, unK, Zd, Zw, Nat.reduceBEq, Nat.reduceAdd, Int.reduceBEq, Int.reduceBNe, Int.reduceLT, Zu, Zy, tup, tyf, if_true, he]
  · have hne : ((xs.length : Int) != ys.length) = true := by simp only [bne_iff_ne, ne_eq]; omega
    have hf : decide (xs = ys) = false := decide_eq_false (fun he => hlen (by rw [he]))
    simp (maxSteps := 2000000) only [s34, ↓Za, ↓Zl, ↓Zr, ↓Ze, ↓Zo, ↓Zs, ↓Zg, ↓Zj, ↓Zf, ↓Zc, ↓Zb, ↓vdn, vup, Zn, Zm, Zi, Zh, Zk, List.map_cons, List.map_nil, cond_true, cond_false, aop, Zv, Zq, Zp, ev, sput, Zt, Zx, Zz, unK, Zd, Zw, Nat.reduceBEq, Nat.reduceAdd, Int.reduceBEq, Int.reduceBNe, Int.reduceLT, Zu, Zy, tup, tyf, hv.len, hw.len, hne, hf]

theorem AddR.ext {o : List Int} {i j : Int} {s : Value} {e : Int} {h h' : Ya} (ha : AddR o i j s e h) (hE : Ext (fun _ => False) h h') : AddR o i j s e h' := by
  by_cases h1 : ord o = true ∧ elI o i = true ∧ elI o j = true
  · rw [AddR, if_pos h1] at ha ⊢
    by_cases h2 : fr o i.toNat j.toNat = true
    · rw [if_pos h2] at ha ⊢; exact ⟨ha.1, Xg ha.2 hE⟩
    · rw [if_neg h2] at ha ⊢; exact ha
  · rw [AddR, if_neg h1] at ha ⊢; exact ha

end Go.Proofs.Tryd.Am

namespace Go.Proofs.Tryd.Am
open Go.Am Ord
set_option maxRecDepth 100000
set_option maxHeartbeats 4000000

structure PartF (o : List Int) (s : Nat) (cs : List Nat) : Prop where
  el : ∀ c ∈ cs, c ≠ 0 ∧ Xk c s = 0 ∧ uni o c false = true
  pw : cs.Pairwise fun a b => a &&& b = 0
  un : ∀ k, s.testBit k = true ↔ ∃ c ∈ cs, c.testBit k = true
theorem part_facts {o : List Int} : ∀ {cs : List Nat} {s : Nat}, Part o s cs → PartF o s cs
  | [], s, h => by
    obtain rfl : s = 0 := h
    exact ⟨fun c hc => (by cases hc), .nil, fun k => by simp⟩
  | c :: cs, s, ⟨c0, c1, c2, p⟩ => by
    have ih := part_facts p
    have hb : ∀ k, (Xk s c).testBit k = true ↔ s.testBit k = true ∧ c.testBit k = false := fun k => by
      rw [less_bit', Bool.and_eq_true, Bool.not_eq_true']
    refine ⟨fun d hd => ?_, List.pairwise_cons.2 ⟨fun d hd => and_zero.2 fun k hk => ?_, ih.pw⟩, fun k => ?_⟩
    · rcases List.mem_cons.1 hd with rfl | hd
      · exact ⟨c0, c1, c2⟩
      · obtain ⟨d0, d1, d2⟩ := ih.el d hd
        exact ⟨d0, Wj.2 fun k hk => ((hb k).1 (Wj.1 d1 k hk)).1, d2⟩
    · cases hdk : d.testBit k with
      | false => rfl
      | true =>
        have := ((hb k).1 (Wj.1 (ih.el d hd).2.1 k hdk)).2
        rw [hk] at this; cases this
    · constructor
      · intro hk
        cases hc : c.testBit k with
        | true => exact ⟨c, by simp, hc⟩
        | false =>
          obtain ⟨d, hd, hdk⟩ := (ih.un k).1 ((hb k).2 ⟨hk, hc⟩)
          exact ⟨d, by simp [hd], hdk⟩
      · rintro ⟨d, hd, hdk⟩
        rcases List.mem_cons.1 hd with rfl | hd
        · exact Wj.1 c1 k hdk
        · exact ((hb k).1 ((ih.un k).2 ⟨d, hd, hdk⟩)).1
theorem PartF.perm {o : List Int} {s : Nat} {cs L : List Nat} (h : PartF o s cs) (hp : L.Perm cs) : PartF o s L :=
  ⟨fun c hc => h.el c (hp.mem_iff.1 hc), (hp.pairwise_iff fun {a b} hab => by rw [Nat.and_comm]; exact hab).2 h.pw, fun k => by rw [h.un k]; exact ⟨fun ⟨c, hc, hk⟩ => ⟨c, hp.mem_iff.2 hc, hk⟩, fun ⟨c, hc, hk⟩ => ⟨c, hp.mem_iff.1 hc, hk⟩⟩⟩
/-- What was met among the first i. -/
def metL (L : List Nat) (i : Nat) : Nat := (L.take i).foldl (fun r c => r ||| c) 0
theorem metL_bit {L : List Nat} {i k : Nat} : (metL L i).testBit k = (L.take i).any fun c => c.testBit k := by
  rw [metL]
  have := foldl_or_bit (f := id) (w := k) (L.take i) 0
  simpa using this
theorem metL_succ {L : List Nat} {i : Nat} (hi : i < L.length) : metL L (i + 1) = metL L i ||| L.getD i 0 := by
  rw [metL, List.take_succ, List.getElem?_eq_getElem hi, Option.toList_some, List.foldl_append, List.getD, List.getElem?_eq_getElem hi]; rfl
theorem metL_lt {o : List Int} {L : List Nat} {N : Nat} (h : ∀ c ∈ L, c < 2 ^ N) (i : Nat) : metL L i < 2 ^ N := lt_of_bits fun j hj => by
  rw [metL_bit, List.any_eq_false]
  intro c hc
  rw [Nat.testBit_lt_two_pow (Nat.lt_of_lt_of_le (h c (List.mem_of_mem_take hc)) (Nat.pow_le_pow_right (by decide) hj))]; decide
theorem getD_get {L : List Nat} {i : Nat} (hi : i < L.length) : L.getD i 0 = L[i] := by rw [List.getD, List.getElem?_eq_getElem hi]; rfl
theorem PartF.met {o : List Int} {s : Nat} {L : List Nat} (h : PartF o s L) {i : Nat} (hi : i < L.length) : L.getD i 0 &&& metL L i = 0 := and_zero.2 fun k hk => by
  rw [metL_bit, List.any_eq_false]
  intro c hc hck
  obtain ⟨j, hj, he⟩ := List.mem_iff_getElem.1 hc
  rw [List.length_take] at hj
  rw [List.getElem_take] at he
  have := List.pairwise_iff_getElem.1 h.pw j i (by omega) hi (by omega)
  rw [he, ← getD_get hi] at this
  have := and_zero.1 this k hck
  rw [hk] at this; cases this
theorem PartF.all {o : List Int} {s : Nat} {L : List Nat} (h : PartF o s L) : metL L L.length = s := Nat.eq_of_testBit_eq fun k => by
  rw [metL_bit, List.take_length, Bool.eq_iff_iff, List.any_eq_true, h.un k]
theorem PartF.lt {o : List Int} {s : Nat} {L : List Nat} (h : PartF o s L) (hs : L.Pairwise fun a b => a ≤ b) {i : Nat} (hi : i + 1 < L.length) : L.getD i 0 < L.getD (i + 1) 0 := by
  have h1 := List.pairwise_iff_getElem.1 h.pw i (i + 1) (by omega) hi (by omega)
  have h2 := List.pairwise_iff_getElem.1 hs i (i + 1) (by omega) hi (by omega)
  rw [getD_get hi, getD_get (show i < L.length by omega)]
  refine Nat.lt_of_le_of_ne h2 fun he => ?_
  rw [he, Nat.and_self] at h1
  exact (h.el _ (List.getElem_mem hi)).1 h1
theorem and_comm_eq {a b : Nat} (ha : a < 64) (hb : b < 64) : Wi .and .i64 ((a : Nat) : Int) ((b : Nat) : Int) = ((a &&& b : Nat) : Int) := bitsV_and (by omega) (by omega)

theorem setsIs_take {o : List Int} {L : List Int → List Nat} {h : Ya} {x : Value} {e : Int} (hs : SetsIs (o.take 9) (L (o.take 9)) h x e) : SetsIs o (L o) h x e := by
  by_cases ho : ord o = true
  · rwa [ord_take_eq ho] at hs
  · rw [SetsIs, ord_take, if_neg ho] at hs
    rw [SetsIs, if_neg ho]; exact hs
theorem chainsIs_take {o : List Int} {h : Ya} {x : Value} {e : Int} (hs : ChainsIs (o.take 9) h x e) : ChainsIs o h x e := by
  by_cases ho : ord o = true
  · rwa [ord_take_eq ho] at hs
  · rw [ChainsIs, ord_take, if_neg ho] at hs
    rw [ChainsIs, if_neg ho]; exact hs
theorem antiV_take {o : List Int} : antiV (o.take 9) = antiV o := by
  by_cases ho : ord o = true
  · rw [ord_take_eq ho]
  · rw [antiV, antiV, ord_take, if_neg ho, if_neg ho]

theorem s16_callW [Tabs Tryd.prog] {args : List Value} {h : Ya} {Q : Value → Ya → Prop} (hsz : args.length ≤ 142) (hk : AWS Tryd.prog 142 s16 (Zu Tryd.prog [.tmp 2] Q) (Zp 0 args) h) : ACall Tryd.prog 16 args h Q :=
  Xu Tryd.func16 rfl (enters_of Tryd.func16 (by kernel_rfl) rfl) rfl rfl (by decide) s16_strip s16_ok hsz hk
theorem law_chains [BitTab prog 1] {h : Ya} {v : Value} {o : List Int} (hv : IntSl h v o) (hl : o.length < 9223372036854775808) (hx : ∀ x ∈ o, -9223372036854775808 ≤ x ∧ x < 9223372036854775808) :
    ACall prog 16 [v] h fun r _ => r = .bool true := by
  have hx9 : ∀ x ∈ o.take 9, -9223372036854775808 ≤ x ∧ x < 9223372036854775808 := fun x hm => hx x (List.take_subset _ _ hm)
  have hl9 : (o.take 9).length < 9223372036854775808 := by simp; omega
  refine s16_callW (by simp) ?_
  simp only [s16]
  refine Yc fun N1 hN1 => ?_
  simp (maxSteps := 2000000) only [s16, ↓Za, ↓Zl, ↓Zr, ↓Ze, ↓Zo, ↓Zs, ↓Zg, ↓Zj, ↓Zf, ↓Zc, ↓Zb, ↓vdn, vup, Zn, Zm, Zi, Zh, Zk, List.map_cons, List.map_nil, cond_true, cond_false, aop, Zv, Zq, Zp, ev, sput, Zt, Zx, Zz, unK, Zd, Zw, Nat.reduceBEq, Nat.reduceAdd, Int.reduceBEq, Int.reduceBNe, Int.reduceLT, Zu, Zy, tup, tyf]
  refine hN1 [(0, v), (2, .bool false)] _ _ ?_ (by simp (maxSteps := 2000000) only [↓Za, ↓Zl, ↓Zr, ↓Ze, ↓Zo, ↓Zs, ↓Zg, ↓Zj, ↓Zf, ↓Zc, ↓Zb, ↓vdn, vup, Zn, Zm, Zi, Zh, Zk, List.map_cons, List.map_nil, cond_true, cond_false, aop, Zv, Zq, Zp, ev, sput, Zt, Zx, Zz, unK, Zd, Zw, Nat.reduceBEq, Nat.reduceAdd, Int.reduceBEq, Int.reduceBNe, Int.reduceLT, Zu, Zy, tup, tyf])
  clear hN1
  try clear N1
  refine Yc fun N2 hN2 => ?_
  simp (maxSteps := 2000000) only [s16, ↓Za, ↓Zl, ↓Zr, ↓Ze, ↓Zo, ↓Zs, ↓Zg, ↓Zj, ↓Zf, ↓Zc, ↓Zb, ↓vdn, vup, Zn, Zm, Zi, Zh, Zk, List.map_cons, List.map_nil, cond_true, cond_false, aop, Zv, Zq, Zp, ev, sput, Zt, Zx, Zz, unK, Zd, Zw, Nat.reduceBEq, Nat.reduceAdd, Int.reduceBEq, Int.reduceBNe, Int.reduceLT, Zu, Zy, tup, tyf, Yt, List.nil_append, List.append_nil, List.toList_toArray, List.cons_append]
  refine (list_call hv hl).mono ?_
  rintro l1 _ ⟨hl1, g1, rfl⟩
  refine (ideals_call hl1 hl9 hx9).mono ?_
  rintro _ h1 ⟨hE1, x1, e1, rfl, hi1⟩
  replace hi1 := setsIs_take (L := fun o => setsL o (idl o)) hi1
  have hv1 := Xg (hv.grow g1) hE1
  simp (maxSteps := 2000000) only [s16, ↓Za, ↓Zl, ↓Zr, ↓Ze, ↓Zo, ↓Zs, ↓Zg, ↓Zj, ↓Zf, ↓Zc, ↓Zb, ↓vdn, vup, Zn, Zm, Zi, Zh, Zk, List.map_cons, List.map_nil, cond_true, cond_false, aop, Zv, Zq, Zp, ev, sput, Zt, Zx, Zz, unK, Zd, Zw, Nat.reduceBEq, Nat.reduceAdd, Int.reduceBEq, Int.reduceBNe, Int.reduceLT, Zu, Zy, tup, tyf]
  refine hN2 [(0, v), (2, .bool false), (3, x1), (4, .int .i64 e1)] _ _ ?_ (by simp (maxSteps := 2000000) only [↓Za, ↓Zl, ↓Zr, ↓Ze, ↓Zo, ↓Zs, ↓Zg, ↓Zj, ↓Zf, ↓Zc, ↓Zb, ↓vdn, vup, Zn, Zm, Zi, Zh, Zk, List.map_cons, List.map_nil, cond_true, cond_false, aop, Zv, Zq, Zp, ev, sput, Zt, Zx, Zz, unK, Zd, Zw, Nat.reduceBEq, Nat.reduceAdd, Int.reduceBEq, Int.reduceBNe, Int.reduceLT, Zu, Zy, tup, tyf])
  clear hN2
  try clear N2
  refine Yc fun N3 hN3 => ?_
  simp (maxSteps := 2000000) only [s16, ↓Za, ↓Zl, ↓Zr, ↓Ze, ↓Zo, ↓Zs, ↓Zg, ↓Zj, ↓Zf, ↓Zc, ↓Zb, ↓vdn, vup, Zn, Zm, Zi, Zh, Zk, List.map_cons, List.map_nil, cond_true, cond_false, aop, Zv, Zq, Zp, ev, sput, Zt, Zx, Zz, unK, Zd, Zw, Nat.reduceBEq, Nat.reduceAdd, Int.reduceBEq, Int.reduceBNe, Int.reduceLT, Zu, Zy, tup, tyf, Yt, List.nil_append, List.append_nil, List.toList_toArray, List.cons_append]
  refine (list_call hv1 hl).mono ?_
  rintro l2 _ ⟨hl2, g2, rfl⟩
  refine (chains_call hl2 hl9 hx9).mono ?_
  rintro _ h2 ⟨hE2, x2, e2, rfl, hi2⟩
  replace hi2 := chainsIs_take hi2
  have hv2 := Xg (hv1.grow g2) hE2
  have hE12 : Ext (fun _ => False) h1 h2 := (Ext.app _ _ g2).trans hE2
  simp (maxSteps := 2000000) only [s16, ↓Za, ↓Zl, ↓Zr, ↓Ze, ↓Zo, ↓Zs, ↓Zg, ↓Zj, ↓Zf, ↓Zc, ↓Zb, ↓vdn, vup, Zn, Zm, Zi, Zh, Zk, List.map_cons, List.map_nil, cond_true, cond_false, aop, Zv, Zq, Zp, ev, sput, Zt, Zx, Zz, unK, Zd, Zw, Nat.reduceBEq, Nat.reduceAdd, Int.reduceBEq, Int.reduceBNe, Int.reduceLT, Zu, Zy, tup, tyf]
  refine hN3 [(0, v), (2, .bool false), (3, x1), (4, .int .i64 e1), (5, x2), (6, .int .i64 e2)] _ _ ?_ (by simp (maxSteps := 2000000) only [↓Za, ↓Zl, ↓Zr, ↓Ze, ↓Zo, ↓Zs, ↓Zg, ↓Zj, ↓Zf, ↓Zc, ↓Zb, ↓vdn, vup, Zn, Zm, Zi, Zh, Zk, List.map_cons, List.map_nil, cond_true, cond_false, aop, Zv, Zq, Zp, ev, sput, Zt, Zx, Zz, unK, Zd, Zw, Nat.reduceBEq, Nat.reduceAdd, Int.reduceBEq, Int.reduceBNe, Int.reduceLT, Zu, Zy, tup, tyf])
  clear hN3
  try clear N3
  refine Yc fun N4 hN4 => ?_
  simp (maxSteps := 2000000) only [s16, ↓Za, ↓Zl, ↓Zr, ↓Ze, ↓Zo, ↓Zs, ↓Zg, ↓Zj, ↓Zf, ↓Zc, ↓Zb, ↓vdn, vup, Zn, Zm, Zi, Zh, Zk, List.map_cons, List.map_nil, cond_true, cond_false, aop, Zv, Zq, Zp, ev, sput, Zt, Zx, Zz, unK, Zd, Zw, Nat.reduceBEq, Nat.reduceAdd, Int.reduceBEq, Int.reduceBNe, Int.reduceLT, Zu, Zy, tup, tyf, Yt, List.nil_append, List.append_nil, List.toList_toArray, List.cons_append]
  refine (list_call hv2 hl).mono ?_
  rintro l3 _ ⟨hl3, g3, rfl⟩
  refine (anti_call hl3 hl9 hx9).mono ?_
  rintro _ _ ⟨rfl, rfl⟩
  rw [antiV_take]
  have hv3 := hv2.grow g3
  have hE23 : Ext (fun _ => False) h2 (h2 ++ g3) := Ext.app _ _ _
  obtain ⟨H, hH⟩ : ∃ H, H = h2 ++ g3 := ⟨_, rfl⟩
  rw [← hH] at hv3 hE23 ⊢
  have z00 : ((0 : Int) == 0) = true := rfl
  have n00 : ((0 : Int) != 0) = false := rfl
  have e22 : ((2 : Int) == 2) = true := rfl
  cases ho : ord o with
  | false =>
    rw [SetsIs, ho, if_neg (by decide)] at hi1
    rw [ChainsIs, ho, if_neg (by decide)] at hi2
    obtain ⟨rfl, rfl⟩ := hi1
    obtain ⟨rfl, rfl⟩ := hi2
    rw [antiV, ho, if_neg (by decide)]
    simp (maxSteps := 2000000) only [s16, ↓Za, ↓Zl, ↓Zr, ↓Ze, ↓Zo, ↓Zs, ↓Zg, ↓Zj, ↓Zf, ↓Zc, ↓Zb, ↓vdn, vup, Zn, Zm, Zi, Zh, Zk, List.map_cons, List.map_nil, cond_true, cond_false, aop, Zv, Zq, Zp, ev, sput, Zt, Zx, Zz, unK, Zd, Zw, Nat.reduceBEq, Nat.reduceAdd, Int.reduceBEq, Int.reduceBNe, Int.reduceLT, Zu, Zy, tup, tyf]
    refine hN4 [(0, v), (2, .bool false), (3, .slice none 0 0), (4, .int .i64 2), (5, .slice none 0 0), (6, .int .i64 2), (7, .int .i64 0), (8, .int .i64 2)] _ _ ?_ (by simp (maxSteps := 2000000) only [↓Za, ↓Zl, ↓Zr, ↓Ze, ↓Zo, ↓Zs, ↓Zg, ↓Zj, ↓Zf, ↓Zc, ↓Zb, ↓vdn, vup, Zn, Zm, Zi, Zh, Zk, List.map_cons, List.map_nil, cond_true, cond_false, aop, Zv, Zq, Zp, ev, sput, Zt, Zx, Zz, unK, Zd, Zw, Nat.reduceBEq, Nat.reduceAdd, Int.reduceBEq, Int.reduceBNe, Int.reduceLT, Zu, Zy, tup, tyf])
    clear hN4
    try clear N4
    refine Yk fun M hM => ?_
    refine Yc fun N5 hN5 => ?_
    simp (maxSteps := 2000000) only [s16, ↓Za, ↓Zl, ↓Zr, ↓Ze, ↓Zo, ↓Zs, ↓Zg, ↓Zj, ↓Zf, ↓Zc, ↓Zb, ↓vdn, vup, Zn, Zm, Zi, Zh, Zk, List.map_cons, List.map_nil, cond_true, cond_false, aop, Zv, Zq, Zp, ev, sput, Zt, Zx, Zz, unK, Zd, Zw, Nat.reduceBEq, Nat.reduceAdd, Int.reduceBEq, Int.reduceBNe, Int.reduceLT, Zu, Zy, tup, tyf, Yt, List.nil_append, List.append_nil, List.toList_toArray, List.cons_append]
    refine (rorder_call hv3 hl hx).mono ?_
    rintro _ H ⟨rfl, rfl⟩
    rw [ho]
    simp (maxSteps := 2000000) only [s16, ↓Za, ↓Zl, ↓Zr, ↓Ze, ↓Zo, ↓Zs, ↓Zg, ↓Zj, ↓Zf, ↓Zc, ↓Zb, ↓vdn, vup, Zn, Zm, Zi, Zh, Zk, List.map_cons, List.map_nil, cond_true, cond_false, aop, Zv, Zq, Zp, ev, sput, Zt, Zx, Zz, unK, Zd, Zw, Nat.reduceBEq, Nat.reduceAdd, Int.reduceBEq, Int.reduceBNe, Int.reduceLT, Zu, Zy, tup, tyf, Bool.not_false]
    refine hN5 [(0, v), (2, .bool false), (3, .slice none 0 0), (4, .int .i64 2), (5, .slice none 0 0), (6, .int .i64 2), (7, .int .i64 0), (8, .int .i64 2), (32, .bool true)] _ _ ?_ (by simp (maxSteps := 2000000) only [↓Za, ↓Zl, ↓Zr, ↓Ze, ↓Zo, ↓Zs, ↓Zg, ↓Zj, ↓Zf, ↓Zc, ↓Zb, ↓vdn, vup, Zn, Zm, Zi, Zh, Zk, List.map_cons, List.map_nil, cond_true, cond_false, aop, Zv, Zq, Zp, ev, sput, Zt, Zx, Zz, unK, Zd, Zw, Nat.reduceBEq, Nat.reduceAdd, Int.reduceBEq, Int.reduceBNe, Int.reduceLT, Zu, Zy, tup, tyf])
    clear hN5
    try clear N5
    refine Wb rfl ?_
    have a00 : addV .i64 ((0 : Nat) : Int) ((0 : Nat) : Int) = 0 := rfl
    refine Yc fun N6 hN6 => ?_
    simp only [q16_5]
    refine Wc 10 fun N1 hN1 => ?_
    simp (maxSteps := 2000000) only [s16, ↓Za, ↓Zl, ↓Zr, ↓Ze, ↓Zo, ↓Zs, ↓Zg, ↓Zj, ↓Zf, ↓Zc, ↓Zb, ↓vdn, vup, Zn, Zm, Zi, Zh, Zk, List.map_cons, List.map_nil, cond_true, cond_false, aop, Zv, Zq, Zp, ev, sput, Zt, Zx, Zz, unK, Zd, Zw, Nat.reduceBEq, Nat.reduceAdd, Int.reduceBEq, Int.reduceBNe, Int.reduceLT, Zu, Zy, tup, tyf, List.take_succ_cons, List.take_zero, lenK, a00, z00]
    refine hN1 _ _ ?_
    clear hN1 N1
    simp only [List.drop_succ_cons, List.drop_zero]
    refine Wc 8 fun N1 hN1 => ?_
    simp (maxSteps := 2000000) only [s16, ↓Za, ↓Zl, ↓Zr, ↓Ze, ↓Zo, ↓Zs, ↓Zg, ↓Zj, ↓Zf, ↓Zc, ↓Zb, ↓vdn, vup, Zn, Zm, Zi, Zh, Zk, List.map_cons, List.map_nil, cond_true, cond_false, aop, Zv, Zq, Zp, ev, sput, Zt, Zx, Zz, unK, Zd, Zw, Nat.reduceBEq, Nat.reduceAdd, Int.reduceBEq, Int.reduceBNe, Int.reduceLT, Zu, Zy, tup, tyf, List.take_succ_cons, List.take_zero, e22]
    refine hN1 _ _ ?_
    clear hN1 N1
    simp only [List.drop_succ_cons, List.drop_zero]
    refine Wc 4 fun N1 hN1 => ?_
    simp (maxSteps := 2000000) only [s16, ↓Za, ↓Zl, ↓Zr, ↓Ze, ↓Zo, ↓Zs, ↓Zg, ↓Zj, ↓Zf, ↓Zc, ↓Zb, ↓vdn, vup, Zn, Zm, Zi, Zh, Zk, List.map_cons, List.map_nil, cond_true, cond_false, aop, Zv, Zq, Zp, ev, sput, Zt, Zx, Zz, unK, Zd, Zw, Nat.reduceBEq, Nat.reduceAdd, Int.reduceBEq, Int.reduceBNe, Int.reduceLT, Zu, Zy, tup, tyf, List.take_succ_cons, List.take_zero, e22]
    refine hN1 _ _ ?_
    clear hN1 N1
    simp only [List.drop_succ_cons, List.drop_zero]
    simp (maxSteps := 2000000) only [s16, ↓Za, ↓Zl, ↓Zr, ↓Ze, ↓Zo, ↓Zs, ↓Zg, ↓Zj, ↓Zf, ↓Zc, ↓Zb, ↓vdn, vup, Zn, Zm, Zi, Zh, Zk, List.map_cons, List.map_nil, cond_true, cond_false, aop, Zv, Zq, Zp, ev, sput, Zt, Zx, Zz, unK, Zd, Zw, Nat.reduceBEq, Nat.reduceAdd, Int.reduceBEq, Int.reduceBNe, Int.reduceLT, Zu, Zy, tup, tyf, Yt, List.nil_append, List.append_nil, List.toList_toArray, List.cons_append]
    refine (awake_call).mono ?_
    rintro _ H ⟨rfl, rfl⟩
    refine hN6 [(0, v), (2, .bool true), (3, .slice none 0 0), (4, .int .i64 2), (5, .slice none 0 0), (6, .int .i64 2), (7, .int .i64 0), (8, .int .i64 2), (32, .bool true)] _ _ ?_ (by simp (maxSteps := 2000000) only [↓Za, ↓Zl, ↓Zr, ↓Ze, ↓Zo, ↓Zs, ↓Zg, ↓Zj, ↓Zf, ↓Zc, ↓Zb, ↓vdn, vup, Zn, Zm, Zi, Zh, Zk, List.map_cons, List.map_nil, cond_true, cond_false, aop, Zv, Zq, Zp, ev, sput, Zt, Zx, Zz, unK, Zd, Zw, Nat.reduceBEq, Nat.reduceAdd, Int.reduceBEq, Int.reduceBNe, Int.reduceLT, Zu, Zy, tup, tyf])
    clear hN6
    try clear N6
    refine Yf ?_
    simp (maxSteps := 2000000) only [s16, ↓Za, ↓Zl, ↓Zr, ↓Ze, ↓Zo, ↓Zs, ↓Zg, ↓Zj, ↓Zf, ↓Zc, ↓Zb, ↓vdn, vup, Zn, Zm, Zi, Zh, Zk, List.map_cons, List.map_nil, cond_true, cond_false, aop, Zv, Zq, Zp, ev, sput, Zt, Zx, Zz, unK, Zd, Zw, Nat.reduceBEq, Nat.reduceAdd, Int.reduceBEq, Int.reduceBNe, Int.reduceLT, Zu, Zy, tup, tyf]
  | true =>
    have hln := Yz ho
    have hp := pow6 hln.2
    have hsh : shlV .i64 1 ((o.length : Nat) : Int) = ((2 ^ o.length : Nat) : Int) := by rw [shl1 (by omega), Wu]
    rw [SetsIs, ho, if_pos rfl] at hi1
    rw [ChainsIs, ho, if_pos rfl] at hi2
    obtain ⟨rfl, hi1⟩ := hi1
    obtain ⟨rfl, L, cs, hpart, hcl, hLp, hLs, hi2⟩ := hi2
    rw [antiV, ho, if_pos rfl]
    have hPF := (part_facts hpart).perm hLp
    have hLl : L.length = fw o (2 ^ o.length - 1) := hLp.length_eq.trans hcl
    have hL6 : L.length ≤ 6 := by rw [hLl]; exact fw_le6 ho (by omega)
    have hcN : ∀ c ∈ L, c < 2 ^ o.length := fun c hc => by
      have := sub_leN (hPF.el c hc).2.1; omega
    have hw1 : IntSl H x1 (iL (setsL o (idl o))) := Xg hi1.int (hE12.trans hE23)
    have hw2 : IntSl H x2 (iL L) := Xg hi2.int hE23
    have hsl := filter_len (idl o) (2 ^ o.length)
    simp (maxSteps := 2000000) only [s16, ↓Za, ↓Zl, ↓Zr, ↓Ze, ↓Zo, ↓Zs, ↓Zg, ↓Zj, ↓Zf, ↓Zc, ↓Zb, ↓vdn, vup, Zn, Zm, Zi, Zh, Zk, List.map_cons, List.map_nil, cond_true, cond_false, aop, Zv, Zq, Zp, ev, sput, Zt, Zx, Zz, unK, Zd, Zw, Nat.reduceBEq, Nat.reduceAdd, Int.reduceBEq, Int.reduceBNe, Int.reduceLT, Zu, Zy, tup, tyf]
    refine hN4 [(0, v), (2, .bool false), (3, x1), (4, .int .i64 0), (5, x2), (6, .int .i64 0), (7, Yb (Wv o : Nat)), (8, .int .i64 0)] _ _ ?_ (by simp (maxSteps := 2000000) only [↓Za, ↓Zl, ↓Zr, ↓Ze, ↓Zo, ↓Zs, ↓Zg, ↓Zj, ↓Zf, ↓Zc, ↓Zb, ↓vdn, vup, Zn, Zm, Zi, Zh, Zk, List.map_cons, List.map_nil, cond_true, cond_false, aop, Zv, Zq, Zp, ev, sput, Zt, Zx, Zz, unK, Zd, Zw, Nat.reduceBEq, Nat.reduceAdd, Int.reduceBEq, Int.reduceBNe, Int.reduceLT, Zu, Zy, tup, tyf])
    clear hN4
    try clear N4
    refine Yk fun M hM => ?_
    refine Yc fun N7 hN7 => ?_
    simp (maxSteps := 2000000) only [s16, ↓Za, ↓Zl, ↓Zr, ↓Ze, ↓Zo, ↓Zs, ↓Zg, ↓Zj, ↓Zf, ↓Zc, ↓Zb, ↓vdn, vup, Zn, Zm, Zi, Zh, Zk, List.map_cons, List.map_nil, cond_true, cond_false, aop, Zv, Zq, Zp, ev, sput, Zt, Zx, Zz, unK, Zd, Zw, Nat.reduceBEq, Nat.reduceAdd, Int.reduceBEq, Int.reduceBNe, Int.reduceLT, Zu, Zy, tup, tyf, Yt, List.nil_append, List.append_nil, List.toList_toArray, List.cons_append]
    refine (rorder_call hv3 hl hx).mono ?_
    rintro _ H ⟨rfl, rfl⟩
    rw [ho]
    simp (maxSteps := 2000000) only [s16, ↓Za, ↓Zl, ↓Zr, ↓Ze, ↓Zo, ↓Zs, ↓Zg, ↓Zj, ↓Zf, ↓Zc, ↓Zb, ↓vdn, vup, Zn, Zm, Zi, Zh, Zk, List.map_cons, List.map_nil, cond_true, cond_false, aop, Zv, Zq, Zp, ev, sput, Zt, Zx, Zz, unK, Zd, Zw, Nat.reduceBEq, Nat.reduceAdd, Int.reduceBEq, Int.reduceBNe, Int.reduceLT, Zu, Zy, tup, tyf, Bool.not_true]
    refine hN7 [(0, v), (2, .bool false), (3, x1), (4, .int .i64 0), (5, x2), (6, .int .i64 0), (7, Yb (Wv o : Nat)), (8, .int .i64 0), (32, .bool false)] _ _ ?_ (by simp (maxSteps := 2000000) only [↓Za, ↓Zl, ↓Zr, ↓Ze, ↓Zo, ↓Zs, ↓Zg, ↓Zj, ↓Zf, ↓Zc, ↓Zb, ↓vdn, vup, Zn, Zm, Zi, Zh, Zk, List.map_cons, List.map_nil, cond_true, cond_false, aop, Zv, Zq, Zp, ev, sput, Zt, Zx, Zz, unK, Zd, Zw, Nat.reduceBEq, Nat.reduceAdd, Int.reduceBEq, Int.reduceBNe, Int.reduceLT, Zu, Zy, tup, tyf])
    clear hN7
    try clear N7
    refine Ys rfl ?_
    refine Yf ?_
    simp (maxSteps := 2000000) only [s16, ↓Za, ↓Zl, ↓Zr, ↓Ze, ↓Zo, ↓Zs, ↓Zg, ↓Zj, ↓Zf, ↓Zc, ↓Zb, ↓vdn, vup, Zn, Zm, Zi, Zh, Zk, List.map_cons, List.map_nil, cond_true, cond_false, aop, Zv, Zq, Zp, ev, sput, Zt, Zx, Zz, unK, Zd, Zw, Nat.reduceBEq, Nat.reduceAdd, Int.reduceBEq, Int.reduceBNe, Int.reduceLT, Zu, Zy, tup, tyf]
    refine hM [(0, v), (2, .bool false), (3, x1), (4, .int .i64 0), (5, x2), (6, .int .i64 0), (7, Yb (Wv o : Nat)), (8, .int .i64 0)] _ _ ?_ (by simp (maxSteps := 2000000) only [↓Za, ↓Zl, ↓Zr, ↓Ze, ↓Zo, ↓Zs, ↓Zg, ↓Zj, ↓Zf, ↓Zc, ↓Zb, ↓vdn, vup, Zn, Zm, Zi, Zh, Zk, List.map_cons, List.map_nil, cond_true, cond_false, aop, Zv, Zq, Zp, ev, sput, Zt, Zx, Zz, unK, Zd, Zw, Nat.reduceBEq, Nat.reduceAdd, Int.reduceBEq, Int.reduceBNe, Int.reduceLT, Zu, Zy, tup, tyf])
    clear hM
    try clear M
    refine Yk fun M hM => ?_
    refine Yc fun N8 hN8 => ?_
    simp only [q16_6]
    refine Wc 5 fun N1 hN1 => ?_
    simp (maxSteps := 2000000) only [s16, ↓Za, ↓Zl, ↓Zr, ↓Ze, ↓Zo, ↓Zs, ↓Zg, ↓Zj, ↓Zf, ↓Zc, ↓Zb, ↓vdn, vup, Zn, Zm, Zi, Zh, Zk, List.map_cons, List.map_nil, cond_true, cond_false, aop, Zv, Zq, Zp, ev, sput, Zt, Zx, Zz, unK, Zd, Zw, Nat.reduceBEq, Nat.reduceAdd, Int.reduceBEq, Int.reduceBNe, Int.reduceLT, Zu, Zy, tup, tyf, Yt, List.nil_append, List.append_nil, List.toList_toArray, List.cons_append, List.take_succ_cons, List.take_zero]
    refine (rideals_call hv3 ho).mono ?_
    rintro w3 H2 ⟨hw3, hE3⟩
    have hv4 := Xg hv3 hE3
    refine (equal_call (Xg hw1 hE3) hw3.int (by rw [Wy, setsL]; omega) (by rw [Wy, setsL]; omega)).mono ?_
    rintro _ H2 ⟨rfl, rfl⟩
    simp (maxSteps := 2000000) only [s16, ↓Za, ↓Zl, ↓Zr, ↓Ze, ↓Zo, ↓Zs, ↓Zg, ↓Zj, ↓Zf, ↓Zc, ↓Zb, ↓vdn, vup, Zn, Zm, Zi, Zh, Zk, List.map_cons, List.map_nil, cond_true, cond_false, aop, Zv, Zq, Zp, ev, sput, Zt, Zx, Zz, unK, Zd, Zw, Nat.reduceBEq, Nat.reduceAdd, Int.reduceBEq, Int.reduceBNe, Int.reduceLT, Zu, Zy, tup, tyf, decide_true, Bool.not_true]
    refine hN1 _ _ ?_
    clear hN1 N1
    simp only [List.drop_succ_cons, List.drop_zero]
    have nA : (((Wv o : Nat) : Int) != ((Wv o : Nat) : Int)) = false := by simp
    have nL : (((L.length : Nat) : Int) != ((fw o (2 ^ o.length - 1) : Nat) : Int)) = false := by rw [hLl]; simp
    refine Wc 6 fun N1 hN1 => ?_
    simp (maxSteps := 2000000) only [s16, ↓Za, ↓Zl, ↓Zr, ↓Ze, ↓Zo, ↓Zs, ↓Zg, ↓Zj, ↓Zf, ↓Zc, ↓Zb, ↓vdn, vup, Zn, Zm, Zi, Zh, Zk, List.map_cons, List.map_nil, cond_true, cond_false, aop, Zv, Zq, Zp, ev, sput, Zt, Zx, Zz, unK, Zd, Zw, Nat.reduceBEq, Nat.reduceAdd, Int.reduceBEq, Int.reduceBNe, Int.reduceLT, Zu, Zy, tup, tyf, Yt, List.nil_append, List.append_nil, List.toList_toArray, List.cons_append, List.take_succ_cons, List.take_zero]
    refine (rantiM_call hv4 ho).mono ?_
    rintro _ H2 ⟨rfl, rfl⟩
    simp (maxSteps := 2000000) only [s16, ↓Za, ↓Zl, ↓Zr, ↓Ze, ↓Zo, ↓Zs, ↓Zg, ↓Zj, ↓Zf, ↓Zc, ↓Zb, ↓vdn, vup, Zn, Zm, Zi, Zh, Zk, List.map_cons, List.map_nil, cond_true, cond_false, aop, Zv, Zq, Zp, ev, sput, Zt, Zx, Zz, unK, Zd, Zw, Nat.reduceBEq, Nat.reduceAdd, Int.reduceBEq, Int.reduceBNe, Int.reduceLT, Zu, Zy, tup, tyf, nA]
    refine hN1 _ _ ?_
    clear hN1 N1
    simp only [List.drop_succ_cons, List.drop_zero]
    have hw4 := Xg hw2 hE3
    refine Wc 7 fun N1 hN1 => ?_
    simp (maxSteps := 2000000) only [s16, ↓Za, ↓Zl, ↓Zr, ↓Ze, ↓Zo, ↓Zs, ↓Zg, ↓Zj, ↓Zf, ↓Zc, ↓Zb, ↓vdn, vup, Zn, Zm, Zi, Zh, Zk, List.map_cons, List.map_nil, cond_true, cond_false, aop, Zv, Zq, Zp, ev, sput, Zt, Zx, Zz, unK, Zd, Zw, Nat.reduceBEq, Nat.reduceAdd, Int.reduceBEq, Int.reduceBNe, Int.reduceLT, Zu, Zy, tup, tyf, Yt, List.nil_append, List.append_nil, List.toList_toArray, List.cons_append, List.take_succ_cons, List.take_zero, hw4.len, Wy]
    refine (fewest_call hv4 ho).mono ?_
    rintro _ H2 ⟨rfl, rfl⟩
    simp (maxSteps := 2000000) only [s16, ↓Za, ↓Zl, ↓Zr, ↓Ze, ↓Zo, ↓Zs, ↓Zg, ↓Zj, ↓Zf, ↓Zc, ↓Zb, ↓vdn, vup, Zn, Zm, Zi, Zh, Zk, List.map_cons, List.map_nil, cond_true, cond_false, aop, Zv, Zq, Zp, ev, sput, Zt, Zx, Zz, unK, Zd, Zw, Nat.reduceBEq, Nat.reduceAdd, Int.reduceBEq, Int.reduceBNe, Int.reduceLT, Zu, Zy, tup, tyf, nL]
    refine hN1 _ _ ?_
    clear hN1 N1
    simp only [List.drop_succ_cons, List.drop_zero]
    simp (maxSteps := 2000000) only [s16, ↓Za, ↓Zl, ↓Zr, ↓Ze, ↓Zo, ↓Zs, ↓Zg, ↓Zj, ↓Zf, ↓Zc, ↓Zb, ↓vdn, vup, Zn, Zm, Zi, Zh, Zk, List.map_cons, List.map_nil, cond_true, cond_false, aop, Zv, Zq, Zp, ev, sput, Zt, Zx, Zz, unK, Zd, Zw, Nat.reduceBEq, Nat.reduceAdd, Int.reduceBEq, Int.reduceBNe, Int.reduceLT, Zu, Zy, tup, tyf, n00]
    refine hN8 [(0, v), (2, .bool false), (3, x1), (4, .int .i64 0), (5, x2), (6, .int .i64 0), (7, Yb (Wv o : Nat)), (8, .int .i64 0), (87, .bool false)] _ _ ?_ (by simp (maxSteps := 2000000) only [↓Za, ↓Zl, ↓Zr, ↓Ze, ↓Zo, ↓Zs, ↓Zg, ↓Zj, ↓Zf, ↓Zc, ↓Zb, ↓vdn, vup, Zn, Zm, Zi, Zh, Zk, List.map_cons, List.map_nil, cond_true, cond_false, aop, Zv, Zq, Zp, ev, sput, Zt, Zx, Zz, unK, Zd, Zw, Nat.reduceBEq, Nat.reduceAdd, Int.reduceBEq, Int.reduceBNe, Int.reduceLT, Zu, Zy, tup, tyf])
    clear hN8
    try clear N8
    refine Ys rfl ?_
    refine Yf ?_
    simp (maxSteps := 2000000) only [s16, ↓Za, ↓Zl, ↓Zr, ↓Ze, ↓Zo, ↓Zs, ↓Zg, ↓Zj, ↓Zf, ↓Zc, ↓Zb, ↓vdn, vup, Zn, Zm, Zi, Zh, Zk, List.map_cons, List.map_nil, cond_true, cond_false, aop, Zv, Zq, Zp, ev, sput, Zt, Zx, Zz, unK, Zd, Zw, Nat.reduceBEq, Nat.reduceAdd, Int.reduceBEq, Int.reduceBNe, Int.reduceLT, Zu, Zy, tup, tyf]
    refine hM [(0, v), (2, .bool false), (3, x1), (4, .int .i64 0), (5, x2), (6, .int .i64 0), (7, Yb (Wv o : Nat)), (8, .int .i64 0)] _ _ ?_ (by simp (maxSteps := 2000000) only [↓Za, ↓Zl, ↓Zr, ↓Ze, ↓Zo, ↓Zs, ↓Zg, ↓Zj, ↓Zf, ↓Zc, ↓Zb, ↓vdn, vup, Zn, Zm, Zi, Zh, Zk, List.map_cons, List.map_nil, cond_true, cond_false, aop, Zv, Zq, Zp, ev, sput, Zt, Zx, Zz, unK, Zd, Zw, Nat.reduceBEq, Nat.reduceAdd, Int.reduceBEq, Int.reduceBNe, Int.reduceLT, Zu, Zy, tup, tyf])
    clear hM
    try clear M
    refine Yc fun N9 hN9 => ?_
    simp (maxSteps := 2000000) only [s16, ↓Za, ↓Zl, ↓Zr, ↓Ze, ↓Zo, ↓Zs, ↓Zg, ↓Zj, ↓Zf, ↓Zc, ↓Zb, ↓vdn, vup, Zn, Zm, Zi, Zh, Zk, List.map_cons, List.map_nil, cond_true, cond_false, aop, Zv, Zq, Zp, ev, sput, Zt, Zx, Zz, unK, Zd, Zw, Nat.reduceBEq, Nat.reduceAdd, Int.reduceBEq, Int.reduceBNe, Int.reduceLT, Zu, Zy, tup, tyf]
    refine hN9 [(0, v), (2, .bool false), (3, x1), (4, .int .i64 0), (5, x2), (6, .int .i64 0), (7, Yb (Wv o : Nat)), (8, .int .i64 0), (9, .int .i64 0)] _ _ ?_ (by simp (maxSteps := 2000000) only [↓Za, ↓Zl, ↓Zr, ↓Ze, ↓Zo, ↓Zs, ↓Zg, ↓Zj, ↓Zf, ↓Zc, ↓Zb, ↓vdn, vup, Zn, Zm, Zi, Zh, Zk, List.map_cons, List.map_nil, cond_true, cond_false, aop, Zv, Zq, Zp, ev, sput, Zt, Zx, Zz, unK, Zd, Zw, Nat.reduceBEq, Nat.reduceAdd, Int.reduceBEq, Int.reduceBNe, Int.reduceLT, Zu, Zy, tup, tyf])
    clear hN9
    try clear N9
    refine Yk fun Z hZ => ?_
    refine Yc fun N10 hN10 => ?_
    simp (maxSteps := 2000000) only [s16, ↓Za, ↓Zl, ↓Zr, ↓Ze, ↓Zo, ↓Zs, ↓Zg, ↓Zj, ↓Zf, ↓Zc, ↓Zb, ↓vdn, vup, Zn, Zm, Zi, Zh, Zk, List.map_cons, List.map_nil, cond_true, cond_false, aop, Zv, Zq, Zp, ev, sput, Zt, Zx, Zz, unK, Zd, Zw, Nat.reduceBEq, Nat.reduceAdd, Int.reduceBEq, Int.reduceBNe, Int.reduceLT, Zu, Zy, tup, tyf, hw4.len, Wy]
    refine hN10 [(0, v), (2, .bool false), (3, x1), (4, .int .i64 0), (5, x2), (6, .int .i64 0), (7, Yb (Wv o : Nat)), (8, .int .i64 0), (9, .int .i64 0), (88, x2), (89, Yb L.length), (90, .int .i64 0)] _ _ ?_ (by simp (maxSteps := 2000000) only [↓Za, ↓Zl, ↓Zr, ↓Ze, ↓Zo, ↓Zs, ↓Zg, ↓Zj, ↓Zf, ↓Zc, ↓Zb, ↓vdn, vup, Zn, Zm, Zi, Zh, Zk, List.map_cons, List.map_nil, cond_true, cond_false, aop, Zv, Zq, Zp, ev, sput, Zt, Zx, Zz, unK, Zd, Zw, Nat.reduceBEq, Nat.reduceAdd, Int.reduceBEq, Int.reduceBNe, Int.reduceLT, Zu, Zy, tup, tyf])
    clear hN10
    try clear N10
    refine Yl ?_
    refine Yj fun Q hQ => ?_
    refine Xt (γ := Nat) (fun i => i ≤ L.length) (fun i => ([(0, v), (2, .bool false), (3, x1), (4, .int .i64 0), (5, x2), (6, .int .i64 0), (7, Yb (Wv o : Nat)), (8, .int .i64 0), (9, Yb (metL L i : Nat)), (88, x2), (89, Yb L.length), (90, Yb (i : Nat))], H2)) (fun i => L.length - i) 0 (Nat.zero_le _) (by simp (maxSteps := 2000000) only [↓Za, ↓Zl, ↓Zr, ↓Ze, ↓Zo, ↓Zs, ↓Zg, ↓Zj, ↓Zf, ↓Zc, ↓Zb, ↓vdn, vup, Zn, Zm, Zi, Zh, Zk, List.map_cons, List.map_nil, cond_true, cond_false, aop, Zv, Zq, Zp, ev, sput, Zt, Zx, Zz, unK, Zd, Zw, Nat.reduceBEq, Nat.reduceAdd, Int.reduceBEq, Int.reduceBNe, Int.reduceLT, Zu, Zy, tup, tyf, Int.natCast_zero, metL, List.take_zero, List.foldl_nil]) rfl ?_
    rintro i hi
    refine Yj fun Q2 hQ2 => ?_
    simp only [l16_0]
    by_cases hin : (i : Int) < L.length
    · have hi' : i < L.length := by omega
      have hi2' : i < (iL L).length := by rw [Wy]; exact hi'
      obtain ⟨c, hc⟩ : ∃ c, L.getD i 0 = c := ⟨_, rfl⟩
      have hcL : c ∈ L := hc ▸ getD_memN hi'
      obtain ⟨c0, c1, c2⟩ := hPF.el c hcL
      have hcn := hcN c hcL
      have hmet := hPF.met hi'
      have hml := metL_lt (o := o) (L := L) (N := o.length) hcN i
      rw [hc] at hmet
      have hand := and_comm_eq (a := c) (b := metL L i) (by omega) (by omega)
      have hor := bitsV_or (a := metL L i) (b := c) (by omega) (by omega)
      have n1 : ¬ (c : Int) < 1 := by omega
      have n2 : ¬ ((2 ^ o.length : Nat) : Int) ≤ (c : Int) := by omega
      have nz : ((((c &&& metL L i : Nat) : Nat) : Int) != 0) = false := by rw [hmet]; rfl
      have hnx := metL_succ hi'
      rw [hc] at hnx
      refine Yc fun N11 hN11 => ?_
      simp (maxSteps := 2000000) only [s16, ↓Za, ↓Zl, ↓Zr, ↓Ze, ↓Zo, ↓Zs, ↓Zg, ↓Zj, ↓Zf, ↓Zc, ↓Zb, ↓vdn, vup, Zn, Zm, Zi, Zh, Zk, List.map_cons, List.map_nil, cond_true, cond_false, aop, Zv, Zq, Zp, ev, sput, Zt, Zx, Zz, unK, Zd, Zw, Nat.reduceBEq, Nat.reduceAdd, Int.reduceBEq, Int.reduceBNe, Int.reduceLT, Zu, Zy, tup, tyf, hin]
      refine hN11 [(0, v), (2, .bool false), (3, x1), (4, .int .i64 0), (5, x2), (6, .int .i64 0), (7, Yb (Wv o : Nat)), (8, .int .i64 0), (9, Yb (metL L i : Nat)), (88, x2), (89, Yb L.length), (90, Yb (i : Nat)), (91, .bool true)] _ _ ?_ (by simp (maxSteps := 2000000) only [↓Za, ↓Zl, ↓Zr, ↓Ze, ↓Zo, ↓Zs, ↓Zg, ↓Zj, ↓Zf, ↓Zc, ↓Zb, ↓vdn, vup, Zn, Zm, Zi, Zh, Zk, List.map_cons, List.map_nil, cond_true, cond_false, aop, Zv, Zq, Zp, ev, sput, Zt, Zx, Zz, unK, Zd, Zw, Nat.reduceBEq, Nat.reduceAdd, Int.reduceBEq, Int.reduceBNe, Int.reduceLT, Zu, Zy, tup, tyf])
      clear hN11
      try clear N11
      refine Yc fun N12 hN12 => ?_
      simp (maxSteps := 2000000) only [s16, ↓Za, ↓Zl, ↓Zr, ↓Ze, ↓Zo, ↓Zs, ↓Zg, ↓Zj, ↓Zf, ↓Zc, ↓Zb, ↓vdn, vup, Zn, Zm, Zi, Zh, Zk, List.map_cons, List.map_nil, cond_true, cond_false, aop, Zv, Zq, Zp, ev, sput, Zt, Zx, Zz, unK, Zd, Zw, Nat.reduceBEq, Nat.reduceAdd, Int.reduceBEq, Int.reduceBNe, Int.reduceLT, Zu, Zy, tup, tyf]
      refine hN12 [(0, v), (2, .bool false), (3, x1), (4, .int .i64 0), (5, x2), (6, .int .i64 0), (7, Yb (Wv o : Nat)), (8, .int .i64 0), (9, Yb (metL L i : Nat)), (88, x2), (89, Yb L.length), (90, Yb (i : Nat))] _ _ ?_ (by simp (maxSteps := 2000000) only [↓Za, ↓Zl, ↓Zr, ↓Ze, ↓Zo, ↓Zs, ↓Zg, ↓Zj, ↓Zf, ↓Zc, ↓Zb, ↓vdn, vup, Zn, Zm, Zi, Zh, Zk, List.map_cons, List.map_nil, cond_true, cond_false, aop, Zv, Zq, Zp, ev, sput, Zt, Zx, Zz, unK, Zd, Zw, Nat.reduceBEq, Nat.reduceAdd, Int.reduceBEq, Int.reduceBNe, Int.reduceLT, Zu, Zy, tup, tyf])
      clear hN12
      try clear N12
      refine Yk fun B hB => ?_
      refine Yl ?_
      refine Yc fun N13 hN13 => ?_
      simp (maxSteps := 2000000) only [s16, ↓Za, ↓Zl, ↓Zr, ↓Ze, ↓Zo, ↓Zs, ↓Zg, ↓Zj, ↓Zf, ↓Zc, ↓Zb, ↓vdn, vup, Zn, Zm, Zi, Zh, Zk, List.map_cons, List.map_nil, cond_true, cond_false, aop, Zv, Zq, Zp, ev, sput, Zt, Zx, Zz, unK, Zd, Zw, Nat.reduceBEq, Nat.reduceAdd, Int.reduceBEq, Int.reduceBNe, Int.reduceLT, Zu, Zy, tup, tyf, hw4.idx Xm Xh hi2', hw4.load Yp hi2', iL_get, hc]
      refine hN13 [(0, v), (2, .bool false), (3, x1), (4, .int .i64 0), (5, x2), (6, .int .i64 0), (7, Yb (Wv o : Nat)), (8, .int .i64 0), (9, Yb (metL L i : Nat)), (10, Yb (i : Nat)), (11, Yb (c : Nat)), (88, x2), (89, Yb L.length), (90, Yb (i : Nat))] _ _ ?_ (by simp (maxSteps := 2000000) only [↓Za, ↓Zl, ↓Zr, ↓Ze, ↓Zo, ↓Zs, ↓Zg, ↓Zj, ↓Zf, ↓Zc, ↓Zb, ↓vdn, vup, Zn, Zm, Zi, Zh, Zk, List.map_cons, List.map_nil, cond_true, cond_false, aop, Zv, Zq, Zp, ev, sput, Zt, Zx, Zz, unK, Zd, Zw, Nat.reduceBEq, Nat.reduceAdd, Int.reduceBEq, Int.reduceBNe, Int.reduceLT, Zu, Zy, tup, tyf])
      clear hN13
      try clear N13
      refine Yk fun D hD => ?_
      refine Yc fun N14 hN14 => ?_
      simp only [q16_12]
      refine Wc 10 fun N1 hN1 => ?_
      simp (maxSteps := 2000000) only [s16, ↓Za, ↓Zl, ↓Zr, ↓Ze, ↓Zo, ↓Zs, ↓Zg, ↓Zj, ↓Zf, ↓Zc, ↓Zb, ↓vdn, vup, Zn, Zm, Zi, Zh, Zk, List.map_cons, List.map_nil, cond_true, cond_false, aop, Zv, Zq, Zp, ev, sput, Zt, Zx, Zz, unK, Zd, Zw, Nat.reduceBEq, Nat.reduceAdd, Int.reduceBEq, Int.reduceBNe, Int.reduceLT, Zu, Zy, tup, tyf, List.take_succ_cons, List.take_zero, n1, decide_false, hv4.len, hsh, ge_iff_le, n2, Int.natCast_nonneg]
      refine hN1 _ _ ?_
      clear hN1 N1
      simp only [List.drop_succ_cons, List.drop_zero]
      refine Wc 13 fun N1 hN1 => ?_
      by_cases h0 : i = 0
      · have g0 : ¬ (0 : Int) < (i : Int) := by omega
        simp (maxSteps := 2000000) only [s16, ↓Za, ↓Zl, ↓Zr, ↓Ze, ↓Zo, ↓Zs, ↓Zg, ↓Zj, ↓Zf, ↓Zc, ↓Zb, ↓vdn, vup, Zn, Zm, Zi, Zh, Zk, List.map_cons, List.map_nil, cond_true, cond_false, aop, Zv, Zq, Zp, ev, sput, Zt, Zx, Zz, unK, Zd, Zw, Nat.reduceBEq, Nat.reduceAdd, Int.reduceBEq, Int.reduceBNe, Int.reduceLT, Zu, Zy, tup, tyf, List.take_succ_cons, List.take_zero, gt_iff_lt, g0, decide_false]
        refine hN1 _ _ ?_
        clear hN1 N1
        simp only [List.drop_succ_cons, List.drop_zero]
        refine Wc 6 fun N1 hN1 => ?_
        simp (maxSteps := 2000000) only [s16, ↓Za, ↓Zl, ↓Zr, ↓Ze, ↓Zo, ↓Zs, ↓Zg, ↓Zj, ↓Zf, ↓Zc, ↓Zb, ↓vdn, vup, Zn, Zm, Zi, Zh, Zk, List.map_cons, List.map_nil, cond_true, cond_false, aop, Zv, Zq, Zp, ev, sput, Zt, Zx, Zz, unK, Zd, Zw, Nat.reduceBEq, Nat.reduceAdd, Int.reduceBEq, Int.reduceBNe, Int.reduceLT, Zu, Zy, tup, tyf, List.take_succ_cons, List.take_zero, hand, nz]
        refine hN1 _ _ ?_
        clear hN1 N1
        simp only [List.drop_succ_cons, List.drop_zero]
        simp (maxSteps := 2000000) only [s16, ↓Za, ↓Zl, ↓Zr, ↓Ze, ↓Zo, ↓Zs, ↓Zg, ↓Zj, ↓Zf, ↓Zc, ↓Zb, ↓vdn, vup, Zn, Zm, Zi, Zh, Zk, List.map_cons, List.map_nil, cond_true, cond_false, aop, Zv, Zq, Zp, ev, sput, Zt, Zx, Zz, unK, Zd, Zw, Nat.reduceBEq, Nat.reduceAdd, Int.reduceBEq, Int.reduceBNe, Int.reduceLT, Zu, Zy, tup, tyf, Yt, List.nil_append, List.append_nil, List.toList_toArray, List.cons_append]
        refine (rchain_call hv4 ho hcn).mono ?_
        rintro _ H2 ⟨rfl, rfl⟩
        rw [c2]
        simp (maxSteps := 2000000) only [s16, ↓Za, ↓Zl, ↓Zr, ↓Ze, ↓Zo, ↓Zs, ↓Zg, ↓Zj, ↓Zf, ↓Zc, ↓Zb, ↓vdn, vup, Zn, Zm, Zi, Zh, Zk, List.map_cons, List.map_nil, cond_true, cond_false, aop, Zv, Zq, Zp, ev, sput, Zt, Zx, Zz, unK, Zd, Zw, Nat.reduceBEq, Nat.reduceAdd, Int.reduceBEq, Int.reduceBNe, Int.reduceLT, Zu, Zy, tup, tyf, Bool.not_true]
        refine hN14 [(0, v), (2, .bool false), (3, x1), (4, .int .i64 0), (5, x2), (6, .int .i64 0), (7, Yb (Wv o : Nat)), (8, .int .i64 0), (9, Yb (metL L i : Nat)), (10, Yb (i : Nat)), (11, Yb (c : Nat)), (88, x2), (89, Yb L.length), (90, Yb (i : Nat)), (128, .bool false)] _ _ ?_ (by simp (maxSteps := 2000000) only [↓Za, ↓Zl, ↓Zr, ↓Ze, ↓Zo, ↓Zs, ↓Zg, ↓Zj, ↓Zf, ↓Zc, ↓Zb, ↓vdn, vup, Zn, Zm, Zi, Zh, Zk, List.map_cons, List.map_nil, cond_true, cond_false, aop, Zv, Zq, Zp, ev, sput, Zt, Zx, Zz, unK, Zd, Zw, Nat.reduceBEq, Nat.reduceAdd, Int.reduceBEq, Int.reduceBNe, Int.reduceLT, Zu, Zy, tup, tyf])
        clear hN14
        try clear N14
        refine Ys rfl ?_
        refine Yf ?_
        simp (maxSteps := 2000000) only [s16, ↓Za, ↓Zl, ↓Zr, ↓Ze, ↓Zo, ↓Zs, ↓Zg, ↓Zj, ↓Zf, ↓Zc, ↓Zb, ↓vdn, vup, Zn, Zm, Zi, Zh, Zk, List.map_cons, List.map_nil, cond_true, cond_false, aop, Zv, Zq, Zp, ev, sput, Zt, Zx, Zz, unK, Zd, Zw, Nat.reduceBEq, Nat.reduceAdd, Int.reduceBEq, Int.reduceBNe, Int.reduceLT, Zu, Zy, tup, tyf]
        refine hD [(0, v), (2, .bool false), (3, x1), (4, .int .i64 0), (5, x2), (6, .int .i64 0), (7, Yb (Wv o : Nat)), (8, .int .i64 0), (9, Yb (metL L i : Nat)), (10, Yb (i : Nat)), (11, Yb (c : Nat)), (88, x2), (89, Yb L.length), (90, Yb (i : Nat))] _ _ ?_ (by simp (maxSteps := 2000000) only [↓Za, ↓Zl, ↓Zr, ↓Ze, ↓Zo, ↓Zs, ↓Zg, ↓Zj, ↓Zf, ↓Zc, ↓Zb, ↓vdn, vup, Zn, Zm, Zi, Zh, Zk, List.map_cons, List.map_nil, cond_true, cond_false, aop, Zv, Zq, Zp, ev, sput, Zt, Zx, Zz, unK, Zd, Zw, Nat.reduceBEq, Nat.reduceAdd, Int.reduceBEq, Int.reduceBNe, Int.reduceLT, Zu, Zy, tup, tyf])
        clear hD
        try clear D
        refine Yf ?_
        simp (maxSteps := 2000000) only [s16, ↓Za, ↓Zl, ↓Zr, ↓Ze, ↓Zo, ↓Zs, ↓Zg, ↓Zj, ↓Zf, ↓Zc, ↓Zb, ↓vdn, vup, Zn, Zm, Zi, Zh, Zk, List.map_cons, List.map_nil, cond_true, cond_false, aop, Zv, Zq, Zp, ev, sput, Zt, Zx, Zz, unK, Zd, Zw, Nat.reduceBEq, Nat.reduceAdd, Int.reduceBEq, Int.reduceBNe, Int.reduceLT, Zu, Zy, tup, tyf, hor]
        rw [← hnx]
        refine hB [(0, v), (2, .bool false), (3, x1), (4, .int .i64 0), (5, x2), (6, .int .i64 0), (7, Yb (Wv o : Nat)), (8, .int .i64 0), (9, Yb (metL L (i + 1) : Nat)), (88, x2), (89, Yb L.length), (90, Yb (i : Nat))] _ _ ?_ (by simp (maxSteps := 2000000) only [↓Za, ↓Zl, ↓Zr, ↓Ze, ↓Zo, ↓Zs, ↓Zg, ↓Zj, ↓Zf, ↓Zc, ↓Zb, ↓vdn, vup, Zn, Zm, Zi, Zh, Zk, List.map_cons, List.map_nil, cond_true, cond_false, aop, Zv, Zq, Zp, ev, sput, Zt, Zx, Zz, unK, Zd, Zw, Nat.reduceBEq, Nat.reduceAdd, Int.reduceBEq, Int.reduceBNe, Int.reduceLT, Zu, Zy, tup, tyf])
        clear hB
        try clear B
        refine Yf ?_
        simp (maxSteps := 2000000) only [s16, ↓Za, ↓Zl, ↓Zr, ↓Ze, ↓Zo, ↓Zs, ↓Zg, ↓Zj, ↓Zf, ↓Zc, ↓Zb, ↓vdn, vup, Zn, Zm, Zi, Zh, Zk, List.map_cons, List.map_nil, cond_true, cond_false, aop, Zv, Zq, Zp, ev, sput, Zt, Zx, Zz, unK, Zd, Zw, Nat.reduceBEq, Nat.reduceAdd, Int.reduceBEq, Int.reduceBNe, Int.reduceLT, Zu, Zy, tup, tyf, add1 (show i < 9223372036854775807 by omega)]
        exact hQ2 _ _ _ ⟨i + 1, hi', by omega, by simp (maxSteps := 2000000) only [↓Za, ↓Zl, ↓Zr, ↓Ze, ↓Zo, ↓Zs, ↓Zg, ↓Zj, ↓Zf, ↓Zc, ↓Zb, ↓vdn, vup, Zn, Zm, Zi, Zh, Zk, List.map_cons, List.map_nil, cond_true, cond_false, aop, Zv, Zq, Zp, ev, sput, Zt, Zx, Zz, unK, Zd, Zw, Nat.reduceBEq, Nat.reduceAdd, Int.reduceBEq, Int.reduceBNe, Int.reduceLT, Zu, Zy, tup, tyf], rfl⟩
      · have g0 : (0 : Int) < (i : Int) := by omega
        have hsub : subV .i64 ((i : Nat) : Int) 1 = ((i - 1 : Nat) : Int) := by rw [subV_id (by omega) (by omega)]; omega
        have hlt := hPF.lt hLs (i := i - 1) (by omega)
        rw [show i - 1 + 1 = i by omega, hc] at hlt
        have him : i - 1 < (iL L).length := by rw [Wy]; omega
        have g1 : ¬ (c : Int) ≤ ((L.getD (i - 1) 0 : Nat) : Int) := by omega
        simp (maxSteps := 2000000) only [s16, ↓Za, ↓Zl, ↓Zr, ↓Ze, ↓Zo, ↓Zs, ↓Zg, ↓Zj, ↓Zf, ↓Zc, ↓Zb, ↓vdn, vup, Zn, Zm, Zi, Zh, Zk, List.map_cons, List.map_nil, cond_true, cond_false, aop, Zv, Zq, Zp, ev, sput, Zt, Zx, Zz, unK, Zd, Zw, Nat.reduceBEq, Nat.reduceAdd, Int.reduceBEq, Int.reduceBNe, Int.reduceLT, Zu, Zy, tup, tyf, List.take_succ_cons, List.take_zero, gt_iff_lt, g0, decide_true, hsub, hw4.idx Xm Xh him, hw4.load Yp him, iL_get, ge_iff_le, g1, decide_false]
        refine hN1 _ _ ?_
        clear hN1 N1
        simp only [List.drop_succ_cons, List.drop_zero]
        refine Wc 6 fun N1 hN1 => ?_
        simp (maxSteps := 2000000) only [s16, ↓Za, ↓Zl, ↓Zr, ↓Ze, ↓Zo, ↓Zs, ↓Zg, ↓Zj, ↓Zf, ↓Zc, ↓Zb, ↓vdn, vup, Zn, Zm, Zi, Zh, Zk, List.map_cons, List.map_nil, cond_true, cond_false, aop, Zv, Zq, Zp, ev, sput, Zt, Zx, Zz, unK, Zd, Zw, Nat.reduceBEq, Nat.reduceAdd, Int.reduceBEq, Int.reduceBNe, Int.reduceLT, Zu, Zy, tup, tyf, List.take_succ_cons, List.take_zero, hand, nz]
        refine hN1 _ _ ?_
        clear hN1 N1
        simp only [List.drop_succ_cons, List.drop_zero]
        simp (maxSteps := 2000000) only [s16, ↓Za, ↓Zl, ↓Zr, ↓Ze, ↓Zo, ↓Zs, ↓Zg, ↓Zj, ↓Zf, ↓Zc, ↓Zb, ↓vdn, vup, Zn, Zm, Zi, Zh, Zk, List.map_cons, List.map_nil, cond_true, cond_false, aop, Zv, Zq, Zp, ev, sput, Zt, Zx, Zz, unK, Zd, Zw, Nat.reduceBEq, Nat.reduceAdd, Int.reduceBEq, Int.reduceBNe, Int.reduceLT, Zu, Zy, tup, tyf, Yt, List.nil_append, List.append_nil, List.toList_toArray, List.cons_append]
        refine (rchain_call hv4 ho hcn).mono ?_
        rintro _ H2 ⟨rfl, rfl⟩
        rw [c2]
        simp (maxSteps := 2000000) only [s16, ↓Za, ↓Zl, ↓Zr, ↓Ze, ↓Zo, ↓Zs, ↓Zg, ↓Zj, ↓Zf, ↓Zc, ↓Zb, ↓vdn, vup, Zn, Zm, Zi, Zh, Zk, List.map_cons, List.map_nil, cond_true, cond_false, aop, Zv, Zq, Zp, ev, sput, Zt, Zx, Zz, unK, Zd, Zw, Nat.reduceBEq, Nat.reduceAdd, Int.reduceBEq, Int.reduceBNe, Int.reduceLT, Zu, Zy, tup, tyf, Bool.not_true]
        refine hN14 [(0, v), (2, .bool false), (3, x1), (4, .int .i64 0), (5, x2), (6, .int .i64 0), (7, Yb (Wv o : Nat)), (8, .int .i64 0), (9, Yb (metL L i : Nat)), (10, Yb (i : Nat)), (11, Yb (c : Nat)), (88, x2), (89, Yb L.length), (90, Yb (i : Nat)), (128, .bool false)] _ _ ?_ (by simp (maxSteps := 2000000) only [↓Za, ↓Zl, ↓Zr, ↓Ze, ↓Zo, ↓Zs, ↓Zg, ↓Zj, ↓Zf, ↓Zc, ↓Zb, ↓vdn, vup, Zn, Zm, Zi, Zh, Zk, List.map_cons, List.map_nil, cond_true, cond_false, aop, Zv, Zq, Zp, ev, sput, Zt, Zx, Zz, unK, Zd, Zw, Nat.reduceBEq, Nat.reduceAdd, Int.reduceBEq, Int.reduceBNe, Int.reduceLT, Zu, Zy, tup, tyf])
        clear hN14
        try clear N14
        refine Ys rfl ?_
        refine Yf ?_
        simp (maxSteps := 2000000) only [s16, ↓Za, ↓Zl, ↓Zr, ↓Ze, ↓Zo, ↓Zs, ↓Zg, ↓Zj, ↓Zf, ↓Zc, ↓Zb, ↓vdn, vup, Zn, Zm, Zi, Zh, Zk, List.map_cons, List.map_nil, cond_true, cond_false, aop, Zv, Zq, Zp, ev, sput, Zt, Zx, Zz, unK, Zd, Zw, Nat.reduceBEq, Nat.reduceAdd, Int.reduceBEq, Int.reduceBNe, Int.reduceLT, Zu, Zy, tup, tyf]
        refine hD [(0, v), (2, .bool false), (3, x1), (4, .int .i64 0), (5, x2), (6, .int .i64 0), (7, Yb (Wv o : Nat)), (8, .int .i64 0), (9, Yb (metL L i : Nat)), (10, Yb (i : Nat)), (11, Yb (c : Nat)), (88, x2), (89, Yb L.length), (90, Yb (i : Nat))] _ _ ?_ (by simp (maxSteps := 2000000) only [↓Za, ↓Zl, ↓Zr, ↓Ze, ↓Zo, ↓Zs, ↓Zg, ↓Zj, ↓Zf, ↓Zc, ↓Zb, ↓vdn, vup, Zn, Zm, Zi, Zh, Zk, List.map_cons, List.map_nil, cond_true, cond_false, aop, Zv, Zq, Zp, ev, sput, Zt, Zx, Zz, unK, Zd, Zw, Nat.reduceBEq, Nat.reduceAdd, Int.reduceBEq, Int.reduceBNe, Int.reduceLT, Zu, Zy, tup, tyf])
        clear hD
        try clear D
        refine Yf ?_
        simp (maxSteps := 2000000) only [s16, ↓Za, ↓Zl, ↓Zr, ↓Ze, ↓Zo, ↓Zs, ↓Zg, ↓Zj, ↓Zf, ↓Zc, ↓Zb, ↓vdn, vup, Zn, Zm, Zi, Zh, Zk, List.map_cons, List.map_nil, cond_true, cond_false, aop, Zv, Zq, Zp, ev, sput, Zt, Zx, Zz, unK, Zd, Zw, Nat.reduceBEq, Nat.reduceAdd, Int.reduceBEq, Int.reduceBNe, Int.reduceLT, Zu, Zy, tup, tyf, hor]
        rw [← hnx]
        refine hB [(0, v), (2, .bool false), (3, x1), (4, .int .i64 0), (5, x2), (6, .int .i64 0), (7, Yb (Wv o : Nat)), (8, .int .i64 0), (9, Yb (metL L (i + 1) : Nat)), (88, x2), (89, Yb L.length), (90, Yb (i : Nat))] _ _ ?_ (by simp (maxSteps := 2000000) only [↓Za, ↓Zl, ↓Zr, ↓Ze, ↓Zo, ↓Zs, ↓Zg, ↓Zj, ↓Zf, ↓Zc, ↓Zb, ↓vdn, vup, Zn, Zm, Zi, Zh, Zk, List.map_cons, List.map_nil, cond_true, cond_false, aop, Zv, Zq, Zp, ev, sput, Zt, Zx, Zz, unK, Zd, Zw, Nat.reduceBEq, Nat.reduceAdd, Int.reduceBEq, Int.reduceBNe, Int.reduceLT, Zu, Zy, tup, tyf])
        clear hB
        try clear B
        refine Yf ?_
        simp (maxSteps := 2000000) only [s16, ↓Za, ↓Zl, ↓Zr, ↓Ze, ↓Zo, ↓Zs, ↓Zg, ↓Zj, ↓Zf, ↓Zc, ↓Zb, ↓vdn, vup, Zn, Zm, Zi, Zh, Zk, List.map_cons, List.map_nil, cond_true, cond_false, aop, Zv, Zq, Zp, ev, sput, Zt, Zx, Zz, unK, Zd, Zw, Nat.reduceBEq, Nat.reduceAdd, Int.reduceBEq, Int.reduceBNe, Int.reduceLT, Zu, Zy, tup, tyf, add1 (show i < 9223372036854775807 by omega)]
        exact hQ2 _ _ _ ⟨i + 1, hi', by omega, by simp (maxSteps := 2000000) only [↓Za, ↓Zl, ↓Zr, ↓Ze, ↓Zo, ↓Zs, ↓Zg, ↓Zj, ↓Zf, ↓Zc, ↓Zb, ↓vdn, vup, Zn, Zm, Zi, Zh, Zk, List.map_cons, List.map_nil, cond_true, cond_false, aop, Zv, Zq, Zp, ev, sput, Zt, Zx, Zz, unK, Zd, Zw, Nat.reduceBEq, Nat.reduceAdd, Int.reduceBEq, Int.reduceBNe, Int.reduceLT, Zu, Zy, tup, tyf], rfl⟩
    · obtain rfl : i = L.length := by omega
      refine Yc fun N15 hN15 => ?_
      simp (maxSteps := 2000000) only [s16, ↓Za, ↓Zl, ↓Zr, ↓Ze, ↓Zo, ↓Zs, ↓Zg, ↓Zj, ↓Zf, ↓Zc, ↓Zb, ↓vdn, vup, Zn, Zm, Zi, Zh, Zk, List.map_cons, List.map_nil, cond_true, cond_false, aop, Zv, Zq, Zp, ev, sput, Zt, Zx, Zz, unK, Zd, Zw, Nat.reduceBEq, Nat.reduceAdd, Int.reduceBEq, Int.reduceBNe, Int.reduceLT, Zu, Zy, tup, tyf, hin]
      refine hN15 [(0, v), (2, .bool false), (3, x1), (4, .int .i64 0), (5, x2), (6, .int .i64 0), (7, Yb (Wv o : Nat)), (8, .int .i64 0), (9, Yb (metL L L.length : Nat)), (88, x2), (89, Yb L.length), (90, Yb L.length), (91, .bool false)] _ _ ?_ (by simp (maxSteps := 2000000) only [↓Za, ↓Zl, ↓Zr, ↓Ze, ↓Zo, ↓Zs, ↓Zg, ↓Zj, ↓Zf, ↓Zc, ↓Zb, ↓vdn, vup, Zn, Zm, Zi, Zh, Zk, List.map_cons, List.map_nil, cond_true, cond_false, aop, Zv, Zq, Zp, ev, sput, Zt, Zx, Zz, unK, Zd, Zw, Nat.reduceBEq, Nat.reduceAdd, Int.reduceBEq, Int.reduceBNe, Int.reduceLT, Zu, Zy, tup, tyf])
      clear hN15
      try clear N15
      refine Yc fun N16 hN16 => ?_
      simp (maxSteps := 2000000) only [s16, ↓Za, ↓Zl, ↓Zr, ↓Ze, ↓Zo, ↓Zs, ↓Zg, ↓Zj, ↓Zf, ↓Zc, ↓Zb, ↓vdn, vup, Zn, Zm, Zi, Zh, Zk, List.map_cons, List.map_nil, cond_true, cond_false, aop, Zv, Zq, Zp, ev, sput, Zt, Zx, Zz, unK, Zd, Zw, Nat.reduceBEq, Nat.reduceAdd, Int.reduceBEq, Int.reduceBNe, Int.reduceLT, Zu, Zy, tup, tyf]
      refine hQ2 _ _ _ (hQ _ _ _ ?_)
      simp (maxSteps := 2000000) only [s16, ↓Za, ↓Zl, ↓Zr, ↓Ze, ↓Zo, ↓Zs, ↓Zg, ↓Zj, ↓Zf, ↓Zc, ↓Zb, ↓vdn, vup, Zn, Zm, Zi, Zh, Zk, List.map_cons, List.map_nil, cond_true, cond_false, aop, Zv, Zq, Zp, ev, sput, Zt, Zx, Zz, unK, Zd, Zw, Nat.reduceBEq, Nat.reduceAdd, Int.reduceBEq, Int.reduceBNe, Int.reduceLT, Zu, Zy, tup, tyf, if_true]
      refine hZ [(0, v), (2, .bool false), (3, x1), (4, .int .i64 0), (5, x2), (6, .int .i64 0), (7, Yb (Wv o : Nat)), (8, .int .i64 0), (9, Yb (metL L L.length : Nat))] _ _ ?_ (by simp (maxSteps := 2000000) only [↓Za, ↓Zl, ↓Zr, ↓Ze, ↓Zo, ↓Zs, ↓Zg, ↓Zj, ↓Zf, ↓Zc, ↓Zb, ↓vdn, vup, Zn, Zm, Zi, Zh, Zk, List.map_cons, List.map_nil, cond_true, cond_false, aop, Zv, Zq, Zp, ev, sput, Zt, Zx, Zz, unK, Zd, Zw, Nat.reduceBEq, Nat.reduceAdd, Int.reduceBEq, Int.reduceBNe, Int.reduceLT, Zu, Zy, tup, tyf])
      clear hZ
      try clear Z
      have hall := hPF.all
      have hs1 : subV .i64 ((2 ^ o.length : Nat) : Int) 1 = ((2 ^ o.length - 1 : Nat) : Int) := by rw [subV_id (by omega) (by omega)]; omega
      have heq : (((metL L L.length : Nat) : Int) == ((2 ^ o.length - 1 : Nat) : Int)) = true := by rw [hall]; simp
      refine Yc fun N17 hN17 => ?_
      simp only [q16_16]
      refine Wc 7 fun N1 hN1 => ?_
      simp (maxSteps := 2000000) only [s16, ↓Za, ↓Zl, ↓Zr, ↓Ze, ↓Zo, ↓Zs, ↓Zg, ↓Zj, ↓Zf, ↓Zc, ↓Zb, ↓vdn, vup, Zn, Zm, Zi, Zh, Zk, List.map_cons, List.map_nil, cond_true, cond_false, aop, Zv, Zq, Zp, ev, sput, Zt, Zx, Zz, unK, Zd, Zw, Nat.reduceBEq, Nat.reduceAdd, Int.reduceBEq, Int.reduceBNe, Int.reduceLT, Zu, Zy, tup, tyf, List.take_succ_cons, List.take_zero, hv4.len, hsh, hs1, heq, Int.natCast_nonneg]
      refine hN1 _ _ ?_
      clear hN1 N1
      simp only [List.drop_succ_cons, List.drop_zero]
      simp (maxSteps := 2000000) only [s16, ↓Za, ↓Zl, ↓Zr, ↓Ze, ↓Zo, ↓Zs, ↓Zg, ↓Zj, ↓Zf, ↓Zc, ↓Zb, ↓vdn, vup, Zn, Zm, Zi, Zh, Zk, List.map_cons, List.map_nil, cond_true, cond_false, aop, Zv, Zq, Zp, ev, sput, Zt, Zx, Zz, unK, Zd, Zw, Nat.reduceBEq, Nat.reduceAdd, Int.reduceBEq, Int.reduceBNe, Int.reduceLT, Zu, Zy, tup, tyf, Yt, List.nil_append, List.append_nil, List.toList_toArray, List.cons_append]
      refine (awake_call).mono ?_
      rintro _ H2 ⟨rfl, rfl⟩
      refine hN17 [(0, v), (2, .bool true), (3, x1), (4, .int .i64 0), (5, x2), (6, .int .i64 0), (7, Yb (Wv o : Nat)), (8, .int .i64 0), (9, Yb (metL L L.length : Nat))] _ _ ?_ (by simp (maxSteps := 2000000) only [↓Za, ↓Zl, ↓Zr, ↓Ze, ↓Zo, ↓Zs, ↓Zg, ↓Zj, ↓Zf, ↓Zc, ↓Zb, ↓vdn, vup, Zn, Zm, Zi, Zh, Zk, List.map_cons, List.map_nil, cond_true, cond_false, aop, Zv, Zq, Zp, ev, sput, Zt, Zx, Zz, unK, Zd, Zw, Nat.reduceBEq, Nat.reduceAdd, Int.reduceBEq, Int.reduceBNe, Int.reduceLT, Zu, Zy, tup, tyf])
      clear hN17
      try clear N17
      refine Yf ?_
      simp (maxSteps := 2000000) only [s16, ↓Za, ↓Zl, ↓Zr, ↓Ze, ↓Zo, ↓Zs, ↓Zg, ↓Zj, ↓Zf, ↓Zc, ↓Zb, ↓vdn, vup, Zn, Zm, Zi, Zh, Zk, List.map_cons, List.map_nil, cond_true, cond_false, aop, Zv, Zq, Zp, ev, sput, Zt, Zx, Zz, unK, Zd, Zw, Nat.reduceBEq, Nat.reduceAdd, Int.reduceBEq, Int.reduceBNe, Int.reduceLT, Zu, Zy, tup, tyf]

end Go.Proofs.Tryd.Am
