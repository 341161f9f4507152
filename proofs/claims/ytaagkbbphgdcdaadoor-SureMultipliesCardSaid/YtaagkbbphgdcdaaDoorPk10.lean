/-
  sure: packings.
  Printed by gen.py: the code of some functions, without what no step looks at; held against the program's own by the kernel.
  sure: Weigh, small, Less.
  sure: what the table of covers holds.
  sure: whether words are a code, by the program and by the reference.
  sure: whether words are a code, by the reference; what the statements call awake.
  sure: the beginnings that the statements look at; what Code and Codes give back.
  What codes there are, plain; codes of longer words.
  sure: a pair of neighbours more.
  Printed by gen.py: the code of some functions, without what no step looks at; held against the program's own by the kernel.
  sure: graphs that are made pair by pair; pairs of signals, by the program and by the reference.
-/
import Derived.Test.YtaagkbbphgdcdaaDoorPk9
import Derived.Test.YtaagkbbphgdcdaaDoorPk3
import Derived.Test.YtaagkbbphgdcdaaDoorProg
import Derived.KernelRfl
import Derived.Shelf.Abstract
import Derived.Test.YtaagkbbphgdcdaaDoorPk6
import Derived.Test.YtaagkbbphgdcdaaDoorPk5
set_option linter.all false
namespace Go.Proofs.Tryd.Am
open Go.Am Bq
set_option maxRecDepth 100000
set_option maxHeartbeats 4000000

theorem boxV22 {h : Yd} {v : Value} {xs : List Int} (hv : IntSl h v xs) {g : Yd} {K : Value → Yd → Prop} : boxK prog g 22 v K = K (Xv g) (g ++ [.cells [v] 22 false]) := by
  rcases hv with ⟨rfl, rfl⟩ | ⟨b, o, sp, cap, c, e, ro, rfl, _⟩ <;> simp [boxK, esz_22, Xv, cellsOf]
theorem intSl_box {h : Yd} {r v : Value} {xs zs : List Int} {b : Nat} {e : TypeId} {ro : Bool} (hr : IntSl h r xs) (hx : xs ≠ []) (hv : IntSl h v zs) (hb : h[b]? = some (.cells [v] e ro)) : Yq r ≠ some b := fun hc => by
  rcases hr with ⟨rfl, rfl⟩ | ⟨b', o, sp, cap, c, e', ro', rfl, hcap, hw, hg⟩
  · exact hx rfl
  · cases hc
    simp only [view, hb, Option.bind_some, Blk.view] at hw
    cases hw
    have h0 := hg 0 (List.length_pos_iff.2 hx)
    have h1 := List.mem_of_getElem? h0
    rw [List.mem_singleton] at h1
    rcases hv with ⟨rfl, _⟩ | ⟨b2, o2, sp2, cap2, c2, e2, ro2, rfl, _⟩ <;> cases h1
theorem ints_but {h h' : Yd} {v : Value} {xs : List Int} {bb : Nat} (hv : IntSl h v xs) (hn : Yq v ≠ some bb) (hE : Ext (fun i => i = bb) h h') : IntSl h' v xs :=
  hv.same fun b hb => hE.2 b (hv.lt hb) fun he => hn (by rw [hb, he])
def sI (sets : List Nat) : List Int := sets.map fun s => ((s : Nat) : Int)
theorem sI_len (sets : List Nat) : (sI sets).length = sets.length := by simp [sI]
theorem within_any (sets : List Nat) (s : Nat) : (sI sets).any (inB s) = withinB sets s := by
  rw [sI, List.any_map, withinB]
  congr 1
  funext t
  simp only [Function.comp, inB, Int.toNat_natCast]
  congr 1
  rw [decide_eq_decide]; omega
theorem keep_ints (sets : List Nat) : (sI sets).filter (fun x => !(sI sets).any (inB x.toNat)) = sI (keepL sets) := by
  have h : ∀ l : List Nat, (sI l).filter (fun x => !(sI sets).any (inB x.toNat)) = sI (l.filter fun s => !withinB sets s) := fun l => by
    rw [sI, sI, List.filter_map]
    congr 1
    refine List.filter_congr fun s _ => ?_
    have := within_any sets s
    rw [sI] at this
    simp only [Function.comp, Int.toNat_natCast, this]
  exact h sets

def RW (G : Yd) (p5 : Nat) (rv w : Value) (l : List Int) : Prop := IntSl G w l ∧ ∀ b, Yq w = some b → b ≠ p5 ∧ Yq rv ≠ some b
structure RS (n : Nat) (sets : List Nat) (H0 : Yd) (p5 : Nat) (G : Yd) (rv : Value) (ws : List Value) (k : Nat) : Prop where
  ext : Ext (fun b => b = p5) H0 G
  box : G[p5]? = some (.cells [rv] 82 false)
  own : OwnV 22 G rv ws
  rows : Each (RW G p5 rv) ws ((List.range k).map (rowI n sets))
  new : ∀ b, Yq rv = some b → H0.length ≤ b
  p : p5 < H0.length
theorem RS.keep {n : Nat} {sets : List Nat} {H0 : Yd} {p5 : Nat} {G : Yd} {rv : Value} {ws : List Value} {k : Nat} (s : RS n sets H0 p5 G rv ws k) {b : Nat} {B : Blk} (hb : H0[b]? = some B) (hn : b ≠ p5) : G[b]? = some B := (s.ext.2 b (Yx hb) hn).trans hb
theorem RS.step {n : Nat} {sets : List Nat} {H0 : Yd} {p5 : Nat} {G : Yd} {rv : Value} {ws : List Value} {k : Nat} (s : RS n sets H0 p5 G rv ws k) {G1 : Yd} (hE : Ext (fun _ => False) G G1) {w : Value} (hw : IntSl G1 w (rowI n sets k)) (hb : ∀ b, Yq w = some b → G.length ≤ b) (hk1 : k < 2000) {K : Value → Yd → Prop}
    (hk : ∀ v' h', h'[p5]? = some (.cells [rv] 82 false) → one v' = true → RS n sets H0 p5 (h'.set p5 (.cells [v'] 82 false)) v' (ws ++ [w]) (k + 1) → K v' h') :
    Yz prog (G1 ++ [.cells [w] 22 false]) 82 82 rv (.slice (some ⟨G1.length, 0, none⟩) 1 1) K := by
  obtain ⟨G2, hG2⟩ : ∃ G2, G2 = G1 ++ [Blk.cells [w] 22 false] := ⟨_, rfl⟩
  have hval : ValSl G2 (.slice (some ⟨G1.length, 0, none⟩) 1 1) [w] := by
    rw [hG2]; exact .inr ⟨G1.length, 0, none, 1, [w], 22, false, rfl, Nat.le_refl _, by simp [view, Blk.view], rfl⟩
  have hE12 : Ext (fun _ => False) G1 G2 := by rw [hG2]; exact Ext.app _ _ _
  have hEa : Ext (fun _ => False) G G2 := hE.trans hE12
  have hl2 : G2.length = G1.length + 1 := by rw [hG2]; simp
  have hGG : G.length ≤ G1.length := hE.1
  rw [← hG2]
  have hlen := s.rows.len
  rw [List.length_map, List.length_range] at hlen
  have hHG : H0.length ≤ G.length := s.ext.1
  have hp := s.p
  refine (s.own.ext hEa).app app_82_82 hval (fun x hx => ?_) (by rw [hlen, List.length_singleton]; omega) fun v' h' ho hE2 hb2 => ?_
  · rcases List.mem_append.1 hx with hx | hx
    · obtain ⟨l, hl⟩ := s.rows.mem x hx; exact intSl_notI hl.1
    · rw [List.mem_singleton.1 hx]; exact intSl_notI hw
  have hE3 : Ext (fun i => Yq rv = some i) G h' := (hEa.mono fun _ h => h.elim).trans hE2
  have hrp : Yq rv ≠ some p5 := fun hc => by have := s.new _ hc; omega
  have hbox : h'[p5]? = some (.cells [rv] 82 false) := (hE3.2 p5 (Yx s.box) hrp).trans s.box
  have hvp : ∀ b, Yq v' = some b → H0.length ≤ b := fun b hc => by
    rcases hb2 with h1 | ⟨b', h1, h2⟩
    · exact s.new b (h1 ▸ hc)
    · rw [h1] at hc; cases hc; omega
  have hset : ∀ b, b ≠ p5 → (h'.set p5 (Blk.cells [v'] 82 false))[b]? = h'[b]? := fun b hne => List.getElem?_set_ne fun he => hne he.symm
  refine hk v' h' hbox (by rcases ho with ⟨rfl, _⟩ | ⟨b, ys, rfl, _⟩ <;> rfl) ⟨⟨by rw [List.length_set]; exact Nat.le_trans hHG hE3.1, fun i hi hne => ?_⟩, get_set (Yx hbox) _, ho.same fun b hc => hset b (by have := hvp b hc; omega), ?_, hvp, hp⟩
  · rw [hset i hne, hE3.2 i (by omega) (fun hc => by have := s.new _ hc; omega)]
    exact s.ext.2 i hi hne
  · rw [List.range_succ, List.map_append]
    refine Each.app (s.rows.imp fun x l ⟨hx, hxb⟩ => ⟨hx.same fun b hc => ?_, fun b hc => ⟨(hxb b hc).1, fun hc2 => ?_⟩⟩) ⟨⟨hw.same fun b hc => ?_, fun b hc => ⟨?_, fun hc2 => ?_⟩⟩, trivial⟩
    · rw [hset b (hxb b hc).1]
      exact hE3.2 b (hx.lt hc) (hxb b hc).2
    · rcases hb2 with h1 | ⟨b', h1, h2⟩
      · exact (hxb b hc).2 (h1 ▸ hc2)
      · rw [h1] at hc2; cases hc2
        have := hx.lt hc; omega
    · have h1 := hb b hc
      have h2 := hw.lt hc
      rw [hset b (by omega), hE2.2 b (by omega) (fun hc3 => by have := s.own.lt hc3; omega)]
      exact hE12.2 b h2 id
    · have := hb b hc; omega
    · have h1' := hb b hc
      have h2' := hw.lt hc
      rcases hb2 with h1 | ⟨b', h1, h2⟩
      · rw [h1] at hc2
        have := s.own.lt hc2; omega
      · rw [h1] at hc2; cases hc2; omega
theorem RS.nil {n : Nat} {sets : List Nat} (G0 : Yd) : RS n sets (G0 ++ [.cells [.slice none 0 0] 82 false]) G0.length (G0 ++ [.cells [.slice none 0 0] 82 false]) (.slice none 0 0) [] 0 :=
  ⟨Ext.refl _ _, Xa _ _, .inl ⟨rfl, rfl⟩, trivial, fun b hb => (by cases hb), by simp⟩
def bitsI (t i : Nat) : List Int := (List.range i).map fun j => if t.testBit j then 1 else 0
theorem bitsI_len (t i : Nat) : (bitsI t i).length = i := by simp [bitsI]
theorem bitsI_succ (t i : Nat) : bitsI t (i + 1) = bitsI t i ++ [if t.testBit i then 1 else 0] := by rw [bitsI, List.range_succ, List.map_append]; rfl
theorem row_set {n : Nat} {sets : List Nat} {k : Nat} (h : k < sets.length) : rowI n sets k = bitsI (sets.getD k 0) n ++ [1] := by
  rw [rowI, bitsI, if_pos h]
  congr 1
  refine List.map_congr_left fun i _ => by rw [if_pos h]
theorem row_unit {n : Nat} {sets : List Nat} {i : Nat} (h : i < n) : rowI n sets (sets.length + i) = (List.replicate (n + 1) (0 : Int)).set i 1 := by
  rw [rowI, if_neg (by omega)]
  refine List.ext_getElem (by simp) fun j h1 h2 => ?_
  rw [List.length_append, List.length_map, List.length_range, List.length_singleton] at h1
  rw [List.getElem_set]
  by_cases hj : j < n
  · rw [List.getElem_append_left (by simpa using hj), List.getElem_map, List.getElem_range, if_neg (by omega), Nat.add_sub_cancel_left, List.getElem_replicate]
    by_cases hij : j = i
    · rw [if_pos hij, if_pos hij.symm]
    · rw [if_neg hij, if_neg fun h => hij h.symm]
  · rw [List.getElem_append_right (by simpa using hj), if_neg (by omega), List.getElem_replicate]; simp
theorem ext_ge {S : Nat → Prop} {h a b : Yd} (h1 : Ext (fun _ => False) h a) (hs : ∀ i, S i → h.length ≤ i) (h2 : Ext S a b) : Ext (fun _ => False) h b :=
  ⟨Nat.le_trans h1.1 h2.1, fun i hi _ => (h2.2 i (Nat.lt_of_lt_of_le hi h1.1) fun hc => by have := hs i hc; omega).trans (h1.2 i hi id)⟩

theorem s61_callW [Tabs Tryd.prog] {args : List Value} {h : Yd} {Q : Value → Yd → Prop} (hsz : args.length ≤ 63) (hk : AWS Tryd.prog 63 s61 (Zv Tryd.prog [.cell 4 44] Q) (Zp 0 args) h) : ACall Tryd.prog 61 args h Q :=
  Xq Tryd.func61 rfl (enters_of Tryd.func61 (by kernel_rfl) rfl) rfl rfl (by decide) s61_strip s61_ok hsz hk
theorem packing_call [Tabs prog] {n : Nat} {sets : List Nat} {h : Yd} {v : Value} (hv : IntSl h v (sI sets)) (h0 : sets ≠ []) (n1 : 1 ≤ n) (n6 : n ≤ 6) (hs : ∀ s ∈ sets, s < 2 ^ n) (hl : sets.length < 1000) (hc : ∀ i, i < n → ∃ s ∈ sets, s.testBit i = true) :
    ACall prog 61 [Zy (n : Nat), v] h fun r h' => Ext (fun _ => False) h h' ∧ ∃ q, r = qV q ∧ IsOpt n sets q ∧ Att n sets q := by
  have hs64 : ∀ s ∈ sets, s < 64 := fun s hm => Nat.lt_of_lt_of_le (hs s hm) (show 2 ^ n ≤ 2 ^ 6 from Nat.pow_le_pow_right (by decide) n6)
  obtain ⟨H, hH⟩ : ∃ H, H = h ++ [Blk.cells [Zy (n : Nat)] 3 false] ++ [Blk.cells [v] 22 false] ++ [Blk.cells [.int .i64 0, .int .i64 0] 44 false] := ⟨_, rfl⟩
  have c2 : H[h.length]? = some (.cells [Zy (n : Nat)] 3 false) := by rw [hH]; simp
  have c3 : H[h.length + 1]? = some (.cells [v] 22 false) := by rw [hH]; simp
  have c4 : H[h.length + 2]? = some (.cells [.int .i64 0, .int .i64 0] 44 false) := by rw [hH]; simp
  have lH : H.length = h.length + 3 := by rw [hH]; simp
  have hEH : Ext (fun _ => False) h H := by rw [hH]; simp only [List.append_assoc]; exact Ext.app _ _ _
  have hvH : IntSl H v (sI sets) := Ys hv hEH
  refine s61_callW (by simp) ?_
  simp only [s61]
  refine Yc fun N1 hN1 => ?_
  simp (maxSteps := 2000000) only [s61, ↓Za, ↓Zk, ↓Zs, ↓Ze, ↓Zj, ↓Zt, ↓Zg, ↓Zm, ↓Zf, ↓Zc, ↓Zb, ↓vdn, vup, Zo, Zh, Zi, Zn, Zl, List.map_cons, List.map_nil, cond_true, cond_false, aop, Zw, Zr, Zp, ev, sput, Zu, Zz, Yb, unK, Zd, Zx, Nat.reduceBEq, Nat.reduceAdd, Int.reduceBEq, Int.reduceBNe, Int.reduceLT, Zv, Ya, tup, tyf, boxI, boxV22 hv, Xv, Wm, Vl, List.length_append, List.length_singleton, Nat.add_assoc, Nat.reduceAdd]
  rw [← hH]
  refine hN1 [(0, Zy (n : Nat)), (1, v), (2, .pointer (some ⟨h.length, 0, none⟩)), (3, .pointer (some ⟨h.length + 1, 0, none⟩)), (4, .pointer (some ⟨h.length + 2, 0, none⟩))] _ _ ?_ (by simp (maxSteps := 2000000) only [↓Za, ↓Zk, ↓Zs, ↓Ze, ↓Zj, ↓Zt, ↓Zg, ↓Zm, ↓Zf, ↓Zc, ↓Zb, ↓vdn, vup, Zo, Zh, Zi, Zn, Zl, List.map_cons, List.map_nil, cond_true, cond_false, aop, Zw, Zr, Zp, ev, sput, Zu, Zz, Yb, unK, Zd, Zx, Nat.reduceBEq, Nat.reduceAdd, Int.reduceBEq, Int.reduceBNe, Int.reduceLT, Zv, Ya, tup, tyf])
  clear hN1
  try clear N1
  refine Yc fun N2 hN2 => ?_
  simp (maxSteps := 2000000) only [s61, ↓Za, ↓Zk, ↓Zs, ↓Ze, ↓Zj, ↓Zt, ↓Zg, ↓Zm, ↓Zf, ↓Zc, ↓Zb, ↓vdn, vup, Zo, Zh, Zi, Zn, Zl, List.map_cons, List.map_nil, cond_true, cond_false, aop, Zw, Zr, Zp, ev, sput, Zu, Zz, Yb, unK, Zd, Zx, Nat.reduceBEq, Nat.reduceAdd, Int.reduceBEq, Int.reduceBNe, Int.reduceLT, Zv, Ya, tup, tyf, Wz c3 shp_22, Yv, List.nil_append, List.append_nil, List.toList_toArray, List.cons_append]
  refine (clone_rsi hvH (fun hc => h0 (by simpa [sI] using hc)) (by rw [sI_len]; omega)).mono ?_
  rintro w H1 hw1
  simp (maxSteps := 2000000) only [s61, ↓Za, ↓Zk, ↓Zs, ↓Ze, ↓Zj, ↓Zt, ↓Zg, ↓Zm, ↓Zf, ↓Zc, ↓Zb, ↓vdn, vup, Zo, Zh, Zi, Zn, Zl, List.map_cons, List.map_nil, cond_true, cond_false, aop, Zw, Zr, Zp, ev, sput, Zu, Zz, Yb, unK, Zd, Zx, Nat.reduceBEq, Nat.reduceAdd, Int.reduceBEq, Int.reduceBNe, Int.reduceLT, Zv, Ya, tup, tyf, List.map_toArray, Yv, List.nil_append, List.append_nil, List.toList_toArray, List.cons_append]
  have hbw : ∀ b, b < H.length → Yq w ≠ some b := fun b hb hc => by have := hw1.2.2 b hc; omega
  have keepG : ∀ {G : Yd}, Ext (fun b => Yq w = some b) H1 G → ∀ {b : Nat} {C : Blk}, H[b]? = some C → G[b]? = some C := fun {G} hG {b C} hb =>
    (hG.2 b (Yx ((hw1.2.1.2 b (Yx hb) id).trans hb)) (hbw b (Yx hb))).trans ((hw1.2.1.2 b (Yx hb) id).trans hb)
  have vG : ∀ {G : Yd}, Ext (fun b => Yq w = some b) H1 G → IntSl G v (sI sets) := fun {G} hG => hvH.same fun b hb => by
    have hl := hvH.lt hb
    obtain ⟨C, hC⟩ : ∃ C, H[b]? = some C := ⟨_, List.getElem?_eq_getElem hl⟩
    rw [keepG hG hC, hC]
  refine (delete_call (p := fun x => (sI sets).any (inB x.toNat)) hw1.1 (by rw [sI_len]; omega) fun G hG x hx => ?_).mono ?_
  · obtain ⟨s, hsm, rfl⟩ := List.mem_map.1 hx
    have := hs64 s hsm
    exact sub_call (keepG hG c3) (vG hG) (by rw [sI_len]; omega) (by omega) fun y hy => by
      obtain ⟨t, ht, rfl⟩ := List.mem_map.1 hy
      have := hs64 t ht
      exact ⟨t, rfl, by omega⟩
  rintro r H2 ⟨hr, hE2⟩
  rw [keep_ints] at hr
  have hkne : keepL sets ≠ [] := fun hc => by
    obtain ⟨i, hi⟩ := List.exists_mem_of_ne_nil _ h0
    obtain ⟨t, ht, _⟩ := kept_over hs _ i (Nat.le_refl _) hi
    rw [hc] at ht; cases ht
  have c3' := keepG hE2 c3
  simp (maxSteps := 2000000) only [s61, ↓Za, ↓Zk, ↓Zs, ↓Ze, ↓Zj, ↓Zt, ↓Zg, ↓Zm, ↓Zf, ↓Zc, ↓Zb, ↓vdn, vup, Zo, Zh, Zi, Zn, Zl, List.map_cons, List.map_nil, cond_true, cond_false, aop, Zw, Zr, Zp, ev, sput, Zu, Zz, Yb, unK, Zd, Zx, Nat.reduceBEq, Nat.reduceAdd, Int.reduceBEq, Int.reduceBNe, Int.reduceLT, Zv, Ya, tup, tyf, store1 c3' shp_22 (intSl_notI hr).2]
  have hrb := intSl_box hr (fun hc => hkne (by simpa [sI] using hc)) (vG hE2) c3'
  obtain ⟨G0, hG0⟩ : ∃ G0, G0 = H2.set (h.length + 1) (.cells [r] 22 false) := ⟨_, rfl⟩
  have hrG : IntSl G0 r (sI (keepL sets)) := hr.same fun b hb => by rw [hG0]; exact List.getElem?_set_ne fun he => hrb (by rw [he]; exact hb)
  rw [← hG0]
  refine hN2 [(0, Zy (n : Nat)), (1, v), (2, .pointer (some ⟨h.length, 0, none⟩)), (3, .pointer (some ⟨h.length + 1, 0, none⟩)), (4, .pointer (some ⟨h.length + 2, 0, none⟩))] _ _ ?_ (by simp (maxSteps := 2000000) only [↓Za, ↓Zk, ↓Zs, ↓Ze, ↓Zj, ↓Zt, ↓Zg, ↓Zm, ↓Zf, ↓Zc, ↓Zb, ↓vdn, vup, Zo, Zh, Zi, Zn, Zl, List.map_cons, List.map_nil, cond_true, cond_false, aop, Zw, Zr, Zp, ev, sput, Zu, Zz, Yb, unK, Zd, Zx, Nat.reduceBEq, Nat.reduceAdd, Int.reduceBEq, Int.reduceBNe, Int.reduceLT, Zv, Ya, tup, tyf])
  clear hN2
  try clear N2
  have keep0 : ∀ {b : Nat} {C : Blk}, H[b]? = some C → b ≠ h.length + 1 → G0[b]? = some C := fun {b C} hb hn => by
    rw [hG0, List.getElem?_set_ne fun he => hn he.symm]; exact keepG hE2 hb
  have hl0 : H.length ≤ G0.length := by rw [hG0, List.length_set]; exact Nat.le_trans hw1.2.1.1 hE2.1
  refine Yc fun N3 hN3 => ?_
  simp (maxSteps := 2000000) only [s61, ↓Za, ↓Zk, ↓Zs, ↓Ze, ↓Zj, ↓Zt, ↓Zg, ↓Zm, ↓Zf, ↓Zc, ↓Zb, ↓vdn, vup, Zo, Zh, Zi, Zn, Zl, List.map_cons, List.map_nil, cond_true, cond_false, aop, Zw, Zr, Zp, ev, sput, Zu, Zz, Yb, unK, Zd, Zx, Nat.reduceBEq, Nat.reduceAdd, Int.reduceBEq, Int.reduceBNe, Int.reduceLT, Zv, Ya, tup, tyf, Wm, Xv, zero_82]
  have s0 : RS n (keepL sets) (G0 ++ [Blk.cells [.slice none 0 0] 82 false]) G0.length (G0 ++ [Blk.cells [.slice none 0 0] 82 false]) (.slice none 0 0) [] 0 := RS.nil G0
  obtain ⟨H0, hH0⟩ : ∃ H0, H0 = G0 ++ [Blk.cells [.slice none 0 0] 82 false] := ⟨_, rfl⟩
  rw [← hH0] at s0 ⊢
  refine hN3 [(0, Zy (n : Nat)), (1, v), (2, .pointer (some ⟨h.length, 0, none⟩)), (3, .pointer (some ⟨h.length + 1, 0, none⟩)), (4, .pointer (some ⟨h.length + 2, 0, none⟩)), (5, .pointer (some ⟨G0.length, 0, none⟩))] _ _ ?_ (by simp (maxSteps := 2000000) only [↓Za, ↓Zk, ↓Zs, ↓Ze, ↓Zj, ↓Zt, ↓Zg, ↓Zm, ↓Zf, ↓Zc, ↓Zb, ↓vdn, vup, Zo, Zh, Zi, Zn, Zl, List.map_cons, List.map_nil, cond_true, cond_false, aop, Zw, Zr, Zp, ev, sput, Zu, Zz, Yb, unK, Zd, Zx, Nat.reduceBEq, Nat.reduceAdd, Int.reduceBEq, Int.reduceBNe, Int.reduceLT, Zv, Ya, tup, tyf])
  clear hN3
  try clear N3
  have hE00 : Ext (fun _ => False) G0 H0 := by rw [hH0]; exact Ext.app _ _ _
  have up : ∀ {b : Nat} {C : Blk}, G0[b]? = some C → H0[b]? = some C := fun {b C} hb => (hE00.2 b (Yx hb) id).trans hb
  have e2 := up (keep0 c2 (by omega))
  have e3 : H0[h.length + 1]? = some (.cells [r] 22 false) := up (by rw [hG0]; exact get_set (Yx c3') _)
  have e4 := up (keep0 c4 (by omega))
  have hrH : IntSl H0 r (sI (keepL sets)) := hrG.same fun b hb => hE00.2 b (hrG.lt hb) id
  have hr5 : Yq r ≠ some G0.length := fun hc => by have := hrG.lt hc; omega
  obtain ⟨K, hK⟩ : ∃ K, keepL sets = K := ⟨_, rfl⟩
  have hKl : K.length ≤ sets.length := by rw [← hK, keepL]; exact List.length_filter_le ..
  have hKm : ∀ t ∈ K, t ∈ sets := fun t ht => by rw [← hK] at ht; exact (List.mem_filter.1 ht).1
  rw [hK] at s0 hrH
  refine Yf fun Z hZ => ?_
  refine Yc fun N4 hN4 => ?_
  simp (maxSteps := 2000000) only [s61, ↓Za, ↓Zk, ↓Zs, ↓Ze, ↓Zj, ↓Zt, ↓Zg, ↓Zm, ↓Zf, ↓Zc, ↓Zb, ↓vdn, vup, Zo, Zh, Zi, Zn, Zl, List.map_cons, List.map_nil, cond_true, cond_false, aop, Zw, Zr, Zp, ev, sput, Zu, Zz, Yb, unK, Zd, Zx, Nat.reduceBEq, Nat.reduceAdd, Int.reduceBEq, Int.reduceBNe, Int.reduceLT, Zv, Ya, tup, tyf, Wz e3 shp_22, hrH.len, sI_len]
  refine hN4 [(0, Zy (n : Nat)), (1, v), (2, .pointer (some ⟨h.length, 0, none⟩)), (3, .pointer (some ⟨h.length + 1, 0, none⟩)), (4, .pointer (some ⟨h.length + 2, 0, none⟩)), (5, .pointer (some ⟨G0.length, 0, none⟩)), (18, r), (19, Zy K.length), (20, .int .i64 0)] _ _ ?_ (by simp (maxSteps := 2000000) only [↓Za, ↓Zk, ↓Zs, ↓Ze, ↓Zj, ↓Zt, ↓Zg, ↓Zm, ↓Zf, ↓Zc, ↓Zb, ↓vdn, vup, Zo, Zh, Zi, Zn, Zl, List.map_cons, List.map_nil, cond_true, cond_false, aop, Zw, Zr, Zp, ev, sput, Zu, Zz, Yb, unK, Zd, Zx, Nat.reduceBEq, Nat.reduceAdd, Int.reduceBEq, Int.reduceBNe, Int.reduceLT, Zv, Ya, tup, tyf])
  clear hN4
  try clear N4
  refine Ym ?_
  refine Yg fun Q hQ => ?_
  refine Xu (γ := Nat × Yd × Value × List Value) (fun g => g.1 ≤ K.length ∧ RS n K H0 G0.length g.2.1 g.2.2.1 g.2.2.2 g.1)
    (fun g => ([(0, Zy (n : Nat)), (1, v), (2, .pointer (some ⟨h.length, 0, none⟩)), (3, .pointer (some ⟨h.length + 1, 0, none⟩)), (4, .pointer (some ⟨h.length + 2, 0, none⟩)), (5, .pointer (some ⟨G0.length, 0, none⟩)), (18, r), (19, Zy K.length), (20, Zy (g.1 : Nat))], g.2.1)) (fun g => K.length - g.1) (0, H0, .slice none 0 0, []) ⟨Nat.zero_le _, s0⟩ (by simp (maxSteps := 2000000) only [↓Za, ↓Zk, ↓Zs, ↓Ze, ↓Zj, ↓Zt, ↓Zg, ↓Zm, ↓Zf, ↓Zc, ↓Zb, ↓vdn, vup, Zo, Zh, Zi, Zn, Zl, List.map_cons, List.map_nil, cond_true, cond_false, aop, Zw, Zr, Zp, ev, sput, Zu, Zz, Yb, unK, Zd, Zx, Nat.reduceBEq, Nat.reduceAdd, Int.reduceBEq, Int.reduceBNe, Int.reduceLT, Zv, Ya, tup, tyf, Int.natCast_zero]) rfl ?_
  rintro ⟨k, G, rv, ws⟩ ⟨hk, s⟩
  simp only at hk s
  refine Yg fun Q2 hQ2 => ?_
  simp only [l61_1]
  by_cases hkn : (k : Int) < K.length
  · have hk' : k < K.length := by omega
    have hkS : k < (sI K).length := by rw [sI_len]; exact hk'
    obtain ⟨t, ht⟩ : ∃ t, K.getD k 0 = t := ⟨_, rfl⟩
    have htm : t ∈ K := ht ▸ getD_in hk'
    have ht64 := hs64 t (hKm t htm)
    have htest := fun y => @testV t y (by omega)
    have hrGk := ints_but hrH hr5 s.ext
    have e2G := s.keep e2 (by omega)
    have hsg : (sI K).getD k 0 = ((t : Nat) : Int) := by rw [← ht, sI, List.getD, List.getElem?_map, List.getD, List.getElem?_eq_getElem hk']; rfl
    refine Yc fun N5 hN5 => ?_
    simp (maxSteps := 2000000) only [s61, ↓Za, ↓Zk, ↓Zs, ↓Ze, ↓Zj, ↓Zt, ↓Zg, ↓Zm, ↓Zf, ↓Zc, ↓Zb, ↓vdn, vup, Zo, Zh, Zi, Zn, Zl, List.map_cons, List.map_nil, cond_true, cond_false, aop, Zw, Zr, Zp, ev, sput, Zu, Zz, Yb, unK, Zd, Zx, Nat.reduceBEq, Nat.reduceAdd, Int.reduceBEq, Int.reduceBNe, Int.reduceLT, Zv, Ya, tup, tyf, hkn]
    refine hN5 [(0, Zy (n : Nat)), (1, v), (2, .pointer (some ⟨h.length, 0, none⟩)), (3, .pointer (some ⟨h.length + 1, 0, none⟩)), (4, .pointer (some ⟨h.length + 2, 0, none⟩)), (5, .pointer (some ⟨G0.length, 0, none⟩)), (18, r), (19, Zy K.length), (20, Zy (k : Nat)), (21, .bool true)] _ _ ?_ (by simp (maxSteps := 2000000) only [↓Za, ↓Zk, ↓Zs, ↓Ze, ↓Zj, ↓Zt, ↓Zg, ↓Zm, ↓Zf, ↓Zc, ↓Zb, ↓vdn, vup, Zo, Zh, Zi, Zn, Zl, List.map_cons, List.map_nil, cond_true, cond_false, aop, Zw, Zr, Zp, ev, sput, Zu, Zz, Yb, unK, Zd, Zx, Nat.reduceBEq, Nat.reduceAdd, Int.reduceBEq, Int.reduceBNe, Int.reduceLT, Zv, Ya, tup, tyf])
    clear hN5
    try clear N5
    refine Yc fun N6 hN6 => ?_
    simp (maxSteps := 2000000) only [s61, ↓Za, ↓Zk, ↓Zs, ↓Ze, ↓Zj, ↓Zt, ↓Zg, ↓Zm, ↓Zf, ↓Zc, ↓Zb, ↓vdn, vup, Zo, Zh, Zi, Zn, Zl, List.map_cons, List.map_nil, cond_true, cond_false, aop, Zw, Zr, Zp, ev, sput, Zu, Zz, Yb, unK, Zd, Zx, Nat.reduceBEq, Nat.reduceAdd, Int.reduceBEq, Int.reduceBNe, Int.reduceLT, Zv, Ya, tup, tyf]
    refine hN6 [(0, Zy (n : Nat)), (1, v), (2, .pointer (some ⟨h.length, 0, none⟩)), (3, .pointer (some ⟨h.length + 1, 0, none⟩)), (4, .pointer (some ⟨h.length + 2, 0, none⟩)), (5, .pointer (some ⟨G0.length, 0, none⟩)), (18, r), (19, Zy K.length), (20, Zy (k : Nat))] _ _ ?_ (by simp (maxSteps := 2000000) only [↓Za, ↓Zk, ↓Zs, ↓Ze, ↓Zj, ↓Zt, ↓Zg, ↓Zm, ↓Zf, ↓Zc, ↓Zb, ↓vdn, vup, Zo, Zh, Zi, Zn, Zl, List.map_cons, List.map_nil, cond_true, cond_false, aop, Zw, Zr, Zp, ev, sput, Zu, Zz, Yb, unK, Zd, Zx, Nat.reduceBEq, Nat.reduceAdd, Int.reduceBEq, Int.reduceBNe, Int.reduceLT, Zv, Ya, tup, tyf])
    clear hN6
    try clear N6
    refine Yf fun B hB => ?_
    refine Ym ?_
    refine Yc fun N7 hN7 => ?_
    simp (maxSteps := 2000000) only [s61, ↓Za, ↓Zk, ↓Zs, ↓Ze, ↓Zj, ↓Zt, ↓Zg, ↓Zm, ↓Zf, ↓Zc, ↓Zb, ↓vdn, vup, Zo, Zh, Zi, Zn, Zl, List.map_cons, List.map_nil, cond_true, cond_false, aop, Zw, Zr, Zp, ev, sput, Zu, Zz, Yb, unK, Zd, Zx, Nat.reduceBEq, Nat.reduceAdd, Int.reduceBEq, Int.reduceBNe, Int.reduceLT, Zv, Ya, tup, tyf, hrGk.idx We Xk hkS, hrGk.load Xj hkS, hsg]
    refine hN7 [(0, Zy (n : Nat)), (1, v), (2, .pointer (some ⟨h.length, 0, none⟩)), (3, .pointer (some ⟨h.length + 1, 0, none⟩)), (4, .pointer (some ⟨h.length + 2, 0, none⟩)), (5, .pointer (some ⟨G0.length, 0, none⟩)), (7, Zy (t : Nat)), (18, r), (19, Zy K.length), (20, Zy (k : Nat))] _ _ ?_ (by simp (maxSteps := 2000000) only [↓Za, ↓Zk, ↓Zs, ↓Ze, ↓Zj, ↓Zt, ↓Zg, ↓Zm, ↓Zf, ↓Zc, ↓Zb, ↓vdn, vup, Zo, Zh, Zi, Zn, Zl, List.map_cons, List.map_nil, cond_true, cond_false, aop, Zw, Zr, Zp, ev, sput, Zu, Zz, Yb, unK, Zd, Zx, Nat.reduceBEq, Nat.reduceAdd, Int.reduceBEq, Int.reduceBNe, Int.reduceLT, Zv, Ya, tup, tyf])
    clear hN7
    try clear N7
    refine Yc fun N8 hN8 => ?_
    simp (maxSteps := 2000000) only [s61, ↓Za, ↓Zk, ↓Zs, ↓Ze, ↓Zj, ↓Zt, ↓Zg, ↓Zm, ↓Zf, ↓Zc, ↓Zb, ↓vdn, vup, Zo, Zh, Zi, Zn, Zl, List.map_cons, List.map_nil, cond_true, cond_false, aop, Zw, Zr, Zp, ev, sput, Zu, Zz, Yb, unK, Zd, Zx, Nat.reduceBEq, Nat.reduceAdd, Int.reduceBEq, Int.reduceBNe, Int.reduceLT, Zv, Ya, tup, tyf]
    refine hN8 [(0, Zy (n : Nat)), (1, v), (2, .pointer (some ⟨h.length, 0, none⟩)), (3, .pointer (some ⟨h.length + 1, 0, none⟩)), (4, .pointer (some ⟨h.length + 2, 0, none⟩)), (5, .pointer (some ⟨G0.length, 0, none⟩)), (7, Zy (t : Nat)), (8, .slice none 0 0), (18, r), (19, Zy K.length), (20, Zy (k : Nat))] _ _ ?_ (by simp (maxSteps := 2000000) only [↓Za, ↓Zk, ↓Zs, ↓Ze, ↓Zj, ↓Zt, ↓Zg, ↓Zm, ↓Zf, ↓Zc, ↓Zb, ↓vdn, vup, Zo, Zh, Zi, Zn, Zl, List.map_cons, List.map_nil, cond_true, cond_false, aop, Zw, Zr, Zp, ev, sput, Zu, Zz, Yb, unK, Zd, Zx, Nat.reduceBEq, Nat.reduceAdd, Int.reduceBEq, Int.reduceBNe, Int.reduceLT, Zv, Ya, tup, tyf])
    clear hN8
    try clear N8
    refine Yf fun A hA => ?_
    refine Yc fun N9 hN9 => ?_
    simp (maxSteps := 2000000) only [s61, ↓Za, ↓Zk, ↓Zs, ↓Ze, ↓Zj, ↓Zt, ↓Zg, ↓Zm, ↓Zf, ↓Zc, ↓Zb, ↓vdn, vup, Zo, Zh, Zi, Zn, Zl, List.map_cons, List.map_nil, cond_true, cond_false, aop, Zw, Zr, Zp, ev, sput, Zu, Zz, Yb, unK, Zd, Zx, Nat.reduceBEq, Nat.reduceAdd, Int.reduceBEq, Int.reduceBNe, Int.reduceLT, Zv, Ya, tup, tyf, Wz e2G Xj]
    refine hN9 [(0, Zy (n : Nat)), (1, v), (2, .pointer (some ⟨h.length, 0, none⟩)), (3, .pointer (some ⟨h.length + 1, 0, none⟩)), (4, .pointer (some ⟨h.length + 2, 0, none⟩)), (5, .pointer (some ⟨G0.length, 0, none⟩)), (7, Zy (t : Nat)), (8, .slice none 0 0), (18, r), (19, Zy K.length), (20, Zy (k : Nat)), (24, Zy (n : Nat)), (25, .int .i64 0)] _ _ ?_ (by simp (maxSteps := 2000000) only [↓Za, ↓Zk, ↓Zs, ↓Ze, ↓Zj, ↓Zt, ↓Zg, ↓Zm, ↓Zf, ↓Zc, ↓Zb, ↓vdn, vup, Zo, Zh, Zi, Zn, Zl, List.map_cons, List.map_nil, cond_true, cond_false, aop, Zw, Zr, Zp, ev, sput, Zu, Zz, Yb, unK, Zd, Zx, Nat.reduceBEq, Nat.reduceAdd, Int.reduceBEq, Int.reduceBNe, Int.reduceLT, Zv, Ya, tup, tyf])
    clear hN9
    try clear N9
    refine Ym ?_
    refine Yg fun Qa hQa => ?_
    refine Xu (γ := Nat × Value × Yd) (fun g => g.1 ≤ n ∧ RSI G g.2.2 g.2.1 (bitsI t g.1))
      (fun g => ([(0, Zy (n : Nat)), (1, v), (2, .pointer (some ⟨h.length, 0, none⟩)), (3, .pointer (some ⟨h.length + 1, 0, none⟩)), (4, .pointer (some ⟨h.length + 2, 0, none⟩)), (5, .pointer (some ⟨G0.length, 0, none⟩)), (7, Zy (t : Nat)), (8, g.2.1), (18, r), (19, Zy K.length), (20, Zy (k : Nat)), (24, Zy (n : Nat)), (25, Zy (g.1 : Nat))], g.2.2)) (fun g => n - g.1) (0, .slice none 0 0, G) ⟨Nat.zero_le _, RSI.nil G⟩ (by simp (maxSteps := 2000000) only [↓Za, ↓Zk, ↓Zs, ↓Ze, ↓Zj, ↓Zt, ↓Zg, ↓Zm, ↓Zf, ↓Zc, ↓Zb, ↓vdn, vup, Zo, Zh, Zi, Zn, Zl, List.map_cons, List.map_nil, cond_true, cond_false, aop, Zw, Zr, Zp, ev, sput, Zu, Zz, Yb, unK, Zd, Zx, Nat.reduceBEq, Nat.reduceAdd, Int.reduceBEq, Int.reduceBNe, Int.reduceLT, Zv, Ya, tup, tyf, Int.natCast_zero]) rfl ?_
    rintro ⟨i, bv, G1⟩ ⟨hi, hbv⟩
    simp only at hi hbv
    refine Yg fun Qb hQb => ?_
    simp only [l61_0]
    by_cases hin : (i : Int) < n
    · have hi' : i < n := by omega
      refine Yc fun N10 hN10 => ?_
      simp (maxSteps := 2000000) only [s61, ↓Za, ↓Zk, ↓Zs, ↓Ze, ↓Zj, ↓Zt, ↓Zg, ↓Zm, ↓Zf, ↓Zc, ↓Zb, ↓vdn, vup, Zo, Zh, Zi, Zn, Zl, List.map_cons, List.map_nil, cond_true, cond_false, aop, Zw, Zr, Zp, ev, sput, Zu, Zz, Yb, unK, Zd, Zx, Nat.reduceBEq, Nat.reduceAdd, Int.reduceBEq, Int.reduceBNe, Int.reduceLT, Zv, Ya, tup, tyf, hin]
      refine hN10 [(0, Zy (n : Nat)), (1, v), (2, .pointer (some ⟨h.length, 0, none⟩)), (3, .pointer (some ⟨h.length + 1, 0, none⟩)), (4, .pointer (some ⟨h.length + 2, 0, none⟩)), (5, .pointer (some ⟨G0.length, 0, none⟩)), (7, Zy (t : Nat)), (8, bv), (18, r), (19, Zy K.length), (20, Zy (k : Nat)), (24, Zy (n : Nat)), (25, Zy (i : Nat)), (26, .bool true)] _ _ ?_ (by simp (maxSteps := 2000000) only [↓Za, ↓Zk, ↓Zs, ↓Ze, ↓Zj, ↓Zt, ↓Zg, ↓Zm, ↓Zf, ↓Zc, ↓Zb, ↓vdn, vup, Zo, Zh, Zi, Zn, Zl, List.map_cons, List.map_nil, cond_true, cond_false, aop, Zw, Zr, Zp, ev, sput, Zu, Zz, Yb, unK, Zd, Zx, Nat.reduceBEq, Nat.reduceAdd, Int.reduceBEq, Int.reduceBNe, Int.reduceLT, Zv, Ya, tup, tyf])
      clear hN10
      try clear N10
      refine Yc fun N11 hN11 => ?_
      simp (maxSteps := 2000000) only [s61, ↓Za, ↓Zk, ↓Zs, ↓Ze, ↓Zj, ↓Zt, ↓Zg, ↓Zm, ↓Zf, ↓Zc, ↓Zb, ↓vdn, vup, Zo, Zh, Zi, Zn, Zl, List.map_cons, List.map_nil, cond_true, cond_false, aop, Zw, Zr, Zp, ev, sput, Zu, Zz, Yb, unK, Zd, Zx, Nat.reduceBEq, Nat.reduceAdd, Int.reduceBEq, Int.reduceBNe, Int.reduceLT, Zv, Ya, tup, tyf]
      refine hN11 [(0, Zy (n : Nat)), (1, v), (2, .pointer (some ⟨h.length, 0, none⟩)), (3, .pointer (some ⟨h.length + 1, 0, none⟩)), (4, .pointer (some ⟨h.length + 2, 0, none⟩)), (5, .pointer (some ⟨G0.length, 0, none⟩)), (7, Zy (t : Nat)), (8, bv), (18, r), (19, Zy K.length), (20, Zy (k : Nat)), (24, Zy (n : Nat)), (25, Zy (i : Nat))] _ _ ?_ (by simp (maxSteps := 2000000) only [↓Za, ↓Zk, ↓Zs, ↓Ze, ↓Zj, ↓Zt, ↓Zg, ↓Zm, ↓Zf, ↓Zc, ↓Zb, ↓vdn, vup, Zo, Zh, Zi, Zn, Zl, List.map_cons, List.map_nil, cond_true, cond_false, aop, Zw, Zr, Zp, ev, sput, Zu, Zz, Yb, unK, Zd, Zx, Nat.reduceBEq, Nat.reduceAdd, Int.reduceBEq, Int.reduceBNe, Int.reduceLT, Zv, Ya, tup, tyf])
      clear hN11
      try clear N11
      refine Yf fun D hD => ?_
      refine Ym ?_
      refine Yc fun N12 hN12 => ?_
      simp (maxSteps := 2000000) only [s61, ↓Za, ↓Zk, ↓Zs, ↓Ze, ↓Zj, ↓Zt, ↓Zg, ↓Zm, ↓Zf, ↓Zc, ↓Zb, ↓vdn, vup, Zo, Zh, Zi, Zn, Zl, List.map_cons, List.map_nil, cond_true, cond_false, aop, Zw, Zr, Zp, ev, sput, Zu, Zz, Yb, unK, Zd, Zx, Nat.reduceBEq, Nat.reduceAdd, Int.reduceBEq, Int.reduceBNe, Int.reduceLT, Zv, Ya, tup, tyf]
      refine hN12 [(0, Zy (n : Nat)), (1, v), (2, .pointer (some ⟨h.length, 0, none⟩)), (3, .pointer (some ⟨h.length + 1, 0, none⟩)), (4, .pointer (some ⟨h.length + 2, 0, none⟩)), (5, .pointer (some ⟨G0.length, 0, none⟩)), (7, Zy (t : Nat)), (8, bv), (9, Zy (i : Nat)), (18, r), (19, Zy K.length), (20, Zy (k : Nat)), (24, Zy (n : Nat)), (25, Zy (i : Nat))] _ _ ?_ (by simp (maxSteps := 2000000) only [↓Za, ↓Zk, ↓Zs, ↓Ze, ↓Zj, ↓Zt, ↓Zg, ↓Zm, ↓Zf, ↓Zc, ↓Zb, ↓vdn, vup, Zo, Zh, Zi, Zn, Zl, List.map_cons, List.map_nil, cond_true, cond_false, aop, Zw, Zr, Zp, ev, sput, Zu, Zz, Yb, unK, Zd, Zx, Nat.reduceBEq, Nat.reduceAdd, Int.reduceBEq, Int.reduceBNe, Int.reduceLT, Zv, Ya, tup, tyf])
      clear hN12
      try clear N12
      refine Ye ?_
      simp (maxSteps := 2000000) only [s61, ↓Za, ↓Zk, ↓Zs, ↓Ze, ↓Zj, ↓Zt, ↓Zg, ↓Zm, ↓Zf, ↓Zc, ↓Zb, ↓vdn, vup, Zo, Zh, Zi, Zn, Zl, List.map_cons, List.map_nil, cond_true, cond_false, aop, Zw, Zr, Zp, ev, sput, Zu, Zz, Yb, unK, Zd, Zx, Nat.reduceBEq, Nat.reduceAdd, Int.reduceBEq, Int.reduceBNe, Int.reduceLT, Zv, Ya, tup, tyf, Int.natCast_nonneg, htest, List.map_toArray, litI1]
      refine hbv.push (by rw [bitsI_len]; omega) fun bv' G2 hbv' => ?_
      rw [← bitsI_succ] at hbv'
      refine hD [(0, Zy (n : Nat)), (1, v), (2, .pointer (some ⟨h.length, 0, none⟩)), (3, .pointer (some ⟨h.length + 1, 0, none⟩)), (4, .pointer (some ⟨h.length + 2, 0, none⟩)), (5, .pointer (some ⟨G0.length, 0, none⟩)), (7, Zy (t : Nat)), (8, bv'), (18, r), (19, Zy K.length), (20, Zy (k : Nat)), (24, Zy (n : Nat)), (25, Zy (i : Nat))] _ _ ?_ (by simp (maxSteps := 2000000) only [↓Za, ↓Zk, ↓Zs, ↓Ze, ↓Zj, ↓Zt, ↓Zg, ↓Zm, ↓Zf, ↓Zc, ↓Zb, ↓vdn, vup, Zo, Zh, Zi, Zn, Zl, List.map_cons, List.map_nil, cond_true, cond_false, aop, Zw, Zr, Zp, ev, sput, Zu, Zz, Yb, unK, Zd, Zx, Nat.reduceBEq, Nat.reduceAdd, Int.reduceBEq, Int.reduceBNe, Int.reduceLT, Zv, Ya, tup, tyf])
      clear hD
      try clear D
      refine Ye ?_
      simp (maxSteps := 2000000) only [s61, ↓Za, ↓Zk, ↓Zs, ↓Ze, ↓Zj, ↓Zt, ↓Zg, ↓Zm, ↓Zf, ↓Zc, ↓Zb, ↓vdn, vup, Zo, Zh, Zi, Zn, Zl, List.map_cons, List.map_nil, cond_true, cond_false, aop, Zw, Zr, Zp, ev, sput, Zu, Zz, Yb, unK, Zd, Zx, Nat.reduceBEq, Nat.reduceAdd, Int.reduceBEq, Int.reduceBNe, Int.reduceLT, Zv, Ya, tup, tyf, add1 (show i < 9223372036854775807 by omega)]
      exact hQb _ _ _ ⟨(i + 1, bv', G2), ⟨hi', hbv'⟩, by simp only; omega, by simp (maxSteps := 2000000) only [↓Za, ↓Zk, ↓Zs, ↓Ze, ↓Zj, ↓Zt, ↓Zg, ↓Zm, ↓Zf, ↓Zc, ↓Zb, ↓vdn, vup, Zo, Zh, Zi, Zn, Zl, List.map_cons, List.map_nil, cond_true, cond_false, aop, Zw, Zr, Zp, ev, sput, Zu, Zz, Yb, unK, Zd, Zx, Nat.reduceBEq, Nat.reduceAdd, Int.reduceBEq, Int.reduceBNe, Int.reduceLT, Zv, Ya, tup, tyf], rfl⟩
    obtain rfl : n = i := by omega
    refine Yc fun N13 hN13 => ?_
    simp (maxSteps := 2000000) only [s61, ↓Za, ↓Zk, ↓Zs, ↓Ze, ↓Zj, ↓Zt, ↓Zg, ↓Zm, ↓Zf, ↓Zc, ↓Zb, ↓vdn, vup, Zo, Zh, Zi, Zn, Zl, List.map_cons, List.map_nil, cond_true, cond_false, aop, Zw, Zr, Zp, ev, sput, Zu, Zz, Yb, unK, Zd, Zx, Nat.reduceBEq, Nat.reduceAdd, Int.reduceBEq, Int.reduceBNe, Int.reduceLT, Zv, Ya, tup, tyf, hin]
    refine hN13 [(0, Zy (n : Nat)), (1, v), (2, .pointer (some ⟨h.length, 0, none⟩)), (3, .pointer (some ⟨h.length + 1, 0, none⟩)), (4, .pointer (some ⟨h.length + 2, 0, none⟩)), (5, .pointer (some ⟨G0.length, 0, none⟩)), (7, Zy (t : Nat)), (8, bv), (18, r), (19, Zy K.length), (20, Zy (k : Nat)), (24, Zy (n : Nat)), (25, Zy (n : Nat)), (26, .bool false)] _ _ ?_ (by simp (maxSteps := 2000000) only [↓Za, ↓Zk, ↓Zs, ↓Ze, ↓Zj, ↓Zt, ↓Zg, ↓Zm, ↓Zf, ↓Zc, ↓Zb, ↓vdn, vup, Zo, Zh, Zi, Zn, Zl, List.map_cons, List.map_nil, cond_true, cond_false, aop, Zw, Zr, Zp, ev, sput, Zu, Zz, Yb, unK, Zd, Zx, Nat.reduceBEq, Nat.reduceAdd, Int.reduceBEq, Int.reduceBNe, Int.reduceLT, Zv, Ya, tup, tyf])
    clear hN13
    try clear N13
    refine Yc fun N14 hN14 => ?_
    simp (maxSteps := 2000000) only [s61, ↓Za, ↓Zk, ↓Zs, ↓Ze, ↓Zj, ↓Zt, ↓Zg, ↓Zm, ↓Zf, ↓Zc, ↓Zb, ↓vdn, vup, Zo, Zh, Zi, Zn, Zl, List.map_cons, List.map_nil, cond_true, cond_false, aop, Zw, Zr, Zp, ev, sput, Zu, Zz, Yb, unK, Zd, Zx, Nat.reduceBEq, Nat.reduceAdd, Int.reduceBEq, Int.reduceBNe, Int.reduceLT, Zv, Ya, tup, tyf]
    refine hQb _ _ _ (hQa _ _ _ ?_)
    simp (maxSteps := 2000000) only [s61, ↓Za, ↓Zk, ↓Zs, ↓Ze, ↓Zj, ↓Zt, ↓Zg, ↓Zm, ↓Zf, ↓Zc, ↓Zb, ↓vdn, vup, Zo, Zh, Zi, Zn, Zl, List.map_cons, List.map_nil, cond_true, cond_false, aop, Zw, Zr, Zp, ev, sput, Zu, Zz, Yb, unK, Zd, Zx, Nat.reduceBEq, Nat.reduceAdd, Int.reduceBEq, Int.reduceBNe, Int.reduceLT, Zv, Ya, tup, tyf, if_true]
    refine hA [(0, Zy (n : Nat)), (1, v), (2, .pointer (some ⟨h.length, 0, none⟩)), (3, .pointer (some ⟨h.length + 1, 0, none⟩)), (4, .pointer (some ⟨h.length + 2, 0, none⟩)), (5, .pointer (some ⟨G0.length, 0, none⟩)), (7, Zy (t : Nat)), (8, bv), (18, r), (19, Zy K.length), (20, Zy (k : Nat))] _ _ ?_ (by simp (maxSteps := 2000000) only [↓Za, ↓Zk, ↓Zs, ↓Ze, ↓Zj, ↓Zt, ↓Zg, ↓Zm, ↓Zf, ↓Zc, ↓Zb, ↓vdn, vup, Zo, Zh, Zi, Zn, Zl, List.map_cons, List.map_nil, cond_true, cond_false, aop, Zw, Zr, Zp, ev, sput, Zu, Zz, Yb, unK, Zd, Zx, Nat.reduceBEq, Nat.reduceAdd, Int.reduceBEq, Int.reduceBNe, Int.reduceLT, Zv, Ya, tup, tyf])
    clear hA
    try clear A
    clear hQa hQb
    have hb1 : G1[G0.length]? = some (.cells [rv] 82 false) := (hbv.2.1.2 _ (Yx s.box) id).trans s.box
    refine Ye ?_
    simp only [q61_12]
    refine aw_drawR (fun z => z[G0.length]? = some (.cells [rv] 82 false)) [(0, 5), (6, 6)] (by kernel_rfl) (by kernel_rfl) (by kernel_rfl) (by kernel_rfl) hb1 ?_
    simp (maxSteps := 2000000) only [s61, ↓Za, ↓Zk, ↓Zs, ↓Ze, ↓Zj, ↓Zt, ↓Zg, ↓Zm, ↓Zf, ↓Zc, ↓Zb, ↓vdn, vup, Zo, Zh, Zi, Zn, Zl, List.map_cons, List.map_nil, cond_true, cond_false, aop, Zw, Zr, Zp, ev, sput, Zu, Zz, Yb, unK, Zd, Zx, Nat.reduceBEq, Nat.reduceAdd, Int.reduceBEq, Int.reduceBNe, Int.reduceLT, Zv, Ya, tup, tyf, Nat.reduceLT, Bool.false_or, Bool.true_or]
    refine ⟨rv, fun hp hhp => by simp only [Wz hhp shp_82], ?_⟩
    simp (maxSteps := 2000000) only [s61, ↓Za, ↓Zk, ↓Zs, ↓Ze, ↓Zj, ↓Zt, ↓Zg, ↓Zm, ↓Zf, ↓Zc, ↓Zb, ↓vdn, vup, Zo, Zh, Zi, Zn, Zl, List.map_cons, List.map_nil, cond_true, cond_false, aop, Zw, Zr, Zp, ev, sput, Zu, Zz, Yb, unK, Zd, Zx, Nat.reduceBEq, Nat.reduceAdd, Int.reduceBEq, Int.reduceBNe, Int.reduceLT, Zv, Ya, tup, tyf, Nat.reduceLT, Bool.false_or, Bool.true_or, List.map_toArray, litI1]
    refine ⟨Vd hb1 _, ?_⟩
    refine hbv.push (by rw [bitsI_len]; omega) fun w G2 hw => ?_
    have hb2 : G2[G0.length]? = some (.cells [rv] 82 false) := (hw.2.1.2 _ (Yx s.box) id).trans s.box
    refine ⟨hb2, ?_⟩
    simp (maxSteps := 2000000) only [s61, ↓Za, ↓Zk, ↓Zs, ↓Ze, ↓Zj, ↓Zt, ↓Zg, ↓Zm, ↓Zf, ↓Zc, ↓Zb, ↓vdn, vup, Zo, Zh, Zi, Zn, Zl, List.map_cons, List.map_nil, cond_true, cond_false, aop, Zw, Zr, Zp, ev, sput, Zu, Zz, Yb, unK, Zd, Zx, Nat.reduceBEq, Nat.reduceAdd, Int.reduceBEq, Int.reduceBNe, Int.reduceLT, Zv, Ya, tup, tyf, Nat.reduceLT, Bool.false_or, Bool.true_or, List.map_toArray, buildSlW el_82 zero_22 esz_22 hw.1.int]
    refine ⟨Vd hb2 _, ?_⟩
    refine s.step hw.2.1 (by rw [row_set hk', ht]; exact hw.1.int) hw.2.2 (by omega) fun rv' G3 hb3 h1 s' => ⟨hb3, ?_⟩
    simp (maxSteps := 2000000) only [s61, ↓Za, ↓Zk, ↓Zs, ↓Ze, ↓Zj, ↓Zt, ↓Zg, ↓Zm, ↓Zf, ↓Zc, ↓Zb, ↓vdn, vup, Zo, Zh, Zi, Zn, Zl, List.map_cons, List.map_nil, cond_true, cond_false, aop, Zw, Zr, Zp, ev, sput, Zu, Zz, Yb, unK, Zd, Zx, Nat.reduceBEq, Nat.reduceAdd, Int.reduceBEq, Int.reduceBNe, Int.reduceLT, Zv, Ya, tup, tyf, Nat.reduceLT, Bool.false_or, Bool.true_or, store1 hb3 shp_82 h1]
    refine hB [(0, Zy (n : Nat)), (1, v), (2, .pointer (some ⟨h.length, 0, none⟩)), (3, .pointer (some ⟨h.length + 1, 0, none⟩)), (4, .pointer (some ⟨h.length + 2, 0, none⟩)), (5, .pointer (some ⟨G0.length, 0, none⟩)), (18, r), (19, Zy K.length), (20, Zy (k : Nat))] _ _ ?_ (by simp (maxSteps := 2000000) only [↓Za, ↓Zk, ↓Zs, ↓Ze, ↓Zj, ↓Zt, ↓Zg, ↓Zm, ↓Zf, ↓Zc, ↓Zb, ↓vdn, vup, Zo, Zh, Zi, Zn, Zl, List.map_cons, List.map_nil, cond_true, cond_false, aop, Zw, Zr, Zp, ev, sput, Zu, Zz, Yb, unK, Zd, Zx, Nat.reduceBEq, Nat.reduceAdd, Int.reduceBEq, Int.reduceBNe, Int.reduceLT, Zv, Ya, tup, tyf])
    clear hB
    try clear B
    refine Ye ?_
    simp (maxSteps := 2000000) only [s61, ↓Za, ↓Zk, ↓Zs, ↓Ze, ↓Zj, ↓Zt, ↓Zg, ↓Zm, ↓Zf, ↓Zc, ↓Zb, ↓vdn, vup, Zo, Zh, Zi, Zn, Zl, List.map_cons, List.map_nil, cond_true, cond_false, aop, Zw, Zr, Zp, ev, sput, Zu, Zz, Yb, unK, Zd, Zx, Nat.reduceBEq, Nat.reduceAdd, Int.reduceBEq, Int.reduceBNe, Int.reduceLT, Zv, Ya, tup, tyf, add1 (show k < 9223372036854775807 by omega)]
    exact hQ2 _ _ _ ⟨(k + 1, _, rv', ws ++ [w]), ⟨hk', s'⟩, by simp only; omega, by simp (maxSteps := 2000000) only [↓Za, ↓Zk, ↓Zs, ↓Ze, ↓Zj, ↓Zt, ↓Zg, ↓Zm, ↓Zf, ↓Zc, ↓Zb, ↓vdn, vup, Zo, Zh, Zi, Zn, Zl, List.map_cons, List.map_nil, cond_true, cond_false, aop, Zw, Zr, Zp, ev, sput, Zu, Zz, Yb, unK, Zd, Zx, Nat.reduceBEq, Nat.reduceAdd, Int.reduceBEq, Int.reduceBNe, Int.reduceLT, Zv, Ya, tup, tyf], rfl⟩
  obtain rfl : k = K.length := by omega
  refine Yc fun N15 hN15 => ?_
  simp (maxSteps := 2000000) only [s61, ↓Za, ↓Zk, ↓Zs, ↓Ze, ↓Zj, ↓Zt, ↓Zg, ↓Zm, ↓Zf, ↓Zc, ↓Zb, ↓vdn, vup, Zo, Zh, Zi, Zn, Zl, List.map_cons, List.map_nil, cond_true, cond_false, aop, Zw, Zr, Zp, ev, sput, Zu, Zz, Yb, unK, Zd, Zx, Nat.reduceBEq, Nat.reduceAdd, Int.reduceBEq, Int.reduceBNe, Int.reduceLT, Zv, Ya, tup, tyf, hkn]
  refine hN15 [(0, Zy (n : Nat)), (1, v), (2, .pointer (some ⟨h.length, 0, none⟩)), (3, .pointer (some ⟨h.length + 1, 0, none⟩)), (4, .pointer (some ⟨h.length + 2, 0, none⟩)), (5, .pointer (some ⟨G0.length, 0, none⟩)), (18, r), (19, Zy K.length), (20, Zy K.length), (21, .bool false)] _ _ ?_ (by simp (maxSteps := 2000000) only [↓Za, ↓Zk, ↓Zs, ↓Ze, ↓Zj, ↓Zt, ↓Zg, ↓Zm, ↓Zf, ↓Zc, ↓Zb, ↓vdn, vup, Zo, Zh, Zi, Zn, Zl, List.map_cons, List.map_nil, cond_true, cond_false, aop, Zw, Zr, Zp, ev, sput, Zu, Zz, Yb, unK, Zd, Zx, Nat.reduceBEq, Nat.reduceAdd, Int.reduceBEq, Int.reduceBNe, Int.reduceLT, Zv, Ya, tup, tyf])
  clear hN15
  try clear N15
  refine Yc fun N16 hN16 => ?_
  simp (maxSteps := 2000000) only [s61, ↓Za, ↓Zk, ↓Zs, ↓Ze, ↓Zj, ↓Zt, ↓Zg, ↓Zm, ↓Zf, ↓Zc, ↓Zb, ↓vdn, vup, Zo, Zh, Zi, Zn, Zl, List.map_cons, List.map_nil, cond_true, cond_false, aop, Zw, Zr, Zp, ev, sput, Zu, Zz, Yb, unK, Zd, Zx, Nat.reduceBEq, Nat.reduceAdd, Int.reduceBEq, Int.reduceBNe, Int.reduceLT, Zv, Ya, tup, tyf]
  refine hQ2 _ _ _ (hQ _ _ _ ?_)
  simp (maxSteps := 2000000) only [s61, ↓Za, ↓Zk, ↓Zs, ↓Ze, ↓Zj, ↓Zt, ↓Zg, ↓Zm, ↓Zf, ↓Zc, ↓Zb, ↓vdn, vup, Zo, Zh, Zi, Zn, Zl, List.map_cons, List.map_nil, cond_true, cond_false, aop, Zw, Zr, Zp, ev, sput, Zu, Zz, Yb, unK, Zd, Zx, Nat.reduceBEq, Nat.reduceAdd, Int.reduceBEq, Int.reduceBNe, Int.reduceLT, Zv, Ya, tup, tyf, if_true]
  refine hZ [(0, Zy (n : Nat)), (1, v), (2, .pointer (some ⟨h.length, 0, none⟩)), (3, .pointer (some ⟨h.length + 1, 0, none⟩)), (4, .pointer (some ⟨h.length + 2, 0, none⟩)), (5, .pointer (some ⟨G0.length, 0, none⟩))] _ _ ?_ (by simp (maxSteps := 2000000) only [↓Za, ↓Zk, ↓Zs, ↓Ze, ↓Zj, ↓Zt, ↓Zg, ↓Zm, ↓Zf, ↓Zc, ↓Zb, ↓vdn, vup, Zo, Zh, Zi, Zn, Zl, List.map_cons, List.map_nil, cond_true, cond_false, aop, Zw, Zr, Zp, ev, sput, Zu, Zz, Yb, unK, Zd, Zx, Nat.reduceBEq, Nat.reduceAdd, Int.reduceBEq, Int.reduceBNe, Int.reduceLT, Zv, Ya, tup, tyf])
  clear hZ
  try clear Z
  clear hQ hQ2
  have e2G := s.keep e2 (by omega)
  refine Yf fun Z hZ => ?_
  refine Yc fun N17 hN17 => ?_
  simp (maxSteps := 2000000) only [s61, ↓Za, ↓Zk, ↓Zs, ↓Ze, ↓Zj, ↓Zt, ↓Zg, ↓Zm, ↓Zf, ↓Zc, ↓Zb, ↓vdn, vup, Zo, Zh, Zi, Zn, Zl, List.map_cons, List.map_nil, cond_true, cond_false, aop, Zw, Zr, Zp, ev, sput, Zu, Zz, Yb, unK, Zd, Zx, Nat.reduceBEq, Nat.reduceAdd, Int.reduceBEq, Int.reduceBNe, Int.reduceLT, Zv, Ya, tup, tyf, Wz e2G Xj]
  refine hN17 [(0, Zy (n : Nat)), (1, v), (2, .pointer (some ⟨h.length, 0, none⟩)), (3, .pointer (some ⟨h.length + 1, 0, none⟩)), (4, .pointer (some ⟨h.length + 2, 0, none⟩)), (5, .pointer (some ⟨G0.length, 0, none⟩)), (43, Zy (n : Nat)), (44, .int .i64 0)] _ _ ?_ (by simp (maxSteps := 2000000) only [↓Za, ↓Zk, ↓Zs, ↓Ze, ↓Zj, ↓Zt, ↓Zg, ↓Zm, ↓Zf, ↓Zc, ↓Zb, ↓vdn, vup, Zo, Zh, Zi, Zn, Zl, List.map_cons, List.map_nil, cond_true, cond_false, aop, Zw, Zr, Zp, ev, sput, Zu, Zz, Yb, unK, Zd, Zx, Nat.reduceBEq, Nat.reduceAdd, Int.reduceBEq, Int.reduceBNe, Int.reduceLT, Zv, Ya, tup, tyf])
  clear hN17
  try clear N17
  refine Ym ?_
  refine Yg fun Q hQ => ?_
  refine Xu (γ := Nat × Yd × Value × List Value) (fun g => g.1 ≤ n ∧ RS n K H0 G0.length g.2.1 g.2.2.1 g.2.2.2 (K.length + g.1))
    (fun g => ([(0, Zy (n : Nat)), (1, v), (2, .pointer (some ⟨h.length, 0, none⟩)), (3, .pointer (some ⟨h.length + 1, 0, none⟩)), (4, .pointer (some ⟨h.length + 2, 0, none⟩)), (5, .pointer (some ⟨G0.length, 0, none⟩)), (43, Zy (n : Nat)), (44, Zy (g.1 : Nat))], g.2.1)) (fun g => n - g.1) (0, G, rv, ws) ⟨Nat.zero_le _, s⟩ (by simp (maxSteps := 2000000) only [↓Za, ↓Zk, ↓Zs, ↓Ze, ↓Zj, ↓Zt, ↓Zg, ↓Zm, ↓Zf, ↓Zc, ↓Zb, ↓vdn, vup, Zo, Zh, Zi, Zn, Zl, List.map_cons, List.map_nil, cond_true, cond_false, aop, Zw, Zr, Zp, ev, sput, Zu, Zz, Yb, unK, Zd, Zx, Nat.reduceBEq, Nat.reduceAdd, Int.reduceBEq, Int.reduceBNe, Int.reduceLT, Zv, Ya, tup, tyf, Int.natCast_zero]) rfl ?_
  clear s e2G
  rintro ⟨i, G, rv, ws⟩ ⟨hi, s⟩
  simp only at hi s
  refine Yg fun Q2 hQ2 => ?_
  simp only [l61_2]
  have e2G := s.keep e2 (by omega)
  by_cases hin : (i : Int) < n
  · have hi' : i < n := by omega
    have hnat : ((n : Int) + 1) = ((n + 1 : Nat) : Int) := rfl
    refine Yc fun N18 hN18 => ?_
    simp (maxSteps := 2000000) only [s61, ↓Za, ↓Zk, ↓Zs, ↓Ze, ↓Zj, ↓Zt, ↓Zg, ↓Zm, ↓Zf, ↓Zc, ↓Zb, ↓vdn, vup, Zo, Zh, Zi, Zn, Zl, List.map_cons, List.map_nil, cond_true, cond_false, aop, Zw, Zr, Zp, ev, sput, Zu, Zz, Yb, unK, Zd, Zx, Nat.reduceBEq, Nat.reduceAdd, Int.reduceBEq, Int.reduceBNe, Int.reduceLT, Zv, Ya, tup, tyf, hin]
    refine hN18 [(0, Zy (n : Nat)), (1, v), (2, .pointer (some ⟨h.length, 0, none⟩)), (3, .pointer (some ⟨h.length + 1, 0, none⟩)), (4, .pointer (some ⟨h.length + 2, 0, none⟩)), (5, .pointer (some ⟨G0.length, 0, none⟩)), (43, Zy (n : Nat)), (44, Zy (i : Nat)), (45, .bool true)] _ _ ?_ (by simp (maxSteps := 2000000) only [↓Za, ↓Zk, ↓Zs, ↓Ze, ↓Zj, ↓Zt, ↓Zg, ↓Zm, ↓Zf, ↓Zc, ↓Zb, ↓vdn, vup, Zo, Zh, Zi, Zn, Zl, List.map_cons, List.map_nil, cond_true, cond_false, aop, Zw, Zr, Zp, ev, sput, Zu, Zz, Yb, unK, Zd, Zx, Nat.reduceBEq, Nat.reduceAdd, Int.reduceBEq, Int.reduceBNe, Int.reduceLT, Zv, Ya, tup, tyf])
    clear hN18
    try clear N18
    refine Yc fun N19 hN19 => ?_
    simp (maxSteps := 2000000) only [s61, ↓Za, ↓Zk, ↓Zs, ↓Ze, ↓Zj, ↓Zt, ↓Zg, ↓Zm, ↓Zf, ↓Zc, ↓Zb, ↓vdn, vup, Zo, Zh, Zi, Zn, Zl, List.map_cons, List.map_nil, cond_true, cond_false, aop, Zw, Zr, Zp, ev, sput, Zu, Zz, Yb, unK, Zd, Zx, Nat.reduceBEq, Nat.reduceAdd, Int.reduceBEq, Int.reduceBNe, Int.reduceLT, Zv, Ya, tup, tyf]
    refine hN19 [(0, Zy (n : Nat)), (1, v), (2, .pointer (some ⟨h.length, 0, none⟩)), (3, .pointer (some ⟨h.length + 1, 0, none⟩)), (4, .pointer (some ⟨h.length + 2, 0, none⟩)), (5, .pointer (some ⟨G0.length, 0, none⟩)), (43, Zy (n : Nat)), (44, Zy (i : Nat))] _ _ ?_ (by simp (maxSteps := 2000000) only [↓Za, ↓Zk, ↓Zs, ↓Ze, ↓Zj, ↓Zt, ↓Zg, ↓Zm, ↓Zf, ↓Zc, ↓Zb, ↓vdn, vup, Zo, Zh, Zi, Zn, Zl, List.map_cons, List.map_nil, cond_true, cond_false, aop, Zw, Zr, Zp, ev, sput, Zu, Zz, Yb, unK, Zd, Zx, Nat.reduceBEq, Nat.reduceAdd, Int.reduceBEq, Int.reduceBNe, Int.reduceLT, Zv, Ya, tup, tyf])
    clear hN19
    try clear N19
    refine Yf fun B hB => ?_
    refine Ym ?_
    refine Yc fun N20 hN20 => ?_
    simp (maxSteps := 2000000) only [s61, ↓Za, ↓Zk, ↓Zs, ↓Ze, ↓Zj, ↓Zt, ↓Zg, ↓Zm, ↓Zf, ↓Zc, ↓Zb, ↓vdn, vup, Zo, Zh, Zi, Zn, Zl, List.map_cons, List.map_nil, cond_true, cond_false, aop, Zw, Zr, Zp, ev, sput, Zu, Zz, Yb, unK, Zd, Zx, Nat.reduceBEq, Nat.reduceAdd, Int.reduceBEq, Int.reduceBNe, Int.reduceLT, Zv, Ya, tup, tyf]
    refine hN20 [(0, Zy (n : Nat)), (1, v), (2, .pointer (some ⟨h.length, 0, none⟩)), (3, .pointer (some ⟨h.length + 1, 0, none⟩)), (4, .pointer (some ⟨h.length + 2, 0, none⟩)), (5, .pointer (some ⟨G0.length, 0, none⟩)), (10, Zy (i : Nat)), (43, Zy (n : Nat)), (44, Zy (i : Nat))] _ _ ?_ (by simp (maxSteps := 2000000) only [↓Za, ↓Zk, ↓Zs, ↓Ze, ↓Zj, ↓Zt, ↓Zg, ↓Zm, ↓Zf, ↓Zc, ↓Zb, ↓vdn, vup, Zo, Zh, Zi, Zn, Zl, List.map_cons, List.map_nil, cond_true, cond_false, aop, Zw, Zr, Zp, ev, sput, Zu, Zz, Yb, unK, Zd, Zx, Nat.reduceBEq, Nat.reduceAdd, Int.reduceBEq, Int.reduceBNe, Int.reduceLT, Zv, Ya, tup, tyf])
    clear hN20
    try clear N20
    refine Yc fun N21 hN21 => ?_
    simp (maxSteps := 2000000) only [s61, ↓Za, ↓Zk, ↓Zs, ↓Ze, ↓Zj, ↓Zt, ↓Zg, ↓Zm, ↓Zf, ↓Zc, ↓Zb, ↓vdn, vup, Zo, Zh, Zi, Zn, Zl, List.map_cons, List.map_nil, cond_true, cond_false, aop, Zw, Zr, Zp, ev, sput, Zu, Zz, Yb, unK, Zd, Zx, Nat.reduceBEq, Nat.reduceAdd, Int.reduceBEq, Int.reduceBNe, Int.reduceLT, Zv, Ya, tup, tyf, Wz e2G Xj, add1 (show n < 9223372036854775807 by omega), makeI We zero_3 info_3 (Int.natCast_nonneg (n + 1)) (show ((n + 1 : Nat) : Int) ≤ 35184372088832 by omega), Int.toNat_natCast]
    obtain ⟨wv, hwv⟩ : ∃ wv, wv = Value.slice (some ⟨G.length, 0, none⟩) (n + 1) (n + 1) := ⟨_, rfl⟩
    rw [← hwv]
    refine hN21 [(0, Zy (n : Nat)), (1, v), (2, .pointer (some ⟨h.length, 0, none⟩)), (3, .pointer (some ⟨h.length + 1, 0, none⟩)), (4, .pointer (some ⟨h.length + 2, 0, none⟩)), (5, .pointer (some ⟨G0.length, 0, none⟩)), (10, Zy (i : Nat)), (11, wv), (43, Zy (n : Nat)), (44, Zy (i : Nat))] _ _ ?_ (by simp (maxSteps := 2000000) only [↓Za, ↓Zk, ↓Zs, ↓Ze, ↓Zj, ↓Zt, ↓Zg, ↓Zm, ↓Zf, ↓Zc, ↓Zb, ↓vdn, vup, Zo, Zh, Zi, Zn, Zl, List.map_cons, List.map_nil, cond_true, cond_false, aop, Zw, Zr, Zp, ev, sput, Zu, Zz, Yb, unK, Zd, Zx, Nat.reduceBEq, Nat.reduceAdd, Int.reduceBEq, Int.reduceBNe, Int.reduceLT, Zv, Ya, tup, tyf])
    clear hN21
    try clear N21
    have hz : (G ++ [Blk.ints (List.replicate (n + 1) (0 : Int)) 3 false])[G.length]? = some (.ints (List.replicate (n + 1) (0 : Int)) 3 false) := Xa _ _
    have hzI : IntSl (G ++ [Blk.ints (List.replicate (n + 1) (0 : Int)) 3 false]) wv (List.replicate (n + 1) 0) := by
      have := intSl_blk hz
      rw [List.length_replicate] at this
      rw [hwv]; exact this
    have hel : Wq wv 1 i = .pointer (some ⟨G.length, i, none⟩) := by rw [hwv]; exact elemP_new _ _ _ _
    refine Yc fun N22 hN22 => ?_
    simp (maxSteps := 2000000) only [s61, ↓Za, ↓Zk, ↓Zs, ↓Ze, ↓Zj, ↓Zt, ↓Zg, ↓Zm, ↓Zf, ↓Zc, ↓Zb, ↓vdn, vup, Zo, Zh, Zi, Zn, Zl, List.map_cons, List.map_nil, cond_true, cond_false, aop, Zw, Zr, Zp, ev, sput, Zu, Zz, Yb, unK, Zd, Zx, Nat.reduceBEq, Nat.reduceAdd, Int.reduceBEq, Int.reduceBNe, Int.reduceLT, Zv, Ya, tup, tyf, hzI.idx We Xk (show i < (List.replicate (n + 1) (0 : Int)).length by simp; omega), hel, storeBI hz Xj (show i < (List.replicate (n + 1) (0 : Int)).length by simp; omega), set_new]
    obtain ⟨G1, hG1⟩ : ∃ G1, G1 = G ++ [Blk.ints ((List.replicate (n + 1) (0 : Int)).set i 1) 3 false] := ⟨_, rfl⟩
    rw [← hG1]
    refine hN22 [(0, Zy (n : Nat)), (1, v), (2, .pointer (some ⟨h.length, 0, none⟩)), (3, .pointer (some ⟨h.length + 1, 0, none⟩)), (4, .pointer (some ⟨h.length + 2, 0, none⟩)), (5, .pointer (some ⟨G0.length, 0, none⟩)), (10, Zy (i : Nat)), (11, wv), (43, Zy (n : Nat)), (44, Zy (i : Nat))] _ _ ?_ (by simp (maxSteps := 2000000) only [↓Za, ↓Zk, ↓Zs, ↓Ze, ↓Zj, ↓Zt, ↓Zg, ↓Zm, ↓Zf, ↓Zc, ↓Zb, ↓vdn, vup, Zo, Zh, Zi, Zn, Zl, List.map_cons, List.map_nil, cond_true, cond_false, aop, Zw, Zr, Zp, ev, sput, Zu, Zz, Yb, unK, Zd, Zx, Nat.reduceBEq, Nat.reduceAdd, Int.reduceBEq, Int.reduceBNe, Int.reduceLT, Zv, Ya, tup, tyf])
    clear hN22
    try clear N22
    have hE1 : Ext (fun _ => False) G G1 := by rw [hG1]; exact Ext.app _ _ _
    have hwI : IntSl G1 wv (rowI n K (K.length + i)) := by
      rw [row_unit hi', hG1]
      have := intSl_blk (Xa G (Blk.ints ((List.replicate (n + 1) (0 : Int)).set i 1) 3 false))
      rw [List.length_set, List.length_replicate] at this
      rw [hwv]; exact this
    have hb1 : G1[G0.length]? = some (.cells [rv] 82 false) := (hE1.2 _ (Yx s.box) id).trans s.box
    refine Ye ?_
    simp (maxSteps := 2000000) only [s61, ↓Za, ↓Zk, ↓Zs, ↓Ze, ↓Zj, ↓Zt, ↓Zg, ↓Zm, ↓Zf, ↓Zc, ↓Zb, ↓vdn, vup, Zo, Zh, Zi, Zn, Zl, List.map_cons, List.map_nil, cond_true, cond_false, aop, Zw, Zr, Zp, ev, sput, Zu, Zz, Yb, unK, Zd, Zx, Nat.reduceBEq, Nat.reduceAdd, Int.reduceBEq, Int.reduceBNe, Int.reduceLT, Zv, Ya, tup, tyf, Wz hb1 shp_82, List.map_toArray, buildSlW el_82 zero_22 esz_22 hwI]
    refine s.step hE1 hwI (fun b hb => by rw [hwv] at hb; cases hb; exact Nat.le_refl _) (by omega) fun rv' G3 hb3 h1 s' => ?_
    simp (maxSteps := 2000000) only [s61, ↓Za, ↓Zk, ↓Zs, ↓Ze, ↓Zj, ↓Zt, ↓Zg, ↓Zm, ↓Zf, ↓Zc, ↓Zb, ↓vdn, vup, Zo, Zh, Zi, Zn, Zl, List.map_cons, List.map_nil, cond_true, cond_false, aop, Zw, Zr, Zp, ev, sput, Zu, Zz, Yb, unK, Zd, Zx, Nat.reduceBEq, Nat.reduceAdd, Int.reduceBEq, Int.reduceBNe, Int.reduceLT, Zv, Ya, tup, tyf, store1 hb3 shp_82 h1]
    refine hB [(0, Zy (n : Nat)), (1, v), (2, .pointer (some ⟨h.length, 0, none⟩)), (3, .pointer (some ⟨h.length + 1, 0, none⟩)), (4, .pointer (some ⟨h.length + 2, 0, none⟩)), (5, .pointer (some ⟨G0.length, 0, none⟩)), (43, Zy (n : Nat)), (44, Zy (i : Nat))] _ _ ?_ (by simp (maxSteps := 2000000) only [↓Za, ↓Zk, ↓Zs, ↓Ze, ↓Zj, ↓Zt, ↓Zg, ↓Zm, ↓Zf, ↓Zc, ↓Zb, ↓vdn, vup, Zo, Zh, Zi, Zn, Zl, List.map_cons, List.map_nil, cond_true, cond_false, aop, Zw, Zr, Zp, ev, sput, Zu, Zz, Yb, unK, Zd, Zx, Nat.reduceBEq, Nat.reduceAdd, Int.reduceBEq, Int.reduceBNe, Int.reduceLT, Zv, Ya, tup, tyf])
    clear hB
    try clear B
    refine Ye ?_
    simp (maxSteps := 2000000) only [s61, ↓Za, ↓Zk, ↓Zs, ↓Ze, ↓Zj, ↓Zt, ↓Zg, ↓Zm, ↓Zf, ↓Zc, ↓Zb, ↓vdn, vup, Zo, Zh, Zi, Zn, Zl, List.map_cons, List.map_nil, cond_true, cond_false, aop, Zw, Zr, Zp, ev, sput, Zu, Zz, Yb, unK, Zd, Zx, Nat.reduceBEq, Nat.reduceAdd, Int.reduceBEq, Int.reduceBNe, Int.reduceLT, Zv, Ya, tup, tyf, add1 (show i < 9223372036854775807 by omega)]
    exact hQ2 _ _ _ ⟨(i + 1, _, rv', ws ++ [wv]), ⟨hi', s'⟩, by simp only; omega, by simp (maxSteps := 2000000) only [↓Za, ↓Zk, ↓Zs, ↓Ze, ↓Zj, ↓Zt, ↓Zg, ↓Zm, ↓Zf, ↓Zc, ↓Zb, ↓vdn, vup, Zo, Zh, Zi, Zn, Zl, List.map_cons, List.map_nil, cond_true, cond_false, aop, Zw, Zr, Zp, ev, sput, Zu, Zz, Yb, unK, Zd, Zx, Nat.reduceBEq, Nat.reduceAdd, Int.reduceBEq, Int.reduceBNe, Int.reduceLT, Zv, Ya, tup, tyf], rfl⟩
  obtain rfl : n = i := by omega
  refine Yc fun N23 hN23 => ?_
  simp (maxSteps := 2000000) only [s61, ↓Za, ↓Zk, ↓Zs, ↓Ze, ↓Zj, ↓Zt, ↓Zg, ↓Zm, ↓Zf, ↓Zc, ↓Zb, ↓vdn, vup, Zo, Zh, Zi, Zn, Zl, List.map_cons, List.map_nil, cond_true, cond_false, aop, Zw, Zr, Zp, ev, sput, Zu, Zz, Yb, unK, Zd, Zx, Nat.reduceBEq, Nat.reduceAdd, Int.reduceBEq, Int.reduceBNe, Int.reduceLT, Zv, Ya, tup, tyf, hin]
  refine hN23 [(0, Zy (n : Nat)), (1, v), (2, .pointer (some ⟨h.length, 0, none⟩)), (3, .pointer (some ⟨h.length + 1, 0, none⟩)), (4, .pointer (some ⟨h.length + 2, 0, none⟩)), (5, .pointer (some ⟨G0.length, 0, none⟩)), (43, Zy (n : Nat)), (44, Zy (n : Nat)), (45, .bool false)] _ _ ?_ (by simp (maxSteps := 2000000) only [↓Za, ↓Zk, ↓Zs, ↓Ze, ↓Zj, ↓Zt, ↓Zg, ↓Zm, ↓Zf, ↓Zc, ↓Zb, ↓vdn, vup, Zo, Zh, Zi, Zn, Zl, List.map_cons, List.map_nil, cond_true, cond_false, aop, Zw, Zr, Zp, ev, sput, Zu, Zz, Yb, unK, Zd, Zx, Nat.reduceBEq, Nat.reduceAdd, Int.reduceBEq, Int.reduceBNe, Int.reduceLT, Zv, Ya, tup, tyf])
  clear hN23
  try clear N23
  refine Yc fun N24 hN24 => ?_
  simp (maxSteps := 2000000) only [s61, ↓Za, ↓Zk, ↓Zs, ↓Ze, ↓Zj, ↓Zt, ↓Zg, ↓Zm, ↓Zf, ↓Zc, ↓Zb, ↓vdn, vup, Zo, Zh, Zi, Zn, Zl, List.map_cons, List.map_nil, cond_true, cond_false, aop, Zw, Zr, Zp, ev, sput, Zu, Zz, Yb, unK, Zd, Zx, Nat.reduceBEq, Nat.reduceAdd, Int.reduceBEq, Int.reduceBNe, Int.reduceLT, Zv, Ya, tup, tyf]
  refine hQ2 _ _ _ (hQ _ _ _ ?_)
  simp (maxSteps := 2000000) only [s61, ↓Za, ↓Zk, ↓Zs, ↓Ze, ↓Zj, ↓Zt, ↓Zg, ↓Zm, ↓Zf, ↓Zc, ↓Zb, ↓vdn, vup, Zo, Zh, Zi, Zn, Zl, List.map_cons, List.map_nil, cond_true, cond_false, aop, Zw, Zr, Zp, ev, sput, Zu, Zz, Yb, unK, Zd, Zx, Nat.reduceBEq, Nat.reduceAdd, Int.reduceBEq, Int.reduceBNe, Int.reduceLT, Zv, Ya, tup, tyf, if_true]
  refine hZ [(0, Zy (n : Nat)), (1, v), (2, .pointer (some ⟨h.length, 0, none⟩)), (3, .pointer (some ⟨h.length + 1, 0, none⟩)), (4, .pointer (some ⟨h.length + 2, 0, none⟩)), (5, .pointer (some ⟨G0.length, 0, none⟩))] _ _ ?_ (by simp (maxSteps := 2000000) only [↓Za, ↓Zk, ↓Zs, ↓Ze, ↓Zj, ↓Zt, ↓Zg, ↓Zm, ↓Zf, ↓Zc, ↓Zb, ↓vdn, vup, Zo, Zh, Zi, Zn, Zl, List.map_cons, List.map_nil, cond_true, cond_false, aop, Zw, Zr, Zp, ev, sput, Zu, Zz, Yb, unK, Zd, Zx, Nat.reduceBEq, Nat.reduceAdd, Int.reduceBEq, Int.reduceBNe, Int.reduceLT, Zv, Ya, tup, tyf])
  clear hZ
  try clear Z
  clear hQ hQ2
  have hst : ∀ {Kk : Yd → Prop}, Xp prog (G ++ [Blk.cells [.int .i64 0, .int .i64 0] 44 false]) 44 (.pointer (some ⟨G.length, 0, none⟩)) (.agg #[Zy 0, Zy 1]) Kk = Kk (G ++ [bC 0]) := fun {Kk} => by
    rw [storeF (Xa G (Blk.cells [.int .i64 0, .int .i64 0] 44 false)) rfl, set_new]; rfl
  refine Yc fun N25 hN25 => ?_
  simp (maxSteps := 2000000) only [s61, ↓Za, ↓Zk, ↓Zs, ↓Ze, ↓Zj, ↓Zt, ↓Zg, ↓Zm, ↓Zf, ↓Zc, ↓Zb, ↓vdn, vup, Zo, Zh, Zi, Zn, Zl, List.map_cons, List.map_nil, cond_true, cond_false, aop, Zw, Zr, Zp, ev, sput, Zu, Zz, Yb, unK, Zd, Zx, Nat.reduceBEq, Nat.reduceAdd, Int.reduceBEq, Int.reduceBNe, Int.reduceLT, Zv, Ya, tup, tyf, bldF, Wm, Xv, Vl, hst]
  refine hN25 [(0, Zy (n : Nat)), (1, v), (2, .pointer (some ⟨h.length, 0, none⟩)), (3, .pointer (some ⟨h.length + 1, 0, none⟩)), (4, .pointer (some ⟨h.length + 2, 0, none⟩)), (5, .pointer (some ⟨G0.length, 0, none⟩)), (12, .pointer (some ⟨G.length, 0, none⟩))] _ _ ?_ (by simp (maxSteps := 2000000) only [↓Za, ↓Zk, ↓Zs, ↓Ze, ↓Zj, ↓Zt, ↓Zg, ↓Zm, ↓Zf, ↓Zc, ↓Zb, ↓vdn, vup, Zo, Zh, Zi, Zn, Zl, List.map_cons, List.map_nil, cond_true, cond_false, aop, Zw, Zr, Zp, ev, sput, Zu, Zz, Yb, unK, Zd, Zx, Nat.reduceBEq, Nat.reduceAdd, Int.reduceBEq, Int.reduceBNe, Int.reduceLT, Zv, Ya, tup, tyf])
  clear hN25
  try clear N25
  refine Yc fun N26 hN26 => ?_
  simp (maxSteps := 2000000) only [s61, ↓Za, ↓Zk, ↓Zs, ↓Ze, ↓Zj, ↓Zt, ↓Zg, ↓Zm, ↓Zf, ↓Zc, ↓Zb, ↓vdn, vup, Zo, Zh, Zi, Zn, Zl, List.map_cons, List.map_nil, cond_true, cond_false, aop, Zw, Zr, Zp, ev, sput, Zu, Zz, Yb, unK, Zd, Zx, Nat.reduceBEq, Nat.reduceAdd, Int.reduceBEq, Int.reduceBNe, Int.reduceLT, Zv, Ya, tup, tyf, Wm, Xv, zero_83, List.length_append, List.length_singleton]
  refine hN26 [(0, Zy (n : Nat)), (1, v), (2, .pointer (some ⟨h.length, 0, none⟩)), (3, .pointer (some ⟨h.length + 1, 0, none⟩)), (4, .pointer (some ⟨h.length + 2, 0, none⟩)), (5, .pointer (some ⟨G0.length, 0, none⟩)), (12, .pointer (some ⟨G.length, 0, none⟩)), (13, .pointer (some ⟨G.length + 1, 0, none⟩))] _ _ ?_ (by simp (maxSteps := 2000000) only [↓Za, ↓Zk, ↓Zs, ↓Ze, ↓Zj, ↓Zt, ↓Zg, ↓Zm, ↓Zf, ↓Zc, ↓Zb, ↓vdn, vup, Zo, Zh, Zi, Zn, Zl, List.map_cons, List.map_nil, cond_true, cond_false, aop, Zw, Zr, Zp, ev, sput, Zu, Zz, Yb, unK, Zd, Zx, Nat.reduceBEq, Nat.reduceAdd, Int.reduceBEq, Int.reduceBNe, Int.reduceLT, Zv, Ya, tup, tyf])
  clear hN26
  try clear N26
  have hg0 : (G ++ [bC 0] ++ [Blk.cells [.nilFunc] 83 false])[G.length + 1]? = some (.cells [.nilFunc] 83 false) := by
    rw [List.getElem?_append_right (by simp)]; simp
  obtain ⟨gv, hgv⟩ : ∃ gv : Value, gv = .func (.func 85) #[] #[.pointer (some ⟨h.length, 0, none⟩), .pointer (some ⟨G0.length, 0, none⟩), .pointer (some ⟨G.length + 1, 0, none⟩), .pointer (some ⟨h.length + 1, 0, none⟩), .pointer (some ⟨G.length, 0, none⟩)] := ⟨_, rfl⟩
  refine Yc fun N27 hN27 => ?_
  simp (maxSteps := 2000000) only [s61, ↓Za, ↓Zk, ↓Zs, ↓Ze, ↓Zj, ↓Zt, ↓Zg, ↓Zm, ↓Zf, ↓Zc, ↓Zb, ↓vdn, vup, Zo, Zh, Zi, Zn, Zl, List.map_cons, List.map_nil, cond_true, cond_false, aop, Zw, Zr, Zp, ev, sput, Zu, Zz, Yb, unK, Zd, Zx, Nat.reduceBEq, Nat.reduceAdd, Int.reduceBEq, Int.reduceBNe, Int.reduceLT, Zv, Ya, tup, tyf, List.map_toArray, ← hgv]
  rw [store1 hg0 shp_83 (by rw [hgv]; rfl)]
  obtain ⟨Hf, hHf⟩ : ∃ Hf, Hf = (G ++ [bC 0] ++ [Blk.cells [.nilFunc] 83 false]).set (G.length + 1) (.cells [gv] 83 false) := ⟨_, rfl⟩
  rw [← hHf]
  refine hN27 [(0, Zy (n : Nat)), (1, v), (2, .pointer (some ⟨h.length, 0, none⟩)), (3, .pointer (some ⟨h.length + 1, 0, none⟩)), (4, .pointer (some ⟨h.length + 2, 0, none⟩)), (5, .pointer (some ⟨G0.length, 0, none⟩)), (12, .pointer (some ⟨G.length, 0, none⟩)), (13, .pointer (some ⟨G.length + 1, 0, none⟩))] _ _ ?_ (by simp (maxSteps := 2000000) only [↓Za, ↓Zk, ↓Zs, ↓Ze, ↓Zj, ↓Zt, ↓Zg, ↓Zm, ↓Zf, ↓Zc, ↓Zb, ↓vdn, vup, Zo, Zh, Zi, Zn, Zl, List.map_cons, List.map_nil, cond_true, cond_false, aop, Zw, Zr, Zp, ev, sput, Zu, Zz, Yb, unK, Zd, Zx, Nat.reduceBEq, Nat.reduceAdd, Int.reduceBEq, Int.reduceBNe, Int.reduceLT, Zv, Ya, tup, tyf])
  clear hN27
  try clear N27
  have hEf : Ext (fun _ => False) G Hf := by
    rw [hHf]; exact ((Ext.app _ _ _).trans (Ext.app _ _ _)).set_ge (by omega) _
  have hlf : Hf.length = G.length + 2 := by rw [hHf]; simp
  have uf : ∀ {b : Nat} {C : Blk}, G[b]? = some C → Hf[b]? = some C := fun {b C} hb => (hEf.2 b (Yx hb) id).trans hb
  have hgf : Hf[G.length + 1]? = some (.cells [gv] 83 false) := by rw [hHf]; exact get_set (Yx hg0) _
  have hbf : Hf[G.length]? = some (bC 0) := by
    rw [hHf, List.getElem?_set_ne (by omega), List.getElem?_append_left (by simp)]; exact Xa _ _
  have h5l : G0.length < G.length := by have := Yx s.box; omega
  have hhl : h.length + 3 ≤ G0.length := by omega
  have hrG' := ints_but hrH hr5 s.ext
  have ge : GE n K ws Hf h.length G0.length (G.length + 1) (h.length + 1) G.length rv r := by
    refine ⟨n1, n6, fun t ht => hs t (hKm t ht), by omega, uf (s.keep e2 (by omega)), uf s.box, by rw [hgf, hgv], uf (s.keep e3 (by omega)), by omega, by omega, by omega, by omega, fun H' hk' => ?_, fun H' hk' => ?_⟩
    · have hkeep : ∀ b, b < G.length → H'[b]? = G[b]? := fun b hb => (hk'.2 b (by omega) (by omega)).trans (hEf.2 b hb id)
      exact ⟨s.own.val.same fun b hb => hkeep b (s.own.lt hb), s.rows.imp fun x l hx => hx.1.same fun b hb => hkeep b (hx.1.lt hb)⟩
    · exact hrG'.same fun b hb => (hk'.2 b (by have := hrG'.lt hb; omega) (by have := hrG'.lt hb; omega)).trans (hEf.2 b (hrG'.lt hb) id)
  have hz0 : ∀ m, sumTo (fun _ => (0 : Rat)) m = 0 := fun m => sumTo_zero fun _ _ => rfl
  have ha0 : Att n K 0 := ⟨⟨fun _ => 0, ⟨fun i _ => Rat.le_refl, fun t _ => by
    have : dot (bitQ t) (fun _ => 0) n = 0 := sumTo_zero fun i _ => Rat.mul_zero _
    rw [this]; decide⟩, hz0 n⟩, by decide, by decide⟩
  refine Yc fun N28 hN28 => ?_
  simp (maxSteps := 2000000) only [s61, ↓Za, ↓Zk, ↓Zs, ↓Ze, ↓Zj, ↓Zt, ↓Zg, ↓Zm, ↓Zf, ↓Zc, ↓Zb, ↓vdn, vup, Zo, Zh, Zi, Zn, Zl, List.map_cons, List.map_nil, cond_true, cond_false, aop, Zw, Zr, Zp, ev, sput, Zu, Zz, Yb, unK, Zd, Zx, Nat.reduceBEq, Nat.reduceAdd, Int.reduceBEq, Int.reduceBNe, Int.reduceLT, Zv, Ya, tup, tyf, Wz hgf shp_83]
  rw [hgv]
  simp (maxSteps := 2000000) only [s61, ↓Za, ↓Zk, ↓Zs, ↓Ze, ↓Zj, ↓Zt, ↓Zg, ↓Zm, ↓Zf, ↓Zc, ↓Zb, ↓vdn, vup, Zo, Zh, Zi, Zn, Zl, List.map_cons, List.map_nil, cond_true, cond_false, aop, Zw, Zr, Zp, ev, sput, Zu, Zz, Yb, unK, Zd, Zx, Nat.reduceBEq, Nat.reduceAdd, Int.reduceBEq, Int.reduceBNe, Int.reduceLT, Zv, Ya, tup, tyf, Yv, List.nil_append, List.append_nil, List.toList_toArray, List.cons_append]
  refine (grow_call ge n 0 [] Hf (.slice none 0 0) 0 (by simp) (Ext.refl _ _) (.inl ⟨rfl, rfl⟩) (fun k hk => by cases hk) (Nat.zero_le _) hbf ha0).mono ?_
  rintro _ H3 ⟨hE3, q, hq, haq, _, hle⟩
  refine hN28 [(0, Zy (n : Nat)), (1, v), (2, .pointer (some ⟨h.length, 0, none⟩)), (3, .pointer (some ⟨h.length + 1, 0, none⟩)), (4, .pointer (some ⟨h.length + 2, 0, none⟩)), (5, .pointer (some ⟨G0.length, 0, none⟩)), (12, .pointer (some ⟨G.length, 0, none⟩)), (13, .pointer (some ⟨G.length + 1, 0, none⟩))] _ _ ?_ (by simp (maxSteps := 2000000) only [↓Za, ↓Zk, ↓Zs, ↓Ze, ↓Zj, ↓Zt, ↓Zg, ↓Zm, ↓Zf, ↓Zc, ↓Zb, ↓vdn, vup, Zo, Zh, Zi, Zn, Zl, List.map_cons, List.map_nil, cond_true, cond_false, aop, Zw, Zr, Zp, ev, sput, Zu, Zz, Yb, unK, Zd, Zx, Nat.reduceBEq, Nat.reduceAdd, Int.reduceBEq, Int.reduceBNe, Int.reduceLT, Zv, Ya, tup, tyf])
  clear hN28
  try clear N28
  have h4f : H3[h.length + 2]? = some (.cells [.int .i64 0, .int .i64 0] 44 false) := (hE3.2 _ (Yx (uf (s.keep e4 (by omega)))) (by omega)).trans (uf (s.keep e4 (by omega)))
  refine Ye ?_
  simp (maxSteps := 2000000) only [s61, ↓Za, ↓Zk, ↓Zs, ↓Ze, ↓Zj, ↓Zt, ↓Zg, ↓Zm, ↓Zf, ↓Zc, ↓Zb, ↓vdn, vup, Zo, Zh, Zi, Zn, Zl, List.map_cons, List.map_nil, cond_true, cond_false, aop, Zw, Zr, Zp, ev, sput, Zu, Zz, Yb, unK, Zd, Zx, Nat.reduceBEq, Nat.reduceAdd, Int.reduceBEq, Int.reduceBNe, Int.reduceLT, Zv, Ya, tup, tyf, loadF hq, storeF h4f rfl, loadF (get_set (Yx h4f) _)]
  have hcK : ∀ i, i < n → ∃ t ∈ K, t.testBit i = true := hK ▸ keep_cover hs hc
  refine ⟨?_, q, rfl, opt_keep (hK.symm ▸ isOpt_of hcK haq.1 fun B x hx => hle B (by
    have := hx.sub
    rwa [List.range_eq_range'] at this) hx.len x (by simpa using hx)), ?_⟩
  · have hEa : Ext (fun _ => False) h G0 := by
      have : Ext (fun b => h.length ≤ b) h G0 := by
        rw [hG0]
        exact (((hEH.mono fun _ h => h.elim).trans (hw1.2.1.mono fun _ h => h.elim)).trans (hE2.mono fun b hb => by have := hw1.2.2 b hb; omega)).trans (Ext.set _ (by omega))
      exact ⟨this.1, fun i hi _ => this.2 i hi (by omega)⟩
    have hEb : Ext (fun _ => False) h G := ext_ge (hEa.trans hE00) (fun i hi => by omega) s.ext
    exact (ext_ge (hEb.trans hEf) (fun i hi => by have := hEb.1; omega) hE3).set_ge (by omega) _
  · obtain ⟨⟨x, hx, e⟩, h5⟩ := haq
    exact ⟨⟨x, feas_keep.1 (hK.symm ▸ hx), e⟩, h5⟩
end Go.Proofs.Tryd.Am

namespace Go.Proofs.Tryd.Am
open Go.Am
set_option maxRecDepth 100000
/-! 36: planchet planchetlaw05.small -/
@[reducible] def q36_0 : SCode := .region [⟨some 1, .box 44 (.tmp 0), none⟩,
    ⟨some 2, .assign (.const (.bool false)), none⟩]
@[reducible] def q36_1 : SCode := .region [⟨some 3, .fieldAddr 44 (.tmp 1) 1, none⟩,
    ⟨some 4, .load 3 (.tmp 3), none⟩,
    ⟨some 5, .binOp .geq 3 (.tmp 4) (.const (.int .i64 1)) 3, none⟩,
    ⟨some 6, .move (.tmp 5), none⟩,
    ⟨some 7, .fieldAddr 44 (.tmp 1) 1, some (6, true)⟩,
    ⟨some 8, .load 3 (.tmp 7), some (6, true)⟩,
    ⟨some 9, .binOp .leq 3 (.tmp 8) (.const (.int .i64 1000)) 3, some (6, true)⟩,
    ⟨some 10, .pick (.tmp 6) (.tmp 9) (.const (.bool false)), none⟩,
    ⟨some 11, .move (.tmp 10), none⟩,
    ⟨some 12, .fieldAddr 44 (.tmp 1) 0, some (11, true)⟩,
    ⟨some 13, .load 3 (.tmp 12), some (11, true)⟩,
    ⟨some 14, .fieldAddr 44 (.tmp 1) 1, some (11, true)⟩,
    ⟨some 15, .load 3 (.tmp 14), some (11, true)⟩,
    ⟨some 16, .binOp .geq 3 (.tmp 13) (.tmp 15) 3, some (11, true)⟩,
    ⟨some 17, .pick (.tmp 11) (.tmp 16) (.const (.bool false)), none⟩,
    ⟨some 18, .move (.tmp 17), none⟩,
    ⟨some 19, .fieldAddr 44 (.tmp 1) 0, some (18, true)⟩,
    ⟨some 20, .load 3 (.tmp 19), some (18, true)⟩,
    ⟨some 21, .fieldAddr 44 (.tmp 1) 1, some (18, true)⟩,
    ⟨some 22, .load 3 (.tmp 21), some (18, true)⟩,
    ⟨some 23, .binOp .mul 3 (.const (.int .i64 6)) (.tmp 22) 3, some (18, true)⟩,
    ⟨some 24, .binOp .leq 3 (.tmp 20) (.tmp 23) 3, some (18, true)⟩,
    ⟨some 25, .pick (.tmp 18) (.tmp 24) (.const (.bool false)), none⟩,
    ⟨some 2, .assign (.tmp 25), none⟩]
def s36 : SCode := (.seq q36_0 (.seq q36_1 .ret))
theorem s36_strip : Yh (Yj Tryd.f36) = s36 := by kernel_rfl
theorem s36_ok : Yw 26 (Yj Tryd.f36) = true := by kernel_rfl
end Go.Proofs.Tryd.Am

namespace Go.Proofs.Tryd.Am
open Go.Am Sr Bq
set_option maxRecDepth 100000
set_option maxHeartbeats 1000000

theorem gn_bit (xs : List Int) (i j : Nat) : (gn xs i).testBit j = gb xs i j := rfl
theorem cq_iff {xs : List Int} {s i : Nat} (hi : gb xs i i = false) : cq xs s i = true ↔ (s.testBit i = true → ∀ j, j ≠ i → s.testBit j = true → gb xs i j = true) := by
  rw [cq]
  cases hs : s.testBit i with
  | false => simp
  | true =>
    rw [Bool.not_true, Bool.false_or, beq_iff_eq]
    constructor
    · intro h _ j hj hb
      have h1 := Yn s (gn xs i) j
      rw [h, hb, Nat.testBit_two_pow_of_ne (Ne.symm hj), gn_bit] at h1
      simpa using h1.symm
    · intro h
      refine Nat.eq_of_testBit_eq fun j => ?_
      rw [Yn, gn_bit, Nat.testBit_two_pow]
      by_cases hj : j = i
      · rw [hj, hs, hi]; simp
      · rw [decide_eq_false (fun h => hj h.symm)]
        cases hb : s.testBit j with
        | false => rfl
        | true => rw [h rfl j hj hb]; rfl
theorem Vg {xs : List Int} (g : Gs xs) {s : Nat} : s ∈ clq xs ↔ s < 2 ^ xs.length ∧ 0 < s ∧ ∀ i, i < xs.length → s.testBit i = true → ∀ j, j ≠ i → s.testBit j = true → gb xs i j = true := by
  rw [clq, clqTo, List.mem_filter, List.mem_range, Bool.and_eq_true, decide_eq_true_eq, isC, List.all_eq_true]
  refine and_congr_right fun _ => and_congr_right fun _ => ⟨fun h i hi => (cq_iff (g.2.2 i hi).2.1).1 (h i (List.mem_range.2 hi)), fun h i hi => ?_⟩
  rw [List.mem_range] at hi
  exact (cq_iff (g.2.2 i hi).2.1).2 (h i hi)
theorem single_clq {xs : List Int} (g : Gs xs) {i : Nat} (hi : i < xs.length) : 2 ^ i ∈ clq xs := by
  rw [Vg g]
  refine ⟨Nat.pow_lt_pow_right (by decide) hi, Nat.two_pow_pos i, fun k hk hb j hj hj2 => ?_⟩
  rw [Nat.testBit_two_pow, decide_eq_true_eq] at hb hj2
  omega
theorem clq_cover {xs : List Int} (g : Gs xs) (i : Nat) (hi : i < xs.length) : ∃ s ∈ clq xs, s.testBit i = true := ⟨_, single_clq g hi, Nat.testBit_two_pow_self⟩
def WQ (xs : List Int) (q : Rat) : Prop := IsOpt xs.length (clq xs) q ∧ q.num.natAbs ≤ 4320 ∧ q.den ≤ 720
theorem clq_ne {xs : List Int} (g : Gs xs) : clq xs ≠ [] := fun h => by
  have := single_clq g (i := 0) (by have := g.1; omega)
  rw [h] at this; cases this
theorem WQ.ge {xs : List Int} (g : Gs xs) {q : Rat} (w : WQ xs q) : 1 ≤ q := by
  have h0 : 0 < xs.length := by have := g.1; omega
  have := w.1.le (fun i => if i = 0 then 1 else 0) ⟨fun i _ => by split <;> decide, fun s _ => by
    have : dot (bitQ s) (fun i => if i = 0 then 1 else 0) xs.length = bitQ s 0 := by
      have h1 := dot_unit (n := xs.length) (t := 0) (fun i => if i = 0 then 1 else 0) (bitQ s) h0 fun i _ => rfl
      rw [← h1, dot, dot]
      exact sumTo_congr fun i _ => Rat.mul_comm _ _
    rw [this, bitQ]; split <;> decide⟩
  have e : Bq.sumTo (fun i => if i = 0 then (1 : Rat) else 0) xs.length = 1 := by
    have h1 := dot_unit (n := xs.length) (t := 0) (fun i => if i = 0 then 1 else 0) (fun _ => 1) h0 fun i _ => rfl
    exact (sumTo_congr fun i _ => (Rat.mul_one _).symm).trans h1
  rwa [e] at this
theorem feas_one {xs : List Int} (g : Gs xs) {x : Nat → Rat} (hx : PFeas xs.length (clq xs) x) {i : Nat} (hi : i < xs.length) : x i ≤ 1 := by
  have := hx.le _ (single_clq g hi)
  rwa [dot_unit (bitQ (2 ^ i)) x hi fun k _ => by
    rw [bitQ, Nat.testBit_two_pow]
    by_cases h : i = k
    · rw [decide_eq_true h, if_pos rfl, if_pos h.symm]
    · rw [decide_eq_false h, if_neg (by decide), if_neg fun he => h he.symm]] at this
theorem radd_le {a b c d : Rat} (h1 : a ≤ b) (h2 : c ≤ d) : a + c ≤ b + d := by grind
theorem sum_le_nat {x : Nat → Rat} : ∀ {n : Nat}, (∀ i, i < n → x i ≤ 1) → Bq.sumTo x n ≤ ((n : Nat) : Rat)
  | 0, _ => by rw [Bq.sumTo]; decide
  | n + 1, h => by
    have h1 := sum_le_nat (x := x) (n := n) fun i hi => h i (by omega)
    have h2 := h n (by omega)
    rw [Bq.sumTo, Rat.natCast_add]
    exact radd_le h1 h2
theorem WQ.le {xs : List Int} (g : Gs xs) {q : Rat} (w : WQ xs q) : q ≤ ((xs.length : Nat) : Rat) := by
  obtain ⟨x, hx, rfl⟩ := w.1.at_
  exact sum_le_nat fun i hi => feas_one g hx hi
theorem WQ.inj {xs : List Int} {p q : Rat} (h1 : WQ xs p) (h2 : WQ xs q) : p = q := h1.1.inj h2.1
theorem WQ.small {xs : List Int} (g : Gs xs) {q : Rat} (w : WQ xs q) : (q.den : Int) ≤ q.num ∧ q.num ≤ 6 * q.den := by
  have h1 := w.ge g
  have h2 := w.le g
  have h6 := g.2.1
  have h3 : q ≤ ((6 : Nat) : Rat) := Rat.le_trans h2 (by
    have : ((xs.length : Int) : Rat) ≤ ((6 : Int) : Rat) := Rat.intCast_le_intCast.2 (by omega)
    exact this)
  rw [Rat.le_iff] at h1 h3
  have e1 : (1 : Rat).num = 1 := rfl
  have e2 : (1 : Rat).den = 1 := rfl
  have e3 : ((6 : Nat) : Rat).num = 6 := rfl
  have e4 : ((6 : Nat) : Rat).den = 1 := rfl
  rw [e1, e2] at h1
  rw [e3, e4] at h3
  omega
def weighR (xs : List Int) (r : Value) : Prop := if grs xs = true then ∃ q, r = .tuple #[qV q, .int .i64 0] ∧ WQ xs q else r = .tuple #[frV 0 0, .int .i64 2]
theorem weighR_take {xs : List Int} {r : Value} (hr : weighR (xs.take 80) r) (ht : grs (xs.take 80) = grs xs) (hs : grs xs = true → xs.take 80 = xs) : weighR xs r := by
  rw [weighR, ht] at hr
  rw [weighR]
  split
  · next h => rw [if_pos h, hs h] at hr; exact hr
  · next h => rw [if_neg h] at hr; exact hr

theorem s35_callW [Tabs Tryd.prog] {args : List Value} {h : Yd} {Q : Value → Yd → Prop} (hsz : args.length ≤ 13) (hk : AWS Tryd.prog 13 s35 (Zv Tryd.prog [.cell 2 44, .tmp 3] Q) (Zp 0 args) h) : ACall Tryd.prog 35 args h Q :=
  Xq Tryd.func35 rfl (enters_of Tryd.func35 (by kernel_rfl) rfl) rfl rfl (by decide) s35_strip s35_ok hsz hk
theorem weigh_call [Tabs prog] {h : Yd} {v : Value} {xs : List Int} (hv : IntSl h v xs) (hl : xs.length < 9223372036854775808) (hx : ∀ x ∈ xs, -9223372036854775808 ≤ x ∧ x < 9223372036854775808) :
    ACall prog 35 [v] h fun r h' => Ext (fun _ => False) h h' ∧ weighR xs r := by
  obtain ⟨H, hH⟩ : ∃ H, H = h ++ [Blk.cells [.int .i64 0, .int .i64 0] 44 false] := ⟨_, rfl⟩
  have hc : H[h.length]? = some (.cells [.int .i64 0, .int .i64 0] 44 false) := by rw [hH]; exact Xa _ _
  have hv0 : IntSl H v xs := hH ▸ hv.grow _
  have hE0 : Ext (fun _ => False) h H := hH ▸ Ext.app _ _ _
  refine s35_callW (by simp) ?_
  simp only [s35]
  refine Yc fun N1 hN1 => ?_
  simp (maxSteps := 2000000) only [s35, ↓Za, ↓Zk, ↓Zs, ↓Ze, ↓Zj, ↓Zt, ↓Zg, ↓Zm, ↓Zf, ↓Zc, ↓Zb, ↓vdn, vup, Zo, Zh, Zi, Zn, Zl, List.map_cons, List.map_nil, cond_true, cond_false, aop, Zw, Zr, Zp, ev, sput, Zu, Zz, Yb, unK, Zd, Zx, Nat.reduceBEq, Nat.reduceAdd, Int.reduceBEq, Int.reduceBNe, Int.reduceLT, Zv, Ya, tup, tyf, Wm, Xv, Vl, ← hH]
  refine hN1 [(0, v), (2, .pointer (some ⟨h.length, 0, none⟩)), (3, .int .i64 0)] _ _ ?_ (by simp (maxSteps := 2000000) only [↓Za, ↓Zk, ↓Zs, ↓Ze, ↓Zj, ↓Zt, ↓Zg, ↓Zm, ↓Zf, ↓Zc, ↓Zb, ↓vdn, vup, Zo, Zh, Zi, Zn, Zl, List.map_cons, List.map_nil, cond_true, cond_false, aop, Zw, Zr, Zp, ev, sput, Zu, Zz, Yb, unK, Zd, Zx, Nat.reduceBEq, Nat.reduceAdd, Int.reduceBEq, Int.reduceBNe, Int.reduceLT, Zv, Ya, tup, tyf])
  clear hN1
  try clear N1
  refine Yf fun M hM => ?_
  refine Yc fun N2 hN2 => ?_
  simp (maxSteps := 2000000) only [s35, ↓Za, ↓Zk, ↓Zs, ↓Ze, ↓Zj, ↓Zt, ↓Zg, ↓Zm, ↓Zf, ↓Zc, ↓Zb, ↓vdn, vup, Zo, Zh, Zi, Zn, Zl, List.map_cons, List.map_nil, cond_true, cond_false, aop, Zw, Zr, Zp, ev, sput, Zu, Zz, Yb, unK, Zd, Zx, Nat.reduceBEq, Nat.reduceAdd, Int.reduceBEq, Int.reduceBNe, Int.reduceLT, Zv, Ya, tup, tyf, Yv, List.nil_append, List.append_nil, List.toList_toArray, List.cons_append]
  refine (valid_call hv0 hl hx).mono ?_
  rintro _ H ⟨rfl, rfl⟩
  cases hg : grs xs with
  | false =>
    simp (maxSteps := 2000000) only [s35, ↓Za, ↓Zk, ↓Zs, ↓Ze, ↓Zj, ↓Zt, ↓Zg, ↓Zm, ↓Zf, ↓Zc, ↓Zb, ↓vdn, vup, Zo, Zh, Zi, Zn, Zl, List.map_cons, List.map_nil, cond_true, cond_false, aop, Zw, Zr, Zp, ev, sput, Zu, Zz, Yb, unK, Zd, Zx, Nat.reduceBEq, Nat.reduceAdd, Int.reduceBEq, Int.reduceBNe, Int.reduceLT, Zv, Ya, tup, tyf, Bool.not_false]
    refine hN2 [(0, v), (2, .pointer (some ⟨h.length, 0, none⟩)), (3, .int .i64 0), (6, .bool true)] _ _ ?_ (by simp (maxSteps := 2000000) only [↓Za, ↓Zk, ↓Zs, ↓Ze, ↓Zj, ↓Zt, ↓Zg, ↓Zm, ↓Zf, ↓Zc, ↓Zb, ↓vdn, vup, Zo, Zh, Zi, Zn, Zl, List.map_cons, List.map_nil, cond_true, cond_false, aop, Zw, Zr, Zp, ev, sput, Zu, Zz, Yb, unK, Zd, Zx, Nat.reduceBEq, Nat.reduceAdd, Int.reduceBEq, Int.reduceBNe, Int.reduceLT, Zv, Ya, tup, tyf])
    clear hN2
    try clear N2
    refine Xm rfl ?_
    refine Ye ?_
    have hst : ∀ {K : Yd → Prop}, Xp prog H 44 (.pointer (some ⟨h.length, 0, none⟩)) (.agg #[Zy 0, Zy 0]) K = K (H.set h.length (.cells [Zy 0, Zy 0] 44 false)) := fun {K} => storeF hc rfl
    simp (maxSteps := 2000000) only [s35, ↓Za, ↓Zk, ↓Zs, ↓Ze, ↓Zj, ↓Zt, ↓Zg, ↓Zm, ↓Zf, ↓Zc, ↓Zb, ↓vdn, vup, Zo, Zh, Zi, Zn, Zl, List.map_cons, List.map_nil, cond_true, cond_false, aop, Zw, Zr, Zp, ev, sput, Zu, Zz, Yb, unK, Zd, Zx, Nat.reduceBEq, Nat.reduceAdd, Int.reduceBEq, Int.reduceBNe, Int.reduceLT, Zv, Ya, tup, tyf, bldF0, hst, loadF (get_set (Yx hc) _)]
    exact ⟨hE0.set_ge (Nat.le_refl _) _, by rw [weighR, hg, if_neg (by decide)]; rfl⟩
  | true =>
    have g := Wf.1 hg
    have h6 := g.2.1
    simp (maxSteps := 2000000) only [s35, ↓Za, ↓Zk, ↓Zs, ↓Ze, ↓Zj, ↓Zt, ↓Zg, ↓Zm, ↓Zf, ↓Zc, ↓Zb, ↓vdn, vup, Zo, Zh, Zi, Zn, Zl, List.map_cons, List.map_nil, cond_true, cond_false, aop, Zw, Zr, Zp, ev, sput, Zu, Zz, Yb, unK, Zd, Zx, Nat.reduceBEq, Nat.reduceAdd, Int.reduceBEq, Int.reduceBNe, Int.reduceLT, Zv, Ya, tup, tyf, Bool.not_true]
    refine hN2 [(0, v), (2, .pointer (some ⟨h.length, 0, none⟩)), (3, .int .i64 0), (6, .bool false)] _ _ ?_ (by simp (maxSteps := 2000000) only [↓Za, ↓Zk, ↓Zs, ↓Ze, ↓Zj, ↓Zt, ↓Zg, ↓Zm, ↓Zf, ↓Zc, ↓Zb, ↓vdn, vup, Zo, Zh, Zi, Zn, Zl, List.map_cons, List.map_nil, cond_true, cond_false, aop, Zw, Zr, Zp, ev, sput, Zu, Zz, Yb, unK, Zd, Zx, Nat.reduceBEq, Nat.reduceAdd, Int.reduceBEq, Int.reduceBNe, Int.reduceLT, Zv, Ya, tup, tyf])
    clear hN2
    try clear N2
    refine Yy rfl ?_
    refine Ye ?_
    simp (maxSteps := 2000000) only [s35, ↓Za, ↓Zk, ↓Zs, ↓Ze, ↓Zj, ↓Zt, ↓Zg, ↓Zm, ↓Zf, ↓Zc, ↓Zb, ↓vdn, vup, Zo, Zh, Zi, Zn, Zl, List.map_cons, List.map_nil, cond_true, cond_false, aop, Zw, Zr, Zp, ev, sput, Zu, Zz, Yb, unK, Zd, Zx, Nat.reduceBEq, Nat.reduceAdd, Int.reduceBEq, Int.reduceBNe, Int.reduceLT, Zv, Ya, tup, tyf]
    refine hM [(0, v), (2, .pointer (some ⟨h.length, 0, none⟩)), (3, .int .i64 0)] _ _ ?_ (by simp (maxSteps := 2000000) only [↓Za, ↓Zk, ↓Zs, ↓Ze, ↓Zj, ↓Zt, ↓Zg, ↓Zm, ↓Zf, ↓Zc, ↓Zb, ↓vdn, vup, Zo, Zh, Zi, Zn, Zl, List.map_cons, List.map_nil, cond_true, cond_false, aop, Zw, Zr, Zp, ev, sput, Zu, Zz, Yb, unK, Zd, Zx, Nat.reduceBEq, Nat.reduceAdd, Int.reduceBEq, Int.reduceBNe, Int.reduceLT, Zv, Ya, tup, tyf])
    clear hM
    try clear M
    refine Ye ?_
    simp (maxSteps := 2000000) only [s35, ↓Za, ↓Zk, ↓Zs, ↓Ze, ↓Zj, ↓Zt, ↓Zg, ↓Zm, ↓Zf, ↓Zc, ↓Zb, ↓vdn, vup, Zo, Zh, Zi, Zn, Zl, List.map_cons, List.map_nil, cond_true, cond_false, aop, Zw, Zr, Zp, ev, sput, Zu, Zz, Yb, unK, Zd, Zx, Nat.reduceBEq, Nat.reduceAdd, Int.reduceBEq, Int.reduceBNe, Int.reduceLT, Zv, Ya, tup, tyf, Yv, List.nil_append, List.append_nil, List.toList_toArray, List.cons_append, hv0.len]
    refine (cliques_call hv0 g).mono ?_
    rintro r1 h1 ⟨ho1, hE1, _⟩
    have hlt : ∀ s ∈ clq xs, s < 2 ^ xs.length := fun s hs => ((Vg g).1 hs).1
    have hln : (clq xs).length < 1000 := by
      have := clqTo_len xs (2 ^ xs.length)
      have := pow6N h6
      rw [clq]; omega
    refine (packing_call (n := xs.length) (sets := clq xs) ho1.int (clq_ne g) g.1 h6 hlt hln (clq_cover g)).mono ?_
    rintro r2 h2 ⟨hE2, q, rfl, hq, ha⟩
    have hE12 := hE1.trans hE2
    have hc2 := (hE12.2 _ (Yx hc) id).trans hc
    simp (maxSteps := 2000000) only [s35, ↓Za, ↓Zk, ↓Zs, ↓Ze, ↓Zj, ↓Zt, ↓Zg, ↓Zm, ↓Zf, ↓Zc, ↓Zb, ↓vdn, vup, Zo, Zh, Zi, Zn, Zl, List.map_cons, List.map_nil, cond_true, cond_false, aop, Zw, Zr, Zp, ev, sput, Zu, Zz, Yb, unK, Zd, Zx, Nat.reduceBEq, Nat.reduceAdd, Int.reduceBEq, Int.reduceBNe, Int.reduceLT, Zv, Ya, tup, tyf, qV, frV, storeF hc2 rfl, loadF (get_set (Yx hc2) _)]
    exact ⟨(hE0.trans hE12).set_ge (Nat.le_refl _) _, by rw [weighR, hg, if_pos rfl]; exact ⟨q, rfl, hq, ha.2⟩⟩
theorem s36_callW [Tabs Tryd.prog] {args : List Value} {h : Yd} {Q : Value → Yd → Prop} (hsz : args.length ≤ 26) (hk : AWS Tryd.prog 26 s36 (Zv Tryd.prog [.tmp 2] Q) (Zp 0 args) h) : ACall Tryd.prog 36 args h Q :=
  Xq Tryd.func36 rfl (enters_of Tryd.func36 (by kernel_rfl) rfl) rfl rfl (by decide) s36_strip s36_ok hsz hk
theorem small_call [Tabs prog] {h : Yd} {q : Rat} (h1 : (q.den : Int) ≤ q.num) (h2 : q.num ≤ 6 * q.den) (h3 : q.den ≤ 720) : APure prog 36 [qV q] h (.bool true) := by
  have hE : Ext (fun _ => False) h (h ++ [Blk.cells [Zy q.num, Zy q.den] 44 false]) := Ext.app _ _ _
  have hd := q.den_pos
  have e1 : (1 : Int) ≤ q.den := by omega
  have e2 : (q.den : Int) ≤ 1000 := by omega
  have e3 : mulV .i64 6 (q.den : Int) = 6 * (q.den : Int) := mulV_id (by omega) (by omega)
  refine ACall.forget (.bool _) ?_
  refine s36_callW (by simp) ?_
  simp only [s36]
  refine Ye ?_
  simp (maxSteps := 2000000) only [s36, ↓Za, ↓Zk, ↓Zs, ↓Ze, ↓Zj, ↓Zt, ↓Zg, ↓Zm, ↓Zf, ↓Zc, ↓Zb, ↓vdn, vup, Zo, Zh, Zi, Zn, Zl, List.map_cons, List.map_nil, cond_true, cond_false, aop, Zw, Zr, Zp, ev, sput, Zu, Zz, Yb, unK, Zd, Zx, Nat.reduceBEq, Nat.reduceAdd, Int.reduceBEq, Int.reduceBNe, Int.reduceLT, Zv, Ya, tup, tyf, qV, frV, boxF, Xv, fA0, fA1, loadF0 (Xa h (Blk.cells [Zy q.num, Zy q.den] 44 false)), loadF1 (Xa h (Blk.cells [Zy q.num, Zy q.den] 44 false)), ge_iff_le, e1, e2, e3, h1, h2]
  exact hE
end Go.Proofs.Tryd.Am

namespace Go.Proofs.Tryd.Am
open Go.Am Sr Bq

end Go.Proofs.Tryd.Am

namespace Go.Proofs.Tryd.Am
open Go.Am Sr
set_option maxRecDepth 100000
set_option maxHeartbeats 1000000

end Go.Proofs.Tryd.Am

namespace Go.Proofs.Tryd.Am
open Go.Am Sr
set_option maxRecDepth 100000
set_option maxHeartbeats 1000000

theorem IntSl_new (h : Yd) (xs : List Int) (e : TypeId) : IntSl (h ++ [.ints xs e false]) (.slice (some ⟨h.length, 0, none⟩) xs.length xs.length) xs :=
  .inr ⟨h.length, 0, none, xs.length, xs.map Zy, e, false, rfl, Nat.le_refl _, by simp [view, Blk.view], fun i hi => by rw [Nat.zero_add, List.getElem?_map, List.getD, List.getElem?_eq_getElem hi]; rfl⟩
theorem litI2 {h : Yd} {x y : Int} (K : Value → Yd → Prop) : Yt prog h 22 2 [(0, Zy x), (1, Zy y)] K = K (.slice (some ⟨h.length, 0, none⟩) 2 2) (h ++ [.ints [x, y] 3 false]) := by
  simp only [Yt, We, zero_3, Xk, reps, fillL, mkb, Xl, Vh, cellsOf, Yp, List.length_singleton, List.length_cons, List.length_nil, Nat.mul_one, Nat.one_mul, Nat.zero_mul, Nat.zero_add]
  exact propext ⟨fun h => h.2.2.2, fun h => ⟨trivial, by decide, by decide, h⟩⟩
theorem s21_callW [Tabs Tryd.prog] {args : List Value} {h : Yd} {Q : Value → Yd → Prop} (hsz : args.length ≤ 15) (hk : AWS Tryd.prog 15 s21 (Zv Tryd.prog [.tmp 0] Q) (Zp 0 args) h) : ACall Tryd.prog 21 args h Q :=
  Xq Tryd.func21 rfl (enters_of Tryd.func21 (by kernel_rfl) rfl) rfl rfl (by decide) s21_strip s21_ok hsz hk
theorem awake_call [BitTab prog 0] {h : Yd} : ACall prog 21 [] h fun r h' => r = .bool true ∧ Ext (fun _ => False) h h' := by
  refine s21_callW (by simp) ?_
  simp only [s21]
  refine Yc fun N7 hN7 => ?_
  simp (maxSteps := 2000000) only [s21, ↓Za, ↓Zk, ↓Zs, ↓Ze, ↓Zj, ↓Zt, ↓Zg, ↓Zm, ↓Zf, ↓Zc, ↓Zb, ↓vdn, vup, Zo, Zh, Zi, Zn, Zl, List.map_cons, List.map_nil, cond_true, cond_false, aop, Zw, Zr, Zp, ev, sput, Zu, Zz, Yb, unK, Zd, Zx, Nat.reduceBEq, Nat.reduceAdd, Int.reduceBEq, Int.reduceBNe, Int.reduceLT, Zv, Ya, tup, tyf]
  refine hN7 [(0, .bool false)] _ _ ?_ (by simp (maxSteps := 2000000) only [↓Za, ↓Zk, ↓Zs, ↓Ze, ↓Zj, ↓Zt, ↓Zg, ↓Zm, ↓Zf, ↓Zc, ↓Zb, ↓vdn, vup, Zo, Zh, Zi, Zn, Zl, List.map_cons, List.map_nil, cond_true, cond_false, aop, Zw, Zr, Zp, ev, sput, Zu, Zz, Yb, unK, Zd, Zx, Nat.reduceBEq, Nat.reduceAdd, Int.reduceBEq, Int.reduceBNe, Int.reduceLT, Zv, Ya, tup, tyf])
  clear hN7
  try clear N7
  have hi : IntSl (h ++ [.ints [2, 1] 3 false]) (.slice (some ⟨h.length, 0, none⟩) 2 2) [2, 1] := IntSl_new h [2, 1] 3
  have hc := code_call hi (by decide) (by decide) (k := 1)
  refine Yc fun N8 hN8 => ?_
  simp (maxSteps := 2000000) only [s21, ↓Za, ↓Zk, ↓Zs, ↓Ze, ↓Zj, ↓Zt, ↓Zg, ↓Zm, ↓Zf, ↓Zc, ↓Zb, ↓vdn, vup, Zo, Zh, Zi, Zn, Zl, List.map_cons, List.map_nil, cond_true, cond_false, aop, Zw, Zr, Zp, ev, sput, Zu, Zz, Yb, unK, Zd, Zx, Nat.reduceBEq, Nat.reduceAdd, Int.reduceBEq, Int.reduceBNe, Int.reduceLT, Zv, Ya, tup, tyf, Yv, List.nil_append, List.append_nil, List.toList_toArray, List.cons_append, litI2]
  refine (hc).mono ?_
  rintro r h' ⟨hE, hr⟩
  have hg : grs [2, 1] = true := by decide
  have hcl : codeL (Xr [2, 1] 1) = [0] := by decide +kernel
  rw [codeR, if_pos ⟨hg, by decide, by decide⟩] at hr
  rw [if_pos (by decide)] at hr
  obtain ⟨w, rfl, hw⟩ := hr
  rw [show (1 : Int).toNat = 1 from rfl, hcl] at hw
  simp (maxSteps := 2000000) only [s21, ↓Za, ↓Zk, ↓Zs, ↓Ze, ↓Zj, ↓Zt, ↓Zg, ↓Zm, ↓Zf, ↓Zc, ↓Zb, ↓vdn, vup, Zo, Zh, Zi, Zn, Zl, List.map_cons, List.map_nil, cond_true, cond_false, aop, Zw, Zr, Zp, ev, sput, Zu, Zz, Yb, unK, Zd, Zx, Nat.reduceBEq, Nat.reduceAdd, Int.reduceBEq, Int.reduceBNe, Int.reduceLT, Zv, Ya, tup, tyf]
  refine hN8 [(0, .bool false), (1, w), (2, .int .i64 0)] _ _ ?_ (by simp (maxSteps := 2000000) only [↓Za, ↓Zk, ↓Zs, ↓Ze, ↓Zj, ↓Zt, ↓Zg, ↓Zm, ↓Zf, ↓Zc, ↓Zb, ↓vdn, vup, Zo, Zh, Zi, Zn, Zl, List.map_cons, List.map_nil, cond_true, cond_false, aop, Zw, Zr, Zp, ev, sput, Zu, Zz, Yb, unK, Zd, Zx, Nat.reduceBEq, Nat.reduceAdd, Int.reduceBEq, Int.reduceBNe, Int.reduceLT, Zv, Ya, tup, tyf])
  clear hN8
  try clear N8
  have hi2 : IntSl (h' ++ [.ints [0] 3 false]) (.slice (some ⟨h'.length, 0, none⟩) 1 1) [0] := IntSl_new h' [0] 3
  have heq := equal_call (hw.int.grow [.ints [0] 3 false]) hi2 (by decide) (by decide)
  have e0 : ((0 : Int) == 0) = true := rfl
  refine Ye ?_
  simp (maxSteps := 2000000) only [s21, ↓Za, ↓Zk, ↓Zs, ↓Ze, ↓Zj, ↓Zt, ↓Zg, ↓Zm, ↓Zf, ↓Zc, ↓Zb, ↓vdn, vup, Zo, Zh, Zi, Zn, Zl, List.map_cons, List.map_nil, cond_true, cond_false, aop, Zw, Zr, Zp, ev, sput, Zu, Zz, Yb, unK, Zd, Zx, Nat.reduceBEq, Nat.reduceAdd, Int.reduceBEq, Int.reduceBNe, Int.reduceLT, Zv, Ya, tup, tyf, Yv, List.nil_append, List.append_nil, List.toList_toArray, List.cons_append, e0, litI1]
  refine (heq).mono ?_
  rintro _ _ ⟨rfl, rfl⟩
  have hd : decide ([0].map Int.ofNat = [0]) = true := by decide
  refine ⟨congrArg Value.bool hd, ?_⟩
  exact ((Ext.app (fun _ => False) h _).trans hE).trans (Ext.app _ _ _)
end Go.Proofs.Tryd.Am

namespace Go.Proofs.Tryd.Am
open Go.Am Sr
set_option maxRecDepth 100000
set_option maxHeartbeats 1000000

/-! The beginnings that the statements look at. -/
theorem grs_take (xs : List Int) : grs (xs.take 80) = grs xs := by
  by_cases hl : xs.length ≤ 80
  · rw [List.take_of_length_le hl]
  · have h1 : grs xs = false := by
      cases h : grs xs with
      | false => rfl
      | true => have := (Wf.1 h).2.1; omega
    have h2 : grs (xs.take 80) = false := by
      cases h : grs (xs.take 80) with
      | false => rfl
      | true => have := (Wf.1 h).2.1; rw [List.length_take] at this; omega
    rw [h1, h2]
theorem grs_same {xs : List Int} (h : grs xs = true) : xs.take 80 = xs := List.take_of_length_le (by have := (Wf.1 h).2.1; omega)
theorem codeR_take {h : Yd} {xs : List Int} {k : Int} {r : Value} (hr : codeR h (xs.take 80) k r) : codeR h xs k r := by
  unfold codeR at hr ⊢
  rw [grs_take] at hr
  by_cases h : grs xs = true ∧ 1 ≤ k ∧ k ≤ 3
  · rw [if_pos h, grs_same h.1] at hr; rw [if_pos h]; exact hr
  · rw [if_neg h] at hr ⊢; exact hr
theorem awk [BitTab prog 0] {K : Value → Yd → Prop} {g : Yd} (hk : ∀ g', Ext (fun _ => False) g g' → K (.bool true) g') : ACall prog 21 [] g K := awake_call.mono fun v h' ⟨h1, h2⟩ => by rw [h1]; exact hk _ h2
theorem Wr {xs : List Int} (hx : ∀ x ∈ xs, -9223372036854775808 ≤ x ∧ x < 9223372036854775808) : ∀ x ∈ xs.take 80, -9223372036854775808 ≤ x ∧ x < 9223372036854775808 := fun x hm => hx x (List.take_subset _ _ hm)
theorem Ws (xs : List Int) : (xs.take 80).length < 9223372036854775808 := by simp; omega
end Go.Proofs.Tryd.Am

set_option maxRecDepth 100000
namespace Sr
open Go.Am
def fullA (nr : List Nat) : Nat := A nr (2 ^ nr.length - 1)
structure CI (nr : List Nat) (k : Nat) (s : Nat × Nat × List Nat) : Prop where
  lt : s.1 < 2 ^ nr.length
  need : s.2.1 = A nr s.1
  hi : ∀ i, s.1.testBit i = true → k ≤ i
  sum : s.2.2.length + A nr s.1 = fullA nr
  lo : ∀ u ∈ s.2.2, u < k
  far : ∀ u ∈ s.2.2, ∀ x, s.1.testBit x = true → ok nr u x = true
  pw : s.2.2.Pairwise fun x y => x < y ∧ ok nr x y = true
theorem cAt_ci {nr : List Nat} (g : Gr nr) : ∀ k, CI nr k (cAt nr k)
  | 0 => by
    have := Nat.two_pow_pos nr.length
    exact ⟨by show 2 ^ nr.length - 1 < _; omega, rfl, fun _ _ => Nat.zero_le _, by show 0 + _ = _; rw [Nat.zero_add]; rfl, (fun u h => by cases h), (fun u h => by cases h), List.Pairwise.nil⟩
  | k + 1 => by
    obtain ⟨h1, h2, h3, h4, h5, h6, h7⟩ := cAt_ci g k
    have h64 : (cAt nr k).1 < 2 ^ 64 := Nat.lt_of_lt_of_le h1 (Nat.pow_le_pow_right (by decide) g.len)
    rw [cAt_succ]
    generalize cAt nr k = s at h1 h2 h3 h4 h5 h6 h7 h64
    unfold cStep
    split
    · rename_i hb
      have hp := A_pivot g h64 hb
      split
      · rename_i ht
        refine ⟨cut_lt h1, by simp only; omega, fun i hi => ?_, ?_, ?_, ?_, ?_⟩
        · rw [cut_bit] at hi; simp at hi
          have := h3 i hi.1; omega
        · rw [List.length_append, List.length_singleton]; simp only; omega
        · intro u hu
          rcases List.mem_append.1 hu with hu | hu
          · have := h5 u hu; omega
          · rw [List.mem_singleton.1 hu]; omega
        · intro u hu x hx
          rw [cut_bit] at hx; simp at hx
          rcases List.mem_append.1 hu with hu | hu
          · exact h6 u hu x hx.1
          · rw [List.mem_singleton.1 hu]; exact hx.2.2
        · refine List.pairwise_append.2 ⟨h7, List.pairwise_singleton _ _, fun x hx y hy => ?_⟩
          rw [List.mem_singleton.1 hy]; exact ⟨h5 x hx, h6 x hx k hb⟩
      · rename_i ht
        refine ⟨less_lt h1, by simp only; omega, fun i hi => ?_, by simp only; omega, fun u hu => by have := h5 u hu; omega, fun u hu x hx => ?_, h7⟩
        · rw [less_bit] at hi; simp at hi
          have := h3 i hi.1; omega
        · rw [less_bit] at hx; simp at hx; exact h6 u hu x hx.1
    · rename_i hb
      refine ⟨h1, h2, fun i hi => ?_, h4, fun u hu => by have := h5 u hu; omega, h6, h7⟩
      have := h3 i hi
      have : i ≠ k := fun e => hb (e ▸ hi)
      omega
theorem codeL_len {nr : List Nat} (g : Gr nr) : (codeL nr).length = fullA nr := by
  have h := cAt_ci g nr.length
  have h0 : (cAt nr nr.length).1 = 0 := by
    apply Nat.eq_of_testBit_eq; intro i
    rw [Nat.zero_testBit, ← Bool.not_eq_true]; intro hi
    have h1 := h.hi i hi
    have := bit_lt h.lt hi; omega
  have hs := h.sum
  rw [h0, A_zero] at hs
  exact hs
theorem cnt_mem {L : List Nat} (hL : L.Nodup) : ∀ l : List Nat, l.Nodup → (∀ x ∈ l, x ∈ L) → L.countP (fun x => l.contains x) = l.length
  | [], _, _ => by simp
  | c :: r, hn, hs => by
    have hn' := List.nodup_cons.1 hn
    rw [Wg _ L hL (hs c (by simp)) (by simp), List.length_cons]
    congr 1
    rw [← cnt_mem hL r hn'.2 fun x hx => hs x (by simp [hx])]
    refine List.countP_congr fun x _ => ?_
    by_cases h : x = c
    · subst h; simp [hn'.1]
    · simp [h]
theorem code_le {nr : List Nat} (g : Gr nr) {l : List Nat} (hl : ∀ x ∈ l, x < nr.length) (hp : l.Pairwise fun x y => x < y ∧ ok nr x y = true) : l.length ≤ fullA nr := by
  have hn : l.Nodup := hp.imp fun h => by have := h.1; omega
  have h64 := g.len
  rw [← cnt_mem (L := List.range 64) List.nodup_range l hn fun x hx => List.mem_range.2 (by have := hl x hx; omega)]
  refine Vi _ _ _ List.nodup_range ?_ ?_
  · intro i _ j _ hne h1 h2
    have m1 := List.contains_iff_mem.1 h1
    have m2 := List.contains_iff_mem.1 h2
    have : ∀ x ∈ l, ∀ y ∈ l, x ≠ y → ok nr x y = true := by
      clear hn hl h64 m1 m2 h1 h2
      induction l with
      | nil => intro x hx; cases hx
      | cons c r ih =>
        have hp' := List.pairwise_cons.1 hp
        intro x hx y hy hne
        rcases List.mem_cons.1 hx with e1 | hx <;> rcases List.mem_cons.1 hy with e2 | hy
        · exact absurd (e1.trans e2.symm) hne
        · rw [e1]; exact (hp'.1 y hy).2
        · rw [e2, ok_comm g]; exact (hp'.1 x hx).2
        · exact ih hp'.2 x hx y hy hne
    exact this i m1 j m2 hne
  · intro i _ h1
    have := hl i (List.contains_iff_mem.1 h1)
    rw [Nat.testBit_two_pow_sub_one]; simpa using this

theorem code_pw {xs : List Int} {k : Nat} {c : List Int} : code xs k c = true ↔ (∀ x ∈ c, 0 ≤ x ∧ x < wn xs k) ∧ c.Pairwise fun x y => x < y ∧ cf xs k y.toNat x.toNat = false := by
  rw [code_iff]
  have gd : ∀ i (h : i < c.length), c.getD i 0 = c[i] := fun i h => by rw [List.getD, List.getElem?_eq_getElem h]; rfl
  constructor
  · intro h
    refine ⟨fun x hx => ?_, List.pairwise_iff_getElem.2 fun i j hi hj hij => ⟨?_, ?_⟩⟩
    · obtain ⟨i, hi, rfl⟩ := List.mem_iff_getElem.1 hx
      rw [← gd i hi]; exact ⟨(h i hi).1, (h i hi).2.1⟩
    · have : ∀ d, i + 1 + d < c.length → c.getD i 0 < c.getD (i + 1 + d) 0 := by
        intro d
        induction d with
        | zero =>
          intro hd
          have := (h (i + 1) hd).2.2.1
          rw [Nat.add_sub_cancel] at this
          rcases this with h1 | h1
          · omega
          · exact h1
        | succ d ih =>
          intro hd
          have := (h (i + 1 + d + 1) hd).2.2.1
          rw [Nat.add_sub_cancel] at this
          have := ih (by omega)
          rcases ‹_ ∨ _› with h1 | h1
          · omega
          · show c.getD i 0 < c.getD (i + 1 + d + 1) 0; omega
      have := this (j - (i + 1)) (by omega)
      rw [show i + 1 + (j - (i + 1)) = j by omega, gd i hi, gd j hj] at this; exact this
    · have := (h j hj).2.2.2 i hij
      rw [gd i hi, gd j hj] at this; exact this
  · rintro ⟨h1, h2⟩ i hi
    have h3 := List.pairwise_iff_getElem.1 h2
    rw [gd i hi]
    refine ⟨(h1 _ (List.getElem_mem hi)).1, (h1 _ (List.getElem_mem hi)).2, ?_, fun j hj => ?_⟩
    · by_cases h0 : i = 0
      · exact .inl h0
      · rw [gd (i - 1) (by omega)]; exact .inr (h3 _ _ (by omega) hi (by omega)).1
    · rw [gd j (by omega)]; exact (h3 _ _ (by omega) hi hj).2
theorem okW {xs : List Int} {k x y : Nat} (hx : x < wn xs k) (hy : y < wn xs k) (hne : x ≠ y) : ok (Xr xs k) x y = !cf xs k x y := by
  rw [ok, nearL_bit]; simp [hx, hy, hne]
theorem codeL_code {xs : List Int} (g : Gs xs) {k : Nat} (hk : wn xs k ≤ 64) : code xs k ((codeL (Xr xs k)).map Int.ofNat) = true := by
  have h := cAt_ci (nearL_gr g hk) (Xr xs k).length
  have hlo : ∀ u ∈ codeL (Xr xs k), u < wn xs k := fun u hu => by have := h.lo u hu; rw [nearL_len] at this; exact this
  refine code_pw.2 ⟨fun x hx => ?_, List.pairwise_map.2 ?_⟩
  · obtain ⟨u, hu, rfl⟩ := List.mem_map.1 hx
    have := hlo u hu
    exact ⟨Int.natCast_nonneg u, Int.ofNat_lt.2 this⟩
  · refine List.Pairwise.imp_of_mem ?_ h.pw
    intro x y hx hy hxy
    refine ⟨Int.ofNat_lt.2 hxy.1, ?_⟩
    have := hxy.2
    rw [okW (hlo x hx) (hlo y hy) (by omega)] at this
    show cf xs k y x = false
    rw [cf_comm g]; simpa using this
theorem code_max {xs : List Int} (g : Gs xs) {k : Nat} (hk : wn xs k ≤ 64) {c : List Int} (h : code xs k c = true) : c.length ≤ (codeL (Xr xs k)).length := by
  obtain ⟨h1, h2⟩ := code_pw.1 h
  rw [codeL_len (nearL_gr g hk)]
  have := code_le (nearL_gr g hk) (l := c.map Int.toNat) (fun x hx => ?_) (List.pairwise_map.2 (List.Pairwise.imp_of_mem ?_ h2))
  · rw [List.length_map] at this; exact this
  · obtain ⟨u, hu, rfl⟩ := List.mem_map.1 hx
    have := h1 u hu
    rw [nearL_len]; omega
  · intro x y hx hy hxy
    have a1 := h1 x hx
    have a2 := h1 y hy
    have := hxy.1
    refine ⟨by omega, ?_⟩
    rw [okW (by omega) (by omega) (by omega), cf_comm g]; simpa using hxy.2
def both (xs : List Int) (k : Nat) (a b : List Int) : List Int := a.flatMap fun x => b.map fun y => x * wn xs k + y
end Sr

namespace Go.Proofs.Tryd.Am
open Go.Am Sr Bq

section
variable {xs ys : List Int}
end
section
variable {xs : List Int} {i j : Nat}
end
set_option maxRecDepth 100000
set_option maxHeartbeats 1000000
theorem newF {h : Yd} {x y : Int} {K : Yd → Prop} : Xp prog (h ++ [Blk.cells [.int .i64 0, .int .i64 0] 44 false]) 44 (.pointer (some ⟨h.length, 0, none⟩)) (.agg #[Zy x, Zy y]) K = K (h ++ [.cells [Zy x, Zy y] 44 false]) := by
  rw [storeF (Xa h (Blk.cells [.int .i64 0, .int .i64 0] 44 false)) rfl, set_new]
end Go.Proofs.Tryd.Am

namespace Go.Proofs.Tryd.Am
open Go.Am
set_option maxRecDepth 100000
/-! 31: planchet sure.Join -/
@[reducible] def q31_0 : SCode := .region [⟨some 4, .assign (.const (.slice none 0 0)), none⟩,
    ⟨some 5, .assign (.const (.int .i64 0)), none⟩]
@[reducible] def q31_1 : SCode := .region [⟨some 10, .move (.tmp 0), none⟩,
    ⟨some 11, .move (.tmp 1), none⟩,
    ⟨some 6, .alloc 56, none⟩,
    ⟨some 7, .alloc 56, none⟩,
    ⟨none, .store 56 (.tmp 6) (.tmp 10), none⟩,
    ⟨none, .store 56 (.tmp 7) (.tmp 11), none⟩]
@[reducible] def q31_2 : SCode := .region [⟨some 13, .load 56 (.tmp 6), none⟩,
    ⟨some 14, .call { callee := .value (.func 51), args := #[.tmp 13], argTypes := #[56] }, none⟩,
    ⟨some 15, .unOp .not 4 (.tmp 14), none⟩,
    ⟨some 16, .move (.tmp 15), none⟩,
    ⟨some 17, .load 56 (.tmp 7), some (16, false)⟩,
    ⟨some 18, .call { callee := .value (.func 51), args := #[.tmp 17], argTypes := #[56] }, some (16, false)⟩,
    ⟨some 19, .unOp .not 4 (.tmp 18), some (16, false)⟩,
    ⟨some 20, .pick (.tmp 16) (.const (.bool true)) (.tmp 19), none⟩,
    ⟨some 12, .assign (.tmp 20), none⟩]
@[reducible] def q31_3 : SCode := .region [⟨some 4, .assign (.const (.slice none 0 0)), none⟩,
    ⟨some 5, .assign (.const (.int .i64 2)), none⟩]
@[reducible] def q31_4 : SCode := .region [⟨some 22, .move (.tmp 0), none⟩,
    ⟨some 23, .call { callee := .builtin .len, args := #[.tmp 22], argTypes := #[22] }, none⟩,
    ⟨some 24, .move (.tmp 1), none⟩,
    ⟨some 25, .call { callee := .builtin .len, args := #[.tmp 24], argTypes := #[22] }, none⟩,
    ⟨some 26, .binOp .mul 3 (.tmp 23) (.tmp 25) 3, none⟩,
    ⟨some 27, .binOp .gtr 3 (.tmp 26) (.const (.int .i64 6)) 3, none⟩,
    ⟨some 21, .assign (.tmp 27), none⟩]
@[reducible] def q31_5 : SCode := .region [⟨some 4, .assign (.const (.slice none 0 0)), none⟩,
    ⟨some 5, .assign (.const (.int .i64 6)), none⟩]
@[reducible] def q31_6 : SCode := .region [⟨some 28, .move (.tmp 1), none⟩,
    ⟨some 29, .call { callee := .builtin .len, args := #[.tmp 28], argTypes := #[22] }, none⟩,
    ⟨some 8, .alloc 3, none⟩,
    ⟨none, .store 3 (.tmp 8) (.tmp 29), none⟩]
@[reducible] def q31_7 : SCode := .region [⟨some 9, .alloc 68, none⟩,
    ⟨none, .store 68 (.tmp 9) (.func 58), none⟩]
@[reducible] def q31_8 : SCode := .region [⟨some 30, .move (.tmp 0), none⟩,
    ⟨some 31, .call { callee := .builtin .len, args := #[.tmp 30], argTypes := #[22] }, none⟩,
    ⟨some 32, .load 3 (.tmp 8), none⟩,
    ⟨some 33, .binOp .mul 3 (.tmp 31) (.tmp 32) 3, none⟩,
    ⟨some 34, .makeFunc (.func 60) #[] #[.tmp 9, .tmp 6, .tmp 8, .tmp 7], none⟩,
    ⟨some 35, .call { callee := .value (.func 59), args := #[.tmp 33, .tmp 34], argTypes := #[3, 70] }, none⟩,
    ⟨some 4, .assign (.tmp 35), none⟩,
    ⟨some 5, .assign (.const (.int .i64 0)), none⟩]
def s31 : SCode := (.seq q31_0 (.seq q31_1 (.seq (.block 0 (.seq q31_2 (.cond (.tmp 12) (.seq q31_3 .ret) (.seq q31_4 (.cond (.tmp 21) (.seq q31_5 .ret) .skip))))) (.seq q31_6 (.seq q31_7 (.seq q31_8 .ret))))))
theorem s31_strip : Yh (Yj Tryd.f31) = s31 := by kernel_rfl
theorem s31_ok : Yw 36 (Yj Tryd.f31) = true := by kernel_rfl
/-! 32: planchet sure.Sum -/
@[reducible] def q32_0 : SCode := .region [⟨some 4, .assign (.const (.slice none 0 0)), none⟩,
    ⟨some 5, .assign (.const (.int .i64 0)), none⟩]
@[reducible] def q32_1 : SCode := .region [⟨some 10, .move (.tmp 0), none⟩,
    ⟨some 11, .call { callee := .value (.func 51), args := #[.tmp 10], argTypes := #[56] }, none⟩,
    ⟨some 12, .unOp .not 4 (.tmp 11), none⟩,
    ⟨some 13, .move (.tmp 12), none⟩,
    ⟨some 14, .move (.tmp 1), some (13, false)⟩,
    ⟨some 15, .call { callee := .value (.func 51), args := #[.tmp 14], argTypes := #[56] }, some (13, false)⟩,
    ⟨some 16, .unOp .not 4 (.tmp 15), some (13, false)⟩,
    ⟨some 17, .pick (.tmp 13) (.const (.bool true)) (.tmp 16), none⟩,
    ⟨some 9, .assign (.tmp 17), none⟩]
@[reducible] def q32_2 : SCode := .region [⟨some 4, .assign (.const (.slice none 0 0)), none⟩,
    ⟨some 5, .assign (.const (.int .i64 2)), none⟩]
@[reducible] def q32_3 : SCode := .region [⟨some 19, .move (.tmp 0), none⟩,
    ⟨some 20, .call { callee := .builtin .len, args := #[.tmp 19], argTypes := #[22] }, none⟩,
    ⟨some 21, .move (.tmp 1), none⟩,
    ⟨some 22, .call { callee := .builtin .len, args := #[.tmp 21], argTypes := #[22] }, none⟩,
    ⟨some 23, .binOp .add 3 (.tmp 20) (.tmp 22) 3, none⟩,
    ⟨some 24, .binOp .gtr 3 (.tmp 23) (.const (.int .i64 6)) 3, none⟩,
    ⟨some 18, .assign (.tmp 24), none⟩]
@[reducible] def q32_4 : SCode := .region [⟨some 4, .assign (.const (.slice none 0 0)), none⟩,
    ⟨some 5, .assign (.const (.int .i64 6)), none⟩]
@[reducible] def q32_5 : SCode := .region [⟨some 25, .move (.tmp 0), none⟩,
    ⟨some 26, .call { callee := .value (.func 26), args := #[.tmp 25], argTypes := #[22] }, none⟩,
    ⟨some 6, .assign (.tmp 26), none⟩]
@[reducible] def q32_6 : SCode := .region [⟨some 27, .move (.tmp 1), none⟩,
    ⟨some 28, .call { callee := .builtin .len, args := #[.tmp 27], argTypes := #[22] }, none⟩,
    ⟨some 29, .move (.const (.int .i64 0)), none⟩]
@[reducible] def q32_7 : SCode := .region [⟨some 30, .binOp .lss 3 (.tmp 29) (.tmp 28) 3, none⟩]
@[reducible] def q32_8 : SCode := .region [⟨some 31, .indexAddr 22 (.tmp 27) (.tmp 29), none⟩,
    ⟨some 32, .load 3 (.tmp 31), none⟩,
    ⟨some 8, .assign (.tmp 32), none⟩]
@[reducible] def q32_9 : SCode := .region [⟨some 33, .move (.tmp 6), none⟩,
    ⟨some 34, .move (.tmp 8), none⟩,
    ⟨some 35, .move (.tmp 0), none⟩,
    ⟨some 36, .call { callee := .builtin .len, args := #[.tmp 35], argTypes := #[22] }, none⟩,
    ⟨some 37, .binOp .shl 3 (.tmp 34) (.tmp 36) 3, none⟩,
    ⟨some 38, .buildSlice 22 1 #[(0, .tmp 37)], none⟩,
    ⟨some 39, .call { callee := .builtin .append, args := #[.tmp 33, .tmp 38], argTypes := #[22, 22] }, none⟩,
    ⟨some 6, .assign (.tmp 39), none⟩]
@[reducible] def q32_10 : SCode := .region [⟨some 40, .binOp .add 3 (.tmp 29) (.const (.int .i64 1)) 3, none⟩,
    ⟨some 29, .move (.tmp 40), none⟩]
def l32_0 : SCode := (.seq q32_7 (.seq (.cond (.tmp 30) .skip (.exit 1)) (.seq (.block 2 (.seq q32_8 q32_9)) q32_10)))
@[reducible] def q32_11 : SCode := .region [⟨some 41, .move (.tmp 6), none⟩,
    ⟨some 4, .assign (.tmp 41), none⟩,
    ⟨some 5, .assign (.const (.int .i64 0)), none⟩]
def s32 : SCode := (.seq q32_0 (.seq (.block 0 (.seq q32_1 (.cond (.tmp 9) (.seq q32_2 .ret) (.seq q32_3 (.cond (.tmp 18) (.seq q32_4 .ret) .skip))))) (.seq q32_5 (.seq (.seq q32_6 (.block 1 (.loop l32_0))) (.seq q32_11 .ret)))))
theorem s32_strip : Yh (Yj Tryd.f32) = s32 := by kernel_rfl
theorem s32_ok : Yw 42 (Yj Tryd.f32) = true := by kernel_rfl
/-! 58: planchet sure.Join$1 -/
@[reducible] def q58_0 : SCode := .region [⟨some 6, .assign (.const (.bool false)), none⟩]
@[reducible] def q58_1 : SCode := .region [⟨some 7, .move (.tmp 1), none⟩,
    ⟨some 8, .move (.tmp 2), none⟩,
    ⟨some 9, .binOp .eql 3 (.tmp 7) (.tmp 8) 3, none⟩,
    ⟨some 10, .move (.tmp 9), none⟩,
    ⟨some 11, .move (.tmp 0), some (10, false)⟩,
    ⟨some 12, .move (.tmp 1), some (10, false)⟩,
    ⟨some 13, .indexAddr 56 (.tmp 11) (.tmp 12), some (10, false)⟩,
    ⟨some 14, .load 3 (.tmp 13), some (10, false)⟩,
    ⟨some 15, .move (.tmp 2), some (10, false)⟩,
    ⟨some 16, .binOp .shr 3 (.tmp 14) (.tmp 15) 3, some (10, false)⟩,
    ⟨some 17, .binOp .and 3 (.tmp 16) (.const (.int .i64 1)) 3, some (10, false)⟩,
    ⟨some 18, .binOp .eql 3 (.tmp 17) (.const (.int .i64 1)) 3, some (10, false)⟩,
    ⟨some 19, .pick (.tmp 10) (.const (.bool true)) (.tmp 18), none⟩,
    ⟨some 6, .assign (.tmp 19), none⟩]
def s58 : SCode := (.seq q58_0 (.seq q58_1 .ret))
theorem s58_strip : Yh (Yj Tryd.f58) = s58 := by kernel_rfl
theorem s58_ok : Yw 20 (Yj Tryd.f58) = true := by kernel_rfl
/-! 59: planchet sure.made -/
@[reducible] def q59_0 : SCode := .region [⟨some 4, .assign (.const (.slice none 0 0)), none⟩]
@[reducible] def q59_1 : SCode := .region [⟨some 8, .move (.tmp 0), none⟩,
    ⟨some 9, .makeSlice 56 (.tmp 8) (.tmp 8), none⟩,
    ⟨some 5, .assign (.tmp 9), none⟩]
@[reducible] def q59_2 : SCode := .region [⟨some 10, .move (.tmp 0), none⟩,
    ⟨some 11, .move (.const (.int .i64 0)), none⟩]
@[reducible] def q59_3 : SCode := .region [⟨some 12, .binOp .lss 3 (.tmp 11) (.tmp 10) 3, none⟩]
@[reducible] def q59_4 : SCode := .region [⟨some 13, .move (.tmp 11), none⟩,
    ⟨some 6, .assign (.tmp 13), none⟩]
@[reducible] def q59_5 : SCode := .region [⟨some 14, .move (.tmp 0), none⟩,
    ⟨some 15, .move (.const (.int .i64 0)), none⟩]
@[reducible] def q59_6 : SCode := .region [⟨some 16, .binOp .lss 3 (.tmp 15) (.tmp 14) 3, none⟩]
@[reducible] def q59_7 : SCode := .region [⟨some 17, .move (.tmp 15), none⟩,
    ⟨some 7, .assign (.tmp 17), none⟩]
@[reducible] def q59_8 : SCode := .region [⟨some 18, .move (.tmp 6), none⟩,
    ⟨some 19, .move (.tmp 7), none⟩,
    ⟨some 20, .binOp .neq 3 (.tmp 18) (.tmp 19) 3, none⟩,
    ⟨some 21, .move (.tmp 20), none⟩,
    ⟨some 22, .move (.tmp 1), some (21, true)⟩,
    ⟨some 23, .move (.tmp 6), some (21, true)⟩,
    ⟨some 24, .move (.tmp 7), some (21, true)⟩,
    ⟨some 25, .call { callee := .value (.tmp 22), args := #[.tmp 23, .tmp 24], argTypes := #[3, 3] }, some (21, true)⟩,
    ⟨some 26, .pick (.tmp 21) (.tmp 25) (.const (.bool false)), none⟩]
def q59_9 : SCode := .draw [⟨some 27, .move (.tmp 5), none⟩,
    ⟨some 28, .move (.tmp 6), none⟩,
    ⟨some 29, .indexAddr 56 (.tmp 27) (.tmp 28), none⟩,
    ⟨some 30, .load 3 (.tmp 29), none⟩,
    ⟨some 31, .move (.tmp 7), none⟩,
    ⟨some 32, .binOp .shl 3 (.const (.int .i64 1)) (.tmp 31) 3, none⟩,
    ⟨some 33, .binOp .or 3 (.tmp 30) (.tmp 32) 3, none⟩,
    ⟨some 34, .indexAddr 56 (.tmp 27) (.tmp 28), none⟩,
    ⟨none, .store 3 (.tmp 34) (.tmp 33), none⟩]
   [[], [], [0, 1], [2], [], [4], [3, 5], [0, 1, 0, 1, 2, 3, 4, 5, 6], [7, 6, 0, 1, 2, 3, 4, 5, 6]]
@[reducible] def q59_10 : SCode := .region [⟨some 35, .binOp .add 3 (.tmp 15) (.const (.int .i64 1)) 3, none⟩,
    ⟨some 15, .move (.tmp 35), none⟩]
def l59_0 : SCode := (.seq q59_6 (.seq (.cond (.tmp 16) .skip (.exit 2)) (.seq (.block 3 (.seq q59_7 (.seq q59_8 (.cond (.tmp 26) q59_9 .skip)))) q59_10)))
@[reducible] def q59_11 : SCode := .region [⟨some 36, .binOp .add 3 (.tmp 11) (.const (.int .i64 1)) 3, none⟩,
    ⟨some 11, .move (.tmp 36), none⟩]
def l59_1 : SCode := (.seq q59_3 (.seq (.cond (.tmp 12) .skip (.exit 0)) (.seq (.block 1 (.seq q59_4 (.seq q59_5 (.block 2 (.loop l59_0))))) q59_11)))
@[reducible] def q59_12 : SCode := .region [⟨some 37, .move (.tmp 5), none⟩,
    ⟨some 4, .assign (.tmp 37), none⟩]
def s59 : SCode := (.seq q59_0 (.seq q59_1 (.seq (.seq q59_2 (.block 0 (.loop l59_1))) (.seq q59_12 .ret))))
theorem s59_strip : Yh (Yj Tryd.f59) = s59 := by kernel_rfl
theorem s59_ok : Yw 38 (Yj Tryd.f59) = true := by kernel_rfl
/-! 60: planchet sure.Join$2 -/
@[reducible] def q60_0 : SCode := .region [⟨some 8, .assign (.const (.bool false)), none⟩]
def q60_1 : SCode := .draw [⟨some 9, .load 68 (.tmp 2), none⟩,
    ⟨some 10, .load 56 (.tmp 3), none⟩,
    ⟨some 11, .move (.tmp 0), none⟩,
    ⟨some 12, .load 3 (.tmp 4), none⟩,
    ⟨some 13, .binOp .quo 3 (.tmp 11) (.tmp 12) 3, none⟩,
    ⟨some 14, .move (.tmp 1), none⟩,
    ⟨some 15, .load 3 (.tmp 4), none⟩,
    ⟨some 16, .binOp .quo 3 (.tmp 14) (.tmp 15) 3, none⟩,
    ⟨some 17, .call { callee := .value (.tmp 9), args := #[.tmp 10, .tmp 13, .tmp 16], argTypes := #[56, 3, 3] }, none⟩,
    ⟨some 18, .move (.tmp 17), none⟩,
    ⟨some 19, .load 68 (.tmp 2), some (18, true)⟩,
    ⟨some 20, .load 56 (.tmp 5), some (18, true)⟩,
    ⟨some 21, .move (.tmp 0), some (18, true)⟩,
    ⟨some 22, .load 3 (.tmp 4), some (18, true)⟩,
    ⟨some 23, .binOp .rem 3 (.tmp 21) (.tmp 22) 3, some (18, true)⟩,
    ⟨some 24, .move (.tmp 1), some (18, true)⟩,
    ⟨some 25, .load 3 (.tmp 4), some (18, true)⟩,
    ⟨some 26, .binOp .rem 3 (.tmp 24) (.tmp 25) 3, some (18, true)⟩,
    ⟨some 27, .call { callee := .value (.tmp 19), args := #[.tmp 20, .tmp 23, .tmp 26], argTypes := #[56, 3, 3] }, some (18, true)⟩,
    ⟨some 28, .pick (.tmp 18) (.tmp 27) (.const (.bool false)), none⟩,
    ⟨some 8, .assign (.tmp 28), none⟩]
   [[], [], [], [], [2, 3], [], [], [5, 6], [0, 1, 4, 7], [8, 8], [9], [9], [9], [9], [12, 13, 9], [9], [9], [15, 16, 9], [10, 11, 14, 17, 9, 9], [9, 18], [19, 18, 0, 1, 2, 3, 4, 5, 6, 7, 8, 9, 10, 11, 12, 13, 14, 15, 16, 17, 18, 19]]
def s60 : SCode := (.seq q60_0 (.seq q60_1 .ret))
theorem s60_strip : Yh (Yj Tryd.f60) = s60 := by kernel_rfl
theorem s60_ok : Yw 29 (Yj Tryd.f60) = true := by kernel_rfl
end Go.Proofs.Tryd.Am

namespace Go.Proofs.Tryd.Am
open Go.Am Sr
set_option maxRecDepth 100000
set_option maxHeartbeats 1000000

def rowsN (f : Nat → Nat → Nat) (m i j : Nat) : List Nat := (List.range m).map fun r => if r < i then f r m else if r = i then f r j else 0
section
variable {f : Nat → Nat → Nat} {m i j : Nat}
theorem Wu : (rowsN f m i j).length = m := by simp [rowsN]
theorem rowsN_at {t : Nat} (h : t < m) : (rowsN f m i j)[t]? = some (if t < i then f t m else if t = i then f t j else 0) := by
  rw [rowsN, List.getElem?_map, List.getElem?_range h]; rfl
theorem rowsN_get (hi : i < m) : (rowsN f m i j).getD i 0 = f i j := by
  rw [List.getD, rowsN_at hi, if_neg (Nat.lt_irrefl _), if_pos rfl]; rfl
theorem rowsN_zero (h0 : f 0 0 = 0) : rowsN f m 0 0 = List.replicate m 0 := by
  apply List.ext_getElem?
  intro t
  by_cases h : t < m
  · rw [rowsN_at h, List.getElem?_replicate, if_pos h, if_neg (Nat.not_lt_zero _)]
    by_cases e : t = 0
    · subst e; rw [if_pos rfl, h0]
    · rw [if_neg e]
  · rw [List.getElem?_eq_none (by rw [Wu]; omega), List.getElem?_eq_none (by simp; omega)]
theorem rowsN_set {k : Nat} : (rowsN f m i j).set i (f i k) = rowsN f m i k := by
  apply List.ext_getElem?
  intro t
  by_cases h : t < m
  · rw [List.getElem?_set, rowsN_at h, rowsN_at h, Wu]
    by_cases e : i = t
    · subst e; simp [h]
    · simp [e, Ne.symm e]
  · rw [List.getElem?_eq_none (by rw [List.length_set, Wu]; omega), List.getElem?_eq_none (by rw [Wu]; omega)]
theorem rowsN_next (h0 : ∀ r, f r 0 = 0) : rowsN f m i m = rowsN f m (i + 1) 0 := by
  apply List.ext_getElem?
  intro t
  by_cases h : t < m
  · rw [rowsN_at h, rowsN_at h, h0]
    by_cases h1 : t < i
    · rw [if_pos h1, if_pos (by omega)]
    · rw [if_neg h1]
      by_cases h2 : t = i
      · subst h2; rw [if_pos rfl, if_pos (by omega)]
      · rw [if_neg h2, if_neg (by omega)]; split <;> rfl
  · rw [List.getElem?_eq_none (by rw [Wu]; omega), List.getElem?_eq_none (by rw [Wu]; omega)]
theorem rowsN_all : rowsN f m m 0 = (List.range m).map fun r => f r m := by
  rw [rowsN]
  refine List.map_congr_left fun r hr => ?_
  rw [if_pos (List.mem_range.1 hr)]
end
def rwM (p : Nat → Nat → Bool) (i j : Nat) : Nat := mk (fun c => i != c && p i c) j
def mat (p : Nat → Nat → Bool) (m : Nat) : List Nat := (List.range m).map fun r => rwM p r m
theorem rwM_lt (p : Nat → Nat → Bool) (i j : Nat) : rwM p i j < 2 ^ j := mk_lt _ _
theorem rwM_yes {p : Nat → Nat → Bool} {i j : Nat} (hij : (i == j) = false) (hp : p i j = true) : rwM p i (j + 1) = rwM p i j ||| 2 ^ j := by
  rw [rwM, mk, if_pos (by rw [hp, bne, hij]; rfl)]; rfl
theorem rwM_no {p : Nat → Nat → Bool} {i j : Nat} (h : (i == j) = true ∨ p i j = false) : rwM p i (j + 1) = rwM p i j := by
  rw [rwM, mk, if_neg]
  · rfl
  · rcases h with h | h
    · rw [bne, h]; simp
    · rw [h, Bool.and_false]; decide
theorem mat_len (p : Nat → Nat → Bool) (m : Nat) : (mat p m).length = m := by simp [mat]

abbrev tabH (h : Yd) (L : List Nat) : Yd := h ++ [.ints (iL L) 3 false]
section
variable {h : Yd} {f : Nat → Nat → Nat} {m i j : Nat}
theorem tH_idx {t : TypeId} (he : elemOf' prog t = some 3) (hi : i < m) {K : Value → Prop} : Xg prog t (tv h.length m) (Zy i) K = K (.pointer (some ⟨h.length, i, none⟩)) := by
  have h1 := intSl_blk (Xa h (.ints (List.replicate m 0) 3 false))
  rw [List.length_replicate] at h1
  rw [h1.idx he Xk (by rw [List.length_replicate]; exact hi), elemP_new]
theorem tH_load (hi : i < m) {K : Value → Prop} : Xs prog (tabH h (rowsN f m i j)) 3 (.pointer (some ⟨h.length, i, none⟩)) K = K (Zy (f i j : Nat)) := by
  rw [tab_load (Xa _ _) Wu hi, rowsN_get hi]
theorem tH_store (hi : i < m) {k : Nat} {K : Yd → Prop} : Xp prog (tabH h (rowsN f m i j)) 3 (.pointer (some ⟨h.length, i, none⟩)) (Zy (f i k : Nat)) K = K (tabH h (rowsN f m i k)) := by
  rw [tab_store (Xa _ _) Wu hi, set_last, rowsN_set]
end

theorem s59_callW [Tabs Tryd.prog] {args : List Value} {h : Yd} {Q : Value → Yd → Prop} (hsz : args.length ≤ 38) (hk : AWS Tryd.prog 38 s59 (Zv Tryd.prog [.tmp 4] Q) (Zp 0 args) h) : ACall Tryd.prog 59 args h Q :=
  Xq Tryd.func59 rfl (enters_of Tryd.func59 (by kernel_rfl) rfl) rfl rfl (by decide) s59_strip s59_ok hsz hk
theorem made_call [Tabs prog] {h : Yd} {fv : Value} {p : Nat → Nat → Bool} {m : Nat} (hm : m ≤ 6) (hf : ∀ {hp : Yd}, Ext (fun _ => False) h hp → ∀ i j : Nat, i < m → j < m → ∀ {K : Value → Yd → Prop}, K (.bool (p i j)) hp → Yv prog false fv [Zy i, Zy j] hp K) :
    ACall prog 59 [Zy m, fv] h fun r h' => IntSl h' r (iL (mat p m)) ∧ Ext (fun _ => False) h h' := by
  have hnn : ∀ i : Nat, (0 : Int) ≤ (i : Int) := Int.natCast_nonneg
  refine s59_callW (by simp) ?_
  simp only [s59]
  refine Yc fun N1 hN1 => ?_
  simp (maxSteps := 2000000) only [s59, ↓Za, ↓Zk, ↓Zs, ↓Ze, ↓Zj, ↓Zt, ↓Zg, ↓Zm, ↓Zf, ↓Zc, ↓Zb, ↓vdn, vup, Zo, Zh, Zi, Zn, Zl, List.map_cons, List.map_nil, cond_true, cond_false, aop, Zw, Zr, Zp, ev, sput, Zu, Zz, Yb, unK, Zd, Zx, Nat.reduceBEq, Nat.reduceAdd, Int.reduceBEq, Int.reduceBNe, Int.reduceLT, Zv, Ya, tup, tyf]
  refine hN1 [(0, Zy m), (1, fv), (4, .slice none 0 0)] _ _ ?_ (by simp (maxSteps := 2000000) only [↓Za, ↓Zk, ↓Zs, ↓Ze, ↓Zj, ↓Zt, ↓Zg, ↓Zm, ↓Zf, ↓Zc, ↓Zb, ↓vdn, vup, Zo, Zh, Zi, Zn, Zl, List.map_cons, List.map_nil, cond_true, cond_false, aop, Zw, Zr, Zp, ev, sput, Zu, Zz, Yb, unK, Zd, Zx, Nat.reduceBEq, Nat.reduceAdd, Int.reduceBEq, Int.reduceBNe, Int.reduceLT, Zv, Ya, tup, tyf])
  clear hN1
  try clear N1
  have hr0 : List.replicate m (0 : Int) = iL (rowsN (rwM p) m 0 0) := by rw [rowsN_zero rfl]; simp [iL]
  refine Yc fun N2 hN2 => ?_
  simp (maxSteps := 2000000) only [s59, ↓Za, ↓Zk, ↓Zs, ↓Ze, ↓Zj, ↓Zt, ↓Zg, ↓Zm, ↓Zf, ↓Zc, ↓Zb, ↓vdn, vup, Zo, Zh, Zi, Zn, Zl, List.map_cons, List.map_nil, cond_true, cond_false, aop, Zw, Zr, Zp, ev, sput, Zu, Zz, Yb, unK, Zd, Zx, Nat.reduceBEq, Nat.reduceAdd, Int.reduceBEq, Int.reduceBNe, Int.reduceLT, Zv, Ya, tup, tyf, makeI el_56 zero_3 info_3 (Int.natCast_nonneg m) (show ((m : Nat) : Int) ≤ 35184372088832 by omega), Int.toNat_natCast, hr0]
  refine hN2 [(0, Zy m), (1, fv), (4, .slice none 0 0), (5, tv h.length m)] _ _ ?_ (by simp (maxSteps := 2000000) only [↓Za, ↓Zk, ↓Zs, ↓Ze, ↓Zj, ↓Zt, ↓Zg, ↓Zm, ↓Zf, ↓Zc, ↓Zb, ↓vdn, vup, Zo, Zh, Zi, Zn, Zl, List.map_cons, List.map_nil, cond_true, cond_false, aop, Zw, Zr, Zp, ev, sput, Zu, Zz, Yb, unK, Zd, Zx, Nat.reduceBEq, Nat.reduceAdd, Int.reduceBEq, Int.reduceBNe, Int.reduceLT, Zv, Ya, tup, tyf])
  clear hN2
  try clear N2
  refine Yc fun Z hZ => ?_
  simp (maxSteps := 2000000) only [s59, ↓Za, ↓Zk, ↓Zs, ↓Ze, ↓Zj, ↓Zt, ↓Zg, ↓Zm, ↓Zf, ↓Zc, ↓Zb, ↓vdn, vup, Zo, Zh, Zi, Zn, Zl, List.map_cons, List.map_nil, cond_true, cond_false, aop, Zw, Zr, Zp, ev, sput, Zu, Zz, Yb, unK, Zd, Zx, Nat.reduceBEq, Nat.reduceAdd, Int.reduceBEq, Int.reduceBNe, Int.reduceLT, Zv, Ya, tup, tyf, ↓Xc]
  refine Yg fun Q hQ => ?_
  have hE : ∀ i j, Ext (fun _ => False) h (tabH h (rowsN (rwM p) m i j)) := fun i j => Ext.app _ _ _
  refine Xu (γ := Nat) (fun i => i ≤ m)
    (fun i => ([(0, Zy m), (1, fv), (4, .slice none 0 0), (5, tv h.length m), (10, Zy m), (11, Zy i)], tabH h (rowsN (rwM p) m i 0))) (fun i => m - i) 0 (Nat.zero_le _) (by simp (maxSteps := 2000000) only [↓Za, ↓Zk, ↓Zs, ↓Ze, ↓Zj, ↓Zt, ↓Zg, ↓Zm, ↓Zf, ↓Zc, ↓Zb, ↓vdn, vup, Zo, Zh, Zi, Zn, Zl, List.map_cons, List.map_nil, cond_true, cond_false, aop, Zw, Zr, Zp, ev, sput, Zu, Zz, Yb, unK, Zd, Zx, Nat.reduceBEq, Nat.reduceAdd, Int.reduceBEq, Int.reduceBNe, Int.reduceLT, Zv, Ya, tup, tyf, Int.natCast_zero]) rfl ?_
  intro i hi
  refine Yg fun Q2 hQ2 => ?_
  simp only [l59_1]
  by_cases hin : (i : Int) < m
  · have hi' : i < m := by omega
    refine Yc fun N3 hN3 => ?_
    simp (maxSteps := 2000000) only [s59, ↓Za, ↓Zk, ↓Zs, ↓Ze, ↓Zj, ↓Zt, ↓Zg, ↓Zm, ↓Zf, ↓Zc, ↓Zb, ↓vdn, vup, Zo, Zh, Zi, Zn, Zl, List.map_cons, List.map_nil, cond_true, cond_false, aop, Zw, Zr, Zp, ev, sput, Zu, Zz, Yb, unK, Zd, Zx, Nat.reduceBEq, Nat.reduceAdd, Int.reduceBEq, Int.reduceBNe, Int.reduceLT, Zv, Ya, tup, tyf, hin]
    refine hN3 [(0, Zy m), (1, fv), (4, .slice none 0 0), (5, tv h.length m), (10, Zy m), (11, Zy i), (12, .bool true)] _ _ ?_ (by simp (maxSteps := 2000000) only [↓Za, ↓Zk, ↓Zs, ↓Ze, ↓Zj, ↓Zt, ↓Zg, ↓Zm, ↓Zf, ↓Zc, ↓Zb, ↓vdn, vup, Zo, Zh, Zi, Zn, Zl, List.map_cons, List.map_nil, cond_true, cond_false, aop, Zw, Zr, Zp, ev, sput, Zu, Zz, Yb, unK, Zd, Zx, Nat.reduceBEq, Nat.reduceAdd, Int.reduceBEq, Int.reduceBNe, Int.reduceLT, Zv, Ya, tup, tyf])
    clear hN3
    try clear N3
    refine Yc fun N4 hN4 => ?_
    simp (maxSteps := 2000000) only [s59, ↓Za, ↓Zk, ↓Zs, ↓Ze, ↓Zj, ↓Zt, ↓Zg, ↓Zm, ↓Zf, ↓Zc, ↓Zb, ↓vdn, vup, Zo, Zh, Zi, Zn, Zl, List.map_cons, List.map_nil, cond_true, cond_false, aop, Zw, Zr, Zp, ev, sput, Zu, Zz, Yb, unK, Zd, Zx, Nat.reduceBEq, Nat.reduceAdd, Int.reduceBEq, Int.reduceBNe, Int.reduceLT, Zv, Ya, tup, tyf]
    refine hN4 [(0, Zy m), (1, fv), (4, .slice none 0 0), (5, tv h.length m), (10, Zy m), (11, Zy i)] _ _ ?_ (by simp (maxSteps := 2000000) only [↓Za, ↓Zk, ↓Zs, ↓Ze, ↓Zj, ↓Zt, ↓Zg, ↓Zm, ↓Zf, ↓Zc, ↓Zb, ↓vdn, vup, Zo, Zh, Zi, Zn, Zl, List.map_cons, List.map_nil, cond_true, cond_false, aop, Zw, Zr, Zp, ev, sput, Zu, Zz, Yb, unK, Zd, Zx, Nat.reduceBEq, Nat.reduceAdd, Int.reduceBEq, Int.reduceBNe, Int.reduceLT, Zv, Ya, tup, tyf])
    clear hN4
    try clear N4
    refine Yf fun K hK => ?_
    refine Ym ?_
    refine Yc fun N5 hN5 => ?_
    simp (maxSteps := 2000000) only [s59, ↓Za, ↓Zk, ↓Zs, ↓Ze, ↓Zj, ↓Zt, ↓Zg, ↓Zm, ↓Zf, ↓Zc, ↓Zb, ↓vdn, vup, Zo, Zh, Zi, Zn, Zl, List.map_cons, List.map_nil, cond_true, cond_false, aop, Zw, Zr, Zp, ev, sput, Zu, Zz, Yb, unK, Zd, Zx, Nat.reduceBEq, Nat.reduceAdd, Int.reduceBEq, Int.reduceBNe, Int.reduceLT, Zv, Ya, tup, tyf]
    refine hN5 [(0, Zy m), (1, fv), (4, .slice none 0 0), (5, tv h.length m), (6, Zy i), (10, Zy m), (11, Zy i)] _ _ ?_ (by simp (maxSteps := 2000000) only [↓Za, ↓Zk, ↓Zs, ↓Ze, ↓Zj, ↓Zt, ↓Zg, ↓Zm, ↓Zf, ↓Zc, ↓Zb, ↓vdn, vup, Zo, Zh, Zi, Zn, Zl, List.map_cons, List.map_nil, cond_true, cond_false, aop, Zw, Zr, Zp, ev, sput, Zu, Zz, Yb, unK, Zd, Zx, Nat.reduceBEq, Nat.reduceAdd, Int.reduceBEq, Int.reduceBNe, Int.reduceLT, Zv, Ya, tup, tyf])
    clear hN5
    try clear N5
    refine Ye ?_
    simp (maxSteps := 2000000) only [s59, ↓Za, ↓Zk, ↓Zs, ↓Ze, ↓Zj, ↓Zt, ↓Zg, ↓Zm, ↓Zf, ↓Zc, ↓Zb, ↓vdn, vup, Zo, Zh, Zi, Zn, Zl, List.map_cons, List.map_nil, cond_true, cond_false, aop, Zw, Zr, Zp, ev, sput, Zu, Zz, Yb, unK, Zd, Zx, Nat.reduceBEq, Nat.reduceAdd, Int.reduceBEq, Int.reduceBNe, Int.reduceLT, Zv, Ya, tup, tyf, ↓Xc]
    refine Yg fun Q3 hQ3 => ?_
    refine Wp (γ := Nat) (fun j => j ≤ m)
      (fun j => ([(0, Zy m), (1, fv), (4, .slice none 0 0), (5, tv h.length m), (6, Zy i), (10, Zy m), (11, Zy i), (14, Zy m), (15, Zy j)], tabH h (rowsN (rwM p) m i j))) (fun j => m - j) 0 (Nat.zero_le _) (by simp (maxSteps := 2000000) only [↓Za, ↓Zk, ↓Zs, ↓Ze, ↓Zj, ↓Zt, ↓Zg, ↓Zm, ↓Zf, ↓Zc, ↓Zb, ↓vdn, vup, Zo, Zh, Zi, Zn, Zl, List.map_cons, List.map_nil, cond_true, cond_false, aop, Zw, Zr, Zp, ev, sput, Zu, Zz, Yb, unK, Zd, Zx, Nat.reduceBEq, Nat.reduceAdd, Int.reduceBEq, Int.reduceBNe, Int.reduceLT, Zv, Ya, tup, tyf, Int.natCast_zero]) rfl ?_
    intro j hj
    refine Wo fun Q4 hQ4 => ?_
    by_cases hjn : (j : Int) < m
    · have hj' : j < m := by omega
      have same : (i == j) = true ∨ p i j = false → tabH h (rowsN (rwM p) m i (j + 1)) = tabH h (rowsN (rwM p) m i j) := fun h1 => by
        rw [tabH, tabH, ← rowsN_set (j := j) (k := j + 1), rwM_no h1, rowsN_set]
      cases hij : (i == j) with
      | true =>
        simp (maxSteps := 2000000) only [s59, ↓Za, ↓Zk, ↓Zs, ↓Ze, ↓Zj, ↓Zt, ↓Zg, ↓Zm, ↓Zf, ↓Zc, ↓Zb, ↓vdn, vup, Zo, Zh, Zi, Zn, Zl, List.map_cons, List.map_nil, cond_true, cond_false, aop, Zw, Zr, Zp, ev, sput, Zu, Zz, Yb, unK, Zd, Zx, Nat.reduceBEq, Nat.reduceAdd, Int.reduceBEq, Int.reduceBNe, Int.reduceLT, Zv, Ya, tup, tyf, l59_0, hjn, bneN, hij, Bool.not_true, add1 (show j < 9223372036854775807 by omega)]
        exact hQ4 _ _ _ ⟨j + 1, by omega, by omega, by simp (maxSteps := 2000000) only [↓Za, ↓Zk, ↓Zs, ↓Ze, ↓Zj, ↓Zt, ↓Zg, ↓Zm, ↓Zf, ↓Zc, ↓Zb, ↓vdn, vup, Zo, Zh, Zi, Zn, Zl, List.map_cons, List.map_nil, cond_true, cond_false, aop, Zw, Zr, Zp, ev, sput, Zu, Zz, Yb, unK, Zd, Zx, Nat.reduceBEq, Nat.reduceAdd, Int.reduceBEq, Int.reduceBNe, Int.reduceLT, Zv, Ya, tup, tyf], (same (.inl hij)).symm⟩
      | false =>
        simp (maxSteps := 2000000) only [s59, ↓Za, ↓Zk, ↓Zs, ↓Ze, ↓Zj, ↓Zt, ↓Zg, ↓Zm, ↓Zf, ↓Zc, ↓Zb, ↓vdn, vup, Zo, Zh, Zi, Zn, Zl, List.map_cons, List.map_nil, cond_true, cond_false, aop, Zw, Zr, Zp, ev, sput, Zu, Zz, Yb, unK, Zd, Zx, Nat.reduceBEq, Nat.reduceAdd, Int.reduceBEq, Int.reduceBNe, Int.reduceLT, Zv, Ya, tup, tyf, l59_0, hjn, bneN, hij, Bool.not_false]
        refine hf (hE i j) i j hi' hj' ?_
        cases hp : p i j with
        | true =>
          have p1 := rwM_lt p i j
          have p2 : 2 ^ (j + 1) ≤ 2 ^ 6 := Nat.pow_le_pow_right (by decide) (by omega)
          have p3 : 2 ^ (j + 1) = 2 ^ j * 2 := Nat.pow_succ ..
          have hor : Wi .or .i64 ((rwM p i j : Nat) : Int) ((2 ^ j : Nat) : Int) = ((rwM p i (j + 1) : Nat) : Int) := by
            rw [bitsV_or (by omega) (by omega), rwM_yes hij hp]
          simp (maxSteps := 2000000) only [s59, ↓Za, ↓Zk, ↓Zs, ↓Ze, ↓Zj, ↓Zt, ↓Zg, ↓Zm, ↓Zf, ↓Zc, ↓Zb, ↓vdn, vup, Zo, Zh, Zi, Zn, Zl, List.map_cons, List.map_nil, cond_true, cond_false, aop, Zw, Zr, Zp, ev, sput, Zu, Zz, Yb, unK, Zd, Zx, Nat.reduceBEq, Nat.reduceAdd, Int.reduceBEq, Int.reduceBNe, Int.reduceLT, Zv, Ya, tup, tyf]
          refine Wn [] (by kernel_rfl) (by kernel_rfl) (by kernel_rfl) (by kernel_rfl) ?_
          simp (maxSteps := 2000000) only [s59, ↓Za, ↓Zk, ↓Zs, ↓Ze, ↓Zj, ↓Zt, ↓Zg, ↓Zm, ↓Zf, ↓Zc, ↓Zb, ↓vdn, vup, Zo, Zh, Zi, Zn, Zl, List.map_cons, List.map_nil, cond_true, cond_false, aop, Zw, Zr, Zp, ev, sput, Zu, Zz, Yb, unK, Zd, Zx, Nat.reduceBEq, Nat.reduceAdd, Int.reduceBEq, Int.reduceBNe, Int.reduceLT, Zv, Ya, tup, tyf, tH_idx el_56 hi', tH_load hi', hnn, shlI1 (show j ≤ 62 by omega), hor, tH_store hi', add1 (show j < 9223372036854775807 by omega)]
          exact hQ4 _ _ _ ⟨j + 1, by omega, by omega, by simp (maxSteps := 2000000) only [↓Za, ↓Zk, ↓Zs, ↓Ze, ↓Zj, ↓Zt, ↓Zg, ↓Zm, ↓Zf, ↓Zc, ↓Zb, ↓vdn, vup, Zo, Zh, Zi, Zn, Zl, List.map_cons, List.map_nil, cond_true, cond_false, aop, Zw, Zr, Zp, ev, sput, Zu, Zz, Yb, unK, Zd, Zx, Nat.reduceBEq, Nat.reduceAdd, Int.reduceBEq, Int.reduceBNe, Int.reduceLT, Zv, Ya, tup, tyf], rfl⟩
        | false =>
          simp (maxSteps := 2000000) only [s59, ↓Za, ↓Zk, ↓Zs, ↓Ze, ↓Zj, ↓Zt, ↓Zg, ↓Zm, ↓Zf, ↓Zc, ↓Zb, ↓vdn, vup, Zo, Zh, Zi, Zn, Zl, List.map_cons, List.map_nil, cond_true, cond_false, aop, Zw, Zr, Zp, ev, sput, Zu, Zz, Yb, unK, Zd, Zx, Nat.reduceBEq, Nat.reduceAdd, Int.reduceBEq, Int.reduceBNe, Int.reduceLT, Zv, Ya, tup, tyf, add1 (show j < 9223372036854775807 by omega)]
          exact hQ4 _ _ _ ⟨j + 1, by omega, by omega, by simp (maxSteps := 2000000) only [↓Za, ↓Zk, ↓Zs, ↓Ze, ↓Zj, ↓Zt, ↓Zg, ↓Zm, ↓Zf, ↓Zc, ↓Zb, ↓vdn, vup, Zo, Zh, Zi, Zn, Zl, List.map_cons, List.map_nil, cond_true, cond_false, aop, Zw, Zr, Zp, ev, sput, Zu, Zz, Yb, unK, Zd, Zx, Nat.reduceBEq, Nat.reduceAdd, Int.reduceBEq, Int.reduceBNe, Int.reduceLT, Zv, Ya, tup, tyf], (same (.inr hp)).symm⟩
    · obtain rfl : m = j := by omega
      simp (maxSteps := 2000000) only [s59, ↓Za, ↓Zk, ↓Zs, ↓Ze, ↓Zj, ↓Zt, ↓Zg, ↓Zm, ↓Zf, ↓Zc, ↓Zb, ↓vdn, vup, Zo, Zh, Zi, Zn, Zl, List.map_cons, List.map_nil, cond_true, cond_false, aop, Zw, Zr, Zp, ev, sput, Zu, Zz, Yb, unK, Zd, Zx, Nat.reduceBEq, Nat.reduceAdd, Int.reduceBEq, Int.reduceBNe, Int.reduceLT, Zv, Ya, tup, tyf, l59_0, Int.lt_irrefl]
      refine hQ4 _ _ _ (hQ3 _ _ _ ?_)
      simp (maxSteps := 2000000) only [s59, ↓Za, ↓Zk, ↓Zs, ↓Ze, ↓Zj, ↓Zt, ↓Zg, ↓Zm, ↓Zf, ↓Zc, ↓Zb, ↓vdn, vup, Zo, Zh, Zi, Zn, Zl, List.map_cons, List.map_nil, cond_true, cond_false, aop, Zw, Zr, Zp, ev, sput, Zu, Zz, Yb, unK, Zd, Zx, Nat.reduceBEq, Nat.reduceAdd, Int.reduceBEq, Int.reduceBNe, Int.reduceLT, Zv, Ya, tup, tyf, if_true]
      refine hK [(0, Zy m), (1, fv), (4, .slice none 0 0), (5, tv h.length m), (10, Zy m), (11, Zy i)] _ _ ?_ (by simp (maxSteps := 2000000) only [↓Za, ↓Zk, ↓Zs, ↓Ze, ↓Zj, ↓Zt, ↓Zg, ↓Zm, ↓Zf, ↓Zc, ↓Zb, ↓vdn, vup, Zo, Zh, Zi, Zn, Zl, List.map_cons, List.map_nil, cond_true, cond_false, aop, Zw, Zr, Zp, ev, sput, Zu, Zz, Yb, unK, Zd, Zx, Nat.reduceBEq, Nat.reduceAdd, Int.reduceBEq, Int.reduceBNe, Int.reduceLT, Zv, Ya, tup, tyf])
      clear hK
      try clear K
      refine Ye ?_
      simp (maxSteps := 2000000) only [s59, ↓Za, ↓Zk, ↓Zs, ↓Ze, ↓Zj, ↓Zt, ↓Zg, ↓Zm, ↓Zf, ↓Zc, ↓Zb, ↓vdn, vup, Zo, Zh, Zi, Zn, Zl, List.map_cons, List.map_nil, cond_true, cond_false, aop, Zw, Zr, Zp, ev, sput, Zu, Zz, Yb, unK, Zd, Zx, Nat.reduceBEq, Nat.reduceAdd, Int.reduceBEq, Int.reduceBNe, Int.reduceLT, Zv, Ya, tup, tyf, add1 (show i < 9223372036854775807 by omega)]
      refine hQ2 _ _ _ ⟨i + 1, by omega, by omega, by simp (maxSteps := 2000000) only [↓Za, ↓Zk, ↓Zs, ↓Ze, ↓Zj, ↓Zt, ↓Zg, ↓Zm, ↓Zf, ↓Zc, ↓Zb, ↓vdn, vup, Zo, Zh, Zi, Zn, Zl, List.map_cons, List.map_nil, cond_true, cond_false, aop, Zw, Zr, Zp, ev, sput, Zu, Zz, Yb, unK, Zd, Zx, Nat.reduceBEq, Nat.reduceAdd, Int.reduceBEq, Int.reduceBNe, Int.reduceLT, Zv, Ya, tup, tyf], ?_⟩
      simp only [tabH]
      rw [rowsN_next fun _ => rfl]
  · obtain rfl : m = i := by omega
    refine Yc fun K hK => ?_
    simp (maxSteps := 2000000) only [s59, ↓Za, ↓Zk, ↓Zs, ↓Ze, ↓Zj, ↓Zt, ↓Zg, ↓Zm, ↓Zf, ↓Zc, ↓Zb, ↓vdn, vup, Zo, Zh, Zi, Zn, Zl, List.map_cons, List.map_nil, cond_true, cond_false, aop, Zw, Zr, Zp, ev, sput, Zu, Zz, Yb, unK, Zd, Zx, Nat.reduceBEq, Nat.reduceAdd, Int.reduceBEq, Int.reduceBNe, Int.reduceLT, Zv, Ya, tup, tyf, Int.lt_irrefl]
    refine hK [(0, Zy m), (1, fv), (4, .slice none 0 0), (5, tv h.length m), (10, Zy m), (11, Zy m), (12, .bool false)] _ _ ?_ (by simp (maxSteps := 2000000) only [↓Za, ↓Zk, ↓Zs, ↓Ze, ↓Zj, ↓Zt, ↓Zg, ↓Zm, ↓Zf, ↓Zc, ↓Zb, ↓vdn, vup, Zo, Zh, Zi, Zn, Zl, List.map_cons, List.map_nil, cond_true, cond_false, aop, Zw, Zr, Zp, ev, sput, Zu, Zz, Yb, unK, Zd, Zx, Nat.reduceBEq, Nat.reduceAdd, Int.reduceBEq, Int.reduceBNe, Int.reduceLT, Zv, Ya, tup, tyf])
    clear hK
    try clear K
    refine Ye ?_
    simp (maxSteps := 2000000) only [s59, ↓Za, ↓Zk, ↓Zs, ↓Ze, ↓Zj, ↓Zt, ↓Zg, ↓Zm, ↓Zf, ↓Zc, ↓Zb, ↓vdn, vup, Zo, Zh, Zi, Zn, Zl, List.map_cons, List.map_nil, cond_true, cond_false, aop, Zw, Zr, Zp, ev, sput, Zu, Zz, Yb, unK, Zd, Zx, Nat.reduceBEq, Nat.reduceAdd, Int.reduceBEq, Int.reduceBNe, Int.reduceLT, Zv, Ya, tup, tyf]
    refine hQ2 _ _ _ (hQ _ _ _ ?_)
    simp (maxSteps := 2000000) only [s59, ↓Za, ↓Zk, ↓Zs, ↓Ze, ↓Zj, ↓Zt, ↓Zg, ↓Zm, ↓Zf, ↓Zc, ↓Zb, ↓vdn, vup, Zo, Zh, Zi, Zn, Zl, List.map_cons, List.map_nil, cond_true, cond_false, aop, Zw, Zr, Zp, ev, sput, Zu, Zz, Yb, unK, Zd, Zx, Nat.reduceBEq, Nat.reduceAdd, Int.reduceBEq, Int.reduceBNe, Int.reduceLT, Zv, Ya, tup, tyf, if_true]
    refine hZ [(0, Zy m), (1, fv), (4, .slice none 0 0), (5, tv h.length m)] _ _ ?_ (by simp (maxSteps := 2000000) only [↓Za, ↓Zk, ↓Zs, ↓Ze, ↓Zj, ↓Zt, ↓Zg, ↓Zm, ↓Zf, ↓Zc, ↓Zb, ↓vdn, vup, Zo, Zh, Zi, Zn, Zl, List.map_cons, List.map_nil, cond_true, cond_false, aop, Zw, Zr, Zp, ev, sput, Zu, Zz, Yb, unK, Zd, Zx, Nat.reduceBEq, Nat.reduceAdd, Int.reduceBEq, Int.reduceBNe, Int.reduceLT, Zv, Ya, tup, tyf])
    clear hZ
    try clear Z
    refine Ye ?_
    simp (maxSteps := 2000000) only [s59, ↓Za, ↓Zk, ↓Zs, ↓Ze, ↓Zj, ↓Zt, ↓Zg, ↓Zm, ↓Zf, ↓Zc, ↓Zb, ↓vdn, vup, Zo, Zh, Zi, Zn, Zl, List.map_cons, List.map_nil, cond_true, cond_false, aop, Zw, Zr, Zp, ev, sput, Zu, Zz, Yb, unK, Zd, Zx, Nat.reduceBEq, Nat.reduceAdd, Int.reduceBEq, Int.reduceBNe, Int.reduceLT, Zv, Ya, tup, tyf]
    have h1 := intSl_blk (Xa h (.ints (iL (rowsN (rwM p) m m 0)) 3 false))
    rw [iL_len, Wu, rowsN_all] at h1
    refine ⟨?_, Ext.app _ _ _⟩
    rw [tabH, rowsN_all]
    exact h1

/-! ### Pairs of signals -/
def nq (xs : List Int) (i j : Nat) : Bool := i == j || gb xs i j
def jp (xs ys : List Int) (i j : Nat) : Bool := nq xs (i / ys.length) (j / ys.length) && nq ys (i % ys.length) (j % ys.length)
def joinL (xs ys : List Int) : List Int := iL (mat (jp xs ys) (xs.length * ys.length))
theorem intSl_one {h : Yd} {v : Value} {xs : List Int} (hv : IntSl h v xs) : one v = true := by
  rcases hv with ⟨rfl, _⟩ | ⟨b, o, sp, cap, c, e, ro, rfl, _⟩ <;> rfl

theorem s58_callW [Tabs Tryd.prog] {args : List Value} {h : Yd} {Q : Value → Yd → Prop} (hsz : args.length ≤ 20) (hk : AWS Tryd.prog 20 s58 (Zv Tryd.prog [.tmp 6] Q) (Zp 0 args) h) : ACall Tryd.prog 58 args h Q :=
  Xq Tryd.func58 rfl (enters_of Tryd.func58 (by kernel_rfl) rfl) rfl rfl (by decide) s58_strip s58_ok hsz hk
theorem same_call [Tabs prog] {h : Yd} {v : Value} {xs : List Int} (hv : IntSl h v xs) (g : Gs xs) {i j : Nat} (hi : i < xs.length) : APure prog 58 [v, Zy i, Zy j] h (.bool (nq xs i j)) := by
  have hnn : ∀ i : Nat, (0 : Int) ≤ (i : Int) := Int.natCast_nonneg
  have hr := gs_lt g hi
  have tt : Wi .and .i64 (shrV .i64 (xs.getD i 0) j) 1 = if gb xs i j then 1 else 0 := testI hr.1 (by omega) j
  refine s58_callW (by simp) ?_
  refine Ye ?_
  cases hij : (i == j) with
  | true =>
    have e : nq xs i j = true := by rw [nq, hij]; rfl
    simp (maxSteps := 2000000) only [s58, ↓Za, ↓Zk, ↓Zs, ↓Ze, ↓Zj, ↓Zt, ↓Zg, ↓Zm, ↓Zf, ↓Zc, ↓Zb, ↓vdn, vup, Zo, Zh, Zi, Zn, Zl, List.map_cons, List.map_nil, cond_true, cond_false, aop, Zw, Zr, Zp, ev, sput, Zu, Zz, Yb, unK, Zd, Zx, Nat.reduceBEq, Nat.reduceAdd, Int.reduceBEq, Int.reduceBNe, Int.reduceLT, Zv, Ya, tup, tyf, beqN, hij, e]
  | false =>
    have e : nq xs i j = gb xs i j := by rw [nq, hij]; rfl
    simp (maxSteps := 2000000) only [s58, ↓Za, ↓Zk, ↓Zs, ↓Ze, ↓Zj, ↓Zt, ↓Zg, ↓Zm, ↓Zf, ↓Zc, ↓Zb, ↓vdn, vup, Zo, Zh, Zi, Zn, Zl, List.map_cons, List.map_nil, cond_true, cond_false, aop, Zw, Zr, Zp, ev, sput, Zu, Zz, Yb, unK, Zd, Zx, Nat.reduceBEq, Nat.reduceAdd, Int.reduceBEq, Int.reduceBNe, Int.reduceLT, Zv, Ya, tup, tyf, beqN, hij, hv.idx el_56 Xk hi, hv.load Xj hi, hnn, tt, beq1, e]

theorem s60_callW [Tabs Tryd.prog] {args : List Value} {h : Yd} {Q : Value → Yd → Prop} (hsz : args.length ≤ 29) (hk : AWS Tryd.prog 29 s60 (Zv Tryd.prog [.tmp 8] Q) (Zp 0 args) h) : ACall Tryd.prog 60 args h Q :=
  Xq Tryd.func60 rfl (enters_of Tryd.func60 (by kernel_rfl) rfl) rfl rfl (by decide) s60_strip s60_ok hsz hk
theorem join2_call [Tabs prog] {h : Yd} {v w : Value} {xs ys : List Int} (hv : IntSl h v xs) (hw : IntSl h w ys) (gx : Gs xs) (gy : Gs ys) {b9 b6 b8 b7 : Nat} (h9 : h[b9]? = some (.cells [.func (.func 58) #[] #[]] 68 false)) (h6 : h[b6]? = some (.cells [v] 56 false))
    (h8 : h[b8]? = some (.cells [Zy ys.length] 3 false)) (h7 : h[b7]? = some (.cells [w] 56 false)) {i j : Nat} (hi : i < xs.length * ys.length) (hj : j < xs.length * ys.length) :
    APure prog 60 [Zy i, Zy j, pt b9, pt b6, pt b8, pt b7] h (.bool (jp xs ys i j)) := by
  have hn0 : ¬ ((ys.length : Nat) : Int) = 0 := by have := gy.1; omega
  have hix : i / ys.length < xs.length := Nat.div_lt_of_lt_mul (by rw [Nat.mul_comm]; exact hi)
  have hiy : i % ys.length < ys.length := Nat.mod_lt _ gy.1
  have hb : xs.length * ys.length ≤ 6 * 6 := Nat.mul_le_mul gx.2.1 gy.2.1
  have hq1 := same_call (h := h) (j := j / ys.length) hv gx hix
  have hq2 := same_call (h := h) (j := j % ys.length) hw gy hiy
  refine s60_callW (by simp) ?_
  simp only [s60]
  refine Yc fun N6 hN6 => ?_
  simp (maxSteps := 2000000) only [s60, ↓Za, ↓Zk, ↓Zs, ↓Ze, ↓Zj, ↓Zt, ↓Zg, ↓Zm, ↓Zf, ↓Zc, ↓Zb, ↓vdn, vup, Zo, Zh, Zi, Zn, Zl, List.map_cons, List.map_nil, cond_true, cond_false, aop, Zw, Zr, Zp, ev, sput, Zu, Zz, Yb, unK, Zd, Zx, Nat.reduceBEq, Nat.reduceAdd, Int.reduceBEq, Int.reduceBNe, Int.reduceLT, Zv, Ya, tup, tyf]
  refine hN6 [(0, Zy i), (1, Zy j), (2, pt b9), (3, pt b6), (4, pt b8), (5, pt b7), (8, .bool false)] _ _ ?_ (by simp (maxSteps := 2000000) only [↓Za, ↓Zk, ↓Zs, ↓Ze, ↓Zj, ↓Zt, ↓Zg, ↓Zm, ↓Zf, ↓Zc, ↓Zb, ↓vdn, vup, Zo, Zh, Zi, Zn, Zl, List.map_cons, List.map_nil, cond_true, cond_false, aop, Zw, Zr, Zp, ev, sput, Zu, Zz, Yb, unK, Zd, Zx, Nat.reduceBEq, Nat.reduceAdd, Int.reduceBEq, Int.reduceBNe, Int.reduceLT, Zv, Ya, tup, tyf])
  clear hN6
  try clear N6
  refine Ye ?_
  simp (maxSteps := 2000000) only [s60, ↓Za, ↓Zk, ↓Zs, ↓Ze, ↓Zj, ↓Zt, ↓Zg, ↓Zm, ↓Zf, ↓Zc, ↓Zb, ↓vdn, vup, Zo, Zh, Zi, Zn, Zl, List.map_cons, List.map_nil, cond_true, cond_false, aop, Zw, Zr, Zp, ev, sput, Zu, Zz, Yb, unK, Zd, Zx, Nat.reduceBEq, Nat.reduceAdd, Int.reduceBEq, Int.reduceBNe, Int.reduceLT, Zv, Ya, tup, tyf]
  refine Wn [(8, 1), (18, 1)] (by kernel_rfl) (by kernel_rfl) (by kernel_rfl) (by kernel_rfl) ?_
  simp (maxSteps := 2000000) only [s60, ↓Za, ↓Zk, ↓Zs, ↓Ze, ↓Zj, ↓Zt, ↓Zg, ↓Zm, ↓Zf, ↓Zc, ↓Zb, ↓vdn, vup, Zo, Zh, Zi, Zn, Zl, List.map_cons, List.map_nil, cond_true, cond_false, aop, Zw, Zr, Zp, ev, sput, Zu, Zz, Yb, unK, Zd, Zx, Nat.reduceBEq, Nat.reduceAdd, Int.reduceBEq, Int.reduceBNe, Int.reduceLT, Zv, Ya, tup, tyf, Wz h9 shp_68, Wz h6 shp_56, Wz h8 Xj, ne_eq, hn0, not_false_eq_true, quoN (show i < 9223372036854775808 by omega), quoN (show j < 9223372036854775808 by omega), Yv, List.nil_append, List.append_nil, List.toList_toArray, List.cons_append]
  refine ⟨_, _, hq1, rfl, ?_⟩
  cases hx : nq xs (i / ys.length) (j / ys.length) with
  | false =>
    have e : jp xs ys i j = false := by rw [jp, hx]; rfl
    simp (maxSteps := 2000000) only [s60, ↓Za, ↓Zk, ↓Zs, ↓Ze, ↓Zj, ↓Zt, ↓Zg, ↓Zm, ↓Zf, ↓Zc, ↓Zb, ↓vdn, vup, Zo, Zh, Zi, Zn, Zl, List.map_cons, List.map_nil, cond_true, cond_false, aop, Zw, Zr, Zp, ev, sput, Zu, Zz, Yb, unK, Zd, Zx, Nat.reduceBEq, Nat.reduceAdd, Int.reduceBEq, Int.reduceBNe, Int.reduceLT, Zv, Ya, tup, tyf, e]
  | true =>
    have e : jp xs ys i j = nq ys (i % ys.length) (j % ys.length) := by rw [jp, hx]; rfl
    simp (maxSteps := 2000000) only [s60, ↓Za, ↓Zk, ↓Zs, ↓Ze, ↓Zj, ↓Zt, ↓Zg, ↓Zm, ↓Zf, ↓Zc, ↓Zb, ↓vdn, vup, Zo, Zh, Zi, Zn, Zl, List.map_cons, List.map_nil, cond_true, cond_false, aop, Zw, Zr, Zp, ev, sput, Zu, Zz, Yb, unK, Zd, Zx, Nat.reduceBEq, Nat.reduceAdd, Int.reduceBEq, Int.reduceBNe, Int.reduceLT, Zv, Ya, tup, tyf, Wz h9 shp_68, Wz h7 shp_56, Wz h8 Xj, ne_eq, hn0, not_false_eq_true, tmodN, Yv, List.nil_append, List.append_nil, List.toList_toArray, List.cons_append]
    refine ⟨_, _, hq2, rfl, ?_⟩
    simp (maxSteps := 2000000) only [s60, ↓Za, ↓Zk, ↓Zs, ↓Ze, ↓Zj, ↓Zt, ↓Zg, ↓Zm, ↓Zf, ↓Zc, ↓Zb, ↓vdn, vup, Zo, Zh, Zi, Zn, Zl, List.map_cons, List.map_nil, cond_true, cond_false, aop, Zw, Zr, Zp, ev, sput, Zu, Zz, Yb, unK, Zd, Zx, Nat.reduceBEq, Nat.reduceAdd, Int.reduceBEq, Int.reduceBNe, Int.reduceLT, Zv, Ya, tup, tyf, e]
end Go.Proofs.Tryd.Am
