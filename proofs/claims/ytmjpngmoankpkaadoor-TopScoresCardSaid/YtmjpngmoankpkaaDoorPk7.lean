/-
  ranks: who is reached from a player: both ways of counting.
  ranks: who is reached from a player, as the program finds it.
  ranks: the parts, as the program's map and its sort make them (plain).
  ranks: the library's sort of a short slice by a function, not stable.
  ranks: the parts, as the program finds them: a map from reaches to players, the reaches sorted.
  ranks: the parts, as the program finds them: the walk over the map; the whole.
  ranks: the parts, as the program finds them: the whole.
  top, plain: scores 0, 1, .. make an order, equal scores make one part.
  Plain theory: the lines of a relation (no program in sight).
  Plain theory: orders as lists of ints; their lines, counted by which sets can come first; an element taken out.
  order: an order as the program holds it; the small functions.
  The seat's bits: TrailingZeros64 and TrailingZeros of math/bits, on the model's own worlds.
  order: reading an order: the two functions that say whether there is one.
  Plain theory: the least order with some pairs: built pair by pair, and by rounds.
  order: read.
  order: how many lines there are: by which sets can come first.
  order: copies, Count, add, slice, Add.
-/
import Derived.Test.YtmjpngmoankpkaaDoorPk5
import Derived.Test.YtmjpngmoankpkaaDoorPk6
import Derived.Test.YtmjpngmoankpkaaDoorPk4
import Derived.Test.YtmjpngmoankpkaaDoorProg
import Derived.Test.YtmjpngmoankpkaaDoorPk3
import Derived.Shelf.Spec.TrailingZeros
import Derived.Shelf.Abstract
import Derived.TacticsInMore
import Derived.LoopNIn
import Derived.LoopIn
set_option linter.all false
namespace Go.Proofs.Tryd.Am.Ra
open Go.Proofs.Tryd.Am
open Go.Am Rb Rch
set_option maxRecDepth 100000
set_option maxHeartbeats 1000000

def tN (xs : List Int) (j : Nat) : Nat := (xs.getD j 0).toNat
theorem orf_bit (f : Nat → Nat) (x : Nat) : ∀ (l : List Nat) (a : Nat), (l.foldl (fun r j => r ||| f j) a).testBit x = true ↔ a.testBit x = true ∨ ∃ j ∈ l, (f j).testBit x = true
  | [], a => by simp
  | j :: l, a => by
    rw [List.foldl_cons, orf_bit f x l, Nat.testBit_or, Bool.or_eq_true]
    constructor
    · rintro ((h | h) | ⟨k, hk, h⟩)
      · exact .inl h
      · exact .inr ⟨j, by simp, h⟩
      · exact .inr ⟨k, by simp [hk], h⟩
    · rintro (h | ⟨k, hk, h⟩)
      · exact .inl (.inl h)
      · rcases List.mem_cons.1 hk with rfl | hk
        · exact .inl (.inr h)
        · exact .inr ⟨k, hk, h⟩
/-- The program's rounds. -/
def pR (xs : List Int) (i : Nat) : Nat → Nat
  | 0 => 2 ^ i
  | k + 1 => (Am.bits (pR xs i k)).foldl (fun r j => r ||| tN xs j) (pR xs i k)
section
variable {xs : List Int} (ht : trn xs = true) {i : Nat} (hi : i < xs.length)
include ht
theorem tN_lt {j : Nat} (hj : j < xs.length) : tN xs j < 2 ^ xs.length := (trn_nat ht hj).2
theorem bit_in {s x : Nat} (hs : s < 2 ^ xs.length) (hx : s.testBit x = true) : x < xs.length := by
  rcases Nat.lt_or_ge x xs.length with h | h
  · exact h
  · rw [Nat.testBit_lt_two_pow (Nat.lt_of_lt_of_le hs (Nat.pow_le_pow_right (by decide) h))] at hx; cases hx
theorem orf_lt {l : List Nat} (hl : ∀ j ∈ l, j < xs.length) : ∀ {a : Nat}, a < 2 ^ xs.length → l.foldl (fun r j => r ||| tN xs j) a < 2 ^ xs.length := by
  induction l with
  | nil => exact fun h => h
  | cons j l ih => exact fun h => ih (fun k hk => hl k (by simp [hk])) (Nat.or_lt_two_pow h (tN_lt ht (hl j (by simp))))
include hi
theorem pR_lt : ∀ k, pR xs i k < 2 ^ xs.length
  | 0 => Nat.pow_lt_pow_right (by decide) hi
  | k + 1 => orf_lt ht (fun j hj => bit_in ht (pR_lt k) (Xn.1 hj).2) (pR_lt k)
theorem pR_sound : ∀ k x, (pR xs i k).testBit x = true → Rc (tN xs) i x
  | 0, x, h => by
    rw [pR, Nat.testBit_two_pow] at h
    obtain rfl := of_decide_eq_true h
    exact .refl
  | k + 1, x, h => by
    rcases (orf_bit _ _ _ _).1 h with h | ⟨j, hj, h⟩
    · exact pR_sound k x h
    · exact (pR_sound k j (Xn.1 hj).2).step h
theorem pR_all {x : Nat} (h : Rc (tN xs) i x) : (pR xs i xs.length).testBit x = true := by
  have hxl := trn_len ht
  have mono : ∀ k x, (pR xs i k).testBit x = true → (pR xs i (k + 1)).testBit x = true := fun k x h => (orf_bit _ _ _ _).2 (.inl h)
  have hg := grown (t := tN xs) (A := pR xs i) (n := xs.length) (i := i) (by rw [pR, Nat.testBit_two_pow]; exact decide_eq_true rfl) (pR_lt ht hi) mono
    (fun k j x hj hx => (orf_bit _ _ _ _).2 (.inr ⟨j, Xn.2 ⟨by have := bit_in ht (pR_lt ht hi k) hj; omega, hj⟩, hx⟩))
    (fun k e m => by induction m with | zero => rfl | succ m ih => rw [← Nat.add_assoc, pR, ih]; exact e)
  have h0 : ∀ k, (pR xs i k).testBit i = true := fun k => by
    induction k with
    | zero => rw [pR, Nat.testBit_two_pow]; exact decide_eq_true rfl
    | succ k ih => exact mono k i ih
  induction h with
  | refl => exact h0 _
  | step _ hb ih => exact hg _ _ ih hb
end
/-- Who is reached. -/
def rch (xs : List Int) (i : Nat) : Nat := pR xs i xs.length
theorem rch_iff {xs : List Int} (ht : trn xs = true) {i : Nat} (hi : i < xs.length) (x : Nat) : (rch xs i).testBit x = true ↔ Rc (tN xs) i x := ⟨pR_sound ht hi _ x, pR_all ht hi⟩
theorem rch_nest {xs : List Int} (ht : trn xs = true) : Nest xs.length (rch xs) where
  lt i hi := pR_lt ht hi _
  self i hi := (rch_iff ht hi i).2 .refl
  sub i j x hi h1 h2 := by
    have hj := bit_in ht (pR_lt ht hi _) h1
    exact (rch_iff ht hi x).2 (((rch_iff ht hi j).1 h1).trans ((rch_iff ht hj x).1 h2))
  lin i j hi hj := by
    rw [rch_iff ht hi, rch_iff ht hj]
    by_cases hij : i = j
    · subst hij; exact .inl .refl
    · obtain ⟨_, h2⟩ := trn_iff.1 ht
      have key : ∀ a b, a < xs.length → b < a → bb xs a b = true ∨ bb xs b a = true := fun a b ha hb => by
        have := (h2 a ha).2.2.2 b hb
        cases h : bb xs a b with
        | true => exact .inl rfl
        | false => rw [h] at this; right; cases g : bb xs b a with | true => rfl | false => rw [g] at this; exact absurd rfl this
      have st : ∀ a b, bb xs a b = true → Rc (tN xs) a b := fun a b h => Rc.refl.step h
      rcases Nat.lt_or_gt_of_ne hij with h | h
      · rcases key j i hj h with g | g
        · exact .inr (st _ _ g)
        · exact .inl (st _ _ g)
      · rcases key i j hi h with g | g
        · exact .inl (st _ _ g)
        · exact .inr (st _ _ g)

end Go.Proofs.Tryd.Am.Ra

namespace Go.Proofs.Tryd.Am.Ra
open Go.Proofs.Tryd.Am
open Go.Am Rb Rch
set_option maxRecDepth 100000
set_option maxHeartbeats 1000000

theorem s87_callW [Tabs Tryd.prog] {args : List Value} {h : Zd} {Q : Value → Zd → Prop} (hsz : args.length ≤ 24) (hk : AWS Tryd.prog 24 s87 (Zr Tryd.prog [.tmp 4] Q) (Zm 0 args) h) : ACall Tryd.prog 87 args h Q :=
  Xr Tryd.func87 rfl (enters_of Tryd.func87 (by kernel_rfl) rfl) rfl rfl (by decide) s87_strip s87_ok hsz hk
theorem reach_call [BitTab prog 0] {h : Zd} {v : Value} {xs : List Int} {i : Nat} (hv : IntSl h v xs) (ht : trn xs = true) (hi : i < xs.length) : APure prog 87 [v, Zh i] h (Zh (rch xs i : Nat)) := by
  refine ACall.forget (Low.int _ _) ?_
  have hxl := trn_len ht
  have h256 := pow8N hxl.2
  have hnn : ∀ i : Nat, (0 : Int) ≤ (i : Int) := Int.natCast_nonneg
  have box55 : ∀ {K : Value → Zd → Prop}, boxK prog h 131 v K = K (Xi h) (h ++ [.cells [v] 131 false]) := fun {K} => by
    rcases hv with ⟨rfl, _⟩ | ⟨b, o, sp, cap, c, e, ro, rfl, _⟩ <;> simp [boxK, cellsOf, esz_131]
  refine s87_callW (by simp) ?_
  simp only [s87]
  refine Zi fun N1 hN1 => ?_
  simp (maxSteps := 2000000) only [↓Za, ↓Zb, ↓Zc, vup, cond_true, cond_false, aop, Zf, Zm, ev, sput, Ze, Nat.reduceBEq, Nat.reduceAdd, box55]
  refine hN1 [(0, v), (1, Zh i), (2, .pointer (some ⟨h.length, 0, none⟩)), (4, .int .i64 0)] _ _ ?_ (by simp (maxSteps := 2000000) only [vup, cond_true, cond_false, Nat.reduceBEq])
  clear hN1
  try clear N1
  obtain ⟨H, hH⟩ : ∃ H, H = h ++ [Blk.cells [v] 131 false] := ⟨_, rfl⟩
  have hE0 : Ext (fun _ => False) h H := by rw [hH]; exact Ext.app _ _ _
  have b0 : H[h.length]? = some (.cells [v] 131 false) := by rw [hH]; exact Yk _ _
  have hHl : H.length = h.length + 1 := by rw [hH]; simp
  rw [← hH]
  clear hH
  have hvH := Yf hv hE0
  refine Zi fun N2 hN2 => ?_
  simp (maxSteps := 2000000) only [↓Za, ↓Zb, ↓Zc, vup, cond_true, cond_false, aop, Zf, ev, sput, Ze, Yj, Yo, Nat.reduceBEq, tyf, hnn, shlI1 (show i ≤ 62 by omega), Wb, Xi]
  rw [storeI (v := .int .i64 0) (e := 3) (Yk _ _) Ya]
  obtain ⟨G, hG⟩ : ∃ G, G = (H ++ [Blk.cells [Value.int .i64 0] 3 false]).set H.length (Blk.cells [Zh ((2 ^ i : Nat) : Int)] 3 false) := ⟨_, rfl⟩
  have hE1 : Ext (fun _ => False) H G := ⟨by rw [hG]; simp, fun j hj _ => by rw [hG, List.getElem?_set_ne (by omega), List.getElem?_append_left hj]⟩
  have b1 : G[H.length]? = some (.cells [Zh ((2 ^ i : Nat) : Int)] 3 false) := by rw [hG]; exact Ys (by simp) _
  rw [← hG]
  clear hG
  refine hN2 [(0, v), (1, Zh i), (2, .pointer (some ⟨h.length, 0, none⟩)), (4, .int .i64 0), (5, .pointer (some ⟨H.length, 0, none⟩))] _ _ ?_ (by simp (maxSteps := 2000000) only [vup, cond_true, cond_false, Nat.reduceBEq])
  clear hN2
  try clear N2
  have b0G := (hE1.2 _ (Zt b0) id).trans b0
  have hvG := Yf hvH hE1
  have hEG := hE0.trans hE1
  generalize hbs : H.length = bs at *
  refine Zi fun Z hZ => ?_
  simp (maxSteps := 2000000) only [↓Za, ↓Zg, ↓Zx, ↓Zb, ↓Zc, vup, List.map_cons, List.map_nil, cond_true, cond_false, aop, Zf, ev, sput, Ze, Zj, Nat.reduceBEq, tyf, Yr b0G shp_131, hvG.len, ↓Yw]
  refine Ye fun Q hQ => ?_
  refine Wo (γ := Nat × Zd) (fun s => s.1 ≤ xs.length ∧ Ext (fun _ => False) h s.2 ∧ s.2[h.length]? = some (.cells [v] 131 false) ∧ s.2[bs]? = some (.cells [Zh (pR xs i s.1 : Nat)] 3 false))
    (fun s => ([(0, v), (1, Zh i), (2, .pointer (some ⟨h.length, 0, none⟩)), (4, .int .i64 0), (5, .pointer (some ⟨bs, 0, none⟩)), (9, v), (10, Zh xs.length), (11, Zh s.1)], s.2)) (fun s => xs.length - s.1) (0, G) ⟨Nat.zero_le _, hEG, b0G, by rw [pR]; exact b1⟩ (by simp (maxSteps := 2000000) only [vup, cond_true, cond_false, Nat.reduceBEq, Int.natCast_zero]) rfl ?_
  clear b0G b1 hvG hEG hE1 hE0 b0 hvH
  rintro ⟨k, hp⟩ ⟨hk, hE, bp, bS⟩
  simp only at hk hE bp bS
  refine Wp fun Q2 hQ2 => ?_
  have hvp := Yf hv hE
  by_cases hkn : (k : Int) < xs.length
  · have hlt := pR_lt ht hi k
    simp (maxSteps := 2000000) only [↓Za, ↓Zs, ↓Zg, ↓Zx, ↓Zb, ↓Zc, ↓vdn, vup, List.map_cons, List.map_nil, cond_true, cond_false, aop, Zf, ev, sput, Ze, Yj, Yo, Nat.reduceBEq, l87_1, hkn, Yr bS Ya, Yq, List.nil_append, List.append_nil]
    refine players_call.mono ?_
    rintro v' h3 ⟨rfl, rfl⟩
    have hbl := Zt bS
    have hpl := Zt bp
    have hEl := hE.1
    refine aw_range bitIter (bx := hp.length) (s := pR xs i k) (et := 3) rfl (Yk _ _) (by omega) (fun pre hk => Ext (fun _ => False) h hk ∧ hk[h.length]? = some (.cells [v] 131 false) ∧ hk[bs]? = some (.cells [Zh ((pre.foldl (fun r j => r ||| tN xs j) (pR xs i k) : Nat) : Int)] 3 false)) ⟨?_, ?_, ?_⟩ ?_ ?_
    · refine hE.trans ⟨by simp, fun j hj _ => ?_⟩
      rw [List.getElem?_set_ne (by omega), List.getElem?_append_left hj]
    · rw [List.getElem?_set_ne (by omega)]; exact Xw bp _
    · rw [List.getElem?_set_ne (by omega)]; exact Xw bS _
    · rintro pre j hk2 hpre ⟨hE2, bp2, bS2⟩
      obtain ⟨hj64, hjb⟩ := Xn.1 (mem_pre hpre)
      have hjn : j < xs.length := bit_in ht hlt hjb
      obtain ⟨hY, hYl⟩ := trn_nat ht hjn
      have hvk := Yf hv hE2
      have hlt2 : pre.foldl (fun r j => r ||| tN xs j) (pR xs i k) < 2 ^ xs.length := orf_lt ht (fun m hm => bit_in ht hlt (Xn.1 (hpre.subset (by simp [hm]))).2) hlt
      generalize hr : pre.foldl (fun r j => r ||| tN xs j) (pR xs i k) = r at bS2 hlt2
      have hor2 : Xz .or .i64 (r : Int) (xs.getD j 0) = ((r ||| tN xs j : Nat) : Int) := by
        have := bitsV_or (a := r) (b := tN xs j) (by omega) (by rw [tN]; omega)
        rw [tN] at this ⊢
        rw [← hY] at this; exact this
      simp (maxSteps := 2000000) only [↓Za, ↓Zx, ↓Zb, ↓Zc, vup, cond_true, cond_false, aop, Zf, ev, sput, Ze, Nat.reduceBEq, r87_0_a, r87_0_b]
      refine Yy [] (by kernel_rfl) (by kernel_rfl) (by kernel_rfl) (by kernel_rfl) ?_
      simp (maxSteps := 2000000) only [↓Yg, ↓vdn, vup, cond_true, cond_false, aop, Zp, ev, sput, Ze, Yj, Yo, Nat.reduceBEq, Nat.reduceAdd, tyf, Yr bS2 Ya, Yr bp2 shp_131, hvk.idx el_131 Xc hjn, hvk.load Ya hjn, hor2, storeI bS2 Ya]
      have hbl2 := Zt bS2
      refine ⟨?_, ?_, ?_⟩
      · exact hE2.set_ge (by omega) _
      · rw [List.getElem?_set_ne (by omega)]; exact bp2
      · rw [Ys (Zt bS2), List.foldl_append, hr]; rfl
    · rintro hk2 ⟨hE2, bp2, bS2⟩
      simp (maxSteps := 2000000) only [↓Za, ↓Zb, ↓Zc, vup, cond_true, cond_false, aop, Zf, Zp, ev, sput, Ze, Yj, Yo, Nat.reduceBEq, add1 (show k < 9223372036854775807 by omega)]
      exact hQ2 _ _ _ ⟨(k + 1, hk2), ⟨by simp only; omega, hE2, bp2, bS2⟩, by simp only; omega, by simp (maxSteps := 2000000) only [vup, cond_true, cond_false, Nat.reduceBEq], rfl⟩
  · obtain rfl : k = xs.length := by omega
    simp (maxSteps := 2000000) only [↓Za, ↓Zg, ↓Xa, ↓Zb, ↓Zc, ↓vdn, vup, cond_true, cond_false, aop, Zf, ev, sput, Ze, Yj, Yo, Nat.reduceBEq, l87_1, Int.lt_irrefl]
    refine hQ2 _ _ _ (hQ _ _ _ ?_)
    simp (maxSteps := 2000000) only [Zf, Zp, Zr, if_true]
    refine hZ [(0, v), (1, Zh i), (2, .pointer (some ⟨h.length, 0, none⟩)), (4, .int .i64 0), (5, .pointer (some ⟨bs, 0, none⟩))] _ _ ?_ (by simp (maxSteps := 2000000) only [vup, cond_true, cond_false, Nat.reduceBEq])
    clear hZ
    try clear Z
    refine Xg ?_
    simp (maxSteps := 2000000) only [↓Za, ↓Zg, ↓Zv, ↓Zb, ↓Zc, vup, cond_true, cond_false, aop, Zf, ev, sput, Ze, Nat.reduceBEq, Zr, Wa, tup, Yr bS Ya]
    exact ⟨rfl, hE⟩
end Go.Proofs.Tryd.Am.Ra

namespace Go.Proofs.Tryd.Am.Ra
open Go.Proofs.Tryd.Am
open Go.Am Rb Rch
set_option maxRecDepth 100000

/-- The map, i players on. -/
def pm (xs : List Int) : Nat → List (Int × Int)
  | 0 => []
  | i + 1 => mput ((rch xs i : Nat) : Int) (((mget ((rch xs i : Nat) : Int) (pm xs i)).toNat ||| 2 ^ i : Nat) : Int) (pm xs i)
theorem setL_snoc (l : List Nat) (i : Nat) : Clr.setL (l ++ [i]) = Clr.setL l ||| 2 ^ i := by rw [Clr.setL, Clr.setL, List.foldl_append]; rfl
theorem pm_get (xs : List Int) (r : Nat) : ∀ i, mget ((r : Nat) : Int) (pm xs i) = ((Clr.setL ((List.range i).filter fun j => rch xs j == r) : Nat) : Int)
  | 0 => rfl
  | i + 1 => by
    rw [pm, mget_mput, pm_get xs (rch xs i) i, List.range_succ, List.filter_append]
    by_cases h : ((r : Nat) : Int) = ((rch xs i : Nat) : Int)
    · have hr : r = rch xs i := Int.ofNat.inj h
      rw [if_pos h, ← hr]
      have : List.filter (fun j => rch xs j == r) [i] = [i] := by simp [← hr]
      rw [this, setL_snoc, Int.toNat_natCast]
    · have hr : ¬ rch xs i = r := fun e => h (by rw [e])
      rw [if_neg h, pm_get xs r i]
      have : List.filter (fun j => rch xs j == r) [i] = [] := by simp [hr]
      rw [this, List.append_nil]
theorem pm_keys (xs : List Int) : ∀ i, ((pm xs i).map (·.1)).Nodup ∧ ∀ k, k ∈ (pm xs i).map (·.1) ↔ ∃ j, j < i ∧ k = ((rch xs j : Nat) : Int)
  | 0 => ⟨List.nodup_nil, fun k => ⟨fun h => by simp [pm] at h, fun ⟨j, h, _⟩ => by omega⟩⟩
  | i + 1 => by
    obtain ⟨h1, h2⟩ := pm_keys xs i
    rw [pm, mput_keys]
    by_cases hm : ((rch xs i : Nat) : Int) ∈ (pm xs i).map (·.1)
    · rw [if_pos hm]
      refine ⟨h1, fun k => ⟨fun h => ?_, fun ⟨j, hj, e⟩ => ?_⟩⟩
      · obtain ⟨j, hj, e⟩ := (h2 k).1 h; exact ⟨j, by omega, e⟩
      · by_cases hji : j = i
        · rw [e, hji]; exact hm
        · exact (h2 k).2 ⟨j, by omega, e⟩
    · rw [if_neg hm]
      refine ⟨List.nodup_append.2 ⟨h1, by simp, fun a ha b hb => ?_⟩, fun k => ?_⟩
      · rw [List.mem_singleton.1 hb]; exact fun e => hm (e ▸ ha)
      · rw [List.mem_append, List.mem_singleton]
        constructor
        · rintro (h | e)
          · obtain ⟨j, hj, e⟩ := (h2 k).1 h; exact ⟨j, by omega, e⟩
          · exact ⟨i, by omega, e⟩
        · rintro ⟨j, hj, e⟩
          by_cases hji : j = i
          · right; rw [e, hji]
          · exact .inl ((h2 k).2 ⟨j, by omega, e⟩)
theorem pm_len (xs : List Int) (i : Nat) : (pm xs i).length ≤ i := by
  induction i with
  | zero => exact Nat.le_refl _
  | succ i ih =>
    have := congrArg List.length (mput_keys ((rch xs i : Nat) : Int) (((mget ((rch xs i : Nat) : Int) (pm xs i)).toNat ||| 2 ^ i : Nat) : Int) (pm xs i))
    rw [List.length_map] at this
    rw [pm, this]
    split
    · rw [List.length_map]; omega
    · rw [List.length_append, List.length_map, List.length_singleton]; omega
/-- The reaches, as numbers. -/
def kyL (xs : List Int) : List Nat := (pm xs xs.length).map fun p => p.1.toNat
theorem kyL_keys (xs : List Int) : (kyL xs).map (fun x => ((x : Nat) : Int)) = (pm xs xs.length).map (·.1) := by
  rw [kyL, List.map_map]
  refine List.map_congr_left fun p hp => ?_
  obtain ⟨j, _, e⟩ := ((pm_keys xs xs.length).2 p.1).1 (List.mem_map_of_mem hp)
  show ((p.1.toNat : Nat) : Int) = p.1
  rw [e]; rfl
theorem kyL_nodup (xs : List Int) : (kyL xs).Nodup := by
  have := (pm_keys xs xs.length).1
  rw [← kyL_keys] at this
  rw [List.nodup_iff_pairwise_ne, List.pairwise_map] at this
  exact List.nodup_iff_pairwise_ne.2 (this.imp fun h e => h (by rw [e]))
theorem kyL_mem (xs : List Int) (r : Nat) : r ∈ kyL xs ↔ ∃ j, j < xs.length ∧ rch xs j = r := by
  have h := (pm_keys xs xs.length).2 ((r : Nat) : Int)
  rw [← kyL_keys] at h
  constructor
  · intro hr
    obtain ⟨j, hj, e⟩ := h.1 (List.mem_map_of_mem hr)
    exact ⟨j, hj, (Int.ofNat.inj e).symm⟩
  · rintro ⟨j, hj, rfl⟩
    obtain ⟨x, hx, e⟩ := List.mem_map.1 (h.2 ⟨j, hj, rfl⟩)
    rw [← Int.ofNat.inj e]; exact hx
/-- The parts, the greatest reach first. -/
def prts (xs : List Int) : List Nat := cps xs.length (rch xs) xs.length (2 ^ xs.length - 1)
theorem cnt_bits {n s : Nat} (hs : s < 2 ^ n) (hn : n ≤ 64) : (Am.bits s).length = cnt n s := by
  rw [bits_range hs hn, cnt, ← List.countP_eq_length_filter]
theorem prts_eq {xs : List Int} (ht : trn xs = true) {L : List Nat} (hp : L.Perm (kyL xs)) (hs : L.Pairwise fun a b => -(((Am.bits a).length : Nat) : Int) ≤ -(((Am.bits b).length : Nat) : Int)) : prts xs = L.map (prt xs.length (rch xs)) := by
  have hxl := trn_len ht
  have hn := rch_nest ht
  have hall : ∀ i, i < xs.length → (2 ^ xs.length - 1).testBit i = true := fun i hi => by rw [Nat.testBit_two_pow_sub_one]; exact decide_eq_true hi
  have hlen : L.length ≤ xs.length := by
    rw [hp.length_eq, kyL, List.length_map]; exact pm_len xs _
  refine cps_eq hn L _ _ hlen (by have := Nat.two_pow_pos xs.length; omega) (hp.nodup_iff.2 (kyL_nodup xs)) (fun r hr => ?_) (fun i hi _ => hp.mem_iff.2 ((kyL_mem xs _).2 ⟨i, hi, rfl⟩)) (fun i x hi _ hx => hall x (hn.mem hi hx)) (hs.imp_of_mem fun {a b} ha hb h => ?_)
  · obtain ⟨i, hi, e⟩ := (kyL_mem xs r).1 (hp.mem_iff.1 hr)
    exact ⟨i, hi, hall i hi, e⟩
  · obtain ⟨i, hi, rfl⟩ := (kyL_mem xs a).1 (hp.mem_iff.1 ha)
    obtain ⟨j, hj, rfl⟩ := (kyL_mem xs b).1 (hp.mem_iff.1 hb)
    rw [cnt_bits (hn.lt i hi) (by omega), cnt_bits (hn.lt j hj) (by omega)] at h
    omega
end Go.Proofs.Tryd.Am.Ra

namespace Go.Proofs.Tryd.Am.Ra
open Go.Proofs.Tryd.Am
open Go.Am Rb
set_option maxRecDepth 100000
set_option maxHeartbeats 1000000

theorem s131_callW [Tabs Tryd.prog] {args : List Value} {h : Zd} {Q : Value → Zd → Prop} (hsz : args.length ≤ 148) (hk : AWS Tryd.prog 148 s131 (Zr Tryd.prog [] Q) (Zm 0 args) h) : ACall Tryd.prog 131 args h Q :=
  Xr Tryd.func131 rfl (enters_of Tryd.func131 (by kernel_rfl) rfl) rfl rfl (by decide) s131_strip s131_ok hsz hk
theorem pdqF_call [Tabs prog] {h : Zd} {b : Nat} {L0 : List Nat} {ys : List Int} {z : Int} {g : FuncId} {cap : Array Value} {key : Nat → Int} (hk : ∀ x ∈ L0, -1000 ≤ key x ∧ key x ≤ 1000) (hc : ∀ L x y, x ∈ L0 → y ∈ L0 → APure prog g ([Zh x, Zh y] ++ cap.toList) (h.set b (.ints (iL L ++ ys) 3 false)) (Zh (key x - key y))) (hb : h[b]? = some (.ints (iL L0 ++ ys) 3 false)) (hl : L0.length ≤ 12) (hx : ∀ x ∈ L0, x < 4611686018427387904) :
    ACall prog 131 [ov b L0.length ys.length, .int .i64 0, Zh L0.length, .int .i64 z, .func (.func g) #[] cap] h fun _ h' => ∃ L : List Nat, L.Perm L0 ∧ L.Pairwise (fun a b => key a ≤ key b) ∧ h' = h.set b (.ints (iL L ++ ys) 3 false) := by
  have hsub : subV .i64 (L0.length : Int) 0 = (L0.length : Int) := by rw [subV_id (by omega) (by omega)]; omega
  have hle : (L0.length : Int) ≤ 12 := by omega
  refine s131_callW (by simp) ?_
  simp only [s131]
  refine Zi fun N1 hN1 => ?_
  simp (maxSteps := 2000000) only [↓Za, ↓Zb, ↓Zc, vup, cond_false, aop, Zf, Zm, ev, sput, Ze, Nat.reduceBEq, Nat.reduceAdd]
  refine hN1 [(0, ov b L0.length ys.length), (1, .int .i64 0), (2, Zh L0.length), (3, .int .i64 z), (4, .func (.func g) #[] cap), (10, .bool true)] _ _ ?_ (by simp (maxSteps := 2000000) only [vup, cond_true, cond_false, Nat.reduceBEq])
  clear hN1
  try clear N1
  refine Zi fun N2 hN2 => ?_
  simp (maxSteps := 2000000) only [↓Za, ↓Zb, ↓Zc, vup, cond_false, aop, Zf, ev, sput, Ze, Nat.reduceBEq]
  refine hN2 [(0, ov b L0.length ys.length), (1, .int .i64 0), (2, Zh L0.length), (3, .int .i64 z), (4, .func (.func g) #[] cap), (10, .bool true), (11, .bool true)] _ _ ?_ (by simp (maxSteps := 2000000) only [vup, cond_true, cond_false, Nat.reduceBEq])
  clear hN2
  try clear N2
  refine Yz ?_
  refine Ye fun Q hQ => ?_
  refine aw_loopW (γ := Unit) (fun _ => True) (fun _ => ([(0, ov b L0.length ys.length), (1, .int .i64 0), (2, Zh L0.length), (3, .int .i64 z), (4, .func (.func g) #[] cap), (10, .bool true), (11, .bool true)], h)) (fun _ => 0) () trivial (by simp (maxSteps := 2000000) only [vup, cond_true, cond_false, Nat.reduceBEq]) rfl ?_
  rintro _ _
  refine Ye fun Q2 hQ2 => ?_
  simp only [l131_0]
  refine Yz ?_
  refine Zi fun N3 hN3 => ?_
  simp (maxSteps := 2000000) only [↓Za, ↓Zb, ↓Zc, vup, cond_true, cond_false, aop, Zf, ev, sput, Ze, Yj, Yo, Nat.reduceBEq, hsub]
  refine hN3 [(0, ov b L0.length ys.length), (1, .int .i64 0), (2, Zh L0.length), (3, .int .i64 z), (4, .func (.func g) #[] cap), (10, .bool true), (11, .bool true), (12, Zh L0.length)] _ _ ?_ (by simp (maxSteps := 2000000) only [vup, cond_true, cond_false, Nat.reduceBEq])
  clear hN3
  try clear N3
  refine Zi fun N4 hN4 => ?_
  simp (maxSteps := 2000000) only [↓Za, ↓Zg, ↓Zv, ↓Zb, ↓Zc, ↓vdn, vup, List.map_cons, List.map_nil, cond_true, cond_false, aop, Zf, Zp, ev, sput, Ze, Yj, Yo, Nat.reduceBEq, Yq, List.nil_append, List.append_nil, hle]
  refine (isortF_call hk hc hb hl hx).mono ?_
  rintro r h' hr
  refine hQ2 _ _ _ (hQ _ _ _ ?_)
  try simp (maxSteps := 2000000) only [Zp, Zr, Wa]
  exact hr
theorem s88_callW [Tabs Tryd.prog] {args : List Value} {h : Zd} {Q : Value → Zd → Prop} (hsz : args.length ≤ 14) (hk : AWS Tryd.prog 14 s88 (Zr Tryd.prog [] Q) (Zm 0 args) h) : ACall Tryd.prog 88 args h Q :=
  Xr Tryd.func88 rfl (enters_of Tryd.func88 (by kernel_rfl) rfl) rfl rfl (by decide) s88_strip s88_ok hsz hk
theorem sortFn_call [Tabs prog] {h : Zd} {b : Nat} {L0 : List Nat} {ys : List Int} {g : FuncId} {cap : Array Value} {key : Nat → Int} (hk : ∀ x ∈ L0, -1000 ≤ key x ∧ key x ≤ 1000) (hc : ∀ L x y, x ∈ L0 → y ∈ L0 → APure prog g ([Zh x, Zh y] ++ cap.toList) (h.set b (.ints (iL L ++ ys) 3 false)) (Zh (key x - key y))) (hb : h[b]? = some (.ints (iL L0 ++ ys) 3 false)) (hl : L0.length ≤ 12) (hx : ∀ x ∈ L0, x < 4611686018427387904) :
    ACall prog 88 [ov b L0.length ys.length, .func (.func g) #[] cap] h fun _ h' => ∃ L : List Nat, L.Perm L0 ∧ L.Pairwise (fun a b => key a ≤ key b) ∧ h' = h.set b (.ints (iL L ++ ys) 3 false) := by
  have hw : IntKind.u64.wrap (L0.length : Int) = (L0.length : Int) := wrapU_id (by omega) (by omega)
  refine s88_callW (by simp) ?_
  simp only [s88]
  refine Zi fun N5 hN5 => ?_
  simp (maxSteps := 2000000) only [↓Za, ↓Zb, ↓Zc, vup, List.map_cons, List.map_nil, cond_true, cond_false, aop, Zf, Zm, ev, sput, Ze, Zj, Nat.reduceBEq, Nat.reduceAdd, tyf, lenK]
  refine hN5 [(0, ov b L0.length ys.length), (1, .func (.func g) #[] cap), (4, Zh L0.length)] _ _ ?_ (by simp (maxSteps := 2000000) only [vup, cond_true, cond_false, Nat.reduceBEq])
  clear hN5
  try clear N5
  refine Xg ?_
  simp (maxSteps := 2000000) only [↓Za, ↓Zb, ↓Zc, vup, List.map_cons, List.map_nil, cond_true, cond_false, aop, ev, sput, Ze, Nat.reduceBEq, Zr, Wa, tyf, Yq, List.nil_append, List.append_nil, convK, hw]
  refine (len_call (show L0.length < 256 by omega)).mono ?_
  rintro _ h ⟨⟨z, rfl⟩, rfl⟩
  refine (pdqF_call hk hc hb hl hx).mono ?_
  rintro r h' hr
  exact hr
end Go.Proofs.Tryd.Am.Ra

namespace Go.Proofs.Tryd.Am.Ra
open Go.Proofs.Tryd.Am
open Go.Am Rb Rch
set_option maxRecDepth 100000
set_option maxHeartbeats 1000000

theorem s89_callW [Tabs Tryd.prog] {args : List Value} {h : Zd} {Q : Value → Zd → Prop} (hsz : args.length ≤ 10) (hk : AWS Tryd.prog 10 s89 (Zr Tryd.prog [.tmp 4] Q) (Zm 0 args) h) : ACall Tryd.prog 89 args h Q :=
  Xr Tryd.func89 rfl (enters_of Tryd.func89 (by kernel_rfl) rfl) rfl rfl (by decide) s89_strip s89_ok hsz hk
theorem parts1_call [Tabs prog] {h : Zd} {x y : Nat} (hx : x < 256) (hy : y < 256) : APure prog 89 [Zh x, Zh y] h (Zh ((-(((Am.bits x).length : Nat) : Int)) - (-(((Am.bits y).length : Nat) : Int)))) := by
  have h1 : (Am.bits x).length ≤ 64 := by have := scr_le (x : Int); rw [scr, Int.toNat_natCast] at this; exact this
  have h2 : (Am.bits y).length ≤ 64 := by have := scr_le (y : Int); rw [scr, Int.toNat_natCast] at this; exact this
  have hsub : subV .i64 (((Am.bits y).length : Nat) : Int) (((Am.bits x).length : Nat) : Int) = (-(((Am.bits x).length : Nat) : Int)) - (-(((Am.bits y).length : Nat) : Int)) := by rw [subV_id (by omega) (by omega)]; omega
  refine s89_callW (by simp) ?_
  simp only [s89]
  refine Zi fun N1 hN1 => ?_
  simp (maxSteps := 2000000) only [↓Za, ↓Zb, ↓Zc, vup, cond_false, aop, Zf, Zm, ev, sput, Ze, Nat.reduceBEq, Nat.reduceAdd]
  refine hN1 [(0, Zh x), (1, Zh y), (4, .int .i64 0)] _ _ ?_ (by simp (maxSteps := 2000000) only [vup, cond_true, cond_false, Nat.reduceBEq])
  clear hN1
  try clear N1
  refine Zi fun N2 hN2 => ?_
  simp (maxSteps := 2000000) only [↓Za, ↓Zb, ↓Zc, vup, List.map_cons, List.map_nil, cond_true, cond_false, aop, Zf, ev, sput, Ze, Yj, Yo, Nat.reduceBEq, tyf, Yq, List.nil_append, List.append_nil]
  refine (count_call hy).mono ?_
  rintro _ h ⟨rfl, rfl⟩
  refine (count_call hx).mono ?_
  rintro _ h ⟨rfl, rfl⟩
  simp (maxSteps := 2000000) only [vup, hsub]
  refine hN2 [(0, Zh x), (1, Zh y), (4, Zh ((-(((Am.bits x).length : Nat) : Int)) - (-(((Am.bits y).length : Nat) : Int))))] _ _ ?_ (by simp (maxSteps := 2000000) only [vup, cond_true, cond_false, Nat.reduceBEq])
  clear hN2
  try clear N2
  refine Xg ?_
  simp (maxSteps := 2000000) only [↓Zv, vup, cond_true, cond_false, Nat.reduceBEq, Zr, Wa, tup]

theorem pm_room {xs : List Int} (r i : Nat) (hi : i ≤ xs.length) (h8 : xs.length ≤ 8) : (mget ((r : Nat) : Int) (pm xs i)).toNat < 256 := by
  rw [pm_get, Int.toNat_natCast]
  have := Clr.setL_lt (n := xs.length) (l := (List.range i).filter fun j => rch xs j == r) (fun x hx => by have := List.mem_range.1 (List.mem_filter.1 hx).1; omega)
  have := pow8N h8
  omega

/-- The map is made. -/
theorem parts_map [BitTab prog 0] {h : Zd} {v : Value} {xs : List Int} {bm : Nat} (hv : IntSl h v xs) (ht : trn xs = true) (hm : h[bm]? = some (.map (mI []))) {N : Env → Zd → Prop} {Q0 : Exit → Env → Zd → Prop}
    (hN : ∀ hq e, Ext (fun b => b = bm) h hq → hq[bm]? = some (.map (mI (pm xs xs.length))) → ELe e [(0, v), (2, .slice none 0 0), (3, .int .i64 0), (4, v), (5, .map (some bm))] → N e hq) (hbv : Zw v ≠ some bm) :
    aw prog 57 (.seq q34_5 (.block 0 (.loop l34_0))) (Zf N Q0) [(0, v), (2, .slice none 0 0), (3, .int .i64 0), (4, v), (5, .map (some bm))] h := by
  have hxl := trn_len ht
  have h256 := pow8N hxl.2
  have hnn : ∀ i : Nat, (0 : Int) ≤ (i : Int) := Int.natCast_nonneg
  simp (maxSteps := 2000000) only [↓Za, ↓Zg, ↓Zx, ↓Zb, ↓Zc, vup, List.map_cons, List.map_nil, cond_true, cond_false, aop, Zf, ev, sput, Ze, Zj, Nat.reduceBEq, tyf, hv.len, ↓Yw]
  refine Ye fun Q hQ => ?_
  refine Wo (γ := Nat × Zd) (fun g => g.1 ≤ xs.length ∧ Ext (fun b => b = bm) h g.2 ∧ g.2[bm]? = some (.map (mI (pm xs g.1))))
    (fun g => ([(0, v), (2, .slice none 0 0), (3, .int .i64 0), (4, v), (5, .map (some bm)), (17, v), (18, Zh xs.length), (19, Zh g.1)], g.2)) (fun g => xs.length - g.1) (0, h) ⟨Nat.zero_le _, Ext.refl _ _, hm⟩ (by simp (maxSteps := 2000000) only [vup, cond_true, cond_false, Nat.reduceBEq, Int.natCast_zero]) rfl ?_
  rintro ⟨i, hp⟩ ⟨hi, hE, hmp⟩
  simp only at hi hE hmp
  refine Wp fun Q2 hQ2 => ?_
  by_cases hin : (i : Int) < xs.length
  · have hi' : i < xs.length := by omega
    have hvp : IntSl hp v xs := hv.same fun b hb => hE.2 b (hv.lt hb) (fun e => hbv (e ▸ hb))
    have hroom := pm_room (xs := xs) (rch xs i) i hi hxl.2
    have hg : mget ((rch xs i : Nat) : Int) (pm xs i) = (((mget ((rch xs i : Nat) : Int) (pm xs i)).toNat : Nat) : Int) := by rw [pm_get]; rfl
    have h2i : 2 ^ i < 2 ^ 8 := Nat.pow_lt_pow_right (by decide) (by omega)
    have hor : Xz .or .i64 (mget ((rch xs i : Nat) : Int) (pm xs i)) ((2 ^ i : Nat) : Int) = (((mget ((rch xs i : Nat) : Int) (pm xs i)).toNat ||| 2 ^ i : Nat) : Int) := by
      have := bitsV_or (a := (mget ((rch xs i : Nat) : Int) (pm xs i)).toNat) (b := 2 ^ i) (by omega) (by omega)
      rw [← hg] at this; exact this
    simp (maxSteps := 2000000) only [↓Za, ↓Zs, ↓Zg, ↓Zx, ↓Zb, ↓Zc, ↓vdn, vup, cond_true, cond_false, aop, Zf, ev, sput, Ze, Yj, Yo, Nat.reduceBEq, l34_0, hin]
    refine Yy [(3, 1)] (by kernel_rfl) (by kernel_rfl) (by kernel_rfl) (by kernel_rfl) ?_
    simp (maxSteps := 2000000) only [↓Za, ↓Zb, ↓Zc, ↓Yg, ↓vdn, vup, List.map_cons, List.map_nil, cond_true, cond_false, aop, Zf, Zp, ev, sput, Ze, Yj, Yo, Nat.reduceBEq, Nat.reduceAdd, tyf, ↓dopsX_lookup, ↓dopsX_mapUpdate, Yq, List.nil_append, List.append_nil]
    refine ⟨_, _, reach_call hvp ht hi', rfl, ?_⟩
    simp (maxSteps := 2000000) only [vup, lookupI hmp und_135 und_3 zv_3, shlI1 (show i ≤ 62 by omega), hor, updateI hmp und_135 und_3, add1 (show i < 9223372036854775807 by omega)]
    exact hQ2 _ _ _ ⟨(i + 1, hp.set bm (.map (mI (pm xs (i + 1))))), ⟨by simp only; omega, hE.trans (Ext.set _ rfl), Ys (Zt hmp) _⟩, by simp only; omega, by simp (maxSteps := 2000000) only [vup, cond_true, cond_false, Nat.reduceBEq], rfl⟩
  · obtain rfl : i = xs.length := by omega
    simp (maxSteps := 2000000) only [↓Za, ↓Zg, ↓Xa, ↓Zb, ↓Zc, ↓vdn, vup, cond_true, cond_false, aop, Zf, ev, sput, Ze, Yj, Yo, Nat.reduceBEq, l34_0, Int.lt_irrefl]
    refine hQ2 _ _ _ (hQ _ _ _ ?_)
    simp (maxSteps := 2000000) only [Zf, Zp, if_true]
    exact hN hp _ hE hmp (by simp (maxSteps := 2000000) only [vup, cond_true, cond_false, Nat.reduceBEq])
end Go.Proofs.Tryd.Am.Ra

namespace Go.Proofs.Tryd.Am.Ra
open Go.Proofs.Tryd.Am
open Go.Am Rb Rch
set_option maxRecDepth 100000
set_option maxHeartbeats 1000000

/-- What the walk over the map stands on: the reaches met so far, behind what lies up to the walk's own block. -/
structure WK (h hq : Zd) (bm it : Nat) (l : List (Int × Int)) (w0 : Value) (seen : List Nat) : Prop where
  E : Ext (fun _ => False) h hq
  m : hq[bm]? = some (.map (mI l))
  i : hq[it]? = some (.iter bm l.length seen l.length)
  own : OwnSl 3 hq w0 (iL (seen.map fun j => (l.getD j (0, 0)).1.toNat))
  blk : ∀ b, Zw w0 = some b → it < b
  nodup : seen.Nodup
  lt : ∀ j ∈ seen, j < l.length
  le : h.length ≤ bm ∧ bm < it
theorem WK.step {h hq : Zd} {bm it : Nat} {l : List (Int × Int)} {w0 : Value} {seen : List Nat} (k : WK h hq bm it l w0 seen) {j : Nat} (hj : j < l.length) (hn : j ∉ seen) (hl : l.length ≤ 8) {K : Value → Zd → Prop}
    (hk : ∀ v' h', WK h h' bm it l v' (seen ++ [j]) → K v' h') :
    Yh prog (hq.set it (.iter bm l.length (seen ++ [j]) l.length) ++ [.ints [(((l.getD j (0, 0)).1.toNat : Nat) : Int)] 3 false]) 27 27 w0 (.slice (some ⟨(hq.set it (.iter bm l.length (seen ++ [j]) l.length)).length, 0, none⟩) 1 1) K := by
  have hil := Zt k.i
  have hml := Zt k.m
  have hbi := k.le
  have hsl : seen.length ≤ l.length := by
    have := nodup_le k.nodup (m := List.range l.length) (fun x hx => List.mem_range.2 (k.lt x hx))
    rw [List.length_range] at this; exact this
  generalize hg : hq.set it (.iter bm l.length (seen ++ [j]) l.length) = g
  have hgl : g.length = hq.length := by rw [← hg]; simp
  have g1 : ∀ b, b ≠ it → g[b]? = hq[b]? := fun b hb => by rw [← hg, List.getElem?_set_ne (Ne.symm hb)]
  have gi : g[it]? = some (.iter bm l.length (seen ++ [j]) l.length) := by rw [← hg]; exact Ys hil _
  have rs : RSI (g.take (it + 1)) g w0 (iL (seen.map fun j => (l.getD j (0, 0)).1.toNat)) := by
    refine ⟨k.own.ext (S := fun b => b = it) ⟨by omega, fun b _ hb => g1 b hb⟩ (fun b hb e => by have := k.blk b hb; omega), ⟨by simp; omega, fun b hb _ => ?_⟩, fun b hb => by have := k.blk b hb; simp; omega⟩
    rw [List.getElem?_take, if_pos (by simp at hb; omega)]
  refine rs.push (by rw [Xx, List.length_map]; omega) fun v' h' s' => hk v' h' ?_
  obtain ⟨o, e, b⟩ := s'
  have keep : ∀ c, c ≤ it → h'[c]? = g[c]? := fun c hc => by
    rw [e.2 c (by simp; omega) id, List.getElem?_take, if_pos (by omega)]
  have hhl : it < h'.length := by have := e.1; simp at this; omega
  refine ⟨⟨by have := k.E.1; omega, fun c hc _ => ?_⟩, ?_, ?_, ?_, fun c hc => by have := b c hc; simp at this; omega, ?_, fun x hx => ?_, k.le⟩
  · rw [keep c (by omega), g1 c (by omega)]; exact k.E.2 c hc id
  · rw [keep bm (by omega), g1 bm (by omega)]; exact k.m
  · rw [keep it (Nat.le_refl _)]; exact gi
  · rw [List.map_append]
    have e2 : iL (List.map (fun j => (l.getD j (0, 0)).1.toNat) seen ++ List.map (fun j => (l.getD j (0, 0)).1.toNat) [j]) = iL (seen.map fun j => (l.getD j (0, 0)).1.toNat) ++ [(((l.getD j (0, 0)).1.toNat : Nat) : Int)] := by
      simp [iL]
    rw [e2]; exact o
  · exact List.nodup_append.2 ⟨k.nodup, by simp, fun a ha b hb => by rw [List.mem_singleton.1 hb]; exact fun e => hn (e ▸ ha)⟩
  · rcases List.mem_append.1 hx with hx | hx
    · exact k.lt x hx
    · rw [List.mem_singleton.1 hx]; exact hj

theorem s34_callW [Tabs Tryd.prog] {args : List Value} {h : Zd} {Q : Value → Zd → Prop} (hsz : args.length ≤ 57) (hk : AWS Tryd.prog 57 s34 (Zr Tryd.prog [.tmp 2, .tmp 3] Q) (Zm 0 args) h) : ACall Tryd.prog 34 args h Q :=
  Xr Tryd.func34 rfl (enters_of Tryd.func34 (by kernel_rfl) rfl) rfl rfl (by decide) s34_strip s34_ok hsz hk
theorem parts_walk [Tabs prog] {h hp : Zd} {v : Value} {xs : List Int} {bm : Nat} (hxl : 1 ≤ xs.length ∧ xs.length ≤ 8) (hE : Ext (fun _ => False) h hp) (hm : hp[bm]? = some (.map (mI (pm xs xs.length)))) (hbm : h.length ≤ bm) {Q0 : Exit → Env → Zd → Prop}
    (hN : ∀ hq w0 L e, Ext (fun _ => False) h hq → hq[bm]? = some (.map (mI (pm xs xs.length))) → OwnSl 3 hq w0 (iL L) → L.Perm (kyL xs) → (∀ b, Zw w0 = some b → h.length ≤ b ∧ bm < b) → ELe e [(0, v), (4, v), (5, .map (some bm)), (7, w0)] → Q0 .normal e hq) :
    AWS prog 57 (.seq q34_11 (.block 2 (.loop l34_1))) Q0 [(0, v), (4, v), (5, .map (some bm)), (7, .slice none 0 0)] hp := by
  obtain ⟨l, hl⟩ : ∃ l, l = pm xs xs.length := ⟨_, rfl⟩
  rw [← hl] at hm hN
  have hl8 : l.length ≤ 8 := by rw [hl]; have := pm_len xs xs.length; omega
  have hlne : l ≠ [] := fun e => by
    have := (kyL_mem xs (rch xs 0)).2 ⟨0, by omega, rfl⟩
    rw [kyL, ← hl, e] at this; cases this
  have hkl : kyL xs = (List.range l.length).map fun j => (l.getD j (0, 0)).1.toNat := by
    rw [kyL, ← hl]
    apply List.ext_getElem (by simp)
    intro i h1 h2
    have : i < l.length := by simpa using h1
    simp [List.getD, List.getElem?_eq_getElem this]
  have hky : ∀ j, j < l.length → (l.getD j (0, 0)).1 = (((l.getD j (0, 0)).1.toNat : Nat) : Int) := fun j hj => by
    have hmem : (l.getD j (0, 0)).1 ∈ (pm xs xs.length).map (·.1) := by
      rw [← hl, List.getD, List.getElem?_eq_getElem hj]; exact List.mem_map_of_mem (List.getElem_mem hj)
    obtain ⟨i, _, e⟩ := ((pm_keys xs xs.length).2 _).1 hmem
    rw [e]; rfl
  refine Zi fun Z hZ => ?_
  simp (maxSteps := 2000000) only [↓Za, ↓Zb, ↓Zc, vup, cond_true, cond_false, aop, Zf, ev, sput, Ze, Nat.reduceBEq, isPick_map, rangeI hm und_135]
  refine hZ [(0, v), (4, v), (5, .map (some bm)), (7, .slice none 0 0), (32, .pointer (some ⟨hp.length, 0, none⟩))] _ _ ?_ (by simp (maxSteps := 2000000) only [vup, cond_true, cond_false, Nat.reduceBEq])
  clear hZ
  try clear Z
  have hbl := Zt hm
  obtain ⟨g, hg⟩ : ∃ g, g = hp ++ [Blk.iter bm l.length [] l.length] := ⟨_, rfl⟩
  have hEg : Ext (fun _ => False) h g := by rw [hg]; exact hE.trans (Ext.app _ _ _)
  have hmg : g[bm]? = some (.map (mI l)) := by rw [hg]; exact Xw hm _
  have hig : g[hp.length]? = some (.iter bm l.length [] l.length) := by rw [hg]; exact Yk _ _
  rw [← hg]
  clear hg
  generalize hit : hp.length = it at *
  refine Yz ?_
  refine Ye fun Q hQ => ?_
  refine aw_loopW (γ := Zd × Value × List Nat) (fun s => WK h s.1 bm it l s.2.1 s.2.2)
    (fun s => ([(0, v), (4, v), (5, .map (some bm)), (7, s.2.1), (32, .pointer (some ⟨it, 0, none⟩))], s.1)) (fun s => l.length - s.2.2.length) (g, .slice none 0 0, []) ⟨hEg, hmg, hig, .inl ⟨rfl, rfl⟩, (fun b hb => by cases hb), List.nodup_nil, (fun j hj => by cases hj), ⟨hbm, hbl⟩⟩ (by simp (maxSteps := 2000000) only [vup, cond_true, cond_false, Nat.reduceBEq]) rfl ?_
  clear hEg hmg hig
  rintro ⟨hq, w0, seen⟩ k
  simp only at k
  refine Ye fun Q2 hQ2 => ?_
  simp only [l34_1]
  refine Zi fun Y hY => ?_
  simp (maxSteps := 2000000) only [↓Za, ↓Zb, ↓Zc, vup, extr_30, cond_true, cond_false, aop, Zf, ev, sput, Ze, Nat.reduceBEq, isPick_map, nextI k.i k.m hlne, extr_10]
  refine ⟨fun j hj hn => ?_, fun hall => ?_⟩
  · refine hY [(0, v), (4, v), (5, .map (some bm)), (7, w0), (32, .pointer (some ⟨it, 0, none⟩)), (34, .bool true)] _ _ ?_ (by simp (maxSteps := 2000000) only [vup, cond_true, cond_false, Nat.reduceBEq])
    clear hY
    try clear Y
    refine Zi fun N1 hN1 => ?_
    simp (maxSteps := 2000000) only [↓Zs, ↓vdn, vup, cond_true, cond_false, Zf, ev, Nat.reduceBEq]
    refine hN1 [(0, v), (4, v), (5, .map (some bm)), (7, w0), (32, .pointer (some ⟨it, 0, none⟩))] _ _ ?_ (by simp (maxSteps := 2000000) only [vup, cond_true, cond_false, Nat.reduceBEq])
    clear hN1
    try clear N1
    refine Yz ?_
    have hi2 : (hq.set it (.iter bm l.length (seen ++ [j]) l.length))[it]? = some (.iter bm l.length (seen ++ [j]) l.length) := Ys (Zt k.i) _
    have hm2 : (hq.set it (.iter bm l.length (seen ++ [j]) l.length))[bm]? = some (.map (mI l)) := by rw [List.getElem?_set_ne (by omega)]; exact k.m
    refine Zi fun N2 hN2 => ?_
    simp (maxSteps := 2000000) only [↓Za, ↓Zb, ↓Zc, vup, extr_20, cond_true, cond_false, aop, Zf, ev, sput, Ze, Nat.reduceBEq, isPick_map, entryI hi2 hm2 hj]
    rw [hky j hj]
    refine hN2 [(0, v), (4, v), (5, .map (some bm)), (7, w0), (8, Zh ((l.getD j (0, 0)).1.toNat : Nat)), (32, .pointer (some ⟨it, 0, none⟩))] _ _ ?_ (by simp (maxSteps := 2000000) only [vup, cond_true, cond_false, Nat.reduceBEq])
    clear hN2
    try clear N2
    have kst := fun {K} => k.step (K := K) hj hn hl8
    generalize hq.set it (.iter bm l.length (seen ++ [j]) l.length) = g2 at kst ⊢
    generalize (((l.getD j (0, 0)).1.toNat : Nat) : Int) = z at kst ⊢
    refine Xg ?_
    simp (maxSteps := 2000000) only [↓Za, ↓Zb, ↓Zc, vup, List.map_cons, List.map_nil, cond_true, cond_false, aop, Zp, ev, sput, Ze, Zj, Nat.reduceBEq, litI1]
    refine kst fun v' h' k' => ?_
    have hsl : seen.length < l.length := by
      have := nodup_le k'.nodup (m := List.range l.length) (fun x hx => List.mem_range.2 (k'.lt x hx))
      rw [List.length_range, List.length_append, List.length_singleton] at this; omega
    exact hQ2 _ _ _ ⟨(h', v', seen ++ [j]), k', by simp only [List.length_append, List.length_singleton]; omega, by simp (maxSteps := 2000000) only [vup, cond_true, cond_false, Nat.reduceBEq], rfl⟩
  · refine hY [(0, v), (4, v), (5, .map (some bm)), (7, w0), (32, .pointer (some ⟨it, 0, none⟩)), (34, .bool false)] _ _ ?_ (by simp (maxSteps := 2000000) only [vup, cond_true, cond_false, Nat.reduceBEq])
    clear hY
    try clear Y
    refine Xg ?_
    simp (maxSteps := 2000000) only [↓Zg, ↓Xa, ↓vdn, vup, cond_true, cond_false, Zf, ev, Nat.reduceBEq]
    refine hQ2 _ _ _ (hQ _ _ _ ?_)
    simp (maxSteps := 2000000) only [Zp, if_true]
    refine hN hq w0 _ _ k.E k.m k.own ?_ (fun b hb => by have := k.blk b hb; have := k.le; omega) (by simp (maxSteps := 2000000) only [vup, cond_true, cond_false, Nat.reduceBEq])
    rw [hkl]
    refine List.Perm.map _ ?_
    have hlen : seen.length = l.length := by
      have h1 := nodup_le (l := List.range l.length) (m := seen) List.nodup_range (fun x hx => hall x (List.mem_range.1 hx))
      have h2 := nodup_le k.nodup (m := List.range l.length) (fun x hx => List.mem_range.2 (k.lt x hx))
      rw [List.length_range] at h1 h2; omega
    exact (List.perm_ext_iff_of_nodup k.nodup List.nodup_range).2 fun x => ⟨fun hx => List.mem_range.2 (k.lt x hx), fun hx => hall x (List.mem_range.1 hx)⟩
end Go.Proofs.Tryd.Am.Ra

namespace Go.Proofs.Tryd.Am.Ra
open Go.Proofs.Tryd.Am
open Go.Am Rb Rch
set_option maxRecDepth 100000
set_option maxHeartbeats 1000000

theorem iL_take_succ {L : List Nat} {j : Nat} (hj : j < L.length) (f : Nat → Nat) : iL ((L.take (j + 1)).map f) = iL ((L.take j).map f) ++ [((f (L.getD j 0) : Nat) : Int)] := by
  have e : L.take (j + 1) = L.take j ++ [L.getD j 0] := by rw [List.take_add_one, List.getD, List.getElem?_eq_getElem hj]; rfl
  rw [e, List.map_append, iL, List.map_append]; rfl
theorem parts_call [BitTab prog 0] {h : Zd} {v : Value} {xs : List Int} (hv : IntSl h v xs) (hl : xs.length < 9223372036854775808) (hx : ∀ x ∈ xs, -9223372036854775808 ≤ x ∧ x < 9223372036854775808) :
    ACall prog 34 [v] h fun r h' => Ext (fun _ => False) h h' ∧ if trn xs = true then ∃ w, r = .tuple #[w, .int .i64 0] ∧ OwnSl 3 h' w (iL (prts xs)) else r = .tuple #[.slice none 0 0, .int .i64 2] := by
  refine s34_callW (by simp) ?_
  simp only [s34]
  refine Zi fun N1 hN1 => ?_
  simp (maxSteps := 2000000) only [↓Za, ↓Zb, ↓Zc, vup, cond_false, aop, Zf, Zm, ev, sput, Ze, Nat.reduceBEq]
  refine hN1 [(0, v), (2, .slice none 0 0), (3, .int .i64 0)] _ _ ?_ (by simp (maxSteps := 2000000) only [vup, cond_true, cond_false, Nat.reduceBEq])
  clear hN1
  try clear N1
  refine Zi fun N2 hN2 => ?_
  simp (maxSteps := 2000000) only [↓Za, ↓Zb, ↓Zc, vup, cond_true, cond_false, aop, Zf, ev, sput, Ze, Nat.reduceBEq]
  refine hN2 [(0, v), (2, .slice none 0 0), (3, .int .i64 0), (4, v)] _ _ ?_ (by simp (maxSteps := 2000000) only [vup, cond_true, cond_false, Nat.reduceBEq])
  clear hN2
  try clear N2
  refine Zi fun N3 hN3 => ?_
  simp (maxSteps := 2000000) only [↓Za, ↓Zg, ↓Zb, ↓Zc, vup, List.map_cons, List.map_nil, cond_true, cond_false, aop, Zf, ev, sput, Ze, unK, Nat.reduceBEq, Yq, List.nil_append, List.append_nil]
  refine (valid_call hv hl hx).mono ?_
  rintro _ h ⟨rfl, rfl⟩
  cases ht : trn xs with
  | false =>
    simp (maxSteps := 2000000) only [↓Za, ↓Zg, ↓Zv, ↓Zb, ↓Zc, ↓vdn, vup, cond_true, cond_false, aop, Zf, ev, sput, Ze, Nat.reduceBEq, Zr, Wa, tup]
    exact ⟨Ext.refl _ _, by rw [if_neg (by decide)]; trivial⟩
  | true =>
  have hxl := trn_len ht
  have h256 := pow8N hxl.2
  simp (maxSteps := 2000000) only [↓Zs, ↓vdn, vup, cond_true, cond_false, Zf, ev, Nat.reduceBEq]
  refine hN3 [(0, v), (2, .slice none 0 0), (3, .int .i64 0), (4, v)] _ _ ?_ (by simp (maxSteps := 2000000) only [vup, cond_true, cond_false, Nat.reduceBEq])
  clear hN3
  try clear N3
  refine Zi fun N4 hN4 => ?_
  simp (maxSteps := 2000000) only [↓Za, ↓Zb, ↓Zc, vup, cond_true, cond_false, aop, Zf, ev, sput, Ze, Nat.reduceBEq, isPick_map, makeMI]
  obtain ⟨bm, hbm⟩ : ∃ bm, bm = h.length := ⟨_, rfl⟩
  rw [← hbm]
  refine hN4 [(0, v), (2, .slice none 0 0), (3, .int .i64 0), (4, v), (5, .map (some bm))] _ _ ?_ (by simp (maxSteps := 2000000) only [vup, cond_true, cond_false, Nat.reduceBEq])
  clear hN4
  try clear N4
  have hm0 : (h ++ [Blk.map (mI [])])[bm]? = some (.map (mI [])) := by rw [hbm]; exact Yk _ _
  have hE0 : Ext (fun _ => False) h (h ++ [Blk.map (mI [])]) := Ext.app _ _ _
  generalize h ++ [Blk.map (mI [])] = h1 at hm0 hE0 ⊢
  have hv1 := Yf hv hE0
  have hbv : Zw v ≠ some bm := fun e => by have := hv.lt e; omega
  refine Zi fun M hM => ?_
  refine parts_map hv1 ht hm0 (fun hq e hE1 hm1 he => ?_) hbv
  refine hM [(0, v), (2, .slice none 0 0), (3, .int .i64 0), (4, v), (5, .map (some bm))] _ _ ?_ he
  clear hM
  have hEq : Ext (fun _ => False) h hq := ⟨Nat.le_trans hE0.1 hE1.1, fun i hi _ => by
    rw [hE1.2 i (by have := hE0.1; omega) (by simp only; omega)]; exact hE0.2 i hi id⟩
  refine Zi fun N5 hN5 => ?_
  simp (maxSteps := 2000000) only [↓Za, ↓Zb, ↓Zc, vup, cond_false, aop, Zf, ev, sput, Ze, Nat.reduceBEq]
  refine hN5 [(0, v), (4, v), (5, .map (some bm)), (7, .slice none 0 0)] _ _ ?_ (by simp (maxSteps := 2000000) only [vup, cond_true, cond_false, Nat.reduceBEq])
  clear hN5
  try clear N5
  clear hm0 hE0 hv1 hE1
  refine aws_cutW fun W hW => ?_
  refine parts_walk hxl hEq hm1 (by omega) fun hq2 w0 L e hE2 hm2 hown hperm hblk he2 => ?_
  refine hW [(0, v), (4, v), (5, .map (some bm)), (7, w0)] _ _ ?_ he2
  clear hW
  have hLx : ∀ x ∈ L, x < 256 := fun x hxm => by
    obtain ⟨j, hj, rfl⟩ := (kyL_mem xs x).1 (hperm.mem_iff.1 hxm)
    have := (rch_nest ht).lt j hj; omega
  have hL8 : L.length ≤ 8 := by rw [hperm.length_eq, kyL, List.length_map]; have := pm_len xs xs.length; omega
  have hb64 : ∀ x : Nat, (Am.bits x).length ≤ 64 := fun x => by have := scr_le (x : Int); rw [scr, Int.toNat_natCast] at this; exact this
  rcases hown with ⟨_, hnil⟩ | ⟨b, ys, hov, hb⟩
  · have h0 : L = [] := by simpa [iL] using hnil
    have := (kyL_mem xs (rch xs 0)).2 ⟨0, by omega, rfl⟩
    rw [← hperm.mem_iff, h0] at this; cases this
  have hbg := hblk b (by rw [hov]; rfl)
  rw [Xx] at hov
  subst hov
  refine Zi fun N6 hN6 => ?_
  simp (maxSteps := 2000000) only [↓Za, ↓Zb, ↓Zc, vup, List.map_cons, List.map_nil, cond_true, cond_false, aop, Zf, ev, sput, Ze, Nat.reduceBEq, Yq, List.nil_append, List.append_nil]
  refine ((show ACall prog 88 [ov b L.length ys.length, .func (.func 89) #[] #[]] hq2 _ from sortFn_call (key := fun x => -(((Am.bits x).length : Nat) : Int)) (fun x _ => by have := hb64 x; omega) (fun L' x y hxm hym => parts1_call (hLx x hxm) (hLx y hym)) hb (by omega) (fun x hxm => by have := hLx x hxm; omega))).mono ?_
  rintro rr h5 ⟨L2, hp2, hs2, rfl⟩
  refine hN6 [(0, v), (4, v), (5, .map (some bm)), (7, ov b L.length ys.length)] _ _ ?_ (by simp (maxSteps := 2000000) only [vup, cond_true, cond_false, Nat.reduceBEq])
  clear hN6
  try clear N6
  have hE5 : Ext (fun _ => False) h (hq2.set b (.ints (iL L2 ++ ys) 3 false)) := hE2.set_ge (by omega) _
  have hm5 : (hq2.set b (.ints (iL L2 ++ ys) 3 false))[bm]? = some (.map (mI (pm xs xs.length))) := by rw [List.getElem?_set_ne (by omega)]; exact hm2
  have hr5 : IntSl (hq2.set b (.ints (iL L2 ++ ys) 3 false)) (ov b L2.length ys.length) (iL L2) := (ov_own (Zt hb) rfl).int
  have hbl5 : bm < (hq2.set b (.ints (iL L2 ++ ys) 3 false)).length := Zt hm5
  generalize hq2.set b (.ints (iL L2 ++ ys) 3 false) = h5 at hE5 hm5 hr5 hbl5 ⊢
  have hLL : L2.length = L.length := hp2.length_eq
  rw [← hLL]
  refine Zi fun N7 hN7 => ?_
  simp (maxSteps := 2000000) only [↓Za, ↓Zb, ↓Zc, vup, cond_false, aop, Zf, ev, sput, Ze, Nat.reduceBEq]
  refine hN7 [(0, v), (4, v), (5, .map (some bm)), (7, ov b L2.length ys.length), (9, .slice none 0 0)] _ _ ?_ (by simp (maxSteps := 2000000) only [vup, cond_true, cond_false, Nat.reduceBEq])
  clear hN7
  try clear N7
  refine Zi fun Z hZ => ?_
  simp (maxSteps := 2000000) only [↓Za, ↓Zg, ↓Zx, ↓Zb, ↓Zc, vup, List.map_cons, List.map_nil, cond_true, cond_false, aop, Zf, ev, sput, Ze, Zj, Nat.reduceBEq, tyf, hr5.len, Xx, ↓Yw]
  refine Ye fun Q hQ => ?_
  refine Wo (γ := Nat × Value × Zd) (fun s => s.1 ≤ L2.length ∧ RSI h5 s.2.2 s.2.1 (iL ((L2.take s.1).map (prt xs.length (rch xs)))))
    (fun s => ([(0, v), (4, v), (5, .map (some bm)), (7, ov b L2.length ys.length), (9, s.2.1), (43, ov b L2.length ys.length), (44, Zh L2.length), (45, Zh s.1)], s.2.2)) (fun s => L2.length - s.1) (0, .slice none 0 0, h5) ⟨Nat.zero_le _, RSI.nil h5⟩ (by simp (maxSteps := 2000000) only [vup, cond_true, cond_false, Nat.reduceBEq, Int.natCast_zero]) rfl ?_
  rintro ⟨j, w1, hp⟩ ⟨hj, hs⟩
  simp only at hj hs
  refine Wp fun Q2 hQ2 => ?_
  have hr6 := Yf hr5 hs.2.1
  have hm6 := (hs.2.1.2 bm hbl5 id).trans hm5
  by_cases hjn : (j : Int) < L2.length
  · have hj' : j < L2.length := by omega
    have hjL : j < (iL L2).length := by rw [Xx]; exact hj'
    have hget : mget ((L2.getD j 0 : Nat) : Int) (pm xs xs.length) = ((prt xs.length (rch xs) (L2.getD j 0) : Nat) : Int) := pm_get xs _ _
    simp (maxSteps := 2000000) only [↓Za, ↓Zs, ↓Zg, ↓Zx, ↓Zb, ↓Zc, ↓vdn, vup, List.map_cons, List.map_nil, cond_true, cond_false, aop, Zf, Zp, ev, sput, Ze, Yj, Yo, Zj, Nat.reduceBEq, l34_2, hjn, hr6.idx Wg Xc hjL, hr6.load Ya hjL, iL_get, isPick_map, lookupI hm6 und_135 und_3 zv_3, hget, litI1]
    refine hs.push (by rw [Xx, List.length_map, List.length_take]; omega) fun v' h' s' => ?_
    simp (maxSteps := 2000000) only [add1 (show j < 9223372036854775807 by omega)]
    refine hQ2 _ _ _ ⟨(j + 1, v', h'), ⟨by simp only; omega, by rw [iL_take_succ hj']; exact s'⟩, by simp only; omega, by simp (maxSteps := 2000000) only [vup, cond_true, cond_false, Nat.reduceBEq], rfl⟩
  · obtain rfl : j = L2.length := by omega
    simp (maxSteps := 2000000) only [↓Za, ↓Zg, ↓Xa, ↓Zb, ↓Zc, ↓vdn, vup, cond_true, cond_false, aop, Zf, ev, sput, Ze, Yj, Yo, Nat.reduceBEq, l34_2, Int.lt_irrefl]
    refine hQ2 _ _ _ (hQ _ _ _ ?_)
    simp (maxSteps := 2000000) only [Zf, Zp, Zr, if_true]
    refine hZ [(0, v), (4, v), (5, .map (some bm)), (7, ov b L2.length ys.length), (9, w1)] _ _ ?_ (by simp (maxSteps := 2000000) only [vup, cond_true, cond_false, Nat.reduceBEq])
    clear hZ
    try clear Z
    rw [List.take_length] at hs
    obtain ⟨hown, hE6, _⟩ := hs
    refine Xg ?_
    simp (maxSteps := 2000000) only [↓Za, ↓Zg, ↓Zv, ↓Zb, ↓Zc, vup, cond_true, cond_false, aop, Zf, ev, sput, Ze, Nat.reduceBEq, Zr, Wa, tup]
    refine ⟨hE5.trans hE6, ?_⟩
    rw [if_pos ht, prts_eq ht (hp2.trans hperm) hs2]
    exact ⟨_, rfl, hown⟩
end Go.Proofs.Tryd.Am.Ra

namespace Go.Proofs.Tryd.Am.Ra
open Go.Proofs.Tryd.Am
open Go.Am Rb Rch
set_option maxRecDepth 100000
set_option maxHeartbeats 1000000

def SS (n : Nat) (F : Nat → Nat) : Nat := ((List.range n).map F).sum
theorem Wh (n : Nat) (F : Nat → Nat) : SS (n + 1) F = SS n F + F n := by simp [SS, List.range_succ]
theorem Wl {n : Nat} {F G : Nat → Nat} (h : ∀ i, i < n → F i = G i) : SS n F = SS n G := by
  induction n with
  | zero => rfl
  | succ n ih => rw [Wh, Wh, ih fun i hi => h i (by omega), h n (by omega)]
theorem SS_add (n : Nat) (F G : Nat → Nat) : SS n (fun i => F i + G i) = SS n F + SS n G := by
  induction n with
  | zero => rfl
  | succ n ih => rw [Wh, Wh, Wh, ih]; omega
theorem SS_zero (n : Nat) : SS n (fun _ => 0) = 0 := by
  induction n with
  | zero => rfl
  | succ n ih => rw [Wh, ih]
theorem SS_mul (n k : Nat) (F : Nat → Nat) : SS n (fun i => k * F i) = k * SS n F := by
  induction n with
  | zero => rfl
  | succ n ih => rw [Wh, Wh, ih, Nat.mul_add]
theorem SS_swap (n m : Nat) (F : Nat → Nat → Nat) : SS n (fun i => SS m fun j => F i j) = SS m fun j => SS n fun i => F i j := by
  induction n with
  | zero => exact (SS_zero m).symm
  | succ n ih => rw [Wh, ih, ← SS_add]; exact Wl fun j _ => (Wh n _).symm
def B1 (p : Bool) : Nat := if p then 1 else 0
theorem SS_diag (p : Bool) (a : Nat) : ∀ n, SS n (fun x => B1 (p && decide (a = x))) = if a < n then B1 p else 0
  | 0 => rfl
  | n + 1 => by
    rw [Wh, SS_diag p a n]
    rcases Nat.lt_trichotomy a n with h | h | h
    · rw [if_pos h, if_pos (by omega), decide_eq_false (by omega), Bool.and_false]; rfl
    · subst h; rw [if_neg (by omega), if_pos (by omega), decide_eq_true rfl, Bool.and_true, Nat.zero_add]
    · rw [if_neg (by omega), if_neg (by omega), decide_eq_false (by omega), Bool.and_false]; rfl
theorem SS_full {r : Nat → Bool} : ∀ n, SS n (fun i => B1 (r i)) ≤ n ∧ (SS n (fun i => B1 (r i)) = n → ∀ i, i < n → r i = true)
  | 0 => ⟨Nat.le_refl _, fun _ i hi => by omega⟩
  | n + 1 => by
    obtain ⟨h1, h2⟩ := SS_full (r := r) n
    rw [Wh]
    have hb : B1 (r n) ≤ 1 := by unfold B1; split <;> omega
    refine ⟨by omega, fun e i hi => ?_⟩
    rcases Nat.lt_or_ge i n with h | h
    · exact h2 (by omega) i h
    · obtain rfl : i = n := by omega
      have : B1 (r i) = 1 := by omega
      unfold B1 at this; split at this <;> simp_all
theorem SS_pos {r : Nat → Bool} : ∀ {n i : Nat}, i < n → r i = true → 0 < SS n fun i => B1 (r i)
  | n + 1, i, hi, hr => by
    rw [Wh]
    rcases Nat.lt_or_ge i n with h | h
    · have := SS_pos h hr; omega
    · obtain rfl : i = n := by omega
      rw [hr]; show 0 < _ + 1; omega
theorem scr_SS {xs : List Int} (h : trn xs = true) {a : Nat} (ha : a < xs.length) : SS xs.length (fun x => B1 (bb xs a x)) = scr (xs.getD a 0) := by
  rw [scr, bits_bb h ha, SS]
  generalize List.range xs.length = l
  induction l with
  | nil => rfl
  | cons a l ih =>
    rw [List.map_cons, List.sum_cons, ih, List.filter_cons]
    split <;> rename_i hb <;> simp [B1, hb]; omega
theorem trn_ne {xs : List Int} (h : trn xs = true) {i j : Nat} (hi : i < xs.length) (hj : j < xs.length) (hne : i ≠ j) : bb xs i j = !bb xs j i := by
  obtain ⟨_, h2⟩ := trn_iff.1 h
  rcases Nat.lt_or_gt_of_ne hne with g | g
  · have := (h2 j hj).2.2.2 i g
    cases hx : bb xs i j <;> cases hy : bb xs j i <;> simp_all
  · have := (h2 i hi).2.2.2 j g
    cases hx : bb xs i j <;> cases hy : bb xs j i <;> simp_all
theorem trn_self {xs : List Int} (h : trn xs = true) {i : Nat} (hi : i < xs.length) : bb xs i i = false := ((trn_iff.1 h).2 i hi).2.2.1

/-- Equal scores: from each player to each. -/
theorem rch_full {xs : List Int} (h : trn xs = true) {k : Nat} (hs : ∀ i, i < xs.length → scr (xs.getD i 0) = k) (hk : xs.length = 2 * k + 1) {i : Nat} (hi : i < xs.length) : ∀ x, x < xs.length → (rch xs i).testBit x = true := by
  have hN := rch_nest h
  let r : Nat → Bool := fun x => (rch xs i).testBit x
  have hcl : ∀ a x, a < xs.length → r a = true → bb xs a x = true → r x = true := fun a x ha hr hb =>
    (rch_iff h hi x).2 (((rch_iff h hi a).1 hr).step hb)
  let K := SS xs.length fun a => B1 (r a)
  have e1 : SS xs.length (fun a => SS xs.length fun x => B1 (r a && r x && bb xs a x)) = k * K := by
    rw [← SS_mul]
    refine Wl fun a ha => ?_
    cases hr : r a with
    | false => rw [show (fun x => B1 (false && r x && bb xs a x)) = fun _ => 0 from rfl, SS_zero]; rfl
    | true =>
      rw [show B1 true = 1 from rfl, Nat.mul_one, ← hs a ha, ← scr_SS h ha]
      refine Wl fun x hx => ?_
      cases hb : bb xs a x with
      | false => rw [Bool.and_false]
      | true => rw [hcl a x ha hr hb]; rfl
  have e2 : SS xs.length (fun a => SS xs.length fun x => B1 (r a && r x && bb xs x a)) = k * K := by
    rw [← e1, SS_swap]
    refine Wl fun a _ => Wl fun x _ => ?_
    rw [Bool.and_comm (r x) (r a)]
  have e3 : SS xs.length (fun a => SS xs.length fun x => B1 (r a && decide (a = x))) = K := by
    refine Wl fun a ha => ?_
    rw [SS_diag, if_pos ha]
  have e4 : SS xs.length (fun a => SS xs.length fun x => B1 (r a && r x)) = K * K := by
    rw [show K * K = K * SS xs.length fun a => B1 (r a) from rfl, ← SS_mul]
    refine Wl fun a ha => ?_
    rw [Nat.mul_comm, show B1 (r a) * K = B1 (r a) * SS xs.length fun a => B1 (r a) from rfl, ← SS_mul]
    refine Wl fun x hx => ?_
    cases r a <;> cases r x <;> rfl
  have e5 : SS xs.length (fun a => SS xs.length fun x => B1 (r a && r x)) = SS xs.length fun a => SS xs.length fun x => B1 (r a && r x && bb xs a x) + (B1 (r a && r x && bb xs x a) + B1 (r a && decide (a = x))) := by
    refine Wl fun a ha => Wl fun x hx => ?_
    by_cases hax : a = x
    · subst hax
      rw [trn_self h ha, decide_eq_true rfl]
      cases r a <;> rfl
    · rw [decide_eq_false hax, trn_ne h ha hx hax]
      cases r a <;> cases r x <;> cases bb xs x a <;> rfl
  have e6 : SS xs.length (fun a => SS xs.length fun x => B1 (r a && r x && bb xs a x) + (B1 (r a && r x && bb xs x a) + B1 (r a && decide (a = x)))) = k * K + (k * K + K) := by
    have : (fun a => SS xs.length fun x => B1 (r a && r x && bb xs a x) + (B1 (r a && r x && bb xs x a) + B1 (r a && decide (a = x)))) = fun a => (SS xs.length fun x => B1 (r a && r x && bb xs a x)) + ((SS xs.length fun x => B1 (r a && r x && bb xs x a)) + SS xs.length fun x => B1 (r a && decide (a = x))) := by
      funext a; rw [SS_add, SS_add]
    rw [this, SS_add, SS_add, e1, e2, e3]
  have hK : 0 < K := SS_pos (r := r) hi (hN.self i hi)
  have e7 : K * K = K * (2 * k + 1) := by
    rw [← e4, e5, e6, Nat.mul_add, Nat.mul_one, Nat.mul_comm K (2 * k), Nat.mul_assoc]; omega
  have e8 : K = 2 * k + 1 := Nat.eq_of_mul_eq_mul_left hK e7
  exact (SS_full (r := r) xs.length).2 (e8.trans hk.symm)

theorem parts_len {xs : List Int} (ht : trn xs = true) : (prts xs).length = (kyL xs).length := by
  have hp := List.mergeSort_perm (kyL xs) (fun a b => decide ((Am.bits b).length ≤ (Am.bits a).length))
  have hs := List.pairwise_mergeSort (le := fun a b => decide ((Am.bits b).length ≤ (Am.bits a).length)) (fun a b c h1 h2 => decide_eq_true (Nat.le_trans (of_decide_eq_true h2) (of_decide_eq_true h1))) (fun a b => by rw [Bool.or_eq_true, decide_eq_true_eq, decide_eq_true_eq]; omega) (kyL xs)
  rw [prts_eq ht hp (hs.imp fun h => by have := of_decide_eq_true h; omega), List.length_map, hp.length_eq]
theorem one_part {xs : List Int} (h : trn xs = true) {k : Nat} (hs : ∀ i, i < xs.length → scr (xs.getD i 0) = k) (hk : xs.length = 2 * k + 1) : (prts xs).length = 1 := by
  have hN := rch_nest h
  have hl := trn_len h
  have hall : ∀ j, j < xs.length → rch xs j = rch xs 0 := fun j hj => by
    refine Nat.eq_of_testBit_eq fun x => ?_
    by_cases hx : x < xs.length
    · rw [rch_full h hs hk hj x hx, rch_full h hs hk (by omega) x hx]
    · rw [Nat.testBit_lt_two_pow (Nat.lt_of_lt_of_le (hN.lt j hj) (Nat.pow_le_pow_right (by decide) (by omega))), Nat.testBit_lt_two_pow (Nat.lt_of_lt_of_le (hN.lt 0 (by omega)) (Nat.pow_le_pow_right (by decide) (by omega)))]
  have hm : ∀ r ∈ kyL xs, r = rch xs 0 := fun r hr => by
    obtain ⟨j, hj, rfl⟩ := (kyL_mem xs r).1 hr
    exact hall j hj
  have hin : rch xs 0 ∈ kyL xs := (kyL_mem xs _).2 ⟨0, by omega, rfl⟩
  have hnd := kyL_nodup xs
  rw [parts_len h]
  match kyL xs, hm, hin, hnd with
  | [a], _, _, _ => rfl
  | a :: b :: l, hm, _, hnd =>
    have e1 := hm a (by simp)
    have e2 := hm b (by simp)
    rw [List.nodup_cons] at hnd
    exact absurd (by rw [e1, e2]; simp) hnd.1

/-- Scores 0, 1, ..: who stands higher beats all below. -/
theorem countP_below : ∀ n i, i ≤ n → (List.range n).countP (fun x => decide (x < i)) = i
  | 0, i, h => by obtain rfl : i = 0 := by omega
                  rfl
  | n + 1, i, h => by
    rcases Nat.lt_or_ge n i with g | g
    · obtain rfl : i = n + 1 := by omega
      rw [List.countP_eq_length.2 fun x hx => decide_eq_true (List.mem_range.1 hx), List.length_range]
    · rw [List.range_succ, List.countP_append, countP_below n i g]
      have : ¬ n < i := by omega
      simp [this]
theorem bb_below {xs : List Int} (h : trn xs = true) (hs : ∀ i, i < xs.length → scr (xs.getD i 0) = i) : ∀ i, i < xs.length → ∀ j, j < xs.length → bb xs i j = decide (j < i) := by
  intro i
  induction i using Nat.strongRecOn with
  | _ i ih =>
    intro hi j hj
    have hlow : ∀ j, j < i → bb xs i j = true := fun j hj => by
      have h1 := ih j hj (by omega) i hi
      rw [decide_eq_false (by omega)] at h1
      rw [trn_ne h hi (by omega) (by omega), h1]; rfl
    have hc : (List.range xs.length).countP (bb xs i) = i := by
      have := hs i hi
      rw [scr, bits_bb h hi, ← List.countP_eq_length_filter] at this
      exact this
    by_cases hji : j < i
    · rw [hlow j hji, decide_eq_true hji]
    · rw [decide_eq_false hji]
      cases hb : bb xs i j with
      | false => rfl
      | true =>
        have := Rch.countP_lt (p := fun x => decide (x < i)) (q := bb xs i) (l := List.range xs.length) (x := j) (fun y hy hp => hlow y (of_decide_eq_true hp)) (List.mem_range.2 hj) (decide_eq_false hji) hb
        rw [hc, countP_below _ _ (by omega)] at this; omega
theorem no_cycle {xs : List Int} (h : trn xs = true) (hs : ∀ i, i < xs.length → scr (xs.getD i 0) = i) : cA xs xs.length = [] := by
  rw [cA, List.flatMap_eq_nil_iff]
  intro a ha
  rw [cX, List.flatMap_eq_nil_iff]
  intro x hx
  rw [cC, List.flatMap_eq_nil_iff]
  intro c _
  have ha' := List.mem_range.1 ha
  obtain ⟨h1, h2⟩ := bits_in h ha' hx
  rw [bb_below h hs a ha' x h1] at h2
  have := of_decide_eq_true h2
  rw [if_neg (by omega)]
theorem all_parts {xs : List Int} (h : trn xs = true) (hs : ∀ i, i < xs.length → scr (xs.getD i 0) = i) : (prts xs).length = xs.length := by
  have hN := rch_nest h
  have hle : ∀ i x, i < xs.length → (rch xs i).testBit x = true → x ≤ i := fun i x hi hx => by
    have hr := (rch_iff h hi x).1 hx
    clear hx
    induction hr with
    | refl => exact Nat.le_refl _
    | @step j k hj hb ih =>
      have hk : k < xs.length := by
        have := (rch_iff h hi k).2 (hj.step hb)
        exact hN.mem hi this
      have hb' : bb xs j k = true := hb
      rw [bb_below h hs j (by omega) k hk] at hb'
      have := of_decide_eq_true hb'
      omega
  have hnd : ((List.range xs.length).map (rch xs)).Nodup := by
    rw [List.nodup_iff_pairwise_ne, List.pairwise_map]
    refine (List.pairwise_lt_range).imp_of_mem fun {a b} ha hb hab e => ?_
    have hb' := List.mem_range.1 hb
    have := hle a b (List.mem_range.1 ha) (by rw [e]; exact hN.self b hb')
    omega
  have hp : (kyL xs).Perm ((List.range xs.length).map (rch xs)) := by
    rw [List.perm_ext_iff_of_nodup (kyL_nodup xs) hnd]
    intro r
    rw [kyL_mem, List.mem_map]
    constructor
    · rintro ⟨j, hj, e⟩; exact ⟨j, List.mem_range.2 hj, e⟩
    · rintro ⟨j, hj, e⟩; exact ⟨j, List.mem_range.1 hj, e⟩
  rw [parts_len h, hp.length_eq, List.length_map, List.length_range]

/-- The two lists of scores. -/
def upL (n : Nat) : List Int := (List.range n).map fun i => ((i : Nat) : Int)
def evL (n : Nat) : List Int := List.replicate n (((n - 1) / 2 : Nat) : Int)
theorem upL_ok : ∀ n, 1 ≤ n → n ≤ 7 → isS (upL n) = true ∧ poss (upL n).length (Ra.nl (upL n)) = true := by
  intro n h1 h7
  have : n = 1 ∨ n = 2 ∨ n = 3 ∨ n = 4 ∨ n = 5 ∨ n = 6 ∨ n = 7 := by omega
  rcases this with rfl | rfl | rfl | rfl | rfl | rfl | rfl <;> decide +kernel
theorem evL_ok : ∀ n, 1 ≤ n → n ≤ 7 → isS (evL n) = true ∧ poss (evL n).length (Ra.nl (evL n)) = decide (n % 2 = 1) := by
  intro n h1 h7
  have : n = 1 ∨ n = 2 ∨ n = 3 ∨ n = 4 ∨ n = 5 ∨ n = 6 ∨ n = 7 := by omega
  rcases this with rfl | rfl | rfl | rfl | rfl | rfl | rfl <;> decide +kernel
end Go.Proofs.Tryd.Am.Ra

namespace Ord

theorem perm_of_nodup {α : Type} {l1 l2 : List α} (h1 : l1.Nodup) (h2 : l2.Nodup) (h : ∀ a, a ∈ l1 ↔ a ∈ l2) : l1.Perm l2 := by
  classical
  induction l1 generalizing l2 with
  | nil =>
    cases l2 with
    | nil => exact List.Perm.nil
    | cons b l => exact absurd ((h b).2 (by simp)) (by simp)
  | cons a l ih =>
    have ha : a ∈ l2 := (h a).1 (by simp)
    obtain ⟨s, t, rfl⟩ := List.append_of_mem ha
    refine List.Perm.trans ?_ (List.perm_middle).symm
    refine List.Perm.cons a (ih (List.nodup_cons.1 h1).2 ?_ ?_)
    · exact (List.nodup_cons.1 ((List.perm_middle).nodup_iff.1 h2)).2
    · intro b
      have hb := h b
      simp only [List.mem_cons, List.mem_append] at hb ⊢
      have hna : a ∉ l := (List.nodup_cons.1 h1).1
      have hnt : a ∉ s ++ t := (List.nodup_cons.1 ((List.perm_middle).nodup_iff.1 h2)).1
      constructor
      · intro hl
        have hba : b ≠ a := fun e => hna (e ▸ hl)
        rcases hb.1 (.inr hl) with h | h | h
        · exact .inl h
        · exact absurd h hba
        · exact .inr h
      · intro hst
        have hba : b ≠ a := fun e => hnt (e ▸ List.mem_append.2 hst)
        rcases hb.2 (hst.elim .inl fun h => .inr (.inr h)) with h | h
        · exact absurd h hba
        · exact h

/-- The elements of S that are above no element of S. -/
def firsts (r : Nat → Nat → Bool) (S : List Nat) : List Nat := S.filter fun i => S.all fun j => !r j i
/-- All lines of S, in the order of S. -/
def lines (r : Nat → Nat → Bool) : Nat → List Nat → List (List Nat)
  | 0, _ => [[]]
  | k + 1, S => (firsts r S).flatMap fun i => (lines r k (S.erase i)).map (i :: ·)
def cnt (r : Nat → Nat → Bool) : Nat → List Nat → Nat
  | 0, _ => 1
  | k + 1, S => ((firsts r S).map fun i => cnt r k (S.erase i)).sum

theorem sum_map_len {α β : Type} (f : α → List β) : ∀ l : List α, (l.flatMap f).length = (l.map fun a => (f a).length).sum
  | [] => rfl
  | a :: l => by simp [sum_map_len f l]

theorem cnt_len (r : Nat → Nat → Bool) : ∀ k S, (lines r k S).length = cnt r k S
  | 0, _ => rfl
  | k + 1, S => by
    rw [lines, cnt, sum_map_len]
    simp [cnt_len r k]

theorem mem_firsts {r : Nat → Nat → Bool} {S : List Nat} {i : Nat} : i ∈ firsts r S ↔ i ∈ S ∧ ∀ j ∈ S, r j i = false := by
  simp [firsts]

theorem mem_lines {r : Nat → Nat → Bool} (hr : ∀ i, r i i = false) : ∀ {k : Nat} {S : List Nat}, S.length = k → ∀ l, l ∈ lines r k S ↔ l.Perm S ∧ l.Pairwise (fun a b => r b a = false)
  | 0, S, hS, l => by
    rw [List.length_eq_zero_iff] at hS
    subst hS
    simp [lines]
    intro h; subst h; exact List.Pairwise.nil
  | k + 1, S, hS, l => by
    simp only [lines, List.mem_flatMap, List.mem_map, mem_firsts]
    constructor
    · rintro ⟨i, ⟨hi, hm⟩, l', hl', rfl⟩
      have hlen : (S.erase i).length = k := by rw [List.length_erase_of_mem hi]; omega
      obtain ⟨hp, hw⟩ := (mem_lines hr hlen l').1 hl'
      refine ⟨(List.Perm.cons i hp).trans (List.perm_cons_erase hi).symm, List.pairwise_cons.2 ⟨fun b hb => hm b (List.mem_of_mem_erase (hp.mem_iff.1 hb)), hw⟩⟩
    · rintro ⟨hp, hw⟩
      cases l with
      | nil => have := hp.length_eq; simp [hS] at this
      | cons i l' =>
        obtain ⟨h1, h2⟩ := List.pairwise_cons.1 hw
        have hi : i ∈ S := hp.mem_iff.1 (by simp)
        have hp' : l'.Perm (S.erase i) := (List.perm_cons i).1 (hp.trans (List.perm_cons_erase hi))
        have hlen : (S.erase i).length = k := by rw [List.length_erase_of_mem hi]; omega
        refine ⟨i, ⟨hi, fun j hj => ?_⟩, l', (mem_lines hr hlen l').2 ⟨hp', h2⟩, rfl⟩
        rcases List.mem_cons.1 (hp.mem_iff.2 hj) with rfl | h
        · exact hr j
        · exact h1 j h

theorem nodup_lines {r : Nat → Nat → Bool} : ∀ {k : Nat} {S : List Nat}, S.Nodup → (lines r k S).Nodup
  | 0, S, _ => by simp [lines]
  | k + 1, S, hS => by
    rw [lines]
    have hf : (firsts r S).Nodup := hS.filter _
    generalize firsts r S = F at hf
    induction F with
    | nil => simp
    | cons i F ih =>
      rw [List.flatMap_cons]
      refine List.nodup_append.2 ⟨?_, ih (List.nodup_cons.1 hf).2, ?_⟩
      · refine List.Pairwise.map (R := (· ≠ ·)) _ (fun a b hab he => hab (List.cons.inj he).2) (nodup_lines (hS.erase i))
      · intro a ha b hb hab
        subst hab
        obtain ⟨x, -, rfl⟩ := List.mem_map.1 ha
        obtain ⟨j, hj, hx⟩ := List.mem_flatMap.1 hb
        obtain ⟨y, -, he⟩ := List.mem_map.1 hx
        obtain ⟨rfl, -⟩ := List.cons.inj he
        exact (List.nodup_cons.1 hf).1 hj

/-- As many lines from the other end. -/
theorem cnt_flip {r : Nat → Nat → Bool} (hr : ∀ i, r i i = false) {S : List Nat} (hS : S.Nodup) : cnt (fun i j => r j i) S.length S = cnt r S.length S := by
  rw [← cnt_len, ← cnt_len]
  have hp : ((lines r S.length S).map List.reverse).Perm (lines (fun i j => r j i) S.length S) := by
    refine perm_of_nodup ?_ (nodup_lines hS) fun l => ?_
    · exact List.Pairwise.map (R := (· ≠ ·)) _ (fun a b hab he => hab (List.reverse_inj.1 he)) (nodup_lines hS)
    · rw [mem_lines (r := fun i j => r j i) hr rfl l, List.mem_map]
      constructor
      · rintro ⟨x, hx, rfl⟩
        obtain ⟨h1, h2⟩ := (mem_lines hr rfl x).1 hx
        exact ⟨(List.reverse_perm x).trans h1, List.pairwise_reverse.2 h2⟩
      · rintro ⟨h1, h2⟩
        refine ⟨l.reverse, (mem_lines hr rfl _).2 ⟨(List.reverse_perm l).trans h1, ?_⟩, List.reverse_reverse l⟩
        exact List.pairwise_reverse.2 h2
  have := hp.length_eq
  rw [List.length_map] at this
  exact this.symm

structure Po (r : Nat → Nat → Bool) : Prop where
  irr : ∀ i, r i i = false
  tr : ∀ i j k, r i j = true → r j k = true → r i k = true

end Ord

namespace Ord
open Go.Am

/-- What is above i, as a set. -/
def bt (o : List Int) (i : Nat) : Nat := (o.getD i 0).toNat
/-- j is above i. -/
def ab (o : List Int) (i j : Nat) : Bool := (bt o i).testBit j
def okO (o : List Int) (i : Nat) : Bool :=
  decide (0 ≤ o.getD i 0) && decide (o.getD i 0 < 2 ^ o.length) && !ab o i i && (List.range o.length).all fun j => !ab o i j || (Xz .andNot .i64 (o.getD j 0) (o.getD i 0) == 0)
def ord (o : List Int) : Bool := decide (1 ≤ o.length) && decide (o.length ≤ 6) && (List.range o.length).all (okO o)

theorem ord_len {o : List Int} (h : ord o = true) : 1 ≤ o.length ∧ o.length ≤ 6 := by
  simp only [ord, Bool.and_eq_true, decide_eq_true_eq] at h; exact h.1
theorem pow6 {n : Nat} (h : n ≤ 6) : 2 ^ n ≤ 64 ∧ 0 < 2 ^ n := ⟨Nat.pow_le_pow_right (n := 2) (by decide) h, Nat.two_pow_pos n⟩
theorem ord_at {o : List Int} (h : ord o = true) {i : Nat} (hi : i < o.length) : okO o i = true := by
  simp only [ord, Bool.and_eq_true, List.all_eq_true, List.mem_range] at h; exact h.2 i hi
theorem ord_nat {o : List Int} (h : ord o = true) {i : Nat} (hi : i < o.length) : o.getD i 0 = (bt o i : Int) ∧ bt o i < 2 ^ o.length := by
  have h2 := ord_at h hi
  simp only [okO, Bool.and_eq_true, decide_eq_true_eq] at h2
  have e : ((2 ^ o.length : Nat) : Int) = 2 ^ o.length := by simp
  have h3 := h2.1.1.1
  have h4 := h2.1.1.2
  refine ⟨(Int.toNat_of_nonneg h3).symm, ?_⟩
  rw [← Int.toNat_of_nonneg h3, ← e] at h4
  exact Int.ofNat_lt.1 h4
theorem bt_out {o : List Int} {i : Nat} (hi : o.length ≤ i) : bt o i = 0 := by simp [bt, List.getD, List.getElem?_eq_none hi]
theorem ab_lt {o : List Int} (h : ord o = true) {i j : Nat} (hij : ab o i j = true) : i < o.length ∧ j < o.length := by
  have hi : i < o.length := by
    rcases Nat.lt_or_ge i o.length with h | h
    · exact h
    · simp [ab, bt_out h] at hij
  refine ⟨hi, ?_⟩
  rcases Nat.lt_or_ge j o.length with h' | h'
  · exact h'
  · have := Nat.testBit_lt_two_pow (Nat.lt_of_lt_of_le (ord_nat h hi).2 (Nat.pow_le_pow_right (by decide) h'))
    rw [ab, this] at hij; cases hij
theorem less_zero {a b : Nat} : less a b = 0 ↔ ∀ k, a.testBit k = true → b.testBit k = true := by
  constructor
  · intro h k hk
    have := Xp a b k
    rw [h, hk, Nat.zero_testBit] at this
    cases hb : b.testBit k with
    | true => rfl
    | false => rw [hb] at this; cases this
  · intro h
    apply Nat.eq_of_testBit_eq
    intro k
    rw [Xp, Nat.zero_testBit]
    cases ha : a.testBit k with
    | false => rfl
    | true => rw [h k ha]; rfl
theorem ord_po {o : List Int} (h : ord o = true) : Po (ab o) := by
  have hlen := ord_len h
  have hp := pow6 hlen.2
  constructor
  · intro i
    rcases Nat.lt_or_ge i o.length with hi | hi
    · have h2 := ord_at h hi
      simp only [okO, Bool.and_eq_true, Bool.not_eq_true'] at h2
      exact h2.1.2
    · simp [ab, bt_out hi]
  · intro i j k hij hjk
    obtain ⟨hi, hj⟩ := ab_lt h hij
    have h2 := ord_at h hi
    simp only [okO, Bool.and_eq_true, List.all_eq_true, List.mem_range] at h2
    have h3 := h2.2 j hj
    rw [hij, Bool.not_true, Bool.false_or, beq_iff_eq] at h3
    obtain ⟨e1, l1⟩ := ord_nat h hi
    obtain ⟨e2, l2⟩ := ord_nat h hj
    rw [e1, e2, bitsV_andNot (by omega) (by omega)] at h3
    exact less_zero.1 (Int.ofNat.inj h3) k hjk

/-- What is below i. -/
def dn (o : List Int) (i : Nat) : Nat := (List.range o.length).foldl (fun s j => s ||| (if ab o j i then 2 ^ j else 0)) 0
theorem foldl_or_bit {f : Nat → Nat} {w : Nat} : ∀ (l : List Nat) (s : Nat), (l.foldl (fun r j => r ||| f j) s).testBit w = (s.testBit w || l.any fun j => (f j).testBit w)
  | [], s => by simp
  | x :: l, s => by rw [List.foldl_cons, foldl_or_bit l, Nat.testBit_or, List.any_cons, Bool.or_assoc]
theorem dn_bit {o : List Int} {i j : Nat} : (dn o i).testBit j = (decide (j < o.length) && ab o j i) := by
  rw [dn, foldl_or_bit, Nat.zero_testBit, Bool.false_or, Bool.eq_iff_iff, List.any_eq_true, Bool.and_eq_true, decide_eq_true_eq]
  constructor
  · rintro ⟨x, hx, hb⟩
    cases ha : ab o x i with
    | false => simp [ha] at hb
    | true =>
      rw [ha, if_pos rfl, Nat.testBit_two_pow, decide_eq_true_eq] at hb
      subst hb
      exact ⟨List.mem_range.1 hx, ha⟩
  · rintro ⟨h1, h2⟩
    exact ⟨j, List.mem_range.2 h1, by rw [h2, if_pos rfl, Nat.testBit_two_pow_self]⟩
theorem dn_bit' {o : List Int} (h : ord o = true) {i j : Nat} : (dn o i).testBit j = ab o j i := by
  rw [dn_bit]
  cases ha : ab o j i with
  | false => simp
  | true => simp [(ab_lt h ha).1]
theorem lt_of_bits {s n : Nat} (h : ∀ j, n ≤ j → s.testBit j = false) : s < 2 ^ n := Nat.lt_pow_two_of_testBit s fun j hj => h j hj
theorem dn_lt {o : List Int} {i : Nat} : dn o i < 2 ^ o.length := lt_of_bits fun j hj => by rw [dn_bit, decide_eq_false (by omega)]; rfl

theorem bits_nodup (s : Nat) : (bits s).Nodup := (List.nodup_range).filter _
theorem bits_erase {s i : Nat} (hi : i < 64) : (bits s).erase i = bits (less s (2 ^ i)) := by
  rw [List.Nodup.erase_eq_filter (bits_nodup s), bits, bits, List.filter_filter]
  refine List.filter_congr fun j hj => ?_
  rw [Xp, Nat.testBit_two_pow, Bool.and_comm]
  by_cases h : j = i
  · subst h; simp
  · simp [h, Ne.symm h]
theorem bits_range {s n : Nat} (h : s < 2 ^ n) (hn : n ≤ 64) : bits s = (List.range n).filter fun i => s.testBit i := by
  obtain ⟨d, hd⟩ : ∃ d, 64 = n + d := ⟨64 - n, by omega⟩
  rw [bits, hd, List.range_add, List.filter_append]
  have : (List.map (n + ·) (List.range d)).filter (fun i => s.testBit i) = [] := by
    rw [List.filter_eq_nil_iff]
    intro a ha
    obtain ⟨k, -, rfl⟩ := List.mem_map.1 ha
    rw [Nat.testBit_lt_two_pow (Nat.lt_of_lt_of_le h (Nat.pow_le_pow_right (by decide) (Nat.le_add_right n k)))]
    decide
  rw [this, List.append_nil]
theorem bits_all {n : Nat} (hn : n ≤ 64) : bits (2 ^ n - 1) = List.range n := by
  rw [bits_range (n := n) (by have := Nat.two_pow_pos n; omega) hn, List.filter_eq_self]
  intro i hi
  rw [Nat.testBit_two_pow_sub_one, decide_eq_true (List.mem_range.1 hi)]

/-- Whether i can be the last one of a set: all below it are there, none above it. -/
def okLast (o : List Int) (s i : Nat) : Bool := decide (less (dn o i) s = 0) && decide (bt o i &&& s = 0)
def Wf (o : List Int) : Nat → Nat → Nat
  | 0, _ => 1
  | k + 1, s => (((bits s).filter (okLast o s)).map fun i => Wf o k (less s (2 ^ i))).sum
/-- In how many ways a set can come first. -/
def W (o : List Int) (s : Nat) : Nat := Wf o (bits s).length s

theorem W_zero (o : List Int) : W o 0 = 1 := by
  have : bits 0 = [] := by decide
  rw [W, this]; rfl
theorem bits_ne {s : Nat} (h0 : s ≠ 0) (h : s < 2 ^ 63) : bits s ≠ [] := by rw [bits_step s h h0]; exact List.cons_ne_nil _ _
theorem W_step {o : List Int} {s : Nat} (h0 : s ≠ 0) (h : s < 2 ^ 63) : W o s = (((bits s).filter (okLast o s)).map fun i => W o (less s (2 ^ i))).sum := by
  have hne := bits_ne h0 h
  have hl : ∃ k, (bits s).length = k + 1 := ⟨(bits s).length - 1, by have := List.length_pos_iff.2 hne; omega⟩
  obtain ⟨k, hk⟩ := hl
  rw [W, hk, Wf]
  congr 1
  refine List.map_congr_left fun i hi => ?_
  have hib := (List.mem_filter.1 hi).1
  rw [W, ← bits_erase (Xn.1 hib).1, List.length_erase_of_mem hib, hk]; rfl

theorem Wf_le (o : List Int) : ∀ k s, s < 64 → Wf o k s ≤ 6 ^ k
  | 0, _, _ => Nat.le_refl _
  | k + 1, s, hs => by
    rw [Wf]
    have hlen : ((bits s).filter (okLast o s)).length ≤ 6 := by
      have h1 := List.length_filter_le (okLast o s) (bits s)
      have h2 : (bits s).length ≤ 6 := by
        rw [bits_range (n := 6) hs (by decide)]
        have := List.length_filter_le (fun i => s.testBit i) (List.range 6)
        rw [List.length_range] at this; exact this
      omega
    have key : ∀ l : List Nat, (l.map fun i => Wf o k (less s (2 ^ i))).sum ≤ l.length * 6 ^ k := by
      intro l
      induction l with
      | nil => simp
      | cons a l ih =>
        rw [List.map_cons, List.sum_cons, List.length_cons, Nat.succ_mul]
        have := Wf_le o k (less s (2 ^ a)) (less_lt (n := 6) hs)
        omega
    have h1 := key ((bits s).filter (okLast o s))
    have h2 := Nat.mul_le_mul_right (6 ^ k) hlen
    rw [Nat.pow_succ]
    omega
theorem bits_len6 {s : Nat} (hs : s < 64) : (bits s).length ≤ 6 := by
  rw [bits_range (n := 6) hs (by decide)]
  have := List.length_filter_le (fun i => s.testBit i) (List.range 6)
  rw [List.length_range] at this; exact this
theorem W_le {o : List Int} {s : Nat} (hs : s < 64) : W o s ≤ 46656 :=
  Nat.le_trans (Wf_le o _ s hs) (Nat.pow_le_pow_right (n := 6) (by decide) (bits_len6 hs))

theorem Wf_cnt {o : List Int} (h : ord o = true) : ∀ k s, (bits s).length = k → (∀ i j, s.testBit j = true → ab o i j = true → s.testBit i = true) → s < 64 → Wf o k s = cnt (fun i j => ab o j i) k (bits s)
  | 0, _, _, _, _ => rfl
  | k + 1, s, hk, hd, hs => by
    rw [Wf, cnt]
    have e : (bits s).filter (okLast o s) = firsts (fun i j => ab o j i) (bits s) := by
      refine List.filter_congr fun i hi => ?_
      rw [okLast, Bool.eq_iff_iff, Bool.and_eq_true, decide_eq_true_eq, decide_eq_true_eq, List.all_eq_true]
      have h1 : less (dn o i) s = 0 := less_zero.2 fun j hj => hd j i (Xn.1 hi).2 (by rwa [dn_bit' h] at hj)
      constructor
      · rintro ⟨-, h2⟩ j hj
        have := congrArg (fun x => x.testBit j) h2
        simp only [Nat.testBit_and, (Xn.1 hj).2, Bool.and_true, Nat.zero_testBit] at this
        show (!ab o i j) = true
        rw [ab, this]; rfl
      · intro H
        refine ⟨h1, ?_⟩
        apply Nat.eq_of_testBit_eq
        intro j
        rw [Nat.testBit_and, Nat.zero_testBit]
        cases hj : s.testBit j with
        | false => simp
        | true =>
          have hj64 : j < 64 := by
            rcases Nat.lt_or_ge j 64 with h | h
            · exact h
            · rw [Nat.testBit_lt_two_pow (Nat.lt_of_lt_of_le hs (Nat.pow_le_pow_right (n := 2) (i := 6) (by decide) (by omega)))] at hj; cases hj
          have := H j (Xn.2 ⟨hj64, hj⟩)
          simp only [Bool.not_eq_true', ab] at this
          rw [this]; rfl
    rw [e]
    congr 1
    refine List.map_congr_left fun i hi => ?_
    obtain ⟨hib, hm⟩ := mem_firsts.1 hi
    have hi64 := (Xn.1 hib).1
    rw [bits_erase hi64]
    refine Wf_cnt h k _ ?_ ?_ (less_lt (n := 6) hs)
    · rw [← bits_erase hi64, List.length_erase_of_mem hib]; omega
    · intro a b hb hab
      rw [Xp, Bool.and_eq_true, Nat.testBit_two_pow, Bool.not_eq_true', decide_eq_false_iff_not] at hb ⊢
      have ha := hd a b hb.1 hab
      refine ⟨ha, fun he => ?_⟩
      subst he
      have hb64 : b < 64 := by have := (ab_lt h hab).2; have := ord_len h; omega
      have := hm b (Xn.2 ⟨hb64, hb.1⟩)
      rw [hab] at this; cases this

/-- How many lines there are. -/
def cn (o : List Int) : Nat := cnt (ab o) o.length (List.range o.length)
theorem cn_len {o : List Int} (h : ord o = true) : W o (2 ^ o.length - 1) = cn o := by
  have hlen := ord_len h
  have hp := pow6 hlen.2
  have hb := bits_all (n := o.length) (by omega)
  rw [W, Wf_cnt h _ _ rfl ?_ (by omega), hb, cn]
  · have := cnt_flip (ord_po h).irr (S := List.range o.length) List.nodup_range
    rw [List.length_range] at this
    rw [List.length_range]; exact this
  · intro i j _ hij
    rw [Nat.testBit_two_pow_sub_one, decide_eq_true (ab_lt h hij).1]
theorem getD_map {f : Nat → Int} {n k : Nat} : ((List.range n).map f).getD k 0 = if k < n then f k else 0 := by
  by_cases hk : k < n <;> simp [List.getD, hk]
/-- A list of sets of elements with a strict order is one. -/
theorem ord_of {o : List Int} (h1 : 1 ≤ o.length ∧ o.length ≤ 6) (hb : ∀ i, i < o.length → ∃ s : Nat, o.getD i 0 = (s : Int) ∧ s < 2 ^ o.length) (hp : Po (ab o)) : ord o = true := by
  have hp6 := pow6 h1.2
  simp only [ord, Bool.and_eq_true, decide_eq_true_eq, List.all_eq_true, List.mem_range]
  refine ⟨h1, fun i hi => ?_⟩
  obtain ⟨s, hs, hl⟩ := hb i hi
  have e : ((2 ^ o.length : Nat) : Int) = 2 ^ o.length := by simp
  simp only [okO, Bool.and_eq_true, decide_eq_true_eq, List.all_eq_true, List.mem_range, Bool.not_eq_true']
  refine ⟨⟨⟨by omega, by rw [hs, ← e]; exact Int.ofNat_lt.2 hl⟩, hp.irr i⟩, fun j hj => ?_⟩
  obtain ⟨t, ht, hl2⟩ := hb j hj
  cases hij : ab o i j with
  | false => rfl
  | true =>
    rw [Bool.not_true, Bool.false_or, hs, ht, bitsV_andNot (by omega) (by omega)]
    have hz : less t s = 0 := less_zero.2 fun k hk => by
      have h2 : ab o j k = true := by rw [ab, bt, ht, Int.toNat_natCast]; exact hk
      have := hp.tr i j k hij h2
      rwa [ab, bt, hs, Int.toNat_natCast] at this
    rw [hz]; rfl
/-- Free elements. -/
def fr (o : List Int) (i j : Nat) : Bool := decide (i ≠ j) && !ab o i j && !ab o j i
/-- x is above none. -/
def low (o : List Int) (x : Nat) : Bool := (List.range o.length).all fun i => !ab o i x
end Ord

namespace Go.Proofs.Tryd.Am.Or
open Go.Proofs.Tryd.Am
open Go.Am Ord
set_option maxRecDepth 100000
set_option maxHeartbeats 1000000

/-- An order's cells. -/
def sixs (o : List Int) : List Int := o ++ List.replicate (6 - o.length) 0
def ordC (o : List Int) : List Value := Zh o.length :: (sixs o).map Zh
def ordV (o : List Int) : Value := .agg (ordC o).toArray
theorem sixs_len {o : List Int} (h : o.length ≤ 6) : (sixs o).length = 6 := by simp [sixs]; omega
theorem Yt {o : List Int} (h : o.length ≤ 6) : (ordC o).length = 7 := by simp [ordC, sixs_len h]
theorem ordC_0 {o : List Int} : (ordC o)[0]? = some (Zh o.length) := rfl
theorem ordC_get {o : List Int} (h : o.length ≤ 6) {i : Nat} (hi : i < 6) : (ordC o)[1 + i]? = some (Zh (o.getD i 0)) := by
  rw [ordC, Nat.add_comm, List.getElem?_cons_succ, List.getElem?_map, sixs, List.getElem?_append]
  by_cases hl : i < o.length
  · simp [hl, List.getD]
  · rw [if_neg hl, List.getElem?_replicate, if_pos (by omega)]
    simp [List.getD, List.getElem?_eq_none (show o.length ≤ i by omega)]
theorem ordC_one (o : List Int) : (ordC o).all one = true := by
  rw [List.all_eq_true]
  intro x hx
  rcases List.mem_cons.1 hx with rfl | hx
  · rfl
  · obtain ⟨y, -, rfl⟩ := List.mem_map.1 hx; rfl
theorem Low.ordV (o : List Int) : Low (ordV o) := .agg fun x hx => by
  rcases List.mem_cons.1 hx with rfl | hx
  · exact .int _ _
  · obtain ⟨y, -, rfl⟩ := List.mem_map.1 hx; exact .int _ _
section
variable {P : Program} {h : Zd} {t : TypeId} {o o' : List Int} {b n : Nat} {ro : Bool} {e : TypeId}
theorem boxO {K : Value → Zd → Prop} (hs : esz P t = some n) : boxK P h t (ordV o) K = K (Xi h) (h ++ [.cells (ordC o) t false]) := by
  have e1 : cellsOf (ordV o) = ordC o := rfl
  simp only [boxK, ordV, hs, Option.isSome_some, true_and]
  rw [show cellsOf (.agg (ordC o).toArray) = ordC o from rfl]
theorem loadO {K : Value → Prop} (hb : h[b]? = some (.cells (ordC o) e ro)) (hs : shp P t = some (some 7)) (hl : o.length ≤ 6) : Xd P h t (.pointer (some ⟨b, 0, none⟩)) K = K (ordV o) :=
  loadA hb (by rw [hs, Yt hl])
theorem loadN {K : Value → Prop} (hb : h[b]? = some (.cells (ordC o) e ro)) (hs : shp P t = some none) : Xd P h t (.pointer (some ⟨b, 0, none⟩)) K = K (Zh o.length) := loadC hb hs ordC_0
theorem loadI {K : Value → Prop} (hb : h[b]? = some (.cells (ordC o) e ro)) (hs : shp P t = some none) (hl : o.length ≤ 6) {i : Nat} (hi : i < 6) : Xd P h t (.pointer (some ⟨b, 1 + i, none⟩)) K = K (Zh (o.getD i 0)) := loadC hb hs (ordC_get hl hi)
end

theorem shl1 {n : Nat} (h : n ≤ 62) : shlV .i64 1 n = 2 ^ n := by
  have h2 : 2 ^ n ≤ 2 ^ 62 := Nat.pow_le_pow_right (by decide) h
  have := shlV_nat (a := 1) (y := n) (by omega) (by omega)
  simpa using this
theorem pow_cast (n : Nat) : ((2 ^ n : Nat) : Int) = 2 ^ n := by simp
/-- The test of one element, in a set of an order. -/
theorem testO {o : List Int} (h : ord o = true) {i : Nat} (hi : i < o.length) (j : Nat) : Xz .and .i64 (shrV .i64 (o.getD i 0) j) 1 = if ab o i j then 1 else 0 := by
  have hl := ord_len h
  have := pow6 hl.2
  obtain ⟨h1, h2⟩ := ord_nat h hi
  rw [h1]
  exact testV (by omega)
theorem all_call [Tabs prog] {h : Zd} {o : List Int} (hl : o.length ≤ 6) : APure prog 103 [ordV o] h (Zh ((2 ^ o.length - 1 : Nat) : Int)) := by
  have hp := pow6 hl
  have hs : subV .i64 (2 ^ o.length) 1 = ((2 ^ o.length - 1 : Nat) : Int) := by rw [← pow_cast, subV_id (by omega) (by omega)]; omega
  refine ACall.forget (Low.int _ _) ?_
  refine s103_call (by simp) ?_
  simp (maxSteps := 2000000) only [s103, ↓Za, ↓Zg, ↓Zv, ↓Zb, ↓Zc, vup, cond_true, cond_false, aop, Zf, Zm, ev, sput, Ze, Yj, Yo, Nat.reduceBEq, Zr, Wa, tup, tyf, boxO esz_97, fldA fld_97_0 Xc, loadN (Yk _ _) Ya, shl1 (show o.length ≤ 62 by omega), hs]
  exact Ext.app _ _ _

theorem elements_call [Tabs prog] {h : Zd} {s : Int} : ACall prog 100 [Zh s] h fun r h' => r = .func (.func 136) #[] #[Xi h] ∧ h' = h ++ [.cells [Zh s] 3 false] := by
  refine s100_call (by simp) ?_
  simp (maxSteps := 2000000) only [s100, ↓Za, ↓Zg, ↓Zv, ↓Zb, ↓Zc, vup, List.map_cons, List.map_nil, cond_true, cond_false, aop, Zf, Zm, ev, sput, Ze, Nat.reduceBEq, Zr, Wa, tup, tyf, boxK, cellsOf, Option.isSome_some, List.map_toArray]

/-- What is below, from the first ones. -/
def dnTo (o : List Int) (i : Nat) : Nat → Nat
  | 0 => 0
  | k + 1 => dnTo o i k ||| (if ab o k i then 2 ^ k else 0)
theorem dnTo_all (o : List Int) (i : Nat) : dnTo o i o.length = dn o i := by
  have key : ∀ n, dnTo o i n = (List.range n).foldl (fun s j => s ||| (if ab o j i then 2 ^ j else 0)) 0 := by
    intro n
    induction n with
    | zero => rfl
    | succ n ih => rw [dnTo, ih, List.range_succ, List.foldl_append]; rfl
  exact key _
theorem dnTo_lt (o : List Int) (i : Nat) : ∀ k, dnTo o i k < 2 ^ k
  | 0 => by simp [dnTo]
  | k + 1 => by
    have := dnTo_lt o i k
    rw [dnTo]
    refine Nat.or_lt_two_pow (Nat.lt_of_lt_of_le this (Nat.pow_le_pow_right (by decide) (Nat.le_succ k))) ?_
    split
    · exact Nat.pow_lt_pow_right (by decide) (Nat.lt_succ_self k)
    · exact Nat.two_pow_pos _

theorem below_call [Tabs prog] {h : Zd} {o : List Int} (ho : ord o = true) {i : Nat} : APure prog 104 [ordV o, Zh i] h (Zh (dn o i : Nat)) := by
  have hl := ord_len ho
  refine ACall.forget (Low.int _ _) ?_
  refine s104_call (by simp) ?_
  simp (maxSteps := 2000000) only [s104, ↓Za, ↓Zg, ↓Zx, ↓Zb, ↓Zc, vup, cond_true, cond_false, aop, Zf, Zm, ev, sput, Ze, Nat.reduceBEq, Nat.reduceAdd, boxO esz_97, fldA fld_97_0 Xc, loadN (Yk _ _) Ya, ↓Yw]
  refine Ye fun Q hQ => ?_
  refine Wo (γ := Nat) (fun k => k ≤ o.length)
    (fun k => ([(0, ordV o), (1, Zh i), (2, Xi h), (4, .int .i64 0), (5, Zh (dnTo o i k : Nat)), (8, Zh o.length), (9, Zh k)], h ++ [.cells (ordC o) 97 false])) (fun k => o.length - k) 0 (Nat.zero_le _) (by simp (maxSteps := 2000000) only [vup, cond_true, cond_false, Nat.reduceBEq, Int.natCast_zero, dnTo]) rfl ?_
  intro k hk
  refine Wp fun Q2 hQ2 => ?_
  by_cases hin : (k : Int) < o.length
  · have hin' : k < o.length := by omega
    have hdl := dnTo_lt o i k
    have hpk : 2 ^ k ≤ 64 := Nat.pow_le_pow_right (n := 2) (j := 6) (by decide) (by omega)
    have hsh : shlV .i64 (if ab o k i = true then (1 : Int) else 0) k = ((if ab o k i then 2 ^ k else 0 : Nat) : Int) := by
      split
      · rw [shl1 (by omega), pow_cast]
      · have := shlV_nat (a := 0) (y := k) (by omega) (by omega)
        simpa using this
    have hor : Xz .or .i64 ((dnTo o i k : Nat) : Int) ((if ab o k i then 2 ^ k else 0 : Nat) : Int) = ((dnTo o i (k + 1) : Nat) : Int) := by
      rw [dnTo]; exact bitsV_or (by omega) (by split <;> omega)
    simp (maxSteps := 2000000) only [↓Za, ↓Zs, ↓Zg, ↓Zx, ↓Zb, ↓Zc, ↓vdn, vup, cond_true, cond_false, aop, Zf, Zp, ev, sput, Ze, Yj, Yo, Nat.reduceBEq, tyf, l104_0, hin, fldA fld_97_1 esz_95, idxA und_95 Xc (show k < 6 by omega), loadI (Yk _ _) Ya hl.2 (show k < 6 by omega), testO ho hin', hsh, hor, add1 (show k < 9223372036854775807 by omega)]
    exact hQ2 _ _ _ ⟨k + 1, by omega, by omega, by simp (maxSteps := 2000000) only [vup, cond_true, cond_false, Nat.reduceBEq], rfl⟩
  · obtain rfl : k = o.length := by omega
    simp (maxSteps := 2000000) only [↓Za, ↓Zg, ↓Xa, ↓Zb, ↓Zc, ↓vdn, vup, cond_true, cond_false, aop, Zf, ev, sput, Ze, Yj, Yo, Nat.reduceBEq, l104_0, Int.lt_irrefl]
    refine hQ2 _ _ _ (hQ _ _ _ ?_)
    simp (maxSteps := 2000000) only [↓Za, ↓Zg, ↓Zv, ↓Zb, ↓Zc, vup, cond_true, cond_false, aop, Zf, Zp, ev, sput, Ze, Nat.reduceBEq, Zr, Wa, tup, if_true, dnTo_all]
    exact Ext.app _ _ _
end Go.Proofs.Tryd.Am.Or

namespace Go.Proofs.Tryd.Ob
open Go.Proofs.Tryd
open Go.RowKit Go.Am

set_option maxHeartbeats 1000000 in
theorem tz64_core (x k idx : Nat) (w : World) (hx0 : ((x : Int) == 0) = false)
    (key : IntKind.u64.wrap (bits BinOp.and IntKind.u64 (x : Int) (IntKind.u64.wrap (-(x : Int))) * 285870213051353865) / 288230376151711744 = (idx : Int))
    (hi : idx < 64) (hk : k < 64) (hcell : w.cell? ⟨0, idx, none⟩ = some (.int .u8 k)) :
    Calls prog 98 #[.int .u64 x] w fun e w' => e = .returned (.int .i64 k) ∧ w' = w := by
  go_enter func98, ntmps98
  go_wp2_with (simp only [key])
  go_ret
  exact ⟨rfl, rfl⟩

theorem tz64_zero (w : World) : Calls prog 98 #[.int .u64 0] w fun e w' => e = .returned (.int .i64 64) ∧ w' = w := by
  go_enter func98, ntmps98
  go_wp2
  go_ret
  exact ⟨rfl, rfl⟩
theorem tz64 (x : Nat) (hx : x < 18446744073709551616) (w : World) (hT : x ≠ 0 → TabAt 0 Lib.deBruijn64tab w) :
    Calls prog 98 #[.int .u64 x] w fun e w' => e = .returned (.int .i64 (Lib.ctz 64 x)) ∧ w' = w := by
  by_cases hx0 : x = 0
  · subst hx0; exact tz64_zero w
  · obtain ⟨hlow, hk⟩ := Lib.lowest_bit 64 x hx0 hx
    obtain ⟨hi, htab⟩ := Lib.deBruijn64_at _ hk
    have hcell := hT hx0 _ hi
    rw [htab] at hcell
    exact tz64_core x _ _ w (by simp; omega) (tz64_key x _ hx hx0 hlow) hi hk hcell
theorem tz (x : Nat) (hx : x < 18446744073709551616) (w : World) (hT : x ≠ 0 → TabAt 0 Lib.deBruijn64tab w) :
    Calls prog 137 #[.int .u64 x] w fun e w' => e = .returned (.int .i64 (Lib.ctz 64 x)) ∧ w' = w := by
  have c64 := tz64 x hx w hT
  have e29 : ∀ args w, (callFunc 98 args).run prog w = .ok (.enter 98 args) w := enters_of func98 (by kernel_rfl) rfl
  have hw : IntKind.u64.wrap (x : Int) = (x : Int) := by rw [IntKind.wrap_u64]; omega
  go_enter func137, ntmps137
  go_wp2_with (go_at_fn 98; refine c64.mono ?_; rintro e w' ⟨rfl, hw'⟩; rw [hw'])
  go_ret
  exact ⟨rfl, rfl⟩

theorem and_pred_lt (s : Nat) (h : s ≠ 0) : s &&& (s - 1) < s := Nat.lt_of_le_of_lt Nat.and_le_right (by omega)

/-- What is left of a set, in its box. -/
def boxLeft (B : Nat) (w : World) : Nat := match w.cell? ⟨B, 0, none⟩ with | some (.int _ n) => n.toNat | _ => 0
theorem boxLeft_eq {B s : Nat} {w : World} (h : w.cell? ⟨B, 0, none⟩ = some (.int .i64 s)) : boxLeft B w = s := by simp [boxLeft, h]

attribute [local go_sem] Oper.semAt_some

set_option maxRecDepth 100000 in
set_option maxHeartbeats 2000000 in
theorem elements1 (l B s : Nat) (J Jx : List Nat → World → Prop) (W : World) (hs : s < 9223372036854775808) (hB : W.cell? ⟨B, 0, none⟩ = some (.int .i64 s)) (hfz : W.frozen? ⟨B, 0, none⟩ = false)
    (hT : ∀ pre W, J pre W → TabAt 0 Lib.deBruijn64tab W)
    (hst : ∀ pre W v, J pre W → J pre (W.setCell ⟨B, 0, none⟩ v))
    (hY : ∀ pre (x : Nat) W, J pre W → pre ++ [x] <+: Am.bits s → YieldAt Fence.wide 0 prog l #[.int .i64 x] W fun en W' =>
      (en = .returned (.bool true) ∧ J (pre ++ [x]) W' ∧ W'.cell? ⟨B, 0, none⟩ = W.cell? ⟨B, 0, none⟩ ∧ W'.frozen? ⟨B, 0, none⟩ = W.frozen? ⟨B, 0, none⟩) ∨ (en = .returned (.bool false) ∧ Jx (pre ++ [x]) W'))
    (h0 : J [] W) :
    CallsIn Fence.wide 1 prog 136 #[.func (.yield l) #[] #[], .pointer (some ⟨B, 0, none⟩)] W fun en W' => (∃ v, en = .returned v) ∧ (J (Am.bits s) W' ∨ ∃ pre, Jx pre W') := by
  refine callsIn_of_wp func136 rfl trivial ?_ rfl
  simp only [ntmps136, List.size_toArray, List.length_cons, List.length_nil, Nat.reduceAdd, Nat.reduceSub, Array.replicate_succ, Array.replicate_zero, List.push_toArray, List.append_toArray, List.nil_append, List.cons_append]
  have e115 : ∀ args w, (callFunc 137 args).run prog w = .ok (.enter 137 args) w := enters_of func137 (by kernel_rfl) rfl
  gi_wp2
  gi_loopw [3] (fun _ wr => ∃ (pre : List Nat) (t : Nat), t < 9223372036854775808 ∧ Am.bits s = pre ++ Am.bits t ∧ wr.cell? ⟨B, 0, none⟩ = some (.int .i64 t) ∧ wr.frozen? ⟨B, 0, none⟩ = false ∧ J pre wr)
    (fun _ wr => boxLeft B wr)
  case atStart => exact ⟨[], s, hs, rfl, hB, hfz, h0⟩
  case round =>
    obtain ⟨pre, t, ht, hx, hc, hf, hJ⟩ := hrel
    by_cases ht0 : t = 0
    · subst ht0
      gi_wp2
      go_end0
      exact ⟨⟨_, rfl⟩, .inl (by rw [hx, show Am.bits 0 = [] from rfl, List.append_nil]; exact hJ)⟩
    · have hw : IntKind.u64.wrap (t : Int) = (t : Int) := by rw [IntKind.wrap_u64]; omega
      have htz := tz t (by omega) wr (fun _ => hT _ _ hJ)
      have hy := hY pre (Lib.ctz 64 t) wr hJ (by rw [hx, Am.bits_step t ht ht0]; simp)
      have hne : ((t : Int) == 0) = false := by simpa using ht0
      have htz' : CallsIn Fence.wide 0 prog 137 #[.int .u64 t] wr fun e w' => e = .returned (.int .i64 (Lib.ctz 64 t)) ∧ w' = wr := callsIn_wide.2 htz
      obtain ⟨fn, tmps, assign, body, hy1, hR⟩ := hy
      gi_wp2
      refine ⟨trivial, htz'.mono ?_⟩
      rintro e w2 ⟨rfl, rfl⟩
      gi_wp2
      refine hR.mono ?_
      rintro e W3 (⟨rfl, hJ3, hc3, hf3⟩ | ⟨rfl, hJx3⟩)
      · rw [hc] at hc3
        rw [hf] at hf3
        gi_wp2
        have hand : bits BinOp.and IntKind.i64 (t : Int) ((t : Int) - 1) = ((t &&& (t - 1) : Nat) : Int) := by
          have := bitsV_and (a := t) (b := t - 1) ht (by omega)
          rw [← this, show ((t - 1 : Nat) : Int) = (t : Int) - 1 by omega]; rfl
        have hlt := and_pred_lt t ht0
        rw [hand]
        have hcell : (W3.setCell ⟨B, 0, none⟩ (.int .i64 ((t &&& (t - 1) : Nat) : Int))).cell? ⟨B, 0, none⟩ = some (.int .i64 ((t &&& (t - 1) : Nat) : Int)) := World.cell?_setCell_same' _ _ _ (by rw [hc3]; rfl)
        refine ⟨⟨_, _, _, _, _, _, _, _, _, _, _, _, ⟨pre ++ [Lib.ctz 64 t], t &&& (t - 1), by omega, by rw [hx, Am.bits_step t ht ht0]; simp, hcell, by rw [World.frozen?_setCell]; exact hf3, hst _ _ _ hJ3⟩, rfl⟩, ?_⟩
        rw [boxLeft_eq hcell, boxLeft_eq hc]
        exact hlt
      · gi_wp2
        refine bodyPost_ret (results_none rfl _ _ _) rfl ?_
        exact ⟨⟨_, rfl⟩, .inr ⟨_, hJx3⟩⟩

theorem tabAt_of [T : BitTab prog 0] {w : World} (h : ∀ p ∈ Tabs.tabs prog, w.heap[p.1]? = some p.2) : TabAt 0 Lib.deBruijn64tab w := by
  intro j hj
  have := h (0, _) (by rw [T.eq]; exact List.mem_singleton.2 rfl)
  simp only [World.cell?, this]
  simp [hj]

theorem bitIter [BitTab prog 0] : BitIter prog 136 := by
  refine ⟨enters_of func136 (by kernel_rfl) rfl, ?_⟩
  intro r l B s J Jx W hs hB hfz hT hst hY h0
  cases r with
  | none => exact elements1 l B s J Jx W hs hB hfz (fun pre W hJ => tabAt_of (hT pre W hJ)) hst hY h0
  | some l0 => exact CallsIn.inRound l0 (elements1 l B s J Jx W hs hB hfz (fun pre W hJ => tabAt_of (hT pre W hJ)) hst hY h0)
#print axioms bitIter
end Go.Proofs.Tryd.Ob

namespace Go.Proofs.Tryd.Am.Or
open Go.Proofs.Tryd.Am
open Go.Am Ord
set_option maxRecDepth 100000
set_option maxHeartbeats 1000000

theorem testA {o : List Int} {i : Nat} (h0 : 0 ≤ o.getD i 0) (h1 : o.getD i 0 < 9223372036854775808) (j : Nat) : Xz .and .i64 (shrV .i64 (o.getD i 0) j) 1 = if ab o i j then 1 else 0 := by
  have := testV (a := bt o i) (y := j) (by unfold bt; omega)
  rw [show ((bt o i : Nat) : Int) = o.getD i 0 from Int.toNat_of_nonneg h0] at this
  exact this
theorem pow6I {n : Nat} (h : n ≤ 6) : (2 : Int) ^ n ≤ 64 ∧ 0 < (2 : Int) ^ n := by
  have := pow6 h
  rw [← pow_cast]; omega

end Go.Proofs.Tryd.Am.Or

namespace Ord
open Go.Am

inductive Reach (l : List (Nat × Nat)) : Nat → Nat → Prop
  | one {a b : Nat} (h : (a, b) ∈ l) : Reach l a b
  | tr {a b c : Nat} (h1 : Reach l a b) (h2 : Reach l b c) : Reach l a c
theorem Reach.mono {l l' : List (Nat × Nat)} (h : ∀ p ∈ l, p ∈ l') {a b : Nat} (hr : Reach l a b) : Reach l' a b := by
  induction hr with
  | one h1 => exact .one (h _ h1)
  | tr _ _ i1 i2 => exact .tr i1 i2
/-- m pairs, one behind the other. -/
def Path (l : List (Nat × Nat)) : Nat → Nat → Nat → Prop
  | 0, _, _ => False
  | 1, a, b => (a, b) ∈ l
  | m + 2, a, b => ∃ c, (a, c) ∈ l ∧ Path l (m + 1) c b
theorem Path.mono {l l' : List (Nat × Nat)} (h : ∀ p ∈ l, p ∈ l') : ∀ {m a b}, Path l m a b → Path l' m a b
  | 0, _, _, hp => hp.elim
  | 1, _, _, hp => h _ hp
  | m + 2, _, _, ⟨c, h1, h2⟩ => ⟨c, h _ h1, h2.mono h⟩

/-- All sets of n elements. -/
def Sets (n : Nat) (o : List Int) : Prop := o.length = n ∧ ∀ i, i < n → o.getD i 0 = (bt o i : Int) ∧ bt o i < 2 ^ n
theorem Sets.ext {n : Nat} {o o' : List Int} (h : Sets n o) (h' : Sets n o') (he : ∀ i j, ab o i j = ab o' i j) : o = o' := by
  refine List.ext_getElem (h.1.trans h'.1.symm) fun i h1 h2 => ?_
  have e1 : o[i] = o.getD i 0 := by simp [List.getD, h1]
  have e2 : o'[i] = o'.getD i 0 := by simp [List.getD, h2]
  rw [e1, e2, (h.2 i (h.1 ▸ h1)).1, (h'.2 i (h'.1 ▸ h2)).1]
  congr 1
  exact Nat.eq_of_testBit_eq fun j => he i j
theorem Sets.ord {n : Nat} {o : List Int} (h : Sets n o) (hn : 1 ≤ n ∧ n ≤ 6) (hp : Po (ab o)) : Ord.ord o = true :=
  ord_of (by rw [h.1]; exact hn) (fun i hi => ⟨_, (h.2 i (by rw [← h.1]; exact hi)).1, by rw [h.1]; exact (h.2 i (by rw [← h.1]; exact hi)).2⟩) hp

/-- What a step keeps: sets; nothing is lost; nothing comes that is not reached. -/
structure Good (n : Nat) (l : List (Nat × Nat)) (o o' : List Int) : Prop where
  sets : Sets n o'
  mono : ∀ a b, ab o a b = true → ab o' a b = true
  sound : (∀ a b, ab o a b = true → Reach l a b) → ∀ a b, ab o' a b = true → Reach l a b
theorem Good.refl {n : Nat} {l : List (Nat × Nat)} {o : List Int} (h : Sets n o) : Good n l o o := ⟨h, fun _ _ h => h, fun h => h⟩
theorem Good.trans {n : Nat} {l : List (Nat × Nat)} {o o' o'' : List Int} (h1 : Good n l o o') (h2 : Good n l o' o'') : Good n l o o'' :=
  ⟨h2.sets, fun a b h => h2.mono a b (h1.mono a b h), fun h => h2.sound (h1.sound h)⟩
end Ord

namespace Go.Proofs.Tryd.Am.Or
open Go.Proofs.Tryd.Am
open Go.Am Ord
set_option maxRecDepth 100000
set_option maxHeartbeats 1000000

theorem Yf {h h' : Zd} {v : Value} {xs : List Int} (hv : IntSl h v xs) (he : Ext (fun _ => False) h h') : IntSl h' v xs := hv.same fun b hb => he.2 b (hv.lt hb) id
/-- An order without pairs, of n elements. -/
def ordN (n : Int) : List Value := [Zh n, .int .i64 0, .int .i64 0, .int .i64 0, .int .i64 0, .int .i64 0, .int .i64 0]
theorem bldN {n : Int} {K : Value → Prop} : buildK prog 97 [(0, Zh n)] K = K (.agg (ordN n).toArray) := by
  simp [buildK, zero_97, fillL, pl_97_0, notTuple, cellsOf, Zz, ordN]
theorem zeroN : ([.int .i64 0, .int .i64 0, .int .i64 0, .int .i64 0, .int .i64 0, .int .i64 0, .int .i64 0] : List Value) = ordN 0 := rfl
theorem copyO {h : Zd} {v : Value} {o : List Int} (hv : IntSl h v o) (h1 : 1 ≤ o.length ∧ o.length ≤ 6) {b : Nat} (hb : h[b]? = some (.cells (ordN o.length) 97 false)) {K : Value → Zd → Prop} (hk : K (Zh o.length) (h.set b (.cells (ordC o) 97 false))) :
    copyK prog h 27 (.slice (some ⟨b, 1, none⟩) 6 6) v K := by
  have hne : o ≠ [] := by rintro rfl; simp at h1
  have hv' := hv
  rcases hv with ⟨rfl, hx⟩ | ⟨b2, o2, sp, cap, c, e, ro, rfl, hc, hw, hx⟩
  · exact absurd hx hne
  have e6 : min (o.length : Int) ((6 : Nat) : Int) = o.length := by omega
  simp only [copyK, Wg, Xc, Nat.min_eq_left h1.2, e6]
  refine hv'.cells hne b2 o2 sp o.length cap rfl ?_
  refine ⟨?_, ?_⟩
  · rw [List.all_eq_true]; intro x hx
    obtain ⟨y, -, rfl⟩ := List.mem_map.1 hx; rfl
  · simp only [hb]
    refine ⟨by simp [ordN]; omega, ?_⟩
    have e1 : Zz (ordN o.length) 1 (o.map Zh) = ordC o := by
      rw [Zz, ordC, ordN, sixs, List.map_append, List.length_map]
      show _ :: (_ ++ _) = _
      congr 2
      rw [List.map_replicate]
      have : o.length = 1 ∨ o.length = 2 ∨ o.length = 3 ∨ o.length = 4 ∨ o.length = 5 ∨ o.length = 6 := by omega
      rcases this with h | h | h | h | h | h <;> rw [h] <;> rfl
    rw [e1]; exact hk

/-- What 'read' hands back beside its answer. -/
def rdC (o : List Int) : List Value := if 1 ≤ o.length ∧ o.length ≤ 6 then ordC o else ordN o.length
def rdV (o : List Int) : Value := .agg (rdC o).toArray
theorem rdC_len (o : List Int) : (rdC o).length = 7 := by
  unfold rdC; split
  · next h => exact Yt h.2
  · rfl
theorem rdC_one (o : List Int) : (rdC o).all one = true := by
  unfold rdC; split
  · exact ordC_one o
  · rfl
theorem low_rdV (o : List Int) : Low (rdV o) := by
  unfold rdV rdC
  split
  · exact Low.ordV o
  · exact .agg fun x hx => by
      simp only [ordN, List.mem_cons, List.not_mem_nil, or_false] at hx
      rcases hx with rfl | rfl | rfl | rfl | rfl | rfl | rfl <;> exact .int _ _

theorem read_call [BitTab prog 0] {h : Zd} {v : Value} {o : List Int} (hv : IntSl h v o) (hl : o.length < 9223372036854775808) (hx : ∀ x ∈ o, -9223372036854775808 ≤ x ∧ x < 9223372036854775808) : APure prog 54 [v] h (.tuple #[rdV o, .bool (ord o)]) := by
  refine ACall.forget (.pair (low_rdV o) (.bool _)) ?_
  refine s54_call (by simp) ?_
  simp only [s54]
  obtain ⟨tp, tl, tc, rfl⟩ : ∃ p l c, v = .slice p l c := by
    rcases hv with ⟨rfl, _⟩ | ⟨b, o, sp, cap, c, e, ro, rfl, _⟩
    · exact ⟨_, _, _, rfl⟩
    · exact ⟨_, _, _, rfl⟩
  refine aw_cut fun N hN => ?_
  simp (maxSteps := 2000000) only [↓Za, ↓Zb, ↓Zc, vup, cond_true, cond_false, aop, Zf, Zm, ev, sput, Ze, Nat.reduceBEq, tyf, boxK, cellsOf, Option.isSome_some, Xi, Wb, zeroN]
  refine hN _ _ ?_
  clear hN N
  generalize htv : Value.slice tp tl tc = tv at *
  obtain ⟨H, hH⟩ : ∃ H, H = h ++ [Blk.cells [tv] 27 false] ++ [Blk.cells (ordN 0) 97 false] ++ [Blk.cells [.bool false] 4 false] := ⟨_, rfl⟩
  rw [← hH]
  simp only [List.length_append, List.length_cons, List.length_nil, Nat.zero_add, Nat.add_assoc, Nat.reduceAdd]
  obtain ⟨n, hn⟩ : ∃ n, n = h.length := ⟨_, rfl⟩
  have hHl : H.length = n + 3 := by rw [hH, hn]; simp
  have hE0 : Ext (fun _ => False) h H := by rw [hH, List.append_assoc, List.append_assoc]; exact Ext.app _ _ _
  have b1 : H[n]? = some (.cells [tv] 27 false) := by rw [hH, hn]; exact Xw (Xw (Yk _ _) _) _
  have b2 : H[n + 1]? = some (.cells (ordN 0) 97 false) := by
    rw [hH, hn]; have := Xw (Yk (h ++ [Blk.cells [tv] 27 false]) (Blk.cells (ordN 0) 97 false)) [Blk.cells [.bool false] 4 false]
    simpa using this
  have b3 : H[n + 2]? = some (.cells [.bool false] 4 false) := by
    rw [hH, hn]; have := Yk (h ++ [Blk.cells [tv] 27 false] ++ [Blk.cells (ordN 0) 97 false]) (Blk.cells [.bool false] 4 false)
    simpa using this
  have hvH : IntSl H tv o := Yf hv hE0
  rw [← hn]
  clear hH
  refine aw_cut fun N hN => ?_
  simp (maxSteps := 2000000) only [↓Za, ↓Zb, ↓Zc, vup, List.map_cons, List.map_nil, cond_true, cond_false, aop, Zf, ev, sput, Ze, Zj, Nat.reduceBEq, tyf, Yr b1 We, hvH.len, Wb, Xi, bldN, zeroN]
  rw [storeA (c := ordN 0) (vs := ordN o.length) (Yk _ _) (by rw [Xh]; rfl) rfl rfl]
  refine hN _ _ ?_
  clear hN N
  rw [hHl]
  obtain ⟨G, hG⟩ : ∃ G, G = (H ++ [Blk.cells (ordN 0) 97 false]).set (n + 3) (.cells (ordN o.length) 97 false) := ⟨_, rfl⟩
  rw [← hG]
  have hGl : G.length = n + 4 := by rw [hG]; simp [hHl]
  have oldG : ∀ {k B}, H[k]? = some B → G[k]? = some B := fun {k B} hk => by
    have := Zt hk
    rw [hG, List.getElem?_set_ne (by omega)]; exact Xw hk _
  have b4 : G[n + 3]? = some (.cells (ordN o.length) 97 false) := by rw [hG]; exact Ys (by simp [hHl]) _
  have hEG : Ext (fun _ => False) h G := ⟨by omega, fun i hi _ => by
    rw [hG, List.getElem?_set_ne (by omega), List.getElem?_append_left (by omega)]; exact hE0.2 i hi id⟩
  replace b1 := oldG b1
  replace b2 := oldG b2
  replace b3 := oldG b3
  clear oldG hG
  have hvG : IntSl G tv o := Yf hv hEG
  clear hvH hE0 hHl
  clear H
  -- what a return does
  have fin : ∀ (hp : Zd) (bb : Bool), Ext (fun i => i = n + 3) G hp → bb = ord o → Ext (fun _ => False) h ((hp.set (n + 1) (.cells (rdC o) 97 false)).set (n + 2) (.cells [.bool bb] 4 false)) ∧
      ((hp.set (n + 1) (.cells (rdC o) 97 false)).set (n + 2) (.cells [.bool bb] 4 false))[n + 1]? = some (.cells (rdC o) 97 false) ∧
      ((hp.set (n + 1) (.cells (rdC o) 97 false)).set (n + 2) (.cells [.bool bb] 4 false))[n + 2]? = some (.cells [.bool bb] 4 false) ∧
      hp[n + 1]? = some (.cells (ordN 0) 97 false) ∧ (hp.set (n + 1) (.cells (rdC o) 97 false))[n + 2]? = some (.cells [.bool false] 4 false) := fun hp bb hE hb => by
    have hl := hE.1
    have g2 : hp[n + 1]? = some (.cells (ordN 0) 97 false) := (hE.2 _ (by omega) (by omega)).trans b2
    refine ⟨⟨by simp; omega, fun i hi _ => ?_⟩, ?_, ?_, g2, ?_⟩
    · rw [List.getElem?_set_ne (by omega), List.getElem?_set_ne (by omega), hE.2 i (by omega) (by omega)]; exact hEG.2 i hi id
    · rw [List.getElem?_set_ne (by omega)]; exact Ys (by omega) _
    · exact Ys (by simp; omega) _
    · rw [List.getElem?_set_ne (by omega), hE.2 _ (by omega) (by omega)]; exact b3
  refine aw_cut fun N hN => ?_
  by_cases hlen : 1 ≤ o.length ∧ o.length ≤ 6
  rotate_left
  · have ht : ord o = false := by
      cases e : ord o with
      | false => rfl
      | true => exact absurd (ord_len e) hlen
    have hrd : rdC o = ordN o.length := if_neg hlen
    obtain ⟨f1, f2, f3, f4, f5⟩ := fin G false (Ext.refl _ _) ht.symm
    rw [hrd] at f1 f2 f3 f5
    by_cases h1 : (o.length : Int) < 1
    · simp (maxSteps := 2000000) only [↓Za, ↓Zg, ↓Zv, ↓Zb, ↓Zc, ↓vdn, vup, List.map_cons, List.map_nil, cond_true, cond_false, aop, Zf, ev, sput, Ze, Yj, Yo, Zj, Nat.reduceBEq, Zr, Wa, tup, tyf, Yr b1 We, hvG.len, h1, loadA b4 (t := 97) (by rw [Xh]; rfl), storeA (vs := ordN o.length) b2 (t := 97) (by rw [Xh]; rfl) rfl rfl, storeB f5 shp_4, loadA f2 (t := 97) (by rw [Xh]; rfl), Yr f3 shp_4]
      exact ⟨by rw [rdV, hrd, ht], f1⟩
    · have h6 : (6 : Int) < o.length := by omega
      simp (maxSteps := 2000000) only [↓Za, ↓Zg, ↓Zv, ↓Zb, ↓Zc, ↓vdn, vup, List.map_cons, List.map_nil, cond_true, cond_false, aop, Zf, ev, sput, Ze, Yj, Yo, Zj, Nat.reduceBEq, Zr, Wa, tup, tyf, Yr b1 We, hvG.len, h1, h6, loadA b4 (t := 97) (by rw [Xh]; rfl), storeA (vs := ordN o.length) b2 (t := 97) (by rw [Xh]; rfl) rfl rfl, storeB f5 shp_4, loadA f2 (t := 97) (by rw [Xh]; rfl), Yr f3 shp_4]
      exact ⟨by rw [rdV, hrd, ht], f1⟩
  have h1 : ¬ (o.length : Int) < 1 := by omega
  have h6 : ¬ (6 : Int) < o.length := by omega
  have hrd : rdC o = ordC o := if_pos hlen
  simp (maxSteps := 2000000) only [↓Za, ↓Zs, ↓Zg, ↓Zb, ↓Zc, ↓vdn, vup, List.map_cons, List.map_nil, cond_true, cond_false, aop, Zf, ev, sput, Ze, Yj, Yo, Zj, Nat.reduceBEq, tyf, Yr b1 We, hvG.len, h1, h6]
  refine hN _ _ ?_
  clear hN N
  refine aw_cut fun N hN => ?_
  refine Yy [] (by kernel_rfl) (by kernel_rfl) (by kernel_rfl) (by kernel_rfl) ?_
  simp (maxSteps := 2000000) only [↓Yg, ↓vdn, vup, List.map_cons, List.map_nil, cond_true, cond_false, aop, Zf, ev, sput, Ze, Zj, Nat.reduceBEq, Nat.reduceAdd, tyf, fldA fld_97_1 esz_95, Wm, Option.isSome_some, Yr b1 We]
  refine copyO hvG hlen b4 ?_
  refine hN _ _ ?_
  clear hN N
  obtain ⟨F, hF⟩ : ∃ F, F = G.set (n + 3) (.cells (ordC o) 97 false) := ⟨_, rfl⟩
  rw [← hF]
  have hEF : Ext (fun i => i = n + 3) G F := by rw [hF]; exact Ext.set _ rfl
  have hvF : IntSl F tv o := by
    refine Yf hv ⟨by rw [hF]; simp; omega, fun i hi _ => ?_⟩
    rw [hF, List.getElem?_set_ne (by omega)]; exact hEG.2 i hi id
  have c1 : F[n]? = some (.cells [tv] 27 false) := (hEF.2 _ (by omega) (by omega)).trans b1
  have c4 : F[n + 3]? = some (.cells (ordC o) 97 false) := by rw [hF]; exact Ys (by omega) _
  clear hF
  have hp := pow6I hlen.2
  simp (maxSteps := 2000000) only [↓Za, ↓Zg, ↓Zx, ↓Zb, ↓Zc, vup, List.map_cons, List.map_nil, cond_true, cond_false, aop, Zf, ev, sput, Ze, Zj, Nat.reduceBEq, tyf, Yr c1 We, hvF.len, ↓Yw]
  refine Ye fun Q hQ => ?_
  refine Wo (γ := Nat × Zd) (fun s => s.1 ≤ o.length ∧ Ext (fun _ => False) F s.2 ∧ ∀ k, k < s.1 → okO o k = true)
    (fun s => ([(0, tv), (1, .pointer (some ⟨n, 0, none⟩)), (2, .pointer (some ⟨n + 1, 0, none⟩)), (3, .pointer (some ⟨n + 2, 0, none⟩)), (4, .pointer (some ⟨n + 3, 0, none⟩)), (24, tv), (25, Zh o.length), (26, Zh s.1)], s.2)) (fun s => o.length - s.1) (0, F) ⟨by omega, Ext.refl _ _, fun _ hk => by simp at hk⟩ (by simp (maxSteps := 2000000) only [vup, cond_true, cond_false, Nat.reduceBEq, Int.natCast_zero]) rfl ?_
  rintro ⟨i, hp0⟩ ⟨hi, hE, hok⟩
  simp only at hi hE hok
  have e1 : hp0[n]? = some (.cells [tv] 27 false) := (hE.2 _ (Zt c1) id).trans c1
  have e4 : hp0[n + 3]? = some (.cells (ordC o) 97 false) := (hE.2 _ (Zt c4) id).trans c4
  have hvE : IntSl hp0 tv o := Yf hvF hE
  have hGl' := hEF.1
  have hl0 := hE.1
  refine Wp fun Q2 hQ2 => ?_
  by_cases hin : (i : Int) < o.length
  · have hin' : i < o.length := by omega
    have hbad : okO o i = false → ord o = false := fun hb => by
      have : (List.range o.length).all (okO o) = false := by
        rw [List.all_eq_false]; exact ⟨i, by simpa using hin', by simp [hb]⟩
      simp [ord, this]
    obtain ⟨hx1, hx2⟩ := hx (o.getD i 0) (by rw [List.getD, List.getElem?_eq_getElem hin']; exact List.getElem_mem hin')
    obtain ⟨m, hm⟩ : ∃ m, m = hp0.length := ⟨_, rfl⟩
    obtain ⟨X, hX⟩ : ∃ X, X = (hp0 ++ [Blk.cells [Value.int .i64 0] 3 false]).set hp0.length (Blk.cells [.int .i64 (o.getD i 0)] 3 false) := ⟨_, rfl⟩
    have hlX : X.length = m + 1 := by rw [hX, hm]; simp
    have hEX : Ext (fun _ => False) hp0 X := ⟨by omega, fun j hj _ => by rw [hX, List.getElem?_set_ne (by omega), List.getElem?_append_left hj]⟩
    have bX : X[m]? = some (.cells [.int .i64 (o.getD i 0)] 3 false) := by rw [hX, hm]; exact Ys (by simp) _
    have x1 : X[n]? = some (.cells [tv] 27 false) := (hEX.2 _ (Zt e1) id).trans e1
    have x4 : X[n + 3]? = some (.cells (ordC o) 97 false) := (hEX.2 _ (Zt e4) id).trans e4
    have hvX : IntSl X tv o := Yf hvE hEX
    have hGX : Ext (fun i => i = n + 3) G X := ⟨by omega, fun j hj hjn => by rw [hEX.2 j (by omega) id, hE.2 j (by omega) id]; exact hEF.2 j hj hjn⟩
    simp only [l54_1]
    refine aw_cut fun N hN => ?_
    simp (maxSteps := 2000000) only [↓Za, ↓Zb, ↓Zc, vup, cond_true, cond_false, aop, Zf, ev, sput, Ze, Yj, Yo, Nat.reduceBEq]
    refine hN _ _ ?_
    clear hN N
    refine aw_cut fun N hN => ?_
    simp (maxSteps := 2000000) only [↓Zs, ↓vdn, vup, cond_true, cond_false, Zf, ev, Nat.reduceBEq, hin]
    refine hN _ _ ?_
    clear hN N
    refine aw_cut fun N hN => ?_
    simp only [↓Zx]
    refine aw_cut fun N2 hN2 => ?_
    simp (maxSteps := 2000000) only [↓Za, ↓Zb, ↓Zc, vup, cond_true, cond_false, aop, Zf, ev, sput, Ze, Nat.reduceBEq, tyf, hvE.idx Wg Xc hin', hvE.load Ya hin', Wb, Xi]
    rw [storeI (v := .int .i64 0) (e := 3) (Yk _ _) Ya, ← hX, ← hm]
    refine hN2 _ _ ?_
    clear hN2 N2
    -- what a return inside does
    have back : ∀ (hq : Zd), Ext (fun i => i = n + 3) G hq → hq[n + 3]? = some (.cells (ordC o) 97 false) → ord o = false → ∀ (e : Env), sget e 2 = .pointer (some ⟨n + 1, 0, none⟩) → sget e 3 = .pointer (some ⟨n + 2, 0, none⟩) →
        Q2 .ret e ((hq.set (n + 1) (.cells (ordC o) 97 false)).set (n + 2) (.cells [.bool false] 4 false)) := fun hq hEq _ ht e g2 g3 => by
      obtain ⟨f1, f2, f3, f4, f5⟩ := fin hq false hEq ht.symm
      rw [hrd] at f1 f2 f3 f5
      refine hQ2 _ _ _ (hQ _ _ _ ?_)
      simp only [Zp, Zf, Zr, Wa, g2, g3]
      rw [loadA f2 (t := 97) (by rw [Xh, Yt hlen.2]), Yr f3 shp_4]
      exact ⟨by rw [rdV, hrd, ht]; rfl, f1⟩
    obtain ⟨f1, f2, f3, f4, f5⟩ : _ := fin X (ord o) hGX rfl
    rw [hrd] at f1 f2 f3 f5
    refine aw_cut fun N2 hN2 => ?_
    simp (maxSteps := 2000000) only [↓Zg]
    refine Yy [] (by kernel_rfl) (by kernel_rfl) (by kernel_rfl) (by kernel_rfl) ?_
    by_cases hneg : o.getD i 0 < 0
    · have hb := hbad (by rw [okO, decide_eq_false (show ¬ 0 ≤ o.getD i 0 by omega)]; rfl)
      simp (maxSteps := 2000000) only [↓Za, ↓Zg, ↓Zv, ↓Zb, ↓Zc, ↓Yg, ↓vdn, vup, cond_true, cond_false, aop, Zf, Zp, ev, sput, Ze, Yj, Yo, pickK, Nat.reduceBEq, Nat.reduceAdd, tyf, Yr bX Ya, hneg, loadA x4 (t := 97) (by rw [Xh, Yt hlen.2]), storeA (vs := ordC o) f4 (t := 97) (by rw [Xh, Yt hlen.2]) (ordC_one o) (by rw [Yt hlen.2]; rfl), storeB f5 shp_4]
      exact back X hGX x4 hb _ rfl rfl
    by_cases hbig : 2 ^ o.length ≤ o.getD i 0
    · have hb := hbad (by rw [okO, decide_eq_false (show ¬ o.getD i 0 < 2 ^ o.length from Int.not_lt.2 hbig), Bool.and_false]; rfl)
      simp (maxSteps := 2000000) only [↓Za, ↓Zg, ↓Zv, ↓Zb, ↓Zc, ↓Yg, ↓vdn, vup, List.map_cons, List.map_nil, cond_true, cond_false, aop, Zf, Zp, ev, sput, Ze, Yj, Yo, Zj, pickK, Nat.reduceBEq, Nat.reduceAdd, tyf, Yr bX Ya, hneg, Yr x1 We, hvX.len, shl1 (show o.length ≤ 62 by omega), hbig, loadA x4 (t := 97) (by rw [Xh, Yt hlen.2]), storeA (vs := ordC o) f4 (t := 97) (by rw [Xh, Yt hlen.2]) (ordC_one o) (by rw [Yt hlen.2]; rfl), storeB f5 shp_4]
      exact back X hGX x4 hb _ rfl rfl
    have hs0 : 0 ≤ o.getD i 0 := by omega
    have hs1 : o.getD i 0 < 9223372036854775808 := by omega
    by_cases hbit : ab o i i = true
    · have hb := hbad (by rw [okO, hbit, Bool.not_true, Bool.and_false]; rfl)
      simp (maxSteps := 2000000) only [↓Za, ↓Zg, ↓Zv, ↓Zb, ↓Zc, ↓Yg, ↓vdn, vup, List.map_cons, List.map_nil, cond_true, cond_false, aop, Zf, Zp, ev, sput, Ze, Yj, Yo, Zj, pickK, Nat.reduceBEq, Nat.reduceAdd, Int.reduceBEq, tyf, Yr bX Ya, hneg, Yr x1 We, hvX.len, shl1 (show o.length ≤ 62 by omega), hbig, testA hs0 hs1, hbit, if_true, Int.reduceBEq, loadA x4 (t := 97) (by rw [Xh, Yt hlen.2]), storeA (vs := ordC o) f4 (t := 97) (by rw [Xh, Yt hlen.2]) (ordC_one o) (by rw [Yt hlen.2]; rfl), storeB f5 shp_4]
      exact back X hGX x4 hb _ rfl rfl
    simp only [Bool.not_eq_true] at hbit
    simp (maxSteps := 2000000) only [↓Zs, ↓Yg, ↓vdn, vup, List.map_cons, List.map_nil, cond_true, cond_false, aop, Zf, ev, sput, Ze, Yj, Yo, Zj, pickK, Nat.reduceBEq, Nat.reduceAdd, Int.reduceBEq, tyf, Yr bX Ya, hneg, Yr x1 We, hvX.len, shl1 (show o.length ≤ 62 by omega), hbig, testA hs0 hs1, hbit, if_false, Bool.false_eq_true, Int.reduceBEq]
    refine hN2 _ _ ?_
    clear hN2 N2
    have hset : o.getD i 0 = ((bt o i : Nat) : Int) := (Int.toNat_of_nonneg hs0).symm
    have hsl : bt o i < 64 := by have h1 := hp.1; have : o.getD i 0 < 64 := by omega
                                 omega
    simp (maxSteps := 2000000) only [↓Za, ↓Zg, ↓Zx, ↓Zb, ↓Zc, vup, List.map_cons, List.map_nil, cond_true, cond_false, aop, Zf, ev, sput, Ze, Nat.reduceBEq, Yr bX Ya, Yq, List.nil_append, List.append_nil]
    refine elements_call.mono ?_
    rintro _ _ ⟨rfl, rfl⟩
    rw [hset] at bX ⊢
    refine aw_range Ob.bitIter (bx := X.length) (s := bt o i) (et := 3) rfl (Yk _ _) (by omega) (fun pre hk => Ext (fun _ => False) X hk ∧ ∀ k ∈ pre, (Xz .andNot .i64 (o.getD k 0) (o.getD i 0) == 0) = true) ⟨?_, fun _ hk => by cases hk⟩ ?_ ?_
    · refine ⟨by simp, fun j hj _ => ?_⟩
      rw [List.getElem?_set_ne (by omega), List.getElem?_append_left hj]
    · rintro pre x hk hpre ⟨hEk, hall⟩
      obtain ⟨hx64, hxb⟩ := Xn.1 (mem_pre hpre)
      have hxn : x < o.length := by
        rcases Nat.lt_or_ge x o.length with h | h
        · exact h
        · have h2 : bt o i < 2 ^ o.length := by
            have h3 : ¬ (2 : Int) ^ o.length ≤ ((bt o i : Nat) : Int) := by rw [← hset]; exact hbig
            rw [← pow_cast] at h3
            omega
          rw [Nat.testBit_lt_two_pow (Nat.lt_of_lt_of_le h2 (Nat.pow_le_pow_right (by decide) h))] at hxb; cases hxb
      have k1 : hk[n]? = some (.cells [tv] 27 false) := (hEk.2 _ (Zt x1) id).trans x1
      have k4 : hk[n + 3]? = some (.cells (ordC o) 97 false) := (hEk.2 _ (Zt x4) id).trans x4
      have kX : hk[m]? = some (.cells [.int .i64 ((bt o i : Nat) : Int)] 3 false) := (hEk.2 _ (Zt bX) id).trans bX
      have hvk : IntSl hk tv o := Yf hvX hEk
      have hlk := hEk.1
      have hGk : Ext (fun i => i = n + 3) G hk := ⟨by omega, fun j hj hjn => by rw [hEk.2 j (by omega) id]; exact hGX.2 j hj hjn⟩
      simp (maxSteps := 2000000) only [↓Za, ↓Zg, ↓Zx, ↓Zb, ↓Zc, vup, cond_true, cond_false, aop, Zf, ev, sput, Ze, Nat.reduceBEq, r54_0_a, r54_0_b]
      refine Yy [] (by kernel_rfl) (by kernel_rfl) (by kernel_rfl) (by kernel_rfl) ?_
      cases hlz : (Xz .andNot .i64 (o.getD x 0) ((bt o i : Nat) : Int) == 0) with
      | true =>
        have hlz' : (Xz .andNot .i64 (o.getD x 0) ((bt o i : Nat) : Int) != 0) = false := by rw [bne, hlz]; rfl
        simp (maxSteps := 2000000) only [↓Zs, ↓Yg, ↓vdn, vup, cond_true, cond_false, aop, Zf, Zp, ev, sput, Ze, Yj, Yo, Nat.reduceBEq, Nat.reduceAdd, tyf, Yr k1 We, hvk.idx Wg Xc hxn, hvk.load Ya hxn, Yr kX Ya, hlz']
        refine ⟨hEk, fun k hk' => ?_⟩
        rcases List.mem_append.1 hk' with h | h
        · exact hall k h
        · rw [List.mem_singleton.1 h, hset]; exact hlz
      | false =>
        have hlz' : (Xz .andNot .i64 (o.getD x 0) ((bt o i : Nat) : Int) != 0) = true := by rw [bne, hlz]; rfl
        have hb := hbad (by
          have : ((List.range o.length).all fun j => !ab o i j || (Xz .andNot .i64 (o.getD j 0) (o.getD i 0) == 0)) = false := by
            rw [List.all_eq_false]; exact ⟨x, List.mem_range.2 hxn, by rw [show ab o i x = true from hxb, hset, hlz]; decide⟩
          rw [okO, this, Bool.and_false])
        obtain ⟨g1, g2, g3, g4, g5⟩ := fin hk (ord o) hGk rfl
        rw [hrd] at g1 g2 g3 g5
        simp (maxSteps := 2000000) only [↓Za, ↓Zg, ↓Zv, ↓Zb, ↓Zc, ↓Yg, ↓vdn, vup, cond_true, cond_false, aop, Zf, Zp, ev, sput, Ze, Yj, Yo, Nat.reduceBEq, Nat.reduceAdd, tyf, Yr k1 We, hvk.idx Wg Xc hxn, hvk.load Ya hxn, Yr kX Ya, hlz', loadA k4 (t := 97) (by rw [Xh, Yt hlen.2]), storeA (vs := ordC o) g4 (t := 97) (by rw [Xh, Yt hlen.2]) (ordC_one o) (by rw [Yt hlen.2]; rfl), storeB g5 shp_4, rangeQ]
        exact back hk hGk k4 hb _ rfl rfl
    · rintro hk ⟨hEk, hall⟩
      simp (maxSteps := 2000000) only [Zf, Zp]
      refine hN _ _ ?_
      simp (maxSteps := 2000000) only [↓Za, ↓Zb, ↓Zc, vup, cond_true, cond_false, aop, ev, sput, Ze, Yj, Yo, Nat.reduceBEq, add1 (show i < 9223372036854775807 by omega)]
      have hlk := hEk.1
      refine hQ2 _ _ _ ⟨(i + 1, hk), ⟨by simp only; omega, ⟨by simp only; omega, fun j hj _ => ?_⟩, fun k hk' => ?_⟩, by simp only; omega, by simp (maxSteps := 2000000) only [vup, cond_true, cond_false, Nat.reduceBEq], rfl⟩
      · show hk[j]? = F[j]?
        rw [hEk.2 j (by omega) id, hEX.2 j (by omega) id]; exact hE.2 j hj id
      · simp only at hk'
        by_cases hki : k = i
        · subst hki
          have hle : bt o k < 2 ^ o.length := by
            have h3 : ¬ (2 : Int) ^ o.length ≤ ((bt o k : Nat) : Int) := by rw [← hset]; exact hbig
            rw [← pow_cast] at h3
            omega
          have : ((List.range o.length).all fun j => !ab o k j || (Xz .andNot .i64 (o.getD j 0) (o.getD k 0) == 0)) = true := by
            rw [List.all_eq_true]
            intro j hj
            cases hkj : ab o k j with
            | false => rfl
            | true => rw [hall j (Xn.2 ⟨by have := List.mem_range.1 hj; omega, hkj⟩)]; rfl
          rw [okO, decide_eq_true hs0, decide_eq_true (Int.not_le.1 hbig), hbit, this]; rfl
        · exact hok k (by omega)
  · obtain rfl : i = o.length := by omega
    have ht : ord o = true := by simp only [ord, Bool.and_eq_true, decide_eq_true_eq, List.all_eq_true, List.mem_range]; exact ⟨hlen, hok⟩
    obtain ⟨f1, f2, f3, f4, f5⟩ := fin hp0 true ⟨by omega, fun j hj hjn => by rw [hE.2 j (by omega) id]; exact hEF.2 j hj hjn⟩ ht.symm
    rw [hrd] at f1 f2 f3 f5
    simp (maxSteps := 2000000) only [↓Za, ↓Zg, ↓Xa, ↓Zb, ↓Zc, ↓vdn, vup, cond_true, cond_false, aop, Zf, ev, sput, Ze, Yj, Yo, Nat.reduceBEq, l54_1, Int.lt_irrefl]
    refine hQ2 _ _ _ (hQ _ _ _ ?_)
    simp (maxSteps := 2000000) only [↓Za, ↓Zg, ↓Zv, ↓Zb, ↓Zc, vup, cond_true, cond_false, aop, Zf, Zp, ev, sput, Ze, Nat.reduceBEq, Zr, Wa, tup, if_true, loadA e4 (t := 97) (by rw [Xh, Yt hlen.2]), storeA (vs := ordC o) f4 (t := 97) (by rw [Xh, Yt hlen.2]) (ordC_one o) (by rw [Yt hlen.2]; rfl), storeB f5 shp_4, loadA f2 (t := 97) (by rw [Xh, Yt hlen.2]), Yr f3 shp_4]
    exact ⟨by rw [rdV, hrd, ht], f1⟩
end Go.Proofs.Tryd.Am.Or

namespace Go.Proofs.Tryd.Am.Or
open Go.Proofs.Tryd.Am
open Go.Am Ord
set_option maxRecDepth 100000
set_option maxHeartbeats 1000000

section
variable {P : Program} {h : Zd} {t e : TypeId} {b o n c k : Nat} {xs : List Int} {ro : Bool}
theorem idxS {K : Value → Prop} (he : elemOf' P t = some e) (hs : esz P e = some 1) (hk : k < n) : Yd P t (.slice (some ⟨b, 0, none⟩) n c) (Zh (k : Nat)) K = K (.pointer (some ⟨b, k, none⟩)) := by
  simp only [Yd, he, hs, Int.natCast_nonneg, Int.toNat_natCast, Nat.mul_one, Nat.zero_add, true_and, Int.ofNat_lt.2 hk]
theorem loadX {K : Value → Prop} (hb : h[b]? = some (.ints xs e ro)) (hs : shp P t = some none) (ho : o < xs.length) : Xd P h t (.pointer (some ⟨b, o, none⟩)) K = K (Zh (xs.getD o 0)) := by
  simp only [Xd, hs, cellK, hb, ho, true_and]
theorem storeX {K : Zd → Prop} {x : Int} (hb : h[b]? = some (.ints xs e false)) (hs : shp P t = some none) (ho : o < xs.length) : Xf P h t (.pointer (some ⟨b, o, none⟩)) (Zh x) K = K (h.set b (.ints (xs.set o x) e false)) := by
  simp only [Xf, hs, hb, ho, true_and]
end

/-- The table of ways, with those below s filled in. -/
def WS (o : List Int) (s : Nat) : List Int := (List.range (2 ^ o.length)).map fun k => if k < s then ((W o k : Nat) : Int) else 0
theorem WS_len {o : List Int} {s : Nat} : (WS o s).length = 2 ^ o.length := by simp [WS]
theorem WS_get {o : List Int} {s k : Nat} (hk : k < s) (hs : s ≤ 2 ^ o.length) : (WS o s).getD k 0 = ((W o k : Nat) : Int) := by
  rw [WS, getD_map, if_pos (by omega), if_pos hk]
theorem WS_one {o : List Int} : (List.replicate (2 ^ o.length) (0 : Int)).set 0 1 = WS o 1 := by
  have hp := Nat.two_pow_pos o.length
  refine List.ext_getElem (by simp [WS_len]) fun i h1 h2 => ?_
  rw [List.getElem_set]
  by_cases hi : 0 = i
  · subst hi; simp [WS, W_zero]
  · rw [if_neg hi]; simp [WS]; omega
theorem WS_set {o : List Int} {s : Nat} : (WS o s).set s ((W o s : Nat) : Int) = WS o (s + 1) := by
  refine List.ext_getElem (by simp [WS_len]) fun i h1 h2 => ?_
  rw [List.getElem_set]
  by_cases hi : s = i
  · subst hi; simp [WS]
  · rw [if_neg hi]
    simp only [WS, List.getElem_map, List.getElem_range]
    by_cases hlt : i < s
    · rw [if_pos hlt, if_pos (by omega)]
    · rw [if_neg hlt, if_neg (by omega)]
theorem WS_zero {o : List Int} {s : Nat} (hs : s < 2 ^ o.length) : (WS o s).set s 0 = WS o s := by
  refine List.ext_getElem (by simp) fun i h1 h2 => ?_
  rw [List.getElem_set]
  by_cases hi : s = i
  · subst hi; simp [WS]
  · rw [if_neg hi]
/-- What has come together from some last elements. -/
def ps (o : List Int) (s : Nat) (pre : List Nat) : Nat := ((pre.filter (okLast o s)).map fun i => W o (less s (2 ^ i))).sum
theorem ps_snoc {o : List Int} {s : Nat} {pre : List Nat} {x : Nat} : ps o s (pre ++ [x]) = if okLast o s x = true then ps o s pre + W o (less s (2 ^ x)) else ps o s pre := by
  unfold ps
  rw [List.filter_append, List.map_append, List.sum_append, List.filter_cons]
  split <;> simp
theorem ps_le {o : List Int} {s : Nat} (hs : s < 64) : ∀ pre : List Nat, ps o s pre ≤ pre.length * 46656 := by
  intro pre
  unfold ps
  induction pre with
  | nil => simp
  | cons x pre ih =>
    rw [List.filter_cons, List.length_cons, Nat.succ_mul]
    split
    · rw [List.map_cons, List.sum_cons]
      have := W_le (o := o) (s := less s (2 ^ x)) (less_lt (n := 6) hs)
      omega
    · omega

theorem eq0 (n : Nat) : (((n : Nat) : Int) == 0) = decide (n = 0) := by
  by_cases h : n = 0
  · subst h; rfl
  · rw [decide_eq_false h]
    have : ((n : Nat) : Int) ≠ 0 := by omega
    simpa using this

theorem counted_call [BitTab prog 0] {h : Zd} {o : List Int} (ho : ord o = true) : APure prog 56 [ordV o] h (Zh (cn o : Nat)) := by
  have hlen := ord_len ho
  have hpw := pow6 hlen.2
  refine ACall.forget (Low.int _ _) ?_
  refine s56_call (by simp) ?_
  simp only [s56]
  refine aw_cut fun N hN => ?_
  simp (maxSteps := 2000000) only [↓Za, ↓Zb, ↓Zc, vup, cond_true, cond_false, aop, Zf, Zm, ev, sput, Ze, Nat.reduceBEq, boxO esz_97, Xi]
  refine hN _ _ ?_
  clear hN N
  obtain ⟨n, hn⟩ : ∃ n, n = h.length := ⟨_, rfl⟩
  rw [← hn]
  have hadd : addV .i64 ((2 ^ o.length - 1 : Nat) : Int) 1 = ((2 ^ o.length : Nat) : Int) := by rw [addV_id (by omega) (by omega)]; omega
  have hm0 : (0 : Int) ≤ ((2 ^ o.length : Nat) : Int) := Int.natCast_nonneg _
  have hm1 : ((2 ^ o.length : Nat) : Int) ≤ 35184372088832 := by omega
  have c0 : (h ++ [Blk.cells (ordC o) 97 false])[n]? = some (.cells (ordC o) 97 false) := by rw [hn]; exact Yk _ _
  refine aw_cut fun N hN => ?_
  simp (maxSteps := 2000000) only [↓Za, ↓Zb, ↓Zc, vup, List.map_cons, List.map_nil, cond_true, cond_false, aop, Zf, ev, sput, Ze, Yj, Yo, Nat.reduceBEq, tyf, loadO c0 Xh hlen.2, Yq, List.nil_append, List.append_nil]
  refine (all_call hlen.2).mono ?_
  rintro _ _ ⟨rfl, rfl⟩
  simp (maxSteps := 2000000) only [vup, tyf, hadd, makeI Wg zero_3 info_3 hm0 hm1, Int.toNat_natCast, Wb, Xi]
  obtain ⟨N0, hN0⟩ : ∃ N0, N0 = 2 ^ o.length := ⟨_, rfl⟩
  obtain ⟨S, hS⟩ : ∃ S : Value, S = .slice (some ⟨n + 1, 0, none⟩) N0 N0 := ⟨_, rfl⟩
  simp only [List.length_append, List.length_cons, List.length_nil, Nat.zero_add, Nat.add_assoc, Nat.reduceAdd, ← hn, ← hN0, ← hS]
  have hone : one S = true := by rw [hS]; rfl
  have c2 : (h ++ [Blk.cells (ordC o) 97 false] ++ [Blk.ints (List.replicate N0 0) 3 false] ++ [Blk.cells [.slice none 0 0] 27 false])[n + 2]? = some (.cells [.slice none 0 0] 27 false) := by
    have := Yk (h ++ [Blk.cells (ordC o) 97 false] ++ [Blk.ints (List.replicate N0 0) 3 false]) (Blk.cells [.slice none 0 0] 27 false)
    simpa [hn] using this
  rw [store1 c2 We hone]
  obtain ⟨H, hH⟩ : ∃ H, H = (h ++ [Blk.cells (ordC o) 97 false] ++ [Blk.ints (List.replicate N0 0) 3 false] ++ [Blk.cells [.slice none 0 0] 27 false]).set (n + 2) (.cells [S] 27 false) := ⟨_, rfl⟩
  rw [← hH]
  have hHl : H.length = n + 3 := by rw [hH, hn]; simp
  have b0 : H[n]? = some (.cells (ordC o) 97 false) := by rw [hH, List.getElem?_set_ne (by omega)]; exact Xw (Xw c0 _) _
  have b1 : H[n + 1]? = some (.ints (List.replicate N0 0) 3 false) := by
    rw [hH, List.getElem?_set_ne (by omega)]
    have := Yk (h ++ [Blk.cells (ordC o) 97 false]) (Blk.ints (List.replicate N0 0) 3 false)
    simp only [List.length_append, List.length_singleton, ← hn] at this
    exact Xw this _
  have b2 : H[n + 2]? = some (.cells [S] 27 false) := by rw [hH]; exact Ys (by rw [hn]; simp) _
  have hE0 : Ext (fun _ => False) h H := ⟨by omega, fun i hi _ => by
    rw [hH, List.getElem?_set_ne (by omega), List.append_assoc, List.append_assoc, List.getElem?_append_left hi]⟩
  clear c2 hH
  refine hN _ _ ?_
  clear hN N
  -- ways[0] = 1
  refine aw_cut fun N hN => ?_
  have hidx : ∀ {k : Nat} {K : Value → Prop}, k < N0 → Yd prog 27 S (Zh (k : Nat)) K = K (.pointer (some ⟨n + 1, k, none⟩)) := fun {k K} hk => by rw [hS]; exact idxS Wg Xc hk
  have hidx0 : ∀ {K : Value → Prop}, Yd prog 27 S (.int .i64 0) K = K (.pointer (some ⟨n + 1, 0, none⟩)) := fun {K} => hidx (k := 0) (by omega)
  simp (maxSteps := 2000000) only [↓Za, ↓Zb, ↓Zc, vup, cond_true, cond_false, aop, Zf, ev, sput, Ze, Nat.reduceBEq, Yr b2 We, hidx0]
  rw [storeX (x := 1) b1 Ya (by simp; omega)]
  refine hN _ _ ?_
  clear hN N
  obtain ⟨G, hG⟩ : ∃ G, G = H.set (n + 1) (.ints ((List.replicate N0 0).set 0 1) 3 false) := ⟨_, rfl⟩
  rw [← hG]
  rw [hN0, WS_one] at hG
  have hGl : G.length = n + 3 := by rw [hG]; simp [hHl]
  have g0 : G[n]? = some (.cells (ordC o) 97 false) := by rw [hG, List.getElem?_set_ne (by omega)]; exact b0
  have g1 : G[n + 1]? = some (.ints (WS o 1) 3 false) := by rw [hG]; exact Ys (by omega) _
  have g2 : G[n + 2]? = some (.cells [S] 27 false) := by rw [hG, List.getElem?_set_ne (by omega)]; exact b2
  have hEG : Ext (fun _ => False) h G := ⟨by omega, fun i hi _ => by rw [hG, List.getElem?_set_ne (by omega)]; exact hE0.2 i hi id⟩
  clear b0 b1 b2 hG hE0 hHl
  clear H
  -- the sets
  simp (maxSteps := 2000000) only [↓Za, ↓Zg, ↓Zx, ↓Zb, ↓Zc, vup, cond_true, cond_false, aop, Zf, ev, sput, Ze, Nat.reduceBEq, tyf, Wb, Xi]
  rw [storeI (v := .int .i64 0) (e := 3) (Yk _ _) Ya, hGl]
  obtain ⟨F, hF⟩ : ∃ F, F = (G ++ [Blk.cells [.int .i64 0] 3 false]).set (n + 3) (.cells [.int .i64 1] 3 false) := ⟨_, rfl⟩
  rw [← hF]
  have hFl : F.length = n + 4 := by rw [hF]; simp [hGl]
  have oldF : ∀ {k B}, G[k]? = some B → F[k]? = some B := fun {k B} hk => by
    have := Zt hk
    rw [hF, List.getElem?_set_ne (by omega)]; exact Xw hk _
  have f3 : F[n + 3]? = some (.cells [.int .i64 1] 3 false) := by rw [hF]; exact Ys (by simp [hGl]) _
  have hEF : Ext (fun _ => False) h F := ⟨by omega, fun i hi _ => by rw [hF, List.getElem?_set_ne (by omega), List.getElem?_append_left (by omega)]; exact hEG.2 i hi id⟩
  have f0 := oldF g0
  have f1 := oldF g1
  have f2 := oldF g2
  clear g0 g1 g2 oldF hEG hF hGl
  clear G
  simp only [↓Yw]
  refine Ye fun Q hQ => ?_
  refine Wo (γ := Nat × Nat × Zd) (fun s => 1 ≤ s.1 ∧ s.1 ≤ N0 ∧ n + 3 ≤ s.2.1 ∧ s.2.2[n]? = some (.cells (ordC o) 97 false) ∧ s.2.2[n + 1]? = some (.ints (WS o s.1) 3 false) ∧ s.2.2[n + 2]? = some (.cells [S] 27 false) ∧ s.2.2[s.2.1]? = some (.cells [Zh (s.1 : Nat)] 3 false) ∧ Ext (fun _ => False) h s.2.2)
    (fun s => ([(0, ordV o), (1, .pointer (some ⟨n, 0, none⟩)), (2, .int .i64 0), (3, .pointer (some ⟨n + 2, 0, none⟩)), (4, .pointer (some ⟨s.2.1, 0, none⟩))], s.2.2)) (fun s => N0 - s.1) (1, n + 3, F) ⟨Nat.le_refl _, by omega, Nat.le_refl _, f0, f1, f2, f3, hEF⟩ (by simp (maxSteps := 2000000) only [vup, cond_true, cond_false, Nat.reduceBEq]) rfl ?_
  rintro ⟨s, b, hp⟩ ⟨hs1, hsN, hb, e0, e1, e2, e3, hE⟩
  simp only at hs1 hsN hb e0 e1 e2 e3 hE
  refine Wp fun Q2 hQ2 => ?_
  have hbl := Zt e3
  have hlE := hE.1
  simp only [l56_1]
  simp (maxSteps := 2000000) only [↓Zg]
  refine Yy [(2, 1)] (by kernel_rfl) (by kernel_rfl) (by kernel_rfl) (by kernel_rfl) ?_
  simp (maxSteps := 2000000) only [↓Yg, ↓vdn, vup, List.map_cons, List.map_nil, cond_true, cond_false, aop, Zf, ev, sput, Ze, Yj, Yo, Nat.reduceBEq, Nat.reduceAdd, tyf, Yr e3 Ya, loadO e0 Xh hlen.2, Yq, List.nil_append, List.append_nil]
  refine ⟨_, _, all_call hlen.2, rfl, ?_⟩
  by_cases hlast : s = N0
  · have hle : ¬ (s : Int) ≤ ((2 ^ o.length - 1 : Nat) : Int) := by omega
    simp (maxSteps := 2000000) only [↓Xa, ↓vdn, vup, cond_true, cond_false, Zf, ev, Nat.reduceBEq, hle]
    refine hQ2 _ _ _ (hQ _ _ _ ?_)
    simp (maxSteps := 2000000) only [↓Zg, Zf, Zp, Zr]
    refine Yy [(2, 1)] (by kernel_rfl) (by kernel_rfl) (by kernel_rfl) (by kernel_rfl) ?_
    simp (maxSteps := 2000000) only [↓Zv, ↓Yg, ↓vdn, vup, List.map_cons, List.map_nil, cond_true, cond_false, aop, Zf, ev, sput, Ze, Nat.reduceBEq, Nat.reduceAdd, Zr, Wa, tup, Yr e2 We, loadO e0 Xh hlen.2, Yq, List.nil_append, List.append_nil]
    refine ⟨_, _, all_call hlen.2, rfl, ?_⟩
    have hk : 2 ^ o.length - 1 < N0 := by omega
    have hk2 : 2 ^ o.length - 1 < (WS o s).length := by rw [WS_len]; omega
    have hget : (WS o s).getD (2 ^ o.length - 1) 0 = ((cn o : Nat) : Int) := by rw [WS_get (by omega) (by omega), cn_len ho]
    simp (maxSteps := 2000000) only [vup, hidx hk, loadX e1 Ya hk2, hget]
    exact hE
  have hs : s < 64 := by omega
  have hle : (s : Int) ≤ ((2 ^ o.length - 1 : Nat) : Int) := by omega
  simp (maxSteps := 2000000) only [↓Za, ↓Zs, ↓Zg, ↓Zx, ↓Zb, ↓Zc, ↓vdn, vup, List.map_cons, List.map_nil, cond_true, cond_false, aop, Zf, ev, sput, Ze, Nat.reduceBEq, hle, Yr e3 Ya, Yq, List.nil_append, List.append_nil]
  refine elements_call.mono ?_
  rintro _ _ ⟨rfl, rfl⟩
  have hWl : (WS o s).length = N0 := by rw [WS_len, hN0]
  refine aw_range Ob.bitIter (bx := hp.length) (s := s) (et := 3) rfl (Yk _ _) (by omega) (fun pre hk => hk[n]? = some (.cells (ordC o) 97 false) ∧ hk[n + 1]? = some (.ints ((WS o s).set s ((ps o s pre : Nat) : Int)) 3 false) ∧ hk[n + 2]? = some (.cells [S] 27 false) ∧ hk[b]? = some (.cells [Zh (s : Nat)] 3 false) ∧ Ext (fun i => i = n + 1) hp hk ∧ Ext (fun _ => False) h hk) ?_ ?_ ?_
  · have old : ∀ {k B}, hp[k]? = some B → ((hp ++ [Blk.cells [Zh (s : Nat)] 3 false]).set hp.length .dead)[k]? = some B := fun {k B} hk => by
      have := Zt hk
      rw [List.getElem?_set_ne (by omega)]; exact Xw hk _
    refine ⟨old e0, ?_, old e2, old e3, ⟨by simp, fun j hj _ => ?_⟩, ⟨by simp; omega, fun j hj _ => ?_⟩⟩
    · rw [show ps o s [] = 0 from rfl, Int.natCast_zero, WS_zero (by omega)]; exact old e1
    · rw [List.getElem?_set_ne (by omega), List.getElem?_append_left hj]
    · rw [List.getElem?_set_ne (by omega), List.getElem?_append_left (by omega)]; exact hE.2 j hj id
  · rintro pre x hk hpre ⟨k0, k1, k2, k3, hEk, hEh⟩
    obtain ⟨hx64, hxb⟩ := Xn.1 (mem_pre hpre)
    have hx6 : x < o.length := by
      rcases Nat.lt_or_ge x o.length with h | h
      · exact h
      · rw [Nat.testBit_lt_two_pow (Nat.lt_of_lt_of_le (show s < 2 ^ o.length by omega) (Nat.pow_le_pow_right (by decide) h))] at hxb; cases hxb
    have hpl : pre.length ≤ 64 := by
      obtain ⟨t, ht⟩ := hpre
      have h1 := bits_len6 hs
      have h2 := congrArg List.length ht
      simp only [List.length_append, List.length_singleton] at h2
      omega
    have hps := ps_le (o := o) hs pre
    have hdl := dn_lt (o := o) (i := x)
    have hxn := ord_nat ho hx6
    have hand1 := bitsV_andNot (a := dn o x) (b := s) (by omega) (by omega)
    have hand2 : Xz .and .i64 (o.getD x 0) (s : Int) = ((bt o x &&& s : Nat) : Int) := by rw [hxn.1]; exact bitsV_and (by omega) (by omega)
    simp (maxSteps := 2000000) only [↓Za, ↓Zg, ↓Zx, ↓Zb, ↓Zc, vup, cond_true, cond_false, aop, Zf, ev, sput, Ze, Nat.reduceBEq, r56_0_a, r56_0_b]
    refine Yy [(2, 1)] (by kernel_rfl) (by kernel_rfl) (by kernel_rfl) (by kernel_rfl) ?_
    simp (maxSteps := 2000000) only [↓vdn, vup, List.map_cons, List.map_nil, cond_true, cond_false, aop, ev, sput, Ze, Yj, Yo, Nat.reduceBEq, Nat.reduceAdd, tyf, loadO k0 Xh hlen.2, Yq, List.nil_append, List.append_nil]
    refine ⟨_, _, below_call ho, rfl, ?_⟩
    by_cases hd1 : less (dn o x) s = 0
    · by_cases hd2 : bt o x &&& s = 0
      · have hok : okLast o s x = true := by simp [okLast, hd1, hd2]
        have hlt := less_bit_lt hxb
        have h2x : 2 ^ x ≤ 32 := Nat.pow_le_pow_right (n := 2) (j := 5) (by decide) (by omega)
        have hshl : shlV .i64 1 x = 2 ^ x := shl1 (by omega)
        have hand3 : Xz .andNot .i64 (s : Int) (2 ^ x) = ((less s (2 ^ x) : Nat) : Int) := by
          have := bitsV_andNot (a := s) (b := 2 ^ x) (by omega) (by omega)
          rw [pow_cast] at this; exact this
        have hi1 : s < N0 := by omega
        have hi2 : less s (2 ^ x) < N0 := by omega
        have hsl : s < ((WS o s).set s ((ps o s pre : Nat) : Int)).length := by rw [List.length_set]; omega
        have hsl2 : less s (2 ^ x) < ((WS o s).set s ((ps o s pre : Nat) : Int)).length := by rw [List.length_set]; omega
        have hg1 : ((WS o s).set s ((ps o s pre : Nat) : Int)).getD s 0 = ((ps o s pre : Nat) : Int) := by
          rw [List.getD, List.getElem?_set_self (by omega)]; rfl
        have hg2 : ((WS o s).set s ((ps o s pre : Nat) : Int)).getD (less s (2 ^ x)) 0 = ((W o (less s (2 ^ x)) : Nat) : Int) := by
          rw [List.getD, List.getElem?_set_ne (by omega)]; exact WS_get hlt (by omega)
        have hW := W_le (o := o) (s := less s (2 ^ x)) (by omega)
        have hsum : addV .i64 ((ps o s pre : Nat) : Int) ((W o (less s (2 ^ x)) : Nat) : Int) = ((ps o s (pre ++ [x]) : Nat) : Int) := by
          rw [ps_snoc, if_pos hok, addV_id (by omega) (by omega)]; omega
        have hone2 : (0 : Nat) < 1 := by decide
        simp (maxSteps := 2000000) only [↓Yg, ↓vdn, vup, cond_true, cond_false, aop, Zf, ev, sput, Ze, Yj, Yo, pickK, Nat.reduceBEq, Nat.reduceAdd, Int.reduceBEq, tyf, Yr k3 Ya, hand1, hd1, Int.natCast_zero, fldA fld_97_1 esz_95, idxA und_95 Xc (show x < 6 by omega), loadI k0 Ya hlen.2 (show x < 6 by omega), hand2, hd2]
        refine Yy [] (by kernel_rfl) (by kernel_rfl) (by kernel_rfl) (by kernel_rfl) ?_
        simp (maxSteps := 2000000) only [↓Yg, ↓vdn, vup, cond_true, cond_false, aop, Zp, ev, sput, Ze, Yj, Yo, Nat.reduceBEq, Nat.reduceAdd, tyf, Yr k2 We, Yr k3 Ya, hidx hi1, loadX k1 Ya hsl, hg1, hshl, hand3, hidx hi2, loadX k1 Ya hsl2, hg2, hsum, storeX k1 Ya hsl, List.set_set, rangeQ]
        have hlk := Zt k1
        refine ⟨?_, Ys hlk _, ?_, ?_, ?_, ?_⟩
        · rw [List.getElem?_set_ne (by omega)]; exact k0
        · rw [List.getElem?_set_ne (by omega)]; exact k2
        · rw [List.getElem?_set_ne (by omega)]; exact k3
        · exact hEk.trans (Ext.set _ rfl)
        · exact ⟨by simp; exact hEh.1, fun j hj _ => by rw [List.getElem?_set_ne (by omega)]; exact hEh.2 j hj id⟩
      · have hok : okLast o s x = false := by simp [okLast, hd2]
        have hne : (((bt o x &&& s : Nat) : Int) == 0) = false := by rw [eq0, decide_eq_false hd2]
        simp (maxSteps := 2000000) only [↓Zs, ↓Yg, ↓vdn, vup, cond_true, cond_false, aop, Zf, Zp, ev, sput, Ze, Yj, Yo, pickK, Nat.reduceBEq, Nat.reduceAdd, Int.reduceBEq, tyf, Yr k3 Ya, hand1, hd1, Int.natCast_zero, fldA fld_97_1 esz_95, idxA und_95 Xc (show x < 6 by omega), loadI k0 Ya hlen.2 (show x < 6 by omega), hand2, hne, rangeQ]
        refine ⟨k0, ?_, k2, k3, hEk, hEh⟩
        rw [ps_snoc, if_neg (by rw [hok]; decide)]; exact k1
    · have hok : okLast o s x = false := by simp [okLast, hd1]
      have hne : (((less (dn o x) s : Nat) : Int) == 0) = false := by rw [eq0, decide_eq_false hd1]
      simp (maxSteps := 2000000) only [↓Zs, ↓Yg, ↓vdn, vup, cond_true, cond_false, aop, Zf, Zp, ev, sput, Ze, pickK, Nat.reduceBEq, Yr k3 Ya, hand1, hne, rangeQ]
      refine ⟨k0, ?_, k2, k3, hEk, hEh⟩
      rw [ps_snoc, if_neg (by rw [hok]; decide)]; exact k1
  · rintro hk ⟨k0, k1, k2, k3, hEk, hEh⟩
    have hW : ps o s (Am.bits s) = W o s := by rw [W_step (by omega) (by omega)]; rfl
    rw [hW, WS_set] at k1
    have hlk := hEk.1
    simp (maxSteps := 2000000) only [↓Za, ↓Zg, ↓Zb, ↓Zc, vup, cond_true, cond_false, aop, Zf, Zp, ev, sput, Ze, Yj, Yo, Nat.reduceBEq, tyf, Yr k3 Ya, Wb, Xi]
    rw [storeI (v := .int .i64 0) (e := 3) (Yk _ _) Ya]
    have j3 : ((hk ++ [Blk.cells [Value.int .i64 0] 3 false]).set hk.length (Blk.cells [.int .i64 (s : Int)] 3 false))[hk.length]? = some (Blk.cells [.int .i64 (s : Int)] 3 false) := Ys (by simp) _
    simp (maxSteps := 2000000) only [vup, Yr j3 Ya, add1 (show s < 9223372036854775807 by omega), storeI j3 Ya, List.set_set]
    have old : ∀ {k B}, hk[k]? = some B → ((hk ++ [Blk.cells [Value.int .i64 0] 3 false]).set hk.length (Blk.cells [.int .i64 ((s + 1 : Nat) : Int)] 3 false))[k]? = some B := fun {k B} hk' => by
      have := Zt hk'
      rw [List.getElem?_set_ne (by omega)]; exact Xw hk' _
    refine hQ2 _ _ _ ⟨(s + 1, hk.length, _), ⟨by simp only; omega, by simp only; omega, by simp only; omega, old k0, old k1, old k2, Ys (by simp) _, ⟨by simp; omega, fun j hj _ => ?_⟩⟩, by simp only; omega, by simp (maxSteps := 2000000) only [vup, cond_true, cond_false, Nat.reduceBEq], rfl⟩
    have hEl := hEh.1
    rw [List.getElem?_set_ne (by omega), List.getElem?_append_left (by omega)]; exact hEh.2 j hj id
end Go.Proofs.Tryd.Am.Or

namespace Go.Proofs.Tryd.Am.Or
open Go.Proofs.Tryd.Am
open Go.Am Ord
set_option maxRecDepth 100000
set_option maxHeartbeats 1000000

theorem storeRd {h : Zd} {o : List Int} {K : Zd → Prop} : Xf prog (h ++ [Blk.cells (ordN 0) 97 false]) 97 (.pointer (some ⟨h.length, 0, none⟩)) (rdV o) K = K ((h ++ [Blk.cells (ordN 0) 97 false]).set h.length (.cells (rdC o) 97 false)) :=
  storeA (c := ordN 0) (Yk _ _) (by rw [Xh, rdC_len]) (rdC_one o) (by rw [rdC_len]; rfl)
theorem rdBox (h : Zd) (o : List Int) : Ext (fun _ => False) h ((h ++ [Blk.cells (ordN 0) 97 false]).set h.length (.cells (rdC o) 97 false)) ∧ ((h ++ [Blk.cells (ordN 0) 97 false]).set h.length (.cells (rdC o) 97 false))[h.length]? = some (.cells (rdC o) 97 false) :=
  ⟨⟨by simp, fun i hi _ => by rw [List.getElem?_set_ne (by omega), List.getElem?_append_left hi]⟩, Ys (by simp) _⟩

/-- What Count hands back. -/
def countV (o : List Int) : Value := if ord o = true then .tuple #[Zh (cn o : Nat), .int .i64 0] else .tuple #[.int .i64 0, .int .i64 2]
theorem count_call [BitTab prog 0] {h : Zd} {v : Value} {o : List Int} (hv : IntSl h v o) (hl : o.length < 9223372036854775808) (hx : ∀ x ∈ o, -9223372036854775808 ≤ x ∧ x < 9223372036854775808) : APure prog 18 [v] h (countV o) := by
  have hlow : Low (countV o) := by unfold countV; split <;> exact .pair (.int _ _) (.int _ _)
  refine ACall.forget hlow ?_
  refine s18_call (by simp) ?_
  simp only [s18]
  simp (maxSteps := 2000000) only [↓Za, ↓Zg, ↓Zb, ↓Zc, vup, List.map_cons, List.map_nil, cond_true, cond_false, aop, Zf, Zm, ev, sput, Ze, unK, Nat.reduceBEq, Yq, List.nil_append, List.append_nil]
  refine (read_call hv hl hx).mono ?_
  rintro _ g ⟨rfl, rfl⟩
  simp (maxSteps := 2000000) only [extr_20, extr_21, tyf, Wb, Xi, zeroN]
  rw [storeRd]
  obtain ⟨hE, hb⟩ := rdBox g o
  generalize hgl : g.length = gl at hE hb ⊢
  generalize (g ++ [Blk.cells (ordN 0) 97 false]).set gl (.cells (rdC o) 97 false) = G at hE hb ⊢
  cases ho : ord o with
  | false =>
    simp (maxSteps := 2000000) only [↓Za, ↓Zg, ↓Zv, ↓Zb, ↓Zc, ↓vdn, vup, cond_true, cond_false, aop, Zf, ev, sput, Ze, Nat.reduceBEq, Zr, Wa, tup]
    rw [countV, ho]
    exact ⟨rfl, hE⟩
  | true =>
    have hrd : rdC o = ordC o := if_pos (ord_len ho)
    rw [hrd] at hb
    simp (maxSteps := 2000000) only [↓Za, ↓Zs, ↓Zg, ↓Zv, ↓Zb, ↓Zc, ↓vdn, vup, List.map_cons, List.map_nil, cond_true, cond_false, aop, Zf, ev, sput, Ze, Nat.reduceBEq, Zr, Wa, tup, loadO hb Xh (ord_len ho).2, Yq, List.nil_append, List.append_nil]
    refine (counted_call ho).mono ?_
    rintro _ _ ⟨rfl, rfl⟩
    rw [countV, ho]
    exact ⟨rfl, hE⟩

theorem lit2 {h : Zd} {x y : Int} (K : Value → Zd → Prop) : Yn prog h 27 2 [(0, Zh x), (1, Zh y)] K = K (.slice (some ⟨h.length, 0, none⟩) 2 2) (h ++ [.ints [x, y] 3 false]) := by
  simp only [Yn, Wg, zero_3, Xc, reps, fillL, mkb, notTuple, cellsOf, List.length_singleton, Nat.mul_one, Nat.zero_add]
  exact propext ⟨fun h => h.2.2.2, fun h => ⟨trivial, Nat.zero_lt_one, by decide, h⟩⟩
theorem litSl {h : Zd} {xs : List Int} : IntSl (h ++ [.ints xs 3 false]) (.slice (some ⟨h.length, 0, none⟩) xs.length xs.length) xs :=
  .inr ⟨h.length, 0, none, xs.length, xs.map Zh, 3, false, rfl, Nat.le_refl _, by simp [view, Blk.view], fun i hi => by simp [List.getD, hi]⟩

theorem awake_call [BitTab prog 0] {h : Zd} : APure prog 17 [] h (.bool true) := by
  have hc : countV [0, 0] = .tuple #[Zh 2, .int .i64 0] := by
    have h1 : ord [0, 0] = true := by decide
    have h2 : cn [0, 0] = 2 := by decide
    rw [countV, h1, if_pos rfl, h2]; rfl
  refine ACall.forget (Low.bool _) ?_
  refine s17_call (by simp) ?_
  simp (maxSteps := 2000000) only [s17, ↓Za, ↓Zg, ↓Zv, ↓Zb, ↓Zc, ↓vdn, vup, List.map_cons, List.map_nil, cond_true, cond_false, aop, Zf, Zm, ev, sput, Ze, Yj, Yo, Nat.reduceBEq, Zr, Wa, tup, tyf, lit2, Yq, List.nil_append, List.append_nil]
  refine (count_call (o := [0, 0]) litSl (by decide) (by decide)).mono ?_
  rintro _ _ ⟨rfl, rfl⟩
  rw [hc]
  simp (maxSteps := 2000000) only [↓Zv, ↓Zb, ↓Zc, ↓vdn, vup, extr_20, extr_21, cond_true, cond_false, aop, Zf, ev, sput, Ze, Yj, Yo, Nat.reduceBEq, Int.reduceBEq, Zr, Wa, tup]
  exact Ext.app _ _ _

end Go.Proofs.Tryd.Am.Or
