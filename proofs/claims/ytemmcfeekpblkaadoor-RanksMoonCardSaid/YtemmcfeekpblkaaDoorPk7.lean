/-
  ranks, plain: what the search for a round finds; tournaments of one part; turned tournaments.
  Printed by gen.py: the code of some functions, without what no step looks at; held against the program's own by the kernel.
  ranks: the law RanksMoon: its loops.
  ranks: the law RanksMoon: the round is looked at.
  ranks: who is reached from a player, as the program finds it.
  ranks: the library's sort of a short slice by a function: insertion; the stable sort.
  ranks: the library's sort of a short slice by a function, not stable.
  ranks: the parts, as the program finds them: a map from reaches to players, the reaches sorted.
  ranks: the parts, as the program finds them: the walk over the map; the whole.
-/
import Derived.Test.YtemmcfeekpblkaaDoorPk5
import Derived.Test.YtemmcfeekpblkaaDoorPk6
import Derived.Test.YtemmcfeekpblkaaDoorPk3
import Derived.Test.YtemmcfeekpblkaaDoorProg
import Derived.KernelRfl
import Derived.Shelf.Abstract
set_option linter.all false
namespace Go.Proofs.Tryd.Am
open Go.Am Rb Rch
set_option maxRecDepth 100000
set_option maxHeartbeats 1000000

/-- A path. -/
structure Pt (xs : List Int) (b : List Nat) : Prop where
  nd : b.Nodup
  lt : ∀ x ∈ b, x < xs.length
  ch : ∀ i, i + 1 < b.length → bb xs (b.getD i 0) (b.getD (i + 1) 0) = true
theorem iL_sn (b : List Nat) (i : Nat) : iL b ++ [(i : Int)] = iL (b ++ [i]) := by simp [iL]
theorem getD_app1 {b : List Nat} {i j : Nat} (h : j < b.length) : (b ++ [i]).getD j 0 = b.getD j 0 := by
  rw [List.getD, List.getD, List.getElem?_append_left h]
theorem getD_app2 (b : List Nat) (i : Nat) : (b ++ [i]).getD b.length 0 = i := by
  rw [List.getD, List.getElem?_append_right (Nat.le_refl _)]; simp
section
variable {xs : List Int} {k : Nat}
/-- What stands in the way of the next one. -/
def bar (xs : List Int) (b : List Nat) (i : Nat) : Prop := (Clr.setL b).testBit i = true ∨ (iL b ≠ [] ∧ bitI (xs.getD ((iL b).getD ((iL b).length - 1) 0).toNat 0) i = false)
theorem bar_last {b : List Nat} (hb : b ≠ []) : ((iL b).getD ((iL b).length - 1) 0).toNat = b.getD (b.length - 1) 0 := by rw [iL_len, iL_get, Int.toNat_natCast]
theorem Pt.snoc {b : List Nat} {i : Nat} (h : Pt xs b) (hi : i < xs.length) (hb : ¬ bar xs b i) : Pt xs (b ++ [i]) where
  nd := List.nodup_append.2 ⟨h.nd, by simp, fun x hx y hy e => hb (.inl ((Clr.setL_bit _ _).2 (by rw [← List.mem_singleton.1 hy, ← e]; exact hx)))⟩
  lt x hx := by
    rcases List.mem_append.1 hx with hx | hx
    · exact h.lt x hx
    · rw [List.mem_singleton.1 hx]; exact hi
  ch j hj := by
    rw [List.length_append, List.length_singleton] at hj
    by_cases hjl : j + 1 < b.length
    · rw [getD_app1 (by omega), getD_app1 hjl]; exact h.ch j hjl
    · have e : j + 1 = b.length := by omega
      rw [getD_app1 (by omega), e, getD_app2]
      have hne : b ≠ [] := fun e2 => by rw [e2] at e; simp at e
      cases hc : bb xs (b.getD j 0) i with
      | true => rfl
      | false =>
        refine absurd (.inr ⟨fun e2 => hne (by simpa [iL] using e2), ?_⟩) hb
        rw [bar_last hne, show b.length - 1 = j by omega]; exact hc
theorem wayR_ok : ∀ (m : Nat) (b : List Nat) (l : List Int), Pt xs b → wayR xs k true m (iL b) (Clr.setL b) = some l → ∃ b' r, l = iL b' ∧ Pt xs b' ∧ b'.length = k ∧ closes xs k (iL b') = true ∧ b' = b ++ r
  | 0, _, _, _, h => by cases h
  | m + 1, b, l, hp, h => by
    simp only [wayR] at h
    split at h
    · rename_i hl
      split at h
      · cases h
      · rename_i hc
        cases h
        refine ⟨b, [], rfl, hp, by rw [← hl, iL_len], ?_, by simp⟩
        cases hcc : closes xs k (iL b) with
        | true => rfl
        | false => rw [hcc] at hc; simp at hc
    · obtain ⟨i, hi, hw⟩ := firstOf_mem h
      split at hw
      · cases hw
      · rename_i hb
        rw [iL_sn, ← setL_snoc] at hw
        obtain ⟨b', r, h1, h2, h3, h4, h5⟩ := wayR_ok m (b ++ [i]) l (hp.snoc (List.mem_range.1 hi) hb) hw
        exact ⟨b', i :: r, h1, h2, h3, h4, by rw [h5]; simp⟩
theorem firstOf_some {α β : Type} {f : α → Option β} : ∀ {l : List α} {x : α}, x ∈ l → f x ≠ none → firstOf f l ≠ none
  | y :: l, x, hx, hf => by
    rw [firstOf]
    cases hy : f y with
    | some z => simp
    | none =>
      rcases List.mem_cons.1 hx with rfl | hx
      · exact absurd hy hf
      · exact firstOf_some hx hf
theorem not_bar {b r : List Nat} {i : Nat} (hp : Pt xs (b ++ i :: r)) : ¬ bar xs b i := by
  rintro (h | ⟨h1, h2⟩)
  · have := (Clr.setL_bit _ _).1 h
    exact (List.nodup_append.1 hp.nd).2.2 i this i (by simp) rfl
  · have hne : b ≠ [] := fun e => h1 (by rw [e]; rfl)
    rw [bar_last hne] at h2
    have hpos := List.length_pos_iff.2 hne
    have := hp.ch (b.length - 1) (by simp; omega)
    rw [List.getD, List.getElem?_append_left (by omega), List.getD, show b.length - 1 + 1 = b.length by omega, List.getElem?_append_right (Nat.le_refl _), Nat.sub_self] at this
    have h2' : bb xs (b.getD (b.length - 1) 0) i = false := h2
    rw [List.getD] at h2'
    rw [List.getElem?_cons_zero, Option.getD_some] at this
    rw [this] at h2'; cases h2'
theorem wayR_some {l : List Nat} (hl : Pt xs l) (hk : l.length = k) (hc : closes xs k (iL l) = true) : ∀ (m : Nat) (b r : List Nat), l = b ++ r → k - b.length < m → wayR xs k true m (iL b) (Clr.setL b) ≠ none
  | 0, b, r, _, h => by omega
  | m + 1, b, r, e, h => by
    simp only [wayR]
    by_cases hb : (iL b).length = k
    · rw [if_pos hb]
      have : r = [] := by
        rw [iL_len] at hb
        have := congrArg List.length e
        rw [List.length_append] at this
        exact List.length_eq_zero_iff.1 (by omega)
      rw [this, List.append_nil] at e
      rw [← e, hc, if_neg (by simp)]; simp
    · rw [if_neg hb]
      rw [iL_len] at hb
      cases r with
      | nil => rw [List.append_nil] at e; rw [e] at hk; exact absurd hk hb
      | cons i r =>
        have hi : i < xs.length := hl.lt i (by rw [e]; simp)
        refine firstOf_some (List.mem_range.2 hi) ?_
        rw [e] at hl
        have hnb := not_bar hl
        rw [bar] at hnb
        have hlen := congrArg List.length e
        rw [List.length_append, List.length_cons] at hlen
        rw [if_neg hnb, iL_sn, ← setL_snoc]
        exact wayR_some (e ▸ hl) hk hc m (b ++ [i]) r (by rw [e]; simp) (by rw [List.length_append, List.length_singleton]; omega)
/-- A round that begins with 0 is found as one. -/
theorem wayR_zero {l : List Nat} (hl : Pt xs (0 :: l)) (hk : l.length + 1 = k) (hc : closes xs k (iL (0 :: l)) = true) :
    ∃ b' r, wayR xs k true (k + 1) [] 0 = some (iL b') ∧ Pt xs b' ∧ b'.length = k ∧ closes xs k (iL b') = true ∧ b' = 0 :: r := by
  have h1 := wayR_some hl (by simpa using hk) hc k [0] l rfl (by simp; omega)
  have hn : 0 < xs.length := hl.lt 0 (by simp)
  obtain ⟨n, hn⟩ : ∃ n, xs.length = n + 1 := ⟨xs.length - 1, by omega⟩
  have e : wayR xs k true (k + 1) [] 0 = wayR xs k true k (iL [0]) (Clr.setL [0]) := by
    cases hw : wayR xs k true k (iL [0]) (Clr.setL [0]) with
    | none => exact absurd hw h1
    | some z =>
      rw [wayR, if_neg (show ¬ ([] : List Int).length = k by simp; omega), hn, List.range_succ_eq_map, firstOf]
      rw [if_neg (by rintro (h | ⟨h, _⟩); rw [Nat.zero_testBit] at h; cases h; exact h rfl)]
      have e2 : wayR xs k true k ([] ++ [((0 : Nat) : Int)]) (0 ||| 2 ^ 0) = some z := hw
      rw [e2]
  cases hw : wayR xs k true k (iL [0]) (Clr.setL [0]) with
  | none => exact absurd hw h1
  | some z =>
    obtain ⟨b', r, g1, g2, g3, g4, g5⟩ := wayR_ok k [0] z ⟨by simp, by simp [hn], fun i hi => by simp at hi⟩ hw
    exact ⟨b', r, by rw [e, hw, g1], g2, g3, g4, g5⟩
end
/-- A round as the walk has it. -/
theorem pth_ch {t : Nat → Nat → Bool} : ∀ (l : List Nat) (a z : Nat), Mn.Pth t a l z → (∀ i, i < l.length → t ((a :: l).getD i 0) ((a :: l).getD (i + 1) 0) = true) ∧ t ((a :: l).getD l.length 0) z = true
  | [], a, z, h => ⟨fun i hi => by simp at hi, h⟩
  | x :: l, a, z, h => by
    obtain ⟨h1, h2⟩ := pth_ch l x z h.2
    refine ⟨fun i hi => ?_, ?_⟩
    · cases i with
      | zero => exact h.1
      | succ i => exact h1 i (by simpa using hi)
    · exact h2
theorem closes_iff {xs : List Int} {k : Nat} (b : List Nat) : closes xs k (iL b) = bb xs (b.getD (k - 1) 0) (b.getD 0 0) := by
  rw [closes, iL_get, iL_get, Int.toNat_natCast, Int.toNat_natCast]; rfl
theorem rnd_of {xs : List Int} {l : List Nat} {v : Nat} (hd : (v :: l).Nodup) (hl : ∀ x ∈ v :: l, x < xs.length) (hp : Mn.Pth (bb xs) v l v) : Pt xs (v :: l) ∧ closes xs (l.length + 1) (iL (v :: l)) = true := by
  obtain ⟨h1, h2⟩ := pth_ch l v v hp
  refine ⟨⟨hd, hl, fun i hi => h1 i (by simpa using hi)⟩, ?_⟩
  rw [closes_iff]; exact h2
/-- All reach all. -/
def strong (xs : List Int) : Prop := ∀ i j, i < xs.length → j < xs.length → (rch xs i).testBit j = true
section
variable {xs : List Int} (ht : trn xs = true)
include ht
theorem tP_full (hs : strong xs) : tP xs (2 ^ xs.length - 1) = 2 ^ xs.length - 1 := by
  refine Nat.eq_of_testBit_eq fun x => ?_
  rw [Bool.eq_iff_iff, tP_bit ht, Nat.testBit_two_pow_sub_one, decide_eq_true_eq]
  refine ⟨fun h => h.1, fun hx => ⟨hx, ?_⟩⟩
  rw [tp, Nat.testBit_two_pow_sub_one, decide_eq_true hx, Bool.true_and, beq_iff_eq]
  refine Nat.eq_of_testBit_eq fun y => ?_
  rw [Nat.testBit_and, Nat.testBit_two_pow_sub_one]
  by_cases hy : y < xs.length
  · rw [hs x y hx hy]; rfl
  · rw [decide_eq_false hy, Bool.and_false]
theorem strong_one (hs : strong xs) : (prts xs).length ≤ 1 := by
  have h := cps_zero xs.length (rch xs) (xs.length - 1)
  obtain ⟨k, hk⟩ : ∃ k, xs.length = k + 1 := ⟨xs.length - 1, by have := trn_len ht; omega⟩
  have e : prts xs = cps xs.length (rch xs) (k + 1) (2 ^ xs.length - 1) := by rw [prts]; congr 1
  rw [e, cps]
  split
  · exact Nat.zero_le _
  · have := tP_full ht hs
    rw [tP] at this
    rw [this, Nat.xor_self, cps_zero]; exact Nat.le_refl _
theorem one_strong (h3 : 3 ≤ xs.length) (h : (prts xs).length ≤ 1) : strong xs := by
  obtain ⟨k, hk⟩ : ∃ k, xs.length = k + 2 := ⟨xs.length - 2, by omega⟩
  have hpos := Nat.two_pow_pos xs.length
  have h2 : 2 ^ 3 ≤ 2 ^ xs.length := Nat.pow_le_pow_right (by decide) h3
  have e : prts xs = cps xs.length (rch xs) (k + 1 + 1) (2 ^ xs.length - 1) := by rw [prts]; congr 1
  have hf : 2 ^ xs.length - 1 ≠ 0 := by omega
  rw [e, cps, if_neg hf, List.length_cons, cps] at h
  split at h
  · rename_i hz
    have hx : (tP xs (2 ^ xs.length - 1)) = 2 ^ xs.length - 1 := by
      rw [tP]
      have := congrArg (fun z => (2 ^ xs.length - 1) ^^^ z) hz
      simpa [← Nat.xor_assoc] using this
    intro i j hi hj
    have hb : (tP xs (2 ^ xs.length - 1)).testBit i = true := by rw [hx, Nat.testBit_two_pow_sub_one]; exact decide_eq_true hi
    have := ((tP_bit ht i).1 hb).2
    rw [tp, Bool.and_eq_true, beq_iff_eq] at this
    have := congrArg (fun z => z.testBit j) this.2
    simp only [Nat.testBit_and, Nat.testBit_two_pow_sub_one, decide_eq_true hj, Bool.and_true] at this
    exact this
  · rw [List.length_cons] at h; omega
theorem strong_trn (hs : strong xs) : Mn.Trn (bb xs) xs.length where
  ne i j hi hj hne := (trn_clr ht).1 i j hi hj hne
  st i j hi hj := by
    have h := (rch_iff ht hi j).1 (hs i j hi hj)
    have key : ∀ z, Rc (tN xs) i z → z < xs.length ∧ Mn.Rch (bb xs) xs.length i z := fun z hz => by
      induction hz with
      | refl => exact ⟨hi, .refl⟩
      | step _ hb ih =>
        rename_i a c _
        have hc := bit_in ht (tN_lt ht ih.1) hb
        exact ⟨hc, ih.2.step ih.1 hc hb⟩
    exact (key j h).2
/-- Of one part: rounds of all lengths from every player. -/
theorem moon_rnd (hs : strong xs) {v k : Nat} (hv : v < xs.length) (h3 : 3 ≤ k) (hk : k ≤ xs.length) : ∃ l, l.length + 1 = k ∧ (v :: l).Nodup ∧ (∀ x ∈ v :: l, x < xs.length) ∧ Mn.Pth (bb xs) v l v := by
  have hirr : ∀ i, i < xs.length → bb xs i i = false := fun i hi => ((trn_iff.1 ht).2 i hi).2.2.1
  obtain ⟨l, h1, h2, h3, h4⟩ := Mn.moon (strong_trn ht hs) (fun i => by
    by_cases hi : i < xs.length
    · exact hirr i hi
    · rw [bb, List.getD, List.getElem?_eq_none (by omega)]; exact Nat.zero_testBit i) hv (k - 3) (by omega)
  exact ⟨l, by omega, h2, h3, h4⟩
/-- A round of all: one part. -/
theorem rnd_strong {b : List Nat} (hb : Pt xs b) (hl : b.length = xs.length) (hc : closes xs xs.length (iL b) = true) : strong xs := by
  have hxl := trn_len ht
  rw [closes_iff] at hc
  have hlt : ∀ i, i < b.length → b.getD i 0 < xs.length := fun i hi => hb.lt _ (by rw [List.getD, List.getElem?_eq_getElem hi]; exact List.getElem_mem _)
  have up : ∀ d i, i + d < b.length → Rc (tN xs) (b.getD i 0) (b.getD (i + d) 0) := by
    intro d
    induction d with
    | zero => intro i _; exact .refl
    | succ d ih => intro i hi; exact (ih i (by omega)).step (hb.ch (i + d) hi)
  have hin : ∀ x, x < xs.length → ∃ i, i < b.length ∧ b.getD i 0 = x := fun x hx => by
    have : x ∈ b := Classical.byContradiction fun hno => by
      have := Clr.len_le (n := xs.length) (l := x :: b) (fun y hy => by
        rcases List.mem_cons.1 hy with rfl | hy
        · exact hx
        · exact hb.lt y hy) (List.nodup_cons.2 ⟨hno, hb.nd⟩)
      rw [List.length_cons] at this; omega
    obtain ⟨i, hi, e⟩ := List.mem_iff_getElem.1 this
    exact ⟨i, hi, by rw [List.getD, List.getElem?_eq_getElem hi]; exact e⟩
  intro i j hi hj
  obtain ⟨p, hp, rfl⟩ := hin i hi
  obtain ⟨q, hq, rfl⟩ := hin j hj
  rw [rch_iff ht hi]
  have e1 := up (b.length - 1 - p) p (by omega)
  rw [show p + (b.length - 1 - p) = xs.length - 1 by omega] at e1
  have e3 := up q 0 (by omega)
  rw [Nat.zero_add] at e3
  exact (e1.step hc).trans e3
end
/-- The tournament turned by s. -/
def rowT (xs : List Int) (s i m : Nat) : Nat := Clr.setL ((List.range m).filter fun j => bb xs ((i + s) % xs.length) ((j + s) % xs.length))
def turned (xs : List Int) (s : Nat) : List Int := (List.range xs.length).map fun i => ((rowT xs s i xs.length : Nat) : Int)
theorem turned_len (xs : List Int) (s : Nat) : (turned xs s).length = xs.length := by simp [turned]
theorem turned_bb {xs : List Int} {s i j : Nat} (hi : i < xs.length) (hj : j < xs.length) : bb (turned xs s) i j = bb xs ((i + s) % xs.length) ((j + s) % xs.length) := by
  have e : (turned xs s).getD i 0 = ((rowT xs s i xs.length : Nat) : Int) := by simp [turned, List.getD, hi]
  rw [bb, e, bitI, Int.toNat_natCast, Bool.eq_iff_iff, rowT, Clr.setL_bit, List.mem_filter, List.mem_range]
  exact ⟨fun h => h.2, fun h => ⟨hj, h⟩⟩
theorem mod_inj {n s i j : Nat} (hi : i < n) (hj : j < n) (h : (i + s) % n = (j + s) % n) : i = j := by
  have key : ∀ a b, a < n → b < n → a ≤ b → (a + s) % n = (b + s) % n → a = b := fun a b ha hb hab e => by
    have h1 : (b + s - (a + s)) % n = 0 := Nat.sub_mod_eq_zero_of_mod_eq e.symm
    rw [show b + s - (a + s) = b - a by omega, Nat.mod_eq_of_lt (by omega)] at h1
    omega
  rcases Nat.le_total i j with g | g
  · exact key i j hi hj g h
  · exact (key j i hj hi g h.symm).symm
theorem turned_trn {xs : List Int} (ht : trn xs = true) (s : Nat) : trn (turned xs s) = true := by
  have hl := trn_len ht
  obtain ⟨_, h2⟩ := trn_iff.1 ht
  refine trn_iff.2 ⟨by rw [turned_len]; exact hl, fun i hi => ?_⟩
  rw [turned_len] at hi ⊢
  have hmi := Nat.mod_lt (i + s) (show 0 < xs.length by omega)
  have e : (turned xs s).getD i 0 = ((rowT xs s i xs.length : Nat) : Int) := by simp [turned, List.getD, hi]
  have hlt : rowT xs s i xs.length < 2 ^ xs.length := Clr.setL_lt fun x hx => List.mem_range.1 (List.mem_filter.1 hx).1
  refine ⟨by rw [e]; exact Int.natCast_nonneg _, ?_, ?_, fun j hj => ?_⟩
  · rw [e]
    have : ((2 : Int) ^ xs.length) = ((2 ^ xs.length : Nat) : Int) := by simp
    rw [this]; exact Int.ofNat_lt.2 hlt
  · rw [turned_bb hi hi]; exact (h2 _ hmi).2.2.1
  · have hmj := Nat.mod_lt (j + s) (show 0 < xs.length by omega)
    rw [turned_bb hi (by omega), turned_bb (by omega) hi]
    have hne : (i + s) % xs.length ≠ (j + s) % xs.length := fun e => by have := mod_inj hi (by omega) e; omega
    have := (trn_clr ht).1 _ _ hmi hmj hne
    rw [this]; simp
/-- In the turned one a round begins with 0. -/
theorem turned_rnd {xs : List Int} (ht : trn xs = true) (hs : strong xs) {s k : Nat} (hsn : s < xs.length) (h3 : 3 ≤ k) (hk : k ≤ xs.length) : ∃ l, l.length + 1 = k ∧ Pt (turned xs s) (0 :: l) ∧ closes (turned xs s) k (iL (0 :: l)) = true := by
  obtain ⟨l, h1, h2, h3, h4⟩ := moon_rnd ht hs hsn h3 hk
  let g : Nat → Nat := fun x => (x + (xs.length - s)) % xs.length
  have hg : ∀ x, x < xs.length → g x < xs.length ∧ (g x + s) % xs.length = x := fun x hx => by
    have hlt := Nat.mod_lt (x + (xs.length - s)) (show 0 < xs.length by omega)
    refine ⟨hlt, ?_⟩
    show ((x + (xs.length - s)) % xs.length + s) % xs.length = x
    rw [Nat.mod_add_mod, show x + (xs.length - s) + s = x + xs.length by omega, Nat.add_mod_right, Nat.mod_eq_of_lt hx]
  have hgs : g s = 0 := by
    show (s + (xs.length - s)) % xs.length = 0
    rw [show s + (xs.length - s) = xs.length by omega, Nat.mod_self]
  have hbb : ∀ x y, x < xs.length → y < xs.length → bb xs x y = true → bb (turned xs s) (g x) (g y) = true := fun x y hx hy h => by
    rw [turned_bb (hg x hx).1 (hg y hy).1, (hg x hx).2, (hg y hy).2]; exact h
  have hpth : ∀ (l : List Nat) (a z : Nat), (∀ x ∈ l, x < xs.length) → a < xs.length → z < xs.length → Mn.Pth (bb xs) a l z → Mn.Pth (bb (turned xs s)) (g a) (l.map g) (g z) := by
    intro l
    induction l with
    | nil => intro a z _ ha hz h; exact hbb a z ha hz h
    | cons x l ih => intro a z hl ha hz h; exact ⟨hbb a x ha (hl x (by simp)) h.1, ih x z (fun y hy => hl y (by simp [hy])) (hl x (by simp)) hz h.2⟩
  have hp := hpth l s s (fun x hx => h3 x (by simp [hx])) hsn hsn h4
  rw [hgs] at hp
  have hnd : (0 :: l.map g).Nodup := by
    rw [← hgs, ← List.map_cons (f := g)]
    rw [List.nodup_iff_pairwise_ne, List.pairwise_map]
    refine (List.nodup_iff_pairwise_ne.1 h2).imp_of_mem fun {a b} ha hb hab e => hab ?_
    have := (hg a (h3 a ha)).2
    rw [e, (hg b (h3 b hb)).2] at this
    exact this.symm
  obtain ⟨r1, r2⟩ := rnd_of (xs := turned xs s) hnd (fun x hx => by
    rw [turned_len]
    rcases List.mem_cons.1 hx with rfl | hx
    · omega
    · obtain ⟨y, hy, rfl⟩ := List.mem_map.1 hx
      exact (hg y (h3 y (by simp [hy]))).1) hp
  rw [List.length_map, h1] at r2
  exact ⟨l.map g, by rw [List.length_map]; exact h1, r1, r2⟩
end Go.Proofs.Tryd.Am

namespace Go.Proofs.Tryd.Am
open Go.Am
set_option maxRecDepth 100000
/-! 13: planchet planchetlaw02.RanksMoon -/
@[reducible] def q13_0 : SCode := .region [⟨some 6, .assign (.const (.bool false)), none⟩]
@[reducible] def q13_1 : SCode := .region [⟨some 25, .move (.tmp 0), none⟩,
    ⟨some 26, .call { callee := .value (.func 19), args := #[.tmp 25], argTypes := #[22] }, none⟩,
    ⟨some 27, .call { callee := .value (.func 49), args := #[.tmp 26], argTypes := #[22] }, none⟩,
    ⟨some 24, .move (.tmp 27), none⟩,
    ⟨some 28, .extract (.tmp 24) 0, none⟩,
    ⟨some 29, .extract (.tmp 24) 1, none⟩,
    ⟨some 7, .assign (.tmp 28), none⟩,
    ⟨some 8, .assign (.tmp 29), none⟩]
@[reducible] def q13_2 : SCode := .region [⟨some 30, .move (.tmp 8), none⟩,
    ⟨some 31, .binOp .neq 23 (.tmp 30) (.const (.int .i64 0)) 23, none⟩,
    ⟨some 32, .move (.tmp 31), none⟩,
    ⟨some 33, .move (.tmp 0), some (32, false)⟩,
    ⟨some 34, .call { callee := .value (.func 20), args := #[.tmp 33], argTypes := #[22] }, some (32, false)⟩,
    ⟨some 35, .unOp .not 4 (.tmp 34), some (32, false)⟩,
    ⟨some 36, .pick (.tmp 32) (.const (.bool true)) (.tmp 35), none⟩]
@[reducible] def q13_3 : SCode := .region [⟨some 37, .move (.tmp 8), none⟩,
    ⟨some 38, .binOp .eql 23 (.tmp 37) (.const (.int .i64 2)) 23, none⟩,
    ⟨some 39, .move (.tmp 38), none⟩,
    ⟨some 40, .call { callee := .value (.func 21), args := #[], argTypes := #[] }, some (39, true)⟩,
    ⟨some 41, .pick (.tmp 39) (.tmp 40) (.const (.bool false)), none⟩,
    ⟨some 6, .assign (.tmp 41), none⟩]
@[reducible] def q13_4 : SCode := .region [⟨some 42, .move (.tmp 0), none⟩,
    ⟨some 43, .call { callee := .builtin .len, args := #[.tmp 42], argTypes := #[22] }, none⟩,
    ⟨some 9, .assign (.tmp 43), none⟩]
@[reducible] def q13_5 : SCode := .region [⟨some 44, .move (.tmp 9), none⟩,
    ⟨some 45, .binOp .lss 3 (.tmp 44) (.const (.int .i64 3)) 3, none⟩]
@[reducible] def q13_6 : SCode := .region [⟨some 46, .call { callee := .value (.func 21), args := #[], argTypes := #[] }, none⟩,
    ⟨some 6, .assign (.tmp 46), none⟩]
def q13_7 : SCode := .draw [⟨some 47, .move (.tmp 1), none⟩,
    ⟨some 48, .convert 3 53 (.tmp 47), none⟩,
    ⟨some 49, .move (.tmp 9), none⟩,
    ⟨some 50, .binOp .sub 3 (.tmp 49) (.const (.int .i64 2)) 3, none⟩,
    ⟨some 51, .convert 3 53 (.tmp 50), none⟩,
    ⟨some 52, .binOp .rem 53 (.tmp 48) (.tmp 51) 53, none⟩,
    ⟨some 53, .convert 53 3 (.tmp 52), none⟩,
    ⟨some 54, .binOp .add 3 (.const (.int .i64 3)) (.tmp 53) 3, none⟩,
    ⟨some 55, .move (.tmp 2), none⟩,
    ⟨some 56, .convert 3 53 (.tmp 55), none⟩,
    ⟨some 57, .move (.tmp 9), none⟩,
    ⟨some 58, .convert 3 53 (.tmp 57), none⟩,
    ⟨some 59, .binOp .rem 53 (.tmp 56) (.tmp 58) 53, none⟩,
    ⟨some 60, .convert 53 3 (.tmp 59), none⟩,
    ⟨some 1, .assign (.tmp 54), none⟩,
    ⟨some 2, .assign (.tmp 60), none⟩]
   [[], [0], [], [2], [3], [1, 4], [5], [6], [], [8], [], [10], [9, 11], [12], [7, 0, 1, 2, 3, 4, 5, 6, 7], [13, 14, 0, 1, 2, 3, 4, 5, 6, 7, 8, 9, 10, 11, 12, 13, 14]]
@[reducible] def q13_8 : SCode := .region [⟨some 62, .move (.tmp 0), none⟩,
    ⟨some 63, .call { callee := .value (.func 19), args := #[.tmp 62], argTypes := #[22] }, none⟩,
    ⟨some 64, .move (.tmp 1), none⟩,
    ⟨some 65, .call { callee := .value (.func 24), args := #[.tmp 63, .tmp 64], argTypes := #[22, 3] }, none⟩,
    ⟨some 61, .move (.tmp 65), none⟩,
    ⟨some 66, .extract (.tmp 61) 0, none⟩,
    ⟨some 67, .extract (.tmp 61) 1, none⟩,
    ⟨some 10, .assign (.tmp 66), none⟩,
    ⟨some 11, .assign (.tmp 67), none⟩]
@[reducible] def q13_9 : SCode := .region [⟨some 68, .move (.tmp 7), none⟩,
    ⟨some 69, .call { callee := .builtin .len, args := #[.tmp 68], argTypes := #[22] }, none⟩,
    ⟨some 70, .binOp .gtr 3 (.tmp 69) (.const (.int .i64 1)) 3, none⟩]
@[reducible] def q13_10 : SCode := .region [⟨some 72, .move (.tmp 0), none⟩,
    ⟨some 73, .call { callee := .value (.func 19), args := #[.tmp 72], argTypes := #[22] }, none⟩,
    ⟨some 74, .move (.tmp 9), none⟩,
    ⟨some 75, .call { callee := .value (.func 24), args := #[.tmp 73, .tmp 74], argTypes := #[22, 3] }, none⟩,
    ⟨some 71, .move (.tmp 75), none⟩,
    ⟨some 76, .extract (.tmp 71) 0, none⟩,
    ⟨some 77, .extract (.tmp 71) 1, none⟩,
    ⟨some 12, .assign (.tmp 76), none⟩,
    ⟨some 13, .assign (.tmp 77), none⟩]
@[reducible] def q13_11 : SCode := .region [⟨some 78, .move (.tmp 13), none⟩,
    ⟨some 79, .binOp .eql 23 (.tmp 78) (.const (.int .i64 4)) 23, none⟩,
    ⟨some 80, .move (.tmp 79), none⟩,
    ⟨some 81, .move (.tmp 11), some (80, true)⟩,
    ⟨some 82, .binOp .eql 23 (.tmp 81) (.const (.int .i64 0)) 23, some (80, true)⟩,
    ⟨some 83, .move (.tmp 82), some (80, true)⟩,
    ⟨some 84, .move (.tmp 11), some (83, false)⟩,
    ⟨some 85, .binOp .eql 23 (.tmp 84) (.const (.int .i64 4)) 23, some (83, false)⟩,
    ⟨some 86, .pick (.tmp 83) (.const (.bool true)) (.tmp 85), some (80, true)⟩,
    ⟨some 87, .pick (.tmp 80) (.tmp 86) (.const (.bool false)), none⟩,
    ⟨some 88, .move (.tmp 87), none⟩,
    ⟨some 89, .call { callee := .value (.func 21), args := #[], argTypes := #[] }, some (88, true)⟩,
    ⟨some 90, .pick (.tmp 88) (.tmp 89) (.const (.bool false)), none⟩,
    ⟨some 6, .assign (.tmp 90), none⟩]
@[reducible] def q13_12 : SCode := .region [⟨some 91, .move (.tmp 11), none⟩,
    ⟨some 92, .binOp .neq 23 (.tmp 91) (.const (.int .i64 0)) 23, none⟩,
    ⟨some 93, .move (.tmp 92), none⟩,
    ⟨some 94, .move (.tmp 10), some (93, false)⟩,
    ⟨some 95, .call { callee := .builtin .len, args := #[.tmp 94], argTypes := #[22] }, some (93, false)⟩,
    ⟨some 96, .move (.tmp 1), some (93, false)⟩,
    ⟨some 97, .binOp .neq 3 (.tmp 95) (.tmp 96) 3, some (93, false)⟩,
    ⟨some 98, .pick (.tmp 93) (.const (.bool true)) (.tmp 97), none⟩]
@[reducible] def q13_13 : SCode := .region [⟨some 6, .assign (.const (.bool false)), none⟩]
@[reducible] def q13_14 : SCode := .region [⟨some 14, .assign (.const (.int .i64 0)), none⟩]
@[reducible] def q13_15 : SCode := .region [⟨some 99, .move (.tmp 10), none⟩,
    ⟨some 100, .call { callee := .builtin .len, args := #[.tmp 99], argTypes := #[22] }, none⟩,
    ⟨some 101, .move (.const (.int .i64 0)), none⟩]
@[reducible] def q13_16 : SCode := .region [⟨some 102, .binOp .lss 3 (.tmp 101) (.tmp 100) 3, none⟩]
@[reducible] def q13_17 : SCode := .region [⟨some 103, .move (.tmp 101), none⟩,
    ⟨some 104, .indexAddr 22 (.tmp 99) (.tmp 101), none⟩,
    ⟨some 105, .load 3 (.tmp 104), none⟩,
    ⟨some 15, .assign (.tmp 103), none⟩,
    ⟨some 16, .assign (.tmp 105), none⟩]
@[reducible] def q13_18 : SCode := .region [⟨some 106, .move (.tmp 10), none⟩,
    ⟨some 107, .move (.tmp 15), none⟩,
    ⟨some 108, .binOp .add 3 (.tmp 107) (.const (.int .i64 1)) 3, none⟩,
    ⟨some 109, .move (.tmp 1), none⟩,
    ⟨some 110, .binOp .rem 3 (.tmp 108) (.tmp 109) 3, none⟩,
    ⟨some 111, .indexAddr 22 (.tmp 106) (.tmp 110), none⟩,
    ⟨some 112, .load 3 (.tmp 111), none⟩,
    ⟨some 17, .assign (.tmp 112), none⟩]
@[reducible] def q13_19 : SCode := .region [⟨some 113, .move (.tmp 16), none⟩,
    ⟨some 114, .binOp .lss 3 (.tmp 113) (.const (.int .i64 0)) 3, none⟩,
    ⟨some 115, .move (.tmp 114), none⟩,
    ⟨some 116, .move (.tmp 16), some (115, false)⟩,
    ⟨some 117, .move (.tmp 9), some (115, false)⟩,
    ⟨some 118, .binOp .geq 3 (.tmp 116) (.tmp 117) 3, some (115, false)⟩,
    ⟨some 119, .pick (.tmp 115) (.const (.bool true)) (.tmp 118), none⟩,
    ⟨some 120, .move (.tmp 119), none⟩,
    ⟨some 121, .move (.tmp 17), some (120, false)⟩,
    ⟨some 122, .binOp .lss 3 (.tmp 121) (.const (.int .i64 0)) 3, some (120, false)⟩,
    ⟨some 123, .pick (.tmp 120) (.const (.bool true)) (.tmp 122), none⟩,
    ⟨some 124, .move (.tmp 123), none⟩,
    ⟨some 125, .move (.tmp 17), some (124, false)⟩,
    ⟨some 126, .move (.tmp 9), some (124, false)⟩,
    ⟨some 127, .binOp .geq 3 (.tmp 125) (.tmp 126) 3, some (124, false)⟩,
    ⟨some 128, .pick (.tmp 124) (.const (.bool true)) (.tmp 127), none⟩,
    ⟨some 129, .move (.tmp 128), none⟩,
    ⟨some 130, .move (.tmp 0), some (129, false)⟩,
    ⟨some 131, .move (.tmp 16), some (129, false)⟩,
    ⟨some 132, .indexAddr 22 (.tmp 130) (.tmp 131), some (129, false)⟩,
    ⟨some 133, .load 3 (.tmp 132), some (129, false)⟩,
    ⟨some 134, .move (.tmp 17), some (129, false)⟩,
    ⟨some 135, .binOp .shr 3 (.tmp 133) (.tmp 134) 3, some (129, false)⟩,
    ⟨some 136, .binOp .and 3 (.tmp 135) (.const (.int .i64 1)) 3, some (129, false)⟩,
    ⟨some 137, .binOp .eql 3 (.tmp 136) (.const (.int .i64 0)) 3, some (129, false)⟩,
    ⟨some 138, .pick (.tmp 129) (.const (.bool true)) (.tmp 137), none⟩,
    ⟨some 139, .move (.tmp 138), none⟩,
    ⟨some 140, .move (.tmp 14), some (139, false)⟩,
    ⟨some 141, .move (.tmp 16), some (139, false)⟩,
    ⟨some 142, .binOp .shr 3 (.tmp 140) (.tmp 141) 3, some (139, false)⟩,
    ⟨some 143, .binOp .and 3 (.tmp 142) (.const (.int .i64 1)) 3, some (139, false)⟩,
    ⟨some 144, .binOp .eql 3 (.tmp 143) (.const (.int .i64 1)) 3, some (139, false)⟩,
    ⟨some 145, .pick (.tmp 139) (.const (.bool true)) (.tmp 144), none⟩]
@[reducible] def q13_20 : SCode := .region [⟨some 6, .assign (.const (.bool false)), none⟩]
@[reducible] def q13_21 : SCode := .region [⟨some 146, .move (.tmp 14), none⟩,
    ⟨some 147, .move (.tmp 16), none⟩,
    ⟨some 148, .binOp .shl 3 (.const (.int .i64 1)) (.tmp 147) 3, none⟩,
    ⟨some 149, .binOp .or 3 (.tmp 146) (.tmp 148) 3, none⟩,
    ⟨some 14, .assign (.tmp 149), none⟩]
@[reducible] def q13_22 : SCode := .region [⟨some 150, .binOp .add 3 (.tmp 101) (.const (.int .i64 1)) 3, none⟩,
    ⟨some 101, .move (.tmp 150), none⟩]
def l13_0 : SCode := (.seq q13_16 (.seq (.cond (.tmp 102) .skip (.exit 0)) (.seq (.block 1 (.seq q13_17 (.seq q13_18 (.seq (.seq q13_19 (.cond (.tmp 145) (.seq q13_20 .ret) .skip)) q13_21)))) q13_22)))
@[reducible] def q13_23 : SCode := .region [⟨some 18, .assign (.const (.slice none 0 0)), none⟩]
@[reducible] def q13_24 : SCode := .region [⟨some 151, .move (.tmp 9), none⟩,
    ⟨some 152, .move (.const (.int .i64 0)), none⟩]
@[reducible] def q13_25 : SCode := .region [⟨some 153, .binOp .lss 3 (.tmp 152) (.tmp 151) 3, none⟩]
@[reducible] def q13_26 : SCode := .region [⟨some 154, .move (.tmp 152), none⟩,
    ⟨some 19, .assign (.tmp 154), none⟩]
@[reducible] def q13_27 : SCode := .region [⟨some 20, .assign (.const (.int .i64 0)), none⟩]
@[reducible] def q13_28 : SCode := .region [⟨some 155, .move (.tmp 9), none⟩,
    ⟨some 156, .move (.const (.int .i64 0)), none⟩]
@[reducible] def q13_29 : SCode := .region [⟨some 157, .binOp .lss 3 (.tmp 156) (.tmp 155) 3, none⟩]
@[reducible] def q13_30 : SCode := .region [⟨some 158, .move (.tmp 156), none⟩,
    ⟨some 21, .assign (.tmp 158), none⟩]
def q13_31 : SCode := .draw [⟨some 159, .move (.tmp 20), none⟩,
    ⟨some 160, .move (.tmp 0), none⟩,
    ⟨some 161, .move (.tmp 19), none⟩,
    ⟨some 162, .move (.tmp 2), none⟩,
    ⟨some 163, .binOp .add 3 (.tmp 161) (.tmp 162) 3, none⟩,
    ⟨some 164, .move (.tmp 9), none⟩,
    ⟨some 165, .binOp .rem 3 (.tmp 163) (.tmp 164) 3, none⟩,
    ⟨some 166, .indexAddr 22 (.tmp 160) (.tmp 165), none⟩,
    ⟨some 167, .load 3 (.tmp 166), none⟩,
    ⟨some 168, .move (.tmp 21), none⟩,
    ⟨some 169, .move (.tmp 2), none⟩,
    ⟨some 170, .binOp .add 3 (.tmp 168) (.tmp 169) 3, none⟩,
    ⟨some 171, .move (.tmp 9), none⟩,
    ⟨some 172, .binOp .rem 3 (.tmp 170) (.tmp 171) 3, none⟩,
    ⟨some 173, .binOp .shr 3 (.tmp 167) (.tmp 172) 3, none⟩,
    ⟨some 174, .binOp .and 3 (.tmp 173) (.const (.int .i64 1)) 3, none⟩,
    ⟨some 175, .move (.tmp 21), none⟩,
    ⟨some 176, .binOp .shl 3 (.tmp 174) (.tmp 175) 3, none⟩,
    ⟨some 177, .binOp .or 3 (.tmp 159) (.tmp 176) 3, none⟩,
    ⟨some 20, .assign (.tmp 177), none⟩]
   [[], [], [], [], [2, 3], [], [4, 5], [1, 6], [7], [], [], [9, 10], [], [11, 12], [8, 13], [14], [], [15, 16], [0, 17], [18, 0, 1, 2, 3, 4, 5, 6, 7, 8, 9, 10, 11, 12, 13, 14, 15, 16, 17, 18]]
@[reducible] def q13_32 : SCode := .region [⟨some 178, .binOp .add 3 (.tmp 156) (.const (.int .i64 1)) 3, none⟩,
    ⟨some 156, .move (.tmp 178), none⟩]
def l13_1 : SCode := (.seq q13_29 (.seq (.cond (.tmp 157) .skip (.exit 4)) (.seq (.block 5 (.seq q13_30 q13_31)) q13_32)))
@[reducible] def q13_33 : SCode := .region [⟨some 179, .move (.tmp 18), none⟩,
    ⟨some 180, .move (.tmp 20), none⟩,
    ⟨some 181, .buildSlice 22 1 #[(0, .tmp 180)], none⟩,
    ⟨some 182, .call { callee := .builtin .append, args := #[.tmp 179, .tmp 181], argTypes := #[22, 22] }, none⟩,
    ⟨some 18, .assign (.tmp 182), none⟩]
@[reducible] def q13_34 : SCode := .region [⟨some 183, .binOp .add 3 (.tmp 152) (.const (.int .i64 1)) 3, none⟩,
    ⟨some 152, .move (.tmp 183), none⟩]
def l13_2 : SCode := (.seq q13_25 (.seq (.cond (.tmp 153) .skip (.exit 2)) (.seq (.block 3 (.seq q13_26 (.seq q13_27 (.seq (.seq q13_28 (.block 4 (.loop l13_1))) q13_33)))) q13_34)))
@[reducible] def q13_35 : SCode := .region [⟨some 185, .move (.tmp 18), none⟩,
    ⟨some 186, .move (.tmp 1), none⟩,
    ⟨some 187, .call { callee := .value (.func 24), args := #[.tmp 185, .tmp 186], argTypes := #[22, 3] }, none⟩,
    ⟨some 184, .move (.tmp 187), none⟩,
    ⟨some 188, .extract (.tmp 184) 0, none⟩,
    ⟨some 189, .extract (.tmp 184) 1, none⟩,
    ⟨some 22, .assign (.tmp 188), none⟩,
    ⟨some 23, .assign (.tmp 189), none⟩]
@[reducible] def q13_36 : SCode := .region [⟨some 190, .move (.tmp 23), none⟩,
    ⟨some 191, .binOp .eql 23 (.tmp 190) (.const (.int .i64 0)) 23, none⟩,
    ⟨some 192, .move (.tmp 191), none⟩,
    ⟨some 193, .move (.tmp 22), some (192, true)⟩,
    ⟨some 194, .call { callee := .builtin .len, args := #[.tmp 193], argTypes := #[22] }, some (192, true)⟩,
    ⟨some 195, .move (.tmp 1), some (192, true)⟩,
    ⟨some 196, .binOp .eql 3 (.tmp 194) (.tmp 195) 3, some (192, true)⟩,
    ⟨some 197, .pick (.tmp 192) (.tmp 196) (.const (.bool false)), none⟩,
    ⟨some 198, .move (.tmp 197), none⟩,
    ⟨some 199, .move (.tmp 22), some (198, true)⟩,
    ⟨some 200, .indexAddr 22 (.tmp 199) (.const (.int .i64 0)), some (198, true)⟩,
    ⟨some 201, .load 3 (.tmp 200), some (198, true)⟩,
    ⟨some 202, .binOp .eql 3 (.tmp 201) (.const (.int .i64 0)) 3, some (198, true)⟩,
    ⟨some 203, .pick (.tmp 198) (.tmp 202) (.const (.bool false)), none⟩,
    ⟨some 204, .move (.tmp 203), none⟩,
    ⟨some 205, .call { callee := .value (.func 21), args := #[], argTypes := #[] }, some (204, true)⟩,
    ⟨some 206, .pick (.tmp 204) (.tmp 205) (.const (.bool false)), none⟩,
    ⟨some 6, .assign (.tmp 206), none⟩]
def s13 : SCode := (.seq q13_0 (.seq q13_1 (.seq (.seq q13_2 (.cond (.tmp 36) (.seq q13_3 .ret) .skip)) (.seq q13_4 (.seq (.seq q13_5 (.cond (.tmp 45) (.seq q13_6 .ret) .skip)) (.seq q13_7 (.seq q13_8 (.seq (.seq q13_9 (.cond (.tmp 70) (.seq q13_10 (.seq q13_11 .ret)) .skip)) (.seq (.seq q13_12 (.cond (.tmp 98) (.seq q13_13 .ret) .skip)) (.seq q13_14 (.seq (.seq q13_15 (.block 0 (.loop l13_0))) (.seq q13_23 (.seq (.seq q13_24 (.block 2 (.loop l13_2))) (.seq q13_35 (.seq q13_36 .ret)))))))))))))))
theorem s13_strip : stripC (bodyOf Tryd.f13) = s13 := by kernel_rfl
theorem s13_ok : codeOK 207 (bodyOf Tryd.f13) = true := by kernel_rfl
end Go.Proofs.Tryd.Am

namespace Go.Proofs.Tryd.Am
open Go.Am Rb Rch
set_option maxRecDepth 100000
set_option maxHeartbeats 1000000

theorem tmodN (x y : Nat) : ((x : Nat) : Int).tmod ((y : Nat) : Int) = ((x % y : Nat) : Int) := by
  rw [Int.tmod_eq_emod_of_nonneg (by omega)]; rfl
theorem addNN {x y : Nat} (h : x + y < 9223372036854775808) : addV .i64 ((x : Nat) : Int) ((y : Nat) : Int) = ((x + y : Nat) : Int) := by rw [addV_id (by omega) (by omega)]; omega
theorem remU8 (i : Int) {n : Nat} (h1 : 1 ≤ n) (h2 : n ≤ 8) : ∃ k : Nat, k < n ∧ IntKind.i64.wrap ((IntKind.u64.wrap i).tmod (IntKind.u64.wrap (n : Int))) = (k : Int) := by
  have hn : IntKind.u64.wrap (n : Int) = (n : Int) := by simp [IntKind.wrap, IntKind.signed, IntKind.bits]; omega
  have hi : 0 ≤ IntKind.u64.wrap i := by simp [IntKind.wrap, IntKind.signed, IntKind.bits]; omega
  obtain ⟨x, hx⟩ : ∃ x : Nat, IntKind.u64.wrap i = (x : Int) := ⟨(IntKind.u64.wrap i).toNat, by omega⟩
  rw [hn, hx, tmodN]
  have := Nat.mod_lt x (show n > 0 by omega)
  exact ⟨x % n, this, wrap_id (by omega) (by omega)⟩
theorem shl0 (j : Nat) : shlV .i64 0 (j : Int) = 0 := by
  rw [shlV, Int.zero_mul]; exact wrap_id (by omega) (by omega)
theorem bitAt {xs : List Int} (ht : trn xs = true) {x y : Nat} (hx : x < xs.length) : bitsV .and .i64 (shrV .i64 (xs.getD x 0) (y : Int)) 1 = if bb xs x y = true then 1 else 0 := by
  have hxl := trn_len ht
  have h256 := pow8N hxl.2
  obtain ⟨hX, hXl⟩ := trn_nat ht hx
  have := testV (a := (xs.getD x 0).toNat) (y := y) (by omega)
  rw [← hX] at this
  exact this

theorem row_loop [Tabs prog] {H : Heap} {v w : Value} {xs : List Int} {k s i : Nat} (hv : IntSl H v xs) (ht : trn xs = true) (hs8 : s ≤ 8) (hi : i ≤ 8) {N : Env → Heap → Prop} {Q0 : Exit → Env → Heap → Prop}
    (hN : ∀ e, ELe e [(0, v), (1, vint k), (2, vint s), (6, .bool false), (9, vint xs.length), (18, w), (20, vint (rowT xs s i xs.length : Nat)), (151, vint xs.length), (152, vint i)] → N e H) :
    AWS prog 207 (.seq q13_28 (.block 4 (.loop l13_1))) (aThen N Q0) [(0, v), (1, vint k), (2, vint s), (6, .bool false), (9, vint xs.length), (18, w), (19, vint i), (20, .int .i64 0), (151, vint xs.length), (152, vint i)] H := by
  have hxl := trn_len ht
  have h256 := pow8N hxl.2
  have hnn : ∀ i : Nat, (0 : Int) ≤ (i : Int) := Int.natCast_nonneg
  have hn0 : ¬ ((xs.length : Nat) : Int) = 0 := by omega
  refine aw_aws ?_
  simp (maxSteps := 2000000) only [s13, ↓aw_region, ↓aw_skip, ↓aw_seq, ↓aw_block, ↓aw_exit, ↓aw_ret, ↓sops_nil, ↓sops_go, ↓dops_nil, ↓dopsX_nil, ↓dopsR_nil, ↓vdn, vup, extr_20, extr_21, extr_30, extr_31, extr_32, List.map_cons, List.map_nil, cond_true, cond_false, aop, aThen, aBlock, argEnv, ev, sput, sputO, binK, binI, unK, builtinK, pickK, Nat.reduceBEq, Nat.reduceAdd, Int.reduceBEq, Int.reduceBNe, Int.reduceLT, aPost, resK, tup, tyf, ↓aw_loop_eq]
  refine aws_hide fun Q3 hQ3 => ?_
  refine aw_loop (γ := Nat) (fun j => j ≤ xs.length)
    (fun j => ([(0, v), (1, vint k), (2, vint s), (6, .bool false), (9, vint xs.length), (18, w), (19, vint i), (20, vint (rowT xs s i j : Nat)), (151, vint xs.length), (152, vint i), (155, vint xs.length), (156, vint j)], H)) (fun j => xs.length - j) 0 (Nat.zero_le _) (by simp (maxSteps := 2000000) only [↓aw_region, ↓aw_skip, ↓aw_seq, ↓aw_block, ↓aw_exit, ↓aw_ret, ↓sops_nil, ↓sops_go, ↓dops_nil, ↓dopsX_nil, ↓dopsR_nil, ↓vdn, vup, extr_20, extr_21, extr_30, extr_31, extr_32, List.map_cons, List.map_nil, cond_true, cond_false, aop, aThen, aBlock, argEnv, ev, sput, sputO, binK, binI, unK, builtinK, pickK, Nat.reduceBEq, Nat.reduceAdd, Int.reduceBEq, Int.reduceBNe, Int.reduceLT, aPost, resK, tup, tyf, Int.natCast_zero, rowT, List.range_zero, List.filter_nil, Clr.setL, List.foldl_nil]) rfl ?_
  intro j hj
  refine aw_hide fun Q4 hQ4 => ?_
  by_cases hjn : (j : Int) < xs.length
  · have hj' : j < xs.length := by omega
    have hp : (i + s) % xs.length < xs.length := Nat.mod_lt _ (by omega)
    have hs1 : rowT xs s i (j + 1) = if bb xs ((i + s) % xs.length) ((j + s) % xs.length) = true then rowT xs s i j ||| 2 ^ j else rowT xs s i j := by
      rw [rowT, rowT, List.range_succ, List.filter_append]
      by_cases h : bb xs ((i + s) % xs.length) ((j + s) % xs.length) = true
      · rw [if_pos h]
        have : List.filter (fun j => bb xs ((i + s) % xs.length) ((j + s) % xs.length)) [j] = [j] := by simp [h]
        rw [this, setL_snoc]
      · rw [if_neg h]
        have : List.filter (fun j => bb xs ((i + s) % xs.length) ((j + s) % xs.length)) [j] = [] := by simp [h]
        rw [this, List.append_nil]
    have hlt : rowT xs s i j < 2 ^ xs.length := Clr.setL_lt fun x hx => by have := List.mem_range.1 (List.mem_filter.1 hx).1; omega
    have a1 : addV .i64 ((i : Nat) : Int) ((s : Nat) : Int) = ((i + s : Nat) : Int) := addNN (by omega)
    have a2 : addV .i64 ((j : Nat) : Int) ((s : Nat) : Int) = ((j + s : Nat) : Int) := addNN (by omega)
    have m1 := tmodN (i + s) xs.length
    have m2 := tmodN (j + s) xs.length
    have hbit := bitAt ht (y := (j + s) % xs.length) hp
    have h2j : 2 ^ j < 2 ^ xs.length := Nat.pow_lt_pow_right (by decide) hj'
    generalize rowT xs s i j = r at hs1 hlt ⊢
    have hor : bitsV .or .i64 (r : Int) ((2 ^ j : Nat) : Int) = ((r ||| 2 ^ j : Nat) : Int) := bitsV_or (by omega) (by omega)
    have hor0 : bitsV .or .i64 (r : Int) 0 = (r : Int) := by
      have := bitsV_or (a := r) (b := 0) (by omega) (by omega)
      rw [Nat.or_zero] at this; exact this
    simp (maxSteps := 2000000) only [s13, ↓aw_region, ↓aw_skip, ↓aw_seq, ↓aw_block, ↓aw_exit, ↓aw_ret, ↓sops_nil, ↓sops_go, ↓dops_nil, ↓dopsX_nil, ↓dopsR_nil, ↓vdn, vup, extr_20, extr_21, extr_30, extr_31, extr_32, List.map_cons, List.map_nil, cond_true, cond_false, aop, aThen, aBlock, argEnv, ev, sput, sputO, binK, binI, unK, builtinK, pickK, Nat.reduceBEq, Nat.reduceAdd, Int.reduceBEq, Int.reduceBNe, Int.reduceLT, aPost, resK, tup, tyf, l13_1, hjn]
    refine aw_drawX [] (by kernel_rfl) (by kernel_rfl) (by kernel_rfl) (by kernel_rfl) ?_
    cases hb : bb xs ((i + s) % xs.length) ((j + s) % xs.length) with
    | true =>
      rw [hb, if_pos rfl] at hbit hs1
      simp (maxSteps := 2000000) only [s13, ↓aw_region, ↓aw_skip, ↓aw_seq, ↓aw_block, ↓aw_exit, ↓aw_ret, ↓sops_nil, ↓sops_go, ↓dops_nil, ↓dopsX_nil, ↓dopsR_nil, ↓vdn, vup, extr_20, extr_21, extr_30, extr_31, extr_32, List.map_cons, List.map_nil, cond_true, cond_false, aop, aThen, aBlock, argEnv, ev, sput, sputO, binK, binI, unK, builtinK, pickK, Nat.reduceBEq, Nat.reduceAdd, Int.reduceBEq, Int.reduceBNe, Int.reduceLT, aPost, resK, tup, tyf, a1, a2, m1, m2, ne_eq, hn0, not_false_eq_true, hv.idx el_22 esz_3 hp, hv.load shp_3 hp, hnn, hbit, shlI1 (show j ≤ 62 by omega), hor, add1 (show j < 9223372036854775807 by omega)]
      exact hQ4 _ _ _ ⟨j + 1, hj', by omega, by simp (maxSteps := 2000000) only [↓aw_region, ↓aw_skip, ↓aw_seq, ↓aw_block, ↓aw_exit, ↓aw_ret, ↓sops_nil, ↓sops_go, ↓dops_nil, ↓dopsX_nil, ↓dopsR_nil, ↓vdn, vup, extr_20, extr_21, extr_30, extr_31, extr_32, List.map_cons, List.map_nil, cond_true, cond_false, aop, aThen, aBlock, argEnv, ev, sput, sputO, binK, binI, unK, builtinK, pickK, Nat.reduceBEq, Nat.reduceAdd, Int.reduceBEq, Int.reduceBNe, Int.reduceLT, aPost, resK, tup, tyf, hs1], rfl⟩
    | false =>
      rw [hb, if_neg (by decide)] at hbit hs1
      simp (maxSteps := 2000000) only [s13, ↓aw_region, ↓aw_skip, ↓aw_seq, ↓aw_block, ↓aw_exit, ↓aw_ret, ↓sops_nil, ↓sops_go, ↓dops_nil, ↓dopsX_nil, ↓dopsR_nil, ↓vdn, vup, extr_20, extr_21, extr_30, extr_31, extr_32, List.map_cons, List.map_nil, cond_true, cond_false, aop, aThen, aBlock, argEnv, ev, sput, sputO, binK, binI, unK, builtinK, pickK, Nat.reduceBEq, Nat.reduceAdd, Int.reduceBEq, Int.reduceBNe, Int.reduceLT, aPost, resK, tup, tyf, a1, a2, m1, m2, ne_eq, hn0, not_false_eq_true, hv.idx el_22 esz_3 hp, hv.load shp_3 hp, hnn, hbit, shl0, hor0, add1 (show j < 9223372036854775807 by omega)]
      exact hQ4 _ _ _ ⟨j + 1, hj', by omega, by simp (maxSteps := 2000000) only [↓aw_region, ↓aw_skip, ↓aw_seq, ↓aw_block, ↓aw_exit, ↓aw_ret, ↓sops_nil, ↓sops_go, ↓dops_nil, ↓dopsX_nil, ↓dopsR_nil, ↓vdn, vup, extr_20, extr_21, extr_30, extr_31, extr_32, List.map_cons, List.map_nil, cond_true, cond_false, aop, aThen, aBlock, argEnv, ev, sput, sputO, binK, binI, unK, builtinK, pickK, Nat.reduceBEq, Nat.reduceAdd, Int.reduceBEq, Int.reduceBNe, Int.reduceLT, aPost, resK, tup, tyf, hs1], rfl⟩
  · obtain rfl : j = xs.length := by omega
    simp (maxSteps := 2000000) only [s13, ↓aw_region, ↓aw_skip, ↓aw_seq, ↓aw_block, ↓aw_exit, ↓aw_ret, ↓sops_nil, ↓sops_go, ↓dops_nil, ↓dopsX_nil, ↓dopsR_nil, ↓vdn, vup, extr_20, extr_21, extr_30, extr_31, extr_32, List.map_cons, List.map_nil, cond_true, cond_false, aop, aThen, aBlock, argEnv, ev, sput, sputO, binK, binI, unK, builtinK, pickK, Nat.reduceBEq, Nat.reduceAdd, Int.reduceBEq, Int.reduceBNe, Int.reduceLT, aPost, resK, tup, tyf, l13_1, Int.lt_irrefl]
    refine hQ4 _ _ _ (hQ3 _ _ _ ?_)
    simp (maxSteps := 2000000) only [s13, ↓aw_region, ↓aw_skip, ↓aw_seq, ↓aw_block, ↓aw_exit, ↓aw_ret, ↓sops_nil, ↓sops_go, ↓dops_nil, ↓dopsX_nil, ↓dopsR_nil, ↓vdn, vup, extr_20, extr_21, extr_30, extr_31, extr_32, List.map_cons, List.map_nil, cond_true, cond_false, aop, aThen, aBlock, argEnv, ev, sput, sputO, binK, binI, unK, builtinK, pickK, Nat.reduceBEq, Nat.reduceAdd, Int.reduceBEq, Int.reduceBNe, Int.reduceLT, aPost, resK, tup, tyf, if_true]
    exact hN _ (by simp (maxSteps := 2000000) only [↓aw_region, ↓aw_skip, ↓aw_seq, ↓aw_block, ↓aw_exit, ↓aw_ret, ↓sops_nil, ↓sops_go, ↓dops_nil, ↓dopsX_nil, ↓dopsR_nil, ↓vdn, vup, extr_20, extr_21, extr_30, extr_31, extr_32, List.map_cons, List.map_nil, cond_true, cond_false, aop, aThen, aBlock, argEnv, ev, sput, sputO, binK, binI, unK, builtinK, pickK, Nat.reduceBEq, Nat.reduceAdd, Int.reduceBEq, Int.reduceBNe, Int.reduceLT, aPost, resK, tup, tyf])
/-- The turned one's first rows. -/
def turnedTo (xs : List Int) (s i : Nat) : List Int := (List.range i).map fun i => ((rowT xs s i xs.length : Nat) : Int)
theorem turnedTo_succ (xs : List Int) (s i : Nat) : turnedTo xs s (i + 1) = turnedTo xs s i ++ [((rowT xs s i xs.length : Nat) : Int)] := by simp [turnedTo, List.range_succ]
theorem turnT_loop [Tabs prog] {H : Heap} {v : Value} {xs : List Int} {k s : Nat} (hv : IntSl H v xs) (ht : trn xs = true) (hs8 : s ≤ 8) {N : Env → Heap → Prop} {Q0 : Exit → Env → Heap → Prop}
    (hN : ∀ e H' w, RSI H H' w (turned xs s) → ELe e [(0, v), (1, vint k), (2, vint s), (6, .bool false), (9, vint xs.length), (18, w)] → N e H') :
    AWS prog 207 (.seq q13_24 (.block 2 (.loop l13_2))) (aThen N Q0) [(0, v), (1, vint k), (2, vint s), (6, .bool false), (9, vint xs.length), (18, .slice none 0 0)] H := by
  have hxl := trn_len ht
  refine aws_cut fun N1 hN1 => ?_
  simp (maxSteps := 2000000) only [s13, ↓aw_region, ↓aw_skip, ↓aw_seq, ↓aw_block, ↓aw_exit, ↓aw_ret, ↓sops_nil, ↓sops_go, ↓dops_nil, ↓dopsX_nil, ↓dopsR_nil, ↓vdn, vup, extr_20, extr_21, extr_30, extr_31, extr_32, List.map_cons, List.map_nil, cond_true, cond_false, aop, aThen, aBlock, argEnv, ev, sput, sputO, binK, binI, unK, builtinK, pickK, Nat.reduceBEq, Nat.reduceAdd, Int.reduceBEq, Int.reduceBNe, Int.reduceLT, aPost, resK, tup, tyf]
  refine hN1 [(0, v), (1, vint k), (2, vint s), (6, .bool false), (9, vint xs.length), (18, .slice none 0 0), (151, vint xs.length), (152, .int .i64 0)] _ _ ?_ (by simp (maxSteps := 2000000) only [↓aw_region, ↓aw_skip, ↓aw_seq, ↓aw_block, ↓aw_exit, ↓aw_ret, ↓sops_nil, ↓sops_go, ↓dops_nil, ↓dopsX_nil, ↓dopsR_nil, ↓vdn, vup, extr_20, extr_21, extr_30, extr_31, extr_32, List.map_cons, List.map_nil, cond_true, cond_false, aop, aThen, aBlock, argEnv, ev, sput, sputO, binK, binI, unK, builtinK, pickK, Nat.reduceBEq, Nat.reduceAdd, Int.reduceBEq, Int.reduceBNe, Int.reduceLT, aPost, resK, tup, tyf])
  clear hN1
  try clear N1
  refine aws_block ?_
  refine aws_hide fun Q hQ => ?_
  refine aw_loopW (γ := Nat × Value × Heap) (fun t => t.1 ≤ xs.length ∧ RSI H t.2.2 t.2.1 (turnedTo xs s t.1))
    (fun t => ([(0, v), (1, vint k), (2, vint s), (6, .bool false), (9, vint xs.length), (18, t.2.1), (151, vint xs.length), (152, vint t.1)], t.2.2)) (fun t => xs.length - t.1) (0, .slice none 0 0, H) ⟨Nat.zero_le _, RSI.nil H⟩ (by simp (maxSteps := 2000000) only [↓aw_region, ↓aw_skip, ↓aw_seq, ↓aw_block, ↓aw_exit, ↓aw_ret, ↓sops_nil, ↓sops_go, ↓dops_nil, ↓dopsX_nil, ↓dopsR_nil, ↓vdn, vup, extr_20, extr_21, extr_30, extr_31, extr_32, List.map_cons, List.map_nil, cond_true, cond_false, aop, aThen, aBlock, argEnv, ev, sput, sputO, binK, binI, unK, builtinK, pickK, Nat.reduceBEq, Nat.reduceAdd, Int.reduceBEq, Int.reduceBNe, Int.reduceLT, aPost, resK, tup, tyf, Int.natCast_zero]) rfl ?_
  rintro ⟨i, w, hp⟩ ⟨hi, hs⟩
  simp only at hi hs
  refine aws_hide fun Q2 hQ2 => ?_
  simp only [l13_2]
  have hvp := IntSl_ext hv hs.2.1
  by_cases hin : (i : Int) < xs.length
  · have hi' : i < xs.length := by omega
    refine aws_cut fun N2 hN2 => ?_
    simp (maxSteps := 2000000) only [s13, ↓aw_region, ↓aw_skip, ↓aw_seq, ↓aw_block, ↓aw_exit, ↓aw_ret, ↓sops_nil, ↓sops_go, ↓dops_nil, ↓dopsX_nil, ↓dopsR_nil, ↓vdn, vup, extr_20, extr_21, extr_30, extr_31, extr_32, List.map_cons, List.map_nil, cond_true, cond_false, aop, aThen, aBlock, argEnv, ev, sput, sputO, binK, binI, unK, builtinK, pickK, Nat.reduceBEq, Nat.reduceAdd, Int.reduceBEq, Int.reduceBNe, Int.reduceLT, aPost, resK, tup, tyf, hin]
    refine hN2 [(0, v), (1, vint k), (2, vint s), (6, .bool false), (9, vint xs.length), (18, w), (151, vint xs.length), (152, vint i), (153, .bool true)] _ _ ?_ (by simp (maxSteps := 2000000) only [↓aw_region, ↓aw_skip, ↓aw_seq, ↓aw_block, ↓aw_exit, ↓aw_ret, ↓sops_nil, ↓sops_go, ↓dops_nil, ↓dopsX_nil, ↓dopsR_nil, ↓vdn, vup, extr_20, extr_21, extr_30, extr_31, extr_32, List.map_cons, List.map_nil, cond_true, cond_false, aop, aThen, aBlock, argEnv, ev, sput, sputO, binK, binI, unK, builtinK, pickK, Nat.reduceBEq, Nat.reduceAdd, Int.reduceBEq, Int.reduceBNe, Int.reduceLT, aPost, resK, tup, tyf])
    clear hN2
    try clear N2
    refine aws_cut fun N3 hN3 => ?_
    simp (maxSteps := 2000000) only [s13, ↓aw_region, ↓aw_skip, ↓aw_seq, ↓aw_block, ↓aw_exit, ↓aw_ret, ↓sops_nil, ↓sops_go, ↓dops_nil, ↓dopsX_nil, ↓dopsR_nil, ↓vdn, vup, extr_20, extr_21, extr_30, extr_31, extr_32, List.map_cons, List.map_nil, cond_true, cond_false, aop, aThen, aBlock, argEnv, ev, sput, sputO, binK, binI, unK, builtinK, pickK, Nat.reduceBEq, Nat.reduceAdd, Int.reduceBEq, Int.reduceBNe, Int.reduceLT, aPost, resK, tup, tyf]
    refine hN3 [(0, v), (1, vint k), (2, vint s), (6, .bool false), (9, vint xs.length), (18, w), (151, vint xs.length), (152, vint i)] _ _ ?_ (by simp (maxSteps := 2000000) only [↓aw_region, ↓aw_skip, ↓aw_seq, ↓aw_block, ↓aw_exit, ↓aw_ret, ↓sops_nil, ↓sops_go, ↓dops_nil, ↓dopsX_nil, ↓dopsR_nil, ↓vdn, vup, extr_20, extr_21, extr_30, extr_31, extr_32, List.map_cons, List.map_nil, cond_true, cond_false, aop, aThen, aBlock, argEnv, ev, sput, sputO, binK, binI, unK, builtinK, pickK, Nat.reduceBEq, Nat.reduceAdd, Int.reduceBEq, Int.reduceBNe, Int.reduceLT, aPost, resK, tup, tyf])
    clear hN3
    try clear N3
    refine aws_cutW fun M hM => ?_
    refine aws_block ?_
    refine aws_cut fun N4 hN4 => ?_
    simp (maxSteps := 2000000) only [s13, ↓aw_region, ↓aw_skip, ↓aw_seq, ↓aw_block, ↓aw_exit, ↓aw_ret, ↓sops_nil, ↓sops_go, ↓dops_nil, ↓dopsX_nil, ↓dopsR_nil, ↓vdn, vup, extr_20, extr_21, extr_30, extr_31, extr_32, List.map_cons, List.map_nil, cond_true, cond_false, aop, aThen, aBlock, argEnv, ev, sput, sputO, binK, binI, unK, builtinK, pickK, Nat.reduceBEq, Nat.reduceAdd, Int.reduceBEq, Int.reduceBNe, Int.reduceLT, aPost, resK, tup, tyf]
    refine hN4 [(0, v), (1, vint k), (2, vint s), (6, .bool false), (9, vint xs.length), (18, w), (19, vint i), (151, vint xs.length), (152, vint i)] _ _ ?_ (by simp (maxSteps := 2000000) only [↓aw_region, ↓aw_skip, ↓aw_seq, ↓aw_block, ↓aw_exit, ↓aw_ret, ↓sops_nil, ↓sops_go, ↓dops_nil, ↓dopsX_nil, ↓dopsR_nil, ↓vdn, vup, extr_20, extr_21, extr_30, extr_31, extr_32, List.map_cons, List.map_nil, cond_true, cond_false, aop, aThen, aBlock, argEnv, ev, sput, sputO, binK, binI, unK, builtinK, pickK, Nat.reduceBEq, Nat.reduceAdd, Int.reduceBEq, Int.reduceBNe, Int.reduceLT, aPost, resK, tup, tyf])
    clear hN4
    try clear N4
    refine aws_cut fun N5 hN5 => ?_
    simp (maxSteps := 2000000) only [s13, ↓aw_region, ↓aw_skip, ↓aw_seq, ↓aw_block, ↓aw_exit, ↓aw_ret, ↓sops_nil, ↓sops_go, ↓dops_nil, ↓dopsX_nil, ↓dopsR_nil, ↓vdn, vup, extr_20, extr_21, extr_30, extr_31, extr_32, List.map_cons, List.map_nil, cond_true, cond_false, aop, aThen, aBlock, argEnv, ev, sput, sputO, binK, binI, unK, builtinK, pickK, Nat.reduceBEq, Nat.reduceAdd, Int.reduceBEq, Int.reduceBNe, Int.reduceLT, aPost, resK, tup, tyf]
    refine hN5 [(0, v), (1, vint k), (2, vint s), (6, .bool false), (9, vint xs.length), (18, w), (19, vint i), (20, .int .i64 0), (151, vint xs.length), (152, vint i)] _ _ ?_ (by simp (maxSteps := 2000000) only [↓aw_region, ↓aw_skip, ↓aw_seq, ↓aw_block, ↓aw_exit, ↓aw_ret, ↓sops_nil, ↓sops_go, ↓dops_nil, ↓dopsX_nil, ↓dopsR_nil, ↓vdn, vup, extr_20, extr_21, extr_30, extr_31, extr_32, List.map_cons, List.map_nil, cond_true, cond_false, aop, aThen, aBlock, argEnv, ev, sput, sputO, binK, binI, unK, builtinK, pickK, Nat.reduceBEq, Nat.reduceAdd, Int.reduceBEq, Int.reduceBNe, Int.reduceLT, aPost, resK, tup, tyf])
    clear hN5
    try clear N5
    refine aws_cutW fun N6 hN6 => ?_
    refine row_loop hvp ht hs8 (by omega) fun e he => ?_
    refine hN6 [(0, v), (1, vint k), (2, vint s), (6, .bool false), (9, vint xs.length), (18, w), (20, vint (rowT xs s i xs.length : Nat)), (151, vint xs.length), (152, vint i)] _ _ ?_ he
    refine aw_aws ?_
    simp (maxSteps := 2000000) only [s13, ↓aw_region, ↓aw_skip, ↓aw_seq, ↓aw_block, ↓aw_exit, ↓aw_ret, ↓sops_nil, ↓sops_go, ↓dops_nil, ↓dopsX_nil, ↓dopsR_nil, ↓vdn, vup, extr_20, extr_21, extr_30, extr_31, extr_32, List.map_cons, List.map_nil, cond_true, cond_false, aop, aThen, aBlock, argEnv, ev, sput, sputO, binK, binI, unK, builtinK, pickK, Nat.reduceBEq, Nat.reduceAdd, Int.reduceBEq, Int.reduceBNe, Int.reduceLT, aPost, resK, tup, tyf, litI1]
    refine hs.push (by simp [turnedTo]; omega) fun v' h' s' => ?_
    refine hM [(0, v), (1, vint k), (2, vint s), (6, .bool false), (9, vint xs.length), (18, v'), (151, vint xs.length), (152, vint i)] _ _ ?_ (by simp (maxSteps := 2000000) only [↓aw_region, ↓aw_skip, ↓aw_seq, ↓aw_block, ↓aw_exit, ↓aw_ret, ↓sops_nil, ↓sops_go, ↓dops_nil, ↓dopsX_nil, ↓dopsR_nil, ↓vdn, vup, extr_20, extr_21, extr_30, extr_31, extr_32, List.map_cons, List.map_nil, cond_true, cond_false, aop, aThen, aBlock, argEnv, ev, sput, sputO, binK, binI, unK, builtinK, pickK, Nat.reduceBEq, Nat.reduceAdd, Int.reduceBEq, Int.reduceBNe, Int.reduceLT, aPost, resK, tup, tyf])
    refine aw_aws ?_
    simp (maxSteps := 2000000) only [s13, ↓aw_region, ↓aw_skip, ↓aw_seq, ↓aw_block, ↓aw_exit, ↓aw_ret, ↓sops_nil, ↓sops_go, ↓dops_nil, ↓dopsX_nil, ↓dopsR_nil, ↓vdn, vup, extr_20, extr_21, extr_30, extr_31, extr_32, List.map_cons, List.map_nil, cond_true, cond_false, aop, aThen, aBlock, argEnv, ev, sput, sputO, binK, binI, unK, builtinK, pickK, Nat.reduceBEq, Nat.reduceAdd, Int.reduceBEq, Int.reduceBNe, Int.reduceLT, aPost, resK, tup, tyf, add1 (show i < 9223372036854775807 by omega)]
    exact hQ2 _ _ _ ⟨(i + 1, v', h'), ⟨hi', by rw [turnedTo_succ]; exact s'⟩, by simp only; omega, by simp (maxSteps := 2000000) only [↓aw_region, ↓aw_skip, ↓aw_seq, ↓aw_block, ↓aw_exit, ↓aw_ret, ↓sops_nil, ↓sops_go, ↓dops_nil, ↓dopsX_nil, ↓dopsR_nil, ↓vdn, vup, extr_20, extr_21, extr_30, extr_31, extr_32, List.map_cons, List.map_nil, cond_true, cond_false, aop, aThen, aBlock, argEnv, ev, sput, sputO, binK, binI, unK, builtinK, pickK, Nat.reduceBEq, Nat.reduceAdd, Int.reduceBEq, Int.reduceBNe, Int.reduceLT, aPost, resK, tup, tyf], rfl⟩
  · obtain rfl : i = xs.length := by omega
    refine aws_cut fun Y hY => ?_
    simp (maxSteps := 2000000) only [s13, ↓aw_region, ↓aw_skip, ↓aw_seq, ↓aw_block, ↓aw_exit, ↓aw_ret, ↓sops_nil, ↓sops_go, ↓dops_nil, ↓dopsX_nil, ↓dopsR_nil, ↓vdn, vup, extr_20, extr_21, extr_30, extr_31, extr_32, List.map_cons, List.map_nil, cond_true, cond_false, aop, aThen, aBlock, argEnv, ev, sput, sputO, binK, binI, unK, builtinK, pickK, Nat.reduceBEq, Nat.reduceAdd, Int.reduceBEq, Int.reduceBNe, Int.reduceLT, aPost, resK, tup, tyf, Int.lt_irrefl]
    refine hY [(0, v), (1, vint k), (2, vint s), (6, .bool false), (9, vint xs.length), (18, w), (151, vint xs.length), (152, vint xs.length), (153, .bool false)] _ _ ?_ (by simp (maxSteps := 2000000) only [↓aw_region, ↓aw_skip, ↓aw_seq, ↓aw_block, ↓aw_exit, ↓aw_ret, ↓sops_nil, ↓sops_go, ↓dops_nil, ↓dopsX_nil, ↓dopsR_nil, ↓vdn, vup, extr_20, extr_21, extr_30, extr_31, extr_32, List.map_cons, List.map_nil, cond_true, cond_false, aop, aThen, aBlock, argEnv, ev, sput, sputO, binK, binI, unK, builtinK, pickK, Nat.reduceBEq, Nat.reduceAdd, Int.reduceBEq, Int.reduceBNe, Int.reduceLT, aPost, resK, tup, tyf])
    refine aw_aws ?_
    simp (maxSteps := 2000000) only [s13, ↓aw_region, ↓aw_skip, ↓aw_seq, ↓aw_block, ↓aw_exit, ↓aw_ret, ↓sops_nil, ↓sops_go, ↓dops_nil, ↓dopsX_nil, ↓dopsR_nil, ↓vdn, vup, extr_20, extr_21, extr_30, extr_31, extr_32, List.map_cons, List.map_nil, cond_true, cond_false, aop, aThen, aBlock, argEnv, ev, sput, sputO, binK, binI, unK, builtinK, pickK, Nat.reduceBEq, Nat.reduceAdd, Int.reduceBEq, Int.reduceBNe, Int.reduceLT, aPost, resK, tup, tyf]
    refine hQ2 _ _ _ (hQ _ _ _ ?_)
    simp (maxSteps := 2000000) only [s13, ↓aw_region, ↓aw_skip, ↓aw_seq, ↓aw_block, ↓aw_exit, ↓aw_ret, ↓sops_nil, ↓sops_go, ↓dops_nil, ↓dopsX_nil, ↓dopsR_nil, ↓vdn, vup, extr_20, extr_21, extr_30, extr_31, extr_32, List.map_cons, List.map_nil, cond_true, cond_false, aop, aThen, aBlock, argEnv, ev, sput, sputO, binK, binI, unK, builtinK, pickK, Nat.reduceBEq, Nat.reduceAdd, Int.reduceBEq, Int.reduceBNe, Int.reduceLT, aPost, resK, tup, tyf, if_true]
    exact hN _ _ _ hs (by simp (maxSteps := 2000000) only [↓aw_region, ↓aw_skip, ↓aw_seq, ↓aw_block, ↓aw_exit, ↓aw_ret, ↓sops_nil, ↓sops_go, ↓dops_nil, ↓dopsX_nil, ↓dopsR_nil, ↓vdn, vup, extr_20, extr_21, extr_30, extr_31, extr_32, List.map_cons, List.map_nil, cond_true, cond_false, aop, aThen, aBlock, argEnv, ev, sput, sputO, binK, binI, unK, builtinK, pickK, Nat.reduceBEq, Nat.reduceAdd, Int.reduceBEq, Int.reduceBNe, Int.reduceLT, aPost, resK, tup, tyf])
end Go.Proofs.Tryd.Am

namespace Go.Proofs.Tryd.Am
open Go.Am Rb Rch
set_option maxRecDepth 100000
set_option maxHeartbeats 1000000

theorem chk_loop [Tabs prog] {H : Heap} {v u : Value} {xs : List Int} {b : List Nat} {k s : Nat} (hv : IntSl H v xs) (ht : trn xs = true) (hu : IntSl H u (iL b)) (hb : Pt xs b) (hk : b.length = k) (hk1 : 1 ≤ k) (hk8 : k ≤ 8) (hc : closes xs k (iL b) = true) {N : Env → Heap → Prop} {Q0 : Exit → Env → Heap → Prop}
    (hN : ∀ e, ELe e [(0, v), (1, vint k), (2, vint s), (6, .bool false), (9, vint xs.length)] → N e H) :
    AWS prog 207 (.seq q13_15 (.block 0 (.loop l13_0))) (aThen N Q0) [(0, v), (1, vint k), (2, vint s), (6, .bool false), (9, vint xs.length), (10, u), (14, .int .i64 0)] H := by
  have hxl := trn_len ht
  have h256 := pow8N hxl.2
  have hnn : ∀ i : Nat, (0 : Int) ≤ (i : Int) := Int.natCast_nonneg
  have e01 : ((0 : Int) == 1) = false := rfl
  have e10 : ((1 : Int) == 0) = false := rfl
  have hul : (iL b).length = k := by rw [iL_len, hk]
  have hk0 : ¬ ((k : Nat) : Int) = 0 := by omega
  refine aws_cut fun N1 hN1 => ?_
  simp (maxSteps := 2000000) only [s13, ↓aw_region, ↓aw_skip, ↓aw_seq, ↓aw_block, ↓aw_exit, ↓aw_ret, ↓sops_nil, ↓sops_go, ↓dops_nil, ↓dopsX_nil, ↓dopsR_nil, ↓vdn, vup, extr_20, extr_21, extr_30, extr_31, extr_32, List.map_cons, List.map_nil, cond_true, cond_false, aop, aThen, aBlock, argEnv, ev, sput, sputO, binK, binI, unK, builtinK, pickK, Nat.reduceBEq, Nat.reduceAdd, Int.reduceBEq, Int.reduceBNe, Int.reduceLT, aPost, resK, tup, tyf, hu.len, hul]
  refine hN1 [(0, v), (1, vint k), (2, vint s), (6, .bool false), (9, vint xs.length), (10, u), (14, .int .i64 0), (99, u), (100, vint k), (101, .int .i64 0)] _ _ ?_ (by simp (maxSteps := 2000000) only [↓aw_region, ↓aw_skip, ↓aw_seq, ↓aw_block, ↓aw_exit, ↓aw_ret, ↓sops_nil, ↓sops_go, ↓dops_nil, ↓dopsX_nil, ↓dopsR_nil, ↓vdn, vup, extr_20, extr_21, extr_30, extr_31, extr_32, List.map_cons, List.map_nil, cond_true, cond_false, aop, aThen, aBlock, argEnv, ev, sput, sputO, binK, binI, unK, builtinK, pickK, Nat.reduceBEq, Nat.reduceAdd, Int.reduceBEq, Int.reduceBNe, Int.reduceLT, aPost, resK, tup, tyf])
  clear hN1
  try clear N1
  refine aws_block ?_
  refine aws_hide fun Q3 hQ3 => ?_
  refine aw_loopW (γ := Nat) (fun i => i ≤ k)
    (fun i => ([(0, v), (1, vint k), (2, vint s), (6, .bool false), (9, vint xs.length), (10, u), (14, vint (Clr.setL (b.take i) : Nat)), (99, u), (100, vint k), (101, vint i)], H)) (fun i => k - i) 0 (Nat.zero_le _) (by simp (maxSteps := 2000000) only [↓aw_region, ↓aw_skip, ↓aw_seq, ↓aw_block, ↓aw_exit, ↓aw_ret, ↓sops_nil, ↓sops_go, ↓dops_nil, ↓dopsX_nil, ↓dopsR_nil, ↓vdn, vup, extr_20, extr_21, extr_30, extr_31, extr_32, List.map_cons, List.map_nil, cond_true, cond_false, aop, aThen, aBlock, argEnv, ev, sput, sputO, binK, binI, unK, builtinK, pickK, Nat.reduceBEq, Nat.reduceAdd, Int.reduceBEq, Int.reduceBNe, Int.reduceLT, aPost, resK, tup, tyf, Int.natCast_zero, List.take_zero, Clr.setL, List.foldl_nil]) rfl ?_
  intro i hi
  refine aws_hide fun Q4 hQ4 => ?_
  simp only [l13_0]
  by_cases hin : (i : Int) < k
  · have hi' : i < k := by omega
    have hib : i < b.length := by omega
    have hiL : i < (iL b).length := by omega
    have hm : (i + 1) % k < k := Nat.mod_lt _ (by omega)
    have hmL : (i + 1) % k < (iL b).length := by omega
    have hat : ∀ j, j < b.length → b.getD j 0 < xs.length := fun j hj => hb.lt _ (by rw [List.getD, List.getElem?_eq_getElem hj]; exact List.getElem_mem _)
    have hx := hat i hib
    have hy := hat ((i + 1) % k) (by omega)
    have hbeat : bb xs (b.getD i 0) (b.getD ((i + 1) % k) 0) = true := by
      by_cases hl : i + 1 < k
      · rw [Nat.mod_eq_of_lt hl]; exact hb.ch i (by omega)
      · have e : i + 1 = k := by omega
        rw [e, Nat.mod_self]
        rw [closes_iff, show k - 1 = i by omega] at hc
        exact hc
    have hnot : (Clr.setL (b.take i)).testBit (b.getD i 0) = false := by
      cases hh : (Clr.setL (b.take i)).testBit (b.getD i 0) with
      | false => rfl
      | true =>
        have hm1 := (Clr.setL_bit _ _).1 hh
        have hnd := hb.nd
        rw [← List.take_append_drop i b] at hnd
        refine absurd rfl ((List.nodup_append.1 hnd).2.2 _ hm1 _ ?_)
        rw [List.drop_eq_getElem_cons hib, List.getD, List.getElem?_eq_getElem hib]; exact List.mem_cons_self ..
    have hs : Clr.setL (b.take (i + 1)) = Clr.setL (b.take i) ||| 2 ^ (b.getD i 0) := by
      have e : b.take (i + 1) = b.take i ++ [b.getD i 0] := by rw [List.take_succ_eq_append_getElem hib, List.getD, List.getElem?_eq_getElem hib]; rfl
      rw [e, setL_snoc]
    have hlt : Clr.setL (b.take i) < 2 ^ xs.length := Clr.setL_lt fun x hx => hb.lt x (List.take_subset _ _ hx)
    have hbit := bitAt ht (y := b.getD ((i + 1) % k) 0) hx
    rw [hbeat, if_pos rfl] at hbit
    have hadd : addV .i64 ((i : Nat) : Int) 1 = ((i + 1 : Nat) : Int) := add1 (by omega)
    have hmod : (((i + 1 : Nat) : Int)).tmod ((k : Nat) : Int) = (((i + 1) % k : Nat) : Int) := tmodN _ _
    have hg1 := iL_get b i
    have hg2 := iL_get b ((i + 1) % k)
    generalize b.getD i 0 = x at hx hnot hs hbit hg1
    generalize b.getD ((i + 1) % k) 0 = y at hy hbit hg2
    generalize Clr.setL (b.take i) = met at hnot hs hlt ⊢
    have htest := testV (a := met) (y := x) (by omega)
    rw [hnot, if_neg (by decide)] at htest
    have h2x : 2 ^ x < 2 ^ xs.length := Nat.pow_lt_pow_right (by decide) hx
    have hor : bitsV .or .i64 (met : Int) ((2 ^ x : Nat) : Int) = ((met ||| 2 ^ x : Nat) : Int) := bitsV_or (by omega) (by omega)
    have x0 : ¬ ((x : Nat) : Int) < 0 := by omega
    have y0 : ¬ ((y : Nat) : Int) < 0 := by omega
    have xn : ¬ ((xs.length : Nat) : Int) ≤ ((x : Nat) : Int) := by omega
    have yn : ¬ ((xs.length : Nat) : Int) ≤ ((y : Nat) : Int) := by omega
    refine aws_cut fun N2 hN2 => ?_
    simp (maxSteps := 2000000) only [s13, ↓aw_region, ↓aw_skip, ↓aw_seq, ↓aw_block, ↓aw_exit, ↓aw_ret, ↓sops_nil, ↓sops_go, ↓dops_nil, ↓dopsX_nil, ↓dopsR_nil, ↓vdn, vup, extr_20, extr_21, extr_30, extr_31, extr_32, List.map_cons, List.map_nil, cond_true, cond_false, aop, aThen, aBlock, argEnv, ev, sput, sputO, binK, binI, unK, builtinK, pickK, Nat.reduceBEq, Nat.reduceAdd, Int.reduceBEq, Int.reduceBNe, Int.reduceLT, aPost, resK, tup, tyf, hin]
    refine hN2 [(0, v), (1, vint k), (2, vint s), (6, .bool false), (9, vint xs.length), (10, u), (14, vint met), (99, u), (100, vint k), (101, vint i), (102, .bool true)] _ _ ?_ (by simp (maxSteps := 2000000) only [↓aw_region, ↓aw_skip, ↓aw_seq, ↓aw_block, ↓aw_exit, ↓aw_ret, ↓sops_nil, ↓sops_go, ↓dops_nil, ↓dopsX_nil, ↓dopsR_nil, ↓vdn, vup, extr_20, extr_21, extr_30, extr_31, extr_32, List.map_cons, List.map_nil, cond_true, cond_false, aop, aThen, aBlock, argEnv, ev, sput, sputO, binK, binI, unK, builtinK, pickK, Nat.reduceBEq, Nat.reduceAdd, Int.reduceBEq, Int.reduceBNe, Int.reduceLT, aPost, resK, tup, tyf])
    clear hN2
    try clear N2
    refine aws_cut fun N3 hN3 => ?_
    simp (maxSteps := 2000000) only [s13, ↓aw_region, ↓aw_skip, ↓aw_seq, ↓aw_block, ↓aw_exit, ↓aw_ret, ↓sops_nil, ↓sops_go, ↓dops_nil, ↓dopsX_nil, ↓dopsR_nil, ↓vdn, vup, extr_20, extr_21, extr_30, extr_31, extr_32, List.map_cons, List.map_nil, cond_true, cond_false, aop, aThen, aBlock, argEnv, ev, sput, sputO, binK, binI, unK, builtinK, pickK, Nat.reduceBEq, Nat.reduceAdd, Int.reduceBEq, Int.reduceBNe, Int.reduceLT, aPost, resK, tup, tyf]
    refine hN3 [(0, v), (1, vint k), (2, vint s), (6, .bool false), (9, vint xs.length), (10, u), (14, vint met), (99, u), (100, vint k), (101, vint i)] _ _ ?_ (by simp (maxSteps := 2000000) only [↓aw_region, ↓aw_skip, ↓aw_seq, ↓aw_block, ↓aw_exit, ↓aw_ret, ↓sops_nil, ↓sops_go, ↓dops_nil, ↓dopsX_nil, ↓dopsR_nil, ↓vdn, vup, extr_20, extr_21, extr_30, extr_31, extr_32, List.map_cons, List.map_nil, cond_true, cond_false, aop, aThen, aBlock, argEnv, ev, sput, sputO, binK, binI, unK, builtinK, pickK, Nat.reduceBEq, Nat.reduceAdd, Int.reduceBEq, Int.reduceBNe, Int.reduceLT, aPost, resK, tup, tyf])
    clear hN3
    try clear N3
    refine aws_cutW fun M hM => ?_
    refine aws_block ?_
    refine aws_cut fun N4 hN4 => ?_
    simp (maxSteps := 2000000) only [s13, ↓aw_region, ↓aw_skip, ↓aw_seq, ↓aw_block, ↓aw_exit, ↓aw_ret, ↓sops_nil, ↓sops_go, ↓dops_nil, ↓dopsX_nil, ↓dopsR_nil, ↓vdn, vup, extr_20, extr_21, extr_30, extr_31, extr_32, List.map_cons, List.map_nil, cond_true, cond_false, aop, aThen, aBlock, argEnv, ev, sput, sputO, binK, binI, unK, builtinK, pickK, Nat.reduceBEq, Nat.reduceAdd, Int.reduceBEq, Int.reduceBNe, Int.reduceLT, aPost, resK, tup, tyf, ↓hu.idx el_22 esz_3 hiL, ↓hu.load shp_3 hiL, hg1]
    refine hN4 [(0, v), (1, vint k), (2, vint s), (6, .bool false), (9, vint xs.length), (10, u), (14, vint met), (15, vint i), (16, vint x), (99, u), (100, vint k), (101, vint i)] _ _ ?_ (by simp (maxSteps := 2000000) only [↓aw_region, ↓aw_skip, ↓aw_seq, ↓aw_block, ↓aw_exit, ↓aw_ret, ↓sops_nil, ↓sops_go, ↓dops_nil, ↓dopsX_nil, ↓dopsR_nil, ↓vdn, vup, extr_20, extr_21, extr_30, extr_31, extr_32, List.map_cons, List.map_nil, cond_true, cond_false, aop, aThen, aBlock, argEnv, ev, sput, sputO, binK, binI, unK, builtinK, pickK, Nat.reduceBEq, Nat.reduceAdd, Int.reduceBEq, Int.reduceBNe, Int.reduceLT, aPost, resK, tup, tyf])
    clear hN4
    try clear N4
    refine aws_cut fun N5 hN5 => ?_
    simp (maxSteps := 2000000) only [s13, ↓aw_region, ↓aw_skip, ↓aw_seq, ↓aw_block, ↓aw_exit, ↓aw_ret, ↓sops_nil, ↓sops_go, ↓dops_nil, ↓dopsX_nil, ↓dopsR_nil, ↓vdn, vup, extr_20, extr_21, extr_30, extr_31, extr_32, List.map_cons, List.map_nil, cond_true, cond_false, aop, aThen, aBlock, argEnv, ev, sput, sputO, binK, binI, unK, builtinK, pickK, Nat.reduceBEq, Nat.reduceAdd, Int.reduceBEq, Int.reduceBNe, Int.reduceLT, aPost, resK, tup, tyf, hadd, ne_eq, hk0, not_false_eq_true, hmod, ↓hu.idx el_22 esz_3 hmL, ↓hu.load shp_3 hmL, hg2]
    refine hN5 [(0, v), (1, vint k), (2, vint s), (6, .bool false), (9, vint xs.length), (10, u), (14, vint met), (15, vint i), (16, vint x), (17, vint y), (99, u), (100, vint k), (101, vint i)] _ _ ?_ (by simp (maxSteps := 2000000) only [↓aw_region, ↓aw_skip, ↓aw_seq, ↓aw_block, ↓aw_exit, ↓aw_ret, ↓sops_nil, ↓sops_go, ↓dops_nil, ↓dopsX_nil, ↓dopsR_nil, ↓vdn, vup, extr_20, extr_21, extr_30, extr_31, extr_32, List.map_cons, List.map_nil, cond_true, cond_false, aop, aThen, aBlock, argEnv, ev, sput, sputO, binK, binI, unK, builtinK, pickK, Nat.reduceBEq, Nat.reduceAdd, Int.reduceBEq, Int.reduceBNe, Int.reduceLT, aPost, resK, tup, tyf])
    clear hN5
    try clear N5
    refine aws_cut fun R hR => ?_
    refine aw_cut fun N0 hN0 => ?_
    refine aw_regcut 17 fun N1 hN1 => ?_
    simp (maxSteps := 2000000) only [s13, ↓aw_region, ↓aw_skip, ↓aw_seq, ↓aw_block, ↓aw_exit, ↓aw_ret, ↓sops_nil, ↓sops_go, ↓dops_nil, ↓dopsX_nil, ↓dopsR_nil, ↓vdn, vup, extr_20, extr_21, extr_30, extr_31, extr_32, List.map_cons, List.map_nil, cond_true, cond_false, aop, aThen, aBlock, argEnv, ev, sput, sputO, binK, binI, unK, builtinK, pickK, Nat.reduceBEq, Nat.reduceAdd, Int.reduceBEq, Int.reduceBNe, Int.reduceLT, aPost, resK, tup, tyf, List.take_succ_cons, List.take_zero, x0, y0, ge_iff_le, xn, yn]
    refine hN1 _ _ ?_
    clear hN1 N1
    refine aw_regcut 10 fun N1 hN1 => ?_
    simp (maxSteps := 2000000) only [s13, ↓aw_region, ↓aw_skip, ↓aw_seq, ↓aw_block, ↓aw_exit, ↓aw_ret, ↓sops_nil, ↓sops_go, ↓dops_nil, ↓dopsX_nil, ↓dopsR_nil, ↓vdn, vup, extr_20, extr_21, extr_30, extr_31, extr_32, List.map_cons, List.map_nil, cond_true, cond_false, aop, aThen, aBlock, argEnv, ev, sput, sputO, binK, binI, unK, builtinK, pickK, Nat.reduceBEq, Nat.reduceAdd, Int.reduceBEq, Int.reduceBNe, Int.reduceLT, aPost, resK, tup, tyf, List.drop_succ_cons, List.drop_zero, List.take_succ_cons, List.take_zero, ↓hv.idx el_22 esz_3 hx, ↓hv.load shp_3 hx, hnn, hbit, e10]
    refine hN1 _ _ ?_
    clear hN1 N1
    simp (maxSteps := 2000000) only [s13, ↓aw_region, ↓aw_skip, ↓aw_seq, ↓aw_block, ↓aw_exit, ↓aw_ret, ↓sops_nil, ↓sops_go, ↓dops_nil, ↓dopsX_nil, ↓dopsR_nil, ↓vdn, vup, extr_20, extr_21, extr_30, extr_31, extr_32, List.map_cons, List.map_nil, cond_true, cond_false, aop, aThen, aBlock, argEnv, ev, sput, sputO, binK, binI, unK, builtinK, pickK, Nat.reduceBEq, Nat.reduceAdd, Int.reduceBEq, Int.reduceBNe, Int.reduceLT, aPost, resK, tup, tyf, List.drop_succ_cons, List.drop_zero, hnn, htest, e01]
    refine hN0 _ _ ?_
    simp (maxSteps := 2000000) only [s13, ↓aw_region, ↓aw_skip, ↓aw_seq, ↓aw_block, ↓aw_exit, ↓aw_ret, ↓sops_nil, ↓sops_go, ↓dops_nil, ↓dopsX_nil, ↓dopsR_nil, ↓vdn, vup, extr_20, extr_21, extr_30, extr_31, extr_32, List.map_cons, List.map_nil, cond_true, cond_false, aop, aThen, aBlock, argEnv, ev, sput, sputO, binK, binI, unK, builtinK, pickK, Nat.reduceBEq, Nat.reduceAdd, Int.reduceBEq, Int.reduceBNe, Int.reduceLT, aPost, resK, tup, tyf]
    refine hR [(0, v), (1, vint k), (2, vint s), (6, .bool false), (9, vint xs.length), (10, u), (14, vint met), (15, vint i), (16, vint x), (17, vint y), (99, u), (100, vint k), (101, vint i)] _ _ ?_ (by simp (maxSteps := 2000000) only [↓aw_region, ↓aw_skip, ↓aw_seq, ↓aw_block, ↓aw_exit, ↓aw_ret, ↓sops_nil, ↓sops_go, ↓dops_nil, ↓dopsX_nil, ↓dopsR_nil, ↓vdn, vup, extr_20, extr_21, extr_30, extr_31, extr_32, List.map_cons, List.map_nil, cond_true, cond_false, aop, aThen, aBlock, argEnv, ev, sput, sputO, binK, binI, unK, builtinK, pickK, Nat.reduceBEq, Nat.reduceAdd, Int.reduceBEq, Int.reduceBNe, Int.reduceLT, aPost, resK, tup, tyf])
    clear hR
    try clear R
    refine aw_aws ?_
    simp (maxSteps := 2000000) only [s13, ↓aw_region, ↓aw_skip, ↓aw_seq, ↓aw_block, ↓aw_exit, ↓aw_ret, ↓sops_nil, ↓sops_go, ↓dops_nil, ↓dopsX_nil, ↓dopsR_nil, ↓vdn, vup, extr_20, extr_21, extr_30, extr_31, extr_32, List.map_cons, List.map_nil, cond_true, cond_false, aop, aThen, aBlock, argEnv, ev, sput, sputO, binK, binI, unK, builtinK, pickK, Nat.reduceBEq, Nat.reduceAdd, Int.reduceBEq, Int.reduceBNe, Int.reduceLT, aPost, resK, tup, tyf, hnn, shlI1 (show x ≤ 62 by omega), hor]
    refine hM [(0, v), (1, vint k), (2, vint s), (6, .bool false), (9, vint xs.length), (10, u), (14, vint ((met ||| 2 ^ x : Nat) : Int)), (99, u), (100, vint k), (101, vint i)] _ _ ?_ (by simp (maxSteps := 2000000) only [↓aw_region, ↓aw_skip, ↓aw_seq, ↓aw_block, ↓aw_exit, ↓aw_ret, ↓sops_nil, ↓sops_go, ↓dops_nil, ↓dopsX_nil, ↓dopsR_nil, ↓vdn, vup, extr_20, extr_21, extr_30, extr_31, extr_32, List.map_cons, List.map_nil, cond_true, cond_false, aop, aThen, aBlock, argEnv, ev, sput, sputO, binK, binI, unK, builtinK, pickK, Nat.reduceBEq, Nat.reduceAdd, Int.reduceBEq, Int.reduceBNe, Int.reduceLT, aPost, resK, tup, tyf])
    refine aw_aws ?_
    simp (maxSteps := 2000000) only [s13, ↓aw_region, ↓aw_skip, ↓aw_seq, ↓aw_block, ↓aw_exit, ↓aw_ret, ↓sops_nil, ↓sops_go, ↓dops_nil, ↓dopsX_nil, ↓dopsR_nil, ↓vdn, vup, extr_20, extr_21, extr_30, extr_31, extr_32, List.map_cons, List.map_nil, cond_true, cond_false, aop, aThen, aBlock, argEnv, ev, sput, sputO, binK, binI, unK, builtinK, pickK, Nat.reduceBEq, Nat.reduceAdd, Int.reduceBEq, Int.reduceBNe, Int.reduceLT, aPost, resK, tup, tyf, hadd]
    exact hQ4 _ _ _ ⟨i + 1, hi', by omega, by simp (maxSteps := 2000000) only [↓aw_region, ↓aw_skip, ↓aw_seq, ↓aw_block, ↓aw_exit, ↓aw_ret, ↓sops_nil, ↓sops_go, ↓dops_nil, ↓dopsX_nil, ↓dopsR_nil, ↓vdn, vup, extr_20, extr_21, extr_30, extr_31, extr_32, List.map_cons, List.map_nil, cond_true, cond_false, aop, aThen, aBlock, argEnv, ev, sput, sputO, binK, binI, unK, builtinK, pickK, Nat.reduceBEq, Nat.reduceAdd, Int.reduceBEq, Int.reduceBNe, Int.reduceLT, aPost, resK, tup, tyf, hs], rfl⟩
  · obtain rfl : i = k := by omega
    refine aws_cut fun Y hY => ?_
    simp (maxSteps := 2000000) only [s13, ↓aw_region, ↓aw_skip, ↓aw_seq, ↓aw_block, ↓aw_exit, ↓aw_ret, ↓sops_nil, ↓sops_go, ↓dops_nil, ↓dopsX_nil, ↓dopsR_nil, ↓vdn, vup, extr_20, extr_21, extr_30, extr_31, extr_32, List.map_cons, List.map_nil, cond_true, cond_false, aop, aThen, aBlock, argEnv, ev, sput, sputO, binK, binI, unK, builtinK, pickK, Nat.reduceBEq, Nat.reduceAdd, Int.reduceBEq, Int.reduceBNe, Int.reduceLT, aPost, resK, tup, tyf, Int.lt_irrefl]
    refine hY [(0, v), (1, vint i), (2, vint s), (6, .bool false), (9, vint xs.length), (102, .bool false)] _ _ ?_ (by simp (maxSteps := 2000000) only [↓aw_region, ↓aw_skip, ↓aw_seq, ↓aw_block, ↓aw_exit, ↓aw_ret, ↓sops_nil, ↓sops_go, ↓dops_nil, ↓dopsX_nil, ↓dopsR_nil, ↓vdn, vup, extr_20, extr_21, extr_30, extr_31, extr_32, List.map_cons, List.map_nil, cond_true, cond_false, aop, aThen, aBlock, argEnv, ev, sput, sputO, binK, binI, unK, builtinK, pickK, Nat.reduceBEq, Nat.reduceAdd, Int.reduceBEq, Int.reduceBNe, Int.reduceLT, aPost, resK, tup, tyf])
    refine aw_aws ?_
    simp (maxSteps := 2000000) only [s13, ↓aw_region, ↓aw_skip, ↓aw_seq, ↓aw_block, ↓aw_exit, ↓aw_ret, ↓sops_nil, ↓sops_go, ↓dops_nil, ↓dopsX_nil, ↓dopsR_nil, ↓vdn, vup, extr_20, extr_21, extr_30, extr_31, extr_32, List.map_cons, List.map_nil, cond_true, cond_false, aop, aThen, aBlock, argEnv, ev, sput, sputO, binK, binI, unK, builtinK, pickK, Nat.reduceBEq, Nat.reduceAdd, Int.reduceBEq, Int.reduceBNe, Int.reduceLT, aPost, resK, tup, tyf]
    refine hQ4 _ _ _ (hQ3 _ _ _ ?_)
    simp (maxSteps := 2000000) only [s13, ↓aw_region, ↓aw_skip, ↓aw_seq, ↓aw_block, ↓aw_exit, ↓aw_ret, ↓sops_nil, ↓sops_go, ↓dops_nil, ↓dopsX_nil, ↓dopsR_nil, ↓vdn, vup, extr_20, extr_21, extr_30, extr_31, extr_32, List.map_cons, List.map_nil, cond_true, cond_false, aop, aThen, aBlock, argEnv, ev, sput, sputO, binK, binI, unK, builtinK, pickK, Nat.reduceBEq, Nat.reduceAdd, Int.reduceBEq, Int.reduceBNe, Int.reduceLT, aPost, resK, tup, tyf, if_true]
    exact hN _ (by simp (maxSteps := 2000000) only [↓aw_region, ↓aw_skip, ↓aw_seq, ↓aw_block, ↓aw_exit, ↓aw_ret, ↓sops_nil, ↓sops_go, ↓dops_nil, ↓dopsX_nil, ↓dopsR_nil, ↓vdn, vup, extr_20, extr_21, extr_30, extr_31, extr_32, List.map_cons, List.map_nil, cond_true, cond_false, aop, aThen, aBlock, argEnv, ev, sput, sputO, binK, binI, unK, builtinK, pickK, Nat.reduceBEq, Nat.reduceAdd, Int.reduceBEq, Int.reduceBNe, Int.reduceLT, aPost, resK, tup, tyf])
end Go.Proofs.Tryd.Am

namespace Go.Proofs.Tryd.Am
open Go.Am Rb Rch
set_option maxRecDepth 100000
set_option maxHeartbeats 1000000

theorem s82_callW [Tabs Tryd.prog] {args : List Value} {h : Heap} {Q : Value → Heap → Prop} (hsz : args.length ≤ 24) (hk : AWS Tryd.prog 24 s82 (aPost Tryd.prog [.tmp 4] Q) (argEnv 0 args) h) : ACall Tryd.prog 82 args h Q :=
  acall_w Tryd.func82 rfl (enters_of Tryd.func82 (by kernel_rfl) rfl) rfl rfl (by decide) s82_strip s82_ok hsz hk
theorem reach_call [BitTab prog 1] {h : Heap} {v : Value} {xs : List Int} {i : Nat} (hv : IntSl h v xs) (ht : trn xs = true) (hi : i < xs.length) : APure prog 82 [v, vint i] h (vint (rch xs i : Nat)) := by
  refine ACall.forget (Low.int _ _) ?_
  have hxl := trn_len ht
  have h256 := pow8N hxl.2
  have hnn : ∀ i : Nat, (0 : Int) ≤ (i : Int) := Int.natCast_nonneg
  have box55 : ∀ {K : Value → Heap → Prop}, boxK prog h 55 v K = K (newPtr h) (h ++ [.cells [v] 55 false]) := fun {K} => by
    rcases hv with ⟨rfl, _⟩ | ⟨b, o, sp, cap, c, e, ro, rfl, _⟩ <;> simp [boxK, cellsOf, esz_55]
  refine s82_callW (by simp) ?_
  simp only [s82]
  refine aws_cut fun N1 hN1 => ?_
  simp (maxSteps := 2000000) only [s82, ↓aw_region, ↓aw_skip, ↓aw_seq, ↓aw_block, ↓aw_exit, ↓aw_ret, ↓sops_nil, ↓sops_go, ↓dops_nil, ↓dopsX_nil, ↓dopsR_nil, ↓vdn, vup, extr_20, extr_21, extr_30, extr_31, extr_32, List.map_cons, List.map_nil, cond_true, cond_false, aop, aThen, aBlock, argEnv, ev, sput, sputO, binK, binI, unK, builtinK, pickK, Nat.reduceBEq, Nat.reduceAdd, Int.reduceBEq, Int.reduceBNe, Int.reduceLT, aPost, resK, tup, tyf, box55]
  refine hN1 [(0, v), (1, vint i), (2, .pointer (some ⟨h.length, 0, none⟩)), (4, .int .i64 0)] _ _ ?_ (by simp (maxSteps := 2000000) only [↓aw_region, ↓aw_skip, ↓aw_seq, ↓aw_block, ↓aw_exit, ↓aw_ret, ↓sops_nil, ↓sops_go, ↓dops_nil, ↓dopsX_nil, ↓dopsR_nil, ↓vdn, vup, extr_20, extr_21, extr_30, extr_31, extr_32, List.map_cons, List.map_nil, cond_true, cond_false, aop, aThen, aBlock, argEnv, ev, sput, sputO, binK, binI, unK, builtinK, pickK, Nat.reduceBEq, Nat.reduceAdd, Int.reduceBEq, Int.reduceBNe, Int.reduceLT, aPost, resK, tup, tyf])
  clear hN1
  try clear N1
  obtain ⟨H, hH⟩ : ∃ H, H = h ++ [Blk.cells [v] 55 false] := ⟨_, rfl⟩
  have hE0 : Ext (fun _ => False) h H := by rw [hH]; exact Ext.app _ _ _
  have b0 : H[h.length]? = some (.cells [v] 55 false) := by rw [hH]; exact get_new _ _
  have hHl : H.length = h.length + 1 := by rw [hH]; simp
  rw [← hH]
  clear hH
  have hvH := IntSl_ext hv hE0
  refine aws_cut fun N2 hN2 => ?_
  simp (maxSteps := 2000000) only [s82, ↓aw_region, ↓aw_skip, ↓aw_seq, ↓aw_block, ↓aw_exit, ↓aw_ret, ↓sops_nil, ↓sops_go, ↓dops_nil, ↓dopsX_nil, ↓dopsR_nil, ↓vdn, vup, extr_20, extr_21, extr_30, extr_31, extr_32, List.map_cons, List.map_nil, cond_true, cond_false, aop, aThen, aBlock, argEnv, ev, sput, sputO, binK, binI, unK, builtinK, pickK, Nat.reduceBEq, Nat.reduceAdd, Int.reduceBEq, Int.reduceBNe, Int.reduceLT, aPost, resK, tup, tyf, hnn, shlI1 (show i ≤ 62 by omega), allocK, newPtr, zero_3]
  rw [storeI (v := .int .i64 0) (e := 3) (get_new _ _) shp_3]
  obtain ⟨G, hG⟩ : ∃ G, G = (H ++ [Blk.cells [Value.int .i64 0] 3 false]).set H.length (Blk.cells [vint ((2 ^ i : Nat) : Int)] 3 false) := ⟨_, rfl⟩
  have hE1 : Ext (fun _ => False) H G := ⟨by rw [hG]; simp, fun j hj _ => by rw [hG, List.getElem?_set_ne (by omega), List.getElem?_append_left hj]⟩
  have b1 : G[H.length]? = some (.cells [vint ((2 ^ i : Nat) : Int)] 3 false) := by rw [hG]; exact get_set (by simp) _
  rw [← hG]
  clear hG
  refine hN2 [(0, v), (1, vint i), (2, .pointer (some ⟨h.length, 0, none⟩)), (4, .int .i64 0), (5, .pointer (some ⟨H.length, 0, none⟩))] _ _ ?_ (by simp (maxSteps := 2000000) only [↓aw_region, ↓aw_skip, ↓aw_seq, ↓aw_block, ↓aw_exit, ↓aw_ret, ↓sops_nil, ↓sops_go, ↓dops_nil, ↓dopsX_nil, ↓dopsR_nil, ↓vdn, vup, extr_20, extr_21, extr_30, extr_31, extr_32, List.map_cons, List.map_nil, cond_true, cond_false, aop, aThen, aBlock, argEnv, ev, sput, sputO, binK, binI, unK, builtinK, pickK, Nat.reduceBEq, Nat.reduceAdd, Int.reduceBEq, Int.reduceBNe, Int.reduceLT, aPost, resK, tup, tyf])
  clear hN2
  try clear N2
  have b0G := (hE1.2 _ (get_lt b0) id).trans b0
  have hvG := IntSl_ext hvH hE1
  have hEG := hE0.trans hE1
  generalize hbs : H.length = bs at *
  refine aws_cut fun Z hZ => ?_
  simp (maxSteps := 2000000) only [s82, ↓aw_region, ↓aw_skip, ↓aw_seq, ↓aw_block, ↓aw_exit, ↓aw_ret, ↓sops_nil, ↓sops_go, ↓dops_nil, ↓dopsX_nil, ↓dopsR_nil, ↓vdn, vup, extr_20, extr_21, extr_30, extr_31, extr_32, List.map_cons, List.map_nil, cond_true, cond_false, aop, aThen, aBlock, argEnv, ev, sput, sputO, binK, binI, unK, builtinK, pickK, Nat.reduceBEq, Nat.reduceAdd, Int.reduceBEq, Int.reduceBNe, Int.reduceLT, aPost, resK, tup, tyf, load1 b0G shp_55, hvG.len, ↓aw_loop_eq]
  refine aws_hide fun Q hQ => ?_
  refine aw_loop (γ := Nat × Heap) (fun s => s.1 ≤ xs.length ∧ Ext (fun _ => False) h s.2 ∧ s.2[h.length]? = some (.cells [v] 55 false) ∧ s.2[bs]? = some (.cells [vint (pR xs i s.1 : Nat)] 3 false))
    (fun s => ([(0, v), (1, vint i), (2, .pointer (some ⟨h.length, 0, none⟩)), (4, .int .i64 0), (5, .pointer (some ⟨bs, 0, none⟩)), (9, v), (10, vint xs.length), (11, vint s.1)], s.2)) (fun s => xs.length - s.1) (0, G) ⟨Nat.zero_le _, hEG, b0G, by rw [pR]; exact b1⟩ (by simp (maxSteps := 2000000) only [↓aw_region, ↓aw_skip, ↓aw_seq, ↓aw_block, ↓aw_exit, ↓aw_ret, ↓sops_nil, ↓sops_go, ↓dops_nil, ↓dopsX_nil, ↓dopsR_nil, ↓vdn, vup, extr_20, extr_21, extr_30, extr_31, extr_32, List.map_cons, List.map_nil, cond_true, cond_false, aop, aThen, aBlock, argEnv, ev, sput, sputO, binK, binI, unK, builtinK, pickK, Nat.reduceBEq, Nat.reduceAdd, Int.reduceBEq, Int.reduceBNe, Int.reduceLT, aPost, resK, tup, tyf, Int.natCast_zero]) rfl ?_
  clear b0G b1 hvG hEG hE1 hE0 b0 hvH
  rintro ⟨k, hp⟩ ⟨hk, hE, bp, bS⟩
  simp only at hk hE bp bS
  refine aw_hide fun Q2 hQ2 => ?_
  have hvp := IntSl_ext hv hE
  by_cases hkn : (k : Int) < xs.length
  · have hlt := pR_lt ht hi k
    simp (maxSteps := 2000000) only [s82, ↓aw_region, ↓aw_skip, ↓aw_seq, ↓aw_block, ↓aw_exit, ↓aw_ret, ↓sops_nil, ↓sops_go, ↓dops_nil, ↓dopsX_nil, ↓dopsR_nil, ↓vdn, vup, extr_20, extr_21, extr_30, extr_31, extr_32, List.map_cons, List.map_nil, cond_true, cond_false, aop, aThen, aBlock, argEnv, ev, sput, sputO, binK, binI, unK, builtinK, pickK, Nat.reduceBEq, Nat.reduceAdd, Int.reduceBEq, Int.reduceBNe, Int.reduceLT, aPost, resK, tup, tyf, l82_1, hkn, load1 bS shp_3, callK, List.nil_append, List.append_nil, List.toList_toArray, List.cons_append]
    refine players_call.mono ?_
    rintro v' h3 ⟨rfl, rfl⟩
    have hbl := get_lt bS
    have hpl := get_lt bp
    have hEl := hE.1
    refine aw_range bitIter (bx := hp.length) (s := pR xs i k) (et := 3) rfl (get_new _ _) (by omega) (fun pre hk => Ext (fun _ => False) h hk ∧ hk[h.length]? = some (.cells [v] 55 false) ∧ hk[bs]? = some (.cells [vint ((pre.foldl (fun r j => r ||| tN xs j) (pR xs i k) : Nat) : Int)] 3 false)) ⟨?_, ?_, ?_⟩ ?_ ?_
    · refine hE.trans ⟨by simp, fun j hj _ => ?_⟩
      rw [List.getElem?_set_ne (by omega), List.getElem?_append_left hj]
    · rw [List.getElem?_set_ne (by omega)]; exact get_old bp _
    · rw [List.getElem?_set_ne (by omega)]; exact get_old bS _
    · rintro pre j hk2 hpre ⟨hE2, bp2, bS2⟩
      obtain ⟨hj64, hjb⟩ := mem_bits.1 (mem_pre hpre)
      have hjn : j < xs.length := bit_in ht hlt hjb
      obtain ⟨hY, hYl⟩ := trn_nat ht hjn
      have hvk := IntSl_ext hv hE2
      have hlt2 : pre.foldl (fun r j => r ||| tN xs j) (pR xs i k) < 2 ^ xs.length := orf_lt ht (fun m hm => bit_in ht hlt (mem_bits.1 (hpre.subset (by simp [hm]))).2) hlt
      generalize hr : pre.foldl (fun r j => r ||| tN xs j) (pR xs i k) = r at bS2 hlt2
      have hor2 : bitsV .or .i64 (r : Int) (xs.getD j 0) = ((r ||| tN xs j : Nat) : Int) := by
        have := bitsV_or (a := r) (b := tN xs j) (by omega) (by rw [tN]; omega)
        rw [tN] at this ⊢
        rw [← hY] at this; exact this
      simp (maxSteps := 2000000) only [s82, ↓aw_region, ↓aw_skip, ↓aw_seq, ↓aw_block, ↓aw_exit, ↓aw_ret, ↓sops_nil, ↓sops_go, ↓dops_nil, ↓dopsX_nil, ↓dopsR_nil, ↓vdn, vup, extr_20, extr_21, extr_30, extr_31, extr_32, List.map_cons, List.map_nil, cond_true, cond_false, aop, aThen, aBlock, argEnv, ev, sput, sputO, binK, binI, unK, builtinK, pickK, Nat.reduceBEq, Nat.reduceAdd, Int.reduceBEq, Int.reduceBNe, Int.reduceLT, aPost, resK, tup, tyf, r82_0_a, r82_0_b]
      refine aw_drawX [] (by kernel_rfl) (by kernel_rfl) (by kernel_rfl) (by kernel_rfl) ?_
      simp (maxSteps := 2000000) only [s82, ↓aw_region, ↓aw_skip, ↓aw_seq, ↓aw_block, ↓aw_exit, ↓aw_ret, ↓sops_nil, ↓sops_go, ↓dops_nil, ↓dopsX_nil, ↓dopsR_nil, ↓vdn, vup, extr_20, extr_21, extr_30, extr_31, extr_32, List.map_cons, List.map_nil, cond_true, cond_false, aop, aThen, aBlock, argEnv, ev, sput, sputO, binK, binI, unK, builtinK, pickK, Nat.reduceBEq, Nat.reduceAdd, Int.reduceBEq, Int.reduceBNe, Int.reduceLT, aPost, resK, tup, tyf, load1 bS2 shp_3, load1 bp2 shp_55, hvk.idx el_55 esz_3 hjn, hvk.load shp_3 hjn, hor2, storeI bS2 shp_3]
      have hbl2 := get_lt bS2
      refine ⟨?_, ?_, ?_⟩
      · exact hE2.set_ge (by omega) _
      · rw [List.getElem?_set_ne (by omega)]; exact bp2
      · rw [get_set (get_lt bS2), List.foldl_append, hr]; rfl
    · rintro hk2 ⟨hE2, bp2, bS2⟩
      simp (maxSteps := 2000000) only [s82, ↓aw_region, ↓aw_skip, ↓aw_seq, ↓aw_block, ↓aw_exit, ↓aw_ret, ↓sops_nil, ↓sops_go, ↓dops_nil, ↓dopsX_nil, ↓dopsR_nil, ↓vdn, vup, extr_20, extr_21, extr_30, extr_31, extr_32, List.map_cons, List.map_nil, cond_true, cond_false, aop, aThen, aBlock, argEnv, ev, sput, sputO, binK, binI, unK, builtinK, pickK, Nat.reduceBEq, Nat.reduceAdd, Int.reduceBEq, Int.reduceBNe, Int.reduceLT, aPost, resK, tup, tyf, add1 (show k < 9223372036854775807 by omega)]
      exact hQ2 _ _ _ ⟨(k + 1, hk2), ⟨by simp only; omega, hE2, bp2, bS2⟩, by simp only; omega, by simp (maxSteps := 2000000) only [↓aw_region, ↓aw_skip, ↓aw_seq, ↓aw_block, ↓aw_exit, ↓aw_ret, ↓sops_nil, ↓sops_go, ↓dops_nil, ↓dopsX_nil, ↓dopsR_nil, ↓vdn, vup, extr_20, extr_21, extr_30, extr_31, extr_32, List.map_cons, List.map_nil, cond_true, cond_false, aop, aThen, aBlock, argEnv, ev, sput, sputO, binK, binI, unK, builtinK, pickK, Nat.reduceBEq, Nat.reduceAdd, Int.reduceBEq, Int.reduceBNe, Int.reduceLT, aPost, resK, tup, tyf], rfl⟩
  · obtain rfl : k = xs.length := by omega
    simp (maxSteps := 2000000) only [s82, ↓aw_region, ↓aw_skip, ↓aw_seq, ↓aw_block, ↓aw_exit, ↓aw_ret, ↓sops_nil, ↓sops_go, ↓dops_nil, ↓dopsX_nil, ↓dopsR_nil, ↓vdn, vup, extr_20, extr_21, extr_30, extr_31, extr_32, List.map_cons, List.map_nil, cond_true, cond_false, aop, aThen, aBlock, argEnv, ev, sput, sputO, binK, binI, unK, builtinK, pickK, Nat.reduceBEq, Nat.reduceAdd, Int.reduceBEq, Int.reduceBNe, Int.reduceLT, aPost, resK, tup, tyf, l82_1, Int.lt_irrefl]
    refine hQ2 _ _ _ (hQ _ _ _ ?_)
    simp (maxSteps := 2000000) only [s82, ↓aw_region, ↓aw_skip, ↓aw_seq, ↓aw_block, ↓aw_exit, ↓aw_ret, ↓sops_nil, ↓sops_go, ↓dops_nil, ↓dopsX_nil, ↓dopsR_nil, ↓vdn, vup, extr_20, extr_21, extr_30, extr_31, extr_32, List.map_cons, List.map_nil, cond_true, cond_false, aop, aThen, aBlock, argEnv, ev, sput, sputO, binK, binI, unK, builtinK, pickK, Nat.reduceBEq, Nat.reduceAdd, Int.reduceBEq, Int.reduceBNe, Int.reduceLT, aPost, resK, tup, tyf, if_true]
    refine hZ [(0, v), (1, vint i), (2, .pointer (some ⟨h.length, 0, none⟩)), (4, .int .i64 0), (5, .pointer (some ⟨bs, 0, none⟩))] _ _ ?_ (by simp (maxSteps := 2000000) only [↓aw_region, ↓aw_skip, ↓aw_seq, ↓aw_block, ↓aw_exit, ↓aw_ret, ↓sops_nil, ↓sops_go, ↓dops_nil, ↓dopsX_nil, ↓dopsR_nil, ↓vdn, vup, extr_20, extr_21, extr_30, extr_31, extr_32, List.map_cons, List.map_nil, cond_true, cond_false, aop, aThen, aBlock, argEnv, ev, sput, sputO, binK, binI, unK, builtinK, pickK, Nat.reduceBEq, Nat.reduceAdd, Int.reduceBEq, Int.reduceBNe, Int.reduceLT, aPost, resK, tup, tyf])
    clear hZ
    try clear Z
    refine aw_aws ?_
    simp (maxSteps := 2000000) only [s82, ↓aw_region, ↓aw_skip, ↓aw_seq, ↓aw_block, ↓aw_exit, ↓aw_ret, ↓sops_nil, ↓sops_go, ↓dops_nil, ↓dopsX_nil, ↓dopsR_nil, ↓vdn, vup, extr_20, extr_21, extr_30, extr_31, extr_32, List.map_cons, List.map_nil, cond_true, cond_false, aop, aThen, aBlock, argEnv, ev, sput, sputO, binK, binI, unK, builtinK, pickK, Nat.reduceBEq, Nat.reduceAdd, Int.reduceBEq, Int.reduceBNe, Int.reduceLT, aPost, resK, tup, tyf, load1 bS shp_3]
    exact ⟨rfl, hE⟩
end Go.Proofs.Tryd.Am

namespace Go.Proofs.Tryd.Am
open Go.Am Rb
set_option maxRecDepth 100000
set_option maxHeartbeats 1000000

theorem s120_callW [Tabs Tryd.prog] {args : List Value} {h : Heap} {Q : Value → Heap → Prop} (hsz : args.length ≤ 53) (hk : AWS Tryd.prog 53 s120 (aPost Tryd.prog [] Q) (argEnv 0 args) h) : ACall Tryd.prog 120 args h Q :=
  acall_w Tryd.func120 rfl (enters_of Tryd.func120 (by kernel_rfl) rfl) rfl rfl (by decide) s120_strip s120_ok hsz hk
theorem isortF_call [Tabs prog] {h : Heap} {b : Nat} {L0 : List Nat} {ys : List Int} {g : FuncId} {cap : Array Value} {key : Nat → Int} (hk : ∀ x ∈ L0, -1000 ≤ key x ∧ key x ≤ 1000) (hc : ∀ L x y, x ∈ L0 → y ∈ L0 → APure prog g ([vint x, vint y] ++ cap.toList) (h.set b (.ints (iL L ++ ys) 3 false)) (vint (key x - key y))) (hb : h[b]? = some (.ints (iL L0 ++ ys) 3 false)) (hl : L0.length ≤ 12) (hx : ∀ x ∈ L0, x < 4611686018427387904) :
    ACall prog 120 [ov b L0.length ys.length, .int .i64 0, vint L0.length, .func (.func g) #[] cap] h fun _ h' => ∃ L : List Nat, L.Perm L0 ∧ L.Pairwise (fun a b => key a ≤ key b) ∧ h' = h.set b (.ints (iL L ++ ys) 3 false) := by
  have hlt := get_lt hb
  have h0 : h = h.set b (.ints (iL L0 ++ ys) 3 false) := by
    apply List.ext_getElem?
    intro i
    by_cases hi : b = i
    · subst hi; rw [get_set hlt, hb]
    · rw [List.getElem?_set_ne hi]
  obtain ⟨n, hn⟩ : ∃ n, L0.length = n := ⟨_, rfl⟩
  rw [hn] at hl ⊢
  have hrange : ∀ {L : List Nat}, L.Perm L0 → ∀ i, L.getD i 0 < 4611686018427387904 := fun {L} hp i => by
    by_cases hi : i < L.length
    · rw [List.getD, List.getElem?_eq_getElem hi]; exact hx _ (hp.mem_iff.1 (List.getElem_mem hi))
    · rw [List.getD, List.getElem?_eq_none (by omega)]; decide
  refine s120_callW (by simp) ?_
  simp only [s120]
  have e01 : addV .i64 0 1 = 1 := rfl
  refine aws_cut fun N1 hN1 => ?_
  simp (maxSteps := 2000000) only [s120, ↓aw_region, ↓aw_skip, ↓aw_seq, ↓aw_block, ↓aw_exit, ↓aw_ret, ↓sops_nil, ↓sops_go, ↓dops_nil, ↓dopsX_nil, ↓dopsR_nil, ↓vdn, vup, extr_20, extr_21, extr_30, extr_31, extr_32, List.map_cons, List.map_nil, cond_true, cond_false, aop, aThen, aBlock, argEnv, ev, sput, sputO, binK, binI, unK, builtinK, pickK, Nat.reduceBEq, Nat.reduceAdd, Int.reduceBEq, Int.reduceBNe, Int.reduceLT, aPost, resK, tup, tyf, e01]
  refine hN1 [(0, ov b n ys.length), (1, .int .i64 0), (2, vint n), (3, .func (.func g) #[] cap), (8, .int .i64 1)] _ _ ?_ (by simp (maxSteps := 2000000) only [↓aw_region, ↓aw_skip, ↓aw_seq, ↓aw_block, ↓aw_exit, ↓aw_ret, ↓sops_nil, ↓sops_go, ↓dops_nil, ↓dopsX_nil, ↓dopsR_nil, ↓vdn, vup, extr_20, extr_21, extr_30, extr_31, extr_32, List.map_cons, List.map_nil, cond_true, cond_false, aop, aThen, aBlock, argEnv, ev, sput, sputO, binK, binI, unK, builtinK, pickK, Nat.reduceBEq, Nat.reduceAdd, Int.reduceBEq, Int.reduceBNe, Int.reduceLT, aPost, resK, tup, tyf])
  clear hN1
  try clear N1
  refine aws_block ?_
  refine aws_hide fun Q hQ => ?_
  refine aw_loopW (γ := Nat × List Nat) (fun s => 1 ≤ s.1 ∧ (s.1 ≤ n ∨ s.1 = 1) ∧ s.2.Perm L0 ∧ SrtTo key s.2 s.1)
    (fun s => ([(0, ov b n ys.length), (1, .int .i64 0), (2, vint n), (3, .func (.func g) #[] cap), (8, vint s.1)], h.set b (.ints (iL s.2 ++ ys) 3 false))) (fun s => n - s.1) (1, L0) ⟨Nat.le_refl _, .inr rfl, .refl _, fun p q _ _ => by omega⟩ (by simp (maxSteps := 2000000) only [↓aw_region, ↓aw_skip, ↓aw_seq, ↓aw_block, ↓aw_exit, ↓aw_ret, ↓sops_nil, ↓sops_go, ↓dops_nil, ↓dopsX_nil, ↓dopsR_nil, ↓vdn, vup, extr_20, extr_21, extr_30, extr_31, extr_32, List.map_cons, List.map_nil, cond_true, cond_false, aop, aThen, aBlock, argEnv, ev, sput, sputO, binK, binI, unK, builtinK, pickK, Nat.reduceBEq, Nat.reduceAdd, Int.reduceBEq, Int.reduceBNe, Int.reduceLT, aPost, resK, tup, tyf, Int.natCast_one]) h0 ?_
  rintro ⟨i, L⟩ ⟨hi1, hi, hp, hs⟩
  simp only at hi1 hi hp hs
  have hLn : L.length = n := hp.length_eq.trans hn
  refine aws_hide fun Q2 hQ2 => ?_
  simp only [l120_1]
  by_cases hin : (i : Int) < n
  · have hi' : i < n := by omega
    refine aws_cut fun N2 hN2 => ?_
    simp (maxSteps := 2000000) only [s120, ↓aw_region, ↓aw_skip, ↓aw_seq, ↓aw_block, ↓aw_exit, ↓aw_ret, ↓sops_nil, ↓sops_go, ↓dops_nil, ↓dopsX_nil, ↓dopsR_nil, ↓vdn, vup, extr_20, extr_21, extr_30, extr_31, extr_32, List.map_cons, List.map_nil, cond_true, cond_false, aop, aThen, aBlock, argEnv, ev, sput, sputO, binK, binI, unK, builtinK, pickK, Nat.reduceBEq, Nat.reduceAdd, Int.reduceBEq, Int.reduceBNe, Int.reduceLT, aPost, resK, tup, tyf, hin]
    refine hN2 [(0, ov b n ys.length), (1, .int .i64 0), (2, vint n), (3, .func (.func g) #[] cap), (8, vint i)] _ _ ?_ (by simp (maxSteps := 2000000) only [↓aw_region, ↓aw_skip, ↓aw_seq, ↓aw_block, ↓aw_exit, ↓aw_ret, ↓sops_nil, ↓sops_go, ↓dops_nil, ↓dopsX_nil, ↓dopsR_nil, ↓vdn, vup, extr_20, extr_21, extr_30, extr_31, extr_32, List.map_cons, List.map_nil, cond_true, cond_false, aop, aThen, aBlock, argEnv, ev, sput, sputO, binK, binI, unK, builtinK, pickK, Nat.reduceBEq, Nat.reduceAdd, Int.reduceBEq, Int.reduceBNe, Int.reduceLT, aPost, resK, tup, tyf])
    clear hN2
    try clear N2
    refine aws_cutW fun M hM => ?_
    refine aws_block ?_
    refine aws_cut fun N3 hN3 => ?_
    simp (maxSteps := 2000000) only [s120, ↓aw_region, ↓aw_skip, ↓aw_seq, ↓aw_block, ↓aw_exit, ↓aw_ret, ↓sops_nil, ↓sops_go, ↓dops_nil, ↓dopsX_nil, ↓dopsR_nil, ↓vdn, vup, extr_20, extr_21, extr_30, extr_31, extr_32, List.map_cons, List.map_nil, cond_true, cond_false, aop, aThen, aBlock, argEnv, ev, sput, sputO, binK, binI, unK, builtinK, pickK, Nat.reduceBEq, Nat.reduceAdd, Int.reduceBEq, Int.reduceBNe, Int.reduceLT, aPost, resK, tup, tyf]
    refine hN3 [(0, ov b n ys.length), (1, .int .i64 0), (2, vint n), (3, .func (.func g) #[] cap), (8, vint i), (9, vint i)] _ _ ?_ (by simp (maxSteps := 2000000) only [↓aw_region, ↓aw_skip, ↓aw_seq, ↓aw_block, ↓aw_exit, ↓aw_ret, ↓sops_nil, ↓sops_go, ↓dops_nil, ↓dopsX_nil, ↓dopsR_nil, ↓vdn, vup, extr_20, extr_21, extr_30, extr_31, extr_32, List.map_cons, List.map_nil, cond_true, cond_false, aop, aThen, aBlock, argEnv, ev, sput, sputO, binK, binI, unK, builtinK, pickK, Nat.reduceBEq, Nat.reduceAdd, Int.reduceBEq, Int.reduceBNe, Int.reduceLT, aPost, resK, tup, tyf])
    clear hN3
    try clear N3
    refine aws_block ?_
    refine aws_hide fun Q3 hQ3 => ?_
    refine aw_loopW (γ := Nat × List Nat) (fun s => s.1 ≤ i ∧ s.2.Perm L0 ∧ SrtBut key s.2 i s.1)
      (fun s => ([(0, ov b n ys.length), (1, .int .i64 0), (2, vint n), (3, .func (.func g) #[] cap), (8, vint i), (9, vint s.1)], h.set b (.ints (iL s.2 ++ ys) 3 false))) (fun s => s.1) (i, L) ⟨Nat.le_refl _, hp, fun p q h1 h2 h3 => hs p q h1 (by omega)⟩ (by simp (maxSteps := 2000000) only [↓aw_region, ↓aw_skip, ↓aw_seq, ↓aw_block, ↓aw_exit, ↓aw_ret, ↓sops_nil, ↓sops_go, ↓dops_nil, ↓dopsX_nil, ↓dopsR_nil, ↓vdn, vup, extr_20, extr_21, extr_30, extr_31, extr_32, List.map_cons, List.map_nil, cond_true, cond_false, aop, aThen, aBlock, argEnv, ev, sput, sputO, binK, binI, unK, builtinK, pickK, Nat.reduceBEq, Nat.reduceAdd, Int.reduceBEq, Int.reduceBNe, Int.reduceLT, aPost, resK, tup, tyf]) rfl ?_
    clear hp hs hLn
    rintro ⟨j, L⟩ ⟨hj, hp, hs⟩
    simp only at hj hp hs
    have hLn : L.length = n := hp.length_eq.trans hn
    have own := ov_own (h := h) (b := b) (n := n) (L := L) (ys := ys) hlt hLn
    refine aws_hide fun Q4 hQ4 => ?_
    simp only [l120_0]
    have fin : (j = 0 ∨ key (L.getD (j - 1) 0) ≤ key (L.getD j 0)) → ∀ e, ELe e [(0, ov b n ys.length), (1, .int .i64 0), (2, vint n), (3, .func (.func g) #[] cap), (8, vint i)] → M e (h.set b (.ints (iL L ++ ys) 3 false)) := by
      intro hd e he
      refine hM [(0, ov b n ys.length), (1, .int .i64 0), (2, vint n), (3, .func (.func g) #[] cap), (8, vint i)] _ _ ?_ he
      refine aw_aws ?_
      simp (maxSteps := 2000000) only [s120, ↓aw_region, ↓aw_skip, ↓aw_seq, ↓aw_block, ↓aw_exit, ↓aw_ret, ↓sops_nil, ↓sops_go, ↓dops_nil, ↓dopsX_nil, ↓dopsR_nil, ↓vdn, vup, extr_20, extr_21, extr_30, extr_31, extr_32, List.map_cons, List.map_nil, cond_true, cond_false, aop, aThen, aBlock, argEnv, ev, sput, sputO, binK, binI, unK, builtinK, pickK, Nat.reduceBEq, Nat.reduceAdd, Int.reduceBEq, Int.reduceBNe, Int.reduceLT, aPost, resK, tup, tyf, add1 (show i < 9223372036854775807 by omega)]
      exact hQ2 _ _ _ ⟨(i + 1, L), ⟨by simp only; omega, .inl (by simp only; omega), hp, hs.done hd⟩, by simp only; omega, by simp (maxSteps := 2000000) only [↓aw_region, ↓aw_skip, ↓aw_seq, ↓aw_block, ↓aw_exit, ↓aw_ret, ↓sops_nil, ↓sops_go, ↓dops_nil, ↓dopsX_nil, ↓dopsR_nil, ↓vdn, vup, extr_20, extr_21, extr_30, extr_31, extr_32, List.map_cons, List.map_nil, cond_true, cond_false, aop, aThen, aBlock, argEnv, ev, sput, sputO, binK, binI, unK, builtinK, pickK, Nat.reduceBEq, Nat.reduceAdd, Int.reduceBEq, Int.reduceBNe, Int.reduceLT, aPost, resK, tup, tyf], rfl⟩
    by_cases hj0 : j = 0
    · subst hj0
      refine aws_cut fun N4 hN4 => ?_
      simp (maxSteps := 2000000) only [s120, ↓aw_region, ↓aw_skip, ↓aw_seq, ↓aw_block, ↓aw_exit, ↓aw_ret, ↓sops_nil, ↓sops_go, ↓dops_nil, ↓dopsX_nil, ↓dopsR_nil, ↓vdn, vup, extr_20, extr_21, extr_30, extr_31, extr_32, List.map_cons, List.map_nil, cond_true, cond_false, aop, aThen, aBlock, argEnv, ev, sput, sputO, binK, binI, unK, builtinK, pickK, Nat.reduceBEq, Nat.reduceAdd, Int.reduceBEq, Int.reduceBNe, Int.reduceLT, aPost, resK, tup, tyf]
      refine aw_drawX [(14, 1)] (by kernel_rfl) (by kernel_rfl) (by kernel_rfl) (by kernel_rfl) ?_
      simp (maxSteps := 2000000) only [s120, ↓aw_region, ↓aw_skip, ↓aw_seq, ↓aw_block, ↓aw_exit, ↓aw_ret, ↓sops_nil, ↓sops_go, ↓dops_nil, ↓dopsX_nil, ↓dopsR_nil, ↓vdn, vup, extr_20, extr_21, extr_30, extr_31, extr_32, List.map_cons, List.map_nil, cond_true, cond_false, aop, aThen, aBlock, argEnv, ev, sput, sputO, binK, binI, unK, builtinK, pickK, Nat.reduceBEq, Nat.reduceAdd, Int.reduceBEq, Int.reduceBNe, Int.reduceLT, aPost, resK, tup, tyf, gt_iff_lt, Int.natCast_zero, Int.lt_irrefl]
      refine hQ4 _ _ _ (hQ3 _ _ _ ?_)
      simp (maxSteps := 2000000) only [s120, ↓aw_region, ↓aw_skip, ↓aw_seq, ↓aw_block, ↓aw_exit, ↓aw_ret, ↓sops_nil, ↓sops_go, ↓dops_nil, ↓dopsX_nil, ↓dopsR_nil, ↓vdn, vup, extr_20, extr_21, extr_30, extr_31, extr_32, List.map_cons, List.map_nil, cond_true, cond_false, aop, aThen, aBlock, argEnv, ev, sput, sputO, binK, binI, unK, builtinK, pickK, Nat.reduceBEq, Nat.reduceAdd, Int.reduceBEq, Int.reduceBNe, Int.reduceLT, aPost, resK, tup, tyf, if_true]
      exact fin (.inl rfl) _ (by simp (maxSteps := 2000000) only [↓aw_region, ↓aw_skip, ↓aw_seq, ↓aw_block, ↓aw_exit, ↓aw_ret, ↓sops_nil, ↓sops_go, ↓dops_nil, ↓dopsX_nil, ↓dopsR_nil, ↓vdn, vup, extr_20, extr_21, extr_30, extr_31, extr_32, List.map_cons, List.map_nil, cond_true, cond_false, aop, aThen, aBlock, argEnv, ev, sput, sputO, binK, binI, unK, builtinK, pickK, Nat.reduceBEq, Nat.reduceAdd, Int.reduceBEq, Int.reduceBNe, Int.reduceLT, aPost, resK, tup, tyf])
    · have hjp : (0 : Int) < (j : Int) := by omega
      have hjn : j < (iL L).length := by rw [iL_len]; omega
      have hj1n : j - 1 < (iL L).length := by omega
      have hin1 : ∀ i, i < n → L.getD i 0 ∈ L0 := fun i hi => hp.mem_iff.1 (by rw [List.getD, List.getElem?_eq_getElem (by omega), Option.getD_some]; exact List.getElem_mem _)
      have c1 := hc L _ _ (hin1 j (by omega)) (hin1 (j - 1) (by omega))
      have hk1 := hk _ (hin1 j (by omega))
      have hk2 := hk _ (hin1 (j - 1) (by omega))
      have hsub := subN1 (show 1 ≤ j by omega) (show j < 9223372036854775808 by omega)
      by_cases hlt2 : key (L.getD j 0) < key (L.getD (j - 1) 0)
      · have hneg : key (L.getD j 0) - key (L.getD (j - 1) 0) < 0 := by omega
        refine aws_cut fun N5 hN5 => ?_
        simp (maxSteps := 2000000) only [s120, ↓aw_region, ↓aw_skip, ↓aw_seq, ↓aw_block, ↓aw_exit, ↓aw_ret, ↓sops_nil, ↓sops_go, ↓dops_nil, ↓dopsX_nil, ↓dopsR_nil, ↓vdn, vup, extr_20, extr_21, extr_30, extr_31, extr_32, List.map_cons, List.map_nil, cond_true, cond_false, aop, aThen, aBlock, argEnv, ev, sput, sputO, binK, binI, unK, builtinK, pickK, Nat.reduceBEq, Nat.reduceAdd, Int.reduceBEq, Int.reduceBNe, Int.reduceLT, aPost, resK, tup, tyf]
        refine aw_drawX [(14, 1)] (by kernel_rfl) (by kernel_rfl) (by kernel_rfl) (by kernel_rfl) ?_
        simp (maxSteps := 2000000) only [s120, ↓aw_region, ↓aw_skip, ↓aw_seq, ↓aw_block, ↓aw_exit, ↓aw_ret, ↓sops_nil, ↓sops_go, ↓dops_nil, ↓dopsX_nil, ↓dopsR_nil, ↓vdn, vup, extr_20, extr_21, extr_30, extr_31, extr_32, List.map_cons, List.map_nil, cond_true, cond_false, aop, aThen, aBlock, argEnv, ev, sput, sputO, binK, binI, unK, builtinK, pickK, Nat.reduceBEq, Nat.reduceAdd, Int.reduceBEq, Int.reduceBNe, Int.reduceLT, aPost, resK, tup, tyf, gt_iff_lt, hjp, hsub, own.int.idx el_22 esz_3 hjn, own.int.load shp_3 hjn, own.int.idx el_22 esz_3 hj1n, own.int.load shp_3 hj1n, iL_get, callK, List.nil_append, List.append_nil, List.toList_toArray, List.cons_append]
        refine ⟨_, _, c1, rfl, ?_⟩
        simp (maxSteps := 2000000) only [s120, ↓aw_region, ↓aw_skip, ↓aw_seq, ↓aw_block, ↓aw_exit, ↓aw_ret, ↓sops_nil, ↓sops_go, ↓dops_nil, ↓dopsX_nil, ↓dopsR_nil, ↓vdn, vup, extr_20, extr_21, extr_30, extr_31, extr_32, List.map_cons, List.map_nil, cond_true, cond_false, aop, aThen, aBlock, argEnv, ev, sput, sputO, binK, binI, unK, builtinK, pickK, Nat.reduceBEq, Nat.reduceAdd, Int.reduceBEq, Int.reduceBNe, Int.reduceLT, aPost, resK, tup, tyf, hneg, decide_true, decide_false]
        refine hN5 [(0, ov b n ys.length), (1, .int .i64 0), (2, vint n), (3, .func (.func g) #[] cap), (8, vint i), (9, vint j)] _ _ ?_ (by simp (maxSteps := 2000000) only [↓aw_region, ↓aw_skip, ↓aw_seq, ↓aw_block, ↓aw_exit, ↓aw_ret, ↓sops_nil, ↓sops_go, ↓dops_nil, ↓dopsX_nil, ↓dopsR_nil, ↓vdn, vup, extr_20, extr_21, extr_30, extr_31, extr_32, List.map_cons, List.map_nil, cond_true, cond_false, aop, aThen, aBlock, argEnv, ev, sput, sputO, binK, binI, unK, builtinK, pickK, Nat.reduceBEq, Nat.reduceAdd, Int.reduceBEq, Int.reduceBNe, Int.reduceLT, aPost, resK, tup, tyf])
        clear hN5
        try clear N5
        refine aw_aws ?_
        simp (maxSteps := 2000000) only [s120, ↓aw_region, ↓aw_skip, ↓aw_seq, ↓aw_block, ↓aw_exit, ↓aw_ret, ↓sops_nil, ↓sops_go, ↓dops_nil, ↓dopsX_nil, ↓dopsR_nil, ↓vdn, vup, extr_20, extr_21, extr_30, extr_31, extr_32, List.map_cons, List.map_nil, cond_true, cond_false, aop, aThen, aBlock, argEnv, ev, sput, sputO, binK, binI, unK, builtinK, pickK, Nat.reduceBEq, Nat.reduceAdd, Int.reduceBEq, Int.reduceBNe, Int.reduceLT, aPost, resK, tup, tyf]
        refine aw_drawX [] (by kernel_rfl) (by kernel_rfl) (by kernel_rfl) (by kernel_rfl) ?_
        have hjL : j < L.length := by omega
        simp (maxSteps := 2000000) only [s120, ↓aw_region, ↓aw_skip, ↓aw_seq, ↓aw_block, ↓aw_exit, ↓aw_ret, ↓sops_nil, ↓sops_go, ↓dops_nil, ↓dopsX_nil, ↓dopsR_nil, ↓vdn, vup, extr_20, extr_21, extr_30, extr_31, extr_32, List.map_cons, List.map_nil, cond_true, cond_false, aop, aThen, aBlock, argEnv, ev, sput, sputO, binK, binI, unK, builtinK, pickK, Nat.reduceBEq, Nat.reduceAdd, Int.reduceBEq, Int.reduceBNe, Int.reduceLT, aPost, resK, tup, tyf, hsub, own.int.idx el_22 esz_3 hjn, own.int.idx el_22 esz_3 hj1n, elemP_ov, ov_load hlt hLn (show j < n by omega), ov_load hlt hLn (show j - 1 < n by omega), ov_store hlt hjL, ov_store hlt (show j - 1 < (L.set j (L.getD (j - 1) 0)).length by rw [List.length_set]; omega)]
        refine hQ4 _ _ _ ⟨(j - 1, swL L j), ⟨by simp only; omega, (swL_perm (by omega) hjL).trans hp, hs.step (by omega) hjL hj hlt2⟩, by simp only; omega, by simp (maxSteps := 2000000) only [↓aw_region, ↓aw_skip, ↓aw_seq, ↓aw_block, ↓aw_exit, ↓aw_ret, ↓sops_nil, ↓sops_go, ↓dops_nil, ↓dopsX_nil, ↓dopsR_nil, ↓vdn, vup, extr_20, extr_21, extr_30, extr_31, extr_32, List.map_cons, List.map_nil, cond_true, cond_false, aop, aThen, aBlock, argEnv, ev, sput, sputO, binK, binI, unK, builtinK, pickK, Nat.reduceBEq, Nat.reduceAdd, Int.reduceBEq, Int.reduceBNe, Int.reduceLT, aPost, resK, tup, tyf], rfl⟩
      · have hneg : ¬ key (L.getD j 0) - key (L.getD (j - 1) 0) < 0 := by omega
        refine aws_cut fun N6 hN6 => ?_
        simp (maxSteps := 2000000) only [s120, ↓aw_region, ↓aw_skip, ↓aw_seq, ↓aw_block, ↓aw_exit, ↓aw_ret, ↓sops_nil, ↓sops_go, ↓dops_nil, ↓dopsX_nil, ↓dopsR_nil, ↓vdn, vup, extr_20, extr_21, extr_30, extr_31, extr_32, List.map_cons, List.map_nil, cond_true, cond_false, aop, aThen, aBlock, argEnv, ev, sput, sputO, binK, binI, unK, builtinK, pickK, Nat.reduceBEq, Nat.reduceAdd, Int.reduceBEq, Int.reduceBNe, Int.reduceLT, aPost, resK, tup, tyf]
        refine aw_drawX [(14, 1)] (by kernel_rfl) (by kernel_rfl) (by kernel_rfl) (by kernel_rfl) ?_
        simp (maxSteps := 2000000) only [s120, ↓aw_region, ↓aw_skip, ↓aw_seq, ↓aw_block, ↓aw_exit, ↓aw_ret, ↓sops_nil, ↓sops_go, ↓dops_nil, ↓dopsX_nil, ↓dopsR_nil, ↓vdn, vup, extr_20, extr_21, extr_30, extr_31, extr_32, List.map_cons, List.map_nil, cond_true, cond_false, aop, aThen, aBlock, argEnv, ev, sput, sputO, binK, binI, unK, builtinK, pickK, Nat.reduceBEq, Nat.reduceAdd, Int.reduceBEq, Int.reduceBNe, Int.reduceLT, aPost, resK, tup, tyf, gt_iff_lt, hjp, hsub, own.int.idx el_22 esz_3 hjn, own.int.load shp_3 hjn, own.int.idx el_22 esz_3 hj1n, own.int.load shp_3 hj1n, iL_get, callK, List.nil_append, List.append_nil, List.toList_toArray, List.cons_append]
        refine ⟨_, _, c1, rfl, ?_⟩
        simp (maxSteps := 2000000) only [s120, ↓aw_region, ↓aw_skip, ↓aw_seq, ↓aw_block, ↓aw_exit, ↓aw_ret, ↓sops_nil, ↓sops_go, ↓dops_nil, ↓dopsX_nil, ↓dopsR_nil, ↓vdn, vup, extr_20, extr_21, extr_30, extr_31, extr_32, List.map_cons, List.map_nil, cond_true, cond_false, aop, aThen, aBlock, argEnv, ev, sput, sputO, binK, binI, unK, builtinK, pickK, Nat.reduceBEq, Nat.reduceAdd, Int.reduceBEq, Int.reduceBNe, Int.reduceLT, aPost, resK, tup, tyf, hneg, decide_true, decide_false]
        refine hQ4 _ _ _ (hQ3 _ _ _ ?_)
        simp (maxSteps := 2000000) only [s120, ↓aw_region, ↓aw_skip, ↓aw_seq, ↓aw_block, ↓aw_exit, ↓aw_ret, ↓sops_nil, ↓sops_go, ↓dops_nil, ↓dopsX_nil, ↓dopsR_nil, ↓vdn, vup, extr_20, extr_21, extr_30, extr_31, extr_32, List.map_cons, List.map_nil, cond_true, cond_false, aop, aThen, aBlock, argEnv, ev, sput, sputO, binK, binI, unK, builtinK, pickK, Nat.reduceBEq, Nat.reduceAdd, Int.reduceBEq, Int.reduceBNe, Int.reduceLT, aPost, resK, tup, tyf, if_true]
        exact fin (.inr (by omega)) _ (by simp (maxSteps := 2000000) only [↓aw_region, ↓aw_skip, ↓aw_seq, ↓aw_block, ↓aw_exit, ↓aw_ret, ↓sops_nil, ↓sops_go, ↓dops_nil, ↓dopsX_nil, ↓dopsR_nil, ↓vdn, vup, extr_20, extr_21, extr_30, extr_31, extr_32, List.map_cons, List.map_nil, cond_true, cond_false, aop, aThen, aBlock, argEnv, ev, sput, sputO, binK, binI, unK, builtinK, pickK, Nat.reduceBEq, Nat.reduceAdd, Int.reduceBEq, Int.reduceBNe, Int.reduceLT, aPost, resK, tup, tyf])
  · refine aws_cut fun M hM => ?_
    simp (maxSteps := 2000000) only [s120, ↓aw_region, ↓aw_skip, ↓aw_seq, ↓aw_block, ↓aw_exit, ↓aw_ret, ↓sops_nil, ↓sops_go, ↓dops_nil, ↓dopsX_nil, ↓dopsR_nil, ↓vdn, vup, extr_20, extr_21, extr_30, extr_31, extr_32, List.map_cons, List.map_nil, cond_true, cond_false, aop, aThen, aBlock, argEnv, ev, sput, sputO, binK, binI, unK, builtinK, pickK, Nat.reduceBEq, Nat.reduceAdd, Int.reduceBEq, Int.reduceBNe, Int.reduceLT, aPost, resK, tup, tyf, hin]
    refine hQ2 _ _ _ (hQ _ _ _ ?_)
    simp (maxSteps := 2000000) only [s120, ↓aw_region, ↓aw_skip, ↓aw_seq, ↓aw_block, ↓aw_exit, ↓aw_ret, ↓sops_nil, ↓sops_go, ↓dops_nil, ↓dopsX_nil, ↓dopsR_nil, ↓vdn, vup, extr_20, extr_21, extr_30, extr_31, extr_32, List.map_cons, List.map_nil, cond_true, cond_false, aop, aThen, aBlock, argEnv, ev, sput, sputO, binK, binI, unK, builtinK, pickK, Nat.reduceBEq, Nat.reduceAdd, Int.reduceBEq, Int.reduceBNe, Int.reduceLT, aPost, resK, tup, tyf, if_true]
    refine ⟨L, hp, ?_, rfl⟩
    refine SrtTo.pw ?_
    rw [hLn]
    intro p q hpq hq
    exact hs p q hpq (by omega)

end Go.Proofs.Tryd.Am

namespace Go.Proofs.Tryd.Am
open Go.Am Rb
set_option maxRecDepth 100000
set_option maxHeartbeats 1000000

theorem s102_callW [Tabs Tryd.prog] {args : List Value} {h : Heap} {Q : Value → Heap → Prop} (hsz : args.length ≤ 148) (hk : AWS Tryd.prog 148 s102 (aPost Tryd.prog [] Q) (argEnv 0 args) h) : ACall Tryd.prog 102 args h Q :=
  acall_w Tryd.func102 rfl (enters_of Tryd.func102 (by kernel_rfl) rfl) rfl rfl (by decide) s102_strip s102_ok hsz hk
theorem pdqF_call [Tabs prog] {h : Heap} {b : Nat} {L0 : List Nat} {ys : List Int} {z : Int} {g : FuncId} {cap : Array Value} {key : Nat → Int} (hk : ∀ x ∈ L0, -1000 ≤ key x ∧ key x ≤ 1000) (hc : ∀ L x y, x ∈ L0 → y ∈ L0 → APure prog g ([vint x, vint y] ++ cap.toList) (h.set b (.ints (iL L ++ ys) 3 false)) (vint (key x - key y))) (hb : h[b]? = some (.ints (iL L0 ++ ys) 3 false)) (hl : L0.length ≤ 12) (hx : ∀ x ∈ L0, x < 4611686018427387904) :
    ACall prog 102 [ov b L0.length ys.length, .int .i64 0, vint L0.length, .int .i64 z, .func (.func g) #[] cap] h fun _ h' => ∃ L : List Nat, L.Perm L0 ∧ L.Pairwise (fun a b => key a ≤ key b) ∧ h' = h.set b (.ints (iL L ++ ys) 3 false) := by
  have hsub : subV .i64 (L0.length : Int) 0 = (L0.length : Int) := by rw [subV_id (by omega) (by omega)]; omega
  have hle : (L0.length : Int) ≤ 12 := by omega
  refine s102_callW (by simp) ?_
  simp only [s102]
  refine aws_cut fun N1 hN1 => ?_
  simp (maxSteps := 2000000) only [s102, ↓aw_region, ↓aw_skip, ↓aw_seq, ↓aw_block, ↓aw_exit, ↓aw_ret, ↓sops_nil, ↓sops_go, ↓dops_nil, ↓dopsX_nil, ↓dopsR_nil, ↓vdn, vup, extr_20, extr_21, extr_30, extr_31, extr_32, List.map_cons, List.map_nil, cond_true, cond_false, aop, aThen, aBlock, argEnv, ev, sput, sputO, binK, binI, unK, builtinK, pickK, Nat.reduceBEq, Nat.reduceAdd, Int.reduceBEq, Int.reduceBNe, Int.reduceLT, aPost, resK, tup, tyf]
  refine hN1 [(0, ov b L0.length ys.length), (1, .int .i64 0), (2, vint L0.length), (3, .int .i64 z), (4, .func (.func g) #[] cap), (10, .bool true)] _ _ ?_ (by simp (maxSteps := 2000000) only [↓aw_region, ↓aw_skip, ↓aw_seq, ↓aw_block, ↓aw_exit, ↓aw_ret, ↓sops_nil, ↓sops_go, ↓dops_nil, ↓dopsX_nil, ↓dopsR_nil, ↓vdn, vup, extr_20, extr_21, extr_30, extr_31, extr_32, List.map_cons, List.map_nil, cond_true, cond_false, aop, aThen, aBlock, argEnv, ev, sput, sputO, binK, binI, unK, builtinK, pickK, Nat.reduceBEq, Nat.reduceAdd, Int.reduceBEq, Int.reduceBNe, Int.reduceLT, aPost, resK, tup, tyf])
  clear hN1
  try clear N1
  refine aws_cut fun N2 hN2 => ?_
  simp (maxSteps := 2000000) only [s102, ↓aw_region, ↓aw_skip, ↓aw_seq, ↓aw_block, ↓aw_exit, ↓aw_ret, ↓sops_nil, ↓sops_go, ↓dops_nil, ↓dopsX_nil, ↓dopsR_nil, ↓vdn, vup, extr_20, extr_21, extr_30, extr_31, extr_32, List.map_cons, List.map_nil, cond_true, cond_false, aop, aThen, aBlock, argEnv, ev, sput, sputO, binK, binI, unK, builtinK, pickK, Nat.reduceBEq, Nat.reduceAdd, Int.reduceBEq, Int.reduceBNe, Int.reduceLT, aPost, resK, tup, tyf]
  refine hN2 [(0, ov b L0.length ys.length), (1, .int .i64 0), (2, vint L0.length), (3, .int .i64 z), (4, .func (.func g) #[] cap), (10, .bool true), (11, .bool true)] _ _ ?_ (by simp (maxSteps := 2000000) only [↓aw_region, ↓aw_skip, ↓aw_seq, ↓aw_block, ↓aw_exit, ↓aw_ret, ↓sops_nil, ↓sops_go, ↓dops_nil, ↓dopsX_nil, ↓dopsR_nil, ↓vdn, vup, extr_20, extr_21, extr_30, extr_31, extr_32, List.map_cons, List.map_nil, cond_true, cond_false, aop, aThen, aBlock, argEnv, ev, sput, sputO, binK, binI, unK, builtinK, pickK, Nat.reduceBEq, Nat.reduceAdd, Int.reduceBEq, Int.reduceBNe, Int.reduceLT, aPost, resK, tup, tyf])
  clear hN2
  try clear N2
  refine aws_block ?_
  refine aws_hide fun Q hQ => ?_
  refine aw_loopW (γ := Unit) (fun _ => True) (fun _ => ([(0, ov b L0.length ys.length), (1, .int .i64 0), (2, vint L0.length), (3, .int .i64 z), (4, .func (.func g) #[] cap), (10, .bool true), (11, .bool true)], h)) (fun _ => 0) () trivial (by simp (maxSteps := 2000000) only [↓aw_region, ↓aw_skip, ↓aw_seq, ↓aw_block, ↓aw_exit, ↓aw_ret, ↓sops_nil, ↓sops_go, ↓dops_nil, ↓dopsX_nil, ↓dopsR_nil, ↓vdn, vup, extr_20, extr_21, extr_30, extr_31, extr_32, List.map_cons, List.map_nil, cond_true, cond_false, aop, aThen, aBlock, argEnv, ev, sput, sputO, binK, binI, unK, builtinK, pickK, Nat.reduceBEq, Nat.reduceAdd, Int.reduceBEq, Int.reduceBNe, Int.reduceLT, aPost, resK, tup, tyf]) rfl ?_
  rintro _ _
  refine aws_hide fun Q2 hQ2 => ?_
  simp only [l102_0]
  refine aws_block ?_
  refine aws_cut fun N3 hN3 => ?_
  simp (maxSteps := 2000000) only [s102, ↓aw_region, ↓aw_skip, ↓aw_seq, ↓aw_block, ↓aw_exit, ↓aw_ret, ↓sops_nil, ↓sops_go, ↓dops_nil, ↓dopsX_nil, ↓dopsR_nil, ↓vdn, vup, extr_20, extr_21, extr_30, extr_31, extr_32, List.map_cons, List.map_nil, cond_true, cond_false, aop, aThen, aBlock, argEnv, ev, sput, sputO, binK, binI, unK, builtinK, pickK, Nat.reduceBEq, Nat.reduceAdd, Int.reduceBEq, Int.reduceBNe, Int.reduceLT, aPost, resK, tup, tyf, hsub]
  refine hN3 [(0, ov b L0.length ys.length), (1, .int .i64 0), (2, vint L0.length), (3, .int .i64 z), (4, .func (.func g) #[] cap), (10, .bool true), (11, .bool true), (12, vint L0.length)] _ _ ?_ (by simp (maxSteps := 2000000) only [↓aw_region, ↓aw_skip, ↓aw_seq, ↓aw_block, ↓aw_exit, ↓aw_ret, ↓sops_nil, ↓sops_go, ↓dops_nil, ↓dopsX_nil, ↓dopsR_nil, ↓vdn, vup, extr_20, extr_21, extr_30, extr_31, extr_32, List.map_cons, List.map_nil, cond_true, cond_false, aop, aThen, aBlock, argEnv, ev, sput, sputO, binK, binI, unK, builtinK, pickK, Nat.reduceBEq, Nat.reduceAdd, Int.reduceBEq, Int.reduceBNe, Int.reduceLT, aPost, resK, tup, tyf])
  clear hN3
  try clear N3
  refine aws_cut fun N4 hN4 => ?_
  simp (maxSteps := 2000000) only [s102, ↓aw_region, ↓aw_skip, ↓aw_seq, ↓aw_block, ↓aw_exit, ↓aw_ret, ↓sops_nil, ↓sops_go, ↓dops_nil, ↓dopsX_nil, ↓dopsR_nil, ↓vdn, vup, extr_20, extr_21, extr_30, extr_31, extr_32, List.map_cons, List.map_nil, cond_true, cond_false, aop, aThen, aBlock, argEnv, ev, sput, sputO, binK, binI, unK, builtinK, pickK, Nat.reduceBEq, Nat.reduceAdd, Int.reduceBEq, Int.reduceBNe, Int.reduceLT, aPost, resK, tup, tyf, callK, List.nil_append, List.append_nil, List.toList_toArray, List.cons_append, hle]
  refine (isortF_call hk hc hb hl hx).mono ?_
  rintro r h' hr
  refine hQ2 _ _ _ (hQ _ _ _ ?_)
  try simp (maxSteps := 2000000) only [s102, ↓aw_region, ↓aw_skip, ↓aw_seq, ↓aw_block, ↓aw_exit, ↓aw_ret, ↓sops_nil, ↓sops_go, ↓dops_nil, ↓dopsX_nil, ↓dopsR_nil, ↓vdn, vup, extr_20, extr_21, extr_30, extr_31, extr_32, List.map_cons, List.map_nil, cond_true, cond_false, aop, aThen, aBlock, argEnv, ev, sput, sputO, binK, binI, unK, builtinK, pickK, Nat.reduceBEq, Nat.reduceAdd, Int.reduceBEq, Int.reduceBNe, Int.reduceLT, aPost, resK, tup, tyf]
  exact hr
theorem s83_callW [Tabs Tryd.prog] {args : List Value} {h : Heap} {Q : Value → Heap → Prop} (hsz : args.length ≤ 14) (hk : AWS Tryd.prog 14 s83 (aPost Tryd.prog [] Q) (argEnv 0 args) h) : ACall Tryd.prog 83 args h Q :=
  acall_w Tryd.func83 rfl (enters_of Tryd.func83 (by kernel_rfl) rfl) rfl rfl (by decide) s83_strip s83_ok hsz hk
theorem sortFn_call [Tabs prog] {h : Heap} {b : Nat} {L0 : List Nat} {ys : List Int} {g : FuncId} {cap : Array Value} {key : Nat → Int} (hk : ∀ x ∈ L0, -1000 ≤ key x ∧ key x ≤ 1000) (hc : ∀ L x y, x ∈ L0 → y ∈ L0 → APure prog g ([vint x, vint y] ++ cap.toList) (h.set b (.ints (iL L ++ ys) 3 false)) (vint (key x - key y))) (hb : h[b]? = some (.ints (iL L0 ++ ys) 3 false)) (hl : L0.length ≤ 12) (hx : ∀ x ∈ L0, x < 4611686018427387904) :
    ACall prog 83 [ov b L0.length ys.length, .func (.func g) #[] cap] h fun _ h' => ∃ L : List Nat, L.Perm L0 ∧ L.Pairwise (fun a b => key a ≤ key b) ∧ h' = h.set b (.ints (iL L ++ ys) 3 false) := by
  have hw : IntKind.u64.wrap (L0.length : Int) = (L0.length : Int) := wrapU_id (by omega) (by omega)
  refine s83_callW (by simp) ?_
  simp only [s83]
  refine aws_cut fun N5 hN5 => ?_
  simp (maxSteps := 2000000) only [s83, ↓aw_region, ↓aw_skip, ↓aw_seq, ↓aw_block, ↓aw_exit, ↓aw_ret, ↓sops_nil, ↓sops_go, ↓dops_nil, ↓dopsX_nil, ↓dopsR_nil, ↓vdn, vup, extr_20, extr_21, extr_30, extr_31, extr_32, List.map_cons, List.map_nil, cond_true, cond_false, aop, aThen, aBlock, argEnv, ev, sput, sputO, binK, binI, unK, builtinK, pickK, Nat.reduceBEq, Nat.reduceAdd, Int.reduceBEq, Int.reduceBNe, Int.reduceLT, aPost, resK, tup, tyf, lenK]
  refine hN5 [(0, ov b L0.length ys.length), (1, .func (.func g) #[] cap), (4, vint L0.length)] _ _ ?_ (by simp (maxSteps := 2000000) only [↓aw_region, ↓aw_skip, ↓aw_seq, ↓aw_block, ↓aw_exit, ↓aw_ret, ↓sops_nil, ↓sops_go, ↓dops_nil, ↓dopsX_nil, ↓dopsR_nil, ↓vdn, vup, extr_20, extr_21, extr_30, extr_31, extr_32, List.map_cons, List.map_nil, cond_true, cond_false, aop, aThen, aBlock, argEnv, ev, sput, sputO, binK, binI, unK, builtinK, pickK, Nat.reduceBEq, Nat.reduceAdd, Int.reduceBEq, Int.reduceBNe, Int.reduceLT, aPost, resK, tup, tyf])
  clear hN5
  try clear N5
  refine aw_aws ?_
  simp (maxSteps := 2000000) only [s83, ↓aw_region, ↓aw_skip, ↓aw_seq, ↓aw_block, ↓aw_exit, ↓aw_ret, ↓sops_nil, ↓sops_go, ↓dops_nil, ↓dopsX_nil, ↓dopsR_nil, ↓vdn, vup, extr_20, extr_21, extr_30, extr_31, extr_32, List.map_cons, List.map_nil, cond_true, cond_false, aop, aThen, aBlock, argEnv, ev, sput, sputO, binK, binI, unK, builtinK, pickK, Nat.reduceBEq, Nat.reduceAdd, Int.reduceBEq, Int.reduceBNe, Int.reduceLT, aPost, resK, tup, tyf, callK, List.nil_append, List.append_nil, List.toList_toArray, List.cons_append, convK, und_3, und_53, hw]
  refine (len_call (show L0.length < 256 by omega)).mono ?_
  rintro _ h ⟨⟨z, rfl⟩, rfl⟩
  refine (pdqF_call hk hc hb hl hx).mono ?_
  rintro r h' hr
  exact hr
end Go.Proofs.Tryd.Am

namespace Go.Proofs.Tryd.Am
open Go.Am Rb Rch
set_option maxRecDepth 100000
set_option maxHeartbeats 1000000

theorem s84_callW [Tabs Tryd.prog] {args : List Value} {h : Heap} {Q : Value → Heap → Prop} (hsz : args.length ≤ 10) (hk : AWS Tryd.prog 10 s84 (aPost Tryd.prog [.tmp 4] Q) (argEnv 0 args) h) : ACall Tryd.prog 84 args h Q :=
  acall_w Tryd.func84 rfl (enters_of Tryd.func84 (by kernel_rfl) rfl) rfl rfl (by decide) s84_strip s84_ok hsz hk
theorem parts1_call [Tabs prog] {h : Heap} {x y : Nat} (hx : x < 256) (hy : y < 256) : APure prog 84 [vint x, vint y] h (vint ((-(((Am.bits x).length : Nat) : Int)) - (-(((Am.bits y).length : Nat) : Int)))) := by
  have h1 : (Am.bits x).length ≤ 64 := by have := scr_le (x : Int); rw [scr, Int.toNat_natCast] at this; exact this
  have h2 : (Am.bits y).length ≤ 64 := by have := scr_le (y : Int); rw [scr, Int.toNat_natCast] at this; exact this
  have hsub : subV .i64 (((Am.bits y).length : Nat) : Int) (((Am.bits x).length : Nat) : Int) = (-(((Am.bits x).length : Nat) : Int)) - (-(((Am.bits y).length : Nat) : Int)) := by rw [subV_id (by omega) (by omega)]; omega
  refine s84_callW (by simp) ?_
  simp only [s84]
  refine aws_cut fun N1 hN1 => ?_
  simp (maxSteps := 2000000) only [s84, ↓aw_region, ↓aw_skip, ↓aw_seq, ↓aw_block, ↓aw_exit, ↓aw_ret, ↓sops_nil, ↓sops_go, ↓dops_nil, ↓dopsX_nil, ↓dopsR_nil, ↓vdn, vup, extr_20, extr_21, extr_30, extr_31, extr_32, List.map_cons, List.map_nil, cond_true, cond_false, aop, aThen, aBlock, argEnv, ev, sput, sputO, binK, binI, unK, builtinK, pickK, Nat.reduceBEq, Nat.reduceAdd, Int.reduceBEq, Int.reduceBNe, Int.reduceLT, aPost, resK, tup, tyf]
  refine hN1 [(0, vint x), (1, vint y), (4, .int .i64 0)] _ _ ?_ (by simp (maxSteps := 2000000) only [↓aw_region, ↓aw_skip, ↓aw_seq, ↓aw_block, ↓aw_exit, ↓aw_ret, ↓sops_nil, ↓sops_go, ↓dops_nil, ↓dopsX_nil, ↓dopsR_nil, ↓vdn, vup, extr_20, extr_21, extr_30, extr_31, extr_32, List.map_cons, List.map_nil, cond_true, cond_false, aop, aThen, aBlock, argEnv, ev, sput, sputO, binK, binI, unK, builtinK, pickK, Nat.reduceBEq, Nat.reduceAdd, Int.reduceBEq, Int.reduceBNe, Int.reduceLT, aPost, resK, tup, tyf])
  clear hN1
  try clear N1
  refine aws_cut fun N2 hN2 => ?_
  simp (maxSteps := 2000000) only [s84, ↓aw_region, ↓aw_skip, ↓aw_seq, ↓aw_block, ↓aw_exit, ↓aw_ret, ↓sops_nil, ↓sops_go, ↓dops_nil, ↓dopsX_nil, ↓dopsR_nil, ↓vdn, vup, extr_20, extr_21, extr_30, extr_31, extr_32, List.map_cons, List.map_nil, cond_true, cond_false, aop, aThen, aBlock, argEnv, ev, sput, sputO, binK, binI, unK, builtinK, pickK, Nat.reduceBEq, Nat.reduceAdd, Int.reduceBEq, Int.reduceBNe, Int.reduceLT, aPost, resK, tup, tyf, callK, List.nil_append, List.append_nil, List.toList_toArray, List.cons_append]
  refine (count_call hy).mono ?_
  rintro _ h ⟨rfl, rfl⟩
  refine (count_call hx).mono ?_
  rintro _ h ⟨rfl, rfl⟩
  simp (maxSteps := 2000000) only [s84, ↓aw_region, ↓aw_skip, ↓aw_seq, ↓aw_block, ↓aw_exit, ↓aw_ret, ↓sops_nil, ↓sops_go, ↓dops_nil, ↓dopsX_nil, ↓dopsR_nil, ↓vdn, vup, extr_20, extr_21, extr_30, extr_31, extr_32, List.map_cons, List.map_nil, cond_true, cond_false, aop, aThen, aBlock, argEnv, ev, sput, sputO, binK, binI, unK, builtinK, pickK, Nat.reduceBEq, Nat.reduceAdd, Int.reduceBEq, Int.reduceBNe, Int.reduceLT, aPost, resK, tup, tyf, hsub]
  refine hN2 [(0, vint x), (1, vint y), (4, vint ((-(((Am.bits x).length : Nat) : Int)) - (-(((Am.bits y).length : Nat) : Int))))] _ _ ?_ (by simp (maxSteps := 2000000) only [↓aw_region, ↓aw_skip, ↓aw_seq, ↓aw_block, ↓aw_exit, ↓aw_ret, ↓sops_nil, ↓sops_go, ↓dops_nil, ↓dopsX_nil, ↓dopsR_nil, ↓vdn, vup, extr_20, extr_21, extr_30, extr_31, extr_32, List.map_cons, List.map_nil, cond_true, cond_false, aop, aThen, aBlock, argEnv, ev, sput, sputO, binK, binI, unK, builtinK, pickK, Nat.reduceBEq, Nat.reduceAdd, Int.reduceBEq, Int.reduceBNe, Int.reduceLT, aPost, resK, tup, tyf])
  clear hN2
  try clear N2
  refine aw_aws ?_
  simp (maxSteps := 2000000) only [s84, ↓aw_region, ↓aw_skip, ↓aw_seq, ↓aw_block, ↓aw_exit, ↓aw_ret, ↓sops_nil, ↓sops_go, ↓dops_nil, ↓dopsX_nil, ↓dopsR_nil, ↓vdn, vup, extr_20, extr_21, extr_30, extr_31, extr_32, List.map_cons, List.map_nil, cond_true, cond_false, aop, aThen, aBlock, argEnv, ev, sput, sputO, binK, binI, unK, builtinK, pickK, Nat.reduceBEq, Nat.reduceAdd, Int.reduceBEq, Int.reduceBNe, Int.reduceLT, aPost, resK, tup, tyf]

theorem pm_room {xs : List Int} (r i : Nat) (hi : i ≤ xs.length) (h8 : xs.length ≤ 8) : (mget ((r : Nat) : Int) (pm xs i)).toNat < 256 := by
  rw [pm_get, Int.toNat_natCast]
  have := Clr.setL_lt (n := xs.length) (l := (List.range i).filter fun j => rch xs j == r) (fun x hx => by have := List.mem_range.1 (List.mem_filter.1 hx).1; omega)
  have := pow8N h8
  omega

/-- The map is made. -/
theorem parts_map [BitTab prog 1] {h : Heap} {v : Value} {xs : List Int} {bm : Nat} (hv : IntSl h v xs) (ht : trn xs = true) (hm : h[bm]? = some (.map (mI []))) {N : Env → Heap → Prop} {Q0 : Exit → Env → Heap → Prop}
    (hN : ∀ hq e, Ext (fun b => b = bm) h hq → hq[bm]? = some (.map (mI (pm xs xs.length))) → ELe e [(0, v), (2, .slice none 0 0), (3, .int .i64 0), (4, v), (5, .map (some bm))] → N e hq) (hbv : blkOf v ≠ some bm) :
    aw prog 57 (.seq q49_5 (.block 0 (.loop l49_0))) (aThen N Q0) [(0, v), (2, .slice none 0 0), (3, .int .i64 0), (4, v), (5, .map (some bm))] h := by
  have hxl := trn_len ht
  have h256 := pow8N hxl.2
  have hnn : ∀ i : Nat, (0 : Int) ≤ (i : Int) := Int.natCast_nonneg
  simp (maxSteps := 2000000) only [s49, ↓aw_region, ↓aw_skip, ↓aw_seq, ↓aw_block, ↓aw_exit, ↓aw_ret, ↓sops_nil, ↓sops_go, ↓dops_nil, ↓dopsX_nil, ↓dopsR_nil, ↓vdn, vup, extr_20, extr_21, extr_30, extr_31, extr_32, List.map_cons, List.map_nil, cond_true, cond_false, aop, aThen, aBlock, argEnv, ev, sput, sputO, binK, binI, unK, builtinK, pickK, Nat.reduceBEq, Nat.reduceAdd, Int.reduceBEq, Int.reduceBNe, Int.reduceLT, aPost, resK, tup, tyf, hv.len, ↓aw_loop_eq]
  refine aws_hide fun Q hQ => ?_
  refine aw_loop (γ := Nat × Heap) (fun g => g.1 ≤ xs.length ∧ Ext (fun b => b = bm) h g.2 ∧ g.2[bm]? = some (.map (mI (pm xs g.1))))
    (fun g => ([(0, v), (2, .slice none 0 0), (3, .int .i64 0), (4, v), (5, .map (some bm)), (17, v), (18, vint xs.length), (19, vint g.1)], g.2)) (fun g => xs.length - g.1) (0, h) ⟨Nat.zero_le _, Ext.refl _ _, hm⟩ (by simp (maxSteps := 2000000) only [↓aw_region, ↓aw_skip, ↓aw_seq, ↓aw_block, ↓aw_exit, ↓aw_ret, ↓sops_nil, ↓sops_go, ↓dops_nil, ↓dopsX_nil, ↓dopsR_nil, ↓vdn, vup, extr_20, extr_21, extr_30, extr_31, extr_32, List.map_cons, List.map_nil, cond_true, cond_false, aop, aThen, aBlock, argEnv, ev, sput, sputO, binK, binI, unK, builtinK, pickK, Nat.reduceBEq, Nat.reduceAdd, Int.reduceBEq, Int.reduceBNe, Int.reduceLT, aPost, resK, tup, tyf, Int.natCast_zero]) rfl ?_
  rintro ⟨i, hp⟩ ⟨hi, hE, hmp⟩
  simp only at hi hE hmp
  refine aw_hide fun Q2 hQ2 => ?_
  by_cases hin : (i : Int) < xs.length
  · have hi' : i < xs.length := by omega
    have hvp : IntSl hp v xs := hv.same fun b hb => hE.2 b (hv.lt hb) (fun e => hbv (e ▸ hb))
    have hroom := pm_room (xs := xs) (rch xs i) i hi hxl.2
    have hg : mget ((rch xs i : Nat) : Int) (pm xs i) = (((mget ((rch xs i : Nat) : Int) (pm xs i)).toNat : Nat) : Int) := by rw [pm_get]; rfl
    have h2i : 2 ^ i < 2 ^ 8 := Nat.pow_lt_pow_right (by decide) (by omega)
    have hor : bitsV .or .i64 (mget ((rch xs i : Nat) : Int) (pm xs i)) ((2 ^ i : Nat) : Int) = (((mget ((rch xs i : Nat) : Int) (pm xs i)).toNat ||| 2 ^ i : Nat) : Int) := by
      have := bitsV_or (a := (mget ((rch xs i : Nat) : Int) (pm xs i)).toNat) (b := 2 ^ i) (by omega) (by omega)
      rw [← hg] at this; exact this
    simp (maxSteps := 2000000) only [s49, ↓aw_region, ↓aw_skip, ↓aw_seq, ↓aw_block, ↓aw_exit, ↓aw_ret, ↓sops_nil, ↓sops_go, ↓dops_nil, ↓dopsX_nil, ↓dopsR_nil, ↓vdn, vup, extr_20, extr_21, extr_30, extr_31, extr_32, List.map_cons, List.map_nil, cond_true, cond_false, aop, aThen, aBlock, argEnv, ev, sput, sputO, binK, binI, unK, builtinK, pickK, Nat.reduceBEq, Nat.reduceAdd, Int.reduceBEq, Int.reduceBNe, Int.reduceLT, aPost, resK, tup, tyf, l49_0, hin]
    refine aw_drawX [(3, 1)] (by kernel_rfl) (by kernel_rfl) (by kernel_rfl) (by kernel_rfl) ?_
    simp (maxSteps := 2000000) only [s49, ↓aw_region, ↓aw_skip, ↓aw_seq, ↓aw_block, ↓aw_exit, ↓aw_ret, ↓sops_nil, ↓sops_go, ↓dops_nil, ↓dopsX_nil, ↓dopsR_nil, ↓vdn, vup, extr_20, extr_21, extr_30, extr_31, extr_32, List.map_cons, List.map_nil, cond_true, cond_false, aop, aThen, aBlock, argEnv, ev, sput, sputO, binK, binI, unK, builtinK, pickK, Nat.reduceBEq, Nat.reduceAdd, Int.reduceBEq, Int.reduceBNe, Int.reduceLT, aPost, resK, tup, tyf, ↓dopsX_lookup, ↓dopsX_mapUpdate, callK, List.nil_append, List.append_nil, List.toList_toArray, List.cons_append]
    refine ⟨_, _, reach_call hvp ht hi', rfl, ?_⟩
    simp (maxSteps := 2000000) only [s49, ↓aw_region, ↓aw_skip, ↓aw_seq, ↓aw_block, ↓aw_exit, ↓aw_ret, ↓sops_nil, ↓sops_go, ↓dops_nil, ↓dopsX_nil, ↓dopsR_nil, ↓vdn, vup, extr_20, extr_21, extr_30, extr_31, extr_32, List.map_cons, List.map_nil, cond_true, cond_false, aop, aThen, aBlock, argEnv, ev, sput, sputO, binK, binI, unK, builtinK, pickK, Nat.reduceBEq, Nat.reduceAdd, Int.reduceBEq, Int.reduceBNe, Int.reduceLT, aPost, resK, tup, tyf, ↓dopsX_lookup, ↓dopsX_mapUpdate, lookupI hmp und_75 und_3 zv_3, hnn, shlI1 (show i ≤ 62 by omega), hor, updateI hmp und_75 und_3, add1 (show i < 9223372036854775807 by omega)]
    exact hQ2 _ _ _ ⟨(i + 1, hp.set bm (.map (mI (pm xs (i + 1))))), ⟨by simp only; omega, hE.trans (Ext.set _ rfl), get_set (get_lt hmp) _⟩, by simp only; omega, by simp (maxSteps := 2000000) only [↓aw_region, ↓aw_skip, ↓aw_seq, ↓aw_block, ↓aw_exit, ↓aw_ret, ↓sops_nil, ↓sops_go, ↓dops_nil, ↓dopsX_nil, ↓dopsR_nil, ↓vdn, vup, extr_20, extr_21, extr_30, extr_31, extr_32, List.map_cons, List.map_nil, cond_true, cond_false, aop, aThen, aBlock, argEnv, ev, sput, sputO, binK, binI, unK, builtinK, pickK, Nat.reduceBEq, Nat.reduceAdd, Int.reduceBEq, Int.reduceBNe, Int.reduceLT, aPost, resK, tup, tyf], rfl⟩
  · obtain rfl : i = xs.length := by omega
    simp (maxSteps := 2000000) only [s49, ↓aw_region, ↓aw_skip, ↓aw_seq, ↓aw_block, ↓aw_exit, ↓aw_ret, ↓sops_nil, ↓sops_go, ↓dops_nil, ↓dopsX_nil, ↓dopsR_nil, ↓vdn, vup, extr_20, extr_21, extr_30, extr_31, extr_32, List.map_cons, List.map_nil, cond_true, cond_false, aop, aThen, aBlock, argEnv, ev, sput, sputO, binK, binI, unK, builtinK, pickK, Nat.reduceBEq, Nat.reduceAdd, Int.reduceBEq, Int.reduceBNe, Int.reduceLT, aPost, resK, tup, tyf, l49_0, Int.lt_irrefl]
    refine hQ2 _ _ _ (hQ _ _ _ ?_)
    simp (maxSteps := 2000000) only [s49, ↓aw_region, ↓aw_skip, ↓aw_seq, ↓aw_block, ↓aw_exit, ↓aw_ret, ↓sops_nil, ↓sops_go, ↓dops_nil, ↓dopsX_nil, ↓dopsR_nil, ↓vdn, vup, extr_20, extr_21, extr_30, extr_31, extr_32, List.map_cons, List.map_nil, cond_true, cond_false, aop, aThen, aBlock, argEnv, ev, sput, sputO, binK, binI, unK, builtinK, pickK, Nat.reduceBEq, Nat.reduceAdd, Int.reduceBEq, Int.reduceBNe, Int.reduceLT, aPost, resK, tup, tyf, if_true]
    exact hN hp _ hE hmp (by simp (maxSteps := 2000000) only [↓aw_region, ↓aw_skip, ↓aw_seq, ↓aw_block, ↓aw_exit, ↓aw_ret, ↓sops_nil, ↓sops_go, ↓dops_nil, ↓dopsX_nil, ↓dopsR_nil, ↓vdn, vup, extr_20, extr_21, extr_30, extr_31, extr_32, List.map_cons, List.map_nil, cond_true, cond_false, aop, aThen, aBlock, argEnv, ev, sput, sputO, binK, binI, unK, builtinK, pickK, Nat.reduceBEq, Nat.reduceAdd, Int.reduceBEq, Int.reduceBNe, Int.reduceLT, aPost, resK, tup, tyf])
end Go.Proofs.Tryd.Am

namespace Go.Proofs.Tryd.Am
open Go.Am Rb Rch
set_option maxRecDepth 100000
set_option maxHeartbeats 1000000

/-- What the walk over the map stands on: the reaches met so far, behind what lies up to the walk's own block. -/
structure WK (h hq : Heap) (bm it : Nat) (l : List (Int × Int)) (w0 : Value) (seen : List Nat) : Prop where
  E : Ext (fun _ => False) h hq
  m : hq[bm]? = some (.map (mI l))
  i : hq[it]? = some (.iter bm l.length seen l.length)
  own : OwnSl 3 hq w0 (iL (seen.map fun j => (l.getD j (0, 0)).1.toNat))
  blk : ∀ b, blkOf w0 = some b → it < b
  nodup : seen.Nodup
  lt : ∀ j ∈ seen, j < l.length
  le : h.length ≤ bm ∧ bm < it
theorem WK.step {h hq : Heap} {bm it : Nat} {l : List (Int × Int)} {w0 : Value} {seen : List Nat} (k : WK h hq bm it l w0 seen) {j : Nat} (hj : j < l.length) (hn : j ∉ seen) (hl : l.length ≤ 8) {K : Value → Heap → Prop}
    (hk : ∀ v' h', WK h h' bm it l v' (seen ++ [j]) → K v' h') :
    appendK prog (hq.set it (.iter bm l.length (seen ++ [j]) l.length) ++ [.ints [(((l.getD j (0, 0)).1.toNat : Nat) : Int)] 3 false]) 22 22 w0 (.slice (some ⟨(hq.set it (.iter bm l.length (seen ++ [j]) l.length)).length, 0, none⟩) 1 1) K := by
  have hil := get_lt k.i
  have hml := get_lt k.m
  have hbi := k.le
  have hsl : seen.length ≤ l.length := by
    have := nodup_le k.nodup (m := List.range l.length) (fun x hx => List.mem_range.2 (k.lt x hx))
    rw [List.length_range] at this; exact this
  generalize hg : hq.set it (.iter bm l.length (seen ++ [j]) l.length) = g
  have hgl : g.length = hq.length := by rw [← hg]; simp
  have g1 : ∀ b, b ≠ it → g[b]? = hq[b]? := fun b hb => by rw [← hg, List.getElem?_set_ne (Ne.symm hb)]
  have gi : g[it]? = some (.iter bm l.length (seen ++ [j]) l.length) := by rw [← hg]; exact get_set hil _
  have rs : RSI (g.take (it + 1)) g w0 (iL (seen.map fun j => (l.getD j (0, 0)).1.toNat)) := by
    refine ⟨k.own.ext (S := fun b => b = it) ⟨by omega, fun b _ hb => g1 b hb⟩ (fun b hb e => by have := k.blk b hb; omega), ⟨by simp; omega, fun b hb _ => ?_⟩, fun b hb => by have := k.blk b hb; simp; omega⟩
    rw [List.getElem?_take, if_pos (by simp at hb; omega)]
  refine rs.push (by rw [iL_len, List.length_map]; omega) fun v' h' s' => hk v' h' ?_
  obtain ⟨o, e, b⟩ := s'
  have keep : ∀ c, c ≤ it → h'[c]? = g[c]? := fun c hc => by
    rw [e.2 c (by simp; omega) id, List.getElem?_take, if_pos (by omega)]
  have hhl : it < h'.length := by have := e.1; simp at this; omega
  refine ⟨⟨by have := k.E.1; omega, fun c hc _ => ?_⟩, ?_, ?_, ?_, fun c hc => by have := b c hc; simp at this; omega, ?_, fun x hx => ?_, k.le⟩
  · rw [keep c (by omega), g1 c (by omega)]; exact k.E.2 c hc id
  · rw [keep bm (by omega), g1 bm (by omega)]; exact k.m
  · rw [keep it (Nat.le_refl _)]; exact gi
  · rw [List.map_append]
    have e2 : iL (List.map (fun j => (l.getD j (0, 0)).1.toNat) seen ++ List.map (fun j => (l.getD j (0, 0)).1.toNat) [j]) = iL (seen.map fun j => (l.getD j (0, 0)).1.toNat) ++ [(((l.getD j (0, 0)).1.toNat : Nat) : Int)] := by
      simp [iL]
    rw [e2]; exact o
  · exact List.nodup_append.2 ⟨k.nodup, by simp, fun a ha b hb => by rw [List.mem_singleton.1 hb]; exact fun e => hn (e ▸ ha)⟩
  · rcases List.mem_append.1 hx with hx | hx
    · exact k.lt x hx
    · rw [List.mem_singleton.1 hx]; exact hj

theorem s49_callW [Tabs Tryd.prog] {args : List Value} {h : Heap} {Q : Value → Heap → Prop} (hsz : args.length ≤ 57) (hk : AWS Tryd.prog 57 s49 (aPost Tryd.prog [.tmp 2, .tmp 3] Q) (argEnv 0 args) h) : ACall Tryd.prog 49 args h Q :=
  acall_w Tryd.func49 rfl (enters_of Tryd.func49 (by kernel_rfl) rfl) rfl rfl (by decide) s49_strip s49_ok hsz hk
theorem parts_walk [Tabs prog] {h hp : Heap} {v : Value} {xs : List Int} {bm : Nat} (hxl : 1 ≤ xs.length ∧ xs.length ≤ 8) (hE : Ext (fun _ => False) h hp) (hm : hp[bm]? = some (.map (mI (pm xs xs.length)))) (hbm : h.length ≤ bm) {Q0 : Exit → Env → Heap → Prop}
    (hN : ∀ hq w0 L e, Ext (fun _ => False) h hq → hq[bm]? = some (.map (mI (pm xs xs.length))) → OwnSl 3 hq w0 (iL L) → L.Perm (kyL xs) → (∀ b, blkOf w0 = some b → h.length ≤ b ∧ bm < b) → ELe e [(0, v), (4, v), (5, .map (some bm)), (7, w0)] → Q0 .normal e hq) :
    AWS prog 57 (.seq q49_11 (.block 2 (.loop l49_1))) Q0 [(0, v), (4, v), (5, .map (some bm)), (7, .slice none 0 0)] hp := by
  obtain ⟨l, hl⟩ : ∃ l, l = pm xs xs.length := ⟨_, rfl⟩
  rw [← hl] at hm hN
  have hl8 : l.length ≤ 8 := by rw [hl]; have := pm_len xs xs.length; omega
  have hlne : l ≠ [] := fun e => by
    have := (kyL_mem xs (rch xs 0)).2 ⟨0, by omega, rfl⟩
    rw [kyL, ← hl, e] at this; cases this
  have hkl : kyL xs = (List.range l.length).map fun j => (l.getD j (0, 0)).1.toNat := by
    rw [kyL, ← hl]
    apply List.ext_getElem (by simp)
    intro i h1 h2
    have : i < l.length := by simpa using h1
    simp [List.getD, List.getElem?_eq_getElem this]
  have hky : ∀ j, j < l.length → (l.getD j (0, 0)).1 = (((l.getD j (0, 0)).1.toNat : Nat) : Int) := fun j hj => by
    have hmem : (l.getD j (0, 0)).1 ∈ (pm xs xs.length).map (·.1) := by
      rw [← hl, List.getD, List.getElem?_eq_getElem hj]; exact List.mem_map_of_mem (List.getElem_mem hj)
    obtain ⟨i, _, e⟩ := ((pm_keys xs xs.length).2 _).1 hmem
    rw [e]; rfl
  refine aws_cut fun Z hZ => ?_
  simp (maxSteps := 2000000) only [s49, ↓aw_region, ↓aw_skip, ↓aw_seq, ↓aw_block, ↓aw_exit, ↓aw_ret, ↓sops_nil, ↓sops_go, ↓dops_nil, ↓dopsX_nil, ↓dopsR_nil, ↓vdn, vup, extr_20, extr_21, extr_30, extr_31, extr_32, List.map_cons, List.map_nil, cond_true, cond_false, aop, aThen, aBlock, argEnv, ev, sput, sputO, binK, binI, unK, builtinK, pickK, Nat.reduceBEq, Nat.reduceAdd, Int.reduceBEq, Int.reduceBNe, Int.reduceLT, aPost, resK, tup, tyf, isPick_map, rangeI hm und_75]
  refine hZ [(0, v), (4, v), (5, .map (some bm)), (7, .slice none 0 0), (32, .pointer (some ⟨hp.length, 0, none⟩))] _ _ ?_ (by simp (maxSteps := 2000000) only [↓aw_region, ↓aw_skip, ↓aw_seq, ↓aw_block, ↓aw_exit, ↓aw_ret, ↓sops_nil, ↓sops_go, ↓dops_nil, ↓dopsX_nil, ↓dopsR_nil, ↓vdn, vup, extr_20, extr_21, extr_30, extr_31, extr_32, List.map_cons, List.map_nil, cond_true, cond_false, aop, aThen, aBlock, argEnv, ev, sput, sputO, binK, binI, unK, builtinK, pickK, Nat.reduceBEq, Nat.reduceAdd, Int.reduceBEq, Int.reduceBNe, Int.reduceLT, aPost, resK, tup, tyf])
  clear hZ
  try clear Z
  have hbl := get_lt hm
  obtain ⟨g, hg⟩ : ∃ g, g = hp ++ [Blk.iter bm l.length [] l.length] := ⟨_, rfl⟩
  have hEg : Ext (fun _ => False) h g := by rw [hg]; exact hE.trans (Ext.app _ _ _)
  have hmg : g[bm]? = some (.map (mI l)) := by rw [hg]; exact get_old hm _
  have hig : g[hp.length]? = some (.iter bm l.length [] l.length) := by rw [hg]; exact get_new _ _
  rw [← hg]
  clear hg
  generalize hit : hp.length = it at *
  refine aws_block ?_
  refine aws_hide fun Q hQ => ?_
  refine aw_loopW (γ := Heap × Value × List Nat) (fun s => WK h s.1 bm it l s.2.1 s.2.2)
    (fun s => ([(0, v), (4, v), (5, .map (some bm)), (7, s.2.1), (32, .pointer (some ⟨it, 0, none⟩))], s.1)) (fun s => l.length - s.2.2.length) (g, .slice none 0 0, []) ⟨hEg, hmg, hig, .inl ⟨rfl, rfl⟩, (fun b hb => by cases hb), List.nodup_nil, (fun j hj => by cases hj), ⟨hbm, hbl⟩⟩ (by simp (maxSteps := 2000000) only [↓aw_region, ↓aw_skip, ↓aw_seq, ↓aw_block, ↓aw_exit, ↓aw_ret, ↓sops_nil, ↓sops_go, ↓dops_nil, ↓dopsX_nil, ↓dopsR_nil, ↓vdn, vup, extr_20, extr_21, extr_30, extr_31, extr_32, List.map_cons, List.map_nil, cond_true, cond_false, aop, aThen, aBlock, argEnv, ev, sput, sputO, binK, binI, unK, builtinK, pickK, Nat.reduceBEq, Nat.reduceAdd, Int.reduceBEq, Int.reduceBNe, Int.reduceLT, aPost, resK, tup, tyf]) rfl ?_
  clear hEg hmg hig
  rintro ⟨hq, w0, seen⟩ k
  simp only at k
  refine aws_hide fun Q2 hQ2 => ?_
  simp only [l49_1]
  refine aws_cut fun Y hY => ?_
  simp (maxSteps := 2000000) only [s49, ↓aw_region, ↓aw_skip, ↓aw_seq, ↓aw_block, ↓aw_exit, ↓aw_ret, ↓sops_nil, ↓sops_go, ↓dops_nil, ↓dopsX_nil, ↓dopsR_nil, ↓vdn, vup, extr_20, extr_21, extr_30, extr_31, extr_32, List.map_cons, List.map_nil, cond_true, cond_false, aop, aThen, aBlock, argEnv, ev, sput, sputO, binK, binI, unK, builtinK, pickK, Nat.reduceBEq, Nat.reduceAdd, Int.reduceBEq, Int.reduceBNe, Int.reduceLT, aPost, resK, tup, tyf, isPick_map, nextI k.i k.m hlne, extr_10]
  refine ⟨fun j hj hn => ?_, fun hall => ?_⟩
  · refine hY [(0, v), (4, v), (5, .map (some bm)), (7, w0), (32, .pointer (some ⟨it, 0, none⟩)), (34, .bool true)] _ _ ?_ (by simp (maxSteps := 2000000) only [↓aw_region, ↓aw_skip, ↓aw_seq, ↓aw_block, ↓aw_exit, ↓aw_ret, ↓sops_nil, ↓sops_go, ↓dops_nil, ↓dopsX_nil, ↓dopsR_nil, ↓vdn, vup, extr_20, extr_21, extr_30, extr_31, extr_32, List.map_cons, List.map_nil, cond_true, cond_false, aop, aThen, aBlock, argEnv, ev, sput, sputO, binK, binI, unK, builtinK, pickK, Nat.reduceBEq, Nat.reduceAdd, Int.reduceBEq, Int.reduceBNe, Int.reduceLT, aPost, resK, tup, tyf])
    clear hY
    try clear Y
    refine aws_cut fun N1 hN1 => ?_
    simp (maxSteps := 2000000) only [s49, ↓aw_region, ↓aw_skip, ↓aw_seq, ↓aw_block, ↓aw_exit, ↓aw_ret, ↓sops_nil, ↓sops_go, ↓dops_nil, ↓dopsX_nil, ↓dopsR_nil, ↓vdn, vup, extr_20, extr_21, extr_30, extr_31, extr_32, List.map_cons, List.map_nil, cond_true, cond_false, aop, aThen, aBlock, argEnv, ev, sput, sputO, binK, binI, unK, builtinK, pickK, Nat.reduceBEq, Nat.reduceAdd, Int.reduceBEq, Int.reduceBNe, Int.reduceLT, aPost, resK, tup, tyf]
    refine hN1 [(0, v), (4, v), (5, .map (some bm)), (7, w0), (32, .pointer (some ⟨it, 0, none⟩))] _ _ ?_ (by simp (maxSteps := 2000000) only [↓aw_region, ↓aw_skip, ↓aw_seq, ↓aw_block, ↓aw_exit, ↓aw_ret, ↓sops_nil, ↓sops_go, ↓dops_nil, ↓dopsX_nil, ↓dopsR_nil, ↓vdn, vup, extr_20, extr_21, extr_30, extr_31, extr_32, List.map_cons, List.map_nil, cond_true, cond_false, aop, aThen, aBlock, argEnv, ev, sput, sputO, binK, binI, unK, builtinK, pickK, Nat.reduceBEq, Nat.reduceAdd, Int.reduceBEq, Int.reduceBNe, Int.reduceLT, aPost, resK, tup, tyf])
    clear hN1
    try clear N1
    refine aws_block ?_
    have hi2 : (hq.set it (.iter bm l.length (seen ++ [j]) l.length))[it]? = some (.iter bm l.length (seen ++ [j]) l.length) := get_set (get_lt k.i) _
    have hm2 : (hq.set it (.iter bm l.length (seen ++ [j]) l.length))[bm]? = some (.map (mI l)) := by rw [List.getElem?_set_ne (by omega)]; exact k.m
    refine aws_cut fun N2 hN2 => ?_
    simp (maxSteps := 2000000) only [s49, ↓aw_region, ↓aw_skip, ↓aw_seq, ↓aw_block, ↓aw_exit, ↓aw_ret, ↓sops_nil, ↓sops_go, ↓dops_nil, ↓dopsX_nil, ↓dopsR_nil, ↓vdn, vup, extr_20, extr_21, extr_30, extr_31, extr_32, List.map_cons, List.map_nil, cond_true, cond_false, aop, aThen, aBlock, argEnv, ev, sput, sputO, binK, binI, unK, builtinK, pickK, Nat.reduceBEq, Nat.reduceAdd, Int.reduceBEq, Int.reduceBNe, Int.reduceLT, aPost, resK, tup, tyf, isPick_map, entryI hi2 hm2 hj]
    rw [hky j hj]
    refine hN2 [(0, v), (4, v), (5, .map (some bm)), (7, w0), (8, vint ((l.getD j (0, 0)).1.toNat : Nat)), (32, .pointer (some ⟨it, 0, none⟩))] _ _ ?_ (by simp (maxSteps := 2000000) only [↓aw_region, ↓aw_skip, ↓aw_seq, ↓aw_block, ↓aw_exit, ↓aw_ret, ↓sops_nil, ↓sops_go, ↓dops_nil, ↓dopsX_nil, ↓dopsR_nil, ↓vdn, vup, extr_20, extr_21, extr_30, extr_31, extr_32, List.map_cons, List.map_nil, cond_true, cond_false, aop, aThen, aBlock, argEnv, ev, sput, sputO, binK, binI, unK, builtinK, pickK, Nat.reduceBEq, Nat.reduceAdd, Int.reduceBEq, Int.reduceBNe, Int.reduceLT, aPost, resK, tup, tyf])
    clear hN2
    try clear N2
    have kst := fun {K} => k.step (K := K) hj hn hl8
    generalize hq.set it (.iter bm l.length (seen ++ [j]) l.length) = g2 at kst ⊢
    generalize (((l.getD j (0, 0)).1.toNat : Nat) : Int) = z at kst ⊢
    refine aw_aws ?_
    simp (maxSteps := 2000000) only [s49, ↓aw_region, ↓aw_skip, ↓aw_seq, ↓aw_block, ↓aw_exit, ↓aw_ret, ↓sops_nil, ↓sops_go, ↓dops_nil, ↓dopsX_nil, ↓dopsR_nil, ↓vdn, vup, extr_20, extr_21, extr_30, extr_31, extr_32, List.map_cons, List.map_nil, cond_true, cond_false, aop, aThen, aBlock, argEnv, ev, sput, sputO, binK, binI, unK, builtinK, pickK, Nat.reduceBEq, Nat.reduceAdd, Int.reduceBEq, Int.reduceBNe, Int.reduceLT, aPost, resK, tup, tyf, litI1]
    refine kst fun v' h' k' => ?_
    have hsl : seen.length < l.length := by
      have := nodup_le k'.nodup (m := List.range l.length) (fun x hx => List.mem_range.2 (k'.lt x hx))
      rw [List.length_range, List.length_append, List.length_singleton] at this; omega
    exact hQ2 _ _ _ ⟨(h', v', seen ++ [j]), k', by simp only [List.length_append, List.length_singleton]; omega, by simp (maxSteps := 2000000) only [↓aw_region, ↓aw_skip, ↓aw_seq, ↓aw_block, ↓aw_exit, ↓aw_ret, ↓sops_nil, ↓sops_go, ↓dops_nil, ↓dopsX_nil, ↓dopsR_nil, ↓vdn, vup, extr_20, extr_21, extr_30, extr_31, extr_32, List.map_cons, List.map_nil, cond_true, cond_false, aop, aThen, aBlock, argEnv, ev, sput, sputO, binK, binI, unK, builtinK, pickK, Nat.reduceBEq, Nat.reduceAdd, Int.reduceBEq, Int.reduceBNe, Int.reduceLT, aPost, resK, tup, tyf], rfl⟩
  · refine hY [(0, v), (4, v), (5, .map (some bm)), (7, w0), (32, .pointer (some ⟨it, 0, none⟩)), (34, .bool false)] _ _ ?_ (by simp (maxSteps := 2000000) only [↓aw_region, ↓aw_skip, ↓aw_seq, ↓aw_block, ↓aw_exit, ↓aw_ret, ↓sops_nil, ↓sops_go, ↓dops_nil, ↓dopsX_nil, ↓dopsR_nil, ↓vdn, vup, extr_20, extr_21, extr_30, extr_31, extr_32, List.map_cons, List.map_nil, cond_true, cond_false, aop, aThen, aBlock, argEnv, ev, sput, sputO, binK, binI, unK, builtinK, pickK, Nat.reduceBEq, Nat.reduceAdd, Int.reduceBEq, Int.reduceBNe, Int.reduceLT, aPost, resK, tup, tyf])
    clear hY
    try clear Y
    refine aw_aws ?_
    simp (maxSteps := 2000000) only [s49, ↓aw_region, ↓aw_skip, ↓aw_seq, ↓aw_block, ↓aw_exit, ↓aw_ret, ↓sops_nil, ↓sops_go, ↓dops_nil, ↓dopsX_nil, ↓dopsR_nil, ↓vdn, vup, extr_20, extr_21, extr_30, extr_31, extr_32, List.map_cons, List.map_nil, cond_true, cond_false, aop, aThen, aBlock, argEnv, ev, sput, sputO, binK, binI, unK, builtinK, pickK, Nat.reduceBEq, Nat.reduceAdd, Int.reduceBEq, Int.reduceBNe, Int.reduceLT, aPost, resK, tup, tyf]
    refine hQ2 _ _ _ (hQ _ _ _ ?_)
    simp (maxSteps := 2000000) only [s49, ↓aw_region, ↓aw_skip, ↓aw_seq, ↓aw_block, ↓aw_exit, ↓aw_ret, ↓sops_nil, ↓sops_go, ↓dops_nil, ↓dopsX_nil, ↓dopsR_nil, ↓vdn, vup, extr_20, extr_21, extr_30, extr_31, extr_32, List.map_cons, List.map_nil, cond_true, cond_false, aop, aThen, aBlock, argEnv, ev, sput, sputO, binK, binI, unK, builtinK, pickK, Nat.reduceBEq, Nat.reduceAdd, Int.reduceBEq, Int.reduceBNe, Int.reduceLT, aPost, resK, tup, tyf, if_true]
    refine hN hq w0 _ _ k.E k.m k.own ?_ (fun b hb => by have := k.blk b hb; have := k.le; omega) (by simp (maxSteps := 2000000) only [↓aw_region, ↓aw_skip, ↓aw_seq, ↓aw_block, ↓aw_exit, ↓aw_ret, ↓sops_nil, ↓sops_go, ↓dops_nil, ↓dopsX_nil, ↓dopsR_nil, ↓vdn, vup, extr_20, extr_21, extr_30, extr_31, extr_32, List.map_cons, List.map_nil, cond_true, cond_false, aop, aThen, aBlock, argEnv, ev, sput, sputO, binK, binI, unK, builtinK, pickK, Nat.reduceBEq, Nat.reduceAdd, Int.reduceBEq, Int.reduceBNe, Int.reduceLT, aPost, resK, tup, tyf])
    rw [hkl]
    refine List.Perm.map _ ?_
    have hlen : seen.length = l.length := by
      have h1 := nodup_le (l := List.range l.length) (m := seen) List.nodup_range (fun x hx => hall x (List.mem_range.1 hx))
      have h2 := nodup_le k.nodup (m := List.range l.length) (fun x hx => List.mem_range.2 (k.lt x hx))
      rw [List.length_range] at h1 h2; omega
    exact (List.perm_ext_iff_of_nodup k.nodup List.nodup_range).2 fun x => ⟨fun hx => List.mem_range.2 (k.lt x hx), fun hx => hall x (List.mem_range.1 hx)⟩
end Go.Proofs.Tryd.Am
