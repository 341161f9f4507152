/-
  ranks: the ways of a tournament counted: an odd number; so the search finds one, and what it finds is a way.
-/
import Derived.Test.YtemmcfeekpblkaaDoorRedei
import Derived.Test.YtemmcfeekpblkaaDoorRkWays
set_option linter.all false
namespace Go.Proofs.Tryd.Am
open Go.Am Redei

/-- Who is not met. -/
def unmet (n met : Nat) : List Nat := (List.range n).filter fun j => !met.testBit j
/-- y beats x. -/
def bt (xs : List Int) (x y : Nat) : Bool := bitI (xs.getD y 0) x

theorem picks_map : ∀ (L : List Nat), L.Nodup → picks L = L.map fun i => (i, L.filter fun j => decide (j ≠ i))
  | [], _ => rfl
  | x :: L, hn => by
    rw [List.nodup_cons] at hn
    have h1 : ∀ i ∈ L, i ≠ x := fun i hi h => hn.1 (h ▸ hi)
    simp only [picks, List.map_cons, picks_map L hn.2, List.map_map]
    congr 1
    · congr 1
      rw [List.filter_cons, if_neg (by simp)]
      exact (List.filter_eq_self.2 fun j hj => by simpa using h1 j hj).symm
    · refine List.map_congr_left fun i hi => ?_
      simp only [Function.comp]
      rw [List.filter_cons, if_pos (by simpa using fun h : x = i => h1 i hi h.symm)]

theorem sm_filter (f : Nat → Nat) (p : Nat → Bool) : ∀ L : List Nat, sm f (L.filter p) = sm (fun i => if p i = true then f i else 0) L
  | [] => rfl
  | x :: L => by
    rw [List.filter_cons]
    by_cases h : p x = true
    · rw [if_pos h]; simp only [sm]; rw [if_pos h, sm_filter f p L]
    · rw [if_neg h]; simp only [sm]; rw [if_neg h, sm_filter f p L, Nat.zero_add]

theorem unmet_more (n met i : Nat) : (unmet n met).filter (fun j => decide (j ≠ i)) = unmet n (met ||| 2 ^ i) := by
  unfold unmet
  rw [List.filter_filter]
  refine List.filter_congr fun j _ => ?_
  rw [Nat.testBit_or, Nat.testBit_two_pow]
  cases met.testBit j <;> by_cases h : i = j <;> simp [h]
  · exact fun hh => h hh.symm
theorem unmet_nodup (n met : Nat) : (unmet n met).Nodup := List.nodup_range.filter _
theorem sm_unmet (n met : Nat) (F : Nat → List Nat → Nat) : sm (fun p => F p.1 p.2) (picks (unmet n met)) = sm (fun i => if met.testBit i = false then F i (unmet n (met ||| 2 ^ i)) else 0) (List.range n) := by
  rw [picks_map _ (unmet_nodup n met), sm_map]
  simp only [unmet_more]
  rw [show unmet n met = (List.range n).filter (fun j => !met.testBit j) from rfl, sm_filter (fun i => F i (unmet n (met ||| 2 ^ i)))]
  refine sm_congr fun i _ => ?_
  cases met.testBit i <;> rfl
theorem unmet_nil {n met : Nat} (h : met < 2 ^ n) : unmet n met = [] ↔ met = 2 ^ n - 1 := by
  unfold unmet
  rw [List.filter_eq_nil_iff]
  constructor
  · intro hh
    apply Nat.eq_of_testBit_eq
    intro i
    rw [Nat.testBit_two_pow_sub_one]
    by_cases hi : i < n
    · have := hh i (List.mem_range.2 hi)
      rw [decide_eq_true hi]; simpa using this
    · rw [decide_eq_false hi]
      exact Nat.testBit_lt_two_pow (Nat.lt_of_lt_of_le h (Nat.pow_le_pow_right (by decide) (by omega)))
  · rintro rfl i hi
    rw [Nat.testBit_two_pow_sub_one, decide_eq_true (List.mem_range.1 hi)]; decide
theorem or_lt {n met i : Nat} (h : met < 2 ^ n) (hi : i < n) : met ||| 2 ^ i < 2 ^ n := Nat.or_lt_two_pow h (Nat.pow_lt_pow_right (by decide) hi)
theorem unmet_len {n met i : Nat} (hi : i < n) (hm : met.testBit i = false) : (unmet n (met ||| 2 ^ i)).length + 1 = (unmet n met).length := by
  have h1 : (i, (unmet n met).filter fun j => decide (j ≠ i)) ∈ picks (unmet n met) := by
    rw [picks_map _ (unmet_nodup n met)]
    exact List.mem_map.2 ⟨i, List.mem_filter.2 ⟨List.mem_range.2 hi, by rw [hm]; rfl⟩, rfl⟩
  have := picks_len h1
  rw [unmet_more] at this
  exact this
theorem unmet_le (n met : Nat) : (unmet n met).length ≤ n := by
  have := List.length_filter_le (fun j => !met.testBit j) (List.range n)
  rw [List.length_range] at this; exact this

/-- A way may go on from a player (or begin) with i. -/
def goesB (xs : List Int) (from' : Option Nat) (i : Nat) : Bool := match from' with | none => true | some y => bitI (xs.getD y 0) i
/-- How many ways go on from a player through all that were not met. -/
def waysF (xs : List Int) : Nat → Option Nat → Nat → Nat
  | 0, _, _ => 0
  | m + 1, from', met => if met = 2 ^ xs.length - 1 then 1 else sm (fun i => if met.testBit i = false ∧ goesB xs from' i = true then waysF xs m (some i) (met ||| 2 ^ i) else 0) (List.range xs.length)

theorem ways_E {xs : List Int} : ∀ (m met y : Nat), met < 2 ^ xs.length → (unmet xs.length met).length < m → waysF xs m (some y) met = E (bt xs) (unmet xs.length met) y := by
  intro m
  induction m with
  | zero => intro met y _ h; omega
  | succ m ih =>
    intro met y hm hl
    rw [waysF, E_eq]
    by_cases h : met = 2 ^ xs.length - 1
    · rw [if_pos h, if_pos ((unmet_nil hm).2 h), (unmet_nil hm).2 h]; rfl
    · rw [if_neg h, if_neg (fun hh => h ((unmet_nil hm).1 hh)), Nat.zero_add, sm_unmet xs.length met (fun x A => if bt xs x y = true then E (bt xs) A x else 0)]
      refine sm_congr fun i hi => ?_
      have hin := List.mem_range.1 hi
      cases hmb : met.testBit i with
      | true => simp
      | false =>
        have := unmet_len hin hmb
        rw [if_pos rfl, ih (met ||| 2 ^ i) i (or_lt hm hin) (by omega)]
        by_cases hb : bitI (xs.getD y 0) i = true
        · rw [if_pos ⟨rfl, hb⟩, if_pos (show bt xs i y = true from hb)]
        · rw [if_neg (fun h => hb h.2), if_neg (show ¬ bt xs i y = true from hb)]

theorem ways_H {xs : List Int} (hx : 1 ≤ xs.length) : waysF xs (xs.length + 1) none 0 = H (bt xs) (unmet xs.length 0) := by
  have hpos := Nat.two_pow_pos xs.length
  have h2 : 2 ^ 1 ≤ 2 ^ xs.length := Nat.pow_le_pow_right (by decide) hx
  rw [waysF, if_neg (by omega), H, sm_unmet xs.length 0 (fun x A => E (bt xs) A x)]
  refine sm_congr fun i hi => ?_
  have hin := List.mem_range.1 hi
  have := unmet_len (met := 0) hin (by simp)
  have hle := unmet_le xs.length 0
  rw [if_pos ⟨by simp, rfl⟩, if_pos (by simp), ways_E _ _ _ (or_lt hpos hin) (by omega)]

theorem trn_tour {xs : List Int} (h : trn xs = true) : Tour (bt xs) (unmet xs.length 0) := by
  have hok : ∀ i, i < xs.length → ∀ j, j < i → bitI (xs.getD i 0) j = !bitI (xs.getD j 0) i := by
    intro i hi j hj
    simp only [trn, Bool.and_eq_true, decide_eq_true_eq, List.all_eq_true, List.mem_range] at h
    have h2 := h.2 i hi
    simp only [okAt, Bool.and_eq_true, List.all_eq_true, List.mem_range] at h2
    have h3 := h2.2 j hj
    revert h3
    cases bitI (xs.getD i 0) j <;> cases bitI (xs.getD j 0) i <;> decide
  intro x y hx hy hxy
  have hx' := List.mem_range.1 (List.mem_filter.1 hx).1
  have hy' := List.mem_range.1 (List.mem_filter.1 hy).1
  show bitI (xs.getD y 0) x = !bitI (xs.getD x 0) y
  rcases Nat.lt_or_gt_of_ne hxy with hlt | hlt
  · exact hok y hy' x hlt
  · rw [hok x hx' y hlt, Bool.not_not]

theorem ways_odd {xs : List Int} (h : trn xs = true) : waysF xs (xs.length + 1) none 0 % 2 = 1 := by
  have hxl : 1 ≤ xs.length := by simp only [trn, Bool.and_eq_true, decide_eq_true_eq] at h; omega
  rw [ways_H hxl]
  refine redei _ ?_ (unmet_nodup _ _) (trn_tour h)
  intro hh
  have := (unmet_nil (Nat.two_pow_pos _)).1 hh
  have h2 : 2 ^ 1 ≤ 2 ^ xs.length := Nat.pow_le_pow_right (by decide) hxl
  omega

theorem sm_all_zero {α : Type} {f : α → Nat} {l : List α} (h : ∀ x ∈ l, f x = 0) : sm f l = 0 := (sm_congr h).trans (sm_zero l)

theorem firstOf_none_at {α β : Type} {f : α → Option β} : ∀ {l : List α}, firstOf f l = none → ∀ x ∈ l, f x = none
  | [], _, _, h => by cases h
  | y :: l, h, x, hx => by
    rw [firstOf] at h
    cases hy : f y with
    | some z => rw [hy] at h; cases h
    | none =>
      rw [hy] at h
      rcases List.mem_cons.1 hx with rfl | hx
      · exact hy
      · exact firstOf_none_at h x hx

/-- Where the search finds none, there is none. -/
theorem none_zero {xs : List Int} : ∀ (m : Nat) (begun : List Int) (y met : Nat), met < 2 ^ xs.length → begun.length + (unmet xs.length met).length = xs.length → (unmet xs.length met).length < m → begun ≠ [] → begun.getD (begun.length - 1) 0 = (y : Int) →
    wayR xs xs.length false m begun met = none → E (bt xs) (unmet xs.length met) y = 0 := by
  intro m
  induction m with
  | zero => intro begun y met _ _ h; omega
  | succ m ih =>
    intro begun y met hm hl hlm hne hy hw
    rw [wayR] at hw
    by_cases hlen : begun.length = xs.length
    · rw [if_pos hlen, if_neg (by simp)] at hw; cases hw
    · rw [if_neg hlen] at hw
      rw [E_eq, if_neg (fun h => by rw [h] at hl; simp at hl; omega), Nat.zero_add, sm_unmet xs.length met (fun x A => if bt xs x y = true then E (bt xs) A x else 0)]
      refine sm_all_zero fun i hi => ?_
      have hin := List.mem_range.1 hi
      have hF := firstOf_none_at hw i hi
      cases hmb : met.testBit i with
      | true => rw [if_neg (by decide)]
      | false =>
        rw [if_pos rfl]
        by_cases hb : bt xs i y = true
        · rw [if_pos hb]
          have hb' : bitI (xs.getD y 0) i = true := hb
          rw [if_neg (by rintro (h | h); rw [hmb] at h; cases h; have h2 := h.2; rw [hy, Int.toNat_natCast, hb'] at h2; cases h2)] at hF
          have := unmet_len hin hmb
          refine ih _ i _ (or_lt hm hin) (by simp; omega) (by omega) (by simp) ?_ hF
          simp [List.getD]
        · rw [if_neg hb]
theorem way_some {xs : List Int} (h : trn xs = true) : ∃ l, wayR xs xs.length false (xs.length + 1) [] 0 = some l := by
  cases hw : wayR xs xs.length false (xs.length + 1) [] 0 with
  | some l => exact ⟨l, rfl⟩
  | none =>
    exfalso
    have hxl : 1 ≤ xs.length := by simp only [trn, Bool.and_eq_true, decide_eq_true_eq] at h; omega
    have hodd := ways_odd h
    rw [ways_H hxl, H] at hodd
    have hz : sm (fun p => E (bt xs) p.2 p.1) (picks (unmet xs.length 0)) = 0 := by
      rw [sm_unmet xs.length 0 (fun x A => E (bt xs) A x)]
      refine sm_all_zero fun i hi => ?_
      have hin := List.mem_range.1 hi
      rw [wayR, if_neg (by simp; omega)] at hw
      have hF := firstOf_none_at hw i hi
      rw [if_neg (by simp)] at hF
      have hl := unmet_len (met := 0) hin (by simp)
      have hall : (unmet xs.length 0).length = xs.length := by
        unfold unmet; rw [List.filter_eq_self.2 (by simp), List.length_range]
      rw [if_pos (by simp)]
      exact none_zero xs.length [(i : Int)] i (0 ||| 2 ^ i) (or_lt (Nat.two_pow_pos _) hin) (by simp only [List.length_singleton]; omega) (by omega) (by simp) (by simp) hF
    omega

/-- The set of a list. -/
def setOf (l : List Int) : Nat := l.foldl (fun s x => s ||| 2 ^ x.toNat) 0
theorem setOf_snoc (l : List Int) (x : Int) : setOf (l ++ [x]) = setOf l ||| 2 ^ x.toNat := by simp [setOf]
/-- The k-th of l is a player, and none of those before. -/
def newAt (n : Nat) (l : List Int) (k : Nat) : Bool := decide (0 ≤ l.getD k 0) && decide (l.getD k 0 < n) && !(setOf (l.take k)).testBit (l.getD k 0).toNat
def isOrd (n : Nat) (l : List Int) : Bool := (List.range l.length).all (newAt n l) && decide (l.length = n)
/-- Each beats the next. -/
def chain (xs : List Int) (l : List Int) : Prop := ∀ k, k + 1 < l.length → bitI (xs.getD (l.getD k 0).toNat 0) (l.getD (k + 1) 0).toNat = true

theorem way_good {xs : List Int} {size : Nat} : ∀ (m : Nat) (begun : List Int) (l : List Int), (∀ k, k < begun.length → newAt xs.length begun k = true) → chain xs begun → wayR xs size false m begun (setOf begun) = some l →
    l.length = size ∧ (∀ k, k < l.length → newAt xs.length l k = true) ∧ chain xs l := by
  intro m
  induction m with
  | zero => intro begun l _ _ h; cases h
  | succ m ih =>
    intro begun l hn hc hw
    rw [wayR] at hw
    by_cases hlen : begun.length = size
    · rw [if_pos hlen, if_neg (by simp)] at hw
      cases hw
      exact ⟨hlen, hn, hc⟩
    · rw [if_neg hlen] at hw
      obtain ⟨i, hi, hF⟩ := firstOf_mem hw
      have hin := List.mem_range.1 hi
      split at hF
      · cases hF
      · rename_i hcond
        have e : setOf begun ||| 2 ^ i = setOf (begun ++ [(i : Int)]) := by rw [setOf_snoc, Int.toNat_natCast]
        rw [e] at hF
        refine ih _ l (fun k hk => ?_) (fun k hk => ?_) hF
        · simp only [List.length_append, List.length_singleton] at hk
          by_cases hkl : k < begun.length
          · have := hn k hkl
            have g : (begun ++ [(i : Int)]).getD k 0 = begun.getD k 0 := by simp [List.getD, List.getElem?_append_left hkl]
            have t : (begun ++ [(i : Int)]).take k = begun.take k := List.take_append_of_le_length (by omega)
            unfold newAt at this ⊢
            rw [g, t]; exact this
          · obtain rfl : k = begun.length := by omega
            have g : (begun ++ [(i : Int)]).getD begun.length 0 = (i : Int) := by simp [List.getD]
            have t : (begun ++ [(i : Int)]).take begun.length = begun := by simp
            unfold newAt
            rw [g, t, Int.toNat_natCast, decide_eq_true (by omega), decide_eq_true (by omega)]
            cases hb : (setOf begun).testBit i with
            | true => exact absurd (.inl hb) hcond
            | false => rfl
        · simp only [List.length_append, List.length_singleton] at hk
          by_cases hkl : k + 1 < begun.length
          · have g : (begun ++ [(i : Int)]).getD k 0 = begun.getD k 0 := by simp [List.getD, List.getElem?_append_left (show k < begun.length by omega)]
            have g2 : (begun ++ [(i : Int)]).getD (k + 1) 0 = begun.getD (k + 1) 0 := by simp [List.getD, List.getElem?_append_left hkl]
            rw [g, g2]; exact hc k hkl
          · obtain rfl : k = begun.length - 1 := by omega
            have hne : begun ≠ [] := by rintro rfl; simp at hk
            have hpos := List.length_pos_iff.2 hne
            have g : (begun ++ [(i : Int)]).getD (begun.length - 1) 0 = begun.getD (begun.length - 1) 0 := by simp [List.getD, List.getElem?_append_left (show begun.length - 1 < begun.length by omega)]
            have g2 : (begun ++ [(i : Int)]).getD (begun.length - 1 + 1) 0 = (i : Int) := by rw [Nat.sub_add_cancel hpos]; simp [List.getD]
            rw [g, g2, Int.toNat_natCast]
            cases hb : bitI (xs.getD (begun.getD (begun.length - 1) 0).toNat 0) i with
            | true => rfl
            | false => exact absurd (.inr ⟨hne, hb⟩) hcond
end Go.Proofs.Tryd.Am
