/-
  Plain theory: players without a cycle.
-/
import Derived.Test.YtemmcfeekpblkaaDoorAmX
set_option linter.all false
namespace Clr
open Go.Am

theorem perm_of_nodup {α : Type} {l1 l2 : List α} (h1 : l1.Nodup) (h2 : l2.Nodup) (h : ∀ a, a ∈ l1 ↔ a ∈ l2) : l1.Perm l2 := by
  classical
  induction l1 generalizing l2 with
  | nil =>
    cases l2 with
    | nil => exact List.Perm.nil
    | cons b l => exact absurd ((h b).2 (by simp)) (by simp)
  | cons a l ih =>
    have ha : a ∈ l2 := (h a).1 (by simp)
    obtain ⟨s, t, rfl⟩ := List.append_of_mem ha
    refine List.Perm.trans ?_ (List.perm_middle).symm
    refine List.Perm.cons a (ih (List.nodup_cons.1 h1).2 ?_ ?_)
    · exact (List.nodup_cons.1 ((List.perm_middle).nodup_iff.1 h2)).2
    · intro b
      have hb := h b
      simp only [List.mem_cons, List.mem_append] at hb ⊢
      have hna : a ∉ l := (List.nodup_cons.1 h1).1
      have hnt : a ∉ s ++ t := (List.nodup_cons.1 ((List.perm_middle).nodup_iff.1 h2)).1
      constructor
      · intro hl
        have hba : b ≠ a := fun e => hna (e ▸ hl)
        rcases hb.1 (.inr hl) with h | h | h
        · exact .inl h
        · exact absurd h hba
        · exact .inr h
      · intro hst
        have hba : b ≠ a := fun e => hnt (e ▸ List.mem_append.2 hst)
        rcases hb.2 (hst.elim .inl fun h => .inr (.inr h)) with h | h
        · exact absurd h hba
        · exact h

/-- All cycles, each from its least player on. -/
def cycles (n : Nat) (b : Nat → Nat → Bool) : List (Nat × Nat × Nat) :=
  (List.range n).flatMap fun a => ((List.range n).filter (b a)).flatMap fun x => ((List.range n).filter (b x)).flatMap fun c => if a < x ∧ a < c ∧ b c a = true then [(a, x, c)] else []
theorem mem_cycles {n : Nat} {b : Nat → Nat → Bool} {a x c : Nat} : (a, x, c) ∈ cycles n b ↔ a < n ∧ x < n ∧ c < n ∧ b a x = true ∧ b x c = true ∧ b c a = true ∧ a < x ∧ a < c := by
  simp only [cycles, List.mem_flatMap, List.mem_filter, List.mem_range]
  constructor
  · rintro ⟨a', ha, x', ⟨hx, hax⟩, c', ⟨hc, hxc⟩, h⟩
    split at h
    · next h2 =>
      simp only [List.mem_singleton, Prod.mk.injEq] at h
      obtain ⟨rfl, rfl, rfl⟩ := h
      exact ⟨ha, hx, hc, hax, hxc, h2.2.2, h2.1, h2.2.1⟩
    · cases h
  · rintro ⟨ha, hx, hc, h1, h2, h3, h4, h5⟩
    exact ⟨a, ha, x, ⟨hx, h1⟩, c, ⟨hc, h2⟩, by rw [if_pos ⟨h4, h5, h3⟩]; simp⟩
/-- Whether a set has all of a cycle. -/
def has (s : Nat) (c : Nat × Nat × Nat) : Bool := s.testBit c.1 && s.testBit c.2.1 && s.testBit c.2.2
def okS (n : Nat) (b : Nat → Nat → Bool) (s : Nat) : Bool := !(cycles n b).any (has s)
/-- The most players of a set without a cycle, of the sets below m. -/
def bestTo (n : Nat) (b : Nat → Nat → Bool) : Nat → Nat
  | 0 => 0
  | m + 1 => if okS n b m = true then max (bestTo n b m) (bits m).length else bestTo n b m
def clearN (n : Nat) (b : Nat → Nat → Bool) : Nat := bestTo n b (2 ^ n)
/-- A tournament. -/
def Trn (n : Nat) (b : Nat → Nat → Bool) : Prop := (∀ i j, i < n → j < n → i ≠ j → b i j = !b j i) ∧ ∀ i, i < n → b i i = false
def Acy (b : Nat → Nat → Bool) (l : List Nat) : Prop := ∀ p ∈ l, ∀ q ∈ l, ∀ r ∈ l, b p q = true → b q r = true → b r p = true → False

variable {n : Nat} {b : Nat → Nat → Bool}
theorem okS_acy (ht : Trn n b) {l : List Nat} {s : Nat} (hl : ∀ x, x ∈ l ↔ x < n ∧ s.testBit x = true) : okS n b s = true ↔ Acy b l := by
  rw [okS, Bool.not_eq_true', List.any_eq_false]
  constructor
  · intro h p hp q hq r hr h1 h2 h3
    obtain ⟨hpn, hps⟩ := (hl p).1 hp
    obtain ⟨hqn, hqs⟩ := (hl q).1 hq
    obtain ⟨hrn, hrs⟩ := (hl r).1 hr
    have npq : p ≠ q := fun e => by subst e; rw [ht.2 p hpn] at h1; cases h1
    have nqr : q ≠ r := fun e => by subst e; rw [ht.2 q hqn] at h2; cases h2
    have nrp : r ≠ p := fun e => by subst e; rw [ht.2 r hrn] at h3; cases h3
    have key : ∀ a x c : Nat, (a, x, c) ∈ cycles n b → s.testBit a = true → s.testBit x = true → s.testBit c = true → False := fun a x c hm h1 h2 h3 => h (a, x, c) hm (by simp [has, h1, h2, h3])
    by_cases hA : p < q ∧ p < r
    · exact key p q r (mem_cycles.2 ⟨hpn, hqn, hrn, h1, h2, h3, hA.1, hA.2⟩) hps hqs hrs
    · by_cases hB : q < r ∧ q < p
      · exact key q r p (mem_cycles.2 ⟨hqn, hrn, hpn, h2, h3, h1, hB.1, hB.2⟩) hqs hrs hps
      · exact key r p q (mem_cycles.2 ⟨hrn, hpn, hqn, h3, h1, h2, by omega, by omega⟩) hrs hps hqs
  · rintro h ⟨a, x, c⟩ hm hh
    obtain ⟨ha, hx, hc, h1, h2, h3, _⟩ := mem_cycles.1 hm
    simp only [has, Bool.and_eq_true] at hh
    exact h a ((hl a).2 ⟨ha, hh.1.1⟩) x ((hl x).2 ⟨hx, hh.1.2⟩) c ((hl c).2 ⟨hc, hh.2⟩) h1 h2 h3
theorem bestTo_ge : ∀ {m s : Nat}, s < m → okS n b s = true → (bits s).length ≤ bestTo n b m
  | 0, s, h, _ => by omega
  | m + 1, s, h, hs => by
    rw [bestTo]
    by_cases he : s = m
    · subst he; rw [if_pos hs]; omega
    · have := bestTo_ge (m := m) (show s < m by omega) hs
      split <;> omega
theorem bestTo_at : ∀ m, bestTo n b m = 0 ∨ ∃ s, s < m ∧ okS n b s = true ∧ (bits s).length = bestTo n b m
  | 0 => .inl rfl
  | m + 1 => by
    rw [bestTo]
    split
    · next h =>
      by_cases hle : (bits m).length ≤ bestTo n b m
      · rw [Nat.max_eq_left hle]
        exact (bestTo_at m).imp id fun ⟨s, h1, h2⟩ => ⟨s, by omega, h2⟩
      · exact .inr ⟨m, by omega, h, by omega⟩
    · exact (bestTo_at m).imp id fun ⟨s, h1, h2⟩ => ⟨s, by omega, h2⟩

theorem bits_nodup (s : Nat) : (bits s).Nodup := List.nodup_range.filter _
/-- The set of a list. -/
def setL (l : List Nat) : Nat := l.foldl (fun s x => s ||| 2 ^ x) 0
theorem fold_bit : ∀ (l : List Nat) (s w : Nat), (l.foldl (fun s x => s ||| 2 ^ x) s).testBit w = (s.testBit w || l.contains w)
  | [], s, w => by simp
  | x :: l, s, w => by
    rw [List.foldl_cons, fold_bit l, Nat.testBit_or, Nat.testBit_two_pow, List.contains_cons, Bool.or_assoc]
    congr 2
    by_cases h : x = w
    · subst h; simp
    · rw [decide_eq_false h]; simp [Ne.symm h]
theorem setL_bit (l : List Nat) (w : Nat) : (setL l).testBit w = true ↔ w ∈ l := by
  rw [setL, fold_bit, Nat.zero_testBit, Bool.false_or]; simp
theorem setL_lt {l : List Nat} (hl : ∀ x ∈ l, x < n) : setL l < 2 ^ n := Nat.lt_pow_two_of_testBit _ fun j hj => by
  cases h : (setL l).testBit j with
  | false => rfl
  | true => have := hl j ((setL_bit l j).1 h); omega
theorem clear_ge (ht : Trn n b) (hn : n ≤ 64) {l : List Nat} (hl : ∀ x ∈ l, x < n) (hd : l.Nodup) (ha : Acy b l) : l.length ≤ clearN n b := by
  have h1 : okS n b (setL l) = true := (okS_acy ht fun x => by
    rw [setL_bit]; exact ⟨fun h => ⟨hl x h, h⟩, fun h => h.2⟩).2 ha
  have h2 := bestTo_ge (setL_lt hl) h1
  have h3 : (bits (setL l)).Perm l := perm_of_nodup (bits_nodup _) hd fun x => by
    rw [mem_bits, setL_bit]
    exact ⟨fun h => h.2, fun h => ⟨by have := hl x h; omega, h⟩⟩
  rw [h3.length_eq] at h2
  exact h2
theorem clear_at (ht : Trn n b) (hn : n ≤ 64) : ∃ l : List Nat, (∀ x ∈ l, x < n) ∧ l.Nodup ∧ Acy b l ∧ l.length = clearN n b := by
  rcases bestTo_at (n := n) (b := b) (2 ^ n) with h | ⟨s, h1, h2, h3⟩
  · exact ⟨[], by simp, List.nodup_nil, fun p hp => by simp at hp, h.symm⟩
  · have hb : ∀ x, s.testBit x = true → x < n := fun x hx => by
      rcases Nat.lt_or_ge x n with h | h
      · exact h
      · rw [Nat.testBit_lt_two_pow (Nat.lt_of_lt_of_le h1 (Nat.pow_le_pow_right (by decide) h))] at hx; cases hx
    refine ⟨bits s, fun x hx => hb x (mem_bits.1 hx).2, bits_nodup s, (okS_acy ht fun x => ?_).1 h2, h3⟩
    rw [mem_bits]
    exact ⟨fun h => ⟨hb x h.2, h.2⟩, fun h => ⟨by omega, h.2⟩⟩
theorem len_le {l : List Nat} (hl : ∀ x ∈ l, x < n) (hd : l.Nodup) : l.length ≤ n := by
  have h1 : l.Perm ((List.range n).filter fun x => l.contains x) := perm_of_nodup hd (List.nodup_range.filter _) fun x => by
    simp only [List.mem_filter, List.mem_range, List.contains_iff_mem]
    exact ⟨fun h => ⟨hl x h, h⟩, fun h => h.2⟩
  rw [h1.length_eq]
  have := List.length_filter_le (fun x => l.contains x) (List.range n)
  rwa [List.length_range] at this
theorem clear_le (ht : Trn n b) (hn : n ≤ 64) : clearN n b ≤ n := by
  obtain ⟨l, h1, h2, _, h3⟩ := clear_at ht hn
  rw [← h3]; exact len_le h1 h2

/-- One before, or behind, all of some without a cycle. -/
theorem acy_top (ht : Trn n b) {x : Nat} {l : List Nat} (hx : x < n) (hl : ∀ y ∈ l, y < n) (ha : Acy b l) (h : (∀ y ∈ l, b x y = true) ∨ ∀ y ∈ l, b x y = false) (hn : x ∉ l) : Acy b (x :: l) := by
  have hxx := ht.2 x hx
  have hsw : ∀ y ∈ l, b y x = !b x y := fun y hy => ht.1 y x (hl y hy) hx fun e => hn (e ▸ hy)
  intro p hp q hq r hr h1 h2 h3
  have key : ∀ u v w : Nat, u = x → v ∈ x :: l → w ∈ x :: l → b u v = true → b v w = true → b w u = true → False := by
    rintro u v w rfl hv hw g1 g2 g3
    have hv' : v ∈ l := (List.mem_cons.1 hv).resolve_left fun e => by rw [e, hxx] at g1; cases g1
    have hw' : w ∈ l := (List.mem_cons.1 hw).resolve_left fun e => by rw [e, hxx] at g3; cases g3
    rcases h with h | h
    · rw [hsw w hw', h w hw'] at g3; cases g3
    · rw [h v hv'] at g1; cases g1
  by_cases hpx : p = x
  · exact key p q r hpx hq hr h1 h2 h3
  · by_cases hqx : q = x
    · exact key q r p hqx hr hp h2 h3 h1
    · by_cases hrx : r = x
      · exact key r p q hrx hp hq h3 h1 h2
      · exact ha p ((List.mem_cons.1 hp).resolve_left hpx) q ((List.mem_cons.1 hq).resolve_left hqx) r ((List.mem_cons.1 hr).resolve_left hrx) h1 h2 h3
theorem acy_two (ht : Trn n b) {x y : Nat} (hx : x < n) (hy : y < n) : Acy b [x, y] := by
  intro p hp q hq r hr h1 h2 h3
  have hxx := ht.2 x hx
  have hyy := ht.2 y hy
  simp only [List.mem_cons, List.not_mem_nil, or_false] at hp hq hr
  rcases hp with rfl | rfl <;> rcases hq with rfl | rfl <;> rcases hr with rfl | rfl <;> first | (rw [hxx] at h1; cases h1) | (rw [hyy] at h1; cases h1) | (rw [hxx] at h2; cases h2) | (rw [hyy] at h2; cases h2) | (rw [hxx] at h3; cases h3) | (rw [hyy] at h3; cases h3)
/-- Of a list half stands on one side. -/
theorem side (f : Nat → Bool) : ∀ l : List Nat, (l.filter f).length + (l.filter fun x => !f x).length = l.length
  | [] => rfl
  | x :: l => by
    have := side f l
    rw [List.filter_cons, List.filter_cons]
    cases f x <;> simp <;> omega
theorem acy_sub {l l' : List Nat} (h : Acy b l) (hs : ∀ x ∈ l', x ∈ l) : Acy b l' := fun p hp q hq r hr => h p (hs p hp) q (hs q hq) r (hs r hr)
/-- Of 2 k - 1 others at least k on one side of x: then those without a cycle among k go with x. -/
theorem grow (ht : Trn n b) {k m : Nat} (hk : ∀ l : List Nat, (∀ x ∈ l, x < n) → l.Nodup → k ≤ l.length → ∃ l', (∀ x ∈ l', x ∈ l) ∧ l'.Nodup ∧ Acy b l' ∧ l'.length = m) {l : List Nat} (hl : ∀ x ∈ l, x < n) (hd : l.Nodup) (hlen : 2 * k ≤ l.length) (hk0 : 0 < k) :
    ∃ l', (∀ x ∈ l', x ∈ l) ∧ l'.Nodup ∧ Acy b l' ∧ l'.length = m + 1 := by
  cases l with
  | nil => simp at hlen; omega
  | cons x l =>
    have hx := List.nodup_cons.1 hd
    have hs := side (b x) l
    simp only [List.length_cons] at hlen
    have hx' := hl x (by simp)
    have hl' : ∀ y ∈ l, y < n := fun y hy => hl y (by simp [hy])
    have fin : ∀ F : List Nat, (∀ y ∈ F, y ∈ l) → F.Nodup → ((∀ y ∈ F, b x y = true) ∨ ∀ y ∈ F, b x y = false) → k ≤ F.length → ∃ l', (∀ y ∈ l', y ∈ x :: l) ∧ l'.Nodup ∧ Acy b l' ∧ l'.length = m + 1 := by
      intro F h1 h2 h3 h4
      obtain ⟨l', g1, g2, g3, g4⟩ := hk F (fun y hy => hl' y (h1 y hy)) h2 h4
      have hxl : x ∉ l' := fun h => hx.1 (h1 x (g1 x h))
      refine ⟨x :: l', fun y hy => ?_, List.nodup_cons.2 ⟨hxl, g2⟩, acy_top ht hx' (fun y hy => hl' y (h1 y (g1 y hy))) g3 (h3.imp (fun h y hy => h y (g1 y hy)) fun h y hy => h y (g1 y hy)) hxl, by simp [g4]⟩
      rcases List.mem_cons.1 hy with rfl | h
      · simp
      · simp [h1 y (g1 y h)]
    by_cases hA : k ≤ (l.filter (b x)).length
    · exact fin _ (fun y hy => (List.mem_filter.1 hy).1) (hx.2.filter _) (.inl fun y hy => (List.mem_filter.1 hy).2) hA
    · exact fin (l.filter fun y => !b x y) (fun y hy => (List.mem_filter.1 hy).1) (hx.2.filter _) (.inr fun y hy => by simpa using (List.mem_filter.1 hy).2) (by omega)
theorem acy2 (ht : Trn n b) (l : List Nat) (hl : ∀ x ∈ l, x < n) (hd : l.Nodup) (h : 2 ≤ l.length) : ∃ l', (∀ x ∈ l', x ∈ l) ∧ l'.Nodup ∧ Acy b l' ∧ l'.length = 2 := by
  cases l with
  | nil => simp at h
  | cons x l =>
    cases l with
    | nil => simp at h
    | cons y l =>
      refine ⟨[x, y], fun z hz => ?_, ?_, acy_two ht (hl x (by simp)) (hl y (by simp)), rfl⟩
      · simp only [List.mem_cons, List.not_mem_nil, or_false] at hz ⊢
        rcases hz with h | h <;> simp [h]
      · have := List.nodup_cons.1 hd
        refine List.nodup_cons.2 ⟨fun h => this.1 ?_, by simp⟩
        simp only [List.mem_singleton] at h; simp [h]
theorem clear_low (ht : Trn n b) (hn : n ≤ 64) : (1 ≤ n → 1 ≤ clearN n b) ∧ (2 ≤ n → 2 ≤ clearN n b) ∧ (4 ≤ n → 3 ≤ clearN n b) ∧ (8 ≤ n → 4 ≤ clearN n b) := by
  have hr : ∀ x ∈ List.range n, x < n := fun x hx => List.mem_range.1 hx
  have a3 : ∀ l : List Nat, (∀ x ∈ l, x < n) → l.Nodup → 4 ≤ l.length → ∃ l', (∀ x ∈ l', x ∈ l) ∧ l'.Nodup ∧ Acy b l' ∧ l'.length = 3 := fun l h1 h2 h3 => grow ht (acy2 ht) h1 h2 h3 (by decide)
  refine ⟨fun h => ?_, fun h => ?_, fun h => ?_, fun h => ?_⟩
  · have := clear_ge ht hn (l := [0]) (by simp; omega) (by simp) (acy_sub (acy_two ht (x := 0) (y := 0) (by omega) (by omega)) (by simp))
    simpa using this
  · obtain ⟨l', h1, h2, h3, h4⟩ := acy2 ht (List.range n) hr List.nodup_range (by simpa using h)
    rw [← h4]; exact clear_ge ht hn (fun x hx => hr x (h1 x hx)) h2 h3
  · obtain ⟨l', h1, h2, h3, h4⟩ := a3 (List.range n) hr List.nodup_range (by simpa using h)
    rw [← h4]; exact clear_ge ht hn (fun x hx => hr x (h1 x hx)) h2 h3
  · obtain ⟨l', h1, h2, h3, h4⟩ := grow ht a3 hr List.nodup_range (show 2 * 4 ≤ (List.range n).length by simpa using h) (by decide)
    show 3 + 1 ≤ _
    rw [← h4]; exact clear_ge ht hn (fun x hx => hr x (h1 x hx)) h2 h3
theorem clear_all (ht : Trn n b) (hn : n ≤ 64) : clearN n b = n ↔ cycles n b = [] := by
  constructor
  · intro h
    obtain ⟨l, h1, h2, h3, h4⟩ := clear_at ht hn
    have hall : ∀ x, x < n → x ∈ l := fun x hx => by
      refine Classical.byContradiction fun hc => ?_
      have := len_le (l := x :: l) (n := n) (fun y hy => by
        rcases List.mem_cons.1 hy with rfl | h
        · exact hx
        · exact h1 y h) (List.nodup_cons.2 ⟨hc, h2⟩)
      simp only [List.length_cons] at this; omega
    rw [List.eq_nil_iff_forall_not_mem]
    rintro ⟨a, x, c⟩ hm
    obtain ⟨ha, hx, hc, g1, g2, g3, _⟩ := mem_cycles.1 hm
    exact h3 a (hall a ha) x (hall x hx) c (hall c hc) g1 g2 g3
  · intro h
    have h1 := clear_le ht hn
    have h2 := clear_ge ht hn (l := List.range n) (fun x hx => List.mem_range.1 hx) List.nodup_range fun p hp q hq r hr g1 g2 g3 => by
      have hp' := List.mem_range.1 hp
      have hq' := List.mem_range.1 hq
      have hr' := List.mem_range.1 hr
      have hm : okS n b (2 ^ n - 1) = true := by simp [okS, h]
      exact (okS_acy ht (l := List.range n) (s := 2 ^ n - 1) fun x => by rw [Nat.testBit_two_pow_sub_one]; simp).1 hm p hp q hq r hr g1 g2 g3
    rw [List.length_range] at h2; omega
theorem clear_sub {k : Nat} (ht : Trn (k + 1) b) (hn : k + 1 ≤ 64) : clearN k b ≤ clearN (k + 1) b ∧ clearN (k + 1) b ≤ clearN k b + 1 := by
  have ht' : Trn k b := ⟨fun i j hi hj => ht.1 i j (by omega) (by omega), fun i hi => ht.2 i (by omega)⟩
  constructor
  · obtain ⟨l, h1, h2, h3, h4⟩ := clear_at ht' (by omega)
    rw [← h4]; exact clear_ge ht hn (fun x hx => by have := h1 x hx; omega) h2 h3
  · obtain ⟨l, h1, h2, h3, h4⟩ := clear_at ht hn
    have := clear_ge ht' (by omega) (l := l.erase k) (fun x hx => by
      have hm := List.Nodup.mem_erase_iff h2 |>.1 hx
      have := h1 x hm.2
      have := hm.1
      omega) (h2.erase k) (acy_sub h3 fun x hx => List.mem_of_mem_erase hx)
    have hl : l.length ≤ (l.erase k).length + 1 := by
      by_cases hk : k ∈ l
      · rw [List.length_erase_of_mem hk]; omega
      · rw [List.erase_of_not_mem hk]; omega
    omega
theorem cycles_congr {b b' : Nat → Nat → Bool} (h : ∀ i j, i < n → j < n → b i j = b' i j) : cycles n b = cycles n b' := by
  unfold cycles
  have hf : ∀ i, i < n → (List.range n).filter (b i) = (List.range n).filter (b' i) := fun i hi => List.filter_congr fun j hj => h i j hi (List.mem_range.1 hj)
  rw [List.flatMap_def, List.flatMap_def]
  congr 1
  refine List.map_congr_left fun a ha => ?_
  have ha' := List.mem_range.1 ha
  rw [hf a ha', List.flatMap_def, List.flatMap_def]
  congr 1
  refine List.map_congr_left fun x hx => ?_
  have hx' := List.mem_range.1 (List.mem_filter.1 hx).1
  rw [hf x hx', List.flatMap_def, List.flatMap_def]
  congr 1
  refine List.map_congr_left fun c hc => ?_
  rw [h c a (List.mem_range.1 (List.mem_filter.1 hc).1) ha']
theorem clear_congr {b b' : Nat → Nat → Bool} (h : ∀ i j, i < n → j < n → b i j = b' i j) : clearN n b = clearN n b' := by
  have hc := cycles_congr h
  have : ∀ m, bestTo n b m = bestTo n b' m := by
    intro m
    induction m with
    | zero => rfl
    | succ m ih => rw [bestTo, bestTo, ih, okS, okS, hc]
  exact this _
end Clr
