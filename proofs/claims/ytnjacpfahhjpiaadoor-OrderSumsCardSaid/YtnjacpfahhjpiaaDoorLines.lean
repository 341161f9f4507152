/-
  Plain theory: the lines of a relation (no program in sight).
-/
set_option linter.all false
namespace Ord

theorem perm_of_nodup {α : Type} {l1 l2 : List α} (h1 : l1.Nodup) (h2 : l2.Nodup) (h : ∀ a, a ∈ l1 ↔ a ∈ l2) : l1.Perm l2 := by
  classical
  induction l1 generalizing l2 with
  | nil =>
    cases l2 with
    | nil => exact List.Perm.nil
    | cons b l => exact absurd ((h b).2 (by simp)) (by simp)
  | cons a l ih =>
    have ha : a ∈ l2 := (h a).1 (by simp)
    obtain ⟨s, t, rfl⟩ := List.append_of_mem ha
    refine List.Perm.trans ?_ (List.perm_middle).symm
    refine List.Perm.cons a (ih (List.nodup_cons.1 h1).2 ?_ ?_)
    · exact (List.nodup_cons.1 ((List.perm_middle).nodup_iff.1 h2)).2
    · intro b
      have hb := h b
      simp only [List.mem_cons, List.mem_append] at hb ⊢
      have hna : a ∉ l := (List.nodup_cons.1 h1).1
      have hnt : a ∉ s ++ t := (List.nodup_cons.1 ((List.perm_middle).nodup_iff.1 h2)).1
      constructor
      · intro hl
        have hba : b ≠ a := fun e => hna (e ▸ hl)
        rcases hb.1 (.inr hl) with h | h | h
        · exact .inl h
        · exact absurd h hba
        · exact .inr h
      · intro hst
        have hba : b ≠ a := fun e => hnt (e ▸ List.mem_append.2 hst)
        rcases hb.2 (hst.elim .inl fun h => .inr (.inr h)) with h | h
        · exact absurd h hba
        · exact h

/-- The elements of S that are above no element of S. -/
def firsts (r : Nat → Nat → Bool) (S : List Nat) : List Nat := S.filter fun i => S.all fun j => !r j i
/-- All lines of S, in the order of S. -/
def lines (r : Nat → Nat → Bool) : Nat → List Nat → List (List Nat)
  | 0, _ => [[]]
  | k + 1, S => (firsts r S).flatMap fun i => (lines r k (S.erase i)).map (i :: ·)
def cnt (r : Nat → Nat → Bool) : Nat → List Nat → Nat
  | 0, _ => 1
  | k + 1, S => ((firsts r S).map fun i => cnt r k (S.erase i)).sum

theorem sum_map_len {α β : Type} (f : α → List β) : ∀ l : List α, (l.flatMap f).length = (l.map fun a => (f a).length).sum
  | [] => rfl
  | a :: l => by simp [sum_map_len f l]

theorem cnt_len (r : Nat → Nat → Bool) : ∀ k S, (lines r k S).length = cnt r k S
  | 0, _ => rfl
  | k + 1, S => by
    rw [lines, cnt, sum_map_len]
    simp [cnt_len r k]

theorem mem_firsts {r : Nat → Nat → Bool} {S : List Nat} {i : Nat} : i ∈ firsts r S ↔ i ∈ S ∧ ∀ j ∈ S, r j i = false := by
  simp [firsts]

theorem mem_lines {r : Nat → Nat → Bool} (hr : ∀ i, r i i = false) : ∀ {k : Nat} {S : List Nat}, S.length = k → ∀ l, l ∈ lines r k S ↔ l.Perm S ∧ l.Pairwise (fun a b => r b a = false)
  | 0, S, hS, l => by
    rw [List.length_eq_zero_iff] at hS
    subst hS
    simp [lines]
    intro h; subst h; exact List.Pairwise.nil
  | k + 1, S, hS, l => by
    simp only [lines, List.mem_flatMap, List.mem_map, mem_firsts]
    constructor
    · rintro ⟨i, ⟨hi, hm⟩, l', hl', rfl⟩
      have hlen : (S.erase i).length = k := by rw [List.length_erase_of_mem hi]; omega
      obtain ⟨hp, hw⟩ := (mem_lines hr hlen l').1 hl'
      refine ⟨(List.Perm.cons i hp).trans (List.perm_cons_erase hi).symm, List.pairwise_cons.2 ⟨fun b hb => hm b (List.mem_of_mem_erase (hp.mem_iff.1 hb)), hw⟩⟩
    · rintro ⟨hp, hw⟩
      cases l with
      | nil => have := hp.length_eq; simp [hS] at this
      | cons i l' =>
        obtain ⟨h1, h2⟩ := List.pairwise_cons.1 hw
        have hi : i ∈ S := hp.mem_iff.1 (by simp)
        have hp' : l'.Perm (S.erase i) := (List.perm_cons i).1 (hp.trans (List.perm_cons_erase hi))
        have hlen : (S.erase i).length = k := by rw [List.length_erase_of_mem hi]; omega
        refine ⟨i, ⟨hi, fun j hj => ?_⟩, l', (mem_lines hr hlen l').2 ⟨hp', h2⟩, rfl⟩
        rcases List.mem_cons.1 (hp.mem_iff.2 hj) with rfl | h
        · exact hr j
        · exact h1 j h

theorem nodup_lines {r : Nat → Nat → Bool} : ∀ {k : Nat} {S : List Nat}, S.Nodup → (lines r k S).Nodup
  | 0, S, _ => by simp [lines]
  | k + 1, S, hS => by
    rw [lines]
    have hf : (firsts r S).Nodup := hS.filter _
    generalize firsts r S = F at hf
    induction F with
    | nil => simp
    | cons i F ih =>
      rw [List.flatMap_cons]
      refine List.nodup_append.2 ⟨?_, ih (List.nodup_cons.1 hf).2, ?_⟩
      · refine List.Pairwise.map (R := (· ≠ ·)) _ (fun a b hab he => hab (List.cons.inj he).2) (nodup_lines (hS.erase i))
      · intro a ha b hb hab
        subst hab
        obtain ⟨x, -, rfl⟩ := List.mem_map.1 ha
        obtain ⟨j, hj, hx⟩ := List.mem_flatMap.1 hb
        obtain ⟨y, -, he⟩ := List.mem_map.1 hx
        obtain ⟨rfl, -⟩ := List.cons.inj he
        exact (List.nodup_cons.1 hf).1 hj

/-- As many lines from the other end. -/
theorem cnt_flip {r : Nat → Nat → Bool} (hr : ∀ i, r i i = false) {S : List Nat} (hS : S.Nodup) : cnt (fun i j => r j i) S.length S = cnt r S.length S := by
  rw [← cnt_len, ← cnt_len]
  have hp : ((lines r S.length S).map List.reverse).Perm (lines (fun i j => r j i) S.length S) := by
    refine perm_of_nodup ?_ (nodup_lines hS) fun l => ?_
    · exact List.Pairwise.map (R := (· ≠ ·)) _ (fun a b hab he => hab (List.reverse_inj.1 he)) (nodup_lines hS)
    · rw [mem_lines (r := fun i j => r j i) hr rfl l, List.mem_map]
      constructor
      · rintro ⟨x, hx, rfl⟩
        obtain ⟨h1, h2⟩ := (mem_lines hr rfl x).1 hx
        exact ⟨(List.reverse_perm x).trans h1, List.pairwise_reverse.2 h2⟩
      · rintro ⟨h1, h2⟩
        refine ⟨l.reverse, (mem_lines hr rfl _).2 ⟨(List.reverse_perm l).trans h1, ?_⟩, List.reverse_reverse l⟩
        exact List.pairwise_reverse.2 h2
  have := hp.length_eq
  rw [List.length_map] at this
  exact this.symm

/-- cnt hangs on the set and on the relation within it. -/
theorem sum_perm {l1 l2 : List Nat} (h : l1.Perm l2) : l1.sum = l2.sum := h.sum_nat
theorem firsts_perm {r : Nat → Nat → Bool} {S T : List Nat} (h : S.Perm T) : (firsts r S).Perm (firsts r T) := by
  have : (fun i => S.all fun j => !r j i) = fun i => T.all fun j => !r j i := by
    funext i
    rw [Bool.eq_iff_iff]; simp [h.mem_iff]
  rw [firsts, firsts, this]
  exact h.filter _
theorem cnt_perm (r : Nat → Nat → Bool) : ∀ {k : Nat} {S T : List Nat}, S.Perm T → cnt r k S = cnt r k T
  | 0, _, _, _ => rfl
  | k + 1, S, T, h => by
    rw [cnt, cnt]
    have e : (fun i => cnt r k (S.erase i)) = fun i => cnt r k (T.erase i) := funext fun i => cnt_perm r (h.erase i)
    rw [e]
    exact sum_perm ((firsts_perm h).map _)
theorem firsts_congr {r r' : Nat → Nat → Bool} {S : List Nat} (h : ∀ i ∈ S, ∀ j ∈ S, r i j = r' i j) : firsts r S = firsts r' S := by
  rw [firsts, firsts]
  refine List.filter_congr fun i hi => ?_
  rw [Bool.eq_iff_iff]
  simp only [List.all_eq_true]
  exact ⟨fun H j hj => by rw [← h j hj i hi]; exact H j hj, fun H j hj => by rw [h j hj i hi]; exact H j hj⟩
theorem cnt_congr {r r' : Nat → Nat → Bool} : ∀ {k : Nat} {S : List Nat}, (∀ i ∈ S, ∀ j ∈ S, r i j = r' i j) → cnt r k S = cnt r' k S
  | 0, _, _ => rfl
  | k + 1, S, h => by
    rw [cnt, cnt, firsts_congr h]
    congr 1
    refine List.map_congr_left fun i _ => ?_
    exact cnt_congr fun a ha b hb => h a (List.mem_of_mem_erase ha) b (List.mem_of_mem_erase hb)
theorem lines_congr {r r' : Nat → Nat → Bool} : ∀ {k : Nat} {S : List Nat}, (∀ i ∈ S, ∀ j ∈ S, r i j = r' i j) → lines r k S = lines r' k S
  | 0, _, _ => rfl
  | k + 1, S, h => by
    rw [lines, lines, firsts_congr h]
    congr 1
    funext i
    rw [lines_congr fun a ha b hb => h a (List.mem_of_mem_erase ha) b (List.mem_of_mem_erase hb)]

/-- Renamed elements. -/
theorem cnt_map {r r' : Nat → Nat → Bool} (f : Nat → Nat) : ∀ {k : Nat} {S : List Nat}, (∀ i ∈ S, ∀ j ∈ S, f i = f j → i = j) → (∀ i ∈ S, ∀ j ∈ S, r' (f i) (f j) = r i j) →
    cnt r' k (S.map f) = cnt r k S
  | 0, _, _, _ => rfl
  | k + 1, S, hf, h => by
    have e : firsts r' (S.map f) = (firsts r S).map f := by
      rw [firsts, firsts, List.filter_map]
      congr 1
      refine List.filter_congr fun i hi => ?_
      rw [Bool.eq_iff_iff]
      simp only [Function.comp, List.all_eq_true, List.mem_map, forall_exists_index, and_imp, forall_apply_eq_imp_iff₂]
      exact ⟨fun H j hj => by rw [← h j hj i hi]; exact H j hj, fun H j hj => by rw [h j hj i hi]; exact H j hj⟩
    rw [cnt, cnt, e, List.map_map]
    congr 1
    refine List.map_congr_left fun i hi => ?_
    have hiS : i ∈ S := (mem_firsts.1 hi).1
    have e2 : (S.map f).erase (f i) = (S.erase i).map f := by
      clear e hi h
      induction S with
      | nil => rfl
      | cons a S ih =>
        rw [List.map_cons, List.erase_cons, List.erase_cons]
        by_cases ha : a = i
        · subst ha; simp
        · have hfa : f a ≠ f i := fun he => ha (hf a (by simp) i hiS he)
          rw [if_neg (by simpa using hfa), if_neg (by simpa using ha), List.map_cons]
          have hiS' : i ∈ S := (List.mem_cons.1 hiS).resolve_left (Ne.symm ha)
          rw [ih (fun x hx y hy => hf x (by simp [hx]) y (by simp [hy])) hiS']
    show cnt r' k ((S.map f).erase (f i)) = cnt r k (S.erase i)
    rw [e2]
    exact cnt_map f (fun x hx y hy => hf x (List.mem_of_mem_erase hx) y (List.mem_of_mem_erase hy)) (fun x hx y hy => h x (List.mem_of_mem_erase hx) y (List.mem_of_mem_erase hy))

/-- The relation with j above i: what is i, or below it, gets j and what is above it. -/
def addR (r : Nat → Nat → Bool) (i j : Nat) : Nat → Nat → Bool := fun a b => r a b || ((a == i || r a i) && (b == j || r j b))

structure Po (r : Nat → Nat → Bool) : Prop where
  irr : ∀ i, r i i = false
  tr : ∀ i j k, r i j = true → r j k = true → r i k = true

theorem Po.asym {r : Nat → Nat → Bool} (h : Po r) {i j : Nat} (hij : r i j = true) : r j i = false := by
  cases e : r j i with
  | false => rfl
  | true => have := h.tr _ _ _ hij e; rw [h.irr] at this; cases this

theorem addR_po {r : Nat → Nat → Bool} (h : Po r) {i j : Nat} (hn : i ≠ j) (hji : r j i = false) : Po (addR r i j) := by
  constructor
  · intro a
    simp only [addR, h.irr, Bool.false_or, Bool.and_eq_false_iff, Bool.or_eq_false_iff]
    cases h1 : (a == i || r a i) with
    | false => simp only [Bool.or_eq_false_iff] at h1; exact .inl h1
    | true =>
      refine .inr ?_
      simp only [Bool.or_eq_true, beq_iff_eq] at h1
      constructor
      · rw [beq_eq_false_iff_ne]
        rintro rfl
        rcases h1 with h1 | h1
        · exact hn h1.symm
        · rw [hji] at h1; cases h1
      · cases h2 : r j a with
        | false => rfl
        | true =>
          rcases h1 with rfl | h1
          · rw [hji] at h2; cases h2
          · rw [h.tr _ _ _ h2 h1] at hji; cases hji
  · intro a b c hab hbc
    simp only [addR, Bool.or_eq_true, Bool.and_eq_true, beq_iff_eq] at *
    rcases hab with hab | ⟨h1, h2⟩
    · rcases hbc with hbc | ⟨h3, h4⟩
      · exact .inl (h.tr _ _ _ hab hbc)
      · refine .inr ⟨.inr ?_, h4⟩
        rcases h3 with rfl | h3
        · exact hab
        · exact h.tr _ _ _ hab h3
    · rcases hbc with hbc | ⟨h3, h4⟩
      · refine .inr ⟨h1, .inr ?_⟩
        rcases h2 with rfl | h2
        · exact hbc
        · exact h.tr _ _ _ h2 hbc
      · exact .inr ⟨h1, h4⟩

theorem idx_ne {x y : Nat} (l : List Nat) (h : x ≠ y) : (x :: l).idxOf y = l.idxOf y + 1 := by
  rw [List.idxOf_cons, show (x == y) = false by simpa using h]; rfl

/-- In a line, whether i stands before j. -/
def bef (l : List Nat) (i j : Nat) : Bool := decide (l.idxOf i < l.idxOf j)

theorem bef_pw {R : Nat → Nat → Prop} {l : List Nat} (hl : l.Nodup) : l.Pairwise R ↔ ∀ a ∈ l, ∀ b ∈ l, bef l a b = true → R a b := by
  induction l with
  | nil => simp
  | cons x l ih =>
    have hx := List.nodup_cons.1 hl
    rw [List.pairwise_cons, ih hx.2]
    simp only [bef, decide_eq_true_eq]
    constructor
    · rintro ⟨h1, h2⟩ a ha b hb hab
      by_cases hbx : b = x
      · subst hbx; simp [List.idxOf_cons_self] at hab
      have hbl : b ∈ l := (List.mem_cons.1 hb).resolve_left hbx
      by_cases hax : a = x
      · subst hax; exact h1 b hbl
      have hal : a ∈ l := (List.mem_cons.1 ha).resolve_left hax
      rw [idx_ne l (Ne.symm hax), idx_ne l (Ne.symm hbx)] at hab
      exact h2 a hal b hbl (by omega)
    · intro H
      constructor
      · intro b hb
        have hbx : b ≠ x := fun e => hx.1 (e ▸ hb)
        refine H x (by simp) b (by simp [hb]) ?_
        rw [List.idxOf_cons_self, idx_ne l (Ne.symm hbx)]; omega
      · intro a ha b hb hab
        have hax : a ≠ x := fun e => hx.1 (e ▸ ha)
        have hbx : b ≠ x := fun e => hx.1 (e ▸ hb)
        refine H a (by simp [ha]) b (by simp [hb]) ?_
        rw [idx_ne l (Ne.symm hax), idx_ne l (Ne.symm hbx)]; omega

theorem idx_inj {l : List Nat} {a b : Nat} (ha : a ∈ l) (hb : b ∈ l) (h : l.idxOf a = l.idxOf b) : a = b := by
  have h1 := List.getElem_idxOf (List.idxOf_lt_length_of_mem ha)
  have h2 := List.getElem_idxOf (List.idxOf_lt_length_of_mem hb)
  rw [← h1, ← h2]
  simp only [h]

theorem bef_not {l : List Nat} {i j : Nat} (hi : i ∈ l) (hj : j ∈ l) (hn : i ≠ j) : bef l j i = !bef l i j := by
  have : l.idxOf i ≠ l.idxOf j := fun h => hn (idx_inj hi hj h)
  rw [bef, bef]
  by_cases h : l.idxOf i < l.idxOf j
  · rw [decide_eq_true h, decide_eq_false (by omega)]; rfl
  · rw [decide_eq_false h, decide_eq_true (by omega)]; rfl

/-- The lines of the relation with j above i are those with i before j. -/
theorem cnt_add {r : Nat → Nat → Bool} (h : Po r) {i j : Nat} (hn : i ≠ j) (hji : r j i = false) {S : List Nat} (hS : S.Nodup) (hi : i ∈ S) (hj : j ∈ S) :
    cnt (addR r i j) S.length S = ((lines r S.length S).filter fun l => bef l i j).length := by
  rw [← cnt_len]
  refine List.Perm.length_eq (perm_of_nodup (nodup_lines hS) ((nodup_lines hS).filter _) fun l => ?_)
  rw [mem_lines (addR_po h hn hji).irr rfl, List.mem_filter, mem_lines h.irr rfl]
  constructor
  · rintro ⟨hp, hw⟩
    have hl : l.Nodup := hp.nodup_iff.2 hS
    rw [bef_pw hl] at hw
    refine ⟨⟨hp, (bef_pw hl).2 fun a ha b hb hab => ?_⟩, ?_⟩
    · have := hw a ha b hb hab
      simp only [addR, Bool.or_eq_false_iff] at this
      exact this.1
    · have hil := hp.mem_iff.2 hi
      have hjl := hp.mem_iff.2 hj
      cases e : bef l i j with
      | true => rfl
      | false =>
        have := hw j hjl i hil (by rw [bef_not hil hjl hn, e]; rfl)
        simp [addR] at this
  · rintro ⟨⟨hp, hw⟩, hb⟩
    have hl : l.Nodup := hp.nodup_iff.2 hS
    rw [bef_pw hl] at hw
    refine ⟨hp, (bef_pw hl).2 fun a ha b hb' hab => ?_⟩
    have hil := hp.mem_iff.2 hi
    have hjl := hp.mem_iff.2 hj
    simp only [addR, Bool.or_eq_false_iff]
    refine ⟨hw a ha b hb' hab, ?_⟩
    cases e : ((b == i || r b i) && (a == j || r j a)) with
    | false => rfl
    | true =>
      exfalso
      simp only [Bool.and_eq_true, Bool.or_eq_true, beq_iff_eq] at e
      simp only [bef, decide_eq_true_eq] at hb hab hw
      have h1 : l.idxOf b ≤ l.idxOf i := by
        rcases e.1 with rfl | e1
        · exact Nat.le_refl _
        · apply Classical.byContradiction; intro hc
          have := hw i hil b hb' (by omega)
          rw [e1] at this; cases this
      have h2 : l.idxOf j ≤ l.idxOf a := by
        rcases e.2 with rfl | e1
        · exact Nat.le_refl _
        · apply Classical.byContradiction; intro hc
          have := hw a ha j hjl (by omega)
          rw [e1] at this; cases this
      omega

theorem cnt_add_two {r : Nat → Nat → Bool} (h : Po r) {i j : Nat} (hn : i ≠ j) (hij : r i j = false) (hji : r j i = false) {S : List Nat} (hS : S.Nodup) (hi : i ∈ S) (hj : j ∈ S) :
    cnt (addR r i j) S.length S + cnt (addR r j i) S.length S = cnt r S.length S := by
  rw [cnt_add h hn hji hS hi hj, cnt_add h (Ne.symm hn) hij hS hj hi, ← cnt_len]
  have e : ((lines r S.length S).filter fun l => bef l j i) = (lines r S.length S).filter fun l => !bef l i j := by
    refine List.filter_congr fun l hl => ?_
    obtain ⟨hp, -⟩ := (mem_lines h.irr rfl l).1 hl
    exact bef_not (hp.mem_iff.2 hi) (hp.mem_iff.2 hj) hn
  rw [e]
  generalize lines r S.length S = L
  clear e
  induction L with
  | nil => rfl
  | cons x L ih =>
    simp only [List.filter_cons, List.length_cons]
    cases bef x i j <;> simp <;> omega

/-- There is one that is above none. -/
theorem firsts_ne {r : Nat → Nat → Bool} (h : Po r) {S : List Nat} (hS : S ≠ []) : firsts r S ≠ [] := by
  have key : ∀ n (T : List Nat), T.length ≤ n → (∀ x ∈ T, x ∈ S) → T ≠ [] → (∀ x ∈ S, ∀ y ∈ T, r x y = true → x ∈ T) → firsts r S ≠ [] := by
    intro n
    induction n with
    | zero => intro T hT _ hne _; exact absurd (List.length_eq_zero_iff.1 (by omega)) hne
    | succ n ih =>
      intro T hT hTS hne hdown
      obtain ⟨y, T', rfl⟩ := List.exists_cons_of_ne_nil hne
      by_cases hy : ∀ x ∈ S, r x y = false
      · intro he
        have : y ∈ firsts r S := mem_firsts.2 ⟨hTS y (by simp), hy⟩
        rw [he] at this; cases this
      · have : ∃ x, x ∈ S ∧ r x y = true := by
          apply Classical.byContradiction; intro hno
          exact hy fun x hx => by
            cases e : r x y with
            | false => rfl
            | true => exact absurd ⟨x, hx, e⟩ hno
        obtain ⟨x, hx, hxy⟩ := this
        refine ih ((y :: T').filter fun z => r z y) ?_ (fun z hz => hTS z (List.mem_filter.1 hz).1) ?_ ?_
        · have hlt : ((y :: T').filter fun z => r z y).length < (y :: T').length := by
            rw [List.filter_cons, if_neg (by simp [h.irr])]
            have := List.length_filter_le (fun z => r z y) T'
            simp only [List.length_cons]; omega
          omega
        · intro he
          have : x ∈ (y :: T').filter fun z => r z y := List.mem_filter.2 ⟨hdown x hx y (by simp) hxy, hxy⟩
          rw [he] at this; cases this
        · intro a ha b hb hab
          have hb' := List.mem_filter.1 hb
          exact List.mem_filter.2 ⟨hdown a ha b hb'.1 hab, h.tr _ _ _ hab hb'.2⟩
  exact key S.length S (Nat.le_refl _) (fun _ h => h) hS fun x hx _ _ _ => hx

theorem cnt_pos {r : Nat → Nat → Bool} (h : Po r) : ∀ {k : Nat} {S : List Nat}, S.length = k → 0 < cnt r k S
  | 0, _, _ => Nat.one_pos
  | k + 1, S, hS => by
    have hne := firsts_ne h (S := S) (by rintro rfl; simp at hS)
    rw [cnt]
    obtain ⟨i, F, hF⟩ := List.exists_cons_of_ne_nil hne
    have hi : i ∈ S := (mem_firsts.1 (by rw [hF]; simp : i ∈ firsts r S)).1
    rw [hF, List.map_cons, List.sum_cons]
    have := cnt_pos h (k := k) (S := S.erase i) (by rw [List.length_erase_of_mem hi]; omega)
    omega
end Ord
