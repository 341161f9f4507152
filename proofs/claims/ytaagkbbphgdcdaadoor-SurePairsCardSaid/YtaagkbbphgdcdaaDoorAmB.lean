/-
  The abstract machine, part B: what the operations do on the abstract heap; each held against the model's own operation.
-/
import Derived.Test.YtaagkbbphgdcdaaDoorAmA
set_option linter.all false
namespace Go.Am

section heapfacts
variable {P : Program} [Tabs P] {ρ ρ' : Nat → Loc} {h : Heap} {w : World}

theorem view_lt {i : Nat} {x : List Value × TypeId × Bool} (hv : view h i = some x) : i < h.length := by
  unfold view at hv
  cases hi : h[i]? with
  | none => simp [hi] at hv
  | some b => exact (List.getElem?_eq_some_iff.1 hi).1

theorem view_append {g : Heap} {i : Nat} (hi : i < h.length) : view (h ++ g) i = view h i := by
  unfold view; rw [List.getElem?_append_left hi]

theorem view_new {b : Blk} : view (h ++ [b]) h.length = b.view := by
  unfold view; rw [List.getElem?_append_right (Nat.le_refl _)]; simp

theorem view_snoc {b : Blk} {i : Nat} {x : List Value × TypeId × Bool} (hv : view (h ++ [b]) i = some x) : (i < h.length ∧ view h i = some x) ∨ (i = h.length ∧ b.view = some x) := by
  have hl := view_lt hv
  simp at hl
  by_cases hi : i < h.length
  · rw [view_append hi] at hv; exact .inl ⟨hi, hv⟩
  · have : i = h.length := by omega
    subst this
    rw [view_new] at hv; exact .inr ⟨rfl, hv⟩

theorem view_set {b : Blk} {i j : Nat} (hi : i < h.length) : view (h.set i b) j = if i = j then b.view else view h j := by
  unfold view
  rw [List.getElem?_set]
  by_cases hij : i = j
  · subst hij; simp [hi]
  · simp [hij]

def Loc.upd (ρ : Nat → Loc) (i : Nat) (l : Loc) : Nat → Loc := fun j => if j = i then l else ρ j
theorem Loc.upd_same (ρ : Nat → Loc) (i : Nat) (l : Loc) : Loc.upd ρ i l i = l := by simp [Loc.upd]
theorem Loc.upd_lt (ρ : Nat → Loc) {i j : Nat} (l : Loc) (h : j < i) : Loc.upd ρ i l j = ρ j := by simp [Loc.upd, Nat.ne_of_lt h]

theorem Sim.lt (s : Sim P ρ h w) {i : Nat} {x : List Value × TypeId × Bool} (hv : view h i = some x) : (ρ i).blk < w.heap.size := by
  obtain ⟨c, e, ro⟩ := x
  obtain ⟨c', fr, hc, _⟩ := s.cells i c e ro hv
  exact (Array.getElem?_eq_some_iff.1 hc).1

/-- A cell that is read. -/
theorem Sim.cell (s : Sim P ρ h w) {i k : Nat} {c : List Value} {e : TypeId} {ro : Bool} {v : Value} (hv : view h i = some (c, e, ro)) (hk : c[k]? = some v) :
    ∃ v', w.cell? ⟨(ρ i).blk, k, none⟩ = some v' ∧ VRel h.length ρ v v' := by
  obtain ⟨c', fr, hc, hsz, hle, hr, _⟩ := s.cells i c e ro hv
  have hkl : k < c.length := (List.getElem?_eq_some_iff.1 hk).1
  have := hr k hkl
  refine ⟨c'.getD k undef, ?_, ?_⟩
  · have hk' : k < c'.size := by omega
    simp [World.cell?, hc, Array.getElem?_eq_getElem hk']
  · have e1 : c.getD k undef = v := by simp [List.getD, hk]
    rw [e1] at this; exact this

/-- A new block. -/
theorem Sim.alloc (s : Sim P ρ h w) {b : Blk} {c : List Value} {e : TypeId} {c' : Array Value} {es : Nat} (hb : b.view = some (c, e, false)) (hle : c.length ≤ c'.size)
    (hr : ∀ k, k < c.length → VRel h.length ρ (c.getD k undef) (c'.getD k undef)) (he : (P.info? e).map (·.size) = some es) :
    Sim P (Loc.upd ρ h.length ⟨w.heap.size, c'.size, es⟩) (h ++ [b]) (w.alloc (.cells c' e)) ∧
      Evo h ρ w (h ++ [b]) (Loc.upd ρ h.length ⟨w.heap.size, c'.size, es⟩) (w.alloc (.cells c' e)) := by
  have hag : ∀ i, i < h.length → Loc.upd ρ h.length ⟨w.heap.size, c'.size, es⟩ i = ρ i := fun i hi => Loc.upd_lt ρ _ hi
  have hnew : (w.alloc (.cells c' e)).heap[w.heap.size]? = some (.cells c' e (0, 0)) := World.alloc_heap_new w _
  have hold : ∀ k, k < w.heap.size → (w.alloc (.cells c' e)).heap[k]? = w.heap[k]? := fun k hk => Go.RowKit.Below.heap_alloc w _ k hk
  have hEvo : Evo h ρ w (h ++ [b]) (Loc.upd ρ h.length ⟨w.heap.size, c'.size, es⟩) (w.alloc (.cells c' e)) := by
    refine ⟨by simp, hag, by simp, rfl, rfl, rfl, fun k hk _ => hold k hk, ?_, ?_⟩
    · rintro k ⟨i, c1, e1, hv, rfl⟩
      rcases view_snoc hv with ⟨hi, hv1⟩ | ⟨rfl, hv1⟩
      · right; exact ⟨i, c1, e1, hv1, by rw [hag i hi]⟩
      · left; rw [Loc.upd_same]; exact Nat.le_refl _
    · rintro k ⟨i, x1, hv, rfl⟩
      rcases view_snoc hv with ⟨hi, hv1⟩ | ⟨rfl, hv1⟩
      · right; exact ⟨i, x1, hv1, by rw [hag i hi]⟩
      · left; rw [Loc.upd_same]; exact Nat.le_refl _
  refine ⟨⟨?_, ?_, fun p hp => hEvo.tab (s.tab p hp)⟩, hEvo⟩
  · intro i c1 e1 ro1 hv
    rcases view_snoc hv with ⟨hi, hv1⟩ | ⟨rfl, hv1⟩
    · obtain ⟨c2, fr, hc, hsz, hl, hrel, hw⟩ := s.cells i c1 e1 ro1 hv1
      rw [hag i hi]
      refine ⟨c2, fr, ?_, hsz, hl, fun k hk => (hrel k hk).mono (by simp) hag, hw⟩
      rw [hold _ (Array.getElem?_eq_some_iff.1 hc).1]; exact hc
    · rw [hb] at hv1; cases hv1
      rw [Loc.upd_same]
      exact ⟨c', (0, 0), hnew, rfl, hle, fun k hk => (hr k hk).mono (by simp) hag, fun _ => ⟨rfl, he⟩⟩
  · intro i j x y hi hj hij
    rcases view_snoc hi with ⟨hi1, hi2⟩ | ⟨rfl, hi2⟩ <;> rcases view_snoc hj with ⟨hj1, hj2⟩ | ⟨rfl, hj2⟩
    · rw [hag i hi1, hag j hj1] at hij; exact s.inj i j x y hi2 hj2 hij
    · rw [hag i hi1, Loc.upd_same] at hij; have := s.lt hi2; simp only at hij; omega
    · rw [hag j hj1, Loc.upd_same] at hij; have := s.lt hj2; simp only at hij; omega
    · rfl

/-- The world with one row's cells put anew. -/
def setRow (w : World) (b : Nat) (c : Array Value) (e : TypeId) : World := { w with heap := w.heap.setIfInBounds b (.cells c e) }

/-- A block of one's own is written. -/
theorem Sim.write (s : Sim P ρ h w) {i : Nat} {b : Blk} {c c1 : List Value} {e : TypeId} {c' c1' : Array Value} (hv : view h i = some (c, e, false)) (hb : b.view = some (c1, e, false))
    (hc : w.heap[(ρ i).blk]? = some (.cells c' e (0, 0))) (hsz : c1'.size = c'.size) (hle : c1.length ≤ c1'.size) (hr : ∀ k, k < c1.length → VRel h.length ρ (c1.getD k undef) (c1'.getD k undef)) :
    Sim P ρ (h.set i b) (setRow w (ρ i).blk c1' e) ∧ Evo h ρ w (h.set i b) ρ (setRow w (ρ i).blk c1' e) := by
  have hil := view_lt hv
  have hbl := s.lt hv
  have hlen : (h.set i b).length = h.length := by simp
  have hother : ∀ k, k ≠ (ρ i).blk → (setRow w (ρ i).blk c1' e).heap[k]? = w.heap[k]? := fun k hk => by simp [setRow, Array.getElem?_setIfInBounds_ne (Ne.symm hk)]
  have hsame : (setRow w (ρ i).blk c1' e).heap[(ρ i).blk]? = some (.cells c1' e (0, 0)) := by simp [setRow, hbl]
  obtain ⟨c2, fr, hc2, hsz2, _, _, hw2⟩ := s.cells i c e false hv
  rw [hc] at hc2; cases hc2
  have hEvo : Evo h ρ w (h.set i b) ρ (setRow w (ρ i).blk c1' e) := by
    refine ⟨by simp, fun _ _ => rfl, by simp [setRow], rfl, rfl, rfl, ?_, ?_, ?_⟩
    · intro k hk hm
      exact hother k (fun he => hm ⟨i, c, e, hv, he.symm⟩)
    · rintro k ⟨j, cj, ej, hj, rfl⟩
      right
      rw [view_set hil] at hj
      by_cases hij : i = j
      · subst hij; exact ⟨i, c, e, hv, rfl⟩
      · rw [if_neg hij] at hj; exact ⟨j, cj, ej, hj, rfl⟩
    · rintro k ⟨j, xj, hj, rfl⟩
      right
      rw [view_set hil] at hj
      by_cases hij : i = j
      · subst hij; exact ⟨i, _, hv, rfl⟩
      · rw [if_neg hij] at hj; exact ⟨j, xj, hj, rfl⟩
  refine ⟨⟨?_, ?_, fun p hp => hEvo.tab (s.tab p hp)⟩, hEvo⟩
  · intro j cj ej roj hj
    rw [view_set hil] at hj
    by_cases hij : i = j
    · subst hij
      rw [if_pos rfl, hb] at hj; cases hj
      exact ⟨c1', (0, 0), hsame, by rw [hsz, hsz2], hle, fun k hk => by rw [hlen]; exact hr k hk, fun _ => ⟨rfl, (hw2 rfl).2⟩⟩
    · rw [if_neg hij] at hj
      obtain ⟨c3, fr3, h3, g1, g2, g3, g4⟩ := s.cells j cj ej roj hj
      have hne : (ρ j).blk ≠ (ρ i).blk := fun he => hij (s.inj i j _ _ hv hj he.symm)
      exact ⟨c3, fr3, by rw [hother _ hne]; exact h3, g1, g2, fun k hk => by rw [hlen]; exact g3 k hk, g4⟩
  · intro j l x y hj hl hjl
    rw [view_set hil] at hj hl
    by_cases hij : i = j <;> by_cases hilx : i = l
    · exact hij.symm.trans hilx
    · subst hij; rw [if_neg hilx] at hl; exact s.inj i l _ _ hv hl hjl
    · subst hilx; rw [if_neg hij] at hj; exact s.inj j i _ _ hj hv hjl
    · rw [if_neg hij] at hj; rw [if_neg hilx] at hl; exact s.inj j l _ _ hj hl hjl

/-- A block is given up. -/
theorem Sim.kill (s : Sim P ρ h w) {i : Nat} : Sim P ρ (h.set i .dead) w ∧ Evo h ρ w (h.set i .dead) ρ w := by
  have key : ∀ j x, view (h.set i .dead) j = some x → view h j = some x := by
    intro j x hj
    by_cases hi : i < h.length
    · rw [view_set hi] at hj
      by_cases hij : i = j
      · rw [if_pos hij] at hj; simp [Blk.view] at hj
      · rw [if_neg hij] at hj; exact hj
    · rw [List.set_eq_of_length_le (by omega)] at hj; exact hj
  have hEvo : Evo h ρ w (h.set i .dead) ρ w := ⟨by simp, fun _ _ => rfl, Nat.le_refl _, rfl, rfl, rfl, fun _ _ _ => rfl, fun k ⟨j, cj, ej, hj, hb⟩ => .inr ⟨j, cj, ej, key _ _ hj, hb⟩, fun k ⟨j, xj, hj, hb⟩ => .inr ⟨j, xj, key _ _ hj, hb⟩⟩
  refine ⟨⟨fun j c e ro hj => ?_, fun j l x y hj hl => s.inj j l x y (key _ _ hj) (key _ _ hl), fun p hp => hEvo.tab (s.tab p hp)⟩, hEvo⟩
  have := s.cells j c e ro (key _ _ hj); simpa using this

/-- Whatever turns none of the abstract heap's blocks. -/
theorem Sim.same (s : Sim P ρ h w) {w' : World} (hk : ∀ i x, view h i = some x → w'.heap[(ρ i).blk]? = w.heap[(ρ i).blk]?) (ht : ∀ p ∈ Tabs.tabs P, w'.heap[p.1]? = w.heap[p.1]?) : Sim P ρ h w' :=
  ⟨fun i c e ro hv => by obtain ⟨c', fr, hc, r⟩ := s.cells i c e ro hv; exact ⟨c', fr, (hk i _ hv).trans hc, r⟩, s.inj, fun p hp => ⟨(ht p hp).trans (s.tab p hp).1, (s.tab p hp).2⟩⟩
end heapfacts

/-! ### What a type's variable is -/
/-- one cell: 'some none'; cells: 'some (some n)'. -/
def shp (P : Program) (t : TypeId) : Option (Option Nat) :=
  match P.underlying t, P.info? t with
  | some (.struct _), some i => some (some i.size)
  | some (.array _ _), some i => some (some i.size)
  | some _, some i => if i.size = 1 then some none else none
  | _, _ => none

def esz (P : Program) (t : TypeId) : Option Nat := (P.info? t).map (·.size)
def zeroOf (P : Program) (t : TypeId) : Option (List Value) :=
  match P.info? t with
  | some i => match i.zero with
    | some z => if z.cells.toList.all atom then some z.cells.toList else none
    | none => none
  | none => none

/-- A value of one cell. -/
def one : Value → Bool
  | .agg _ | .tuple _ | .chan (some _) => false
  | _ => true

def intsOf : List Value → Option (List Int)
  | [] => some []
  | .int .i64 n :: r => (intsOf r).map (n :: ·)
  | _ :: _ => none
theorem intsOf_eq : ∀ {c : List Value} {xs : List Int}, intsOf c = some xs → c = xs.map vint
  | [], xs, h => by simp [intsOf] at h; subst h; rfl
  | v :: r, xs, h => by
    cases v with
    | int k n =>
      cases k <;> simp [intsOf] at h
      obtain ⟨ys, hy, rfl⟩ := h
      rw [intsOf_eq hy]; rfl
    | _ => simp [intsOf] at h

/-- A block of cells: one of ints where all are. -/
def mkb (c : List Value) (e : TypeId) : Blk :=
  match intsOf c with
  | some xs => .ints xs e false
  | none => .cells c e false
theorem mkb_view (c : List Value) (e : TypeId) : (mkb c e).view = some (c, e, false) := by
  unfold mkb
  cases hi : intsOf c with
  | none => rfl
  | some xs => simp [Blk.view, ← intsOf_eq hi]

def cellsOf : Value → List Value
  | .agg cs => cs.toList
  | v => [v]

/-! ### Reading -/
def cellK (h : Heap) (b o : Nat) (K : Value → Prop) : Prop :=
  match h[b]? with
  | some (.cells c _ _) => (match c[o]? with | some v => K v | none => False)
  | some (.ints xs _ _) => o < xs.length ∧ K (vint (xs.getD o 0))
  | _ => False
def cellsK (h : Heap) (b o n : Nat) (K : List Value → Prop) : Prop :=
  match h[b]? with
  | some (.cells c _ _) => o + n ≤ c.length ∧ K ((c.drop o).take n)
  | some (.ints xs _ _) => o + n ≤ xs.length ∧ K (((xs.drop o).take n).map vint)
  | _ => False
def loadK (P : Program) (h : Heap) (t : TypeId) (p : Value) (K : Value → Prop) : Prop :=
  match p with
  | .pointer (some ⟨b, o, none⟩) => (match shp P t with | some none => cellK h b o K | some (some n) => cellsK h b o n (fun l => K (.agg l.toArray)) | none => False)
  | _ => False

theorem cellK_view {h : Heap} {b o : Nat} {K : Value → Prop} (hk : cellK h b o K) : ∃ c e ro v, view h b = some (c, e, ro) ∧ c[o]? = some v ∧ K v := by
  unfold cellK at hk
  unfold view
  split at hk
  · rename_i c e ro hb
    split at hk
    · rename_i v hv; exact ⟨c, e, ro, v, by simp [hb, Blk.view], hv, hk⟩
    · exact hk.elim
  · rename_i xs e ro hb
    exact ⟨xs.map vint, e, ro, _, by simp [hb, Blk.view], by simp [List.getElem?_eq_getElem hk.1, List.getD], hk.2⟩
  · exact hk.elim

theorem cellsK_view {h : Heap} {b o n : Nat} {K : List Value → Prop} (hk : cellsK h b o n K) : ∃ c e ro, view h b = some (c, e, ro) ∧ o + n ≤ c.length ∧ K ((c.drop o).take n) := by
  unfold cellsK at hk
  unfold view
  split at hk
  · rename_i c e ro hb; exact ⟨c, e, ro, by simp [hb, Blk.view], hk⟩
  · rename_i xs e ro hb; exact ⟨xs.map vint, e, ro, by simp [hb, Blk.view], by simpa using hk.1, by simpa [← List.map_drop, ← List.map_take] using hk.2⟩
  · exact hk.elim

theorem run_loadCellsFrom (P : Program) (w : World) (a : Addr) : ∀ (n i : Nat) (acc : Array Value) (vs : List Value), vs.length = n → (∀ k, k < n → w.cell? (a.add (i + k)) = some (vs.getD k undef)) →
    (loadCellsFrom a i n acc).run P w = .ok (acc ++ vs.toArray) w
  | 0, i, acc, vs, hl, _ => by
    obtain rfl : vs = [] := List.length_eq_zero_iff.1 hl
    simp [loadCellsFrom]
  | n + 1, i, acc, vs, hl, h => by
    match vs, hl with
    | v :: vs, hl =>
      have h0 := h 0 (by omega)
      simp at h0
      have ih := run_loadCellsFrom P w a n (i + 1) (acc.push v) vs (by simpa using hl) (fun k hk => by have := h (k + 1) (by omega); simpa [Nat.add_assoc, Nat.add_comm 1 k] using this)
      simp [loadCellsFrom, load, Sem.run, h0, ih]

theorem addr_add (b o k : Nat) : (Addr.add ⟨b, o, none⟩ k) = ⟨b, o + k, none⟩ := by
  unfold Addr.add; split <;> simp_all

theorem run_loadCells {P : Program} [Tabs P] {ρ : Nat → Loc} {h : Heap} {w : World} (s : Sim P ρ h w) {b o n : Nat} {c : List Value} {e : TypeId} {ro : Bool} (hv : view h b = some (c, e, ro)) (hn : o + n ≤ c.length) :
    ∃ vs : Array Value, (∀ W : World, W.heap = w.heap → (loadCells ⟨(ρ b).blk, o, none⟩ n).run P W = .ok vs W) ∧ vs.size = n ∧ ∀ k, k < n → VRel h.length ρ (((c.drop o).take n).getD k undef) (vs.getD k undef) := by
  obtain ⟨c', fr, hc, hsz, hle, hr, _⟩ := s.cells b c e ro hv
  refine ⟨(c'.extract o (o + n)), fun W hW => ?_, by simp; omega, ?_⟩
  · have := run_loadCellsFrom P W ⟨(ρ b).blk, o, none⟩ n 0 #[] ((c'.toList.drop o).take n) (by simp; omega) (fun k hk => ?_)
    · unfold loadCells
      rw [this]
      congr 1
      apply Array.ext'
      simp [Array.toList_extract]
    · rw [addr_add]
      have h1 : o + (0 + k) < c'.size := by omega
      simp [World.cell?, hW, hc, List.getD, hk, Array.getElem?_eq_getElem (show o + k < c'.size by omega)]
  · intro k hk
    have := hr (o + k) (by omega)
    have e1 : ((c.drop o).take n).getD k undef = c.getD (o + k) undef := by simp [List.getD, hk, List.getElem?_drop]
    have e2 : (c'.extract o (o + n)).getD k undef = c'.getD (o + k) undef := by
      have h1 : k < min (o + n) c'.size - o := by omega
      have h2 : o + k < c'.size := by omega
      simp [Array.getD, h1, h2, Array.getElem_extract]
    rw [e1, e2]; exact this

theorem run_isAgg {P : Program} [Tabs P] {t : TypeId} {w : World} {x : Option Nat} (h : shp P t = some x) : (isAgg t).run P w = .ok x.isSome w ∧ ∃ i, P.info? t = some i ∧ i.size = x.getD 1 := by
  unfold shp at h
  unfold isAgg
  split at h
  · rename_i fs i h1 h2; cases h
    exact ⟨by simp [run_underlying h1], i, h2, rfl⟩
  · rename_i fs i h1 h2; cases h
    exact ⟨by simp [run_underlying h1], i, h2, rfl⟩
  · rename_i d i h1 h2 h3 h4
    split at h
    · cases h
      refine ⟨?_, i, h4, by assumption⟩
      cases d <;> first | simp [run_underlying h3] | (exact absurd h3 (h1 _ _)) | (exact absurd h3 (h2 _ _ _)) | skip
      all_goals simp_all
    · cases h
  · cases h

theorem run_sizeOf {P : Program} [Tabs P] {t : TypeId} {w : World} {i : TypeInfo} (h : P.info? t = some i) : (sizeOf t).run P w = .ok i.size w := by
  simp [sizeOf, typeInfo, h]

theorem loadK_sound {P : Program} [Tabs P] {ρ : Nat → Loc} {h : Heap} {w : World} {t : TypeId} {p p' : Value} {K : Value → Prop} (s : Sim P ρ h w) (hp : VRel h.length ρ p p') (hk : loadK P h t p K) :
    ∃ v v', K v ∧ VRel h.length ρ v v' ∧ (Instr.loadAt t p').run P w = .ok v' w := by
  unfold loadK at hk
  split at hk
  · rename_i b o
    obtain ⟨_, hb, rfl⟩ := hp.ptr'
    split at hk
    · rename_i hs
      obtain ⟨c, e, ro, v, hv, hc, hK⟩ := cellK_view hk
      obtain ⟨v', hc', hr⟩ := s.cell hv hc
      refine ⟨v, v', hK, hr, ?_⟩
      have := (run_isAgg (w := w) hs).1
      simp [Instr.loadAt, Instr.sureAddr, loadVar, this, load, Sem.run, hc']
    · rename_i n hs
      obtain ⟨c, e, ro, hv, hn, hK⟩ := cellsK_view hk
      obtain ⟨vs, hrun, hsz, hrel⟩ := run_loadCells s hv hn
      refine ⟨_, .agg vs, hK, ?_, ?_⟩
      · refine .agg (by simp; omega) (fun i hi => ?_)
        have := hrel i (by simp at hi; omega)
        simpa [List.getD, Array.getD_eq_getD_getElem?] using this
      · obtain ⟨ha, i, hi, hsi⟩ := run_isAgg (w := w) hs
        simp at hsi
        simp [Instr.loadAt, Instr.sureAddr, loadVar, ha, run_sizeOf hi, hsi, hrun w rfl]
    · exact hk.elim
  · exact hk.elim
end Go.Am
