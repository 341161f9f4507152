/-
  The abstract machine, part C: stores, new blocks, slices, append.
-/
import Derived.Test.YtaagkbbphgdcdaaDoorAmB
set_option linter.all false
namespace Go.Am

def LRel (n : Nat) (ρ : Nat → Loc) (l l' : List Value) : Prop := l.length = l'.length ∧ ∀ k, k < l.length → VRel n ρ (l.getD k undef) (l'.getD k undef)
theorem LRel.append {n : Nat} {ρ : Nat → Loc} {a a' b b' : List Value} (h : LRel n ρ a a') (g : LRel n ρ b b') : LRel n ρ (a ++ b) (a' ++ b') := by
  refine ⟨by simp [h.1, g.1], fun k hk => ?_⟩
  by_cases hl : k < a.length
  · have := h.2 k hl
    simpa [List.getD, List.getElem?_append_left hl, List.getElem?_append_left (h.1 ▸ hl)] using this
  · have hk' : k - a.length < b.length := by simp at hk; omega
    have := g.2 _ hk'
    have e1 : (a ++ b).getD k undef = b.getD (k - a.length) undef := by simp [List.getD, List.getElem?_append_right (Nat.le_of_not_lt hl)]
    have hl2 : a'.length ≤ k := by rw [← h.1]; omega
    have e2 : (a' ++ b').getD k undef = b'.getD (k - a.length) undef := by rw [h.1]; simp [List.getD, List.getElem?_append_right hl2]
    rw [e1, e2]; exact this
theorem LRel.nil (n : Nat) (ρ : Nat → Loc) : LRel n ρ [] [] := ⟨rfl, fun k hk => by simp at hk⟩
theorem LRel.cons {n : Nat} {ρ : Nat → Loc} {v v' : Value} {l l' : List Value} (h : VRel n ρ v v') (g : LRel n ρ l l') : LRel n ρ (v :: l) (v' :: l') :=
  ⟨by simp [g.1], fun k hk => by cases k with | zero => exact h | succ k => exact g.2 k (by simpa using hk)⟩
theorem LRel.cons_inv {n : Nat} {ρ : Nat → Loc} {v : Value} {l : List Value} {x : List Value} (h : LRel n ρ (v :: l) x) : ∃ v' l', x = v' :: l' ∧ VRel n ρ v v' ∧ LRel n ρ l l' := by
  match x, h.1 with
  | v' :: l', h1 => exact ⟨v', l', rfl, h.2 0 (by simp), by simpa using h1, fun k hk => h.2 (k + 1) (by simpa using hk)⟩
theorem LRel.mono {n n' : Nat} {ρ ρ' : Nat → Loc} {l l' : List Value} (h : LRel n ρ l l') (hn : n ≤ n') (ha : ∀ i, i < n → ρ' i = ρ i) : LRel n' ρ' l l' :=
  ⟨h.1, fun k hk => (h.2 k hk).mono hn ha⟩
theorem LRel.of_mem {n : Nat} {ρ : Nat → Loc} {l l' : List Value} (h : LRel n ρ l l') {v' : Value} (hm : v' ∈ l') : ∃ v, v ∈ l ∧ VRel n ρ v v' := by
  obtain ⟨k, hk, rfl⟩ := List.getElem_of_mem hm
  have hkl : k < l.length := by rw [h.1]; exact hk
  refine ⟨l[k], List.getElem_mem hkl, ?_⟩
  have := h.2 k hkl
  simpa [List.getD, List.getElem?_eq_getElem hkl, List.getElem?_eq_getElem hk] using this
theorem LRel.atoms {n : Nat} {ρ : Nat → Loc} {l : List Value} (h : l.all atom = true) : LRel n ρ l l :=
  ⟨rfl, fun k hk => .atom (by
    have := List.all_eq_true.1 h l[k] (List.getElem_mem hk)
    simpa [List.getD, List.getElem?_eq_getElem hk] using this)⟩
theorem VRel.agg_iff {n : Nat} {ρ : Nat → Loc} {xs : Array Value} {v' : Value} (h : VRel n ρ (.agg xs) v') : ∃ ys, v' = .agg ys ∧ LRel n ρ xs.toList ys.toList := by
  obtain ⟨ys, rfl, h1, h2⟩ := h.agg'
  exact ⟨ys, rfl, by simp [h1], fun k hk => by
    have := h2 k (by simpa using hk)
    simpa [List.getD, Array.getD_eq_getD_getElem?] using this⟩
theorem VRel.of_LRel {n : Nat} {ρ : Nat → Loc} {l l' : List Value} (h : LRel n ρ l l') : VRel n ρ (.agg l.toArray) (.agg l'.toArray) :=
  .agg (by simp [h.1]) (fun k hk => by
    have := h.2 k (by simpa using hk)
    simpa [List.getD, Array.getD_eq_getD_getElem?] using this)
theorem VRel.tuple_of_LRel {n : Nat} {ρ : Nat → Loc} {l l' : List Value} (h : LRel n ρ l l') : VRel n ρ (.tuple l.toArray) (.tuple l'.toArray) :=
  .tuple (by simp [h.1]) (fun k hk => by
    have := h.2 k (by simpa using hk)
    simpa [List.getD, Array.getD_eq_getD_getElem?] using this)

theorem VRel.one' {n : Nat} {ρ : Nat → Loc} {v v' : Value} (h : VRel n ρ v v') (ho : one v = true) : v'.oneCell' = true := by
  cases h with
  | any => simp [one, undef] at ho
  | skip => simp [one, skp] at ho
  | @atom v h => cases v <;> simp_all [one, Am.atom, Value.oneCell']
  | agg => simp [one] at ho
  | tuple => simp [one] at ho
  | _ => rfl

def splice {α : Type} (c : List α) (o : Nat) (vs : List α) : List α := c.take o ++ vs ++ c.drop (o + vs.length)
theorem splice_length {α : Type} {c : List α} {o : Nat} {vs : List α} (h : o + vs.length ≤ c.length) : (splice c o vs).length = c.length := by simp [splice]; omega
theorem splice_one {α : Type} {c : List α} {o : Nat} {v : α} (h : o < c.length) : splice c o [v] = c.set o v := by
  apply List.ext_getElem?
  intro k
  simp only [splice, List.length_singleton, List.append_assoc, List.getElem?_set]
  by_cases h1 : k < o
  · rw [List.getElem?_append_left (by simp; omega)]; simp [h1, Nat.ne_of_gt h1]
  · rw [List.getElem?_append_right (by simp; omega)]
    have : min o c.length = o := by omega
    simp only [List.length_take, this]
    by_cases h2 : o = k
    · subst h2; simp [h]
    · obtain ⟨j, hj⟩ : ∃ j, k - o = j + 1 := ⟨k - o - 1, by omega⟩
      simp only [hj, List.singleton_append, List.getElem?_cons_succ, List.getElem?_drop, if_neg h2]
      congr 1; omega
theorem splice_getD {c : List Value} {o : Nat} {vs : List Value} (h : o + vs.length ≤ c.length) (k : Nat) :
    (splice c o vs).getD k undef = if k < o then c.getD k undef else if k < o + vs.length then vs.getD (k - o) undef else c.getD k undef := by
  have hm : min o c.length = o := by omega
  simp only [splice, List.append_assoc, List.getD]
  by_cases h1 : k < o
  · rw [List.getElem?_append_left (by simp; omega)]; simp [h1]
  · rw [List.getElem?_append_right (by simp; omega), if_neg h1]
    simp only [List.length_take, hm]
    by_cases h2 : k < o + vs.length
    · rw [List.getElem?_append_left (by omega), if_pos h2]
    · rw [List.getElem?_append_right (by omega), if_neg h2, List.getElem?_drop]
      congr 2; omega
theorem splice_map {α β : Type} (f : α → β) (c : List α) (o : Nat) (vs : List α) : (splice c o vs).map f = splice (c.map f) o (vs.map f) := by simp [splice, List.map_take, List.map_drop]

theorem setRow_eq {w : World} {g : Nat} {c cs : Array Value} {e : TypeId} (h : w.heap[g]? = some (.cells c e (0, 0))) : w.setRow g cs = setRow w g cs e := by
  unfold World.setRow setRow
  congr 1
  apply Array.ext_getElem?
  intro k
  rw [Array.getElem?_modify, Array.getElem?_setIfInBounds]
  obtain ⟨hlt, hg⟩ := Array.getElem?_eq_some_iff.1 h
  by_cases hk : g = k
  · subst hk; simp [hg, hlt]
  · simp [hk]

/-- Cells of one's own block are put anew. -/
theorem Sim.stores {P : Program} [Tabs P] {ρ : Nat → Loc} {h : Heap} {w : World} (s : Sim P ρ h w) {i o : Nat} {c : List Value} {e : TypeId} {b : Blk} {vs vs' : List Value} (hv : view h i = some (c, e, false))
    (hb : b.view = some (splice c o vs, e, false)) (hl : o + vs.length ≤ c.length) (hr : LRel h.length ρ vs vs') (h1 : ∀ v ∈ vs, one v = true) :
    ∃ w', (storeCells ⟨(ρ i).blk, o, none⟩ vs').run P w = .ok () w' ∧ Sim P ρ (h.set i b) w' ∧ Evo h ρ w (h.set i b) ρ w' := by
  obtain ⟨c', fr, hc, hsz, hle, hrel, hw⟩ := s.cells i c e false hv
  obtain ⟨rfl, _⟩ := hw rfl
  have h1' : ∀ v ∈ vs', v.oneCell' = true := fun v' hm => by obtain ⟨v, hv, hr⟩ := hr.of_mem hm; exact hr.one' (h1 v hv)
  have hl' : o + vs'.length ≤ c'.size := by rw [← hr.1]; omega
  have hrun := run_storeCells_at P (ρ i).blk o e vs' 0 c' w hc (by simpa using hl') h1'
  rw [setRow_eq hc] at hrun
  have hsz1 : (splice c'.toList o vs').length = c'.toList.length := splice_length (by simpa using hl')
  have hW := s.write (c1' := (splice c'.toList o vs').toArray) hv hb hc (by simpa using hsz1) (by rw [splice_length hl]; simp at hsz1 ⊢; omega) (fun k hk => by
    rw [splice_length hl] at hk
    have e2 : (splice c'.toList o vs').toArray.getD k undef = (splice c'.toList o vs').getD k undef := by simp [Array.getD_eq_getD_getElem?, List.getD]
    rw [e2, splice_getD hl, splice_getD (by simpa using hl'), ← hr.1]
    have hold : VRel h.length ρ (c.getD k undef) (c'.toList.getD k undef) := by
      have := hrel k hk
      simpa [List.getD, Array.getD_eq_getD_getElem?] using this
    by_cases g1 : k < o
    · rw [if_pos g1, if_pos g1]; exact hold
    · rw [if_neg g1, if_neg g1]
      by_cases g2 : k < o + vs.length
      · rw [if_pos g2, if_pos g2]; exact hr.2 _ (by omega)
      · rw [if_neg g2, if_neg g2]; exact hold)
  exact ⟨_, by simpa [splice] using hrun, hW⟩

def storeK (P : Program) (h : Heap) (t : TypeId) (p v : Value) (K : Heap → Prop) : Prop :=
  match p with
  | .pointer (some ⟨b, o, none⟩) =>
    (match shp P t with
     | some none =>
       (match h[b]? with
        | some (.cells c e false) => one v = true ∧ o < c.length ∧ K (h.set b (.cells (c.set o v) e false))
        | some (.ints xs e false) => (match v with | .int .i64 n => o < xs.length ∧ K (h.set b (.ints (xs.set o n) e false)) | _ => False)
        | _ => False)
     | some (some n) =>
       (match v with
        | .agg vs => vs.size = n ∧ vs.toList.all one = true ∧
          (match h[b]? with
           | some (.cells c e false) => o + n ≤ c.length ∧ K (h.set b (.cells (splice c o vs.toList) e false))
           | some (.ints xs e false) => (match intsOf vs.toList with | some ns => o + n ≤ xs.length ∧ K (h.set b (.ints (splice xs o ns) e false)) | none => False)
           | _ => False)
        | _ => False)
     | none => False)
  | _ => False

theorem storeK_sound {P : Program} [Tabs P] {ρ : Nat → Loc} {h : Heap} {w : World} {t : TypeId} {p p' v v' : Value} {K : Heap → Prop} (s : Sim P ρ h w) (hp : VRel h.length ρ p p') (hx : VRel h.length ρ v v') (hk : storeK P h t p v K) :
    ∃ h' w', K h' ∧ (Instr.storeAt t p' v').run P w = .ok () w' ∧ Sim P ρ h' w' ∧ Evo h ρ w h' ρ w' := by
  unfold storeK at hk
  split at hk
  · rename_i b o
    obtain ⟨_, hb, rfl⟩ := hp.ptr'
    split at hk
    · rename_i hs
      obtain ⟨_, i, hi, hsi⟩ := run_isAgg (w := w) hs
      simp at hsi
      have main : ∀ (c : List Value) (e : TypeId) (B : Blk), view h b = some (c, e, false) → B.view = some (c.set o v, e, false) → o < c.length → one v = true → K (h.set b B) →
          ∃ h' w', K h' ∧ (Instr.storeAt t (.pointer (some ⟨(ρ b).blk, o, none⟩)) v').run P w = .ok () w' ∧ Sim P ρ h' w' ∧ Evo h ρ w h' ρ w' := by
        intro c e B hv hB ho h1 hK
        rw [← splice_one ho] at hB
        obtain ⟨w', hrun, hS, hE⟩ := s.stores (vs := [v]) (vs' := [v']) hv hB (by simp; omega) (LRel.cons hx (LRel.nil _ _)) (by simpa using h1)
        refine ⟨_, w', hK, ?_, hS, hE⟩
        have ho' : v'.oneCell' = true := hx.one' h1
        have hcells : v'.cells = #[v'] := by cases v' <;> first | rfl | simp [Value.oneCell'] at ho'
        simp [Instr.storeAt, Instr.sureAddr, storeVar, hcells, run_sizeOf hi, hsi, hrun]
      split at hk
      · rename_i c e hbk
        exact main c e _ (by simp [view, hbk, Blk.view]) rfl hk.2.1 hk.1 hk.2.2
      · rename_i xs e hbk
        split at hk
        · rename_i n
          exact main (xs.map vint) e (.ints (xs.set o n) e false) (by simp [view, hbk, Blk.view]) (by simp [Blk.view, List.map_set]) (by simpa using hk.1) rfl hk.2
        · exact hk.elim
      · exact hk.elim
    · rename_i n hs
      obtain ⟨_, i, hi, hsi⟩ := run_isAgg (w := w) hs
      simp at hsi
      split at hk
      · rename_i vs
        obtain ⟨hn, h1, hk⟩ := hk
        obtain ⟨ys, rfl, hr⟩ := hx.agg_iff
        have hys : ys.size = n := by have := hr.1; simp at this; omega
        have main : ∀ (c : List Value) (e : TypeId) (B : Blk), view h b = some (c, e, false) → B.view = some (splice c o vs.toList, e, false) → o + n ≤ c.length → K (h.set b B) →
            ∃ h' w', K h' ∧ (Instr.storeAt t (.pointer (some ⟨(ρ b).blk, o, none⟩)) (.agg ys)).run P w = .ok () w' ∧ Sim P ρ h' w' ∧ Evo h ρ w h' ρ w' := by
          intro c e B hv hB ho hK
          obtain ⟨w', hrun, hS, hE⟩ := s.stores hv hB (by simpa [hn] using ho) hr (fun v hv => List.all_eq_true.1 h1 v hv)
          refine ⟨_, w', hK, ?_, hS, hE⟩
          simp [Instr.storeAt, Instr.sureAddr, storeVar, Value.cells, run_sizeOf hi, hsi, hys, hrun]
        split at hk
        · rename_i c e hbk
          exact main c e _ (by simp [view, hbk, Blk.view]) rfl hk.1 hk.2
        · rename_i xs e hbk
          split at hk
          · rename_i ns hns
            exact main (xs.map vint) e (.ints (splice xs o ns) e false) (by simp [view, hbk, Blk.view]) (by simp [Blk.view, splice_map, ← intsOf_eq hns]) (by simpa using hk.1) hk.2
          · exact hk.elim
        · exact hk.elim
      · exact hk.elim
    · exact hk.elim
  · exact hk.elim

/-! ### New blocks -/
/-- The new block at the heap's end. -/
abbrev newPtr (h : Heap) : Value := .pointer (some ⟨h.length, 0, none⟩)

def allocK (P : Program) (h : Heap) (t : TypeId) (K : Value → Heap → Prop) : Prop :=
  match zeroOf P t with
  | some z => K (newPtr h) (h ++ [.cells z t false])
  | none => False

theorem allocK_sound {P : Program} [Tabs P] {ρ : Nat → Loc} {h : Heap} {w : World} {t : TypeId} {K : Value → Heap → Prop} (s : Sim P ρ h w) (hk : allocK P h t K) :
    ∃ v v' h' ρ' w', K v h' ∧ (Instr.alloc t true (.tuple #[])).run P w = .ok v' w' ∧ VRel h'.length ρ' v v' ∧ Sim P ρ' h' w' ∧ Evo h ρ w h' ρ' w' := by
  unfold allocK zeroOf at hk
  cases hi : P.info? t with
  | none => simp [hi] at hk
  | some i =>
    cases hz : i.zero with
    | none => simp [hi, hz] at hk
    | some z =>
      simp only [hi, hz] at hk
      split at hk
      · rename_i c hc
        split at hc
        · rename_i hat
          cases hc
          obtain ⟨hS, hE⟩ := s.alloc (b := .cells z.cells.toList t false) (c := z.cells.toList) (c' := z.cells) (es := i.size) (e := t) rfl (by simp) (fun k hk => by
            have := (LRel.atoms (n := h.length) (ρ := ρ) hat).2 k hk
            simpa [List.getD, Array.getD_eq_getD_getElem?] using this) (by simp [hi])
          refine ⟨_, .pointer (some ⟨w.heap.size, 0, none⟩), _, _, _, hk, ?_, ?_, hS, hE⟩
          · simp [Instr.alloc, zeroValue, typeInfo, hi, hz, newVar, newRow]
          · have := VRel.ptr (n := (h ++ [Blk.cells z.cells.toList t false]).length) (ρ := Loc.upd ρ h.length ⟨w.heap.size, z.cells.size, i.size⟩) (b := h.length) (o := 0) (by simp)
            rwa [Loc.upd_same] at this
        · cases hc
      · exact hk.elim

def boxK (P : Program) (h : Heap) (t : TypeId) (v : Value) (K : Value → Heap → Prop) : Prop :=
  (match v with | .tuple _ => False | .chan (some _) => False | _ => True) ∧ (esz P t).isSome = true ∧ K (newPtr h) (h ++ [.cells (cellsOf v) t false])

theorem VRel.cells {n : Nat} {ρ : Nat → Loc} {v v' : Value} (h : VRel n ρ v v') (ht : ∀ vs, v ≠ .tuple vs) (hc : ∀ k, v ≠ .chan (some k)) : LRel n ρ (cellsOf v) v'.cells.toList ∧ (v'.cells.size = (cellsOf v).length) := by
  have one1 : ∀ u u' : Value, VRel n ρ u u' → (cellsOf u = [u]) → (u'.cells = #[u']) → LRel n ρ (cellsOf u) u'.cells.toList ∧ (u'.cells.size = (cellsOf u).length) := by
    intro u u' hr e1 e2; rw [e1, e2]; exact ⟨LRel.cons hr (LRel.nil _ _), rfl⟩
  cases v with
  | agg xs =>
    obtain ⟨ys, rfl, hr⟩ := h.agg_iff
    exact ⟨hr, by have := hr.1; simpa [cellsOf, Value.cells] using this.symm⟩
  | tuple xs => exact absurd rfl (ht xs)
  | chan r =>
    cases r with
    | some k => exact absurd rfl (hc k)
    | none => exact one1 _ _ h rfl (by rw [h.atom_eq rfl]; rfl)
  | _ =>
    have hh := h
    have := h.one' rfl
    refine one1 _ _ hh rfl ?_
    cases v' <;> first | rfl | simp [Value.oneCell'] at this

theorem boxK_sound {P : Program} [Tabs P] {ρ : Nat → Loc} {h : Heap} {w : World} {t : TypeId} {v v1 : Value} {K : Value → Heap → Prop} (s : Sim P ρ h w) (hx : VRel h.length ρ v v1) (hk : boxK P h t v K) :
    ∃ v v' h' ρ' w', K v h' ∧ (Instr.box t v1).run P w = .ok v' w' ∧ VRel h'.length ρ' v v' ∧ Sim P ρ' h' w' ∧ Evo h ρ w h' ρ' w' := by
  obtain ⟨ht, hes, hK⟩ := hk
  obtain ⟨es, hes⟩ := Option.isSome_iff_exists.1 hes
  obtain ⟨hr, hsz⟩ := hx.cells (fun vs e => by subst e; exact ht) (fun vs e => by subst e; exact ht)
  obtain ⟨hS, hE⟩ := s.alloc (b := .cells (cellsOf v) t false) (c := cellsOf v) (c' := v1.cells) (es := es) (e := t) rfl (by omega) (fun k hk => by
    have := hr.2 k hk
    simpa [List.getD, Array.getD_eq_getD_getElem?] using this) hes
  refine ⟨_, .pointer (some ⟨w.heap.size, 0, none⟩), _, _, _, hK, ?_, ?_, hS, hE⟩
  · simp [Instr.box, newVar, newRow]
  · have := VRel.ptr (n := (h ++ [Blk.cells (cellsOf v) t false]).length) (ρ := Loc.upd ρ h.length ⟨w.heap.size, v1.cells.size, es⟩) (b := h.length) (o := 0) (by simp)
    rwa [Loc.upd_same] at this
/-! ### Slices made -/
theorem mkb_alloc {P : Program} [Tabs P] {ρ : Nat → Loc} {h : Heap} {w : World} (s : Sim P ρ h w) {c : List Value} {e : TypeId} {c' : Array Value} {es : Nat} (hle : c.length ≤ c'.size)
    (hr : ∀ k, k < c.length → VRel h.length ρ (c.getD k undef) (c'.getD k undef)) (he : (P.info? e).map (·.size) = some es) :
    Sim P (Loc.upd ρ h.length ⟨w.heap.size, c'.size, es⟩) (h ++ [mkb c e]) (w.alloc (.cells c' e)) ∧
      Evo h ρ w (h ++ [mkb c e]) (Loc.upd ρ h.length ⟨w.heap.size, c'.size, es⟩) (w.alloc (.cells c' e)) :=
  s.alloc (mkb_view c e) hle hr he

def reps (z : List Value) : Nat → List Value
  | 0 => []
  | n + 1 => z ++ reps z n
theorem reps_length (z : List Value) (n : Nat) : (reps z n).length = n * z.length := by
  induction n with
  | zero => simp [reps]
  | succ n ih => simp [reps, ih, Nat.succ_mul]; omega
theorem reps_get (z : List Value) : ∀ (n k : Nat), k < n * z.length → (reps z n).getD k undef = z.getD (k % z.length) undef
  | 0, k, hk => by simp at hk
  | n + 1, k, hk => by
    have hz : 0 < z.length := by rcases Nat.eq_zero_or_pos z.length with h | h; (rw [h] at hk; simp at hk); exact h
    simp only [reps, List.getD]
    by_cases h1 : k < z.length
    · rw [List.getElem?_append_left h1, Nat.mod_eq_of_lt h1]
    · rw [List.getElem?_append_right (by omega)]
      have hk' : k - z.length < n * z.length := by rw [Nat.succ_mul] at hk; omega
      have := reps_get z n (k - z.length) hk'
      simp only [List.getD] at this
      rw [this]
      congr 2
      conv => rhs; rw [show k = (k - z.length) + z.length from by omega]
      rw [Nat.add_mod_right]

/-- The block of a made slice: n elements of zeros z. -/
def zblk (z : List Value) (n : Nat) (e : TypeId) : Blk :=
  match z with
  | [.int .i64 0] => .ints (List.replicate n 0) e false
  | z => .cells (reps z n) e false
theorem zblk_view (z : List Value) (n : Nat) (e : TypeId) : (zblk z n e).view = some (reps z n, e, false) := by
  unfold zblk
  split
  · simp only [Blk.view, List.map_replicate]
    congr 2
    induction n with
    | zero => rfl
    | succ n ih => simp [reps, List.replicate_succ, ih]
  · rfl

def elemOf' (P : Program) (t : TypeId) : Option TypeId :=
  match P.underlying t with
  | some (.slice e) => some e
  | _ => none
theorem elemOf'_eq {P : Program} [Tabs P] {t e : TypeId} (h : elemOf' P t = some e) : P.underlying t = some (.slice e) := by
  unfold elemOf' at h; split at h <;> simp_all

def makeK (P : Program) (h : Heap) (t : TypeId) (len cap : Value) (K : Value → Heap → Prop) : Prop :=
  match len, cap with
  | .int .i64 l, .int .i64 c =>
    (match elemOf' P t with
     | some e => (match zeroOf P e, P.info? e with
       | some z, some i => z.length = i.size ∧ 0 < i.size ∧ 0 ≤ l ∧ l ≤ c ∧ i.bytes * c ≤ 281474976710656 ∧ c < 9223372036854775808 ∧ K (.slice (some ⟨h.length, 0, none⟩) l.toNat c.toNat) (h ++ [zblk z c.toNat e])
       | _, _ => False)
     | none => False)
  | _, _ => False

theorem wrap_small {n : Int} (h0 : 0 ≤ n) (h1 : n < 9223372036854775808) : IntKind.i64.wrap n = n := IntWalk.i64_in n (by omega)

theorem makeK_sound {P : Program} [Tabs P] {ρ : Nat → Loc} {h : Heap} {w : World} {t : TypeId} {l l' c c' : Value} {K : Value → Heap → Prop} (s : Sim P ρ h w) (hl : VRel h.length ρ l l') (hc : VRel h.length ρ c c') (hk : makeK P h t l c K) :
    ∃ v v' h' ρ' w', K v h' ∧ (Instr.makeSlice t l' c').run P w = .ok v' w' ∧ VRel h'.length ρ' v v' ∧ Sim P ρ' h' w' ∧ Evo h ρ w h' ρ' w' := by
  unfold makeK at hk
  split at hk
  · rename_i l c
    rw [hl.int, hc.int]
    split at hk
    · rename_i e he
      split at hk
      · rename_i z i hz hi
        obtain ⟨hzs, hsz, h0, hlc, hby, hcb, hK⟩ := hk
        unfold zeroOf at hz
        simp only [hi] at hz
        cases hzz : i.zero with
        | none => simp [hzz] at hz
        | some zv =>
          simp only [hzz] at hz
          split at hz
          · rename_i hat
            cases hz
            have hzsz : zv.cells.size = i.size := by simpa using hzs
            have hsize : ((Array.range (c.toNat * i.size)).map (fun k => zv.cells[k % zv.cells.size]!)).size = c.toNat * i.size := by simp
            obtain ⟨hS, hE⟩ := s.alloc (b := zblk zv.cells.toList c.toNat e) (c := reps zv.cells.toList c.toNat) (c' := (Array.range (c.toNat * i.size)).map (fun k => zv.cells[k % zv.cells.size]!)) (es := i.size) (e := e) (zblk_view _ _ _)
              (by rw [reps_length, hsize, hzs]; exact Nat.le_refl _) (fun k hk => by
                rw [reps_length, hzs] at hk
                rw [reps_get _ _ _ (by rw [hzs]; exact hk)]
                have hm : k % zv.cells.size < zv.cells.size := Nat.mod_lt _ (by omega)
                have e1 : ((Array.range (c.toNat * i.size)).map (fun k => zv.cells[k % zv.cells.size]!)).getD k undef = zv.cells.toList.getD (k % zv.cells.toList.length) undef := by
                  simp [Array.getD_eq_getD_getElem?, hk, List.getD, hm]
                rw [e1]
                exact (LRel.atoms hat).2 _ (by simpa using hm)) (by simp [hi])
            rw [hsize] at hS hE
            refine ⟨_, .slice (some ⟨w.heap.size, 0, none⟩) l.toNat c.toNat, _, _, _, hK, ?_, ?_, hS, hE⟩
            · have wl : IntKind.i64.wrap l = l := wrap_small h0 (by omega)
              have wc : IntKind.i64.wrap c = c := wrap_small (by omega) hcb
              have t1 : ¬ (c < 0) := by omega
              have t2 : ¬ (l < 0) := by omega
              have t3 : ¬ (c < l) := by omega
              have t4 : ¬ (281474976710656 < (i.bytes : Int) * c) := by omega
              by_cases hz0 : c.toNat * i.size = 0
              · have hc0 : c.toNat = 0 := by rcases Nat.mul_eq_zero.1 hz0 with h | h; exact h; omega
                simp [hc0, Instr.makeSlice, run_underlying (elemOf'_eq he), asInt, asIntOf, typeInfo, hi, wl, wc, t1, t2, t3, t4, run_sizeOf hi, newRow, Array.range_zero']
              · simp [Instr.makeSlice, run_underlying (elemOf'_eq he), asInt, asIntOf, typeInfo, hi, wl, wc, t1, t2, t3, t4, run_sizeOf hi, hz0, newRow, zeroValue, hzz]
            · have := VRel.slice (n := (h ++ [zblk zv.cells.toList c.toNat e]).length) (ρ := Loc.upd ρ h.length ⟨w.heap.size, c.toNat * i.size, i.size⟩) (b := h.length) (o := 0) (len := l.toNat) (cap := c.toNat) (by simp)
              rwa [Loc.upd_same] at this
          · cases hz
      · exact hk.elim
    · exact hk.elim
  · exact hk.elim
end Go.Am
