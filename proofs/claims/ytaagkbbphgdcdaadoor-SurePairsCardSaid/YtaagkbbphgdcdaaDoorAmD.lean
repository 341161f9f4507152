/-
  The abstract machine, part D: append; slices of slices; literals.
-/
import Derived.Test.YtaagkbbphgdcdaaDoorAmC
set_option linter.all false
namespace Go.Am

/-- The elements of a slice that is read (nil: none). 'sz': cells an element. -/
def elemsK (h : Heap) (sz : Nat) (x : Value) (K : Nat → List Value → Prop) : Prop :=
  match x with
  | .slice none n _ => n = 0 ∧ K 0 []
  | .slice (some ⟨b, o, _⟩) n _ => (n = 0 → K 0 []) ∧ (n ≠ 0 → cellsK h b o (n * sz) (K n))
  | .chan (some 1) => K 0 []
  | _ => False

theorem run_firstCells {P : Program} [Tabs P] {ρ : Nat → Loc} {h : Heap} {w : World} (s : Sim P ρ h w) {sz : Nat} {x x' : Value} {K : Nat → List Value → Prop} (hx : VRel h.length ρ x x') (hk : elemsK h sz x K) :
    ∃ n l l', K n l ∧ LRel h.length ρ l l'.toList ∧ l.length = n * sz ∧ (∀ W : World, (Builtin.lenOf x').run P W = .ok n W) ∧ ∀ W : World, W.heap = w.heap → (Builtin.firstCells sz n x').run P W = .ok l' W := by
  unfold elemsK at hk
  split at hk
  · obtain ⟨rfl, hK⟩ := hk
    rename_i c
    rw [hx.atom_eq rfl]
    exact ⟨0, [], #[], hK, LRel.nil _ _, by simp, by simp [Builtin.lenOf], by simp [Builtin.firstCells]⟩
  · rename_i b o sp n c
    obtain ⟨hb, cap', _, _, _, rfl, _⟩ := hx.sl
    by_cases hn0 : n = 0
    · subst hn0
      exact ⟨0, [], #[], hk.1 rfl, LRel.nil _ _, by simp, by simp [Builtin.lenOf], by simp [Builtin.firstCells, loadCells, loadCellsFrom]⟩
    obtain ⟨cl, e, ro, hv, hn, hK⟩ := cellsK_view (hk.2 hn0)
    obtain ⟨vs, hrun, hsz, hrel⟩ := run_loadCells s hv hn
    have hlen : ((cl.drop o).take (n * sz)).length = n * sz := by simp; omega
    exact ⟨n, _, vs, hK, ⟨by rw [hlen]; simp [hsz], fun k hk => by
      have := hrel k (by omega)
      simpa [List.getD, Array.getD_eq_getD_getElem?] using this⟩, hlen, by simp [Builtin.lenOf], fun W hW => by simpa [Builtin.firstCells] using hrun W hW⟩
  · cases hx with
    | atom h => simp [atom] at h
    | void => exact ⟨0, [], #[], hk, LRel.nil _ _, by simp, by simp [Builtin.lenOf], by simp [Builtin.firstCells, loadCells, loadCellsFrom]⟩
  · exact hk.elim

/-- What 'append' asks of the program's types. -/
def appT (P : Program) (t t2 : TypeId) : Option (TypeId × Nat × Nat) :=
  match elemOf' P t, P.underlying t2 with
  | some e, some (.slice _) => (match P.info? e with | some i => if (i.zero.map (·.cells.size)) = some i.size ∧ 0 < i.size ∧ 0 < i.bytes then some (e, i.size, i.bytes) else none | none => none)
  | _, _ => none

/-- The cells ns are put behind the first 'len' elements of the slice s. -/
def putK (h : Heap) (e : TypeId) (sz bytes : Nat) (s : Value) (n : Nat) (ns : List Value) (K : Value → Heap → Prop) : Prop :=
  match s with
  | .slice none 0 0 => (n = 0 → K (.slice none 0 0) h) ∧ (n ≠ 0 → n * bytes ≤ 140737488355328 ∧ K (.slice (some ⟨h.length, 0, some 0⟩) n n) (h ++ [mkb ns e]))
  | .slice (some ⟨b, o, sp⟩) len cap =>
    (len + n ≤ cap → (n = 0 → K (.slice (some ⟨b, o, sp⟩) len cap) h) ∧ (n ≠ 0 → ns.all one = true ∧
      (match h[b]? with
       | some (.cells c e' false) => o + len * sz + ns.length ≤ c.length ∧ K (.slice (some ⟨b, o, sp⟩) (len + n) cap) (h.set b (.cells (splice c (o + len * sz) ns) e' false))
       | some (.ints xs e' false) => (match intsOf ns with | some is => o + len * sz + is.length ≤ xs.length ∧ K (.slice (some ⟨b, o, sp⟩) (len + n) cap) (h.set b (.ints (splice xs (o + len * sz) is) e' false)) | none => False)
       | _ => False))) ∧
    (cap < len + n → (len + n) * bytes ≤ 140737488355328 ∧
      (match sp with
       | none => cellsK h b o (len * sz) (fun os => K (.slice (some ⟨h.length, 0, some 0⟩) (len + n) (len + n)) (h ++ [mkb (os ++ ns) e]))
       | some _ => o = 0 ∧ ns.all one = true ∧ (match view h b with | some (_, e', false) => e' = e | _ => False) ∧
           cellsK h b o (len * sz) (fun os => K (.slice (some ⟨h.length, 0, some 0⟩) (len + n) (len + n)) (h.set b .dead ++ [mkb (os ++ ns) e]))))
  | _ => False

def appendK (P : Program) (h : Heap) (t t2 : TypeId) (s x : Value) (K : Value → Heap → Prop) : Prop :=
  match appT P t t2 with
  | some (e, sz, bytes) => elemsK h sz x (fun n ns => putK h e sz bytes s n ns K)
  | none => False

theorem dead_snoc {P : Program} [Tabs P] {ρ : Nat → Loc} {h : Heap} {w w' : World} (s : Sim P ρ h w) {b : Nat} {c os ns : List Value} {c' c1' : Array Value} {e : TypeId} (hv : view h b = some (c, e, false))
    (hc : w.heap[(ρ b).blk]? = some (.cells c' e (0, 0))) (hw : w' = setRow w (ρ b).blk c1' e) (hsz : c1'.size = c'.size) (hle : (os ++ ns).length ≤ c1'.size)
    (hr : ∀ k, k < (os ++ ns).length → VRel h.length ρ ((os ++ ns).getD k undef) (c1'.getD k undef)) :
    Sim P (Loc.upd ρ h.length (ρ b)) (h.set b .dead ++ [mkb (os ++ ns) e]) w' ∧ Evo h ρ w (h.set b .dead ++ [mkb (os ++ ns) e]) (Loc.upd ρ h.length (ρ b)) w' := by
  subst hw
  have hbl := view_lt hv
  have hblt := s.lt hv
  have hag : ∀ i, i < h.length → Loc.upd ρ h.length (ρ b) i = ρ i := fun i hi => Loc.upd_lt ρ _ hi
  have hlen : (h.set b .dead).length = h.length := by simp
  have hother : ∀ k, k ≠ (ρ b).blk → (setRow w (ρ b).blk c1' e).heap[k]? = w.heap[k]? := fun k hk => by simp [setRow, Array.getElem?_setIfInBounds_ne (Ne.symm hk)]
  have hsame : (setRow w (ρ b).blk c1' e).heap[(ρ b).blk]? = some (.cells c1' e (0, 0)) := by simp [setRow, hblt]
  obtain ⟨c2, fr, hc2, hsz2, _, _, hw2⟩ := s.cells b c e false hv
  rw [hc] at hc2; cases hc2
  have olds : ∀ i x, view (h.set b .dead ++ [mkb (os ++ ns) e]) i = some x → (i < h.length ∧ i ≠ b ∧ view h i = some x) ∨ (i = h.length ∧ x = (os ++ ns, e, false)) := by
    intro i x hi
    rcases view_snoc hi with ⟨h1, h2⟩ | ⟨h1, h2⟩
    · left
      rw [hlen] at h1
      rw [view_set hbl] at h2
      by_cases hib : b = i
      · rw [if_pos hib] at h2; simp [Blk.view] at h2
      · rw [if_neg hib] at h2; exact ⟨h1, Ne.symm hib, h2⟩
    · right
      rw [hlen] at h1
      rw [mkb_view] at h2
      exact ⟨h1, (Option.some.inj h2).symm⟩
  have hEvo : Evo h ρ w (h.set b .dead ++ [mkb (os ++ ns) e]) (Loc.upd ρ h.length (ρ b)) (setRow w (ρ b).blk c1' e) := by
    refine ⟨by simp, hag, by simp [setRow], rfl, rfl, rfl, ?_, ?_, ?_⟩
    rotate_left 2
    · rintro k ⟨i, x3, hi, rfl⟩
      right
      rcases olds i _ hi with ⟨h1, h2, h3⟩ | ⟨rfl, h2⟩
      · exact ⟨i, x3, h3, by rw [hag i h1]⟩
      · exact ⟨b, _, hv, by rw [Loc.upd_same]⟩
    · intro k hk hm
      exact hother k (fun he => hm ⟨b, c, e, hv, he.symm⟩)
    · rintro k ⟨i, c3, e3, hi, rfl⟩
      right
      rcases olds i _ hi with ⟨h1, h2, h3⟩ | ⟨rfl, h2⟩
      · exact ⟨i, c3, e3, h3, by rw [hag i h1]⟩
      · exact ⟨b, c, e, hv, by rw [Loc.upd_same]⟩
  refine ⟨⟨?_, ?_, fun p hp => hEvo.tab (s.tab p hp)⟩, hEvo⟩
  · intro i c3 e3 ro3 hi
    rcases olds i _ hi with ⟨h1, h2, h3⟩ | ⟨rfl, h2⟩
    · obtain ⟨c4, fr4, g1, g2, g3, g4, g5⟩ := s.cells i c3 e3 ro3 h3
      rw [hag i h1]
      exact ⟨c4, fr4, by rw [hother _ (fun he => h2 (s.inj i b _ _ h3 hv he))]; exact g1, g2, g3, fun k hk => (g4 k hk).mono (by simp) hag, g5⟩
    · cases h2
      rw [Loc.upd_same]
      exact ⟨c1', (0, 0), hsame, by rw [hsz, hsz2], hle, fun k hk => (hr k hk).mono (by simp) hag, fun _ => ⟨rfl, (hw2 rfl).2⟩⟩
  · intro i j x y hi hj hij
    rcases olds i _ hi with ⟨h1, h2, h3⟩ | ⟨rfl, h2⟩ <;> rcases olds j _ hj with ⟨g1, g2, g3⟩ | ⟨rfl, g2⟩
    · rw [hag i h1, hag j g1] at hij; exact s.inj i j x y h3 g3 hij
    · rw [hag i h1, Loc.upd_same] at hij; exact absurd (s.inj i b _ _ h3 hv hij) h2
    · rw [hag j g1, Loc.upd_same] at hij; exact absurd (s.inj j b _ _ g3 hv hij.symm) g2
    · rfl

theorem drew_sim {P : Program} [Tabs P] {ρ : Nat → Loc} {h : Heap} {w : World} (s : Sim P ρ h w) : Sim P ρ h { w with drawn := w.drawn + 1 } ∧ Evo h ρ w h ρ { w with drawn := w.drawn + 1 } :=
  ⟨⟨s.cells, s.inj, s.tab⟩, ⟨Nat.le_refl _, fun _ _ => rfl, Nat.le_refl _, rfl, rfl, rfl, fun _ _ _ => rfl, fun _ hk => .inr hk, fun _ hk => .inr hk⟩⟩

/-- The model's append, the two operands' cells known: room. -/
theorem run_append_in {P : Program} [Tabs P] {w w' : World} {t t2 ty e : TypeId} {i : TypeInfo} {et : TypeId} {a : Addr} {len cap n : Nat} {x' : Value} {l' : Array Value} (ht : P.underlying t = some (.slice e)) (ht2 : P.underlying t2 = some (.slice et))
    (hi : P.info? e = some i) (hl : (Builtin.lenOf x').run P w = .ok n w) (hf : (Builtin.firstCells i.size n x').run P w = .ok l' w) (hn : len + n ≤ cap) (hst : (storeCells (a.add (len * i.size)) l'.toList).run P w = .ok () w') :
    (Builtin.append_ #[t, t2] ty #[.slice (some a) len cap, x']).run P w = .ok (.slice (some a) (len + n) cap) w' := by
  simp [Builtin.append_, run_underlying ht, run_underlying ht2, run_sizeOf hi, hl, hf, hn, hst]

theorem run_append_out {P : Program} [Tabs P] {w : World} {t t2 ty e : TypeId} {i : TypeInfo} {et : TypeId} {z : Value} {base : Option Addr} {len cap n : Nat} {x' : Value} {l' os : Array Value} (ht : P.underlying t = some (.slice e)) (ht2 : P.underlying t2 = some (.slice et))
    (hi : P.info? e = some i) (hz : i.zero = some z) (hb0 : 0 < i.bytes) (hl : (Builtin.lenOf x').run P w = .ok n w) (hf : ∀ W : World, W.heap = w.heap → (Builtin.firstCells i.size n x').run P W = .ok l' W) (hn : cap < len + n)
    (ho : ∀ W : World, W.heap = w.heap → (Builtin.firstCells i.size len (.slice base len cap)).run P W = .ok os W) (hby : (len + n) * i.bytes ≤ 140737488355328) :
    ∃ m rest, (Builtin.append_ #[t, t2] ty #[.slice base len cap, x']).run P w = .ok (.slice (some ⟨w.heap.size, 0, none⟩) (len + n) m) (World.alloc { w with drawn := w.drawn + 1 } (.cells (os ++ l' ++ rest) e)) ∧
      len + n ≤ m ∧ rest.size = (m - (len + n)) * z.cells.size := by
  have h48 : ¬ (281474976710656 < Builtin.nextslicecap (len + n) cap * i.bytes) := by have := growslice_fits hn hby; omega
  have hb1 : ¬ (i.bytes = 0) := by omega
  refine ⟨(Question.appendCap (len + n) cap e).cut (w.tape w.drawn (.appendCap (len + n) cap e)), Builtin.zeroCells z.cells ((Question.appendCap (len + n) cap e).cut (w.tape w.drawn (.appendCap (len + n) cap e)) - (len + n)), ?_, by simp [Question.cut], by simp [Builtin.zeroCells]⟩
  have hf1 := hf w.drew rfl
  have ho1 := ho w.drew rfl
  simp [Builtin.append_, run_underlying ht, run_underlying ht2, run_sizeOf hi, hl, typeInfo, hi, hb1, Nat.not_le.2 hn, h48, Question.forced, hf1, ho1, zeroValue, hz, newRow]
theorem appT_spec {P : Program} [Tabs P] {t t2 e : TypeId} {sz bytes : Nat} (h : appT P t t2 = some (e, sz, bytes)) : P.underlying t = some (.slice e) ∧ (∃ et, P.underlying t2 = some (.slice et)) ∧
    ∃ i z, P.info? e = some i ∧ i.zero = some z ∧ z.cells.size = sz ∧ i.size = sz ∧ i.bytes = bytes ∧ 0 < sz ∧ 0 < bytes := by
  unfold appT at h
  split at h
  · rename_i e' et h1 h2
    split at h
    · rename_i i hi
      split at h
      · rename_i hc
        cases h
        obtain ⟨hz, h3, h4⟩ := hc
        obtain ⟨z, hz1, hz2⟩ := Option.map_eq_some_iff.1 hz
        exact ⟨elemOf'_eq h1, ⟨et, h2⟩, i, z, hi, hz1, hz2, rfl, rfl, h3, h4⟩
      · cases h
    · cases h
  · cases h

theorem newLoose {h : Heap} {ρ : Nat → Loc} {B : Blk} {w : World} {m need sz len : Nat} {c' : Array Value} (hm : need ≤ m) (hs : c'.size = m * sz) :
    VRel (h ++ [B]).length (Loc.upd ρ h.length ⟨w.heap.size, c'.size, sz⟩) (.slice (some ⟨h.length, 0, some 0⟩) len need) (.slice (some ⟨w.heap.size, 0, none⟩) len m) := by
  have := VRel.loose (n := (h ++ [B]).length) (ρ := Loc.upd ρ h.length ⟨w.heap.size, c'.size, sz⟩) (b := h.length) (o := 0) (len := len) (cap := need) (cap' := m) (by simp) hm (fun _ => by rw [Loc.upd_same]; simp [hs])
  rwa [Loc.upd_same] at this
theorem appendK_sound {P : Program} [Tabs P] {ρ : Nat → Loc} {h : Heap} {w : World} {t t2 ty : TypeId} {x x' v v' : Value} {K : Value → Heap → Prop} (s : Sim P ρ h w) (hv : VRel h.length ρ v v') (hx : VRel h.length ρ x x') (hk : appendK P h t t2 v x K) :
    ∃ r r' h' ρ' w', K r h' ∧ (Builtin.append_ #[t, t2] ty #[v', x']).run P w = .ok r' w' ∧ VRel h'.length ρ' r r' ∧ Sim P ρ' h' w' ∧ Evo h ρ w h' ρ' w' := by
  unfold appendK at hk
  split at hk
  case h_2 => exact hk.elim
  rename_i e sz bytes hT
  obtain ⟨ht, ⟨et, ht2⟩, i, z, hi, hz, hzs, rfl, rfl, hsz, hby0⟩ := appT_spec hT
  obtain ⟨n, ns, ns', hK, hrel, hlen, hlo, hfc⟩ := run_firstCells s hx hk
  clear hk
  unfold putK at hK
  split at hK
  · -- nil
    rw [hv.atom_eq rfl]
    by_cases hn : n = 0
    · subst hn
      refine ⟨_, .slice none 0 0, h, ρ, w, hK.1 rfl, ?_, .atom rfl, s, .refl _ _ _⟩
      simp [Builtin.append_, run_underlying ht, run_underlying ht2, run_sizeOf hi, hlo, hfc w rfl]
    · obtain ⟨hb, hK⟩ := hK.2 hn
      obtain ⟨m, rest, hrun, hm, hrs⟩ := run_append_out (ty := ty) (base := none) (len := 0) (cap := 0) (os := #[]) ht ht2 hi hz hby0 (hlo w) hfc (by omega) (fun W _ => by simp [Builtin.firstCells]) (by simpa using hb)
      obtain ⟨s1, e1⟩ := drew_sim s
      have hns : ns'.size = n * i.size := by have := hrel.1; simp at this; omega
      have hsize : (#[] ++ ns' ++ rest).size = m * i.size := by
        simp only [Array.size_append, hns, hrs, hzs, Nat.zero_add, Array.size_empty] at hm ⊢
        rw [← Nat.add_mul]; congr 1; omega
      obtain ⟨s2, e2⟩ := mkb_alloc s1 (c := ns) (e := e) (c' := #[] ++ ns' ++ rest) (es := i.size) (by rw [hsize, hlen]; exact Nat.mul_le_mul_right _ (by simpa using hm)) (fun k hk => by
        have := hrel.2 k hk
        have hk' : k < ns'.size := by have := hrel.1; simp at this; omega
        simpa [Array.getElem?_append_left hk', List.getD, Array.getD_eq_getD_getElem?] using this) (by simp [hi])
      refine ⟨_, _, _, _, _, hK, hrun, ?_, s2, e1.trans e2⟩
      have := newLoose (h := h) (ρ := ρ) (B := mkb ns e) (w := { w with drawn := w.drawn + 1 }) (len := 0 + n) hm hsize
      simpa using this
  · -- a row
    rename_i b o sp len cap
    obtain ⟨hb, cap', hcap, hex, hlo', rfl, hsp⟩ := hv.sl
    have inplace : ∀ (hroom : len + n ≤ cap') (c : List Value) (e' : TypeId) (B : Blk), view h b = some (c, e', false) → B.view = some (splice c (o + len * i.size) ns, e', false) → o + len * i.size + ns.length ≤ c.length → ns.all one = true →
        K (.slice (some ⟨b, o, sp⟩) (len + n) cap) (h.set b B) → len + n ≤ cap →
        ∃ r r' h' ρ' w', K r h' ∧ (Builtin.append_ #[t, t2] ty #[.slice (some ⟨(ρ b).blk, o, none⟩) len cap', x']).run P w = .ok r' w' ∧ VRel h'.length ρ' r r' ∧ Sim P ρ' h' w' ∧ Evo h ρ w h' ρ' w' := by
      intro hroom c e' B hvw hB hl h1 hK hroom2
      obtain ⟨w', hst, hS, hE⟩ := s.stores hvw hB hl hrel (fun v hv => List.all_eq_true.1 h1 v hv)
      refine ⟨_, .slice (some ⟨(ρ b).blk, o, none⟩) (len + n) cap', _, ρ, w', hK, run_append_in ht ht2 hi (hlo w) (hfc w rfl) hroom (by rw [addr_add]; exact hst), ?_, hS, hE⟩
      rw [List.length_set]
      rcases hsp with rfl | rfl
      · rw [hex rfl]; exact .slice hb
      · exact .loose hb hcap (hlo' (by simp))
    by_cases hroom : len + n ≤ cap
    · by_cases hn0 : n = 0
      · subst hn0
        obtain rfl : ns = [] := List.length_eq_zero_iff.1 (by simpa using hlen)
        obtain rfl : ns' = #[] := Array.size_eq_zero_iff.1 (by have := hrel.1; simpa using this.symm)
        exact ⟨_, .slice (some ⟨(ρ b).blk, o, none⟩) len cap', h, ρ, w, (hK.1 hroom).1 rfl, run_append_in ht ht2 hi (hlo w) (hfc w rfl) (by omega) (by simp [storeCells]), hv, s, .refl _ _ _⟩
      obtain ⟨h1, hK⟩ := (hK.1 hroom).2 hn0
      split at hK
      · rename_i c e' hbk
        exact inplace (by omega) c e' _ (by simp [view, hbk, Blk.view]) rfl hK.1 h1 hK.2 hroom
      · rename_i xs e' hbk
        split at hK
        · rename_i is his
          exact inplace (by omega) (xs.map vint) e' (.ints (splice xs (o + len * i.size) is) e' false) (by simp [view, hbk, Blk.view]) (by rw [intsOf_eq his]; simp [Blk.view, splice_map]) (by rw [intsOf_eq his]; simpa using hK.1) h1 hK.2 hroom
        · exact hK.elim
      · exact hK.elim
    · obtain ⟨hby, hK⟩ := hK.2 (by omega)
      have hns : ns'.size = n * i.size := by have := hrel.1; simp at this; omega
      -- growth in the model
      have grow : ∀ (h0 : Heap) (os : List Value), h0.length = h.length → Sim P ρ h0 w → Evo h ρ w h0 ρ w → (∃ os' : Array Value, (∀ W : World, W.heap = w.heap → (Builtin.firstCells i.size len (.slice (some ⟨(ρ b).blk, o, none⟩) len cap')).run P W = .ok os' W) ∧ LRel h.length ρ os os'.toList) → os.length = len * i.size → cap' < len + n →
          K (.slice (some ⟨h.length, 0, some 0⟩) (len + n) (len + n)) (h0 ++ [mkb (os ++ ns) e]) →
          ∃ r r' h' ρ' w', K r h' ∧ (Builtin.append_ #[t, t2] ty #[.slice (some ⟨(ρ b).blk, o, none⟩) len cap', x']).run P w = .ok r' w' ∧ VRel h'.length ρ' r r' ∧ Sim P ρ' h' w' ∧ Evo h ρ w h' ρ' w' := by
        intro h0 os hh0 s0 e0 ⟨os', hos, hosr⟩ hosl hc hK
        obtain ⟨m, rest, hrun, hm, hrs⟩ := run_append_out (ty := ty) ht ht2 hi hz hby0 (hlo w) hfc hc hos hby
        obtain ⟨s1, e1⟩ := drew_sim s0
        have hoss : os'.size = len * i.size := by have := hosr.1; simp at this; omega
        have hsize : (os' ++ ns' ++ rest).size = m * i.size := by
          simp only [Array.size_append, hns, hrs, hzs, hoss]
          rw [← Nat.add_mul, ← Nat.add_mul]; congr 1; omega
        have hcat := hosr.append hrel
        obtain ⟨s2, e2⟩ := mkb_alloc s1 (c := os ++ ns) (e := e) (c' := os' ++ ns' ++ rest) (es := i.size) (by rw [hsize, List.length_append, hlen, hosl, ← Nat.add_mul]; exact Nat.mul_le_mul_right _ hm) (fun k hk => by
          have := hcat.2 k hk
          have hk' : k < (os' ++ ns').size := by rw [List.length_append] at hk; simp only [Array.size_append]; omega
          rw [hh0]
          have e3 : (os' ++ ns' ++ rest).getD k undef = (os'.toList ++ ns'.toList).getD k undef := by
            simp only [Array.getD_eq_getD_getElem?, List.getD]
            rw [Array.getElem?_append_left hk', ← Array.toList_append, Array.getElem?_toList]
          rw [e3]; exact this) (by simp [hi])
        refine ⟨_, _, _, _, _, hK, hrun, ?_, s2, (e0.trans e1).trans e2⟩
        have := newLoose (h := h0) (ρ := ρ) (B := mkb (os ++ ns) e) (w := { w with drawn := w.drawn + 1 }) (len := len + n) hm hsize
        rw [hh0] at this
        rw [hh0]
        simpa using this
      have reads : ∀ (c : List Value) (e2 : TypeId) (ro : Bool), view h b = some (c, e2, ro) → o + len * i.size ≤ c.length →
          (∃ os' : Array Value, (∀ W : World, W.heap = w.heap → (Builtin.firstCells i.size len (.slice (some ⟨(ρ b).blk, o, none⟩) len cap')).run P W = .ok os' W) ∧ LRel h.length ρ ((c.drop o).take (len * i.size)) os'.toList) := by
        intro c e2 ro hvw hle
        obtain ⟨vs, hrun, hvsz, hvr⟩ := run_loadCells s hvw hle
        refine ⟨vs, fun W hW => by simpa [Builtin.firstCells] using hrun W hW, by simp [hvsz]; omega, fun k hk => ?_⟩
        have := hvr k (by simp at hk; omega)
        simpa [List.getD, Array.getD_eq_getD_getElem?] using this
      rcases hsp with rfl | rfl
      · -- exact
        obtain ⟨c, e2, ro, hvw, hle, hK⟩ := cellsK_view hK
        exact grow h _ rfl s (.refl _ _ _) (reads c e2 ro hvw hle) (by simp; omega) (by rw [hex rfl]; omega) hK
      · -- loose
        obtain ⟨rfl, h1, hlive, hK⟩ := hK
        obtain ⟨c, e2, ro, hvw, hle, hK⟩ := cellsK_view hK
        rw [hvw] at hlive
        cases ro with
        | true => exact hlive.elim
        | false =>
          obtain rfl : e2 = e := hlive
          by_cases hroom' : cap' < len + n
          · obtain ⟨sk, ek⟩ := s.kill (i := b)
            exact grow _ _ (by simp) sk ek (reads c e2 false hvw hle) (by simp; omega) hroom' hK
          · -- the model has room
            obtain ⟨c', fr, hc', hcsz, hcle, hcr, hw⟩ := s.cells b c e2 false hvw
            obtain ⟨rfl, hes⟩ := hw rfl
            have hes' : (ρ b).es = i.size := by simpa [hi] using hes.symm
            have htot := hlo' (by simp) rfl
            rw [hes'] at htot
            have hl' : len * i.size + ns'.toList.length ≤ c'.size := by
              rw [hcsz, ← htot]
              simp only [Array.length_toList, hns, Nat.zero_add]
              rw [← Nat.add_mul]; exact Nat.mul_le_mul_right _ (by omega)
            have h1' : ∀ v ∈ ns'.toList, v.oneCell' = true := fun v' hm => by obtain ⟨v, hv, hr⟩ := hrel.of_mem hm; exact hr.one' (List.all_eq_true.1 h1 v hv)
            have hrun := run_storeCells_at P (ρ b).blk (len * i.size) e2 ns'.toList 0 c' w hc' (by simpa using hl') h1'
            rw [setRow_eq hc'] at hrun
            have hspl : (splice c'.toList (len * i.size) ns'.toList).length = c'.toList.length := splice_length (by simpa using hl')
            have hosl : ((c.drop 0).take (len * i.size)).length = len * i.size := by simp at hle ⊢; omega
            obtain ⟨s2, e2'⟩ := dead_snoc s (os := (c.drop 0).take (len * i.size)) (ns := ns) (c1' := (splice c'.toList (len * i.size) ns'.toList).toArray) hvw hc' rfl (by simpa using hspl)
              (by rw [List.length_append, hosl]; have := hrel.1; simp at this hl' hspl ⊢; omega) (fun k hk => by
                rw [List.length_append, hosl] at hk
                have e3 : (splice c'.toList (len * i.size) ns'.toList).toArray.getD k undef = (splice c'.toList (len * i.size) ns'.toList).getD k undef := by simp [Array.getD_eq_getD_getElem?, List.getD]
                rw [e3, splice_getD (by simpa using hl')]
                by_cases g1 : k < len * i.size
                · rw [if_pos g1]
                  have := hcr k (by simp at hle; omega)
                  have e4 : ((c.drop 0).take (len * i.size) ++ ns).getD k undef = c.getD k undef := by
                    simp only [List.getD]
                    rw [List.getElem?_append_left (by omega)]
                    simp [List.getElem?_take, g1]
                  rw [e4]
                  simpa [List.getD, Array.getD_eq_getD_getElem?] using this
                · rw [if_neg g1, if_pos (by rw [← hrel.1]; omega)]
                  have e4 : ((c.drop 0).take (len * i.size) ++ ns).getD k undef = ns.getD (k - len * i.size) undef := by
                    simp only [List.getD]
                    rw [List.getElem?_append_right (by omega), hosl]
                  rw [e4]
                  exact hrel.2 _ (by omega))
            refine ⟨_, .slice (some ⟨(ρ b).blk, 0, none⟩) (len + n) cap', _, _, _, hK, run_append_in ht ht2 hi (hlo w) (hfc w rfl) (by omega) (by rw [addr_add]; simpa [splice] using hrun), ?_, s2, e2'⟩
            have := VRel.loose (n := (h.set b .dead ++ [mkb ((c.drop 0).take (len * i.size) ++ ns) e2]).length) (ρ := Loc.upd ρ h.length (ρ b)) (b := h.length) (o := 0) (len := len + n) (cap := len + n) (cap' := cap') (by simp) (by omega)
              (fun _ => by rw [Loc.upd_same, hes']; exact htot)
            rwa [Loc.upd_same] at this
  · exact hK.elim
end Go.Am
