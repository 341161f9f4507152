/-
  The abstract machine, part Q: slices of ints that a run owns: appended to, cut short.
-/
import Derived.Test.YtemmcfeekpblkaaDoorAmP
set_option linter.all false
namespace Go.Am

/-- The slice v of ints lies in a block of its own, from its beginning on. -/
def OwnSl (e : TypeId) (h : Heap) (v : Value) (xs : List Int) : Prop :=
  (v = .slice none 0 0 ∧ xs = []) ∨ ∃ (b : Nat) (ys : List Int), v = .slice (some ⟨b, 0, some 0⟩) xs.length (xs.length + ys.length) ∧ h[b]? = some (.ints (xs ++ ys) e false)

/-- The block of a slice. -/
def blkOf : Value → Option Nat
  | .slice (some ⟨b, _, _⟩) _ _ => some b
  | _ => none

/-- Of h nothing has turned but what S names; and there may be more. -/
def Ext (S : Nat → Prop) (h h' : Heap) : Prop := h.length ≤ h'.length ∧ ∀ i, i < h.length → ¬ S i → h'[i]? = h[i]?
theorem Ext.refl (S : Nat → Prop) (h : Heap) : Ext S h h := ⟨Nat.le_refl _, fun _ _ _ => rfl⟩
theorem Ext.trans {S : Nat → Prop} {a b c : Heap} (h1 : Ext S a b) (h2 : Ext S b c) : Ext S a c :=
  ⟨Nat.le_trans h1.1 h2.1, fun i hi hs => (h2.2 i (Nat.lt_of_lt_of_le hi h1.1) hs).trans (h1.2 i hi hs)⟩
theorem Ext.mono {S T : Nat → Prop} {a b : Heap} (h1 : Ext S a b) (hs : ∀ i, S i → T i) : Ext T a b := ⟨h1.1, fun i hi hn => h1.2 i hi (fun h => hn (hs i h))⟩
theorem Ext.app (S : Nat → Prop) (h g : Heap) : Ext S h (h ++ g) := ⟨by simp, fun i hi _ => by rw [List.getElem?_append_left hi]⟩
theorem Ext.set {S : Nat → Prop} {h : Heap} {b : Nat} (B : Blk) (hb : S b) : Ext S h (h.set b B) := ⟨by simp, fun i _ hs => by
  rw [List.getElem?_set_ne]; rintro rfl; exact hs hb⟩

theorem intsOf_map' : ∀ xs : List Int, intsOf (xs.map vint) = some xs
  | [] => rfl
  | x :: xs => by simp [intsOf, intsOf_map' xs]
section
variable {P : Program} {h : Heap} {v : Value} {xs : List Int} {e : TypeId}
theorem OwnSl.int (ho : OwnSl e h v xs) : IntSl h v xs := by
  rcases ho with ⟨rfl, rfl⟩ | ⟨b, ys, rfl, hb⟩
  · exact .inl ⟨rfl, rfl⟩
  · refine .inr ⟨b, 0, some 0, _, (xs ++ ys).map vint, e, false, rfl, by omega, by simp [view, hb, Blk.view], fun i hi => ?_⟩
    rw [List.map_append, Nat.zero_add, List.getElem?_append_left (by simpa using hi)]
    simp [List.getElem?_eq_getElem hi, List.getD]
theorem OwnSl.ext {S : Nat → Prop} {h' : Heap} (ho : OwnSl e h v xs) (hx : Ext S h h') (hs : ∀ b, blkOf v = some b → ¬ S b) : OwnSl e h' v xs := by
  rcases ho with ⟨rfl, rfl⟩ | ⟨b, ys, rfl, hb⟩
  · exact .inl ⟨rfl, rfl⟩
  · exact .inr ⟨b, ys, rfl, (hx.2 b (List.getElem?_eq_some_iff.1 hb).1 (hs b rfl)).trans hb⟩
theorem OwnSl.lt (ho : OwnSl e h v xs) {b : Nat} (hb : blkOf v = some b) : b < h.length := by
  rcases ho with ⟨rfl, rfl⟩ | ⟨b', ys, rfl, hb'⟩
  · cases hb
  · cases hb; exact (List.getElem?_eq_some_iff.1 hb').1
/-- A slice cut short by one. -/
theorem OwnSl.cut {x : Int} {t : TypeId} (ho : OwnSl e h v (xs ++ [x])) (he : elemOf' P t = some e) (hs : esz P e = some 1) {K : Value → Prop} (hk : ∀ v', OwnSl e h v' xs → blkOf v' = blkOf v → K v') : sliceK P t v none (some (vint xs.length)) none K := by
  rcases ho with ⟨rfl, h2⟩ | ⟨b, ys, rfl, hb⟩
  · simp at h2
  · simp only [sliceK, he, hs, bnd, List.length_append, List.length_singleton]
    refine ⟨by omega, by omega, by omega, fun h => (by cases h), fun _ => .inl ⟨rfl, hk _ (.inr ⟨b, x :: ys, by simp; omega, by rw [hb]; simp⟩) rfl⟩⟩
/-- One more. -/
theorem OwnSl.append {x : Int} {t t2 : TypeId} {b2 c2 : Nat} {c : Bool} (ho : OwnSl e h v xs) (hT : appT P t t2 = some (e, 1, 8)) (hn : xs.length < 1099511627776) (hb2 : h[b2]? = some (.ints [x] e c)) {K : Value → Heap → Prop}
    (hk : ∀ v' h', OwnSl e h' v' (xs ++ [x]) → Ext (fun i => blkOf v = some i) h h' → (blkOf v' = blkOf v ∨ ∃ b, blkOf v' = some b ∧ h.length ≤ b) → K v' h') :
    appendK P h t t2 v (.slice (some ⟨b2, 0, none⟩) 1 c2) K := by
  simp only [appendK, hT, elemsK, cellsK, hb2]
  refine ⟨fun h => by omega, fun _ => ⟨by simp, ?_⟩⟩
  have hi : intsOf (List.map vint (List.take (1 * 1) (List.drop 0 [x]))) = some [x] := rfl
  rcases ho with ⟨rfl, rfl⟩ | ⟨b, ys, rfl, hb⟩
  · simp only [putK]
    refine ⟨fun h => by omega, fun _ => ⟨by omega, hk _ _ (.inr ⟨h.length, [], rfl, ?_⟩) (Ext.app _ _ _) (.inr ⟨_, rfl, Nat.le_refl _⟩)⟩⟩
    rw [List.getElem?_append_right (Nat.le_refl _)]
    simp [mkb, intsOf]
  · simp only [putK, hb, hi]
    refine ⟨fun hroom => ⟨fun h => by omega, fun _ => ⟨rfl, by simp; omega, ?_⟩⟩, fun hroom => ⟨by omega, trivial, rfl, by simp [view, hb, Blk.view], ?_⟩⟩
    · cases ys with
      | nil => simp only [List.length_nil] at hroom; omega
      | cons y ys =>
        refine hk _ _ (.inr ⟨b, ys, by simp; omega, ?_⟩) (Ext.set _ rfl) (.inl rfl)
        rw [List.getElem?_set_self (List.getElem?_eq_some_iff.1 hb).1]
        simp [splice]
    · obtain rfl : ys = [] := by cases ys with | nil => rfl | cons y ys => simp at hroom
      simp only [cellsK, hb]
      refine ⟨by simp, hk _ _ (.inr ⟨h.length, [], by simp, ?_⟩) ?_ (.inr ⟨_, rfl, Nat.le_refl _⟩)⟩
      · rw [List.getElem?_append_right (by simp)]
        have : intsOf (List.map vint (List.take (xs.length * 1) (List.drop 0 (xs ++ []))) ++ List.map vint (List.take (1 * 1) (List.drop 0 [x]))) = some (xs ++ [x]) := by
          rw [← List.map_append]; simp only [List.drop_zero, List.append_nil, Nat.mul_one, List.take_length]; exact intsOf_map' _
        simp only [List.append_nil] at this
        simp only [mkb, List.length_set, Nat.sub_self, List.getElem?_cons_zero, List.append_nil, this]
      · exact (Ext.set (S := fun i => blkOf (.slice (some ⟨b, 0, some 0⟩) xs.length (xs.length + ([] : List Int).length)) = some i) .dead rfl).trans (Ext.app _ _ _)
/-- The beginning of a slice. -/
theorem IntSl.pre {t : TypeId} {m : Nat} (hv : IntSl h v xs) (he : elemOf' P t = some e) (hs : esz P e = some 1) (hm : m ≤ xs.length) {K : Value → Prop} (hk : ∀ v', IntSl h v' (xs.take m) → K v') : sliceK P t v none (some (vint m)) none K := by
  have hl : (xs.take m).length = m := by simp; omega
  rcases hv with ⟨rfl, rfl⟩ | ⟨b, o, sp, cap, c, e', ro, rfl, hc, hb, hx⟩
  · simp only [List.length_nil, Nat.le_zero_eq] at hm
    subst hm
    simp only [sliceK, he, hs, bnd, Option.bind_some, Option.isSome_some]
    exact ⟨trivial, rfl, rfl, rfl, hk _ (.inl ⟨rfl, rfl⟩)⟩
  · simp only [sliceK, he, hs, bnd]
    have hx' : ∀ i, i < (xs.take m).length → c[o + i]? = some (vint ((xs.take m).getD i 0)) := fun i hi => by
      rw [hl] at hi
      rw [hx i (by omega)]; simp [List.getD, List.getElem?_take, hi]
    refine ⟨by omega, by omega, by omega, fun _ => hk _ (.inr ⟨b, o, none, cap, c, e', ro, ?_, by rw [hl]; omega, hb, hx'⟩), fun _ => .inl ⟨rfl, hk _ (.inr ⟨b, o, some 0, cap, c, e', ro, ?_, by rw [hl]; omega, hb, hx'⟩)⟩⟩
    · rw [hl]; simp
    · rw [hl]; simp
theorem IntSl.cells (hv : IntSl h v xs) (hn : xs ≠ []) (b o : Nat) (sp : Option Nat) (l cap : Nat) (he : v = .slice (some ⟨b, o, sp⟩) l cap) {K : List Value → Prop} (hk : K (xs.map vint)) : cellsK h b o (xs.length * 1) K := by
  rcases hv with ⟨rfl, rfl⟩ | ⟨b', o', sp', cap', c, e', ro, rfl, hc, hb, hx⟩
  · cases he
  · cases he
    have hpos : 0 < xs.length := List.length_pos_iff.2 hn
    have hlen : o + xs.length ≤ c.length := by
      have := (List.getElem?_eq_some_iff.1 (hx (xs.length - 1) (by omega))).1
      omega
    have hc : (c.drop o).take xs.length = xs.map vint := by
      apply List.ext_getElem?
      intro k
      by_cases hk : k < xs.length
      · rw [List.getElem?_take_of_lt hk, List.getElem?_drop, hx k hk]; simp [List.getD, hk]
      · rw [List.getElem?_eq_none (by simp; omega), List.getElem?_eq_none (by simp; omega)]
    unfold view at hb
    unfold cellsK
    cases hB : h[b]? with
    | none => simp [hB] at hb
    | some B =>
      rw [hB] at hb
      cases B with
      | cells c2 e2 ro2 => simp [Blk.view] at hb; obtain ⟨rfl, rfl, rfl⟩ := hb; simp only [Nat.mul_one]; exact ⟨hlen, by rw [hc]; exact hk⟩
      | ints ys e2 ro2 =>
        simp [Blk.view] at hb
        obtain ⟨rfl, rfl, rfl⟩ := hb
        simp only [List.length_map] at hlen
        simp only [Nat.mul_one]
        refine ⟨hlen, ?_⟩
        rw [List.map_take, List.map_drop, hc]; exact hk
      | dead => simp [Blk.view] at hb
/-- All of a slice behind nothing: a copy. -/
theorem IntSl.copy {t t2 : TypeId} {b0 : Nat} (hv : IntSl h v xs) (hT : appT P t t2 = some (e, 1, 8)) (hn : xs.length < 1099511627776) (hb0 : h[b0]? = some (.ints [] e false)) {K : Value → Heap → Prop}
    (hk : ∀ r g, IntSl (h ++ g) r xs → (r = .slice none 0 0 → False) → K r (h ++ g)) : appendK P h t t2 (.slice (some ⟨b0, 0, none⟩) 0 0) v K := by
  have hz : xs = [] → K (.slice (some ⟨b0, 0, none⟩) 0 0) h := fun hx => by
    subst hx
    have := hk (.slice (some ⟨b0, 0, none⟩) 0 0) [] (.inr ⟨b0, 0, none, 0, [], e, false, rfl, Nat.le_refl _, by simp [view, hb0, Blk.view], fun i hi => by simp at hi⟩) (fun h => by cases h)
    simpa using this
  have hgo : xs ≠ [] → putK h e 1 8 (.slice (some ⟨b0, 0, none⟩) 0 0) xs.length (xs.map vint) K := fun hx => by
    have hpos : 0 < xs.length := List.length_pos_iff.2 hx
    simp only [putK]
    refine ⟨fun h => by omega, fun _ => ⟨by omega, ?_⟩⟩
    simp only [cellsK, hb0]
    refine ⟨by simp, hk _ _ (.inr ⟨h.length, 0, some 0, _, xs.map vint, e, false, by simp; rfl, by omega, ?_, fun i hi => by simp [List.getD, hi]⟩) (fun h => by cases h)⟩
    simp [view, mkb, intsOf_map', Blk.view]
  simp only [appendK, hT]
  rcases Classical.em (xs = []) with hx | hx
  · subst hx
    have hput : putK h e 1 8 (.slice (some ⟨b0, 0, none⟩) 0 0) 0 [] K := by
      simp only [putK]; exact ⟨fun _ => ⟨fun _ => hz rfl, fun h => absurd rfl h⟩, fun h => by omega⟩
    rcases hv with ⟨rfl, _⟩ | ⟨b, o, sp, cap, c, e', ro, rfl, hc, hb, _⟩
    · exact ⟨rfl, hput⟩
    · exact ⟨fun _ => hput, fun h => absurd rfl h⟩
  · rcases Classical.em (v = .slice none 0 0) with h0 | h0
    · rcases hv with ⟨_, h1⟩ | ⟨b, o, sp, cap, c, e', ro, h1, _⟩
      · exact absurd h1 hx
      · rw [h0] at h1; cases h1
    · have hv' := hv
      rcases hv with ⟨h1, _⟩ | ⟨b, o, sp, cap, c, e', ro, rfl, hc, hb, _⟩
      · exact absurd h1 h0
      · exact ⟨fun h => absurd (List.length_eq_zero_iff.1 h) hx, fun _ => hv'.cells hx b o sp _ cap rfl (hgo hx)⟩
end

section box
variable {P : Program} {h : Heap} {b : Nat} {v v' : Value} {e t : TypeId} {ro : Bool}
/-- A box is read. -/
theorem load1 (hb : h[b]? = some (.cells [v] e ro)) (hs : shp P t = some none) (K : Value → Prop) : loadK P h t (.pointer (some ⟨b, 0, none⟩)) K = K v := by
  simp only [loadK, hs, cellK, hb, List.getElem?_cons_zero]
/-- A box is written. -/
theorem store1 (hb : h[b]? = some (.cells [v] e false)) (hs : shp P t = some none) (ho : one v' = true) (K : Heap → Prop) : storeK P h t (.pointer (some ⟨b, 0, none⟩)) v' K = K (h.set b (.cells [v'] e false)) := by
  simp only [storeK, hs, hb, ho, List.length_singleton, Nat.zero_lt_one, List.set_cons_zero, true_and]
theorem get_set (hb : b < h.length) (B : Blk) : (h.set b B)[b]? = some B := List.getElem?_set_self hb
theorem get_new (h : Heap) (B : Blk) : (h ++ [B])[h.length]? = some B := by rw [List.getElem?_append_right (Nat.le_refl _)]; simp
theorem get_old {B : Blk} (hb : h[b]? = some B) (g : Heap) : (h ++ g)[b]? = some B := by
  rw [List.getElem?_append_left (List.getElem?_eq_some_iff.1 hb).1]; exact hb
theorem get_lt {B : Blk} (hb : h[b]? = some B) : b < h.length := (List.getElem?_eq_some_iff.1 hb).1
end box
end Go.Am
