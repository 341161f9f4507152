/-
  The abstract machine, part W: slices of pairs of ints that a run owns.
-/
import Derived.Test.YtemmcfeekpblkaaDoorAmV
set_option linter.all false
namespace Go.Am

theorem flatP_app (a b : List (Int × Int)) : flatP (a ++ b) = flatP a ++ flatP b := List.flatMap_append
/-- The slice v of pairs lies in a block of its own, from its beginning on. -/
def OwnP (e : TypeId) (h : Heap) (v : Value) (ps : List (Int × Int)) : Prop :=
  (v = .slice none 0 0 ∧ ps = []) ∨ ∃ (b : Nat) (ys : List (Int × Int)), v = .slice (some ⟨b, 0, some 0⟩) ps.length (ps.length + ys.length) ∧ h[b]? = some (.ints (flatP ps ++ flatP ys) e false)
section
variable {P : Program} {e : TypeId} {h : Heap} {v : Value} {ps : List (Int × Int)}
theorem OwnP.pair (ho : OwnP e h v ps) : PairSl h v ps := by
  rcases ho with ⟨rfl, rfl⟩ | ⟨b, ys, rfl, hb⟩
  · exact .inl ⟨rfl, rfl⟩
  · refine .inr ⟨b, 0, some 0, _, (flatP ps ++ flatP ys).map vint, e, false, rfl, by omega, by simp [view, hb, Blk.view], fun i hi => ?_⟩
    obtain ⟨h1, h2⟩ := flatP_get ps i hi
    have l1 := (List.getElem?_eq_some_iff.1 h1).1
    have l2 := (List.getElem?_eq_some_iff.1 h2).1
    rw [Nat.zero_add, List.getElem?_map, List.getElem?_map, List.getElem?_append_left l1, List.getElem?_append_left l2, h1, h2]
    exact ⟨rfl, rfl⟩
theorem OwnP.same {h' : Heap} (ho : OwnP e h v ps) (hb : ∀ b, blkOf v = some b → h'[b]? = h[b]?) : OwnP e h' v ps := by
  rcases ho with ho | ⟨b, ys, rfl, hb'⟩
  · exact .inl ho
  · exact .inr ⟨b, ys, rfl, by rw [hb b rfl]; exact hb'⟩
theorem OwnP.lt (ho : OwnP e h v ps) {b : Nat} (hb : blkOf v = some b) : b < h.length := ho.pair.lt hb
theorem OwnP.ext {h' : Heap} (ho : OwnP e h v ps) (he : Ext (fun _ => False) h h') : OwnP e h' v ps := ho.same fun b hb => he.2 b (ho.lt hb) id
theorem OwnP.append {x y : Int} {t t2 : TypeId} {b2 c2 : Nat} {c : Bool} (ho : OwnP e h v ps) (hT : appT P t t2 = some (e, 2, 16)) (hn : ps.length < 1099511627776) (hb2 : h[b2]? = some (.ints [x, y] e c)) {K : Value → Heap → Prop}
    (hk : ∀ v' h', OwnP e h' v' (ps ++ [(x, y)]) → Ext (fun i => blkOf v = some i) h h' → (blkOf v' = blkOf v ∨ ∃ b, blkOf v' = some b ∧ h.length ≤ b) → K v' h') :
    appendK P h t t2 v (.slice (some ⟨b2, 0, none⟩) 1 c2) K := by
  simp only [appendK, hT, elemsK, cellsK, hb2]
  refine ⟨fun h => by omega, fun _ => ⟨by simp, ?_⟩⟩
  have hi : intsOf (List.map vint (List.take (1 * 2) (List.drop 0 [x, y]))) = some [x, y] := rfl
  have hf : flatP (ps ++ [(x, y)]) = flatP ps ++ [x, y] := by rw [flatP_app]; rfl
  rcases ho with ⟨rfl, rfl⟩ | ⟨b, ys, rfl, hb⟩
  · simp only [putK]
    refine ⟨fun h => by omega, fun _ => ⟨by omega, hk _ _ (.inr ⟨h.length, [], rfl, ?_⟩) (Ext.app _ _ _) (.inr ⟨_, rfl, Nat.le_refl _⟩)⟩⟩
    rw [List.getElem?_append_right (Nat.le_refl _)]
    simp [mkb, intsOf, flatP]
  · simp only [putK, hb, hi]
    refine ⟨fun hroom => ⟨fun h => by omega, fun _ => ⟨rfl, ?_, ?_⟩⟩, fun hroom => ⟨by omega, trivial, rfl, by simp [view, hb, Blk.view], ?_⟩⟩
    · have h1 := flatP_len ps
      have h2 := flatP_len ys
      simp only [List.length_append, List.length_cons, List.length_nil]; omega
    · cases ys with
      | nil => simp only [List.length_nil] at hroom; omega
      | cons p ys =>
        refine hk _ _ (.inr ⟨b, ys, by simp; omega, ?_⟩) (Ext.set _ rfl) (.inl rfl)
        rw [List.getElem?_set_self (List.getElem?_eq_some_iff.1 hb).1, hf]
        have h1 := flatP_len ps
        have e1 : flatP (p :: ys) = p.1 :: p.2 :: flatP ys := rfl
        have e2 : splice (flatP ps ++ flatP (p :: ys)) (0 + ps.length * 2) [x, y] = flatP ps ++ [x, y] ++ flatP ys := by
          rw [e1, Nat.zero_add, ← h1]
          simp [splice]
        rw [e2]
    · obtain rfl : ys = [] := by cases ys with | nil => rfl | cons y ys => simp at hroom
      simp only [cellsK, hb]
      have h1 := flatP_len ps
      have e0 : flatP ([] : List (Int × Int)) = [] := rfl
      refine ⟨by simp [h1], hk _ _ (.inr ⟨h.length, [], by simp, ?_⟩) ?_ (.inr ⟨_, rfl, Nat.le_refl _⟩)⟩
      · rw [List.getElem?_append_right (by simp)]
        have : intsOf (List.map vint (List.take (ps.length * 2) (List.drop 0 (flatP ps ++ flatP []))) ++ List.map vint (List.take (1 * 2) (List.drop 0 [x, y]))) = some (flatP ps ++ [x, y]) := by
          rw [← List.map_append, e0]; simp only [List.drop_zero, List.append_nil, ← h1, List.take_length]; exact intsOf_map' _
        rw [e0, List.append_nil] at this
        simp only [mkb, e0, List.append_nil, this, List.length_set, Nat.sub_self, List.getElem?_cons_zero, hf]
      · exact (Ext.set (S := fun i => blkOf (.slice (some ⟨b, 0, some 0⟩) ps.length (ps.length + ([] : List (Int × Int)).length)) = some i) .dead rfl).trans (Ext.app _ _ _)
end
end Go.Am
