/-
  The abstract machine, part Z: slices of triples of ints.
-/
import Derived.Test.YtemmcfeekpblkaaDoorAmY
set_option linter.all false
namespace Go.Am

abbrev T3 := Int × Int × Int
def t0 : T3 := (0, 0, 0)
/-- A triple as a value. -/
def tV (t : T3) : Value := .agg #[vint t.1, vint t.2.1, vint t.2.2]
/-- A slice of triples of ints, wherever it lies. -/
def TripSl (h : Heap) (v : Value) (ts : List T3) : Prop :=
  (v = .slice none 0 0 ∧ ts = []) ∨ ∃ b o sp cap c e ro, v = .slice (some ⟨b, o, sp⟩) ts.length cap ∧ ts.length ≤ cap ∧ view h b = some (c, e, ro) ∧
    ∀ i, i < ts.length → c[o + i * 3]? = some (vint (ts.getD i t0).1) ∧ c[o + i * 3 + 1]? = some (vint (ts.getD i t0).2.1) ∧ c[o + i * 3 + 2]? = some (vint (ts.getD i t0).2.2)

section
variable {P : Program} {h : Heap} {v : Value} {ts : List T3}
theorem TripSl.len (hv : TripSl h v ts) (K : Value → Prop) : lenK v K = K (vint ts.length) := by
  rcases hv with ⟨rfl, rfl⟩ | ⟨b, o, sp, cap, c, e, ro, rfl, _⟩ <;> rfl
theorem TripSl.idx (hv : TripSl h v ts) {t e : TypeId} (he : elemOf' P t = some e) (hs : esz P e = some 3) {k : IntKind} {i : Nat} (hi : i < ts.length) (K : Value → Prop) : idxAddrK P t v (.int k i) K = K (elemP v 3 i) := by
  rcases hv with ⟨rfl, rfl⟩ | ⟨b, o, sp, cap, c, e', ro, rfl, _⟩
  · simp at hi
  · simp only [idxAddrK, he, hs, elemP, Int.toNat_natCast, eq_iff_iff]
    exact ⟨fun h => h.2.2, fun h => ⟨by omega, by omega, h⟩⟩
theorem take_three {c : List Value} {o : Nat} {x y z : Value} (hx : c[o]? = some x) (hy : c[o + 1]? = some y) (hz : c[o + 2]? = some z) : (c.drop o).take 3 = [x, y, z] ∧ o + 3 ≤ c.length := by
  obtain ⟨h1, rfl⟩ := List.getElem?_eq_some_iff.1 hx
  obtain ⟨h2, rfl⟩ := List.getElem?_eq_some_iff.1 hy
  obtain ⟨h3, rfl⟩ := List.getElem?_eq_some_iff.1 hz
  refine ⟨?_, by omega⟩
  rw [List.drop_eq_getElem_cons h1, List.drop_eq_getElem_cons h2, List.drop_eq_getElem_cons h3]; rfl
theorem TripSl.load (hv : TripSl h v ts) {t : TypeId} (hs : shp P t = some (some 3)) {i : Nat} (hi : i < ts.length) (K : Value → Prop) : loadK P h t (elemP v 3 i) K = K (tV (ts.getD i t0)) := by
  rcases hv with ⟨rfl, rfl⟩ | ⟨b, o, sp, cap, c, e', ro, rfl, _, hvw, hc⟩
  · simp at hi
  · obtain ⟨h1, h2, h2'⟩ := hc i hi
    obtain ⟨h3, h4⟩ := take_three h1 h2 h2'
    simp only [elemP, loadK, hs, view_cells hvw, h3, h4, true_and, tV]
theorem TripSl.same {h' : Heap} (hv : TripSl h v ts) (hb : ∀ b, blkOf v = some b → h'[b]? = h[b]?) : TripSl h' v ts := by
  rcases hv with ⟨rfl, rfl⟩ | ⟨b, o, sp, cap, c, e, ro, rfl, hc, hw, hx⟩
  · exact .inl ⟨rfl, rfl⟩
  · exact .inr ⟨b, o, sp, cap, c, e, ro, rfl, hc, by rw [← hw]; simp only [view, hb b rfl], hx⟩
theorem TripSl.lt (hv : TripSl h v ts) {b : Nat} (hb : blkOf v = some b) : b < h.length := by
  rcases hv with ⟨rfl, rfl⟩ | ⟨b', o, sp, cap, c, e, ro, rfl, hc, hw, hx⟩
  · cases hb
  · cases hb; exact view_lt hw
theorem TripSl.ext {h' : Heap} (hv : TripSl h v ts) (he : Ext (fun _ => False) h h') : TripSl h' v ts := hv.same fun b hb => he.2 b (hv.lt hb) id
end

/-- The cells of triples. -/
def flatT (ts : List T3) : List Int := ts.flatMap fun t => [t.1, t.2.1, t.2.2]
theorem flatT_len : ∀ ts : List T3, (flatT ts).length = ts.length * 3
  | [] => rfl
  | t :: ts => by
    have := flatT_len ts
    simp only [flatT, List.flatMap_cons, List.length_append, List.length_cons, List.length_nil] at this ⊢; omega
theorem flatT_get : ∀ (ts : List T3) (i : Nat), i < ts.length → (flatT ts)[i * 3]? = some (ts.getD i t0).1 ∧ (flatT ts)[i * 3 + 1]? = some (ts.getD i t0).2.1 ∧ (flatT ts)[i * 3 + 2]? = some (ts.getD i t0).2.2
  | [], _, h => by simp at h
  | t :: ts, 0, _ => ⟨rfl, rfl, rfl⟩
  | t :: ts, i + 1, h => by
    have := flatT_get ts i (by simpa using h)
    have e1 : (i + 1) * 3 = i * 3 + 3 := by omega
    have e2 : flatT (t :: ts) = t.1 :: t.2.1 :: t.2.2 :: flatT ts := rfl
    rw [e1, e2]
    simpa [List.getD] using this
theorem flatT_app (a b : List T3) : flatT (a ++ b) = flatT a ++ flatT b := List.flatMap_append
/-- The slice v of triples lies in a block of its own, from its beginning on. -/
def OwnT (e : TypeId) (h : Heap) (v : Value) (ts : List T3) : Prop :=
  (v = .slice none 0 0 ∧ ts = []) ∨ ∃ (b : Nat) (ys : List T3), v = .slice (some ⟨b, 0, some 0⟩) ts.length (ts.length + ys.length) ∧ h[b]? = some (.ints (flatT ts ++ flatT ys) e false)
section
variable {P : Program} {e : TypeId} {h : Heap} {v : Value} {ts : List T3}
theorem OwnT.trip (ho : OwnT e h v ts) : TripSl h v ts := by
  rcases ho with ⟨rfl, rfl⟩ | ⟨b, ys, rfl, hb⟩
  · exact .inl ⟨rfl, rfl⟩
  · refine .inr ⟨b, 0, some 0, _, (flatT ts ++ flatT ys).map vint, e, false, rfl, by omega, by simp [view, hb, Blk.view], fun i hi => ?_⟩
    obtain ⟨h1, h2, h3⟩ := flatT_get ts i hi
    have l1 := (List.getElem?_eq_some_iff.1 h1).1
    have l2 := (List.getElem?_eq_some_iff.1 h2).1
    have l3 := (List.getElem?_eq_some_iff.1 h3).1
    rw [Nat.zero_add, List.getElem?_map, List.getElem?_map, List.getElem?_map, List.getElem?_append_left l1, List.getElem?_append_left l2, List.getElem?_append_left l3, h1, h2, h3]
    exact ⟨rfl, rfl, rfl⟩
theorem OwnT.same {h' : Heap} (ho : OwnT e h v ts) (hb : ∀ b, blkOf v = some b → h'[b]? = h[b]?) : OwnT e h' v ts := by
  rcases ho with ho | ⟨b, ys, rfl, hb'⟩
  · exact .inl ho
  · exact .inr ⟨b, ys, rfl, by rw [hb b rfl]; exact hb'⟩
theorem OwnT.lt (ho : OwnT e h v ts) {b : Nat} (hb : blkOf v = some b) : b < h.length := ho.trip.lt hb
theorem OwnT.ext {h' : Heap} (ho : OwnT e h v ts) (he : Ext (fun _ => False) h h') : OwnT e h' v ts := ho.same fun b hb => he.2 b (ho.lt hb) id
theorem OwnT.one (ho : OwnT e h v ts) : one v = true := by
  rcases ho with ⟨rfl, _⟩ | ⟨b, ys, rfl, _⟩ <;> rfl
theorem OwnT.ints (ho : OwnT e h v ts) {b : Nat} (hb : blkOf v = some b) : ∃ ys, h[b]? = some (.ints ys e false) := by
  rcases ho with ⟨rfl, rfl⟩ | ⟨b', ys, rfl, hb'⟩
  · cases hb
  · cases hb; exact ⟨_, hb'⟩
theorem OwnT.append {x y z : Int} {t t2 : TypeId} {b2 c2 : Nat} {c : Bool} (ho : OwnT e h v ts) (hT : appT P t t2 = some (e, 3, 24)) (hn : ts.length < 1099511627776) (hb2 : h[b2]? = some (.ints [x, y, z] e c)) {K : Value → Heap → Prop}
    (hk : ∀ v' h', OwnT e h' v' (ts ++ [(x, y, z)]) → Ext (fun i => blkOf v = some i) h h' → (blkOf v' = blkOf v ∨ ∃ b, blkOf v' = some b ∧ h.length ≤ b) → K v' h') :
    appendK P h t t2 v (.slice (some ⟨b2, 0, none⟩) 1 c2) K := by
  simp only [appendK, hT, elemsK, cellsK, hb2]
  refine ⟨fun h => by omega, fun _ => ⟨by simp, ?_⟩⟩
  have hi : intsOf (List.map vint (List.take (1 * 3) (List.drop 0 [x, y, z]))) = some [x, y, z] := rfl
  have hf : flatT (ts ++ [(x, y, z)]) = flatT ts ++ [x, y, z] := by rw [flatT_app]; rfl
  rcases ho with ⟨rfl, rfl⟩ | ⟨b, ys, rfl, hb⟩
  · simp only [putK]
    refine ⟨fun h => by omega, fun _ => ⟨by omega, hk _ _ (.inr ⟨h.length, [], rfl, ?_⟩) (Ext.app _ _ _) (.inr ⟨_, rfl, Nat.le_refl _⟩)⟩⟩
    rw [List.getElem?_append_right (Nat.le_refl _)]
    simp [mkb, intsOf, flatT]
  · simp only [putK, hb, hi]
    refine ⟨fun hroom => ⟨fun h => by omega, fun _ => ⟨rfl, ?_, ?_⟩⟩, fun hroom => ⟨by omega, trivial, rfl, by simp [view, hb, Blk.view], ?_⟩⟩
    · have h1 := flatT_len ts
      have h2 := flatT_len ys
      simp only [List.length_append, List.length_cons, List.length_nil]; omega
    · cases ys with
      | nil => simp only [List.length_nil] at hroom; omega
      | cons p ys =>
        refine hk _ _ (.inr ⟨b, ys, by simp; omega, ?_⟩) (Ext.set _ rfl) (.inl rfl)
        rw [List.getElem?_set_self (List.getElem?_eq_some_iff.1 hb).1, hf]
        have h1 := flatT_len ts
        have e1 : flatT (p :: ys) = p.1 :: p.2.1 :: p.2.2 :: flatT ys := rfl
        have e2 : splice (flatT ts ++ flatT (p :: ys)) (0 + ts.length * 3) [x, y, z] = flatT ts ++ [x, y, z] ++ flatT ys := by
          rw [e1, Nat.zero_add, ← h1]
          simp [splice]
        rw [e2]
    · obtain rfl : ys = [] := by cases ys with | nil => rfl | cons y ys => simp at hroom
      simp only [cellsK, hb]
      have h1 := flatT_len ts
      have e0 : flatT ([] : List T3) = [] := rfl
      refine ⟨by simp [h1], hk _ _ (.inr ⟨h.length, [], by simp, ?_⟩) ?_ (.inr ⟨_, rfl, Nat.le_refl _⟩)⟩
      · rw [List.getElem?_append_right (by simp)]
        have : intsOf (List.map vint (List.take (ts.length * 3) (List.drop 0 (flatT ts ++ flatT []))) ++ List.map vint (List.take (1 * 3) (List.drop 0 [x, y, z]))) = some (flatT ts ++ [x, y, z]) := by
          rw [← List.map_append, e0]; simp only [List.drop_zero, List.append_nil, ← h1, List.take_length]; exact intsOf_map' _
        rw [e0, List.append_nil] at this
        simp only [mkb, e0, List.append_nil, this, List.length_set, Nat.sub_self, List.getElem?_cons_zero, hf]
      · exact (Ext.set (S := fun i => blkOf (.slice (some ⟨b, 0, some 0⟩) ts.length (ts.length + ([] : List T3).length)) = some i) .dead rfl).trans (Ext.app _ _ _)
/-- A slice written down, of one triple. -/
theorem litT {x y z : Int} {t : TypeId} (he : elemOf' P t = some e) (hz : zeroOf P e = some [.int .i64 0, .int .i64 0, .int .i64 0]) (hs : esz P e = some 3) (K : Value → Heap → Prop) :
    buildSliceK P h t 1 [(0, .agg #[vint x, vint y, vint z])] K = K (.slice (some ⟨h.length, 0, none⟩) 1 1) (h ++ [.ints [x, y, z] e false]) := by
  have e1 : fillL (fun i => some (i * 3, 3)) (reps [.int .i64 0, .int .i64 0, .int .i64 0] 1) [(0, .agg #[vint x, vint y, vint z])] = some [vint x, vint y, vint z] := by
    simp [fillL, notTuple, cellsOf, reps, splice]
  have e2 : mkb [vint x, vint y, vint z] e = .ints [x, y, z] e false := rfl
  simp only [buildSliceK, he, hz, hs, e1, e2]
  exact propext ⟨fun h => h.2.2.2, fun h => ⟨rfl, by decide, by decide, h⟩⟩
end
end Go.Am
