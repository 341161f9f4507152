/-
  The abstract machine, part Z: slices of triples of ints.
-/
import Derived.Test.YtemmcfeekpblkaaDoorAmY
set_option linter.all false
namespace Go.Am

abbrev T3 := Int × Int × Int
def t0 : T3 := (0, 0, 0)
/-- A triple as a value. -/
def tV (t : T3) : Value := .agg #[vint t.1, vint t.2.1, vint t.2.2]
/-- A slice of triples of ints, wherever it lies. -/
def TripSl (h : Heap) (v : Value) (ts : List T3) : Prop :=
  (v = .slice none 0 0 ∧ ts = []) ∨ ∃ b o sp cap c e ro, v = .slice (some ⟨b, o, sp⟩) ts.length cap ∧ ts.length ≤ cap ∧ view h b = some (c, e, ro) ∧
    ∀ i, i < ts.length → c[o + i * 3]? = some (vint (ts.getD i t0).1) ∧ c[o + i * 3 + 1]? = some (vint (ts.getD i t0).2.1) ∧ c[o + i * 3 + 2]? = some (vint (ts.getD i t0).2.2)

section
variable {P : Program} {h : Heap} {v : Value} {ts : List T3}
theorem TripSl.len (hv : TripSl h v ts) (K : Value → Prop) : lenK v K = K (vint ts.length) := by
  rcases hv with ⟨rfl, rfl⟩ | ⟨b, o, sp, cap, c, e, ro, rfl, _⟩ <;> rfl
theorem TripSl.idx (hv : TripSl h v ts) {t e : TypeId} (he : elemOf' P t = some e) (hs : esz P e = some 3) {k : IntKind} {i : Nat} (hi : i < ts.length) (K : Value → Prop) : idxAddrK P t v (.int k i) K = K (elemP v 3 i) := by
  rcases hv with ⟨rfl, rfl⟩ | ⟨b, o, sp, cap, c, e', ro, rfl, _⟩
  · simp at hi
  · simp only [idxAddrK, he, hs, elemP, Int.toNat_natCast, eq_iff_iff]
    exact ⟨fun h => h.2.2, fun h => ⟨by omega, by omega, h⟩⟩
theorem take_three {c : List Value} {o : Nat} {x y z : Value} (hx : c[o]? = some x) (hy : c[o + 1]? = some y) (hz : c[o + 2]? = some z) : (c.drop o).take 3 = [x, y, z] ∧ o + 3 ≤ c.length := by
  obtain ⟨h1, rfl⟩ := List.getElem?_eq_some_iff.1 hx
  obtain ⟨h2, rfl⟩ := List.getElem?_eq_some_iff.1 hy
  obtain ⟨h3, rfl⟩ := List.getElem?_eq_some_iff.1 hz
  refine ⟨?_, by omega⟩
  rw [List.drop_eq_getElem_cons h1, List.drop_eq_getElem_cons h2, List.drop_eq_getElem_cons h3]; rfl
theorem TripSl.load (hv : TripSl h v ts) {t : TypeId} (hs : shp P t = some (some 3)) {i : Nat} (hi : i < ts.length) (K : Value → Prop) : loadK P h t (elemP v 3 i) K = K (tV (ts.getD i t0)) := by
  rcases hv with ⟨rfl, rfl⟩ | ⟨b, o, sp, cap, c, e', ro, rfl, _, hvw, hc⟩
  · simp at hi
  · obtain ⟨h1, h2, h2'⟩ := hc i hi
    obtain ⟨h3, h4⟩ := take_three h1 h2 h2'
    simp only [elemP, loadK, hs, view_cells hvw, h3, h4, true_and, tV]
theorem TripSl.same {h' : Heap} (hv : TripSl h v ts) (hb : ∀ b, blkOf v = some b → h'[b]? = h[b]?) : TripSl h' v ts := by
  rcases hv with ⟨rfl, rfl⟩ | ⟨b, o, sp, cap, c, e, ro, rfl, hc, hw, hx⟩
  · exact .inl ⟨rfl, rfl⟩
  · exact .inr ⟨b, o, sp, cap, c, e, ro, rfl, hc, by rw [← hw]; simp only [view, hb b rfl], hx⟩
theorem TripSl.lt (hv : TripSl h v ts) {b : Nat} (hb : blkOf v = some b) : b < h.length := by
  rcases hv with ⟨rfl, rfl⟩ | ⟨b', o, sp, cap, c, e, ro, rfl, hc, hw, hx⟩
  · cases hb
  · cases hb; exact view_lt hw
theorem TripSl.ext {h' : Heap} (hv : TripSl h v ts) (he : Ext (fun _ => False) h h') : TripSl h' v ts := hv.same fun b hb => he.2 b (hv.lt hb) id
end

/-- The cells of triples. -/
def flatT (ts : List T3) : List Int := ts.flatMap fun t => [t.1, t.2.1, t.2.2]
theorem flatT_len : ∀ ts : List T3, (flatT ts).length = ts.length * 3
  | [] => rfl
  | t :: ts => by
    have := flatT_len ts
    simp only [flatT, List.flatMap_cons, List.length_append, List.length_cons, List.length_nil] at this ⊢; omega
theorem flatT_get : ∀ (ts : List T3) (i : Nat), i < ts.length → (flatT ts)[i * 3]? = some (ts.getD i t0).1 ∧ (flatT ts)[i * 3 + 1]? = some (ts.getD i t0).2.1 ∧ (flatT ts)[i * 3 + 2]? = some (ts.getD i t0).2.2
  | [], _, h => by simp at h
  | t :: ts, 0, _ => ⟨rfl, rfl, rfl⟩
  | t :: ts, i + 1, h => by
    have := flatT_get ts i (by simpa using h)
    have e1 : (i + 1) * 3 = i * 3 + 3 := by omega
    have e2 : flatT (t :: ts) = t.1 :: t.2.1 :: t.2.2 :: flatT ts := rfl
    rw [e1, e2]
    simpa [List.getD] using this
theorem flatT_app (a b : List T3) : flatT (a ++ b) = flatT a ++ flatT b := List.flatMap_append
/-- The slice v of triples lies in a block of its own, from its beginning on. -/
def OwnT (e : TypeId) (h : Heap) (v : Value) (ts : List T3) : Prop :=
  (v = .slice none 0 0 ∧ ts = []) ∨ ∃ (b : Nat) (ys : List T3), v = .slice (some ⟨b, 0, some 0⟩) ts.length (ts.length + ys.length) ∧ h[b]? = some (.ints (flatT ts ++ flatT ys) e false)
section
variable {P : Program} {e : TypeId} {h : Heap} {v : Value} {ts : List T3}
theorem OwnT.trip (ho : OwnT e h v ts) : TripSl h v ts := by
  rcases ho with ⟨rfl, rfl⟩ | ⟨b, ys, rfl, hb⟩
  · exact .inl ⟨rfl, rfl⟩
  · refine .inr ⟨b, 0, some 0, _, (flatT ts ++ flatT ys).map vint, e, false, rfl, by omega, by simp [view, hb, Blk.view], fun i hi => ?_⟩
    obtain ⟨h1, h2, h3⟩ := flatT_get ts i hi
    have l1 := (List.getElem?_eq_some_iff.1 h1).1
    have l2 := (List.getElem?_eq_some_iff.1 h2).1
    have l3 := (List.getElem?_eq_some_iff.1 h3).1
    rw [Nat.zero_add, List.getElem?_map, List.getElem?_map, List.getElem?_map, List.getElem?_append_left l1, List.getElem?_append_left l2, List.getElem?_append_left l3, h1, h2, h3]
    exact ⟨rfl, rfl, rfl⟩
theorem OwnT.same {h' : Heap} (ho : OwnT e h v ts) (hb : ∀ b, blkOf v = some b → h'[b]? = h[b]?) : OwnT e h' v ts := by
  rcases ho with ho | ⟨b, ys, rfl, hb'⟩
  · exact .inl ho
  · exact .inr ⟨b, ys, rfl, by rw [hb b rfl]; exact hb'⟩
theorem OwnT.lt (ho : OwnT e h v ts) {b : Nat} (hb : blkOf v = some b) : b < h.length := ho.trip.lt hb
theorem OwnT.ext {h' : Heap} (ho : OwnT e h v ts) (he : Ext (fun _ => False) h h') : OwnT e h' v ts := ho.same fun b hb => he.2 b (ho.lt hb) id
theorem OwnT.one (ho : OwnT e h v ts) : one v = true := by
  rcases ho with ⟨rfl, _⟩ | ⟨b, ys, rfl, _⟩ <;> rfl
theorem OwnT.ints (ho : OwnT e h v ts) {b : Nat} (hb : blkOf v = some b) : ∃ ys, h[b]? = some (.ints ys e false) := by
  rcases ho with ⟨rfl, rfl⟩ | ⟨b', ys, rfl, hb'⟩
  · cases hb
  · cases hb; exact ⟨_, hb'⟩
theorem OwnT.append {x y z : Int} {t t2 : TypeId} {b2 c2 : Nat} {c : Bool} (ho : OwnT e h v ts) (hT : appT P t t2 = some (e, 3, 24)) (hn : ts.length < 1099511627776) (hb2 : h[b2]? = some (.ints [x, y, z] e c)) {K : Value → Heap → Prop}
    (hk : ∀ v' h', OwnT e h' v' (ts ++ [(x, y, z)]) → Ext (fun i => blkOf v = some i) h h' → (blkOf v' = blkOf v ∨ ∃ b, blkOf v' = some b ∧ h.length ≤ b) → K v' h') :
    appendK P h t t2 v (.slice (some ⟨b2, 0, none⟩) 1 c2) K := by
  simp only [appendK, hT, elemsK, cellsK, hb2]
  refine ⟨fun h => by omega, fun _ => ⟨by simp, ?_⟩⟩
  have hi : intsOf (List.map vint (List.take (1 * 3) (List.drop 0 [x, y, z]))) = some [x, y, z] := rfl
  have hf : flatT (ts ++ [(x, y, z)]) = flatT ts ++ [x, y, z] := by rw [flatT_app]; rfl
  rcases ho with ⟨rfl, rfl⟩ | ⟨b, ys, rfl, hb⟩
  · simp only [putK]
    refine ⟨fun h => by omega, fun _ => ⟨by omega, hk _ _ (.inr ⟨h.length, [], rfl, ?_⟩) (Ext.app _ _ _) (.inr ⟨_, rfl, Nat.le_refl _⟩)⟩⟩
    rw [List.getElem?_append_right (Nat.le_refl _)]
    simp [mkb, intsOf, flatT]
  · simp only [putK, hb, hi]
    refine ⟨fun hroom => ⟨fun h => by omega, fun _ => ⟨rfl, ?_, ?_⟩⟩, fun hroom => ⟨by omega, trivial, rfl, by simp [view, hb, Blk.view], ?_⟩⟩
    · have h1 := flatT_len ts
      have h2 := flatT_len ys
      simp only [List.length_append, List.length_cons, List.length_nil]; omega
    · cases ys with
      | nil => simp only [List.length_nil] at hroom; omega
      | cons p ys =>
        refine hk _ _ (.inr ⟨b, ys, by simp; omega, ?_⟩) (Ext.set _ rfl) (.inl rfl)
        rw [List.getElem?_set_self (List.getElem?_eq_some_iff.1 hb).1, hf]
        have h1 := flatT_len ts
        have e1 : flatT (p :: ys) = p.1 :: p.2.1 :: p.2.2 :: flatT ys := rfl
        have e2 : splice (flatT ts ++ flatT (p :: ys)) (0 + ts.length * 3) [x, y, z] = flatT ts ++ [x, y, z] ++ flatT ys := by
          rw [e1, Nat.zero_add, ← h1]
          simp [splice]
        rw [e2]
    · obtain rfl : ys = [] := by cases ys with | nil => rfl | cons y ys => simp at hroom
      simp only [cellsK, hb]
      have h1 := flatT_len ts
      have e0 : flatT ([] : List T3) = [] := rfl
      refine ⟨by simp [h1], hk _ _ (.inr ⟨h.length, [], by simp, ?_⟩) ?_ (.inr ⟨_, rfl, Nat.le_refl _⟩)⟩
      · rw [List.getElem?_append_right (by simp)]
        have : intsOf (List.map vint (List.take (ts.length * 3) (List.drop 0 (flatT ts ++ flatT []))) ++ List.map vint (List.take (1 * 3) (List.drop 0 [x, y, z]))) = some (flatT ts ++ [x, y, z]) := by
          rw [← List.map_append, e0]; simp only [List.drop_zero, List.append_nil, ← h1, List.take_length]; exact intsOf_map' _
        rw [e0, List.append_nil] at this
        simp only [mkb, e0, List.append_nil, this, List.length_set, Nat.sub_self, List.getElem?_cons_zero, hf]
      · exact (Ext.set (S := fun i => blkOf (.slice (some ⟨b, 0, some 0⟩) ts.length (ts.length + ([] : List T3).length)) = some i) .dead rfl).trans (Ext.app _ _ _)
/-- A slice written down, of one triple. -/
theorem litT {x y z : Int} {t : TypeId} (he : elemOf' P t = some e) (hz : zeroOf P e = some [.int .i64 0, .int .i64 0, .int .i64 0]) (hs : esz P e = some 3) (K : Value → Heap → Prop) :
    buildSliceK P h t 1 [(0, .agg #[vint x, vint y, vint z])] K = K (.slice (some ⟨h.length, 0, none⟩) 1 1) (h ++ [.ints [x, y, z] e false]) := by
  have e1 : fillL (fun i => some (i * 3, 3)) (reps [.int .i64 0, .int .i64 0, .int .i64 0] 1) [(0, .agg #[vint x, vint y, vint z])] = some [vint x, vint y, vint z] := by
    simp [fillL, notTuple, cellsOf, reps, splice]
  have e2 : mkb [vint x, vint y, vint z] e = .ints [x, y, z] e false := rfl
  simp only [buildSliceK, he, hz, hs, e1, e2]
  exact propext ⟨fun h => h.2.2.2, fun h => ⟨rfl, by decide, by decide, h⟩⟩
/-- The last one away. -/
theorem OwnT.cut {x : T3} {t : TypeId} (ho : OwnT e h v (ts ++ [x])) (he : elemOf' P t = some e) (hs : esz P e = some 3) {K : Value → Prop} (hk : ∀ v', OwnT e h v' ts → blkOf v' = blkOf v → K v') : sliceK P t v none (some (vint ts.length)) none K := by
  rcases ho with ⟨rfl, h2⟩ | ⟨b, ys, rfl, hb⟩
  · simp at h2
  · simp only [sliceK, he, hs, bnd, List.length_append, List.length_singleton]
    refine ⟨by omega, by omega, by omega, fun h => (by cases h), fun _ => .inl ⟨rfl, hk _ (.inr ⟨b, x :: ys, by simp; omega, ?_⟩) rfl⟩⟩
    rw [hb, flatT_app, show flatT (x :: ys) = flatT [x] ++ flatT ys from flatT_app [x] ys, List.append_assoc]
/-- The beginning of a slice. -/
theorem TripSl.pre {t : TypeId} {m : Nat} (hv : TripSl h v ts) (he : elemOf' P t = some e) (hs : esz P e = some 3) (hm : m ≤ ts.length) {K : Value → Prop} (hk : ∀ v', TripSl h v' (ts.take m) → K v') : sliceK P t v none (some (vint m)) none K := by
  have hl : (ts.take m).length = m := by simp; omega
  rcases hv with ⟨rfl, rfl⟩ | ⟨b, o, sp, cap, c, e', ro, rfl, hc, hb, hx⟩
  · simp only [List.length_nil, Nat.le_zero_eq] at hm
    subst hm
    simp only [sliceK, he, hs, bnd, Option.bind_some, Option.isSome_some]
    exact ⟨trivial, rfl, rfl, rfl, hk _ (.inl ⟨rfl, rfl⟩)⟩
  · simp only [sliceK, he, hs, bnd]
    have hg : ∀ i, i < m → (ts.take m).getD i t0 = ts.getD i t0 := fun i hi => by simp [List.getD, List.getElem?_take, hi]
    have hx' : ∀ i, i < (ts.take m).length → c[o + i * 3]? = some (vint ((ts.take m).getD i t0).1) ∧ c[o + i * 3 + 1]? = some (vint ((ts.take m).getD i t0).2.1) ∧ c[o + i * 3 + 2]? = some (vint ((ts.take m).getD i t0).2.2) := fun i hi => by
      rw [hl] at hi
      rw [hg i hi]; exact hx i (by omega)
    refine ⟨by omega, by omega, by omega, fun _ => hk _ (.inr ⟨b, o, none, cap, c, e', ro, ?_, by rw [hl]; omega, hb, hx'⟩), fun _ => .inl ⟨rfl, hk _ (.inr ⟨b, o, some 0, cap, c, e', ro, ?_, by rw [hl]; omega, hb, hx'⟩)⟩⟩
    · rw [hl]; simp
    · rw [hl]; simp
/-- A slice of triples, or an empty one of which nobody knows where it lies. -/
def RdT (h : Heap) (v : Value) (ts : List T3) : Prop := TripSl h v ts ∨ (v = void ∧ ts = [])
theorem RdT.len (hv : RdT h v ts) (K : Value → Prop) : lenK v K = K (vint ts.length) := by
  rcases hv with hv | ⟨rfl, rfl⟩
  · exact hv.len K
  · rfl
theorem RdT.trip (hv : RdT h v ts) (hn : ts ≠ []) : TripSl h v ts := by
  rcases hv with hv | ⟨_, h⟩
  · exact hv
  · exact absurd h hn
theorem RdT.ext {h' : Heap} (hv : RdT h v ts) (he : Ext (fun _ => False) h h') : RdT h' v ts := hv.imp (fun hv => hv.ext he) id
theorem RdT.tail {x : T3} {t : TypeId} (hv : TripSl h v (x :: ts)) (he : elemOf' P t = some e) (hs : esz P e = some 3) {K : Value → Prop} (hk : ∀ v', RdT h v' ts → K v') : sliceK P t v (some (vint 1)) none none K := by
  rcases hv with ⟨rfl, h1⟩ | ⟨b, o, sp, cap, c, e', ro, rfl, hc, hb, hx⟩
  · cases h1
  · simp only [List.length_cons] at hc hx ⊢
    have hx' : ∀ i, i < ts.length → c[o + 3 + i * 3]? = some (vint (ts.getD i t0).1) ∧ c[o + 3 + i * 3 + 1]? = some (vint (ts.getD i t0).2.1) ∧ c[o + 3 + i * 3 + 2]? = some (vint (ts.getD i t0).2.2) := fun i hi => by
      have := hx (i + 1) (by omega)
      have e1 : o + (i + 1) * 3 = o + 3 + i * 3 := by omega
      rw [e1] at this
      simpa [List.getD] using this
    have e1 : (((ts.length + 1 : Nat) : Int) - 1).toNat = ts.length := by omega
    have e2 : ((1 : Int)).toNat = 1 := rfl
    simp only [sliceK, he, hs, bnd, e1, e2, Nat.one_mul]
    refine ⟨by omega, by omega, by omega, fun hsp => ?_, fun hsp => .inr ⟨by omega, ?_⟩⟩
    · by_cases h0 : ts = []
      · subst h0
        exact hk _ (.inl (.inr ⟨b, _, none, _, c, e', ro, rfl, by simp, hb, fun i hi => by simp at hi⟩))
      · have hpos : 0 < ts.length := List.length_pos_iff.2 h0
        rw [if_neg (by omega)]
        exact hk _ (.inl (.inr ⟨b, o + 3, none, _, c, e', ro, rfl, by omega, hb, hx'⟩))
    · by_cases h0 : ts = []
      · subst h0
        exact .inr ⟨rfl, hk _ (.inr ⟨rfl, rfl⟩)⟩
      · have hpos : 0 < ts.length := List.length_pos_iff.2 h0
        exact .inl ⟨by omega, by omega, hk _ (.inl (.inr ⟨b, o + 3, some 0, _, c, e', ro, rfl, by omega, hb, hx'⟩))⟩
/-- All cells of a slice. -/
theorem TripSl.cells (hv : TripSl h v ts) (hn : ts ≠ []) {b o : Nat} {sp : Option Nat} {l cap : Nat} (he : v = .slice (some ⟨b, o, sp⟩) l cap) {K : List Value → Prop} (hk : K ((flatT ts).map vint)) : cellsK h b o (ts.length * 3) K := by
  rcases hv with ⟨rfl, rfl⟩ | ⟨b', o', sp', cap', c, e', ro, rfl, hc, hb, hx⟩
  · exact absurd rfl hn
  · cases he
    rw [view_cells hb]
    have hpos : 0 < ts.length := List.length_pos_iff.2 hn
    have hlen : o + ts.length * 3 ≤ c.length := by
      have := (List.getElem?_eq_some_iff.1 (hx (ts.length - 1) (by omega)).2.2).1
      omega
    refine ⟨hlen, ?_⟩
    have hc : (c.drop o).take (ts.length * 3) = (flatT ts).map vint := by
      apply List.ext_getElem?
      intro k
      by_cases hk : k < ts.length * 3
      · rw [List.getElem?_take_of_lt hk, List.getElem?_drop, List.getElem?_map]
        obtain ⟨i, j, hj, rfl⟩ : ∃ i j, j < 3 ∧ k = i * 3 + j := ⟨k / 3, k % 3, Nat.mod_lt _ (by decide), by omega⟩
        obtain ⟨h1, h2, h3⟩ := hx i (by omega)
        obtain ⟨g1, g2, g3⟩ := flatT_get ts i (by omega)
        rcases (show j = 0 ∨ j = 1 ∨ j = 2 by omega) with rfl | rfl | rfl
        · rw [Nat.add_zero, h1, g1]; rfl
        · rw [← Nat.add_assoc, h2, g2]; rfl
        · rw [← Nat.add_assoc, h3, g3]; rfl
      · have := flatT_len ts
        rw [List.getElem?_eq_none (by simp; omega), List.getElem?_eq_none (by simp; omega)]
    rw [hc]; exact hk
/-- All of a slice behind nothing: a copy in a block of its own. -/
theorem TripSl.copyOwn {t t2 : TypeId} {b0 : Nat} (hv : TripSl h v ts) (hx : ts ≠ []) (hT : appT P t t2 = some (e, 3, 24)) (hn : ts.length < 1099511627776) (hb0 : h[b0]? = some (.ints [] e false)) {K : Value → Heap → Prop}
    (hk : K (.slice (some ⟨h.length, 0, some 0⟩) ts.length ts.length) (h ++ [.ints (flatT ts) e false])) : appendK P h t t2 (.slice (some ⟨b0, 0, none⟩) 0 0) v K := by
  have hpos : 0 < ts.length := List.length_pos_iff.2 hx
  have hgo : putK h e 3 24 (.slice (some ⟨b0, 0, none⟩) 0 0) ts.length ((flatT ts).map vint) K := by
    simp only [putK]
    refine ⟨fun h => by omega, fun _ => ⟨by omega, ?_⟩⟩
    simp only [cellsK, hb0]
    refine ⟨by simp, ?_⟩
    have e1 : mkb (List.map vint (List.take (0 * 3) (List.drop 0 [])) ++ (flatT ts).map vint) e = .ints (flatT ts) e false := by
      have : intsOf ((flatT ts).map vint) = some (flatT ts) := intsOf_map' _
      simp [mkb, this]
    simp only [e1]
    simpa using hk
  simp only [appendK, hT]
  have hv' := hv
  rcases hv with ⟨_, h1⟩ | ⟨b, o, sp, cap, c, e', ro, rfl, hc, hb, _⟩
  · exact absurd h1 hx
  · exact ⟨fun h => absurd (List.length_eq_zero_iff.1 h) hx, fun _ => hv'.cells hx rfl hgo⟩
/-- Cut to its length by force. -/
theorem OwnT.clip {t : TypeId} (ho : OwnT e h v ts) (he : elemOf' P t = some e) (hs : esz P e = some 3) {K : Value → Prop}
    (hk : ∀ v', (v' = .slice none 0 0 ∧ ts = []) ∨ (∃ (b : Nat) (ys : List T3), v' = .slice (some ⟨b, 0, none⟩) ts.length ts.length ∧ h[b]? = some (.ints (flatT ts ++ flatT ys) e false)) → K v') :
    sliceK P t v none (some (vint ts.length)) (some (vint ts.length)) K := by
  rcases ho with ⟨rfl, rfl⟩ | ⟨b, ys, rfl, hb⟩
  · simp only [sliceK, he, hs, bnd, Option.bind_some, Option.isSome_some]
    exact ⟨trivial, rfl, rfl, rfl, hk _ (.inl ⟨rfl, rfl⟩)⟩
  · simp only [sliceK, he, hs, bnd]
    refine ⟨Int.le_refl _, by omega, by omega, by omega, rfl, ?_⟩
    have h1 : (if (ts.length : Int) = ((0 : Nat) : Int) then 0 else 0 + (((0 : Nat) : Int)).toNat * 3) = 0 := by split <;> rfl
    have h2 : ((ts.length : Int) - ((0 : Nat) : Int)).toNat = ts.length := by omega
    have h3 : (ts.length : Int).toNat - ((0 : Nat) : Int).toNat = ts.length := by simp
    rw [h1, h2, h3]
    exact hk _ (.inr ⟨b, ys, rfl, hb⟩)
theorem clipApp {x y z : Int} {t t2 : TypeId} {b2 c2 : Nat} {c : Bool} (ho : (v = .slice none 0 0 ∧ ts = []) ∨ (∃ (b : Nat) (ys : List T3), v = .slice (some ⟨b, 0, none⟩) ts.length ts.length ∧ h[b]? = some (.ints (flatT ts ++ flatT ys) e false)))
    (hT : appT P t t2 = some (e, 3, 24)) (hn : ts.length < 1099511627776) (hb2 : h[b2]? = some (.ints [x, y, z] e c)) {K : Value → Heap → Prop}
    (hk : K (.slice (some ⟨h.length, 0, some 0⟩) (ts.length + 1) (ts.length + 1)) (h ++ [.ints (flatT (ts ++ [(x, y, z)])) e false])) :
    appendK P h t t2 v (.slice (some ⟨b2, 0, none⟩) 1 c2) K := by
  simp only [appendK, hT, elemsK, cellsK, hb2]
  refine ⟨fun h => by omega, fun _ => ⟨by simp, ?_⟩⟩
  have hf : flatT (ts ++ [(x, y, z)]) = flatT ts ++ [x, y, z] := by rw [flatT_app]; rfl
  rw [hf] at hk
  rcases ho with ⟨rfl, rfl⟩ | ⟨b, ys, rfl, hb⟩
  · simp only [putK]
    exact ⟨fun h => by omega, fun _ => ⟨by omega, hk⟩⟩
  · simp only [putK, hb]
    refine ⟨fun hroom => by omega, fun hroom => ⟨by omega, ?_⟩⟩
    simp only [cellsK, hb]
    have hl := flatT_len ts
    refine ⟨by rw [List.length_append]; omega, ?_⟩
    have : intsOf (List.map vint (List.take (ts.length * 3) (List.drop 0 (flatT ts ++ flatT ys))) ++ List.map vint (List.take (1 * 3) (List.drop 0 [x, y, z]))) = some (flatT ts ++ [x, y, z]) := by
      rw [← List.map_append]
      have h1 : List.take (ts.length * 3) (List.drop 0 (flatT ts ++ flatT ys)) = flatT ts := by rw [List.drop_zero, ← hl, List.take_left]
      rw [h1]
      exact intsOf_map' _
    simp only [mkb, this]
    exact hk
theorem OwnT.new (h : Heap) (ts : List T3) (hn : ts ≠ []) : OwnT e (h ++ [.ints (flatT ts) e false]) (.slice (some ⟨h.length, 0, some 0⟩) ts.length ts.length) ts :=
  .inr ⟨h.length, [], by simp, by rw [List.getElem?_append_right (Nat.le_refl _)]; simp [flatT]⟩
end
end Go.Am
