/-
  The abstract machine, part V: slices of pairs of ints.
-/
import Derived.Test.YtemmcfeekpblkaaDoorAmU
set_option linter.all false
namespace Go.Am

/-- A slice of pairs of ints, wherever it lies. -/
def PairSl (h : Heap) (v : Value) (ps : List (Int × Int)) : Prop :=
  (v = .slice none 0 0 ∧ ps = []) ∨ ∃ b o sp cap c e ro, v = .slice (some ⟨b, o, sp⟩) ps.length cap ∧ ps.length ≤ cap ∧ view h b = some (c, e, ro) ∧
    ∀ i, i < ps.length → c[o + i * 2]? = some (vint (ps.getD i (0, 0)).1) ∧ c[o + i * 2 + 1]? = some (vint (ps.getD i (0, 0)).2)

section
variable {P : Program} {h : Heap} {v : Value} {ps : List (Int × Int)}
theorem PairSl.len (hv : PairSl h v ps) (K : Value → Prop) : lenK v K = K (vint ps.length) := by
  rcases hv with ⟨rfl, rfl⟩ | ⟨b, o, sp, cap, c, e, ro, rfl, _⟩ <;> rfl
theorem PairSl.idx (hv : PairSl h v ps) {t e : TypeId} (he : elemOf' P t = some e) (hs : esz P e = some 2) {k : IntKind} {i : Nat} (hi : i < ps.length) (K : Value → Prop) : idxAddrK P t v (.int k i) K = K (elemP v 2 i) := by
  rcases hv with ⟨rfl, rfl⟩ | ⟨b, o, sp, cap, c, e', ro, rfl, _⟩
  · simp at hi
  · simp only [idxAddrK, he, hs, elemP, Int.toNat_natCast, eq_iff_iff]
    exact ⟨fun h => h.2.2, fun h => ⟨by omega, by omega, h⟩⟩
theorem view_cells {b o n : Nat} {c : List Value} {e : TypeId} {ro : Bool} {K : List Value → Prop} (hv : view h b = some (c, e, ro)) : cellsK h b o n K = (o + n ≤ c.length ∧ K ((c.drop o).take n)) := by
  unfold view at hv
  unfold cellsK
  cases hb : h[b]? with
  | none => simp [hb] at hv
  | some B =>
    rw [hb] at hv
    cases B with
    | cells c' e' ro' => simp [Blk.view] at hv; obtain ⟨rfl, rfl, rfl⟩ := hv; rfl
    | ints ys e' ro' => simp [Blk.view] at hv; obtain ⟨rfl, rfl, rfl⟩ := hv; simp [List.map_drop, List.map_take]
    | dead => simp [Blk.view] at hv
theorem take_two {c : List Value} {o : Nat} {x y : Value} (hx : c[o]? = some x) (hy : c[o + 1]? = some y) : (c.drop o).take 2 = [x, y] ∧ o + 2 ≤ c.length := by
  obtain ⟨h1, rfl⟩ := List.getElem?_eq_some_iff.1 hx
  obtain ⟨h2, rfl⟩ := List.getElem?_eq_some_iff.1 hy
  refine ⟨?_, by omega⟩
  rw [List.drop_eq_getElem_cons h1, List.drop_eq_getElem_cons h2]; rfl
theorem PairSl.load (hv : PairSl h v ps) {t : TypeId} (hs : shp P t = some (some 2)) {i : Nat} (hi : i < ps.length) (K : Value → Prop) : loadK P h t (elemP v 2 i) K = K (.agg #[vint (ps.getD i (0, 0)).1, vint (ps.getD i (0, 0)).2]) := by
  rcases hv with ⟨rfl, rfl⟩ | ⟨b, o, sp, cap, c, e', ro, rfl, _, hvw, hc⟩
  · simp at hi
  · obtain ⟨h1, h2⟩ := hc i hi
    obtain ⟨h3, h4⟩ := take_two h1 h2
    simp only [elemP, loadK, hs, view_cells hvw, h3, h4, true_and]
theorem PairSl.same {h' : Heap} (hv : PairSl h v ps) (hb : ∀ b, blkOf v = some b → h'[b]? = h[b]?) : PairSl h' v ps := by
  rcases hv with ⟨rfl, rfl⟩ | ⟨b, o, sp, cap, c, e, ro, rfl, hc, hw, hx⟩
  · exact .inl ⟨rfl, rfl⟩
  · exact .inr ⟨b, o, sp, cap, c, e, ro, rfl, hc, by rw [← hw]; simp only [view, hb b rfl], hx⟩
theorem PairSl.lt (hv : PairSl h v ps) {b : Nat} (hb : blkOf v = some b) : b < h.length := by
  rcases hv with ⟨rfl, rfl⟩ | ⟨b', o, sp, cap, c, e, ro, rfl, hc, hw, hx⟩
  · cases hb
  · cases hb; exact view_lt hw
theorem PairSl.ext {h' : Heap} (hv : PairSl h v ps) (he : Ext (fun _ => False) h h') : PairSl h' v ps := hv.same fun b hb => he.2 b (hv.lt hb) id
theorem PairSl.grow (hv : PairSl h v ps) (g : Heap) : PairSl (h ++ g) v ps := hv.ext (Ext.app _ _ _)
theorem PairSl.pre {t e : TypeId} {m : Nat} (hv : PairSl h v ps) (he : elemOf' P t = some e) (hs : esz P e = some 2) (hm : m ≤ ps.length) {K : Value → Prop} (hk : ∀ v', PairSl h v' (ps.take m) → K v') : sliceK P t v none (some (vint m)) none K := by
  have hl : (ps.take m).length = m := by simp; omega
  rcases hv with ⟨rfl, rfl⟩ | ⟨b, o, sp, cap, c, e', ro, rfl, hc, hb, hx⟩
  · simp only [List.length_nil, Nat.le_zero_eq] at hm
    subst hm
    simp only [sliceK, he, hs, bnd, Option.bind_some, Option.isSome_some]
    exact ⟨trivial, rfl, rfl, rfl, hk _ (.inl ⟨rfl, rfl⟩)⟩
  · simp only [sliceK, he, hs, bnd]
    have hx' : ∀ i, i < (ps.take m).length → c[o + i * 2]? = some (vint ((ps.take m).getD i (0, 0)).1) ∧ c[o + i * 2 + 1]? = some (vint ((ps.take m).getD i (0, 0)).2) := fun i hi => by
      rw [hl] at hi
      obtain ⟨h1, h2⟩ := hx i (by omega)
      rw [h1, h2]; simp [List.getD, List.getElem?_take, hi]
    refine ⟨by omega, by omega, by omega, fun _ => hk _ (.inr ⟨b, o, none, cap, c, e', ro, ?_, by rw [hl]; omega, hb, hx'⟩), fun _ => .inl ⟨rfl, hk _ (.inr ⟨b, o, some 0, cap, c, e', ro, ?_, by rw [hl]; omega, hb, hx'⟩)⟩⟩
    · rw [hl]; simp
    · rw [hl]; simp
/-- The cells of pairs. -/
def flatP (ps : List (Int × Int)) : List Int := ps.flatMap fun p => [p.1, p.2]
theorem flatP_len : ∀ ps : List (Int × Int), (flatP ps).length = ps.length * 2
  | [] => rfl
  | p :: ps => by
    have := flatP_len ps
    simp only [flatP, List.flatMap_cons, List.length_append, List.length_cons, List.length_nil] at this ⊢; omega
theorem flatP_get : ∀ (ps : List (Int × Int)) (i : Nat), i < ps.length → (flatP ps)[i * 2]? = some (ps.getD i (0, 0)).1 ∧ (flatP ps)[i * 2 + 1]? = some (ps.getD i (0, 0)).2
  | [], _, h => by simp at h
  | p :: ps, 0, _ => ⟨rfl, rfl⟩
  | p :: ps, i + 1, h => by
    have := flatP_get ps i (by simpa using h)
    have e1 : (i + 1) * 2 = i * 2 + 2 := by omega
    have e2 : flatP (p :: ps) = p.1 :: p.2 :: flatP ps := rfl
    rw [e1, e2]
    simpa [List.getD] using this
theorem PairSl.cells (hv : PairSl h v ps) (hn : ps ≠ []) {b o : Nat} {sp : Option Nat} {l cap : Nat} (he : v = .slice (some ⟨b, o, sp⟩) l cap) {K : List Value → Prop} (hk : K ((flatP ps).map vint)) : cellsK h b o (ps.length * 2) K := by
  rcases hv with ⟨rfl, rfl⟩ | ⟨b', o', sp', cap', c, e', ro, rfl, hc, hb, hx⟩
  · cases he
  · cases he
    have hpos : 0 < ps.length := List.length_pos_iff.2 hn
    have hlen : o + ps.length * 2 ≤ c.length := by
      have := (List.getElem?_eq_some_iff.1 (hx (ps.length - 1) (by omega)).2).1
      omega
    rw [view_cells hb]
    refine ⟨hlen, ?_⟩
    have e1 : (c.drop o).take (ps.length * 2) = (flatP ps).map vint := by
      refine List.ext_getElem? fun k => ?_
      by_cases hk : k < ps.length * 2
      · rw [List.getElem?_take, if_pos hk, List.getElem?_drop, List.getElem?_map]
        have h1 := hx (k / 2) (by omega)
        have h2 := flatP_get ps (k / 2) (by omega)
        rcases Nat.mod_two_eq_zero_or_one k with hm | hm
        · have e : k = k / 2 * 2 := by omega
          rw [e, h2.1, h1.1]; rfl
        · have e : k = k / 2 * 2 + 1 := by omega
          rw [e, h2.2, ← Nat.add_assoc, h1.2]; rfl
      · rw [List.getElem?_eq_none (by simp; omega), List.getElem?_eq_none (by simp [flatP_len]; omega)]
    rw [e1]; exact hk
/-- A copy of pairs. -/
theorem PairSl.copy {t t2 e : TypeId} {b0 : Nat} (hv : PairSl h v ps) (hT : appT P t t2 = some (e, 2, 16)) (hn : ps.length < 1099511627776) (hb0 : h[b0]? = some (.ints [] e false)) {K : Value → Heap → Prop}
    (hk : ∀ r g, PairSl (h ++ g) r ps → K r (h ++ g)) : appendK P h t t2 (.slice (some ⟨b0, 0, none⟩) 0 0) v K := by
  simp only [appendK, hT]
  rcases Classical.em (ps = []) with hx | hx
  · subst hx
    have hz : K (.slice (some ⟨b0, 0, none⟩) 0 0) h := by
      have := hk (.slice (some ⟨b0, 0, none⟩) 0 0) [] (.inr ⟨b0, 0, none, 0, [], e, false, rfl, Nat.le_refl _, by simp [view, hb0, Blk.view], fun i hi => by simp at hi⟩)
      simpa using this
    have hput : putK h e 2 16 (.slice (some ⟨b0, 0, none⟩) 0 0) 0 [] K := by
      simp only [putK]; exact ⟨fun _ => ⟨fun _ => hz, fun h => absurd rfl h⟩, fun h => by omega⟩
    rcases hv with ⟨rfl, _⟩ | ⟨b, o, sp, cap, c, e', ro, rfl, hc, hb, _⟩
    · exact ⟨rfl, hput⟩
    · exact ⟨fun _ => hput, fun h => absurd rfl h⟩
  · have hpos : 0 < ps.length := List.length_pos_iff.2 hx
    have hgo : putK h e 2 16 (.slice (some ⟨b0, 0, none⟩) 0 0) ps.length ((flatP ps).map vint) K := by
      simp only [putK]
      refine ⟨fun h => by omega, fun _ => ⟨by omega, ?_⟩⟩
      simp only [cellsK, hb0]
      refine ⟨by simp, hk _ _ (.inr ⟨h.length, 0, some 0, _, (flatP ps).map vint, e, false, by simp; rfl, by omega, ?_, fun i hi => ?_⟩)⟩
      · simp [view, mkb, intsOf_map', Blk.view]
      · have := flatP_get ps i hi
        simp [this]
    have hv' := hv
    rcases hv with ⟨_, h1⟩ | ⟨b, o, sp, cap, c, e', ro, rfl, hc, hb, _⟩
    · exact absurd h1 hx
    · exact ⟨fun h => absurd (List.length_eq_zero_iff.1 h) hx, fun _ => hv'.cells hx rfl hgo⟩
end

section read
variable {H : Type} {enc : TypeId × Value → H} {P : Program} {w : World} {base : Nat} {r : Reach}
def intAt (c : Array Value) (k : Nat) : Int := match c[k]? with | some (.int .i64 n) => n | _ => 0
theorem pairSl_of {t e q : TypeId} {v : Value} {d : DataW H} {ps : List MemPlace} (ht : P.underlying t = some (.slice e)) (he : P.underlying e = some (.array 2 q)) (hq : P.underlying q = some (.int .i64)) (hc : P.cellsOf e = 2) (hcq : P.cellsOf q = 1)
    (hok : Value.okWide P w r base t v) (h : DataW.Trod enc P w 0 (fun _ => true) true t v d ps) :
    ∃ xs : List (Int × Int), PairSl (absHeap w) v xs ∧ keepV w.heap.size v = true ∧ (∀ x ∈ xs, (-(2 ^ 63) ≤ x.1 ∧ x.1 < 2 ^ 63) ∧ -(2 ^ 63) ≤ x.2 ∧ x.2 < 2 ^ 63) ∧ xs.length < 2 ^ 63 := by
  have hkeep := keepV_sl ht hok
  obtain ⟨fuel, h⟩ := h
  rcases okWide_sl ht hok with rfl | ⟨b, o, len, cap, c, e', fr, rfl, hl, hb⟩
  · exact ⟨[], .inl ⟨rfl, rfl⟩, hkeep, by simp, by simp⟩
  · rcases DataW.trod_slice ht h with ⟨h1, _⟩ | ⟨a, len', cap', elems, rest, n, _, h1, _, _, _, hm, hlen, hel, _, _⟩
    · simp [Value.cells] at h1
    · simp [Value.cells] at h1
      obtain ⟨rfl, rfl, rfl⟩ := h1
      have each : ∀ i, i < len → ∃ x y : Int, c[o + i * 2]? = some (.int .i64 x) ∧ c[o + i * 2 + 1]? = some (.int .i64 y) ∧ (-(2 ^ 63) ≤ x ∧ x < 2 ^ 63) ∧ -(2 ^ 63) ≤ y ∧ y < 2 ^ 63 := by
        intro i hi
        have h2 := hel i hi
        rw [hc, List.getElem?_eq_getElem (by omega), Option.bind_eq_some_iff] at h2
        obtain ⟨cs, hcs, hy⟩ := h2
        obtain ⟨xs, m, _, _, hcl, hxl, hx⟩ := DataW.trod_array he hy
        rw [hc] at hcl
        have h0 := hx 0 (by decide)
        have h1' := hx 1 (by decide)
        rw [hcq, List.getElem?_eq_getElem (by omega)] at h0 h1'
        obtain ⟨x, hx0, _, hw0⟩ := DataW.trod_int hq h0
        obtain ⟨y, hy0, _, hw1⟩ := DataW.trod_int hq h1'
        match cs, hcl with
        | [u1, u2], _ =>
          simp at hx0 hy0
          subst hx0 hy0
          simp only [World.cells?, addr_add] at hcs
          rw [if_pos (Nat.zero_le _)] at hcs
          have hr : List.range 2 = [0, 1] := rfl
          rw [hr, List.mapM_cons, List.mapM_cons, List.mapM_nil] at hcs
          simp only [World.cell?, hb, Nat.add_zero] at hcs
          have hc2 : (c[o + i * 2]? = some (.int .i64 x)) ∧ c[o + i * 2 + 1]? = some (.int .i64 y) := by
            cases e1 : c[o + i * 2]? with
            | none => simp [e1] at hcs
            | some u1 =>
              cases e2 : c[o + i * 2 + 1]? with
              | none => simp [e1, e2] at hcs
              | some u2 => simp [e1, e2] at hcs; simp [hcs]
          refine ⟨x, y, hc2.1, hc2.2, ?_, ?_⟩
          · simp [Lit.wf, IntKind.min, IntKind.max, IntKind.signed, IntKind.bits] at hw0; omega
          · simp [Lit.wf, IntKind.min, IntKind.max, IntKind.signed, IntKind.bits] at hw1; omega
      obtain ⟨xs, hxs⟩ : ∃ xs : List (Int × Int), xs = (List.range len).map fun i => (intAt c (o + i * 2), intAt c (o + i * 2 + 1)) := ⟨_, rfl⟩
      have hxl : xs.length = len := by rw [hxs]; simp
      have hget : ∀ i, i < len → xs.getD i (0, 0) = (intAt c (o + i * 2), intAt c (o + i * 2 + 1)) := fun i hi => by rw [hxs]; simp [List.getD, hi]
      refine ⟨xs, .inr ⟨b, o, none, cap, _, _, _, by rw [hxl], by rw [hxl]; exact hl, abs_view hb, fun i hi => ?_⟩, hkeep, fun x hx => ?_, ?_⟩
      · rw [hxl] at hi
        obtain ⟨x, y, h1, h2, _⟩ := each i hi
        rw [hget i hi]
        simp [List.getElem?_map, Array.getElem?_toList, h1, h2, intAt, absV, keepV, atom]
      · obtain ⟨i, hi, rfl⟩ := List.mem_iff_getElem.1 hx
        rw [hxl] at hi
        obtain ⟨x, y, h1, h2, h3⟩ := each i hi
        have := hget i hi
        rw [List.getD, List.getElem?_eq_getElem (by omega), Option.getD_some] at this
        rw [this]
        simp only [intAt, h1, h2]
        exact h3
      · rw [hxl]; simp only [maxLen] at hm; omega
end read

section trods
open Go.ChangeShapes
variable {H : Type} {enc : TypeId × Value → H} {P : Program} {w : World} {base : Nat} {spare : Nat → Bool} {held : Bool}
theorem trods4 {t t' t'' t3 : TypeId} {args : Array Value} {ds : List (DataW H)} {ps : List MemPlace} (h : DataW.TrodAll enc P w base spare held [t, t', t'', t3] args.toList ds ps) :
    ∃ v v' v'' v3 d d' d'' d3 p p' p'' p3, args = #[v, v', v'', v3] ∧ ds = [d, d', d'', d3] ∧ ps = p ++ p' ++ p'' ++ p3 ∧ DataW.Trod enc P w base spare held t v d p ∧ DataW.Trod enc P w base spare held t' v' d' p' ∧ DataW.Trod enc P w base spare held t'' v'' d'' p'' ∧ DataW.Trod enc P w base spare held t3 v3 d3 p3 := by
  obtain ⟨v, vs, d, ds', p, q, hargs, rfl, rfl, hd, hrest⟩ := trodAll_cons h
  obtain ⟨v', vs', d', ds'', p', q', rfl, rfl, rfl, hd', hrest'⟩ := trodAll_cons hrest
  obtain ⟨v'', vs'', d'', ds''', p'', q'', rfl, rfl, rfl, hd'', hrest''⟩ := trodAll_cons hrest'
  obtain ⟨v3, vs3, d3, ds3, p3, q3, rfl, rfl, rfl, hd3, hrest3⟩ := trodAll_cons hrest''
  obtain ⟨rfl, rfl, rfl⟩ := trodAll_nil hrest3
  exact ⟨v, v', v'', v3, d, d', d'', d3, p, p', p'', p3, by cases args; simp_all, rfl, by simp, hd, hd', hd'', hd3⟩
theorem trods5 {t t' t'' t3 t4 : TypeId} {args : Array Value} {ds : List (DataW H)} {ps : List MemPlace} (h : DataW.TrodAll enc P w base spare held [t, t', t'', t3, t4] args.toList ds ps) :
    ∃ v v' v'' v3 v4 d d' d'' d3 d4 p p' p'' p3 p4, args = #[v, v', v'', v3, v4] ∧ ds = [d, d', d'', d3, d4] ∧ ps = p ++ p' ++ p'' ++ p3 ++ p4 ∧ DataW.Trod enc P w base spare held t v d p ∧ DataW.Trod enc P w base spare held t' v' d' p' ∧ DataW.Trod enc P w base spare held t'' v'' d'' p'' ∧ DataW.Trod enc P w base spare held t3 v3 d3 p3 ∧ DataW.Trod enc P w base spare held t4 v4 d4 p4 := by
  obtain ⟨v, vs, d, ds', p, q, hargs, rfl, rfl, hd, hrest⟩ := trodAll_cons h
  obtain ⟨v', vs', d', ds'', p', q', rfl, rfl, rfl, hd', hrest'⟩ := trodAll_cons hrest
  obtain ⟨v'', vs'', d'', ds''', p'', q'', rfl, rfl, rfl, hd'', hrest''⟩ := trodAll_cons hrest'
  obtain ⟨v3, vs3, d3, ds3, p3, q3, rfl, rfl, rfl, hd3, hrest3⟩ := trodAll_cons hrest''
  obtain ⟨v4, vs4, d4, ds4, p4, q4, rfl, rfl, rfl, hd4, hrest4⟩ := trodAll_cons hrest3
  obtain ⟨rfl, rfl, rfl⟩ := trodAll_nil hrest4
  exact ⟨v, v', v'', v3, v4, d, d', d'', d3, d4, p, p', p'', p3, p4, by cases args; simp_all, rfl, by simp, hd, hd', hd'', hd3, hd4⟩
end trods
end Go.Am
