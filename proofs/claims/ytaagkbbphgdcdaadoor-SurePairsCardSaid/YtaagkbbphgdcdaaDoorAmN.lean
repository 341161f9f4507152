/-
  The abstract machine, part N: from a call on the abstract heap to a statement: the abstract heap at the start is the whole of the model's, read-only.
-/
import Derived.Test.YtaagkbbphgdcdaaDoorAmM
import Derived.ProofKit
import Derived.Carry
import Derived.LaidMore
import Derived.OpenShut
import Derived.SevenTiedAt
set_option linter.all false
namespace Go.Am
open Go.ChangeShapes Go.WideShapes Go.ChangeAt Go.WideMaps Go.WideElems Go.RowKit

/-- What the abstract heap keeps of a cell: itself, if it bears no address or one of a plain block. -/
def keepV (n : Nat) : Value → Bool
  | .slice (some ⟨b, _, none⟩) _ _ => decide (b < n)
  | .pointer (some ⟨b, _, none⟩) => decide (b < n)
  | v => atom v
def absV (n : Nat) (v : Value) : Value := if keepV n v then v else undef
def absBlk (n : Nat) : Obj → Blk
  | .cells c e _ => .cells (c.toList.map (absV n)) e true
  | _ => .dead
def absHeap (w : World) : Heap := w.heap.toList.map (absBlk w.heap.size)
def absLoc (w : World) (i : Nat) : Loc := ⟨i, match w.heap[i]? with | some (.cells c _ _) => c.size | _ => 0, 0⟩

theorem keepV_rel {n : Nat} {ρ : Nat → Loc} {v : Value} (hρ : ∀ i, (ρ i).blk = i) (h : keepV n v = true) : VRel n ρ v v := by
  unfold keepV at h
  split at h
  · rename_i b o l c
    have := VRel.slice (ρ := ρ) (o := o) (len := l) (cap := c) (of_decide_eq_true h)
    rwa [hρ] at this
  · rename_i b o
    have := VRel.ptr (ρ := ρ) (o := o) (of_decide_eq_true h)
    rwa [hρ] at this
  · exact .atom h
theorem absV_rel {n : Nat} {ρ : Nat → Loc} {v : Value} (hρ : ∀ i, (ρ i).blk = i) : VRel n ρ (absV n v) v := by
  unfold absV
  split
  · exact keepV_rel hρ (by assumption)
  · exact .any _

theorem absHeap_len (w : World) : (absHeap w).length = w.heap.size := by simp [absHeap]
theorem view_abs {w : World} {i : Nat} {x : List Value × TypeId × Bool} (h : view (absHeap w) i = some x) : ∃ c e fr, w.heap[i]? = some (.cells c e fr) ∧ x = (c.toList.map (absV w.heap.size), e, true) := by
  simp only [view, absHeap, List.getElem?_map, Array.getElem?_toList, Option.bind_eq_some_iff, Option.map_eq_some_iff] at h
  obtain ⟨b, ⟨o, ho, rfl⟩, hb⟩ := h
  cases o <;> simp [absBlk, Blk.view] at hb
  rename_i c e fr
  exact ⟨c, e, fr, ho, hb.symm⟩
theorem abs_view {w : World} {i : Nat} {c : Array Value} {e : TypeId} {fr : Nat × Nat} (h : w.heap[i]? = some (.cells c e fr)) : view (absHeap w) i = some (c.toList.map (absV w.heap.size), e, true) := by
  simp [view, absHeap, h, absBlk, Blk.view]

theorem absSim {P : Program} [Tabs P] (w : World) (ht : ∀ p ∈ Tabs.tabs P, w.heap[p.1]? = some p.2) : Sim P (absLoc w) (absHeap w) w where
  cells i c e ro hv := by
    obtain ⟨c', e', fr, hc, hx⟩ := view_abs hv
    cases hx
    refine ⟨c', fr, hc, by simp [absLoc, hc], by simp, fun k hk => ?_, fun h => by cases h⟩
    simp only [List.length_map, Array.length_toList] at hk
    have e1 : (c'.toList.map (absV w.heap.size)).getD k undef = absV w.heap.size (c'.getD k undef) := by
      simp [List.getD, Array.getD, hk]
    rw [e1, absHeap_len]
    exact absV_rel (fun _ => rfl)
  inj i j _ _ _ _ h := h
  tab p hp := ⟨ht p hp, fun ⟨i, c, e, hv, _⟩ => by
    obtain ⟨_, _, _, _, hx⟩ := view_abs hv
    cases hx⟩

/-- A call on the abstract heap is a call: of what was there nothing turns. -/
theorem ACall.calls {P : Program} [Tabs P] {f : FuncId} {args : List Value} {w : World} {Q : Value → Heap → Prop} (c : ACall P f args (absHeap w) Q) (ht : ∀ p ∈ Tabs.tabs P, w.heap[p.1]? = some p.2) (ha : ∀ v ∈ args, keepV w.heap.size v = true) :
    Calls P f args.toArray w fun en w' => ∃ v v' ρ' h', en = .returned v' ∧ Q v h' ∧ VRel h'.length ρ' v v' ∧ Sim P ρ' h' w' ∧ Below w.heap.size w w' := by
  rw [← callsIn_wide (n := 0)]
  refine (c.2 0 (absLoc w) args.toArray w (absSim w ht) ⟨rfl, fun k hk => ?_⟩).mono ?_
  · rw [absHeap_len]
    refine keepV_rel (fun _ => rfl) ?_
    simp only [List.getD, List.getElem?_eq_getElem hk, Option.getD_some]
    exact ha _ (List.getElem_mem hk)
  · rintro en w' ⟨v, v', ρ', h', h1, h2, h3, h4, h5⟩
    refine ⟨v, v', ρ', h', h1, h2, h3, h5, h4.os, h4.tape, h4.output, h4.wsize, fun k hk => h4.keep k hk ?_⟩
    rintro ⟨i, c, e, hv, _⟩
    obtain ⟨_, _, _, _, hx⟩ := view_abs hv
    cases hx

theorem ACall.calls_true {P : Program} [Tabs P] {f : FuncId} {args : List Value} {w : World} (c : ACall P f args (absHeap w) fun v _ => v = .bool true) (ht : ∀ p ∈ Tabs.tabs P, w.heap[p.1]? = some p.2) (ha : ∀ v ∈ args, keepV w.heap.size v = true) :
    Calls P f args.toArray w fun en w' => en = .returned (.bool true) ∧ Below w.heap.size w w' :=
  (c.calls ht ha).mono fun _ _ ⟨_, _, _, _, h1, h2, h3, _, h5⟩ => by
    subst h2
    rw [h3.bool] at h1
    exact ⟨h1, h5⟩

/-- A slice of ints, wherever it lies. -/
def IntSl (h : Heap) (v : Value) (xs : List Int) : Prop :=
  (v = .slice none 0 0 ∧ xs = []) ∨ ∃ b o sp cap c e ro, v = .slice (some ⟨b, o, sp⟩) xs.length cap ∧ xs.length ≤ cap ∧ view h b = some (c, e, ro) ∧ ∀ i, i < xs.length → c[o + i]? = some (vint (xs.getD i 0))

section read
variable {H : Type} {enc : TypeId × Value → H} {P : Program} {w : World} {base : Nat} {r : Reach}

theorem okWide_sl {t e : TypeId} {v : Value} (ht : P.underlying t = some (.slice e)) (h : Value.okWide P w r base t v) :
    v = .slice none 0 0 ∨ ∃ b o len cap c e' fr, v = .slice (some ⟨b, o, none⟩) len cap ∧ len ≤ cap ∧ w.heap[b]? = some (.cells c e' fr) := by
  obtain ⟨a, len, cap, rfl⟩ := okWide_slice ht h
  simp only [Value.okWide, ht, Cell.okWide, Cell.ok] at h
  cases a with
  | none => cases len <;> cases cap <;> simp_all
  | some a =>
    obtain ⟨hl, _, _, hs, row, cells, hsh, _⟩ := h
    obtain ⟨b, o, s⟩ := a
    simp only at hs hsh
    subst hs
    simp only [World.shape?] at hsh
    split at hsh
    · rename_i c e' fr hb
      exact .inr ⟨b, o, len, cap, c, e', fr, rfl, hl, hb⟩
    · cases hsh

theorem keepV_sl {t e : TypeId} {v : Value} (ht : P.underlying t = some (.slice e)) (h : Value.okWide P w r base t v) : keepV w.heap.size v = true := by
  rcases okWide_sl ht h with rfl | ⟨b, o, len, cap, c, e', fr, rfl, _, hb⟩
  · rfl
  · simp only [keepV, decide_eq_true_eq]; exact (Array.getElem?_eq_some_iff.1 hb).1

theorem intSl_of {t e : TypeId} {v : Value} {d : DataW H} {ps : List MemPlace} (ht : P.underlying t = some (.slice e)) (he : P.underlying e = some (.int .i64)) (hc : P.cellsOf e = 1) (hok : Value.okWide P w r base t v)
    (h : DataW.Trod enc P w 0 (fun _ => true) true t v d ps) :
    ∃ xs : List Int, IntSl (absHeap w) v xs ∧ keepV w.heap.size v = true ∧ (∀ x ∈ xs, -(2 ^ 63) ≤ x ∧ x < 2 ^ 63) ∧ xs.length < 2 ^ 63 := by
  have hkeep := keepV_sl ht hok
  obtain ⟨fuel, h⟩ := h
  rcases okWide_sl ht hok with rfl | ⟨b, o, len, cap, c, e', fr, rfl, hl, hb⟩
  · exact ⟨[], .inl ⟨rfl, rfl⟩, hkeep, by simp, by simp⟩
  · rcases open_ints ht he hc h with ⟨h1, _⟩ | ⟨a, len', cap', zs, h1, _, _, hm, hz, _, hcell, hwf⟩
    · simp [Value.cells] at h1
    · simp [Value.cells] at h1
      obtain ⟨rfl, rfl, rfl⟩ := h1
      simp only [if_true] at hz
      have hzl : (zs.take len).length = len := by simp; omega
      refine ⟨zs.take len, .inr ⟨b, o, none, cap, _, _, _, by rw [hzl], by rw [hzl]; exact hl, abs_view hb, fun i hi => ?_⟩, hkeep, fun x hx => ?_, ?_⟩
      · rw [hzl] at hi
        have := hcell i (by omega)
        rw [addr_add] at this
        simp only [World.cell?, hb] at this
        simp only [List.getElem?_map, Array.getElem?_toList]
        simp at this
        rw [this]
        simp [absV, keepV, atom, List.getD, List.getElem?_take, hi]
      · have := hwf x (List.mem_of_mem_take hx)
        simp [Lit.wf, IntKind.min, IntKind.max, IntKind.signed, IntKind.bits] at this
        omega
      · rw [hzl]; simp only [maxLen] at hm; omega
end read

section law
variable {H : Type} {enc : TypeId × Value → H} {P : Program}

theorem trodAll_below {W W' : World} (hl : laidOutB P = true) (hb : Below W.heap.size W W') : ∀ {ts : List TypeId} {vs : List Value} {ds : List (DataW H)} {ps : List MemPlace}, (∀ t ∈ ts, P.readableRec t = true ∧ t < P.types.size) →
    DataW.TrodAll enc P W 0 (fun _ => true) true ts vs ds ps → (∀ x ∈ ps, x.block < W.heap.size) → DataW.TrodAll enc P W' 0 (fun b => decide (b < W.heap.size)) true ts vs ds ps
  | [], vs, ds, ps, _, h, _ => by
    obtain ⟨rfl, rfl, rfl⟩ := trodAll_nil h
    exact h
  | t :: ts, _, _, _, ht, h, hlt => by
    obtain ⟨v, vs1, d, ds1, a, b, rfl, rfl, rfl, h1, h2⟩ := trodAll_cons h
    refine ⟨a, b, Below.trod hl (ht t (by simp)).1 (ht t (by simp)).2 h1 hb (fun x hx => hlt x (by simp [hx])), trodAll_below hl hb (fun t h => ht t (by simp [h])) h2 (fun x hx => hlt x (by simp [hx])), rfl⟩

/-- What a law owes behind its call: it answered true, and of what was there nothing turned. -/
theorem post_true {f : Func} {s : ChangeSpec} {apart fresh : Bool} {W W' : World} {args : Array Value} {ds gs : List (DataW H)} {before : List MemPlace} {tb : TypeId} (hl : laidOutB P = true)
    (hts : f.params.toList.all (fun t => P.readableRec t && decide (t < P.types.size)) = true) (hr : f.resultTypes = #[tb]) (htb : P.underlying tb = some .bool) (hvars : s.vars = [])
    (hW : DataW.Whole enc P f.params.toList s.vars apart W args.toList ds gs before) (hfn : (s.fn H (ds ++ gs)).results = [.lit (.bool true)] ∧ (s.fn H (ds ++ gs)).args = ds ∧ (s.fn H (ds ++ gs)).vars = gs) (hb : Below W.heap.size W W') :
    s.post enc P f apart fresh false false W args (.bool true) W' := by
  have hlt := hW.lt
  obtain ⟨p, q, hA, hV, rfl, h5, h6⟩ := hW
  have hV' := hV
  rw [hvars] at hV'
  obtain ⟨rfl, rfl⟩ := trodVars_none hV'
  refine ⟨ds, [], p ++ [], [], p, [], ⟨p, [], hA, hV, rfl, h5, h6⟩, ?_, ?_, ?_, hb.frame _, fun h => by cases h⟩
  · rw [hfn.1, hr]
    exact trodAll_mk1 (shut_bool htb _)
  · rw [hfn.2.1]
    exact trodAll_below hl hb (fun t ht => by simpa using List.all_eq_true.1 hts t ht) hA (fun x hx => hlt x (by simp [hx]))
  · rw [hfn.2.2, hvars]; rfl
end law
end Go.Am
