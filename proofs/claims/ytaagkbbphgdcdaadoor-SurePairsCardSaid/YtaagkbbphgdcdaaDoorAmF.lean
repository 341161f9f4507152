/-
  The abstract machine, part F: literals of structs, arrays, slices; copy; min, max; the operations together.
-/
import Derived.Test.YtaagkbbphgdcdaaDoorAmE
set_option linter.all false
namespace Go.Am

instance : LawfulMonad Sem := LawfulMonad.mk' Sem (fun x => Sem.bind_pure' x) (fun _ _ => rfl) (fun x f g => Sem.bind_assoc' x f g)

theorem run_mapM_list {P : Program} [Tabs P] {α β : Type} {g : α → Sem β} {g' : α → β} : ∀ (l : List α) (w : World), (∀ x ∈ l, ∀ w : World, (g x).run P w = .ok (g' x) w) → (l.mapM g).run P w = .ok (l.map g') w
  | [], w, _ => by simp
  | x :: l, w, h => by
    have h1 := h x (by simp) w
    have ih := run_mapM_list (g := g) (g' := g') l w (fun y hy => h y (by simp [hy]))
    simp [List.mapM_cons, h1, ih]

theorem run_mapM_array {P : Program} [Tabs P] {α β : Type} {g : α → Sem β} {g' : α → β} (l : Array α) (w : World) (h : ∀ x ∈ l, ∀ w : World, (g x).run P w = .ok (g' x) w) : (l.mapM g).run P w = .ok (l.map g') w := by
  rw [Array.mapM_eq_mapM_toList]
  simp [run_mapM_list l.toList w (fun x hx => h x (by simpa using hx))]
  apply Array.ext'
  simp

theorem splice_cons {α : Type} {c : List α} {o : Nat} {v : α} {vs : List α} (h : o < c.length) : splice (c.set o v) (o + 1) vs = splice c o (v :: vs) := by
  have e : c.set o v = c.take o ++ v :: c.drop (o + 1) := List.set_eq_take_append_cons_drop .. |>.trans (by rw [if_pos h])
  have hm : min o c.length = o := by omega
  simp only [splice, e, List.length_cons]
  have e1 : (c.take o ++ v :: c.drop (o + 1)).take (o + 1) = c.take o ++ [v] := by
    rw [List.take_append, List.length_take, hm, show o + 1 - o = 1 by omega, List.take_take, show min (o + 1) o = o by omega]; rfl
  have e2 : (c.take o ++ v :: c.drop (o + 1)).drop (o + 1 + vs.length) = c.drop (o + (vs.length + 1)) := by
    rw [List.drop_append, List.length_take, hm, show o + 1 + vs.length - o = vs.length + 1 by omega, List.drop_eq_nil_of_le (by simp; omega)]
    simp only [List.nil_append, List.drop_succ_cons, List.drop_drop]
    congr 1; omega
  rw [e1, e2]
  simp

theorem foldl_set : ∀ (vs : List Value) (off k : Nat) (cs : Array Value), off + k + vs.length ≤ cs.size → ((vs.zipIdx k).foldl (fun (cs : Array Value) (p : Value × Nat) => cs.setIfInBounds (off + p.2) p.1) cs).toList = splice cs.toList (off + k) vs
  | [], off, k, cs, _ => by simp [splice]
  | v :: vs, off, k, cs, h => by
    simp only [List.zipIdx_cons, List.foldl_cons]
    simp only [List.length_cons] at h
    rw [foldl_set vs off (k + 1) _ (by simp; omega)]
    rw [Array.toList_setIfInBounds, show off + (k + 1) = off + k + 1 by omega]
    exact splice_cons (by simp; omega)

def notTuple : Value → Bool
  | .tuple _ | .chan (some _) => false
  | _ => true

def fillL (place : Nat → Option (Nat × Nat)) : List Value → List (Nat × Value) → Option (List Value)
  | c, [] => some c
  | c, (i, v) :: r => match place i with
    | some (off, size) => if notTuple v = true ∧ (cellsOf v).length = size ∧ off + size ≤ c.length then fillL place (splice c off (cellsOf v)) r else none
    | none => none

def PRel (n : Nat) (ρ : Nat → Loc) : List (Nat × Value) → List (Nat × Value) → Prop
  | [], [] => True
  | (i, v) :: l, (j, u) :: l' => i = j ∧ VRel n ρ v u ∧ PRel n ρ l l'
  | _, _ => False

theorem splice_rel {n : Nat} {ρ : Nat → Loc} {c c' vs vs' : List Value} {o : Nat} (h : LRel n ρ c c') (g : LRel n ρ vs vs') (hl : o + vs.length ≤ c.length) : LRel n ρ (splice c o vs) (splice c' o vs') := by
  have hl' : o + vs'.length ≤ c'.length := by rw [← g.1, ← h.1]; exact hl
  refine ⟨by rw [splice_length hl, splice_length hl', h.1], fun k hk => ?_⟩
  rw [splice_length hl] at hk
  rw [splice_getD hl, splice_getD hl', ← g.1]
  by_cases h1 : k < o
  · rw [if_pos h1, if_pos h1]; exact h.2 k hk
  · rw [if_neg h1, if_neg h1]
    by_cases h2 : k < o + vs.length
    · rw [if_pos h2, if_pos h2]; exact g.2 _ (by omega)
    · rw [if_neg h2, if_neg h2]; exact h.2 k hk

theorem fill_rel {n : Nat} {ρ : Nat → Loc} {place : Nat → Option (Nat × Nat)} : ∀ {parts parts' : List (Nat × Value)} {c r : List Value} {c' : Array Value}, PRel n ρ parts parts' → LRel n ρ c c'.toList → fillL place c parts = some r →
    ∃ r', Instr.fill place c' parts' = some r' ∧ LRel n ρ r r'.toList
  | [], [], c, r, c', _, hc, hf => by simp only [fillL, Option.some.injEq] at hf; subst hf; exact ⟨c', rfl, hc⟩
  | (i, v) :: l, (j, u) :: l', c, r, c', hp, hc, hf => by
    obtain ⟨rfl, hv, hp⟩ := hp
    simp only [fillL] at hf
    split at hf
    · rename_i off size hpl
      split at hf
      · rename_i hcond
        obtain ⟨ht, hsz, hle⟩ := hcond
        obtain ⟨hcr, hcs⟩ := hv.cells (fun vs e => by subst e; simp [notTuple] at ht) (fun vs e => by subst e; simp [notTuple] at ht)
        have hcl : c.length = c'.size := by have := hc.1; simpa using this
        have hset : (u.cells.zipIdx.foldl (fun (cs : Array Value) (p : Value × Nat) => cs.setIfInBounds (off + p.2) p.1) c').toList = splice c'.toList off u.cells.toList := by
          rw [← Array.foldl_toList, Array.toList_zipIdx]
          exact foldl_set u.cells.toList off 0 c' (by simp; omega)
        obtain ⟨r', h1, h2⟩ := fill_rel (c' := u.cells.zipIdx.foldl (fun (cs : Array Value) (p : Value × Nat) => cs.setIfInBounds (off + p.2) p.1) c') hp (by rw [hset]; exact splice_rel hc hcr (by omega)) hf
        refine ⟨r', ?_, h2⟩
        rw [Instr.fill, hpl]
        simp only
        rw [if_neg (by simp; omega)]
        exact h1
      · cases hf
    · cases hf
  | [], (_, _) :: _, _, _, _, hp, _, _ => hp.elim
  | (_, _) :: _, [], _, _, _, hp, _, _ => hp.elim

/-- Where the parts of a struct or an array lie. -/
def placeOf (P : Program) (t : TypeId) (i : Nat) : Option (Nat × Nat) :=
  match P.underlying t with
  | some (.struct fs) => if fs.all (fun f => (P.info? f.type).isSome) then (fs[i]?).map (fun f => (f.offset, ((P.info? f.type).map (·.size)).getD 0)) else none
  | some (.array _ e) => (esz P e).map (fun n => (i * n, n))
  | _ => none

def buildK (P : Program) (t : TypeId) (parts : List (Nat × Value)) (K : Value → Prop) : Prop :=
  match zeroOf P t with
  | some z => (match fillL (placeOf P t) z parts with | some c => (parts = [] → placeOf P t 0 ≠ none) ∧ K (.agg c.toArray) | none => False)
  | none => False

theorem zeroOf_eq {P : Program} [Tabs P] {t : TypeId} {z : List Value} (h : zeroOf P t = some z) : ∃ i v, P.info? t = some i ∧ i.zero = some v ∧ v.cells.toList = z ∧ z.all atom = true := by
  unfold zeroOf at h
  cases hi : P.info? t with
  | none => simp [hi] at h
  | some i =>
    cases hz : i.zero with
    | none => simp [hi, hz] at h
    | some v =>
      simp only [hi, hz] at h
      split at h
      · rename_i ha; cases h; exact ⟨i, v, rfl, hz, rfl, ha⟩
      · cases h

theorem buildK_sound {P : Program} [Tabs P] {n : Nat} {ρ : Nat → Loc} {t : TypeId} {parts parts' : List (Nat × Value)} {K : Value → Prop} (hp : PRel n ρ parts parts') (hk : buildK P t parts K) :
    ∃ v v', K v ∧ VRel n ρ v v' ∧ ∀ w : World, (Instr.build t parts'.toArray).run P w = .ok v' w := by
  unfold buildK at hk
  split at hk
  · rename_i z hz
    obtain ⟨i, v, hi, hiz, hvz, hat⟩ := zeroOf_eq hz
    split at hk
    · rename_i c hf
      obtain ⟨hne, hk⟩ := hk
      obtain ⟨r', h1, h2⟩ := fill_rel (c' := v.cells) hp (by rw [hvz]; exact .atoms hat) hf
      refine ⟨_, .agg r', hk, by have := VRel.of_LRel h2; simpa using this, fun w => ?_⟩
      have hpl : ∃ x, placeOf P t x ≠ none := by
        cases parts with
        | nil => exact ⟨0, hne rfl⟩
        | cons p l =>
          refine ⟨p.1, fun e => ?_⟩
          simp [fillL, e] at hf
      obtain ⟨x, hx⟩ := hpl
      unfold placeOf at hx h1
      cases hu : P.underlying t with
      | none => simp [hu] at hx
      | some d =>
        simp only [hu] at hx h1
        cases d with
        | struct fs =>
          simp only at hx h1
          split at hx
          · rename_i hall
            simp only [hall, if_true] at h1
            have hm := run_mapM_array (P := P) (g := fun f : Field => do pure (f.offset, ← sizeOf f.type)) (g' := fun f => (f.offset, ((P.info? f.type).map (·.size)).getD 0)) fs w (fun f hf w => by
              have := Array.all_eq_true_iff_forall_mem.1 hall f hf
              obtain ⟨j, hj⟩ := Option.isSome_iff_exists.1 this
              simp [run_sizeOf hj, hj])
            simp only [Instr.build, Sem.run_bind, zeroValue, typeInfo, run_program, hi, Result.andThen_ok, Sem.run_pure, hiz, run_underlying hu, hm, List.toList_toArray]
            have e1 : (fun x : Nat => (fs.map (fun f : Field => (f.offset, ((P.info? f.type).map (·.size)).getD 0)))[x]?) = (fun x : Nat => (fs[x]?).map (fun f : Field => (f.offset, ((P.info? f.type).map (·.size)).getD 0))) := by funext x; simp
            rw [e1, h1]; rfl
          · exact absurd rfl hx
        | array len e =>
          simp only at hx h1
          cases he : esz P e with
          | none => simp [he] at hx
          | some m =>
            obtain ⟨inf, hinf, rfl⟩ := esz_eq he
            simp only [he, Option.map_some] at h1
            simp only [Instr.build, Sem.run_bind, zeroValue, typeInfo, run_program, hi, Result.andThen_ok, Sem.run_pure, hiz, run_underlying hu, run_sizeOf hinf, List.toList_toArray, h1]
        | _ => exact absurd rfl hx
    · exact hk.elim
  · exact hk.elim

def buildSliceK (P : Program) (h : Heap) (t : TypeId) (len : Nat) (parts : List (Nat × Value)) (K : Value → Heap → Prop) : Prop :=
  match elemOf' P t with
  | some e => (match zeroOf P e, esz P e with
    | some z, some sz => z.length = sz ∧ 0 < sz ∧ len * sz ≤ 16777216 ∧
        (match fillL (fun i => some (i * sz, sz)) (reps z len) parts with | some c => K (.slice (some ⟨h.length, 0, none⟩) len len) (h ++ [mkb c e]) | none => False)
    | _, _ => False)
  | none => False

theorem zeros_rel {n : Nat} {ρ : Nat → Loc} {z : Array Value} {m len : Nat} (hz : z.toList.all atom = true) (hs : z.size = m) (hm : 0 < m) : LRel n ρ (reps z.toList len) ((Array.range (len * m)).map (fun k => z[k % z.size]!)).toList := by
  refine ⟨by rw [reps_length]; simp [hs], fun k hk => ?_⟩
  rw [reps_length] at hk
  have hk' : k < len * m := by simpa [hs] using hk
  rw [reps_get _ _ _ hk]
  have hmod : k % z.size < z.size := Nat.mod_lt _ (by omega)
  have e1 : ((Array.range (len * m)).map (fun k => z[k % z.size]!)).toList.getD k undef = z.toList.getD (k % z.toList.length) undef := by
    simp [List.getD, hk', hmod]
  rw [e1]
  exact (LRel.atoms hz).2 _ (by simpa using hmod)

theorem buildSliceK_sound {P : Program} [Tabs P] {ρ : Nat → Loc} {h : Heap} {w : World} {t : TypeId} {len : Nat} {parts parts' : List (Nat × Value)} {K : Value → Heap → Prop} (s : Sim P ρ h w) (hp : PRel h.length ρ parts parts') (hk : buildSliceK P h t len parts K) :
    ∃ v v' h' ρ' w', K v h' ∧ (Instr.buildSlice t len parts'.toArray).run P w = .ok v' w' ∧ VRel h'.length ρ' v v' ∧ Sim P ρ' h' w' ∧ Evo h ρ w h' ρ' w' := by
  unfold buildSliceK at hk
  split at hk
  · rename_i e he
    split at hk
    · rename_i z sz hz hs
      obtain ⟨i, v, hi, hiz, hvz, hat⟩ := zeroOf_eq hz
      obtain ⟨inf, hinf, rfl⟩ := esz_eq hs
      rw [hi] at hinf; cases hinf
      obtain ⟨hzl, h0, hle, hk⟩ := hk
      split at hk
      · rename_i c hf
        have hvs : v.cells.size = i.size := by rw [← hzl, ← hvz]; simp
        obtain ⟨r', h1, h2⟩ := fill_rel (c' := (Array.range (len * i.size)).map (fun k => v.cells[k % v.cells.size]!)) hp (by rw [← hvz]; exact zeros_rel (by rw [hvz]; exact hat) hvs h0) hf
        obtain ⟨hS, hE⟩ := mkb_alloc s (c := c) (e := e) (c' := r') (es := i.size) (by have := h2.1; simp at this; omega) (fun k hk => by
          have := h2.2 k hk
          simpa [List.getD, Array.getD_eq_getD_getElem?] using this) (by simp [hi])
        refine ⟨_, .slice (some ⟨w.heap.size, 0, none⟩) len len, _, _, _, hk, ?_, ?_, hS, hE⟩
        · have t1 : ¬ (16777216 < len * i.size) := by omega
          by_cases hz0 : len * i.size = 0
          · have hl0 : len = 0 := by rcases Nat.mul_eq_zero.1 hz0 with h | h; exact h; omega
            subst hl0
            simp only [Nat.zero_mul, Array.range_zero'] at h1
            simp [Instr.buildSlice, run_underlying (elemOf'_eq he), run_sizeOf hi, Array.range_zero', newRow]
            simp at h1
            simp [h1]
          · simp [Instr.buildSlice, run_underlying (elemOf'_eq he), run_sizeOf hi, t1, hz0, zeroValue, typeInfo, hi, hiz, newRow, h1]
        · have := VRel.slice (n := (h ++ [mkb c e]).length) (ρ := Loc.upd ρ h.length ⟨w.heap.size, r'.size, i.size⟩) (b := h.length) (o := 0) (len := len) (cap := len) (by simp)
          rwa [Loc.upd_same] at this
      · exact hk.elim
    · exact hk.elim
  · exact hk.elim

/-- 'copy': the elements that fit. -/
def storesK (h : Heap) (b o : Nat) (ns : List Value) (K : Heap → Prop) : Prop :=
  ns.all one = true ∧ (match h[b]? with
    | some (.cells c e false) => o + ns.length ≤ c.length ∧ K (h.set b (.cells (splice c o ns) e false))
    | some (.ints xs e false) => (match intsOf ns with | some is => o + is.length ≤ xs.length ∧ K (h.set b (.ints (splice xs o is) e false)) | none => False)
    | _ => False)
def copyK (P : Program) (h : Heap) (t : TypeId) (d x : Value) (K : Value → Heap → Prop) : Prop :=
  match d, x with
  | .slice (some ⟨b, o, _⟩) l _, .slice (some ⟨b2, o2, _⟩) m _ => (match elemOf' P t with
    | some e => (match esz P e with | some sz => cellsK h b2 o2 (min m l * sz) (fun ns => storesK h b o ns (fun h' => K (vint (min m l)) h')) | none => False)
    | none => False)
  | _, _ => False
theorem storesK_sound {P : Program} [Tabs P] {ρ : Nat → Loc} {h : Heap} {w : World} {b o : Nat} {ns ns' : List Value} {K : Heap → Prop} (s : Sim P ρ h w) (hr : LRel h.length ρ ns ns') (hk : storesK h b o ns K) :
    ∃ h' w', K h' ∧ (storeCells ⟨(ρ b).blk, o, none⟩ ns').run P w = .ok () w' ∧ Sim P ρ h' w' ∧ Evo h ρ w h' ρ w' ∧ h'.length = h.length := by
  obtain ⟨h1, hk⟩ := hk
  split at hk
  · rename_i c e hb
    obtain ⟨w', g1, g2, g3⟩ := s.stores (b := .cells (splice c o ns) e false) (show view h b = some (c, e, false) by simp [view, hb, Blk.view]) rfl hk.1 hr (fun v hv => List.all_eq_true.1 h1 v hv)
    exact ⟨_, w', hk.2, g1, g2, g3, by simp⟩
  · rename_i xs e hb
    split at hk
    · rename_i is his
      have e1 := intsOf_eq his
      obtain ⟨w', g1, g2, g3⟩ := s.stores (o := o) (b := .ints (splice xs o is) e false) (c := xs.map vint) (e := e) (show view h b = some (xs.map vint, e, false) by simp [view, hb, Blk.view]) (by rw [e1]; simp [Blk.view, splice_map]) (by rw [e1]; simpa using hk.1) hr (fun v hv => List.all_eq_true.1 h1 v hv)
      exact ⟨_, w', hk.2, g1, g2, g3, by simp⟩
    · exact hk.elim
  · exact hk.elim
theorem copyK_sound {P : Program} [Tabs P] {ρ : Nat → Loc} {h : Heap} {w : World} {t t2 ty : TypeId} {d d' x x' : Value} {K : Value → Heap → Prop} (s : Sim P ρ h w) (hd : VRel h.length ρ d d') (hx : VRel h.length ρ x x') (hk : copyK P h t d x K) :
    ∃ r r' h' ρ' w', K r h' ∧ (Builtin.copy_ #[t, t2] ty #[d', x']).run P w = .ok r' w' ∧ VRel h'.length ρ' r r' ∧ Sim P ρ' h' w' ∧ Evo h ρ w h' ρ' w' := by
  unfold copyK at hk
  split at hk
  · rename_i b o sp l cp b2 o2 sp2 m cp2
    obtain ⟨hb, cap', _, _, _, rfl, _⟩ := hd.sl
    obtain ⟨hb2, cap2', _, _, _, rfl, _⟩ := hx.sl
    split at hk
    · rename_i e he
      split at hk
      · rename_i sz hs
        obtain ⟨inf, hinf, rfl⟩ := esz_eq hs
        obtain ⟨c, e2, ro, hv, hle, hk⟩ := cellsK_view hk
        obtain ⟨vs, hrun, hsz, hr⟩ := run_loadCells s hv hle
        obtain ⟨h', w', hK, g1, g2, g3, g4⟩ := storesK_sound s (ns' := vs.toList) ⟨by simp [hsz]; omega, fun k hk => by
          have := hr k (by simp at hk; omega)
          simpa [List.getD, Array.getD_eq_getD_getElem?] using this⟩ hk
        refine ⟨_, _, h', ρ, w', hK, ?_, .atom rfl, g2, g3⟩
        have e9 : Nat.min m l = min m l := rfl
        simp [Builtin.copy_, run_underlying (elemOf'_eq he), Builtin.lenOf, run_sizeOf hinf, Builtin.firstCells, e9, hrun w rfl, g1, goInt]
        omega
      · exact hk.elim
    · exact hk.elim
  · exact hk.elim
end Go.Am
