/-
  The abstract machine, part L: a region whose order Go leaves open comes to what its run in the text's order comes to.
-/
import Derived.Test.YtaagkbbphgdcdaaDoorAmK
set_option linter.all false
namespace Go.Am

theorem aop_weak {P : Program} [Tabs P] {op : Op} {E : Operand → Value} {h : Heap} {K : Value → Heap → Prop} (hk : aop P true op E h K) : aop P false op E h K := by
  by_cases hc : isCall op = false
  · cases op <;> first | exact hk | skip
    · rename_i fn _ _; cases fn <;> exact hk
    · rename_i c
      obtain ⟨callee, args, ats⟩ := c
      cases callee <;> first | exact hk | (simp [isCall] at hc)
  obtain ⟨f, args, ats, rfl⟩ := isCall_eq (by simpa using hc)
  simp only [aop, callK] at hk ⊢
  split at hk
  · obtain ⟨v, h', g1, g2⟩ := hk
    exact g1.mono fun v1 h1 ⟨e1, e2⟩ => by rw [e1, e2]; exact g2
  · exact hk

def edgesOf (ops : Array Oper) : List (List Nat) := ops.toList.map fun o => (o.after.toList.filter (Region.binds .any)).map (·.on)
def fwd (af : List (List Nat)) : Bool := af.zipIdx.all fun p => p.1.all fun e => decide (e < p.2)

theorem strip_get {ops : Array Oper} {i : Nat} {o : SOp} (h : (strip ops)[i]? = some o) : ∃ o', ops[i]? = some o' ∧ o.dst = o'.dst ∧ o.op = o'.op ∧ o.guard = o'.guard.map fun p => ((gslot ops p.1).getD 0, p.2) := by
  simp only [strip, List.getElem?_map, Option.map_eq_some_iff] at h
  obtain ⟨o', h1, rfl⟩ := h
  exact ⟨o', by simpa using h1, rfl, rfl, rfl⟩
theorem strip_get' {ops : Array Oper} {i : Nat} {o' : Oper} (h : ops[i]? = some o') : (strip ops)[i]? = some ⟨o'.dst, o'.op, o'.guard.map fun p => ((gslot ops p.1).getD 0, p.2)⟩ := by
  simp [strip, h]
theorem edges_get {ops : Array Oper} {i e : Nat} {o : Oper} (h : ops[i]? = some o) : e ∈ (edgesOf ops).getD i [] ↔ ∃ x ∈ o.after, Region.binds .any x = true ∧ x.on = e := by
  have : (edgesOf ops).getD i [] = (o.after.toList.filter (Region.binds .any)).map (·.on) := by simp [edgesOf, List.getD, h]
  rw [this]
  simp only [List.mem_map, List.mem_filter, Array.mem_toList_iff]
  constructor
  · rintro ⟨x, ⟨h1, h2⟩, rfl⟩; exact ⟨x, h1, h2, rfl⟩
  · rintro ⟨x, h1, h2, rfl⟩; exact ⟨x, ⟨h1, h2⟩, rfl⟩

theorem drawOK_spec {l : List SOp} {af : List (List Nat)} {qs : List (Nat × Nat)} (h : drawOK l af qs = true) {i j : Nat} {oi oj : SOp} (hi : l[i]? = some oi) (hj : l[j]? = some oj) (hij : i < j) (hc : clash (cls qs i oi.op) (cls qs j oj.op) oi oj = true) :
    ((bitsAux [] af).getD j 0).testBit i = true := by
  simp only [drawOK] at h
  have h1 := List.all_eq_true.1 h (oj, j) (by rw [List.mem_zipIdx_iff_getElem?]; exact hj)
  have h2 := List.all_eq_true.1 h1 (oi, i) (by rw [List.mem_zipIdx_iff_getElem?]; exact hi)
  simpa [hij, hc] using h2

/-- The state of a region that is under way. -/
structure Mid (P : Program) [Tabs P] (qs : List (Nat × Nat)) (ops : Array Oper) (tr : List (Value × Heap)) (e0 : Env) (h0 : Heap) (ρ0 : Nat → Loc) (w0 : World) (r : Option Nat) (m sz : Nat) (listed : Array Bool) (a : Act) (w : World) : Prop where
  size : listed.size = ops.size
  closed : ∀ j, listed.getD j false = true → ∀ e ∈ (edgesOf ops).getD j [], listed.getD e false = true
  st : ∃ ρ e h, Evo h0 ρ0 w0 h ρ w ∧ Sim P ρ h w ∧ ARel r m sz ρ h e a w ∧
    (∀ t, ∃ k, sget e t = sget (envAt (strip ops) tr e0 k) t ∧ ∀ i o, (strip ops)[i]? = some o → o.dst = some t → (listed.getD i false = true ↔ i < k)) ∧
    (∃ k, h = heapAt tr h0 k ∧ ∀ i o, (strip ops)[i]? = some o → cls qs i o.op = 3 → (listed.getD i false = true ↔ i < k))

section
variable {P : Program} [Tabs P] {R : Heap → Prop} {qs : List (Nat × Nat)} {ops : Array Oper} {tr : List (Value × Heap)} {e0 : Env} {h0 : Heap} {ρ0 : Nat → Loc} {w0 : World} {r : Option Nat} {m sz : Nat}

theorem getD_set_iff {listed : Array Bool} {i j : Nat} (hi : i < listed.size) : ((listed.setIfInBounds i true).getD j false = true) ↔ (j = i ∨ listed.getD j false = true) := by
  by_cases h : j = i
  · subst h; simp [Array.getD_eq_getD_getElem?, hi]
  · simp [Array.getD_eq_getD_getElem?, Array.getElem?_setIfInBounds_ne (Ne.symm h), h]

/-- Where no effect stands, the heap stays. -/
theorem step_same {c : Nat} {o : SOp} {e : Env} {h h' : Heap} {v : Value} (g : StepD P R c o e h v h') (hne : c ≠ 3) : h' = h := by
  unfold StepD at g
  split at g
  · exact g.2.1 hne
  · rename_i d want _
    obtain ⟨b, _, g3, g4⟩ := g
    by_cases hb : b = some want
    · exact (g3 hb).2.1 hne
    · exact (g4 hb).2
theorem trace_same (hsp : ∀ k o, (strip ops)[k]? = some o → ∃ v, tr[k]? = some (v, heapAt tr h0 (k + 1)) ∧ StepD P R (cls qs k o.op) o (envAt (strip ops) tr e0 k) (heapAt tr h0 k) v (heapAt tr h0 (k + 1)))
    (htl : tr.length = (strip ops).length) : ∀ k, k < tr.length → ¬ (∃ o, (strip ops)[k]? = some o ∧ cls qs k o.op = 3) → heapAt tr h0 (k + 1) = heapAt tr h0 k := by
  intro k hk hX
  have hkl : k < (strip ops).length := by omega
  obtain ⟨v, g1, g2⟩ := hsp k _ (List.getElem?_eq_getElem hkl)
  exact step_same g2 fun hc => hX ⟨_, List.getElem?_eq_getElem hkl, hc⟩

theorem mid_step {n : Nat} {Qx : Exit → Act → World → Prop} {listed : Array Bool} {a : Act} {w : World} {i : Nat} (hok : ∀ o ∈ ops.toList, opsOK sz ops o = true) (hd : drawOK (strip ops) (edgesOf ops) qs = true)
    (hsp : ∀ o, (strip ops)[i]? = some o → ∃ v, tr[i]? = some (v, heapAt tr h0 (i + 1)) ∧ StepD P R (cls qs i o.op) o (envAt (strip ops) tr e0 i) (heapAt tr h0 i) v (heapAt tr h0 (i + 1)))
    (hXs : ∀ k, k < tr.length → ¬ (∃ o, (strip ops)[k]? = some o ∧ cls qs k o.op = 3) → heapAt tr h0 (k + 1) = heapAt tr h0 k) (hm : m ≤ w0.heap.size)
    (hR : ∀ k o, (strip ops)[i]? = some o → cls qs i o.op = 2 → listed.getD i false = false → (∀ j oj, (strip ops)[j]? = some oj → cls qs j oj.op = 3 → (listed.getD j false = true ↔ j < k)) → R (heapAt tr h0 k))
    (M : Mid P qs ops tr e0 h0 ρ0 w0 r m sz listed a w) (hi : i ∈ Region.ready .any ops listed) (K : Act → World → Prop) (hK : ∀ a' w', Mid P qs ops tr e0 h0 ρ0 w0 r m sz (listed.setIfInBounds i true) a' w' → K a' w') :
    wpOpIn (fence r) n P ops Qx i K a w := by
  obtain ⟨hi0, o', ho', hpre⟩ := mem_ready.1 hi
  have hil : i < listed.size := by
    rcases Nat.lt_or_ge i listed.size with h | h
    · exact h
    · simp [Array.getD_eq_getD_getElem?, Array.getElem?_eq_none h] at hi0
  have hiS : ¬ listed.getD i false = true := by
    simp [Array.getD_eq_getD_getElem?, hil] at hi0 ⊢; exact hi0
  have hedge : ∀ e ∈ (edgesOf ops).getD i [], listed.getD e false = true := fun e he => by
    obtain ⟨x, h1, h2, rfl⟩ := (edges_get ho').1 he; exact hpre x h1 h2
  obtain ⟨ρ, e, h, hE, hS, hA, hslot, kh, hheap, hheapS⟩ := M.st
  have hso := strip_get' ho'
  obtain ⟨o, hoeq⟩ : ∃ o : SOp, o = ⟨o'.dst, o'.op, o'.guard.map fun p => ((gslot ops p.1).getD 0, p.2)⟩ := ⟨_, rfl⟩
  rw [← hoeq] at hso
  have hodst : o.dst = o'.dst := by rw [hoeq]
  have hoop : o.op = o'.op := by rw [hoeq]
  have hmem : o' ∈ ops.toList := by rw [Array.mem_toList_iff]; exact Array.mem_of_getElem? ho'
  have hok' := hok o' hmem
  -- who clashes with i is listed just if it stands ahead in the text
  have hcl : ∀ j oj, (strip ops)[j]? = some oj → j ≠ i → (clash (cls qs j oj.op) (cls qs i o.op) oj o = true ∨ clash (cls qs i o.op) (cls qs j oj.op) o oj = true) → (clash (cls qs j oj.op) (cls qs i o.op) oj o = true ∧ clash (cls qs i o.op) (cls qs j oj.op) o oj = true) →
      (listed.getD j false = true ↔ j < i) := by
    intro j oj hj hne _ hc
    rcases Nat.lt_or_gt_of_ne hne with hlt | hgt
    · have hb := drawOK_spec hd hj hso hlt hc.1
      exact ⟨fun _ => hlt, fun _ => ahead (S := fun j => listed.getD j false = true) M.closed i j hedge hb⟩
    · have hb := drawOK_spec hd hso hj hgt hc.2
      exact ⟨fun hjS => absurd (ahead (S := fun j => listed.getD j false = true) M.closed j i (M.closed j hjS) hb) hiS, fun h => by omega⟩
  have wread : ∀ t j oj, t ∈ reads o → (strip ops)[j]? = some oj → oj.dst = some t → (listed.getD j false = true ↔ j < i) := by
    intro t j oj ht hj hdt
    by_cases hne : j = i
    · subst hne; exact ⟨fun h => absurd h hiS, fun h => by omega⟩
    · have c1 : clash (cls qs j oj.op) (cls qs i o.op) oj o = true := by simp [clash, hdt, ht]
      have c2 : clash (cls qs i o.op) (cls qs j oj.op) o oj = true := by simp [clash, hdt, ht]
      exact hcl j oj hj hne (.inl c1) ⟨c1, c2⟩
  have wwrite : ∀ t j oj, o.dst = some t → (strip ops)[j]? = some oj → oj.dst = some t → j ≠ i → (listed.getD j false = true ↔ j < i) := by
    intro t j oj ht hj hdt hne
    have c1 : clash (cls qs j oj.op) (cls qs i o.op) oj o = true := by simp [clash, hdt, ht]
    have c2 : clash (cls qs i o.op) (cls qs j oj.op) o oj = true := by simp [clash, hdt, ht]
    exact hcl j oj hj hne (.inl c1) ⟨c1, c2⟩
  have wheap : ∀ j oj, (cls qs i o.op = 3 ∨ cls qs i o.op = 1) → (strip ops)[j]? = some oj → cls qs j oj.op = 3 → (listed.getD j false = true ↔ j < i) := by
    intro j oj hc hj hx
    by_cases hne : j = i
    · subst hne; exact ⟨fun h => absurd h hiS, fun h => by omega⟩
    · have c1 : clash (cls qs j oj.op) (cls qs i o.op) oj o = true := by rcases hc with hc | hc <;> simp [clash, hx, hc]
      have c2 : clash (cls qs i o.op) (cls qs j oj.op) o oj = true := by rcases hc with hc | hc <;> simp [clash, hx, hc]
      exact hcl j oj hj hne (.inl c1) ⟨c1, c2⟩
  have hread : ∀ t, t ∈ reads o → sget e t = sget (envAt (strip ops) tr e0 i) t := by
    intro t ht
    obtain ⟨k, h1, h2⟩ := hslot t
    rw [h1]
    exact envAt_eq fun j oj hj hdt => by rw [← h2 j oj hj hdt]; exact wread t j oj ht hj hdt
  have hheapi : (cls qs i o.op = 3 ∨ cls qs i o.op = 1) → h = heapAt tr h0 i := by
    intro hc
    rw [hheap]
    exact heapAt_eq (X := fun k => ∃ o, (strip ops)[k]? = some o ∧ cls qs k o.op = 3) hXs fun j ⟨oj, hj, hx⟩ => by rw [← hheapS j oj hj hx]; exact wheap j oj hc hj hx
  obtain ⟨v, htr, hstep⟩ := hsp o hso
  -- the next state
  have next : ∀ (h1 : Heap), (cls qs i o.op = 3 → h1 = heapAt tr h0 (i + 1)) → (cls qs i o.op ≠ 3 → h1 = h) → ∀ ρ' a' w', Evo h ρ w h1 ρ' w' → Sim P ρ' h1 w' → ARel r m sz ρ' h1 (sputO e o.dst v) a' w' → K a' w' := by
    intro h1 hc3 hcn ρ' a' w' g1 g2 g3
    refine hK a' w' ⟨by simp [M.size], fun j hj e' he' => ?_, ρ', _, h1, hE.trans g1, g2, g3, fun t => ?_, ?_⟩
    · rw [getD_set_iff hil] at hj ⊢
      rcases hj with rfl | hj
      · exact .inr (hedge e' he')
      · exact .inr (M.closed j hj e' he')
    · by_cases hdt : o.dst = some t
      · refine ⟨i + 1, ?_, fun j oj hj hdj => ?_⟩
        · rw [sget_sputO, if_pos hdt]
          show v = sget (match (strip ops)[i]?, tr[i]? with | some o, some (v, _) => sputO (envAt (strip ops) tr e0 i) o.dst v | _, _ => envAt (strip ops) tr e0 i) t
          rw [hso, htr]
          simp only
          rw [sget_sputO, if_pos hdt]
        · rw [getD_set_iff hil]
          by_cases hne : j = i
          · subst hne; exact ⟨fun _ => by omega, fun _ => .inl rfl⟩
          · rw [wwrite t j oj hdt hj hdj hne]; omega
      · obtain ⟨k, k1, k2⟩ := hslot t
        refine ⟨k, by rw [sget_sputO, if_neg hdt]; exact k1, fun j oj hj hdj => ?_⟩
        rw [getD_set_iff hil, ← k2 j oj hj hdj]
        have hne : j ≠ i := fun he => by subst he; rw [hso] at hj; cases hj; exact hdt hdj
        simp [hne]
    · by_cases hc : cls qs i o.op = 3
      · refine ⟨i + 1, hc3 hc, fun j oj hj hx => ?_⟩
        rw [getD_set_iff hil]
        by_cases hne : j = i
        · subst hne; exact ⟨fun _ => by omega, fun _ => .inl rfl⟩
        · rw [wheap j oj (.inl hc) hj hx]; omega
      · refine ⟨kh, (hcn hc).trans hheap, fun j oj hj hx => ?_⟩
        rw [getD_set_iff hil, ← hheapS j oj hj hx]
        have hne : j ≠ i := fun he => by subst he; rw [hso] at hj; cases hj; exact hc hx
        simp [hne]
  have hmw : m ≤ w.heap.size := Nat.le_trans hm hE.wsize
  simp only [opsOK, Bool.and_eq_true] at hok'
  have opE : ∀ x ∈ o.op.operands.toList, ev e x = ev (envAt (strip ops) tr e0 i) x := by
    intro x hx
    cases x with
    | tmp t => exact hread t (by simp only [reads, List.mem_append, List.mem_filterMap]; exact .inl ⟨.tmp t, hx, rfl⟩)
    | _ => rfl
  have run : ((∀ K : Value → Heap → Prop, K v (heapAt tr h0 (i + 1)) → aop P true o.op (ev (envAt (strip ops) tr e0 i)) (heapAt tr h0 i) K) ∧ (cls qs i o.op ≠ 3 → heapAt tr h0 (i + 1) = heapAt tr h0 i) ∧
      (cls qs i o.op = 0 → ∀ (h1 : Heap) (K : Value → Heap → Prop), K v h1 → aop P true o.op (ev (envAt (strip ops) tr e0 i)) h1 K) ∧ (cls qs i o.op = 2 → ∀ (h1 : Heap) (K : Value → Heap → Prop), R h1 → K v h1 → aop P true o.op (ev (envAt (strip ops) tr e0 i)) h1 K)) → o'.wpIn (fence r) n P a w K Qx := by
    rintro ⟨s1, s2, s3, s4⟩
    have fin : ∀ (h1 : Heap), (cls qs i o.op = 3 → h1 = heapAt tr h0 (i + 1)) → (cls qs i o.op ≠ 3 → h1 = h) → aop P true o.op (ev (envAt (strip ops) tr e0 i)) h (fun v' h' => v' = v ∧ h' = h1) → o'.wpIn (fence r) n P a w K Qx := by
      intro h1 c3 cn hk
      have hk2 : aop P false o'.op (ev e) h (fun v' h' => (fun e1 h2 => e1 = sputO e o.dst v ∧ h2 = h1) (sputO e o'.dst v') h') := by
        rw [← aop_congr (E := ev e) (E' := ev (envAt (strip ops) tr e0 i)) opE] at hk
        rw [← hoop]
        have := aop_weak (aop_mono hk (K' := fun v' h' => (fun e1 h2 => e1 = sputO e o.dst v ∧ h2 = h1) (sputO e o'.dst v') h') (fun v' h' ⟨g1, g2⟩ => by rw [g1, g2, hodst]; exact ⟨rfl, rfl⟩))
        exact this
      refine Oper.wpIn_mono ?_ (op_ok (P := P) (sz := sz) (K := fun e1 h2 => e1 = sputO e o.dst v ∧ h2 = h1) hok'.1 hk2 r n m ρ a w hmw hS hA Qx)
      rintro a' w' ⟨ρ', e', h', ⟨rfl, rfl⟩, g2, g3, g4⟩
      exact next _ c3 cn ρ' a' w' g2 g3 g4
    rcases cls_cases qs i o.op with ⟨hc, _⟩ | hc | hc | hc
    · exact fin h (fun h => by rw [hc] at h; cases h) (fun _ => rfl) (s3 hc h _ ⟨rfl, rfl⟩)
    · have := hheapi (.inr hc)
      refine fin h (fun h => by rw [hc] at h; cases h) (fun _ => rfl) ?_
      rw [this]
      exact s1 _ ⟨rfl, s2 (by rw [hc]; simp)⟩
    · exact fin h (fun h => by rw [hc] at h; cases h) (fun _ => rfl) (s4 hc h _ (hheap ▸ hR kh o hso hc (by simpa using hiS) hheapS) ⟨rfl, rfl⟩)
    · have := hheapi (.inl hc)
      refine fin (heapAt tr h0 (i + 1)) (fun _ => rfl) (fun h => absurd hc h) ?_
      rw [this]
      exact s1 _ ⟨rfl, rfl⟩
  unfold wpOpIn
  rw [ho']
  simp only
  unfold StepD at hstep
  cases hg : o'.guard with
  | none =>
    have hog : o.guard = none := by rw [hoeq, hg]; rfl
    simp only [hog] at hstep
    rw [if_pos (by simp [Region.wanted, hg])]
    exact run hstep
  | some p =>
    obtain ⟨j, want⟩ := p
    simp only [hg] at hok'
    cases hsl : gslot ops j with
    | none => simp [hsl] at hok'
    | some d =>
      have hog : o.guard = some (d, want) := by rw [hoeq, hg]; simp [hsl]
      simp only [hog] at hstep
      obtain ⟨b, hb, k1, k2⟩ := hstep
      have hdr : d ∈ reads o := by simp [reads, hog]
      rw [← hread d hdr] at hb
      have hdl : d < sz := by simpa [hsl] using hok'.2
      have hr := hA.env d (by rw [hA.size]; exact hdl)
      rw [hb] at hr
      have hv := hr.gv
      have hy : yielded ops a.tmps j = b := by
        have hlt : d < a.tmps.size := by rw [hA.size]; exact hdl
        unfold yielded
        unfold gslot at hsl
        rw [hsl]
        have e1 : a.tmps.getD d undef = a.tmps[d] := by simp [Array.getD_eq_getD_getElem?, hlt]
        rw [e1] at hv
        simp only [Option.bind_some, Array.getElem?_eq_getElem hlt]
        rw [← hv]; cases a.tmps[d] <;> rfl
      by_cases hbw : b = some want
      · rw [if_pos (by simp [Region.wanted, hg, hy, hbw])]
        exact run (k1 hbw)
      · rw [if_neg (by simp [Region.wanted, hg, hy, hbw])]
        obtain ⟨g1, g2⟩ := k2 hbw
        subst g1
        refine ⟨fun _ _ => trivial, next h (fun hc => ?_) (fun _ => rfl) ρ _ w (.refl _ _ _) hS ?_⟩
        · rw [g2]; exact hheapi (.inl hc)
        · rw [← hodst]; exact hA.put .skip

theorem mid_run {n : Nat} {Qx : Exit → Act → World → Prop} (hok : ∀ o ∈ ops.toList, opsOK sz ops o = true) (hd : drawOK (strip ops) (edgesOf ops) qs = true) (hf : fwd (edgesOf ops) = true)
    (hsp : ∀ k o, (strip ops)[k]? = some o → ∃ v, tr[k]? = some (v, heapAt tr h0 (k + 1)) ∧ StepD P R (cls qs k o.op) o (envAt (strip ops) tr e0 k) (heapAt tr h0 k) v (heapAt tr h0 (k + 1)))
    (htl : tr.length = (strip ops).length) (hm : m ≤ w0.heap.size) (hR : ∀ k, R (heapAt tr h0 k))
    (hQ : ∀ listed a w, Mid P qs ops tr e0 h0 ρ0 w0 r m sz listed a w → (∀ j, j < ops.size → listed.getD j false = true) → Qx .normal a w) :
    ∀ (fuel : Nat) (listed : Array Bool) (a : Act) (w : World), (listed.toList.filter (!·)).length ≤ fuel → Mid P qs ops tr e0 h0 ρ0 w0 r m sz listed a w → wpAnyIn (fence r) n P .any ops Qx fuel listed a w := by
  intro fuel
  have allOf : ∀ (listed : Array Bool) (a : Act) (w : World), Mid P qs ops tr e0 h0 ρ0 w0 r m sz listed a w → Region.ready .any ops listed = [] → Qx .normal a w := by
    intro listed a w M hr
    refine hQ listed a w M fun j hj => ?_
    induction j using Nat.strongRecOn with
    | _ j ih =>
      by_cases hjS : listed.getD j false = true
      · exact hjS
      · have hjl : j < listed.size := by rw [M.size]; exact hj
        have : j ∈ Region.ready .any ops listed := mem_ready.2 ⟨by simpa [Array.getD_eq_getD_getElem?, hjl] using hjS, ops[j], by simp [hj], fun x hx hb => by
          have he : x.on ∈ (edgesOf ops).getD j [] := (edges_get (by simp [hj])).2 ⟨x, hx, hb, rfl⟩
          have hlt : x.on < j := by
            have hjl2 : j < (edgesOf ops).length := by simp [edgesOf]; exact hj
            have h1 := List.all_eq_true.1 hf ((edgesOf ops)[j], j) (by rw [List.mem_zipIdx_iff_getElem?]; simp [List.getElem?_eq_getElem hjl2])
            have he' : x.on ∈ (edgesOf ops)[j] := by simpa [List.getD, List.getElem?_eq_getElem hjl2] using he
            simpa using List.all_eq_true.1 h1 x.on he'
          exact ih x.on hlt (by omega)⟩
        rw [hr] at this; cases this
  induction fuel with
  | zero =>
    intro listed a w hl M
    have hall : ∀ j, listed.getD j true = true := by
      intro j
      have he : listed.toList.filter (!·) = [] := List.length_eq_zero_iff.1 (Nat.le_zero.1 hl)
      rcases Nat.lt_or_ge j listed.size with h | h
      · have := List.filter_eq_nil_iff.1 he listed[j] (by simp)
        simpa [Array.getD_eq_getD_getElem?, h] using this
      · simp [Array.getD_eq_getD_getElem?, Array.getElem?_eq_none h]
    have hr : Region.ready .any ops listed = [] := by
      rw [List.eq_nil_iff_forall_not_mem]
      intro j hj
      have := (mem_ready.1 hj).1
      rw [hall j] at this; cases this
    exact ⟨hr, allOf listed a w M hr⟩
  | succ fuel ih =>
    intro listed a w hl M
    refine ⟨allOf listed a w M, fun i hi => mid_step hok hd (hsp i) (trace_same hsp htl) hm (fun k _ _ _ _ _ => hR k) M hi _ fun a' w' M' => ih _ a' w' ?_ M'⟩
    have hi0 := (mem_ready.1 hi).1
    have hil : i < listed.size := by
      rcases Nat.lt_or_ge i listed.size with h | h
      · exact h
      · simp [Array.getD_eq_getD_getElem?, Array.getElem?_eq_none h] at hi0
    have hv : listed[i] = false := by simpa [Array.getD_eq_getD_getElem?, hil] using hi0
    have e1 : listed.toList = listed.toList.take i ++ false :: listed.toList.drop (i + 1) := by
      have := List.take_append_drop i listed.toList
      rw [List.drop_eq_getElem_cons (by simpa using hil)] at this
      simpa [hv] using this.symm
    have e2 : (listed.setIfInBounds i true).toList = listed.toList.take i ++ true :: listed.toList.drop (i + 1) := by
      rw [Array.toList_setIfInBounds]
      exact (List.set_eq_take_append_cons_drop ..).trans (by rw [if_pos (by simpa using hil)])
    rw [e2]
    rw [e1] at hl
    simp only [List.filter_append, List.filter_cons, Bool.not_false, Bool.not_true, if_true, List.length_append, List.length_cons] at hl ⊢
    simp at hl ⊢
    omega
end

/-- **A region whose order is drawn.** -/
theorem awp_draw {P : Program} [Tabs P] {sz id : Nat} {ops : Array Oper} {Q : Exit → Env → Heap → Prop} {e : Env} {h : Heap} (qs : List (Nat × Nat)) (hm : P.follows .mixedOrders = true) (hok : ops.toList.all (opsOK sz ops) = true)
    (hd : drawOK (strip ops) (edgesOf ops) qs = true) (hf : fwd (edgesOf ops) = true) (hk : dops P qs (Q .normal) 0 (strip ops) e h) : AWP P sz (.region id ops true) Q e h := by
  intro r n m ρ a w hmm s x
  obtain ⟨tr, e', h', ht, hN⟩ := dops_trace _ _ _ _ hk
  obtain ⟨htl, hE, hH, hsp⟩ := ht.spec
  simp only [Nat.zero_add] at hsp
  obtain ⟨s1, e1⟩ := drew_sim s
  refine wpIn_region_any hm (mid_run (ρ0 := ρ) (w0 := w) (fun o ho => List.all_eq_true.1 hok o ho) hd hf hsp htl hmm (fun _ => trivial) ?_ ops.size (Array.replicate ops.size false) a { w with drawn := w.drawn + 1 } ?_ ?_)
  · intro listed a1 w1 M hall
    obtain ⟨ρ1, ee, hh, g1, g2, g3, g4, k, g5, g6⟩ := M.st
    have hlen : (strip ops).length = ops.size := by simp [strip]
    have hSall : ∀ j o, (strip ops)[j]? = some o → j < ops.size := fun j o hj => by rw [← hlen]; exact (List.getElem?_eq_some_iff.1 hj).1
    have hheap : hh = h' := by
      rw [g5, ← hH]
      refine heapAt_eq (X := fun k => ∃ o, (strip ops)[k]? = some o ∧ cls qs k o.op = 3) ?_ fun j ⟨oj, hj, hx⟩ => ?_
      · intro k hk hX
        have hkl : k < (strip ops).length := by omega
        obtain ⟨v, q1, q2⟩ := hsp k _ (List.getElem?_eq_getElem hkl)
        have hne : cls qs k (strip ops)[k].op ≠ 3 := fun hc => hX ⟨_, List.getElem?_eq_getElem hkl, hc⟩
        unfold StepD at q2
        split at q2
        · exact q2.2.1 hne
        · rename_i d want _
          obtain ⟨b, _, q3, q4⟩ := q2
          by_cases hb : b = some want
          · exact (q3 hb).2.1 hne
          · exact (q4 hb).2
      · have := (g6 j oj hj hx).1 (hall j (hSall j oj hj))
        have := hSall j oj hj
        constructor <;> intro <;> omega
    refine ⟨ρ1, e', hh, by rw [hheap]; exact hN, g1, g2, g3.size, fun t ht => ?_, g3.marks, g3.round⟩
    obtain ⟨k2, q1, q2⟩ := g4 t
    have : sget e' t = sget ee t := by
      rw [q1, ← hE]
      exact envAt_eq fun j oj hj hdt => by
        have := (q2 j oj hj hdt).1 (hall j (hSall j oj hj))
        have := hSall j oj hj
        constructor <;> intro <;> omega
    rw [this]; exact g3.env t ht
  · have := List.length_filter_le (!·) (Array.replicate ops.size false).toList
    simpa using this
  · refine ⟨by simp, fun j hj => ?_, ρ, e, h, e1, s1, ⟨x.size, x.env, x.marks, x.round⟩, fun t => ⟨0, rfl, fun i o _ _ => ?_⟩, 0, rfl, fun i o _ _ => ?_⟩
    · simp [Array.getD_eq_getD_getElem?, Array.getElem?_replicate] at hj
      split at hj <;> simp at hj
    · simp only [Array.getD_eq_getD_getElem?, Array.getElem?_replicate]
      split <;> simp
    · simp only [Array.getD_eq_getD_getElem?, Array.getElem?_replicate]
      split <;> simp

/-- On stripped code. -/
theorem aw_draw {P : Program} [Tabs P] {sz : Nat} {l : List SOp} {af : List (List Nat)} {Q : Exit → Env → Heap → Prop} {e : Env} {h : Heap} (qs : List (Nat × Nat)) (hm : P.follows .mixedOrders = true)
    (hd : drawOK l af qs = true) (hf : fwd af = true) (hk : dops P qs (Q .normal) 0 l e h) : aw P sz (.draw l af) Q e h := by
  intro c hc hok
  cases c with
  | region id ops d =>
    cases d with
    | false => simp [stripC] at hc
    | true =>
      simp only [stripC, SCode.draw.injEq] at hc
      obtain ⟨h1, h2⟩ := hc
      have h2' : edgesOf ops = af := h2
      subst h1
      rw [← h2'] at hd hf
      exact awp_draw qs hm hok hd hf hk
  | _ => simp [stripC] at hc
end Go.Am
