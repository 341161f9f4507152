/-
  The abstract machine, part Y b: in a region whose order Go leaves open a slice of one element may be laid earlier than the text says (as AmY's variable).
-/
import Derived.Test.YtemmcfeekpblkaaDoorPk4
set_option linter.all false
namespace Go.Am

section
variable {P : Program} [Tabs P] {R : Heap → Prop} {qs : List (Nat × Nat)} {ops : Array Oper} {af : List (List Nat)} {tr : List (Value × Heap)} {e0 : Env} {h0 hb : Heap} {ρ0 : Nat → Loc} {w0 : World} {r : Option Nat} {m sz : Nat}
/-- A block that lies there gets its name. -/
theorem sim_nameB {h : Heap} {ρ : Nat → Loc} {w : World} {l : Loc} {c : List Value} {c' : Array Value} {t : TypeId} (s : Sim P ρ h w) (hc : w.heap[l.blk]? = some (.cells c' t (0, 0))) (hsz : c'.size = l.sz) (hle : c.length ≤ c'.size)
    (hr : ∀ k, k < c.length → VRel h.length ρ (c.getD k undef) (c'.getD k undef)) {B : Blk} (hBv : B.view = some (c, t, false)) (hBs : B.side = false) (he : (P.info? t).map (·.size) = some l.es) (hL : ¬ Live h ρ l.blk) (htab : ∀ p ∈ Tabs.tabs P, p.1 ≠ l.blk) :
    Sim P (Loc.upd ρ h.length l) (h ++ [B]) w := by
  have hag : ∀ i, i < h.length → Loc.upd ρ h.length l i = ρ i := fun i hi => Loc.upd_lt ρ _ hi
  refine ⟨?_, ?_, ?_, fun p hp => ⟨(s.tab p hp).1, ?_⟩⟩
  rotate_left
  · intro i b1 hi1 hb1
    rcases List.getElem?_append_left_or hi1 with ⟨hi, h2⟩ | h2
    · obtain ⟨o, h3, h4⟩ := s.sides i b1 h2 hb1
      rw [hag i hi]
      exact ⟨o, h3, h4.mono (by simp) hag⟩
    · rw [h2, hBs] at hb1; cases hb1
  rotate_left 2
  · intro i c1 e1 ro1 hv hns
    rcases view_snoc hv with ⟨hi, hv1⟩ | ⟨rfl, hv1⟩
    · obtain ⟨c2, fr, g1, g2, g3, g4, g5⟩ := s.cells i c1 e1 ro1 hv1 (by rw [side_append hi] at hns; exact hns)
      rw [hag i hi]
      exact ⟨c2, fr, g1, g2, g3, fun k hk => (g4 k hk).mono (by simp) hag, g5⟩
    · rw [hBv] at hv1; cases hv1
      rw [Loc.upd_same]
      exact ⟨c', (0, 0), hc, hsz, hle, fun k hk => (hr k hk).mono (by simp) hag, fun _ => ⟨rfl, he⟩⟩
  · intro i j x y hi hj hij
    rcases view_snoc hi with ⟨hi1, hi2⟩ | ⟨rfl, hi2⟩ <;> rcases view_snoc hj with ⟨hj1, hj2⟩ | ⟨rfl, hj2⟩
    · rw [hag i hi1, hag j hj1] at hij; exact s.inj i j x y hi2 hj2 hij
    · rw [hag i hi1, Loc.upd_same] at hij; exact absurd ⟨i, x, hi2, hij⟩ hL
    · rw [hag j hj1, Loc.upd_same] at hij; exact absurd ⟨j, y, hj2, hij.symm⟩ hL
    · rfl
  · rintro ⟨i, c1, e1, hv, hk⟩
    rcases view_snoc hv with ⟨hi, hv1⟩ | ⟨rfl, hv1⟩
    · rw [hag i hi] at hk; exact (s.tab p hp).2 ⟨i, c1, e1, hv1, hk⟩
    · rw [Loc.upd_same] at hk; exact htab p hp hk.symm
theorem evo_nameB {hx h : Heap} {ρx ρ : Nat → Loc} {wx w : World} {l : Loc} {B : Blk} (hE : Evo hx ρx wx h ρ w) (hge : wx.heap.size ≤ l.blk) : Evo hx ρx wx (h ++ [B]) (Loc.upd ρ h.length l) w := by
  have hag : ∀ i, i < h.length → Loc.upd ρ h.length l i = ρ i := fun i hi => Loc.upd_lt ρ _ hi
  refine ⟨by have := hE.len; simp; omega, fun i hi => by rw [hag i (Nat.lt_of_lt_of_le hi hE.len)]; exact hE.agree i hi, hE.wsize, hE.os, hE.tape, hE.output, hE.keep, ?_, ?_⟩
  · rintro k ⟨i, c1, e1, hv, rfl⟩
    rcases view_snoc hv with ⟨hi, hv1⟩ | ⟨rfl, hv1⟩
    · exact hE.orig _ ⟨i, c1, e1, hv1, by rw [hag i hi]⟩
    · left; rw [Loc.upd_same]; exact hge
  · rintro k ⟨i, x1, hv, rfl⟩
    rcases view_snoc hv with ⟨hi, hv1⟩ | ⟨rfl, hv1⟩
    · exact hE.live _ ⟨i, x1, hv1, by rw [hag i hi]⟩
    · left; rw [Loc.upd_same]; exact hge

/-- As earlyOK; who writes what it lays is held behind it. -/
def layOK (l : List SOp) (af : List (List Nat)) (z d x : Nat) (X : List Nat) : Bool :=
  (match l[z]? with | some ⟨some d', .buildSlice _ 1 ps, none⟩ => d' == d && (match ps.toList with | [(0, .tmp x')] => x' == x | _ => false) | _ => false) && decide (z < af.length) && X.all (fun k => decide (k < z)) && l.zipIdx.all (fun p => p.2 == z || p.1.dst != some d) &&
  l.zipIdx.all (fun p => !(af.getD p.2 []).contains z || X.all fun k => ((bitsAux [] af).getD p.2 0).testBit k) && l.zipIdx.all (fun p => p.1.dst != some x || ((af.getD z []).contains p.2 && decide (p.2 < z)))
/-- The block lies there, but bears no name yet. -/
structure PendB (P : Program) [Tabs P] (qs : List (Nat × Nat)) (ops : Array Oper) (af : List (List Nat)) (tr : List (Value × Heap)) (e0 : Env) (h0 : Heap) (ρ0 : Nat → Loc) (w0 : World) (r : Option Nat) (m sz : Nat) (z d : Nat) (t : TypeId) (c : List Value) (X : List Nat) (listed : Array Bool) (a : Act) (w : World) : Prop where
  size : listed.size = ops.size
  lz : listed.getD z false = true
  ez : ∀ e ∈ af.getD z [], listed.getD e false = true
  st : ∃ (listed' : Array Bool) (hb : Heap) (ρb : Nat → Loc) (wb : World) (l : Loc) (c' : Array Value), listed'.size = listed.size ∧ listed'.getD z false = false ∧ (∀ j, j ≠ z → listed'.getD j false = listed.getD j false) ∧ Evo h0 ρ0 w0 hb ρb wb ∧
    MidB P qs ops (extE af z X) tr e0 h0 hb ρb wb r m sz listed' a w ∧ wb.heap[l.blk]? = some (.cells c' t (0, 0)) ∧ c'.size = l.sz ∧ c.length ≤ c'.size ∧ (∀ k, k < c.length → VRel hb.length ρb (c.getD k undef) (c'.getD k undef)) ∧
    (P.info? t).map (·.size) = some l.es ∧ ¬ Live hb ρb l.blk ∧ w0.heap.size ≤ l.blk ∧ a.tmps.getD d undef = .slice (some ⟨l.blk, 0, none⟩) 1 1

variable {z d x : Nat} {ts t : TypeId} {c : List Value} {X : List Nat}

/-- What the operation does, wherever it runs. -/
theorem lay_build {E : Operand → Value} {h : Heap} {K : Value → Heap → Prop} (hk : aop P true (.buildSlice ts 1 #[(0, .tmp x)]) E h K) :
    ∃ c t, K (.slice (some ⟨h.length, 0, none⟩) 1 1) (h ++ [mkb c t]) ∧ (∀ (h' : Heap) (K' : Value → Heap → Prop), K' (.slice (some ⟨h'.length, 0, none⟩) 1 1) (h' ++ [mkb c t]) → aop P false (.buildSlice ts 1 #[(0, .tmp x)]) E h' K') ∧ (∀ n ρ y, VRel n ρ (E (.tmp x)) y → ∀ k, k < c.length → ∃ u, VRel n ρ (c.getD k undef) u) := by
  simp only [aop, buildSliceK] at hk
  split at hk
  · rename_i e he
    split at hk
    · rename_i zz sz1 h1 h2
      obtain ⟨g1, g2, g3, g4⟩ := hk
      split at g4
      · rename_i c hc
        refine ⟨c, e, g4, fun h' K' hk' => ?_, fun n ρ y hy k hk => ?_⟩
        · simp only [aop, buildSliceK, he, h1, h2]
          refine ⟨g1, g2, g3, ?_⟩
          rw [hc]; exact hk'
        · obtain ⟨i, v, hi, hiz, hvz, hat⟩ := zeroOf_eq h1
          obtain ⟨inf, hinf, rfl⟩ := esz_eq h2
          rw [hi] at hinf; cases hinf
          have hvs : v.cells.size = i.size := by rw [← g1, ← hvz]; simp
          obtain ⟨r', q1, q2⟩ := fill_rel (n := n) (ρ := ρ) (parts := [(0, E (.tmp x))]) (parts' := [(0, y)]) (c' := (Array.range (1 * i.size)).map (fun k => v.cells[k % v.cells.size]!)) (show PRel n ρ [(0, E (.tmp x))] [(0, y)] from ⟨rfl, hy, trivial⟩) (by rw [← hvz]; exact zeros_rel (by rw [hvz]; exact hat) hvs g2) hc
          exact ⟨_, q2.2 k hk⟩
      · exact g4.elim
    · exact hk.elim
  · exact hk.elim
/-- What the trace says of it. -/
theorem trace_lay (hsp : ∀ k o, (strip ops)[k]? = some o → ∃ v, tr[k]? = some (v, heapAt tr h0 (k + 1)) ∧ StepD P R (cls qs k o.op) o (envAt (strip ops) tr e0 k) (heapAt tr h0 k) v (heapAt tr h0 (k + 1)))
    (hz : (strip ops)[z]? = some ⟨some d, .buildSlice ts 1 #[(0, .tmp x)], none⟩) : ∃ c t, (∀ (h' : Heap) (K' : Value → Heap → Prop), K' (.slice (some ⟨h'.length, 0, none⟩) 1 1) (h' ++ [mkb c t]) → aop P false (.buildSlice ts 1 #[(0, .tmp x)]) (ev (envAt (strip ops) tr e0 z)) h' K') ∧ (∀ n ρ y, VRel n ρ ((ev (envAt (strip ops) tr e0 z)) (.tmp x)) y → ∀ k, k < c.length → ∃ u, VRel n ρ (c.getD k undef) u) ∧ tr[z]? = some (.slice (some ⟨(heapAt tr h0 z).length, 0, none⟩) 1 1, heapAt tr h0 (z + 1)) ∧ heapAt tr h0 (z + 1) = heapAt tr h0 z ++ [mkb c t] := by
  obtain ⟨v, h1, h2⟩ := hsp z _ hz
  unfold StepD at h2
  have h3 := h2.1 (fun v' h' => v' = v ∧ h' = heapAt tr h0 (z + 1)) ⟨rfl, rfl⟩
  obtain ⟨c, t, ⟨rfl, h4⟩, h5, h6⟩ := lay_build h3
  exact ⟨c, t, h5, h6, h1, h4.symm⟩

/-- The variable is laid early. -/
theorem lay_enter {n : Nat} {Qx : Exit → Act → World → Prop} {listed : Array Bool} {a : Act} {w : World} {o' : Oper} (ho' : ops[z]? = some o') (hso : (strip ops)[z]? = some ⟨some d, .buildSlice ts 1 #[(0, .tmp x)], none⟩) (hok : ∀ o ∈ ops.toList, opsOK sz ops o = true)
    (hlay : ∀ (h' : Heap) (K' : Value → Heap → Prop), K' (.slice (some ⟨h'.length, 0, none⟩) 1 1) (h' ++ [mkb c t]) → aop P false (.buildSlice ts 1 #[(0, .tmp x)]) (ev (envAt (strip ops) tr e0 z)) h' K') (hrel : ∀ n ρ y, VRel n ρ ((ev (envAt (strip ops) tr e0 z)) (.tmp x)) y → ∀ k, k < c.length → ∃ u, VRel n ρ (c.getD k undef) u) (hws : ∀ j oj, (strip ops)[j]? = some oj → oj.dst = some x → j ∈ af.getD z [] ∧ j < z) (huq : ∀ j oj, (strip ops)[j]? = some oj → oj.dst = some d → j = z) (hud : sget e0 d = undef) (hm : m ≤ w0.heap.size)
    (M : MidB P qs ops (extE af z X) tr e0 h0 h0 ρ0 w0 r m sz listed a w) (hil : z < listed.size) (hiS : ¬ listed.getD z false = true) (hedge : ∀ e ∈ af.getD z [], listed.getD e false = true) (hzl : z < af.length) (hfw : ∀ e ∈ af.getD z [], e ≠ z) (K : Act → World → Prop)
    (hK : ∀ a' w', PendB P qs ops af tr e0 h0 ρ0 w0 r m sz z d t c X (listed.setIfInBounds z true) a' w' → K a' w') : wpOpIn (fence r) n P ops Qx z K a w := by
  obtain ⟨ρ, e, h, hE, hS, hA, hslot, kh, hheap, hheapS⟩ := M.st
  have hse := strip_get' ho'
  rw [hso] at hse
  injection hse with hse
  have hdst : o'.dst = some d := by injection hse with h1 _ _; exact h1.symm
  have hop : o'.op = .buildSlice ts 1 #[(0, .tmp x)] := by injection hse with _ h1 _; exact h1.symm
  have hgd : o'.guard = none := by
    injection hse with _ _ h1
    cases hg : o'.guard with
    | none => rfl
    | some p => rw [hg] at h1; cases h1
  have hmem : o' ∈ ops.toList := by rw [Array.mem_toList_iff]; exact Array.mem_of_getElem? ho'
  have hok' := hok o' hmem
  simp only [opsOK, Bool.and_eq_true] at hok'
  have hds : d < sz := by
    have := hok'.1
    simp only [opOK, hdst, Bool.and_eq_true, decide_eq_true_eq] at this
    exact this.2
  have hmw : m ≤ w.heap.size := Nat.le_trans hm hE.wsize
  have hun : sget e d = undef := by
    obtain ⟨k, k1, k2⟩ := hslot d
    rw [k1, ← hud]
    exact envAt_eq (b := 0) fun j oj hj hdj => by
      obtain rfl := huq j oj hj hdj
      have := k2 j oj hj hdj
      exact ⟨fun h => absurd (this.2 h) hiS, fun h => by omega⟩
  unfold wpOpIn
  rw [ho']
  simp only
  rw [if_pos (by simp [Region.wanted, hgd])]
  have hex : sget e x = sget (envAt (strip ops) tr e0 z) x := by
    obtain ⟨k, k1, k2⟩ := hslot x
    rw [k1]
    exact envAt_eq fun j oj hj hdj => by
      obtain ⟨q1, q2⟩ := hws j oj hj hdj
      exact ⟨fun _ => q2, fun _ => (k2 j oj hj hdj).1 (hedge j q1)⟩
  have hxs : x < sz := by
    have := hok'.1
    simp only [opOK, hop, Bool.and_eq_true] at this
    have := this.1
    simp [Op.operands, vokB] at this
    exact this
  have hk : aop P false o'.op (ev e) h (fun v' h' => (fun e1 h2 => e1 = sputO e (some d) (.slice (some ⟨h.length, 0, none⟩) 1 1) ∧ h2 = h ++ [mkb c t]) (sputO e o'.dst v') h') := by
    rw [hop]
    rw [aop_congr (E := ev e) (E' := ev (envAt (strip ops) tr e0 z)) fun y hy => ?_]
    · exact hlay h _ ⟨by rw [hdst], rfl⟩
    · simp [Op.operands] at hy
      subst hy
      exact hex
  refine Oper.wpIn_mono ?_ (op_ok (P := P) (sz := sz) (K := fun e1 h2 => e1 = sputO e (some d) (.slice (some ⟨h.length, 0, none⟩) 1 1) ∧ h2 = h ++ [mkb c t]) hok'.1 hk r n m ρ a w hmw hS hA Qx)
  rintro a' w' ⟨ρ', _, _, ⟨rfl, rfl⟩, gE, gS, gA⟩
  refine hK a' w' ?_
  obtain ⟨fS, fE⟩ := sim_forget hS gE gS
  have hnew : view (h ++ [mkb c t]) h.length = some (c, t, false) := by rw [view_new]; exact mkb_view c t
  obtain ⟨c', fr, g1, g2, g3, g4, g5⟩ := gS.cells h.length c t false hnew (by rw [side_new]; exact mkb_side c t)
  obtain ⟨rfl, g6⟩ := g5 rfl
  have hnl : ¬ Live h ρ' (ρ' h.length).blk := by
    rintro ⟨i, x, hv, hb⟩
    have := gS.inj i h.length x _ (view_ext (Ext.app _ _ _) hv) hnew hb
    have := view_lt hv; omega
  have hptr : a'.tmps.getD d undef = .slice (some ⟨(ρ' h.length).blk, 0, none⟩) 1 1 := by
    have h1 := gA.env d (by rw [gA.size]; exact hds)
    simp only [sputO, sget_sput, if_pos] at h1
    exact h1.slice'.2
  have hge : w.heap.size ≤ (ρ' h.length).blk := by
    rcases gE.orig _ ⟨h.length, c, t, hnew, rfl⟩ with h1 | ⟨i, c1, e1, hv, hb⟩
    · exact h1
    · exact absurd ⟨i, _, hv, by rw [gE.agree i (view_lt hv)]; exact hb⟩ hnl
  have hz0 : listed.getD z false = false := by simpa using hiS
  refine ⟨by simp [M.size], (getD_set_iff hil).2 (.inl rfl), fun e he => by rw [getD_set_iff hil]; exact .inr (hedge e he), listed, h, ρ', w', ρ' h.length, c', by simp, hz0, fun j hj => ?_, hE.trans fE, ?_, g1, g2, g3, fun k hk => by obtain ⟨u, hu⟩ := hrel _ _ _ (by have := hA.env x (by rw [hA.size]; exact hxs); rw [hex] at this; exact this) k hk; exact hu.restrict (g4 k hk) gE.agree, g6, hnl, Nat.le_trans hE.wsize hge, hptr⟩
  · rw [Go.getD_set_ne false (Ne.symm hj)]
  · refine ⟨M.size, M.closed, ρ', e, h, .refl _ _ _, fS, ⟨gA.size, fun i hi => ?_, gA.marks, gA.round⟩, hslot, kh, hheap, hheapS⟩
    by_cases hid : i = d
    · subst hid; rw [hun]; exact .any _
    · have h1 := gA.env i hi
      simp only [sputO, sget_sput, if_neg (Ne.symm hid)] at h1
      exact (hA.env i (by rw [hA.size, ← gA.size]; exact hi)).restrict h1 gE.agree

/-- The name comes. -/
theorem lay_name {listed : Array Bool} {a : Act} {w : World} (hd : drawOK (strip ops) (extE af z X) qs = true) (hso : (strip ops)[z]? = some ⟨some d, .buildSlice ts 1 #[(0, .tmp x)], none⟩)
    (htr : tr[z]? = some (.slice (some ⟨(heapAt tr h0 z).length, 0, none⟩) 1 1, heapAt tr h0 (z + 1))) (htz : heapAt tr h0 (z + 1) = heapAt tr h0 z ++ [mkb c t])
    (hXs : ∀ k, k < tr.length → ¬ (∃ o, (strip ops)[k]? = some o ∧ cls qs k o.op = 3) → heapAt tr h0 (k + 1) = heapAt tr h0 k) (htab : ∀ p ∈ Tabs.tabs P, p.1 < w0.heap.size) (hzl : z < af.length) (hfw : ∀ e ∈ af.getD z [] ++ X, e ≠ z)
    (p : PendB P qs ops af tr e0 h0 ρ0 w0 r m sz z d t c X listed a w) (hall : ∀ k ∈ X, listed.getD k false = true) : MidB P qs ops (extE af z X) tr e0 h0 h0 ρ0 w0 r m sz listed a w := by
  obtain ⟨listed', hb, ρb, wb, l, c', k1, k2, k3, k4, M, k5, k6, k7, k8, k9, k10, k11, k12⟩ := p.st
  have hzs : z < listed'.size := by
    rcases Nat.lt_or_ge z listed.size with h | h
    · omega
    · have := p.lz; simp [Array.getD_eq_getD_getElem?, Array.getElem?_eq_none h] at this
  have hc3 : cls qs z (.buildSlice ts 1 #[(0, .tmp x)]) = 3 := rfl
  obtain ⟨ρ, e, h, hE, hS, hA, _, hheapi, _, _, hnext⟩ := midB_next hd hso htr hXs M hzs (by rw [k2]; decide) fun e he => by
    rw [extE_same hzl] at he
    rw [k3 e (hfw e he)]
    rcases List.mem_append.1 he with h | h
    · exact p.ez e h
    · exact hall e h
  have hh := hheapi (.inl hc3)
  have hL : w.heap[l.blk]? = some (.cells c' t (0, 0)) := by
    rw [hE.keep l.blk (Array.getElem?_eq_some_iff.1 k5).1 fun ⟨i, c1, e1, hv, hk⟩ => k10 ⟨i, _, hv, hk⟩]; exact k5
  have hnl : ¬ Live h ρ l.blk := fun hl => (hE.live _ hl).elim (fun h1 => by have := (Array.getElem?_eq_some_iff.1 k5).1; omega) k10
  have hlb := hE.len
  have hSn := sim_nameB (c := c) hS hL k6 k7 (fun k hk => (k8 k hk).mono hlb hE.agree) (mkb_view c t) (mkb_side c t) k9 hnl fun p hp he => by have := htab p hp; omega
  have hEn := evo_nameB (B := mkb c t) (k4.trans hE) k11
  have hM := hnext h0 ρ0 w0 (h ++ [mkb c t]) (fun _ => by rw [htz, hh]) (fun h1 => absurd hc3 h1) _ a w hEn hSn ⟨hA.size, fun i hi => ?_, hA.marks, hA.round⟩
  · refine hM.congr (by simp [k1]) fun j => ?_
    by_cases hj : j = z
    · subst hj
      rw [p.lz, (getD_set_iff hzs).2 (.inl rfl)]
    · rw [Go.getD_set_ne false (Ne.symm hj), k3 j hj]
  · simp only [sputO, sget_sput]
    by_cases hid : d = i
    · subst hid
      rw [if_pos rfl, k12, ← hh]
      have := VRel.slice (n := (h ++ [mkb c t]).length) (ρ := Loc.upd ρ h.length l) (b := h.length) (o := 0) (len := 1) (cap := 1) (by simp)
      rwa [Loc.upd_same] at this
    · rw [if_neg hid]
      exact (hA.env i hi).mono (by simp) fun j hj => Loc.upd_lt ρ _ hj

/-- What the check says. -/
theorem layOK_spec {l : List SOp} {af : List (List Nat)} {z d : Nat} {X : List Nat} (h : layOK l af z d x X = true) : (∃ ts, l[z]? = some ⟨some d, .buildSlice ts 1 #[(0, .tmp x)], none⟩) ∧ z < af.length ∧ (∀ k ∈ X, k < z) ∧ (∀ j oj, l[j]? = some oj → oj.dst = some d → j = z) ∧
    (∀ j oj, l[j]? = some oj → z ∈ af.getD j [] → ∀ k ∈ X, ((bitsAux [] af).getD j 0).testBit k = true) ∧ (∀ j oj, l[j]? = some oj → oj.dst = some x → j ∈ af.getD z [] ∧ j < z) := by
  simp only [layOK, Bool.and_eq_true] at h
  obtain ⟨⟨⟨⟨⟨h1, h2⟩, h3⟩, h4⟩, h5⟩, h6⟩ := h
  refine ⟨?_, by simpa using h2, fun k hk => by simpa using List.all_eq_true.1 h3 k hk, fun j oj hj hdj => ?_, fun j oj hj hz k hk => ?_, fun j oj hj hdj => ?_⟩
  · split at h1
    · rename_i d' t ps heq
      simp only [Bool.and_eq_true, beq_iff_eq] at h1
      obtain ⟨rfl, h1⟩ := h1
      split at h1
      · rename_i x' hps
        have hx' : x' = x := by simpa using h1
        subst hx'
        have : ps = #[(0, .tmp x')] := Array.ext' hps
        exact ⟨t, by rw [heq, this]⟩
      · cases h1
    · cases h1
  · have := List.all_eq_true.1 h4 (oj, j) (by rw [List.mem_zipIdx_iff_getElem?]; exact hj)
    simp only [Bool.or_eq_true, beq_iff_eq, bne_iff_ne, ne_eq] at this
    exact this.resolve_right (fun h => h hdj)
  · have := List.all_eq_true.1 h5 (oj, j) (by rw [List.mem_zipIdx_iff_getElem?]; exact hj)
    simp only [Bool.or_eq_true, Bool.not_eq_true', List.contains_eq_mem, decide_eq_false_iff_not] at this
    exact List.all_eq_true.1 (this.resolve_left (fun h => h hz)) k hk
  · have := List.all_eq_true.1 h6 (oj, j) (by rw [List.mem_zipIdx_iff_getElem?]; exact hj)
    simp only [Bool.or_eq_true, bne_iff_ne, ne_eq, Bool.and_eq_true, List.contains_eq_mem, decide_eq_true_eq] at this
    exact this.resolve_left (fun h => h hdj)

theorem lay_run {n : Nat} {Qx : Exit → Act → World → Prop} (hok : ∀ o ∈ ops.toList, opsOK sz ops o = true) (hd : drawOK (strip ops) (extE (edgesOf ops) z X) qs = true) (he : layOK (strip ops) (edgesOf ops) z d x X = true) (hf : fwd (edgesOf ops) = true)
    (hsp : ∀ k o, (strip ops)[k]? = some o → ∃ v, tr[k]? = some (v, heapAt tr h0 (k + 1)) ∧ StepD P R (cls qs k o.op) o (envAt (strip ops) tr e0 k) (heapAt tr h0 k) v (heapAt tr h0 (k + 1)))
    (htl : tr.length = (strip ops).length) (hm : m ≤ w0.heap.size) (hR : ∀ k, R (heapAt tr h0 k)) (htab : ∀ p ∈ Tabs.tabs P, p.1 < w0.heap.size) (hud : sget e0 d = undef)
    (hQ : ∀ listed a w, MidB P qs ops (extE (edgesOf ops) z X) tr e0 h0 h0 ρ0 w0 r m sz listed a w → (∀ j, j < ops.size → listed.getD j false = true) → Qx .normal a w) :
    ∀ (fuel : Nat) (listed : Array Bool) (a : Act) (w : World), (listed.toList.filter (!·)).length ≤ fuel →
      (MidB P qs ops (extE (edgesOf ops) z X) tr e0 h0 h0 ρ0 w0 r m sz listed a w ∨ ((∃ t c, heapAt tr h0 (z + 1) = heapAt tr h0 z ++ [mkb c t] ∧ PendB P qs ops (edgesOf ops) tr e0 h0 ρ0 w0 r m sz z d t c X listed a w) ∧ ∃ k ∈ X, ¬ listed.getD k false = true)) →
      wpAnyIn (fence r) n P .any ops Qx fuel listed a w := by
  obtain ⟨⟨ts0, hz0⟩, hzl, hXz, huq, hdep, hws⟩ := layOK_spec he
  obtain ⟨c0, t0, hlay, hrel, htr0, htz0⟩ := trace_lay hsp hz0
  have hXs := trace_same hsp htl
  have hzo : z < ops.size := by
    have := (List.getElem?_eq_some_iff.1 hz0).1
    simpa [strip] using this
  have hfwd : ∀ j e, e ∈ (edgesOf ops).getD j [] → e < j := fun j e hje => by
    have hjl : j < (edgesOf ops).length := by
      rcases Nat.lt_or_ge j (edgesOf ops).length with h | h
      · exact h
      · simp [List.getD, List.getElem?_eq_none h] at hje
    have h1 := List.all_eq_true.1 hf ((edgesOf ops)[j], j) (by rw [List.mem_zipIdx_iff_getElem?]; simp [List.getElem?_eq_getElem hjl])
    have he' : e ∈ (edgesOf ops)[j] := by simpa [List.getD, List.getElem?_eq_getElem hjl] using hje
    simpa using List.all_eq_true.1 h1 e he'
  have hfw : ∀ e ∈ (edgesOf ops).getD z [] ++ X, e ≠ z := fun e he => by
    rcases List.mem_append.1 he with h | h
    · have := hfwd z e h; omega
    · have := hXz e h; omega
  -- when nobody is ready, all have run
  have allOf : ∀ (listed : Array Bool), listed.size = ops.size → Region.ready .any ops listed = [] → ∀ j, j < ops.size → listed.getD j false = true := fun listed hs hr => ready_nil_all hf hs hr
  -- the actual list is closed under the actual edges
  have closedE : ∀ {listed a w}, MidB P qs ops (extE (edgesOf ops) z X) tr e0 h0 h0 ρ0 w0 r m sz listed a w → ∀ j, listed.getD j false = true → ∀ e ∈ (edgesOf ops).getD j [], listed.getD e false = true := by
    intro listed a w M j hj e hej
    by_cases hjz : j = z
    · subst hjz
      exact M.closed _ hj e (by rw [extE_same hzl]; exact List.mem_append.2 (.inl hej))
    · exact M.closed j hj e (by rw [extE_ne hjz]; exact hej)
  have closedP : ∀ {listed a w t c}, PendB P qs ops (edgesOf ops) tr e0 h0 ρ0 w0 r m sz z d t c X listed a w → ∀ j, listed.getD j false = true → ∀ e ∈ (edgesOf ops).getD j [], listed.getD e false = true := by
    intro listed a w t c p j hj e hej
    obtain ⟨listed', hb, ρb, wb, l, c', k1, k2, k3, k4, M, _⟩ := p.st
    by_cases hjz : j = z
    · subst hjz; exact p.ez e hej
    · have := M.closed j (by rw [k3 j hjz]; exact hj) e (by rw [extE_ne hjz]; exact hej)
      by_cases hez : e = z
      · subst hez; exact p.lz
      · rw [← k3 e hez]; exact this
  intro fuel
  induction fuel with
  | zero =>
    intro listed a w hl hst
    have hall : ∀ j, listed.getD j true = true := by
      intro j
      have he : listed.toList.filter (!·) = [] := List.length_eq_zero_iff.1 (Nat.le_zero.1 hl)
      rcases Nat.lt_or_ge j listed.size with h | h
      · have := List.filter_eq_nil_iff.1 he listed[j] (by simp)
        simpa [Array.getD_eq_getD_getElem?, h] using this
      · simp [Array.getD_eq_getD_getElem?, Array.getElem?_eq_none h]
    have hr : Region.ready .any ops listed = [] := by
      rw [List.eq_nil_iff_forall_not_mem]
      intro j hj
      have := (mem_ready.1 hj).1
      rw [hall j] at this; cases this
    rcases hst with M | ⟨⟨t, c, _, p⟩, k, hk, hkl⟩
    · exact ⟨hr, hQ listed a w M (allOf listed M.size hr)⟩
    · exact absurd (allOf listed p.size hr k (by have := hXz k hk; omega)) hkl
  | succ fuel ih =>
    intro listed a w hl hst
    have hsz : listed.size = ops.size := by rcases hst with M | ⟨⟨_, _, _, p⟩, _⟩; exact M.size; exact p.size
    refine ⟨fun hr => ?_, fun i hi => ?_⟩
    · rcases hst with M | ⟨⟨t, c, _, p⟩, k, hk, hkl⟩
      · exact hQ listed a w M (allOf listed hsz hr)
      · exact absurd (allOf listed hsz hr k (by have := hXz k hk; omega)) hkl
    obtain ⟨hi0, o', ho', hpre⟩ := mem_ready.1 hi
    have hil : i < listed.size := by
      rcases Nat.lt_or_ge i listed.size with h | h
      · exact h
      · simp [Array.getD_eq_getD_getElem?, Array.getElem?_eq_none h] at hi0
    have hiS : ¬ listed.getD i false = true := by
      simp [Array.getD_eq_getD_getElem?, hil] at hi0 ⊢; exact hi0
    have hedge : ∀ e ∈ (edgesOf ops).getD i [], listed.getD e false = true := fun e he => by
      obtain ⟨x, h1, h2, rfl⟩ := (edges_get ho').1 he; exact hpre x h1 h2
    have hcnt : ((listed.setIfInBounds i true).toList.filter (!·)).length ≤ fuel := by
      have hv : listed[i] = false := by simpa [Array.getD_eq_getD_getElem?, hil] using hi0
      have e1 : listed.toList = listed.toList.take i ++ false :: listed.toList.drop (i + 1) := by
        have := List.take_append_drop i listed.toList
        rw [List.drop_eq_getElem_cons (by simpa using hil)] at this
        simpa [hv] using this.symm
      have e2 : (listed.setIfInBounds i true).toList = listed.toList.take i ++ true :: listed.toList.drop (i + 1) := by
        rw [Array.toList_setIfInBounds]
        exact (List.set_eq_take_append_cons_drop ..).trans (by rw [if_pos (by simpa using hil)])
      rw [e2]
      rw [e1] at hl
      simp only [List.filter_append, List.filter_cons, Bool.not_false, Bool.not_true, if_true, List.length_append, List.length_cons] at hl ⊢
      simp at hl ⊢
      omega
    rcases hst with M | ⟨⟨t, c, htz, p⟩, kx, hkx, hkxl⟩
    · by_cases hiz : i = z
      · subst hiz
        by_cases hX : ∀ k ∈ X, listed.getD k false = true
        · refine midB_step ho' hok hd (hsp i) hXs hm hR M hil hiS (fun e he => ?_) _ fun a' w' M' => ih _ a' w' hcnt (.inl M')
          rw [extE_same hzl] at he
          rcases List.mem_append.1 he with h | h
          · exact hedge e h
          · exact hX e h
        · obtain ⟨kx, hkx⟩ : ∃ k, ¬ (k ∈ X → listed.getD k false = true) := Classical.not_forall.1 hX
          simp only [Classical.not_imp] at hkx
          refine lay_enter ho' hz0 hok hlay hrel hws huq hud hm M hil hiS hedge hzl (fun e he => hfw e (List.mem_append.2 (.inl he))) _ fun a' w' p => ih _ a' w' hcnt (.inr ⟨⟨t0, c0, htz0, p⟩, kx, hkx.1, ?_⟩)
          rw [Go.getD_set_ne false (by have := hXz kx hkx.1; omega)]
          exact hkx.2
      · exact midB_step ho' hok hd (hsp i) hXs hm hR M hil hiS (fun e he => hedge e (by rw [extE_ne hiz] at he; exact he)) _ fun a' w' M' => ih _ a' w' hcnt (.inl M')
    · have hiz : i ≠ z := fun h => by subst h; exact hiS p.lz
      obtain ⟨listed', hb, ρb, wb, l, c', k1, k2, k3, k4, M, k5, k6, k7, k8, k9, k10, k11, k12⟩ := p.st
      have hso := strip_get' ho'
      -- it does not need the variable
      have hnz : z ∉ (edgesOf ops).getD i [] := fun h => hkxl (ahead (S := fun j => listed.getD j false = true) (closedP p) i kx hedge (hdep i _ hso h kx hkx))
      have hdst : o'.dst ≠ some d := fun h => hiz (huq i _ hso h)
      refine wpOpIn_mono (fun a' w' hk => ?_) (wpOpIn_put ho' hdst (midB_step (K := fun a' w' => MidB P qs ops (extE (edgesOf ops) z X) tr e0 h0 hb ρb wb r m sz (listed'.setIfInBounds i true) a' w') ho' hok hd (hsp i) hXs (Nat.le_trans hm k4.wsize) hR M (by omega) (by rw [k3 i hiz]; exact hiS) (fun e he => ?_) fun _ _ h => h))
      · obtain ⟨M', hdk⟩ := hk
        have p' : PendB P qs ops (edgesOf ops) tr e0 h0 ρ0 w0 r m sz z d t c X (listed.setIfInBounds i true) a' w' :=
          ⟨by simp [p.size], by rw [Go.getD_set_ne false hiz]; exact p.lz, fun e he => by rw [getD_set_iff hil]; exact .inr (p.ez e he), listed'.setIfInBounds i true, hb, ρb, wb, l, c', by simp [k1], by rw [Go.getD_set_ne false hiz]; exact k2, fun j hj => by
            by_cases hji : j = i
            · subst hji
              rw [(getD_set_iff (by omega)).2 (.inl rfl), (getD_set_iff hil).2 (.inl rfl)]
            · rw [Go.getD_set_ne false (Ne.symm hji), Go.getD_set_ne false (Ne.symm hji)]; exact k3 j hj, k4, M', k5, k6, k7, k8, k9, k10, k11, by rw [hdk]; exact k12⟩
        by_cases hX : ∀ k ∈ X, (listed.setIfInBounds i true).getD k false = true
        · exact ih _ a' w' hcnt (.inl (lay_name hd hz0 htr0 htz hXs htab hzl hfw p' hX))
        · obtain ⟨ky, hky⟩ : ∃ k, ¬ (k ∈ X → (listed.setIfInBounds i true).getD k false = true) := Classical.not_forall.1 hX
          simp only [Classical.not_imp] at hky
          exact ih _ a' w' hcnt (.inr ⟨⟨t, c, htz, p'⟩, ky, hky.1, hky.2⟩)
      · rw [extE_ne hiz] at he
        rw [k3 e fun h => hnz (h ▸ he)]
        exact hedge e he
end

/-- **A region whose order is drawn, in which a variable may be laid early.** -/
theorem awp_drawL {P : Program} [Tabs P] {sz id : Nat} {ops : Array Oper} {Q : Exit → Env → Heap → Prop} {e : Env} {h : Heap} (R : Heap → Prop) (qs : List (Nat × Nat)) (z d x : Nat) (X : List Nat) (hm : P.follows .mixedOrders = true) (hok : ops.toList.all (opsOK sz ops) = true)
    (hd : drawOK (strip ops) (extE (edgesOf ops) z X) qs = true) (he : layOK (strip ops) (edgesOf ops) z d x X = true) (hno : qs.all (fun q => q.2 != 4 && q.2 != 6) = true) (hf : fwd (edgesOf ops) = true) (hud : sget e d = undef) (hR0 : R h) (hk : dopsR P R qs (Q .normal) 0 (strip ops) e h) : AWP P sz (.region id ops true) Q e h := by
  intro r n m ρ a w hmm s x
  obtain ⟨s1, e1⟩ := drew_sim s
  have hnp : ∀ i, piv qs i = false := fun i => by
    cases hp : piv qs i with
    | false => rfl
    | true =>
      obtain ⟨a, ha⟩ := piv_mem hp
      have := List.all_eq_true.1 hno _ ha
      simp at this
  have hpa : ∀ k, past qs k = false := fun k => by
    cases hp : past qs k with
    | false => rfl
    | true =>
      obtain ⟨a, ha, _⟩ := past_mem.1 hp
      have := List.all_eq_true.1 hno _ ha
      simp at this
  obtain ⟨l1, l2, tr, e', h', hsplit, ht, hr⟩ := dopsR_trace _ _ _ _ (fun _ => hR0) hk
  have hl2 : l2 = [] ∧ Q .normal e' h' := by
    rcases hr with hr | ⟨_, hp, _⟩
    · exact hr
    · rw [hnp] at hp; cases hp
  obtain ⟨rfl, hN⟩ := hl2
  rw [List.append_nil] at hsplit
  subst hsplit
  obtain ⟨htl, hE, hH, hsp⟩ := ht.spec
  simp only [Nat.zero_add] at hsp
  refine wpIn_region_any hm (lay_run (ρ0 := ρ) (w0 := w) (e0 := e) (h0 := h) (fun o ho => List.all_eq_true.1 hok o ho) hd he hf hsp htl hmm (fun k => ht.rr (fun _ => hR0) k (hpa _)) (fun p hp => (Array.getElem?_eq_some_iff.1 (s.tab p hp).1).1) hud ?_ ops.size (Array.replicate ops.size false) a { w with drawn := w.drawn + 1 } ?_ (.inl ?_))
  · intro listed a1 w1 M hall
    obtain ⟨ρ1, ee, hh, g1, g2, g3, g4, k, g5, g6⟩ := M.st
    have hlen : (strip ops).length = ops.size := by simp [strip]
    have hSall : ∀ j o, (strip ops)[j]? = some o → j < ops.size := fun j o hj => by rw [← hlen]; exact (List.getElem?_eq_some_iff.1 hj).1
    have hheap : hh = h' := by
      rw [g5, ← hH]
      refine heapAt_eq (X := fun k => ∃ o, (strip ops)[k]? = some o ∧ cls qs k o.op = 3) (trace_same hsp htl) fun j ⟨oj, hj, hx⟩ => ?_
      have := (g6 j oj hj hx).1 (hall j (hSall j oj hj))
      have := hSall j oj hj
      constructor <;> intro <;> omega
    refine ⟨ρ1, e', hh, by rw [hheap]; exact hN, g1, g2, g3.size, fun t ht => ?_, g3.marks, g3.round⟩
    obtain ⟨k2, q1, q2⟩ := g4 t
    have : sget e' t = sget ee t := by
      rw [q1, ← hE]
      exact envAt_eq fun j oj hj hdt => by
        have := (q2 j oj hj hdt).1 (hall j (hSall j oj hj))
        have := hSall j oj hj
        constructor <;> intro <;> omega
    rw [this]; exact g3.env t ht
  · have := List.length_filter_le (!·) (Array.replicate ops.size false).toList
    simpa using this
  · refine ⟨by simp, fun j hj => ?_, ρ, e, h, e1, s1, ⟨x.size, x.env, x.marks, x.round⟩, fun t => ⟨0, rfl, fun i o _ _ => ?_⟩, 0, rfl, fun i o _ _ => ?_⟩
    · simp [Array.getD_eq_getD_getElem?, Array.getElem?_replicate] at hj
      split at hj <;> simp at hj
    · simp only [Array.getD_eq_getD_getElem?, Array.getElem?_replicate]
      split <;> simp
    · simp only [Array.getD_eq_getD_getElem?, Array.getElem?_replicate]
      split <;> simp

/-- On stripped code. -/
theorem aw_drawL {P : Program} [Tabs P] {sz : Nat} {l : List SOp} {af : List (List Nat)} {Q : Exit → Env → Heap → Prop} {e : Env} {h : Heap} (R : Heap → Prop) (qs : List (Nat × Nat)) (z d x : Nat) (X : List Nat) (hm : P.follows .mixedOrders = true)
    (hd : drawOK l (extE af z X) qs = true) (he : layOK l af z d x X = true) (hno : qs.all (fun q => q.2 != 4 && q.2 != 6) = true) (hf : fwd af = true) (hud : sget e d = undef) (hR0 : R h) (hk : dopsR P R qs (Q .normal) 0 l e h) : aw P sz (.draw l af) Q e h := by
  intro c hc hok
  cases c with
  | region id ops d =>
    cases d with
    | false => simp [stripC] at hc
    | true =>
      simp only [stripC, SCode.draw.injEq] at hc
      obtain ⟨h1, h2⟩ := hc
      have h2' : edgesOf ops = af := h2
      subst h1
      rw [← h2'] at hd he hf
      exact awp_drawL R qs z _ x X hm hok hd he hno hf hud hR0 hk
  | _ => simp [stripC] at hc

end Go.Am
