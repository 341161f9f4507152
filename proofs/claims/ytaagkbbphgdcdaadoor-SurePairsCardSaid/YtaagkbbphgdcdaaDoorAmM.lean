/-
  The abstract machine, part M: a range over a function that hands out the elements of a set of bits.
-/
import Derived.Test.YtaagkbbphgdcdaaDoorAmL
set_option linter.all false
namespace Go.Am

/-- The elements of a set, rising. -/
def bits (s : Nat) : List Nat := (List.range 64).filter fun i => s.testBit i

/-- The iterator over a set's elements, its set in a box: told of the model's own worlds. -/
def BitIter (P : Program) [Tabs P] (gf : FuncId) : Prop :=
  (∀ (as : Array Value) (w : World), (callFunc gf as).run P w = .ok (.enter gf as) w) ∧
  ∀ (r : Option Nat) (l B s : Nat) (J Jx : List Nat → World → Prop) (W : World), s < 2 ^ 63 → W.cell? ⟨B, 0, none⟩ = some (.int .i64 s) → W.frozen? ⟨B, 0, none⟩ = false →
    (∀ pre W, J pre W → ∀ p ∈ Tabs.tabs P, W.heap[p.1]? = some p.2) →
    (∀ pre W v, J pre W → J pre (W.setCell ⟨B, 0, none⟩ v)) →
    (∀ pre (x : Nat) W, J pre W → pre ++ [x] <+: bits s → YieldAt (fence r) 0 P l #[.int .i64 x] W fun en W' =>
      (en = .returned (.bool true) ∧ J (pre ++ [x]) W' ∧ W'.cell? ⟨B, 0, none⟩ = W.cell? ⟨B, 0, none⟩ ∧ W'.frozen? ⟨B, 0, none⟩ = W.frozen? ⟨B, 0, none⟩) ∨ (en = .returned (.bool false) ∧ Jx (pre ++ [x]) W')) →
    J [] W →
    CallsIn (fence r) 1 P gf #[.func (.yield l) #[] #[], .pointer (some ⟨B, 0, none⟩)] W fun en W' => (∃ v, en = .returned v) ∧ (J (bits s) W' ∨ ∃ pre, Jx pre W')

theorem wpIn_n {P : Program} {r : Option Nat} {n n' : Nat} {c : Code} {Q : Exit → Act → World → Prop} {a : Act} {w : World} (h : c.wpIn (fence r) n P Q a w) : c.wpIn (fence r) n' P Q a w :=
  fun b k cs h1 h2 _ => h b k cs h1 h2 (fun d hd => by simp [fence, Fence.wide] at hd)

section
variable {P : Program} [Tabs P] {ρ ρ1 : Nat → Loc} {h h1 : Heap} {w W W' : World}

theorem Evo.onto (a : Evo h ρ w h1 ρ1 W) (hs : W.heap.size ≤ W'.heap.size) (ho : W'.os = W.os) (ht : W'.tape = W.tape) (hp : W'.output = W.output) (hk : ∀ k, k < w.heap.size → ¬ Mine h ρ k → W'.heap[k]? = W.heap[k]?) : Evo h ρ w h1 ρ1 W' :=
  ⟨a.len, a.agree, Nat.le_trans a.wsize hs, ho.trans a.os, ht.trans a.tape, hp.trans a.output, fun k hk1 hk2 => (hk k hk1 hk2).trans (a.keep k hk1 hk2), a.orig, a.live⟩
theorem Sim.onto (s : Sim P ρ1 h1 W) (hk : ∀ k, Live h1 ρ1 k → W'.heap[k]? = W.heap[k]?) (ht : ∀ p ∈ Tabs.tabs P, W'.heap[p.1]? = W.heap[p.1]?) : Sim P ρ1 h1 W' :=
  s.same (fun i x hv => hk _ ⟨i, x, hv, rfl⟩) ht

/-- A block that is no row of cells is none of the abstract heap's. -/
theorem Sim.notLive (s : Sim P ρ h w) {k : Nat} {o : Obj} (hk : w.heap[k]? = some o) (ho : o.isCells = false) : ¬ Live h ρ k := by
  rintro ⟨i, ⟨c, e, ro⟩, hv, rfl⟩
  obtain ⟨c', fr, hc, _⟩ := s.cells i c e ro hv
  rw [hk] at hc; cases hc; cases ho
theorem Mine.live {k : Nat} (hm : Mine h ρ k) : Live h ρ k := let ⟨i, c, e, hv, hb⟩ := hm; ⟨i, _, hv, hb⟩

/-- The world behind a turn of one block that is no cells of the abstract heap's and lies at or beyond w's end. -/
theorem Sim.turn (s : Sim P ρ1 h1 W) {l : Nat} {o o' : Obj} (hl : W.heap[l]? = some o) (ho : o.isCells = false) (ht : ∀ p ∈ Tabs.tabs P, p.1 ≠ l) : Sim P ρ1 h1 (W.putObj l o') :=
  s.onto (fun k hk => World.putObj_heap_other (fun he => s.notLive hl ho (he ▸ hk))) (fun p hp => World.putObj_heap_other (ht p hp))
theorem Evo.turn (a : Evo h ρ w h1 ρ1 W) {l : Nat} {o' : Obj} (hl : w.heap.size ≤ l) : Evo h ρ w h1 ρ1 (W.putObj l o') :=
  a.onto (by simp) rfl rfl rfl (fun k hk _ => World.putObj_heap_other (by omega))
end

/-- The marks of a frame that enters a loop over a function: the block, if it is an outermost one. -/
def newMark (r : Option Nat) (w : World) : List Nat := match r with | none => [w.heap.size] | some _ => []
theorem enter_run {P : Program} [Tabs P] {ρ : Nat → Loc} {h : Heap} {w : World} (s : Sim P ρ h w) (r : Option Nat) (hr : ∀ l, r = some l → ∃ rec, w.heap[l]? = some (.loop rec)) (fn : FuncId) (tmps : Array Value) (ps : Array Tmp) (assign body : Code) :
    ∃ (l D : Nat) (w1 : World), (Instr.enterLoop fn tmps ps assign body r).run P w = .ok (l, (newMark r w).map (fun D => { target := .collected D, args := #[] })) w1 ∧
      w1.heap[l]? = some (.loop { state := .ready, pending := none, fn := fn, tmps := tmps, params := ps, assign := assign, body := body, defers := D }) ∧ w.heap.size ≤ l ∧ w.heap.size ≤ w1.heap.size ∧
      (∀ k, k < w.heap.size → w1.heap[k]? = w.heap[k]?) ∧ w1.os = w.os ∧ w1.tape = w.tape ∧ w1.output = w.output ∧ (∀ D' ∈ newMark r w, D' ≠ l ∧ w1.heap[D']? = some (.deferred (some []))) := by
  cases r with
  | none =>
    refine ⟨w.heap.size + 1, w.heap.size, _, run_enterLoop_outer fn tmps ps assign body, ?_, by omega, by simp; omega, fun k hk => ?_, rfl, rfl, rfl, fun D' hD' => ?_⟩
    · have := World.alloc_heap_new (w.alloc (.deferred (some []))) (.loop { state := .ready, pending := none, fn := fn, tmps := tmps, params := ps, assign := assign, body := body, defers := w.heap.size })
      rwa [World.size_alloc] at this
    · rw [Go.RowKit.Below.heap_alloc _ _ _ (by simp; omega), Go.RowKit.Below.heap_alloc _ _ _ hk]
    · simp only [newMark, List.mem_singleton] at hD'
      subst hD'
      refine ⟨by omega, ?_⟩
      rw [Go.RowKit.Below.heap_alloc _ _ _ (by simp)]
      exact World.alloc_heap_new w _
  | some l0 =>
    obtain ⟨rec, hrec⟩ := hr l0 rfl
    refine ⟨w.heap.size, rec.defers, _, run_enterLoop_inner hrec fn tmps ps assign body, World.alloc_heap_new w _, Nat.le_refl _, by simp, fun k hk => Go.RowKit.Below.heap_alloc _ _ _ hk, rfl, rfl, rfl, fun D' hD' => by simp [newMark] at hD'⟩

/-- How a round of the body may be left. -/
def rangeQ (e : Env) (I : Heap → Prop) (Q : Exit → Env → Heap → Prop) : Exit → Env → Heap → Prop
  | .normal, _, h => I h
  | .ret, _, h => Q .ret e h
  | .exit i, _, h => Q (.exit i) e h
  | _, _, _ => False

theorem awp_range {P : Program} [Tabs P] {sz : Nat} {f : Operand} {d : Nat} {as b : Code} {gf : FuncId} {Q : Exit → Env → Heap → Prop} {e : Env} {h : Heap} {bx s : Nat} {et : TypeId}
    (hI : BitIter P gf) (hv : vokB sz f = true) (hf : ev e f = .func (.func gf) #[] #[.pointer (some ⟨bx, 0, none⟩)]) (hb : h[bx]? = some (.cells [vint s] et false)) (hs : s < 2 ^ 63)
    (Inv : List Nat → Heap → Prop) (h0 : Inv [] (h.set bx .dead))
    (round : ∀ pre (x : Nat) h1, pre ++ [x] <+: bits s → Inv pre h1 → AWP P sz as (aThen (AWP P sz b (rangeQ e (Inv (pre ++ [x])) Q)) (fun _ _ _ => False)) (sput e d (vint x)) h1)
    (done : ∀ h1, Inv (bits s) h1 → Q .normal e h1) : AWP P sz (.rangeFunc f #[d] as b) Q e h := by
  intro r n m ρ a w hm sm x
  have hfr := x.ev (vokB_eq hv)
  rw [hf] at hfr
  obtain ⟨ys, vs, hev, h1, h2, h3, h4⟩ := hfr.func'
  obtain rfl : ys = #[] := Array.size_eq_zero_iff.1 h1.symm
  have hv0 := h4 0 (by simp)
  have hvs : vs = #[vs.getD 0 undef] := by
    apply Array.ext (by simpa using h2.symm)
    intro i g1 g2
    simp at g2; subst g2
    simp [Array.getD_eq_getD_getElem?, g1]
  obtain ⟨_, hbl, hvp⟩ := hv0.ptr'
  simp only [Array.getD_eq_getD_getElem?] at hvp
  rw [Array.getD_eq_getD_getElem?, hvp] at hvs
  have hvw : view h bx = some ([vint s], et, false) := by simp [view, hb, Blk.view]
  obtain ⟨c', fr, hc', hcs, hcl, hcr, hcw⟩ := sm.cells bx _ _ _ hvw
  obtain ⟨rfl, _⟩ := hcw rfl
  have hc0 : w.cell? ⟨(ρ bx).blk, 0, none⟩ = some (.int .i64 s) := by
    obtain ⟨v', g1, g2⟩ := sm.cell (k := 0) hvw rfl
    rw [g1, g2.int]
  have hBm : Mine h ρ (ρ bx).blk := ⟨bx, _, _, hvw, rfl⟩
  have hBlt := sm.lt hvw
  refine wpIn_n (n := 1) (wpIn_rangeFunc ?_)
  intro fn _
  obtain ⟨l, D, w1, hent, hrec, hl, hsz1, hold, ho1, ht1, hp1, hmk⟩ := enter_run sm r x.round fn a.tmps #[d] as b
  have tabl : ∀ p ∈ Tabs.tabs P, p.1 < w.heap.size ∧ p.1 ≠ (ρ bx).blk := fun p hp => ⟨(Array.getElem?_eq_some_iff.1 (sm.tab p hp).1).1, fun he => (sm.tab p hp).2 (he ▸ hBm)⟩
  obtain ⟨rec, hrdef⟩ : ∃ rec : LoopState → Option Code → Loop, rec = fun st pe => { state := st, pending := pe, fn := fn, tmps := a.tmps, params := #[d], assign := as, body := b, defers := D } := ⟨_, rfl⟩
  let Core : (LoopState → Option Code → Loop) → Option Code → Heap → (Nat → Loc) → World → Prop := fun rec pe h1 ρ1 W =>
    Evo h ρ w h1 ρ1 W ∧ Sim P ρ1 h1 W ∧ ¬ Live h1 ρ1 (ρ bx).blk ∧ W.heap[l]? = some (.loop (rec (if pe.isNone then .ready else .done) pe)) ∧ ∀ D' ∈ newMark r w, D' ≠ l ∧ W.heap[D']? = some (.deferred (some []))
  let J : List Nat → World → Prop := fun pre W => ∃ ρ1 h1, Inv pre h1 ∧ Core rec none h1 ρ1 W
  let Jx : List Nat → World → Prop := fun _ W => ∃ ρ1 h1 c, (c = .ret ∧ Q .ret e h1 ∨ ∃ i, c = .exit i ∧ Q (.exit i) e h1) ∧ Core rec (some c) h1 ρ1 W
  obtain ⟨sk, ek⟩ := sm.kill (i := bx)
  have hs1 : Sim P ρ (h.set bx .dead) w1 := sk.onto (fun k ⟨i, x', hv', hb'⟩ => by
      obtain ⟨c3, e3, ro3⟩ := x'
      have := sk.lt hv'
      rw [← hb']; exact hold _ this) (fun p hp => hold _ (tabl p hp).1)
  have hnl : ¬ Live (h.set bx .dead) ρ (ρ bx).blk := by
    rintro ⟨i, x', hv', hb'⟩
    have hi : view h i = some x' ∧ i ≠ bx := by
      rw [view_set (view_lt hvw)] at hv'
      by_cases hib : bx = i
      · rw [if_pos hib] at hv'; simp [Blk.view] at hv'
      · rw [if_neg hib] at hv'; exact ⟨hv', Ne.symm hib⟩
    exact hi.2 (sm.inj i bx _ _ hi.1 hvw hb')
  have hJ0 : J [] w1 := ⟨ρ, _, h0, ek.onto hsz1 ho1 ht1 hp1 (fun k hk _ => hold k hk), hs1, hnl, by rw [hrec, hrdef]; rfl, hmk⟩
  have hcall := hI.2 r l (ρ bx).blk s J Jx w1 hs
    (by rw [show w1.cell? ⟨(ρ bx).blk, 0, none⟩ = w.cell? ⟨(ρ bx).blk, 0, none⟩ from World.cell?_of_block (w := w) (hold _ hBlt)]; exact hc0)
    (by rw [show w1.frozen? ⟨(ρ bx).blk, 0, none⟩ = w.frozen? ⟨(ρ bx).blk, 0, none⟩ from World.frozen?_of_block (w := w) (hold _ hBlt)]; simp [World.frozen?, hc'])
    (fun pre W ⟨ρ1, h1, _, _, g2, _⟩ p hp => (g2.tab p hp).1)
    (fun pre W v ⟨ρ1, h1, g0, g1, g2, g3, g4, g5⟩ => by
      have hoth : ∀ k, k ≠ (ρ bx).blk → (W.setCell ⟨(ρ bx).blk, 0, none⟩ v).heap[k]? = W.heap[k]? := fun k hk => Go.RowKit.Below.heap_setCell W ⟨(ρ bx).blk, 0, none⟩ v k hk
      refine ⟨ρ1, h1, g0, g1.onto (by simp [World.setCell]) rfl rfl rfl (fun k hk hmn => hoth k (fun he => hmn (he ▸ hBm))), g2.onto (fun k hk => hoth k (fun he => g3 (he ▸ hk))) (fun p hp => hoth _ (tabl p hp).2), g3, ?_, fun D' hD' => ⟨(g5 D' hD').1, ?_⟩⟩
      · rw [hoth l (by omega)]; exact g4
      · rw [hoth D' (fun he => ?_)]; exact (g5 D' hD').2
        have hw : w.heap.size ≤ D' := by
          cases r with
          | none => simp only [newMark, List.mem_singleton] at hD'; omega
          | some _ => simp [newMark] at hD'
        omega)
    (fun pre y W ⟨ρ1, h1, g0, g1, g2, g3, g4, g5⟩ hpre => by
      simp only [Option.isNone_none, if_true] at g4
      have hy := run_yield (P := P) (args := #[.int .i64 y]) g4 (by rw [hrdef]; rfl)
      rw [hrdef] at hy
      refine ⟨fn, _, as, b, hy, roundIn_of_wpIn trivial ?_⟩
      have hll : l < W.heap.size := (Array.getElem?_eq_some_iff.1 g4).1
      have hAr : ARel (some l) m sz ρ1 h1 (sput e d (vint y)) { tmps := ((#[d] : Array Nat).zip #[Value.int .i64 y]).foldl (fun t (p, v) => t.setIfInBounds p v) a.tmps, defers := [] } W := by
        refine ⟨by simp [x.size], ?_, ⟨[], rfl, by simp, fun D hD => by simp at hD⟩, fun l' hl' => by cases hl'; exact ⟨_, g4⟩⟩
        have := (x.env.mono g1.len g1.agree).put (d := d) (v := vint y) (v' := .int .i64 y) (.atom rfl)
        simpa using this
      have hmW : m ≤ W.heap.size := Nat.le_trans hm g1.wsize
      have has := round pre y h1 hpre g0 (some l) 0 m ρ1 _ W hmW g2 hAr
      refine wpIn_mono has ?_
      rintro ex a2 W2 ⟨ρ2, e2, h2, k1, k2, k3, k4⟩
      cases ex <;> simp only [aThen] at k1 <;> try exact k1.elim
      have hl2 : W2.heap[l]? = some (.loop (rec .ready none)) := k2.other g2 g4 rfl
      have hlt2 : l < W2.heap.size := (Array.getElem?_eq_some_iff.1 hl2).1
      refine ⟨_, run_beginRound hl2 (by rw [hrdef]), ?_⟩
      have k3' : Sim P ρ2 h2 (W2.putObj l (.loop { rec .ready none with state := .busy })) := k3.turn hl2 rfl (fun p hp => by have := (tabl p hp).1; omega)
      have hl3 : (W2.putObj l (.loop { rec .ready none with state := .busy })).heap[l]? = some (.loop { rec .ready none with state := .busy }) := World.putObj_heap_same hlt2
      have k4' : ARel (some l) m sz ρ2 h2 e2 a2 (W2.putObj l (.loop { rec .ready none with state := .busy })) := by
        obtain ⟨q1, q2, ⟨Ds, q3, q4, q5⟩, q6⟩ := k4
        refine ⟨q1, q2, ⟨Ds, q3, q4, fun D' hD' => ⟨(q5 D' hD').1, ?_⟩⟩, fun l' hl' => by cases hl'; exact ⟨_, hl3⟩⟩
        rw [World.putObj_heap_other (fun he => by rw [← he, (q5 D' hD').2] at hl2; cases hl2)]
        exact (q5 D' hD').2
      have hbody := k1 (some l) 0 m ρ2 a2 _ (by simp; exact Nat.le_trans hmW k2.wsize) k3' k4'
      refine wpIn_mono hbody ?_
      rintro ex a3 W3 ⟨ρ3, e3, h3, j1, j2, j3, j4⟩
      have hl4 : W3.heap[l]? = some (.loop { rec .ready none with state := .busy }) := j2.other k3' hl3 rfl
      have hlt4 : l < W3.heap.size := (Array.getElem?_eq_some_iff.1 hl4).1
      have evo2 : Evo h ρ w h2 ρ2 (W2.putObj l (.loop { rec .ready none with state := .busy })) := (g1.trans k2).turn hl
      have evo3 : Evo h ρ w h3 ρ3 W3 := evo2.trans j2
      have nl2 : ¬ Live h2 ρ2 (ρ bx).blk := fun hL => (k2.live _ hL).elim (fun hh => by have := g1.wsize; omega) g3
      have nl3 : ¬ Live h3 ρ3 (ρ bx).blk := fun hL => (j2.live _ hL).elim (fun hh => by have := evo2.wsize; omega) nl2
      have hB3 : W3.heap[(ρ bx).blk]? = W.heap[(ρ bx).blk]? := by
        have hsz2 : W.heap.size ≤ W2.heap.size := k2.wsize
        have hBW : (ρ bx).blk < W.heap.size := Nat.lt_of_lt_of_le hBlt g1.wsize
        rw [j2.keep _ (by simp; omega) (fun hM => nl2 hM.live), World.putObj_heap_other (by omega), k2.keep _ hBW (fun hM => g3 hM.live)]
      have hmk3 : ∀ D' ∈ newMark r w, D' ≠ l ∧ W3.heap[D']? = some (.deferred (some [])) := fun D' hD' => by
        obtain ⟨q1, q2⟩ := g5 D' hD'
        have q3 := k2.other g2 q2 rfl
        refine ⟨q1, j2.other k3' (o := .deferred (some [])) ?_ rfl⟩
        rw [World.putObj_heap_other q1]; exact q3
      have core : ∀ pe, Core rec pe h3 ρ3 (W3.putObj l (.loop { ({ rec .ready none with state := .busy } : Loop) with state := if pe.isNone then .ready else .done, pending := pe })) := fun pe => by
        refine ⟨evo3.turn hl, j3.turn hl4 rfl (fun p hp => by have := (tabl p hp).1; omega), nl3, ?_, fun D' hD' => ⟨(hmk3 D' hD').1, ?_⟩⟩
        · rw [World.putObj_heap_same hlt4, hrdef]
        · rw [World.putObj_heap_other (hmk3 D' hD').1]; exact (hmk3 D' hD').2
      have hBl : (ρ bx).blk ≠ l := by omega
      have cellB : ∀ o, (W3.putObj l o).cell? ⟨(ρ bx).blk, 0, none⟩ = W.cell? ⟨(ρ bx).blk, 0, none⟩ := fun o => World.cell?_of_block (w := W) (by show (W3.putObj l o).heap[(ρ bx).blk]? = _; rw [World.putObj_heap_other hBl, hB3])
      have frB : ∀ o, (W3.putObj l o).frozen? ⟨(ρ bx).blk, 0, none⟩ = W.frozen? ⟨(ρ bx).blk, 0, none⟩ := fun o => World.frozen?_of_block (w := W) (by show (W3.putObj l o).heap[(ρ bx).blk]? = _; rw [World.putObj_heap_other hBl, hB3])
      cases ex <;> simp only [rangeQ] at j1 <;> try exact j1.elim
      · exact ⟨_, _, run_endRound none hl4, .inl ⟨rfl, ⟨ρ3, h3, j1, core none⟩, cellB _, frB _⟩⟩
      · rename_i i
        exact ⟨_, _, run_endRound (some (.exit i)) hl4, .inr ⟨rfl, ρ3, h3, .exit i, .inr ⟨i, rfl, j1⟩, core (some (.exit i))⟩⟩
      · exact ⟨_, _, run_endRound (some .ret) hl4, .inr ⟨rfl, ρ3, h3, .ret, .inl ⟨rfl, j1⟩, core (some .ret)⟩⟩)
    hJ0
  refine ⟨l, _, w1, { target := .fn (.func gf) vs, args := #[.func (.yield l) #[] #[]] }, w1, gf, #[.func (.yield l) #[] #[]] ++ vs, w1, hent, ?_, fun _ _ => trivial, ?_, fun hd => by simp [fence, Fence.wide] at hd, ?_⟩
  · simp only [resolve, hev]; simp [Deferred.ofValue]; rfl
  · simp [invoke, hI.1]
  · have e1 : #[Value.func (.yield l) #[] #[]] ++ vs = #[.func (.yield l) #[] #[], .pointer (some ⟨(ρ bx).blk, 0, none⟩)] := by rw [hvs]; rfl
    rw [e1]
    have finish : ∀ (ρ1 : Nat → Loc) (h1 : Heap) (W : World) (pe : Option Code), Core rec pe h1 ρ1 W → ∃ W', (Instr.endLoop l).run P W = .ok pe W' ∧ Evo h ρ w h1 ρ1 W' ∧ Sim P ρ1 h1 W' ∧
        ARel r m sz ρ1 h1 e { a with defers := (newMark r w).map (fun D => { target := .collected D, args := #[] }) ++ a.defers } W' := by
      rintro ρ1 h1 W pe ⟨g1, g2, g3, g4, g5⟩
      have g4' := g4
      rw [hrdef] at g4'
      refine ⟨_, run_endLoop g4' (by cases pe <;> simp), g1.turn hl, g2.turn g4' rfl (fun p hp => by have := (tabl p hp).1; omega), x.size, x.env.mono g1.len g1.agree, ?_, ?_⟩
      · obtain ⟨Ds, q1, q2, q3⟩ := x.marks
        refine ⟨newMark r w ++ Ds, by simp [q1], ?_, fun D' hD' => ?_⟩
        · rw [List.nodup_append]
          refine ⟨by cases r <;> simp [newMark], q2, fun x1 hx1 y1 hy1 he => ?_⟩
          subst he
          have := (Array.getElem?_eq_some_iff.1 (q3 x1 hy1).2).1
          cases r with
          | none => simp only [newMark, List.mem_singleton] at hx1; omega
          | some _ => simp [newMark] at hx1
        · rcases List.mem_append.1 hD' with hD' | hD'
          · refine ⟨?_, by rw [World.putObj_heap_other (g5 D' hD').1]; exact (g5 D' hD').2⟩
            cases r with
            | none => simp only [newMark, List.mem_singleton] at hD'; omega
            | some _ => simp [newMark] at hD'
          · have hlt := (Array.getElem?_eq_some_iff.1 (q3 D' hD').2).1
            exact ⟨(q3 D' hD').1, by rw [World.putObj_heap_other (by omega)]; exact g1.other sm (q3 D' hD').2 rfl⟩
      · intro l' hl'
        obtain ⟨rc, hrc⟩ := x.round l' hl'
        have hlt := (Array.getElem?_eq_some_iff.1 hrc).1
        exact ⟨rc, by rw [World.putObj_heap_other (by omega)]; exact g1.other sm hrc rfl⟩
    have hcall' := hcall
    refine CallsIn.mono (R := fun en W' => (∃ v, en = .returned v) ∧ (J (bits s) W' ∨ ∃ pre, Jx pre W')) (by
      obtain ⟨q1, q2⟩ := hcall'
      exact ⟨q1, fun cs _ => q2 cs (fun d hd => by simp [fence, Fence.wide] at hd)⟩) ?_
    rintro en W' ⟨⟨v, rfl⟩, hJ | ⟨pre, hJx⟩⟩
    · obtain ⟨ρ1, h1, g0, g⟩ := hJ
      obtain ⟨W2, q1, q2, q3, q4⟩ := finish ρ1 h1 W' none g
      exact ⟨none, W2, q1, ρ1, e, h1, done h1 g0, q2, q3, q4⟩
    · obtain ⟨ρ1, h1, c, hc, g⟩ := hJx
      obtain ⟨W2, q1, q2, q3, q4⟩ := finish ρ1 h1 W' (some c) g
      refine ⟨some c, W2, q1, ?_⟩
      rcases hc with ⟨rfl, hq⟩ | ⟨i, rfl, hq⟩
      · exact wpIn_ret ⟨ρ1, e, h1, hq, q2, q3, q4⟩
      · exact wpIn_exit ⟨ρ1, e, h1, hq, q2, q3, q4⟩

/-- On stripped code. -/
theorem aw_range {P : Program} [Tabs P] {sz : Nat} {f : Operand} {d : Nat} {as b : SCode} {gf : FuncId} {Q : Exit → Env → Heap → Prop} {e : Env} {h : Heap} {bx s : Nat} {et : TypeId}
    (hI : BitIter P gf) (hf : ev e f = .func (.func gf) #[] #[.pointer (some ⟨bx, 0, none⟩)]) (hb : h[bx]? = some (.cells [vint s] et false)) (hs : s < 2 ^ 63)
    (Inv : List Nat → Heap → Prop) (h0 : Inv [] (h.set bx .dead))
    (round : ∀ pre (x : Nat) h1, pre ++ [x] <+: bits s → Inv pre h1 → aw P sz as (aThen (aw P sz b (rangeQ e (Inv (pre ++ [x])) Q)) (fun _ _ _ => False)) (sput e d (vint x)) h1)
    (done : ∀ h1, Inv (bits s) h1 → Q .normal e h1) : aw P sz (.range f [d] as b) Q e h := by
  intro c hc hok
  cases c with
  | region id ops dr => cases dr <;> simp [stripC] at hc
  | rangeFunc f' ps' as' b' =>
    simp only [stripC, SCode.range.injEq] at hc
    obtain ⟨rfl, h2, rfl, rfl⟩ := hc
    simp only [codeOK, Bool.and_eq_true] at hok
    obtain ⟨⟨⟨hv, _⟩, hok1⟩, hok2⟩ := hok
    have hps : ps' = #[d] := by apply Array.ext'; simpa using h2
    subst hps
    refine awp_range hI hv hf hb hs Inv h0 (fun pre x h1 g1 g2 => (aw_awp _ hok1 (round pre x h1 g1 g2)).mono ?_) done
    intro ex e' h' hq
    cases ex <;> first | exact aw_awp _ hok2 hq | exact hq
  | _ => simp [stripC] at hc
end Go.Am
