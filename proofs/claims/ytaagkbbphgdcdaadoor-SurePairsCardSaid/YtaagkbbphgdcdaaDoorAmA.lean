/-
  The abstract machine, part A: values of an abstract heap held against values of the model's heap (up to the numbers of blocks, spare capacity, and what nobody reads), worlds likewise, and what a step keeps.
-/
import Derived.RangeFuncNested
import Derived.RangeFuncBound
import Derived.RangeFuncCalls
import Derived.RangeFuncLeaves
import Derived.OrdersIn
import Derived.WalkKit
set_option linter.all false
namespace Go.Am

/-- Where a block of the abstract heap lies: the model's block, its cells, the cells of an element. -/
structure Loc where
  blk : Nat
  sz : Nat
  es : Nat

/-- A block of the abstract heap: cells; cells that are all ints; a block that nobody may touch any more. -/
inductive Blk where
  | cells (c : List Value) (e : TypeId) (ro : Bool)
  | ints (xs : List Int) (e : TypeId) (ro : Bool)
  | dead

abbrev Heap := List Blk

abbrev vint (n : Int) : Value := .int .i64 n

def Blk.view : Blk → Option (List Value × TypeId × Bool)
  | .cells c e ro => some (c, e, ro)
  | .ints xs e ro => some (xs.map vint, e, ro)
  | .dead => none

def view (h : Heap) (i : Nat) : Option (List Value × TypeId × Bool) := (h[i]?).bind Blk.view

/-- A value that bears no address. -/
def atom : Value → Bool
  | .bool _ | .int _ _ | .float _ _ | .complex _ _ _ | .string _ | .nilFunc | .nilIface => true
  | .pointer none | .slice none _ _ | .map none | .chan none => true
  | _ => false

/-- What stands in the slot of an operation that its guard kept from running. -/
def skp : Value := .chan (some 0)

/-- An empty slice of which nobody knows where it lies is the value 'void'. -/
def void : Value := .chan (some 1)

inductive VRel (n : Nat) (ρ : Nat → Loc) : Value → Value → Prop
  | any (v : Value) : VRel n ρ undef v
  | skip : VRel n ρ skp undef
  | atom {v : Value} (h : atom v = true) : VRel n ρ v v
  | ptr {b o : Nat} (h : b < n) : VRel n ρ (.pointer (some ⟨b, o, none⟩)) (.pointer (some ⟨(ρ b).blk, o, none⟩))
  | slice {b o len cap : Nat} (h : b < n) : VRel n ρ (.slice (some ⟨b, o, none⟩) len cap) (.slice (some ⟨(ρ b).blk, o, none⟩) len cap)
  | loose {b o len cap cap' : Nat} (h : b < n) (hc : cap ≤ cap') (hs : o = 0 → o + cap' * (ρ b).es = (ρ b).sz) :
      VRel n ρ (.slice (some ⟨b, o, some 0⟩) len cap) (.slice (some ⟨(ρ b).blk, o, none⟩) len cap')
  | void {b o cap : Nat} : VRel n ρ (.chan (some 1)) (.slice (some ⟨b, o, none⟩) 0 cap)
  | func {f : FuncId} {xs ys us vs : Array Value} (h1 : xs.size = ys.size) (h2 : us.size = vs.size) (h3 : ∀ i, i < xs.size → VRel n ρ (xs.getD i undef) (ys.getD i undef))
      (h4 : ∀ i, i < us.size → VRel n ρ (us.getD i undef) (vs.getD i undef)) : VRel n ρ (.func (.func f) xs us) (.func (.func f) ys vs)
  | agg {xs ys : Array Value} (h1 : xs.size = ys.size) (h3 : ∀ i, i < xs.size → VRel n ρ (xs.getD i undef) (ys.getD i undef)) : VRel n ρ (.agg xs) (.agg ys)
  | tuple {xs ys : Array Value} (h1 : xs.size = ys.size) (h3 : ∀ i, i < xs.size → VRel n ρ (xs.getD i undef) (ys.getD i undef)) : VRel n ρ (.tuple xs) (.tuple ys)

section vrel
variable {n n' : Nat} {ρ ρ' : Nat → Loc} {v v' u : Value}

theorem VRel.mono (h : VRel n ρ v v') (hn : n ≤ n') (ha : ∀ i, i < n → ρ' i = ρ i) : VRel n' ρ' v v' := by
  induction h with
  | any v => exact .any v
  | skip => exact .skip
  | atom h => exact .atom h
  | ptr h => rw [← ha _ h]; exact .ptr (Nat.lt_of_lt_of_le h hn)
  | slice h => rw [← ha _ h]; exact .slice (Nat.lt_of_lt_of_le h hn)
  | loose h hc hs => rw [← ha _ h] at hs ⊢; exact .loose (Nat.lt_of_lt_of_le h hn) hc hs
  | void => exact .void
  | func h1 h2 _ _ i3 i4 => exact .func h1 h2 i3 i4
  | agg h1 _ i3 => exact .agg h1 i3
  | tuple h1 _ i3 => exact .tuple h1 i3

/-- What was related below n, and is related again further up, is related below n. -/
theorem VRel.restrict {x : Value} (h : VRel n ρ v x) : ∀ {v' : Value}, VRel n' ρ' v v' → (∀ i, i < n → ρ' i = ρ i) → VRel n ρ' v v' := by
  induction h with
  | any v => intro v' _ _; exact .any _
  | skip =>
    intro v' h' _
    cases h' with
    | skip => exact .skip
    | atom h => simp [Am.atom, skp] at h
  | atom h =>
    intro v' h' _
    cases h' with
    | any => exact .any _
    | atom h => exact .atom h
    | _ => simp [Am.atom, skp] at h
  | ptr h =>
    intro v' h' ha
    cases h' with
    | atom h => simp [Am.atom] at h
    | ptr _ => exact .ptr h
  | slice h =>
    intro v' h' ha
    cases h' with
    | atom h => simp [Am.atom] at h
    | slice _ => exact .slice h
  | loose h hc hs =>
    intro v' h' ha
    cases h' with
    | atom h => simp [Am.atom] at h
    | loose _ hc hs => exact .loose h hc hs
  | void =>
    intro v' h' _
    cases h' with
    | atom h => simp [Am.atom] at h
    | void => exact .void
  | func h1 h2 _ _ i3 i4 =>
    intro v' h' ha
    cases h' with
    | atom h => simp [Am.atom] at h
    | func g1 g2 g3 g4 => exact .func g1 g2 (fun i hi => i3 i hi (g3 i hi) ha) (fun i hi => i4 i hi (g4 i hi) ha)
  | agg h1 _ i3 =>
    intro v' h' ha
    cases h' with
    | atom h => simp [Am.atom] at h
    | agg g1 g3 => exact .agg g1 (fun i hi => i3 i hi (g3 i hi) ha)
  | tuple h1 _ i3 =>
    intro v' h' ha
    cases h' with
    | any => exact .any _
    | atom h => simp [Am.atom] at h
    | tuple g1 g3 => exact .tuple g1 (fun i hi => i3 i hi (g3 i hi) ha)

theorem VRel.atom_eq (h : VRel n ρ v v') (ha : Am.atom v = true) : v' = v := by
  cases h <;> first | rfl | simp [Am.atom, undef, skp] at ha

/-- What a guard reads: a Bool, or the slot of an operation that did not run. -/
def gv : Option Bool → Value
  | some b => .bool b
  | none => skp
def boolOf : Value → Option Bool
  | .bool b => some b
  | _ => none
theorem VRel.gv {g : Option Bool} (h : VRel n ρ (gv g) v') : boolOf v' = g := by
  cases g with
  | some b => rw [h.atom_eq rfl]; rfl
  | none =>
    unfold Am.gv skp at h
    cases h with
    | skip => rfl
    | atom h => simp [Am.atom] at h

theorem VRel.int {k : IntKind} {a : Int} (h : VRel n ρ (.int k a) v') : v' = .int k a := h.atom_eq rfl
theorem VRel.bool {b : Bool} (h : VRel n ρ (.bool b) v') : v' = .bool b := h.atom_eq rfl
theorem VRel.ptr' {b o : Nat} {s : Option Nat} (h : VRel n ρ (.pointer (some ⟨b, o, s⟩)) v') : s = none ∧ b < n ∧ v' = .pointer (some ⟨(ρ b).blk, o, none⟩) := by
  cases h with
  | atom h => simp [Am.atom] at h
  | ptr h => exact ⟨rfl, h, rfl⟩
theorem VRel.slice' {b o len cap : Nat} (h : VRel n ρ (.slice (some ⟨b, o, none⟩) len cap) v') : b < n ∧ v' = .slice (some ⟨(ρ b).blk, o, none⟩) len cap := by
  cases h with
  | atom h => simp [Am.atom] at h
  | slice h => exact ⟨h, rfl⟩
/-- A slice, exact or loose. -/
theorem VRel.sl {b o len cap : Nat} {s : Option Nat} (h : VRel n ρ (.slice (some ⟨b, o, s⟩) len cap) v') :
    b < n ∧ ∃ cap', cap ≤ cap' ∧ (s = none → cap' = cap) ∧ (s ≠ none → o = 0 → o + cap' * (ρ b).es = (ρ b).sz) ∧ v' = .slice (some ⟨(ρ b).blk, o, none⟩) len cap' ∧ (s = none ∨ s = some 0) := by
  cases h with
  | atom h => simp [Am.atom] at h
  | slice h => exact ⟨h, cap, Nat.le_refl _, fun _ => rfl, fun h => absurd rfl h, rfl, .inl rfl⟩
  | loose h hc hs => exact ⟨h, _, hc, (fun h => by cases h), fun _ => hs, rfl, .inr rfl⟩
theorem VRel.agg' {xs : Array Value} (h : VRel n ρ (.agg xs) v') : ∃ ys, v' = .agg ys ∧ xs.size = ys.size ∧ ∀ i, i < xs.size → VRel n ρ (xs.getD i undef) (ys.getD i undef) := by
  cases h with
  | atom h => simp [Am.atom] at h
  | agg h1 h3 => exact ⟨_, rfl, h1, h3⟩
theorem VRel.func' {f : FuncId} {xs us : Array Value} (h : VRel n ρ (.func (.func f) xs us) v') : ∃ ys vs, v' = .func (.func f) ys vs ∧ xs.size = ys.size ∧ us.size = vs.size ∧
    (∀ i, i < xs.size → VRel n ρ (xs.getD i undef) (ys.getD i undef)) ∧ ∀ i, i < us.size → VRel n ρ (us.getD i undef) (vs.getD i undef) := by
  cases h with
  | atom h => simp [Am.atom] at h
  | func h1 h2 h3 h4 => exact ⟨_, _, rfl, h1, h2, h3, h4⟩
theorem VRel.tuple' {xs : Array Value} (h : VRel n ρ (.tuple xs) v') (hx : xs ≠ #[]) : ∃ ys, v' = .tuple ys ∧ xs.size = ys.size ∧ ∀ i, i < xs.size → VRel n ρ (xs.getD i undef) (ys.getD i undef) := by
  cases h with
  | any => exact absurd rfl hx
  | atom h => simp [Am.atom] at h
  | tuple h1 h3 => exact ⟨_, rfl, h1, h3⟩
end vrel

/-- The package-level tables that lie as they were laid: their blocks. -/
class Tabs (P : Program) where
  tabs : List (Nat × Obj)

/-- What may be written: the blocks of the abstract heap that are alive and not read-only. -/
def Mine (h : Heap) (ρ : Nat → Loc) (k : Nat) : Prop := ∃ i c e, view h i = some (c, e, false) ∧ (ρ i).blk = k

/-- The abstract heap held against the world. -/
structure Sim (P : Program) [Tabs P] (ρ : Nat → Loc) (h : Heap) (w : World) : Prop where
  cells : ∀ i c e ro, view h i = some (c, e, ro) → ∃ c' fr, w.heap[(ρ i).blk]? = some (.cells c' e fr) ∧ c'.size = (ρ i).sz ∧ c.length ≤ c'.size ∧
    (∀ k, k < c.length → VRel h.length ρ (c.getD k undef) (c'.getD k undef)) ∧ (ro = false → fr = (0, 0) ∧ (P.info? e).map (·.size) = some (ρ i).es)
  inj : ∀ i j x y, view h i = some x → view h j = some y → (ρ i).blk = (ρ j).blk → i = j
  tab : ∀ p ∈ Tabs.tabs P, w.heap[p.1]? = some p.2 ∧ ¬ Mine h ρ p.1

/-- What the abstract heap speaks of. -/
def Live (h : Heap) (ρ : Nat → Loc) (k : Nat) : Prop := ∃ i x, view h i = some x ∧ (ρ i).blk = k

structure Evo (h : Heap) (ρ : Nat → Loc) (w : World) (h' : Heap) (ρ' : Nat → Loc) (w' : World) : Prop where
  len : h.length ≤ h'.length
  agree : ∀ i, i < h.length → ρ' i = ρ i
  wsize : w.heap.size ≤ w'.heap.size
  os : w'.os = w.os
  tape : w'.tape = w.tape
  output : w'.output = w.output
  keep : ∀ k, k < w.heap.size → ¬ Mine h ρ k → w'.heap[k]? = w.heap[k]?
  orig : ∀ k, Mine h' ρ' k → w.heap.size ≤ k ∨ Mine h ρ k
  live : ∀ k, Live h' ρ' k → w.heap.size ≤ k ∨ Live h ρ k

theorem Evo.refl (h : Heap) (ρ : Nat → Loc) (w : World) : Evo h ρ w h ρ w :=
  ⟨Nat.le_refl _, fun _ _ => rfl, Nat.le_refl _, rfl, rfl, rfl, fun _ _ _ => rfl, fun _ hk => .inr hk, fun _ hk => .inr hk⟩

theorem Evo.tab {h h' : Heap} {ρ ρ' : Nat → Loc} {w w' : World} (a : Evo h ρ w h' ρ' w') {k : Nat} {o : Obj} (ht : w.heap[k]? = some o ∧ ¬ Mine h ρ k) : w'.heap[k]? = some o ∧ ¬ Mine h' ρ' k := by
  have hk := (Array.getElem?_eq_some_iff.1 ht.1).1
  exact ⟨(a.keep k hk ht.2).trans ht.1, fun hm => (a.orig k hm).elim (fun h => by omega) ht.2⟩

theorem Evo.trans {h h1 h2 : Heap} {ρ ρ1 ρ2 : Nat → Loc} {w w1 w2 : World} (a : Evo h ρ w h1 ρ1 w1) (b : Evo h1 ρ1 w1 h2 ρ2 w2) : Evo h ρ w h2 ρ2 w2 where
  len := Nat.le_trans a.len b.len
  agree i hi := (b.agree i (Nat.lt_of_lt_of_le hi a.len)).trans (a.agree i hi)
  wsize := Nat.le_trans a.wsize b.wsize
  os := b.os.trans a.os
  tape := b.tape.trans a.tape
  output := b.output.trans a.output
  keep k hk hm := (b.keep k (Nat.lt_of_lt_of_le hk a.wsize) (fun hm1 => (a.orig k hm1).elim (fun h => by omega) hm)).trans (a.keep k hk hm)
  orig k hk := (b.orig k hk).elim (fun h => .inl (Nat.le_trans a.wsize h)) (a.orig k)
  live k hk := (b.live k hk).elim (fun h => .inl (Nat.le_trans a.wsize h)) (a.live k)

/-- A block that is no row of cells lies as it lay. -/
theorem Evo.other {P : Program} [Tabs P] {h h' : Heap} {ρ ρ' : Nat → Loc} {w w' : World} (a : Evo h ρ w h' ρ' w') (s : Sim P ρ h w) {k : Nat} {o : Obj} (hk : w.heap[k]? = some o) (ho : o.isCells = false) :
    w'.heap[k]? = some o := by
  rw [a.keep k (Array.getElem?_eq_some_iff.1 hk).1, hk]
  rintro ⟨i, c, e, hv, he⟩
  obtain ⟨c', fr, hc, _⟩ := s.cells i c e false hv
  rw [he, hk] at hc
  cases hc
  cases ho

/-- The temporaries of the abstract machine. -/
abbrev Env := List (Nat × Value)
def sget : Env → Nat → Value
  | [], _ => undef
  | (i, v) :: e, n => bif i == n then v else sget e n
def sput : Env → Nat → Value → Env
  | [], n, v => [(n, v)]
  | (i, x) :: e, n, v => bif i == n then (n, v) :: e else (i, x) :: sput e n v
def sputO (e : Env) : Option Nat → Value → Env
  | none, _ => e
  | some d, v => sput e d v
def ev (e : Env) : Operand → Value
  | .tmp t => sget e t
  | .const v => v
  | .global g => .pointer (some ⟨g, 0, none⟩)
  | .func f => .func (.func f) #[] #[]

theorem sget_sput (e : Env) (d i : Nat) (v : Value) : sget (sput e d v) i = if d = i then v else sget e i := by
  induction e with
  | nil => simp [sput, sget, cond_eq_ite]
  | cons p e ih =>
    obtain ⟨j, x⟩ := p
    simp only [sput, sget, cond_eq_ite, beq_iff_eq]
    by_cases hj : j = d
    · subst hj
      simp only [if_true, sget, cond_eq_ite, beq_iff_eq]
      by_cases hi : j = i <;> simp [hi]
    · simp only [if_neg hj, sget, cond_eq_ite, beq_iff_eq, ih]
      by_cases hi : j = i
      · subst hi; simp [Ne.symm hj]
      · simp [hi]

def ERel (n : Nat) (ρ : Nat → Loc) (e : Env) (t : Array Value) : Prop := ∀ i, i < t.size → VRel n ρ (sget e i) (t.getD i undef)

/-- e1 says no more than e. -/
def ELe (e e1 : Env) : Prop := ∀ p ∈ e1, sget e p.1 = p.2
theorem ELe.get {e e1 : Env} (h : ELe e e1) (i : Nat) : sget e1 i = undef ∨ sget e1 i = sget e i := by
  induction e1 with
  | nil => exact .inl rfl
  | cons p l ih =>
    obtain ⟨j, x⟩ := p
    simp only [Am.sget, cond_eq_ite, beq_iff_eq]
    by_cases hj : j = i
    · subst hj; simp only [if_true]; exact .inr (h (j, x) (by simp)).symm
    · simp only [if_neg hj]; exact ih (fun p hp => h p (by simp [hp]))
theorem ERel.le {n : Nat} {ρ : Nat → Loc} {e e1 : Env} {t : Array Value} (h : ERel n ρ e t) (hl : ELe e e1) : ERel n ρ e1 t := by
  intro i hi
  rcases hl.get i with h1 | h1
  · rw [h1]; exact .any _
  · rw [h1]; exact h i hi
theorem ERel.mono {n n' : Nat} {ρ ρ' : Nat → Loc} {e : Env} {t : Array Value} (h : ERel n ρ e t) (hn : n ≤ n') (ha : ∀ i, i < n → ρ' i = ρ i) : ERel n' ρ' e t :=
  fun i hi => (h i hi).mono hn ha
theorem ERel.put {n : Nat} {ρ : Nat → Loc} {e : Env} {t : Array Value} {v v' : Value} {d : Nat} (h : ERel n ρ e t) (hv : VRel n ρ v v') : ERel n ρ (Am.sput e d v) (t.setIfInBounds d v') := by
  intro i hi
  rw [sget_sput]
  simp only [Array.size_setIfInBounds] at hi
  by_cases hd : d = i
  · subst hd; simp [Array.getD, hi, hv]
  · rw [if_neg hd]
    have e1 : (t.setIfInBounds d v').getD i undef = t.getD i undef := by simp [Array.getElem?_setIfInBounds_ne hd]
    rw [e1]; exact h i hi

/-- The activation held against the environment. 'm': the heap's size when the activation began; its marks are those of loops over functions, laid since. -/
structure ARel (r : Option Nat) (m sz : Nat) (ρ : Nat → Loc) (h : Heap) (e : Env) (a : Act) (w : World) : Prop where
  size : a.tmps.size = sz
  env : ERel h.length ρ e a.tmps
  marks : ∃ Ds : List Nat, a.defers = Ds.map (fun D => { target := .collected D, args := #[] }) ∧ Ds.Nodup ∧ ∀ D ∈ Ds, m ≤ D ∧ w.heap[D]? = some (.deferred (some []))
  round : ∀ l, r = some l → ∃ rec, w.heap[l]? = some (.loop rec)

theorem ARel.evo {P : Program} [Tabs P] {r : Option Nat} {m sz : Nat} {ρ ρ' : Nat → Loc} {h h' : Heap} {e : Env} {a : Act} {w w' : World} (x : ARel r m sz ρ h e a w) (s : Sim P ρ h w) (v : Evo h ρ w h' ρ' w') :
    ARel r m sz ρ' h' e a w' where
  size := x.size
  env := x.env.mono v.len v.agree
  marks := let ⟨Ds, h1, h2, h3⟩ := x.marks; ⟨Ds, h1, h2, fun D hD => ⟨(h3 D hD).1, v.other s (h3 D hD).2 rfl⟩⟩
  round l hl := let ⟨rec, hr⟩ := x.round l hl; ⟨rec, v.other s hr rfl⟩

def dok (sz : Nat) : Option Nat → Prop
  | none => True
  | some d => d < sz

theorem ARel.put {r : Option Nat} {m sz : Nat} {ρ : Nat → Loc} {h : Heap} {e : Env} {a : Act} {w : World} (x : ARel r m sz ρ h e a w) {dst : Option Nat} {v v' : Value} (hv : VRel h.length ρ v v') :
    ARel r m sz ρ h (sputO e dst v) (a.put dst v') w := by
  cases dst with
  | none => exact x
  | some d => exact ⟨by simp [Act.put, x.size], x.env.put hv, x.marks, x.round⟩

theorem ARel.le {r : Option Nat} {m sz : Nat} {ρ : Nat → Loc} {h : Heap} {e e1 : Env} {a : Act} {w : World} (x : ARel r m sz ρ h e a w) (hl : ELe e e1) : ARel r m sz ρ h e1 a w :=
  ⟨x.size, x.env.le hl, x.marks, x.round⟩

/-- An operand's value. -/
def vok (sz : Nat) : Operand → Prop
  | .tmp t => t < sz
  | .const v => atom v = true ∨ ∃ k, v = .agg k ∧ ∀ i, i < k.size → atom (k.getD i undef) = true
  | .global _ => False
  | .func _ => True

theorem ARel.ev {r : Option Nat} {m sz : Nat} {ρ : Nat → Loc} {h : Heap} {e : Env} {a : Act} {w : World} (x : ARel r m sz ρ h e a w) {o : Operand} (ho : vok sz o) : VRel h.length ρ (ev e o) (a.eval o) := by
  cases o with
  | tmp t => exact x.env t (by rw [x.size]; exact ho)
  | const v =>
    rcases ho with ho | ⟨k, rfl, hk⟩
    · exact .atom ho
    · exact .agg rfl (fun i hi => .atom (hk i hi))
  | global g => exact ho.elim
  | func f => exact .func rfl rfl (fun i hi => by simp at hi) (fun i hi => by simp at hi)
end Go.Am
