/-
  The abstract machine, part K: a region whose order Go leaves open, told in the text's order: who may stand in whose place.
-/
import Derived.Test.YtaagkbbphgdcdaaDoorAmJ
set_option linter.all false
namespace Go.Am

/-- The loads of which is said (i, 5): on each heap that may occur they come to the same. -/
def frm : List (Nat × Nat) → Nat → Bool
  | [], _ => false
  | (a, b) :: l, i => bif a == i then b == 5 else frm l i
/-- Whether an operation marked (i, 6) stands ahead of place k: from there on the frame need not hold. -/
def past : List (Nat × Nat) → Nat → Bool
  | [], _ => false
  | (a, b) :: l, k => bif b == 6 then (decide (a < k) || past l k) else past l k
theorem past_mem : ∀ {qs : List (Nat × Nat)} {k : Nat}, past qs k = true ↔ ∃ a, (a, 6) ∈ qs ∧ a < k
  | [], k => by simp [past]
  | (a, b) :: l, k => by
    have ih := past_mem (qs := l) (k := k)
    by_cases hb : b = 6
    · subst hb
      simp only [past, beq_self_eq_true, cond_true, Bool.or_eq_true, decide_eq_true_eq, ih]
      constructor
      · rintro (h | ⟨a', h1, h2⟩)
        · exact ⟨a, by simp, h⟩
        · exact ⟨a', by simp [h1], h2⟩
      · rintro ⟨a', h1, h2⟩
        rcases List.mem_cons.1 h1 with h | h
        · cases h; exact .inl h2
        · exact .inr ⟨a', h, h2⟩
    · have : (b == 6) = false := by simpa using hb
      simp only [past, this, cond_false, ih]
      constructor
      · rintro ⟨a', h1, h2⟩; exact ⟨a', by simp [h1], h2⟩
      · rintro ⟨a', h1, h2⟩
        rcases List.mem_cons.1 h1 with h | h
        · cases h; exact absurd rfl hb
        · exact ⟨a', h, h2⟩
theorem past_mono {qs : List (Nat × Nat)} {j k : Nat} (hjk : j ≤ k) (h : past qs k = false) : past qs j = false := by
  cases hj : past qs j with
  | false => rfl
  | true =>
    obtain ⟨a, h1, h2⟩ := past_mem.1 hj
    rw [past_mem.2 ⟨a, h1, by omega⟩] at h; cases h
/-- 0: touches no memory · 1: leaves the heap as it is · 2: does so on each heap that may occur · 3: all else. 'qs': what is said of the calls, by their place. -/
def cls (qs : List (Nat × Nat)) (i : Nat) (op : Op) : Nat :=
  if worldless op then 0 else
  match op with
  | .load .. => bif frm qs i then 2 else 1
  | .call { callee := .value _, .. } => (match qs.find? (·.1 == i) with | some (_, c) => if c == 1 then 1 else if c == 2 then 2 else 3 | none => 3)
  | _ => 3

theorem cls_cases (qs : List (Nat × Nat)) (i : Nat) (op : Op) : (cls qs i op = 0 ∧ worldless op = true) ∨ cls qs i op = 1 ∨ cls qs i op = 2 ∨ cls qs i op = 3 := by
  unfold cls
  split
  · exact .inl ⟨rfl, by assumption⟩
  · right
    split
    · cases frm qs i
      · exact .inl rfl
      · exact .inr (.inl rfl)
    · split
      · split
        · exact .inl rfl
        · split
          · exact .inr (.inl rfl)
          · exact .inr (.inr rfl)
      · exact .inr (.inr rfl)
    · exact .inr (.inr rfl)

/-- The region, told in the text's order. -/
def dops (P : Program) [Tabs P] (qs : List (Nat × Nat)) (N : Env → Heap → Prop) : Nat → List SOp → Env → Heap → Prop
  | _, [], e, h => N e h
  | i, ⟨dst, op, g⟩ :: l, e, h =>
    let go : Prop :=
      (match cls qs i op with
       | 1 => aop P true op (ev e) h (fun v h' => h' = h ∧ dops P qs N (i + 1) l (sputO e dst v) h)
       | 2 => ∃ v, (∀ h0, aop P true op (ev e) h0 (fun v' h' => v' = v ∧ h' = h0)) ∧ dops P qs N (i + 1) l (sputO e dst v) h
       | _ => aop P true op (ev e) h (fun v h' => dops P qs N (i + 1) l (sputO e dst v) h'))
    match g with
    | none => go
    | some (d, want) => ∃ g : Option Bool, sget e d = gv g ∧ (g = some want → go) ∧ (g ≠ some want → dops P qs N (i + 1) l (sputO e dst skp) h)

/-! ### Who stands ahead of whom -/
def bitsAux : List Nat → List (List Nat) → List Nat
  | acc, [] => acc
  | acc, es :: l => bitsAux (acc ++ [es.foldl (fun s e => s ||| 2 ^ e ||| acc.getD e 0) 0]) l

theorem foldl_or {acc : List Nat} {i : Nat} : ∀ (es : List Nat) (s : Nat), (es.foldl (fun s e => s ||| 2 ^ e ||| acc.getD e 0) s).testBit i = true → s.testBit i = true ∨ ∃ e ∈ es, e = i ∨ (acc.getD e 0).testBit i = true
  | [], s, h => .inl h
  | e :: es, s, h => by
    rcases foldl_or es _ h with h1 | ⟨e', h1, h2⟩
    · simp only [Nat.testBit_or, Bool.or_eq_true] at h1
      rcases h1 with (h1 | h1) | h1
      · exact .inl h1
      · rw [Nat.testBit_two_pow] at h1; exact .inr ⟨e, by simp, .inl (by simpa using h1)⟩
      · exact .inr ⟨e, by simp, .inr h1⟩
    · exact .inr ⟨e', by simp [h1], h2⟩

def GoodB (af : List (List Nat)) (acc : List Nat) : Prop := acc.length ≤ af.length ∧ ∀ j i, j < acc.length → (acc.getD j 0).testBit i = true → ∃ e ∈ af.getD j [], e = i ∨ (e < j ∧ (acc.getD e 0).testBit i = true)

theorem bitsAux_good : ∀ (l : List (List Nat)) (pre : List (List Nat)) (acc : List Nat), acc.length = pre.length → GoodB (pre ++ l) acc → GoodB (pre ++ l) (bitsAux acc l)
  | [], pre, acc, _, h => h
  | es :: l, pre, acc, hl, h => by
    unfold bitsAux
    have e1 : pre ++ es :: l = (pre ++ [es]) ++ l := by simp
    rw [e1]
    refine bitsAux_good l (pre ++ [es]) _ (by simp [hl]) ?_
    rw [← e1]
    refine ⟨by simp; omega, fun j i hj hb => ?_⟩
    simp only [List.length_append, List.length_singleton] at hj
    by_cases hj2 : j < acc.length
    · have e2 : (acc ++ [es.foldl (fun s e => s ||| 2 ^ e ||| acc.getD e 0) 0]).getD j 0 = acc.getD j 0 := by simp [List.getD, List.getElem?_append_left hj2]
      rw [e2] at hb
      obtain ⟨e, he, h1⟩ := h.2 j i hj2 hb
      refine ⟨e, he, h1.imp id fun ⟨g1, g2⟩ => ⟨g1, ?_⟩⟩
      have e3 : (acc ++ [es.foldl (fun s e => s ||| 2 ^ e ||| acc.getD e 0) 0]).getD e 0 = acc.getD e 0 := by simp [List.getD, List.getElem?_append_left (show e < acc.length by omega)]
      rw [e3]; exact g2
    · obtain rfl : j = acc.length := by omega
      have e2 : (acc ++ [es.foldl (fun s e => s ||| 2 ^ e ||| acc.getD e 0) 0]).getD acc.length 0 = es.foldl (fun s e => s ||| 2 ^ e ||| acc.getD e 0) 0 := by simp [List.getD]
      rw [e2] at hb
      have e4 : (pre ++ es :: l).getD acc.length [] = es := by rw [hl]; simp [List.getD]
      rw [e4]
      rcases foldl_or es 0 hb with h1 | ⟨e, he, h1⟩
      · simp at h1
      · refine ⟨e, he, h1.imp id fun g => ?_⟩
        have hel : e < acc.length := by
          rcases Nat.lt_or_ge e acc.length with h | h
          · exact h
          · simp [List.getD, List.getElem?_eq_none h] at g
        refine ⟨hel, ?_⟩
        have e3 : (acc ++ [es.foldl (fun s e => s ||| 2 ^ e ||| acc.getD e 0) 0]).getD e 0 = acc.getD e 0 := by simp [List.getD, List.getElem?_append_left hel]
        rw [e3]; exact g

/-- A set that is closed under the edges holds all that stands ahead of what it holds. -/
theorem ahead {af : List (List Nat)} {S : Nat → Prop} (hcl : ∀ j, S j → ∀ e ∈ af.getD j [], S e) : ∀ (j i : Nat), (∀ e ∈ af.getD j [], S e) → ((bitsAux [] af).getD j 0).testBit i = true → S i := by
  have good := bitsAux_good af [] [] rfl ⟨by simp, fun j i hj => by simp at hj⟩
  simp only [List.nil_append] at good
  intro j
  induction j using Nat.strongRecOn with
  | _ j ih =>
    intro i hj hb
    have hjl : j < (bitsAux [] af).length := by
      rcases Nat.lt_or_ge j (bitsAux [] af).length with h | h
      · exact h
      · simp [List.getD, List.getElem?_eq_none h] at hb
    obtain ⟨e, he, h1⟩ := good.2 j i hjl hb
    rcases h1 with rfl | ⟨h1, h2⟩
    · exact hj _ he
    · exact ih e h1 i (hcl e (hj e he)) h2

def reads (o : SOp) : List Nat := o.op.operands.toList.filterMap (fun | .tmp t => some t | _ => none) ++ (match o.guard with | some (d, _) => [d] | none => [])
def writes (o : SOp) (t : Nat) : Bool := o.dst == some t
def clash (c1 c2 : Nat) (o1 o2 : SOp) : Bool :=
  (match o1.dst with | some d => (o2.dst == some d) || (reads o2).contains d | none => false) || (match o2.dst with | some d => (reads o1).contains d | none => false) ||
  (c1 == 3 && (c2 == 3 || c2 == 1)) || (c2 == 3 && c1 == 1)
def drawOK (l : List SOp) (af : List (List Nat)) (qs : List (Nat × Nat)) : Bool :=
  let bs := bitsAux [] af
  l.zipIdx.all fun p2 => l.zipIdx.all fun p1 => !(decide (p1.2 < p2.2) && clash (cls qs p1.2 p1.1.op) (cls qs p2.2 p2.1.op) p1.1 p2.1) || (bs.getD p2.2 0).testBit p1.2

/-! ### The run in the text's order -/
/-- One operation of the run. -/
def StepD (P : Program) [Tabs P] (R : Heap → Prop) (c : Nat) (o : SOp) (e : Env) (h : Heap) (v : Value) (h' : Heap) : Prop :=
  let go : Prop := (∀ K : Value → Heap → Prop, K v h' → aop P true o.op (ev e) h K) ∧ (c ≠ 3 → h' = h) ∧ (c = 0 → ∀ (h0 : Heap) (K : Value → Heap → Prop), K v h0 → aop P true o.op (ev e) h0 K) ∧ (c = 2 → ∀ (h0 : Heap) (K : Value → Heap → Prop), R h0 → K v h0 → aop P true o.op (ev e) h0 K)
  match o.guard with
  | none => go
  | some (d, want) => ∃ g : Option Bool, sget e d = gv g ∧ (g = some want → go) ∧ (g ≠ some want → v = skp ∧ h' = h)

inductive Trace (P : Program) [Tabs P] (R : Heap → Prop) (qs : List (Nat × Nat)) : Nat → List SOp → Env → Heap → List (Value × Heap) → Env → Heap → Prop
  | nil (i : Nat) (e : Env) (h : Heap) : Trace P R qs i [] e h [] e h
  | cons {i : Nat} {o : SOp} {l : List SOp} {e e' : Env} {h h1 h' : Heap} {v : Value} {tr : List (Value × Heap)} (hs : StepD P R (cls qs i o.op) o e h v h1) (hr : past qs (i + 1) = false → R h1) (ht : Trace P R qs (i + 1) l (sputO e o.dst v) h1 tr e' h') : Trace P R qs i (o :: l) e h ((v, h1) :: tr) e' h'

theorem aop_mono {P : Program} [Tabs P] {h : Heap} {op : Op} {E : Operand → Value} {K K' : Value → Heap → Prop} (hk : aop P true op E h K) (hq : ∀ v h', K v h' → K' v h') : aop P true op E h K' := by
  obtain ⟨v, h', g1, g2, _⟩ := aop_lin hk
  exact g2 K' (hq _ _ g1)

theorem dops_trace {P : Program} [Tabs P] {qs : List (Nat × Nat)} {N : Env → Heap → Prop} : ∀ (l : List SOp) (i : Nat) (e : Env) (h : Heap), dops P qs N i l e h → ∃ tr e' h', Trace P (fun _ => True) qs i l e h tr e' h' ∧ N e' h'
  | [], i, e, h, hk => ⟨[], e, h, .nil i e h, hk⟩
  | o :: l, i, e, h, hk => by
    have goCase : ∀ (hgo : (match cls qs i o.op with
       | 1 => aop P true o.op (ev e) h (fun v h' => h' = h ∧ dops P qs N (i + 1) l (sputO e o.dst v) h)
       | 2 => ∃ v, (∀ h0, aop P true o.op (ev e) h0 (fun v' h' => v' = v ∧ h' = h0)) ∧ dops P qs N (i + 1) l (sputO e o.dst v) h
       | _ => aop P true o.op (ev e) h (fun v h' => dops P qs N (i + 1) l (sputO e o.dst v) h') : Prop)),
        ∃ v h1, dops P qs N (i + 1) l (sputO e o.dst v) h1 ∧ (∀ K : Value → Heap → Prop, K v h1 → aop P true o.op (ev e) h K) ∧ (cls qs i o.op ≠ 3 → h1 = h) ∧
          (cls qs i o.op = 0 → ∀ (h0 : Heap) (K : Value → Heap → Prop), K v h0 → aop P true o.op (ev e) h0 K) ∧ (cls qs i o.op = 2 → ∀ (h0 : Heap) (K : Value → Heap → Prop), True → K v h0 → aop P true o.op (ev e) h0 K) := by
      intro hgo
      split at hgo
      · rename_i hc
        obtain ⟨v, h', ⟨rfl, g1⟩, g2, _⟩ := aop_lin hgo
        exact ⟨v, _, g1, g2, fun _ => rfl, fun h => by rw [hc] at h; simp at h, fun h => by rw [hc] at h; simp at h⟩
      · rename_i hc
        obtain ⟨v, g1, g2⟩ := hgo
        exact ⟨v, h, g2, fun K hK => aop_mono (g1 h) (fun v' h' ⟨a, b⟩ => by rw [a, b]; exact hK), fun _ => rfl, fun h => by rw [hc] at h; simp at h, fun _ h0 K _ hK => aop_mono (g1 h0) (fun v' h' ⟨a, b⟩ => by rw [a, b]; exact hK)⟩
      · rename_i h1 h2
        obtain ⟨v, h', g1, g2, g3, _⟩ := aop_lin hgo
        by_cases hw : worldless o.op = true
        · obtain ⟨rfl, g4⟩ := g3 hw
          exact ⟨v, _, g1, g2, fun _ => rfl, fun _ h0 K => g4 h0 K, fun _ h0 K _ => g4 h0 K⟩
        · have hc : cls qs i o.op = 3 := by
            rcases cls_cases qs i o.op with ⟨_, h⟩ | h | h | h
            · exact absurd h hw
            · exact (h1 h).elim
            · exact (h2 h).elim
            · exact h
          exact ⟨v, h', g1, g2, fun h => absurd hc h, fun h => by rw [hc] at h; simp at h, fun h => by rw [hc] at h; simp at h⟩
    obtain ⟨dst, op, g⟩ := o
    cases g with
    | none =>
      obtain ⟨v, h1, k1, k2⟩ := goCase hk
      obtain ⟨tr, e', h', t1, t2⟩ := dops_trace l (i + 1) _ _ k1
      exact ⟨(v, h1) :: tr, e', h', .cons (by simpa [StepD] using k2) (fun _ => trivial) t1, t2⟩
    | some p =>
      obtain ⟨d, want⟩ := p
      obtain ⟨b, hb, k1, k2⟩ := hk
      by_cases hbw : b = some want
      · obtain ⟨v, h1, j1, j2⟩ := goCase (k1 hbw)
        obtain ⟨tr, e', h', t1, t2⟩ := dops_trace l (i + 1) _ _ j1
        exact ⟨(v, h1) :: tr, e', h', .cons ⟨b, hb, fun _ => j2, fun h => absurd hbw h⟩ (fun _ => trivial) t1, t2⟩
      · obtain ⟨tr, e', h', t1, t2⟩ := dops_trace l (i + 1) _ _ (k2 hbw)
        exact ⟨(skp, h) :: tr, e', h', .cons ⟨b, hb, fun h => absurd h hbw, fun _ => ⟨rfl, rfl⟩⟩ (fun _ => trivial) t1, t2⟩
/-! ### The trace read by its places -/
/-- The environment and the heap ahead of the k-th operation. -/
def envAt (l : List SOp) (tr : List (Value × Heap)) (e : Env) : Nat → Env
  | 0 => e
  | k + 1 => match l[k]?, tr[k]? with
    | some o, some (v, _) => sputO (envAt l tr e k) o.dst v
    | _, _ => envAt l tr e k
def heapAt (tr : List (Value × Heap)) (h : Heap) : Nat → Heap
  | 0 => h
  | k + 1 => match tr[k]? with
    | some (_, h') => h'
    | none => heapAt tr h k

theorem envAt_cons (o : SOp) (l : List SOp) (x : Value × Heap) (tr : List (Value × Heap)) (e : Env) : ∀ k, envAt (o :: l) (x :: tr) e (k + 1) = envAt l tr (sputO e o.dst x.1) k
  | 0 => rfl
  | k + 1 => by
    show (match l[k]?, tr[k]? with | some o', some (v, _) => sputO (envAt (o :: l) (x :: tr) e (k + 1)) o'.dst v | _, _ => envAt (o :: l) (x :: tr) e (k + 1)) = _
    rw [envAt_cons o l x tr e k]; rfl
theorem heapAt_cons (x : Value × Heap) (tr : List (Value × Heap)) (h : Heap) : ∀ k, heapAt (x :: tr) h (k + 1) = heapAt tr x.2 k
  | 0 => rfl
  | k + 1 => by
    show (match tr[k]? with | some (_, h') => h' | none => heapAt (x :: tr) h (k + 1)) = _
    rw [heapAt_cons x tr h k]; rfl

theorem Trace.spec {P : Program} [Tabs P] {R : Heap → Prop} {qs : List (Nat × Nat)} {i : Nat} {l : List SOp} {e e' : Env} {h h' : Heap} {tr : List (Value × Heap)} (t : Trace P R qs i l e h tr e' h') :
    tr.length = l.length ∧ envAt l tr e l.length = e' ∧ heapAt tr h l.length = h' ∧
    ∀ k o, l[k]? = some o → ∃ v, tr[k]? = some (v, heapAt tr h (k + 1)) ∧ StepD P R (cls qs (i + k) o.op) o (envAt l tr e k) (heapAt tr h k) v (heapAt tr h (k + 1)) := by
  induction t with
  | nil i e h => exact ⟨rfl, rfl, rfl, fun k o hk => by simp at hk⟩
  | @cons i o l e e' h h1 h' v tr hs _ ht ih =>
    obtain ⟨i1, i2, i3, i4⟩ := ih
    refine ⟨by simp [i1], by rw [List.length_cons, envAt_cons]; exact i2, by rw [List.length_cons, heapAt_cons]; exact i3, fun k o' hk => ?_⟩
    cases k with
    | zero =>
      cases hk
      exact ⟨v, rfl, hs⟩
    | succ k =>
      obtain ⟨v', g1, g2⟩ := i4 k o' (by simpa using hk)
      refine ⟨v', by rw [heapAt_cons]; simpa using g1, ?_⟩
      rw [envAt_cons, heapAt_cons, heapAt_cons]
      rw [show i + (k + 1) = i + 1 + k by omega]
      exact g2

theorem Trace.rr {P : Program} [Tabs P] {R : Heap → Prop} {qs : List (Nat × Nat)} {i : Nat} {l : List SOp} {e e' : Env} {h h' : Heap} {tr : List (Value × Heap)} (t : Trace P R qs i l e h tr e' h') (h0 : past qs i = false → R h) : ∀ k, past qs (i + k) = false → R (heapAt tr h k) := by
  induction t with
  | nil i e h =>
    intro k hp
    have : heapAt [] h k = h := by
      induction k with
      | zero => rfl
      | succ k ih => exact ih (past_mono (by omega) hp)
    rw [this]
    exact h0 (past_mono (by omega) hp)
  | @cons i o l e e' h h1 h' v tr hs hr ht ih =>
    intro k hp
    cases k with
    | zero => exact h0 hp
    | succ k => rw [heapAt_cons]; exact ih hr k (by rw [show i + 1 + k = i + (k + 1) by omega]; exact hp)

theorem sget_sputO (e : Env) (dst : Option Nat) (v : Value) (t : Nat) : sget (sputO e dst v) t = if dst = some t then v else sget e t := by
  cases dst with
  | none => simp [sputO]
  | some d => simp [sputO, sget_sput]

/-- Between two places among which nobody writes slot t, it holds the same. -/
theorem envAt_same {l : List SOp} {tr : List (Value × Heap)} {e : Env} {t : Nat} : ∀ (a d : Nat), (∀ k o, a ≤ k → k < a + d → l[k]? = some o → o.dst ≠ some t) → sget (envAt l tr e (a + d)) t = sget (envAt l tr e a) t
  | a, 0, _ => rfl
  | a, d + 1, hw => by
    have ih := envAt_same (tr := tr) (e := e) a d (fun k o h1 h2 h3 => hw k o h1 (by omega) h3)
    rw [← Nat.add_assoc]
    show sget (match l[a + d]?, tr[a + d]? with | some o, some (v, _) => sputO (envAt l tr e (a + d)) o.dst v | _, _ => envAt l tr e (a + d)) t = _
    split
    · rename_i o v h' h1 h2
      rw [sget_sputO, if_neg (hw (a + d) o (by omega) (by omega) h1), ih]
    · exact ih

theorem envAt_eq {l : List SOp} {tr : List (Value × Heap)} {e : Env} {t a b : Nat} (hw : ∀ k o, l[k]? = some o → o.dst = some t → (k < a ↔ k < b)) : sget (envAt l tr e a) t = sget (envAt l tr e b) t := by
  rcases Nat.le_total a b with h | h
  · obtain ⟨d, rfl⟩ := Nat.exists_eq_add_of_le h
    exact (envAt_same a d (fun k o h1 h2 h3 h4 => by have := hw k o h3 h4; omega)).symm
  · obtain ⟨d, rfl⟩ := Nat.exists_eq_add_of_le h
    exact envAt_same b d (fun k o h1 h2 h3 h4 => by have := hw k o h3 h4; omega)

theorem heapAt_eq {tr : List (Value × Heap)} {h : Heap} {X : Nat → Prop} (hx : ∀ k, k < tr.length → ¬ X k → heapAt tr h (k + 1) = heapAt tr h k) {a b : Nat} (hw : ∀ k, X k → (k < a ↔ k < b)) : heapAt tr h a = heapAt tr h b := by
  have key : ∀ (d a : Nat), (∀ k, X k → a ≤ k → ¬ k < a + d) → heapAt tr h (a + d) = heapAt tr h a := by
    intro d
    induction d with
    | zero => intro a _; rfl
    | succ d ih =>
      intro a hn
      rw [← Nat.add_assoc]
      have ih' := ih a (fun k h1 h2 h3 => hn k h1 h2 (by omega))
      by_cases hl : a + d < tr.length
      · rw [hx (a + d) hl (fun hX => hn (a + d) hX (by omega) (by omega)), ih']
      · show (match tr[a + d]? with | some (_, h') => h' | none => heapAt tr h (a + d)) = _
        rw [List.getElem?_eq_none (by omega)]; exact ih'
  rcases Nat.le_total a b with hab | hab
  · obtain ⟨d, rfl⟩ := Nat.exists_eq_add_of_le hab
    exact (key d a (fun k h1 h2 h3 => by have := hw k h1; omega)).symm
  · obtain ⟨d, rfl⟩ := Nat.exists_eq_add_of_le hab
    exact key d b (fun k h1 h2 h3 => by have := hw k h1; omega)

/-- What an operation does hangs on the slots that it reads. -/
theorem aop_congr {P : Program} [Tabs P] {d : Bool} {op : Op} {E E' : Operand → Value} {h : Heap} {K : Value → Heap → Prop} (hE : ∀ x ∈ op.operands.toList, E x = E' x) : aop P d op E h K = aop P d op E' h K := by
  have hl : ∀ l : List Operand, (∀ x ∈ l, E x = E' x) → l.map E = l.map E' := fun l hl => List.map_congr_left hl
  have hp : ∀ l : List (Nat × Operand), (∀ p ∈ l, E p.2 = E' p.2) → (l.map fun p => (p.1, E p.2)) = (l.map fun p => (p.1, E' p.2)) := fun l hl => List.map_congr_left (fun p hp => by rw [hl p hp])
  have ho : ∀ o : Option Operand, (∀ x, o = some x → E x = E' x) → o.map E = o.map E' := fun o ho => by cases o with | none => rfl | some x => simp [ho x rfl]
  cases op
  case build t parts => simp only [aop]; rw [hp parts.toList (fun p hm => hE p.2 (by simp [Op.operands]; exact ⟨p.1, by simpa using hm⟩))]
  case buildSlice t len parts => simp only [aop]; rw [hp parts.toList (fun p hm => hE p.2 (by simp [Op.operands]; exact ⟨p.1, by simpa using hm⟩))]
  case makeFunc fn first captured =>
    cases fn <;> simp only [aop]
    have h1 : first.map E = first.map E' := Array.map_congr_left (fun x hx => hE x (by simp [Op.operands]; exact .inl hx))
    have h2 : captured.map E = captured.map E' := Array.map_congr_left (fun x hx => hE x (by simp [Op.operands]; exact .inr hx))
    rw [h1, h2]
  case slice t x lo hi mx =>
    simp only [aop]
    rw [hE x (by simp [Op.operands]), ho lo (fun y hy => hE y (by subst hy; simp [Op.operands])), ho hi (fun y hy => hE y (by subst hy; simp [Op.operands])), ho mx (fun y hy => hE y (by subst hy; simp [Op.operands]))]
  case call c =>
    obtain ⟨callee, args, ats⟩ := c
    cases callee with
    | builtin b => simp only [aop]; rw [hl args.toList (fun x hx => hE x (by simpa [Op.operands, Call.operands] using hx))]
    | value f => simp only [aop]; rw [hE f (by simp [Op.operands, Call.operands]), hl args.toList (fun x hx => hE x (by simp [Op.operands, Call.operands]; exact .inr (by simpa using hx)))]
    | invoke r m => simp only [aop]
  all_goals first
    | (simp only [aop]; done)
    | (simp only [aop]; congr 1 <;> (apply hE; simp [Op.operands]))
    | (simp only [aop]; rw [hE _ (by simp [Op.operands]; exact .inl rfl), hE _ (by simp [Op.operands]; exact .inr rfl)])
    | skip
end Go.Am
