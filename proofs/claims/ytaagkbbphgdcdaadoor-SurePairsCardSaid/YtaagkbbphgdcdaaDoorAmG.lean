/-
  The abstract machine, part G: one operation; calls; regions in the text's order.
-/
import Derived.Test.YtaagkbbphgdcdaaDoorAmF
set_option linter.all false
namespace Go.Am

def fence (r : Option Nat) : Fence := { Fence.wide with round := r }
theorem fence_none : fence none = Fence.wide := rfl
theorem fence_some (l : Nat) : fence (some l) = Fence.wide.inRound l := rfl

/-- A call on the abstract heap. -/
def ACall (P : Program) [Tabs P] (f : FuncId) (args : List Value) (h : Heap) (Q : Value → Heap → Prop) : Prop :=
  (∀ (as : Array Value) (w : World), (callFunc f as).run P w = .ok (.enter f as) w) ∧
  ∀ (n : Nat) (ρ : Nat → Loc) (args' : Array Value) (w : World), Sim P ρ h w → LRel h.length ρ args args'.toList →
    CallsIn Fence.wide n P f args' w fun en w' => ∃ v v' ρ' h', en = .returned v' ∧ Q v h' ∧ VRel h'.length ρ' v v' ∧ Evo h ρ w h' ρ' w' ∧ Sim P ρ' h' w'

theorem ACall.mono {P : Program} [Tabs P] {f : FuncId} {args : List Value} {h : Heap} {Q Q' : Value → Heap → Prop} (c : ACall P f args h Q) (hq : ∀ v h', Q v h' → Q' v h') : ACall P f args h Q' :=
  ⟨c.1, fun n ρ args' w s hr => (c.2 n ρ args' w s hr).mono fun _ _ ⟨v, v', ρ', h', h1, h2, h3, h4, h5⟩ => ⟨v, v', ρ', h', h1, hq _ _ h2, h3, h4, h5⟩⟩

/-- It hands back v and leaves the heap as it was. -/
def APure (P : Program) [Tabs P] (f : FuncId) (args : List Value) (h : Heap) (v : Value) : Prop := ACall P f args h fun v' h' => v' = v ∧ h' = h
/-- It hands back v and h'. -/
def ADet (P : Program) [Tabs P] (f : FuncId) (args : List Value) (h : Heap) (v : Value) (h' : Heap) : Prop := ACall P f args h fun v1 h1 => v1 = v ∧ h1 = h'

def callK (P : Program) [Tabs P] (d : Bool) (f : Value) (args : List Value) (h : Heap) (K : Value → Heap → Prop) : Prop :=
  match f with
  | .func (.func g) first captured => (match d with
    | false => ACall P g (first.toList ++ args ++ captured.toList) h K
    | true => ∃ v h', ADet P g (first.toList ++ args ++ captured.toList) h v h' ∧ K v h')
  | _ => False

def lenK (x : Value) (K : Value → Prop) : Prop :=
  match x with
  | .slice _ n _ => K (vint n)
  | .chan (some 1) => K (vint 0)
  | _ => False
def isSl (P : Program) (t : TypeId) : Bool := (elemOf' P t).isSome
def mmK (mx : Bool) (xs : List Value) (K : Value → Prop) : Prop :=
  match xs with
  | [.int k a, .int _ b] => K (.int k (if mx then (if b > a then b else a) else (if b < a then b else a)))
  | _ => False
def nilK (x : Value) (K : Value → Prop) : Prop :=
  match x with
  | .pointer (some _) | .func (.func _) _ _ => K x
  | _ => False
/-- An array's slice, whole. -/
def arrSliceK (P : Program) (t : TypeId) (x : Value) (K : Value → Prop) : Prop :=
  match x, P.underlying t with
  | .pointer (some ⟨b, o, none⟩), some (.array n e) => (esz P e).isSome = true ∧ K (.slice (some ⟨b, o, none⟩) n n)
  | _, _ => False

def builtinK (P : Program) (b : Builtin) (ts : List TypeId) (xs : List Value) (h : Heap) (K : Value → Heap → Prop) : Prop :=
  match b, ts, xs with
  | .len, [t], [x] => isSl P t = true ∧ lenK x (fun v => K v h)
  | .append, [t, t2], [s, x] => appendK P h t t2 s x K
  | .copy, [t, _], [d, x] => copyK P h t d x K
  | .max, _, xs => mmK true xs (fun v => K v h)
  | .min, _, xs => mmK false xs (fun v => K v h)
  | _, _, _ => False

def aop (P : Program) [Tabs P] (d : Bool) (op : Op) (E : Operand → Value) (h : Heap) (K : Value → Heap → Prop) : Prop :=
  match op with
  | .move x | .assign x => K (E x) h
  | .pick c a b => pickK (E c) (E a) (E b) (fun v => K v h)
  | .alloc t => allocK P h t K
  | .box t x => boxK P h t (E x) K
  | .build t parts => buildK P t (parts.toList.map fun p => (p.1, E p.2)) (fun v => K v h)
  | .buildSlice t len parts => buildSliceK P h t len (parts.toList.map fun p => (p.1, E p.2)) K
  | .load t x => loadK P h t (E x) (fun v => K v h)
  | .store t x y => storeK P h t (E x) (E y) (fun h' => K undef h')
  | .nilCheck x => nilK (E x) (fun v => K v h)
  | .binOp op t x y _ => binK P op t (E x) (E y) (fun v => K v h)
  | .unOp op _ x => unK op (E x) (fun v => K v h)
  | .convert s d x => convK P s d (E x) (fun v => K v h)
  | .makeFunc (.func f) first captured => K (.func (.func f) (first.map E) (captured.map E)) h
  | .makeSlice t l c => makeK P h t (E l) (E c) K
  | .slice t x lo hi mx => (match lo, hi, mx, P.underlying t with
    | none, none, none, some (.array _ _) => arrSliceK P t (E x) (fun v => K v h)
    | _, _, _, _ => sliceK P t (E x) (lo.map E) (hi.map E) (mx.map E) (fun v => K v h))
  | .fieldAddr t x f => fieldAddrK P t (E x) f (fun v => K v h)
  | .field t x f => fieldK P t (E x) f (fun v => K v h)
  | .indexAddr t x i => idxAddrK P t (E x) (E i) (fun v => K v h)
  | .index t x i => indexK P t (E x) (E i) (fun v => K v h)
  | .extract x i => extractK (E x) i (fun v => K v h)
  | .call { callee := .builtin b, args, argTypes } => builtinK P b argTypes.toList (args.toList.map E) h K
  | .call { callee := .value f, args, .. } => callK P d (E f) (args.toList.map E) h K
  | _ => False

def isCall : Op → Bool
  | .call { callee := .value _, .. } => true
  | _ => false

theorem prel_map {n : Nat} {ρ : Nat → Loc} {E E' : Operand → Value} : ∀ (l : List (Nat × Operand)), (∀ p ∈ l, VRel n ρ (E p.2) (E' p.2)) → PRel n ρ (l.map fun p => (p.1, E p.2)) (l.map fun p => (p.1, E' p.2))
  | [], _ => trivial
  | p :: l, h => ⟨rfl, h p (by simp), prel_map l (fun q hq => h q (by simp [hq]))⟩
theorem lrel_map {n : Nat} {ρ : Nat → Loc} {E E' : Operand → Value} : ∀ (l : List Operand), (∀ x ∈ l, VRel n ρ (E x) (E' x)) → LRel n ρ (l.map E) (l.map E')
  | [], _ => LRel.nil _ _
  | x :: l, h => LRel.cons (h x (by simp)) (lrel_map l (fun y hy => h y (by simp [hy])))

section
variable {P : Program} [Tabs P] {ρ : Nat → Loc} {h : Heap} {w : World}

/-- What one operation owes. -/
def Done (P : Program) [Tabs P] (ρ : Nat → Loc) (h : Heap) (w : World) (K : Value → Heap → Prop) (r : Result Next) : Prop :=
  ∃ nx v v' h' ρ' w', K v h' ∧ r = .ok nx w' ∧ (nx = .value v' ∨ (nx = .skip ∧ v' = undef)) ∧ VRel h'.length ρ' v v' ∧ Sim P ρ' h' w' ∧ Evo h ρ w h' ρ' w'

theorem Done.val {K : Value → Heap → Prop} {sm : Sem Value} (s : Sim P ρ h w) (hx : ∃ v v', K v h ∧ VRel h.length ρ v v' ∧ sm.run P w = .ok v' w) : Done P ρ h w K ((do pure (.value (← sm)) : Sem Next).run P w) := by
  obtain ⟨v, v', h1, h2, h3⟩ := hx
  exact ⟨.value v', v, v', h, ρ, w, h1, by simp [h3], .inl rfl, h2, s, .refl _ _ _⟩
theorem Done.eff {K : Value → Heap → Prop} {sm : Sem Value} (hx : ∃ v v' h' ρ' w', K v h' ∧ sm.run P w = .ok v' w' ∧ VRel h'.length ρ' v v' ∧ Sim P ρ' h' w' ∧ Evo h ρ w h' ρ' w') : Done P ρ h w K ((do pure (.value (← sm)) : Sem Next).run P w) := by
  obtain ⟨v, v', h', ρ', w', h1, h2, h3, h4, h5⟩ := hx
  exact ⟨.value v', v, v', h', ρ', w', h1, by simp [h2], .inl rfl, h3, h4, h5⟩

theorem opt_rel {n : Nat} {E E' : Operand → Value} {o : Option Operand} (h : ∀ x, o = some x → VRel n ρ (E x) (E' x)) :
    (∀ x, o.map E = some x → ∃ x', o.map E' = some x' ∧ VRel n ρ x x') ∧ (o.map E = none → o.map E' = none) := by
  cases o with
  | none => exact ⟨(fun x hx => by cases hx), fun _ => rfl⟩
  | some y => exact ⟨(fun x hx => by cases hx; exact ⟨_, rfl, h y rfl⟩), (fun hx => by cases hx)⟩

omit [Tabs P] in
theorem mmK_sound {n : Nat} {mx : Bool} {xs xs' : List Value} {K : Value → Prop} (hr : LRel n ρ xs xs') (hk : mmK mx xs K) :
    ∃ v v', K v ∧ VRel n ρ v v' ∧ ∀ (ts : Array TypeId) (ty : TypeId) (w : World), (if mx then Builtin.max_ ts ty xs'.toArray else Builtin.min_ ts ty xs'.toArray).run P w = .ok v' w := by
  unfold mmK at hk
  split at hk
  · obtain ⟨v1, l1, rfl, h1, hr⟩ := hr.cons_inv
    obtain ⟨v2, l2, rfl, h2, hr⟩ := hr.cons_inv
    obtain rfl : l2 = [] := List.length_eq_zero_iff.1 hr.1.symm
    rw [h1.int, h2.int]
    cases mx with
    | true => exact ⟨_, _, hk, .atom rfl, fun ts ty w => by simp [Builtin.max_, Builtin.max2]⟩
    | false => exact ⟨_, _, hk, .atom rfl, fun ts ty w => by simp [Builtin.min_, Builtin.min2]⟩
  · exact hk.elim

theorem builtinK_sound {b : Builtin} {ts : Array TypeId} {ty : TypeId} {cs : Array Bool} {xs xs' : List Value} {K : Value → Heap → Prop} (s : Sim P ρ h w) (hr : LRel h.length ρ xs xs') (hk : builtinK P b ts.toList xs h K) :
    Done P ρ h w K ((builtin b ts ty cs xs'.toArray).run P w) := by
  unfold builtinK at hk
  split at hk
  · rename_i t x hts
    obtain ⟨x', l1, rfl, h1, hr⟩ := hr.cons_inv
    obtain rfl : l1 = [] := List.length_eq_zero_iff.1 hr.1.symm
    have hts' : ts = #[t] := by apply Array.ext'; simpa using hts
    subst hts'
    obtain ⟨he, hk⟩ := hk
    obtain ⟨e, he⟩ := Option.isSome_iff_exists.1 he
    unfold lenK at hk
    split at hk
    · rename_i a n c
      refine Done.val s ⟨_, _, hk, .atom rfl, ?_⟩
      cases a with
      | none => rw [h1.atom_eq rfl]; simp [Builtin.len_, run_underlying (elemOf'_eq he), goInt]
      | some a => obtain ⟨b, o, sp⟩ := a; obtain ⟨_, cap', _, _, _, rfl, _⟩ := h1.sl; simp [Builtin.len_, run_underlying (elemOf'_eq he), goInt]
    · refine Done.val s ⟨_, _, hk, .atom rfl, ?_⟩
      cases h1 with
      | atom h => simp [atom] at h
      | void => simp [Builtin.len_, run_underlying (elemOf'_eq he), goInt]
    · exact hk.elim
  · rename_i t t2 v x hts
    obtain ⟨v', l1, rfl, h1, hr⟩ := hr.cons_inv
    obtain ⟨x', l2, rfl, h2, hr⟩ := hr.cons_inv
    obtain rfl : l2 = [] := List.length_eq_zero_iff.1 hr.1.symm
    have hts' : ts = #[t, t2] := by apply Array.ext'; simpa using hts
    subst hts'
    exact Done.eff (appendK_sound s h1 h2 hk)
  · rename_i t t2 v x hts
    obtain ⟨v', l1, rfl, h1, hr⟩ := hr.cons_inv
    obtain ⟨x', l2, rfl, h2, hr⟩ := hr.cons_inv
    obtain rfl : l2 = [] := List.length_eq_zero_iff.1 hr.1.symm
    have hts' : ts = #[t, t2] := by apply Array.ext'; simpa using hts
    subst hts'
    exact Done.eff (copyK_sound s h1 h2 hk)
  · obtain ⟨v, v', h1, h2, h3⟩ := mmK_sound (P := P) hr hk
    exact Done.val s ⟨v, v', h1, h2, by simpa using h3 ts ty w⟩
  · obtain ⟨v, v', h1, h2, h3⟩ := mmK_sound (P := P) hr hk
    exact Done.val s ⟨v, v', h1, h2, by simpa using h3 ts ty w⟩
  · exact hk.elim

theorem aop_sound {d : Bool} {o : Oper} {E E' : Operand → Value} {K : Value → Heap → Prop} (s : Sim P ρ h w) (hE : ∀ x ∈ o.op.operands.toList, VRel h.length ρ (E x) (E' x)) (hc : isCall o.op = false) (hk : aop P d o.op E h K) :
    Done P ρ h w K ((execOp E' o).run P w) := by
  obtain ⟨dst, op, ty, pos, after, guard⟩ := o
  simp only at hk hE hc
  cases op <;> simp only [aop] at hk <;> try exact hk.elim
  case move x => exact ⟨.value (E' x), E x, E' x, h, ρ, w, hk, by simp [execOp], .inl rfl, hE x (by simp [Op.operands]), s, .refl _ _ _⟩
  case assign x => exact ⟨.value (E' x), E x, E' x, h, ρ, w, hk, by simp [execOp], .inl rfl, hE x (by simp [Op.operands]), s, .refl _ _ _⟩
  case pick c a b =>
    have h1 := hE c (by simp [Op.operands])
    have h2 := hE a (by simp [Op.operands])
    have h3 := hE b (by simp [Op.operands])
    unfold pickK at hk
    split at hk
    · rename_i g hg
      rw [hg] at h1
      have hb := h1.bool
      refine ⟨.value (if g then E' a else E' b), _, _, h, ρ, w, hk, by simp [execOp, hb, asBool], .inl rfl, ?_, s, .refl _ _ _⟩
      cases g <;> simp [h2, h3]
    · exact hk.elim
  case alloc t => exact Done.eff (allocK_sound s hk)
  case box t x => exact Done.eff (boxK_sound s (hE x (by simp [Op.operands])) hk)
  case build t parts =>
    have hp : PRel h.length ρ (parts.toList.map fun p => (p.1, E p.2)) (parts.toList.map fun p => (p.1, E' p.2)) := prel_map _ (fun p hp => hE p.2 (by simp [Op.operands]; exact ⟨p.1, by simpa using hp⟩))
    obtain ⟨v, v', h1, h2, h3⟩ := buildK_sound (P := P) hp hk
    refine Done.val s ⟨v, v', h1, h2, ?_⟩
    have e1 : (parts.toList.map fun p => (p.1, E' p.2)).toArray = parts.map fun p => (p.1, E' p.2) := by apply Array.ext'; simp
    rw [e1] at h3
    exact h3 w
  case buildSlice t len parts =>
    have hp : PRel h.length ρ (parts.toList.map fun p => (p.1, E p.2)) (parts.toList.map fun p => (p.1, E' p.2)) := prel_map _ (fun p hp => hE p.2 (by simp [Op.operands]; exact ⟨p.1, by simpa using hp⟩))
    obtain ⟨v, v', h', ρ', w', h1, h2, h3⟩ := buildSliceK_sound s hp hk
    have e1 : (parts.toList.map fun p => (p.1, E' p.2)).toArray = parts.map fun p => (p.1, E' p.2) := by apply Array.ext'; simp
    rw [e1] at h2
    exact Done.eff ⟨v, v', h', ρ', w', h1, h2, h3⟩
  case load t x =>
    obtain ⟨v, v', h1, h2, h3⟩ := loadK_sound s (hE x (by simp [Op.operands])) hk
    exact Done.val s ⟨v, v', h1, h2, h3⟩
  case store t x y =>
    obtain ⟨h', w', h1, h2, h3, h4⟩ := storeK_sound s (hE x (by simp [Op.operands])) (hE y (by simp [Op.operands])) hk
    exact ⟨.skip, undef, undef, h', ρ, w', h1, by simp [execOp, h2], .inr ⟨rfl, rfl⟩, .any _, h3, h4⟩
  case nilCheck x =>
    have h1 := hE x (by simp [Op.operands])
    unfold nilK at hk
    split at hk
    · rename_i a ha
      obtain ⟨b, o, sp⟩ := a
      rw [ha] at h1
      obtain ⟨rfl, hb, he⟩ := h1.ptr'
      exact ⟨.value (E' x), _, E' x, h, ρ, w, hk, by simp [execOp, he], .inl rfl, by rw [ha]; exact h1, s, .refl _ _ _⟩
    · rename_i f xs us ha
      rw [ha] at h1
      obtain ⟨ys, vs, he, _⟩ := h1.func'
      exact ⟨.value (E' x), _, E' x, h, ρ, w, hk, by simp [execOp, he], .inl rfl, by rw [ha]; exact h1, s, .refl _ _ _⟩
    · exact hk.elim
  case binOp op t x y t2 =>
    obtain ⟨v, v', h1, h2, h3⟩ := binK_sound (hE x (by simp [Op.operands])) (hE y (by simp [Op.operands])) hk
    exact Done.val s ⟨v, v', h1, h2, h3 w x y⟩
  case unOp op t x =>
    obtain ⟨v, v', h1, h2, h3⟩ := unK_sound (P := P) (hE x (by simp [Op.operands])) hk
    exact Done.val s ⟨v, v', h1, h2, h3 w⟩
  case convert sr ds x =>
    obtain ⟨v, v', h1, h2, h3⟩ := convK_sound (hE x (by simp [Op.operands])) hk
    exact Done.val s ⟨v, v', h1, h2, h3 w⟩
  case makeFunc fn first captured =>
    cases fn <;> simp only [aop] at hk <;> try exact hk.elim
    rename_i f
    refine Done.val s ⟨_, .func (.func f) (first.map E') (captured.map E'), hk, ?_, by simp [Instr.makeFunc]⟩
    refine .func (by simp) (by simp) (fun i hi => ?_) (fun i hi => ?_)
    · simp at hi; simpa [Array.getD_eq_getD_getElem?, hi] using hE first[i] (by simp [Op.operands])
    · simp at hi; simpa [Array.getD_eq_getD_getElem?, hi] using hE captured[i] (by simp [Op.operands])
  case makeSlice t l c => exact Done.eff (makeK_sound s (hE l (by simp [Op.operands])) (hE c (by simp [Op.operands])) hk)
  case slice t x lo hi mx =>
    have hx := hE x (by simp [Op.operands])
    split at hk
    · rename_i n e hu
      unfold arrSliceK at hk
      split at hk
      · rename_i b o n2 e2 hb hu2
        obtain ⟨hs, hk⟩ := hk
        obtain ⟨sz, hs⟩ := Option.isSome_iff_exists.1 hs
        obtain ⟨inf, hinf, rfl⟩ := esz_eq hs
        rw [hb] at hx
        obtain ⟨_, hbl, he⟩ := hx.ptr'
        refine Done.val s ⟨_, _, hk, .slice hbl, ?_⟩
        simp [he, Instr.sliceAt, run_underlying hu2, Instr.sureAddr, Instr.sliceBounds, run_sizeOf hinf, addr_add]
      · exact hk.elim
    · rename_i lo hi mx _ _ _ _ _
      obtain ⟨v, v', h1, h2, h3⟩ := sliceK_sound hx (opt_rel (E := E) (E' := E') (o := lo) (fun y hy => hE y (by subst hy; simp [Op.operands]))) (opt_rel (E := E) (E' := E') (o := hi) (fun y hy => hE y (by subst hy; simp [Op.operands])))
        (opt_rel (E := E) (E' := E') (o := mx) (fun y hy => hE y (by subst hy; simp [Op.operands]))) hk
      exact Done.val s ⟨v, v', h1, h2, h3 w⟩
  case fieldAddr t x f =>
    obtain ⟨v, v', h1, h2, h3⟩ := fieldAddrK_sound (hE x (by simp [Op.operands])) hk
    exact Done.val s ⟨v, v', h1, h2, h3 w⟩
  case field t x f =>
    obtain ⟨v, v', h1, h2, h3⟩ := fieldK_sound (hE x (by simp [Op.operands])) hk
    exact Done.val s ⟨v, v', h1, h2, h3 w⟩
  case indexAddr t x i =>
    obtain ⟨v, v', h1, h2, h3⟩ := idxAddrK_sound (hE x (by simp [Op.operands])) (hE i (by simp [Op.operands])) hk
    exact Done.val s ⟨v, v', h1, h2, h3 w⟩
  case index t x i =>
    obtain ⟨v, v', h1, h2, h3⟩ := indexK_sound (hE x (by simp [Op.operands])) (hE i (by simp [Op.operands])) hk
    exact Done.val s ⟨v, v', h1, h2, h3 w⟩
  case extract x i =>
    obtain ⟨v, v', h1, h2, h3⟩ := extractK_sound (P := P) (hE x (by simp [Op.operands])) hk
    exact Done.val s ⟨v, v', h1, h2, h3 w⟩
  case call c =>
    obtain ⟨callee, args, argTypes⟩ := c
    cases callee with
    | builtin b =>
      simp only [aop] at hk
      have hr : LRel h.length ρ (args.toList.map E) (args.toList.map E') := lrel_map _ (fun x hx => hE x (by simpa [Op.operands, Call.operands] using hx))
      have e1 : (args.toList.map E').toArray = args.map E' := by apply Array.ext'; simp
      have key : ∀ cs, Done P ρ h w K ((builtin b argTypes ty cs (args.map E')).run P w) := fun cs => by rw [← e1]; exact builtinK_sound s hr hk
      simpa [execOp, resolve, invoke] using key _
    | value f => simp [isCall] at hc
    | invoke r m => simp only [aop] at hk
end
end Go.Am
