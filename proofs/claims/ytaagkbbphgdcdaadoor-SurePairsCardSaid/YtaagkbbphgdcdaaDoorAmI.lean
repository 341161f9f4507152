/-
  The abstract machine, part I: code without what no step looks at (places in the text, edges where no order is drawn); the code taken apart.
-/
import Derived.Test.YtaagkbbphgdcdaaDoorAmH
set_option linter.all false
namespace Go.Am

/-- An operation: the slot that it writes, what it is, its guard's slot and the Bool that lets it run. -/
structure SOp where
  dst : Option Nat
  op : Op
  guard : Option (Nat × Bool)

inductive SCode where
  | skip
  | region (l : List SOp)
  | draw (l : List SOp) (af : List (List Nat))
  | seq (a b : SCode)
  | cond (c : Operand) (a b : SCode)
  | block (id : Nat) (b : SCode)
  | loop (b : SCode)
  | scope (b : SCode)
  | range (f : Operand) (ps : List Nat) (as b : SCode)
  | exit (id : Nat)
  | ret
  | other

def strip (ops : Array Oper) : List SOp := ops.toList.map fun o => ⟨o.dst, o.op, o.guard.map fun p => ((gslot ops p.1).getD 0, p.2)⟩
def stripC : Code → SCode
  | .skip | .label _ => .skip
  | .region _ ops false => .region (strip ops)
  | .region _ ops true => .draw (strip ops) (ops.toList.map fun o => (o.after.toList.filter (Region.binds .any)).map (·.on))
  | .seq a b => .seq (stripC a) (stripC b)
  | .cond c a b => .cond c (stripC a) (stripC b)
  | .block id b => .block id (stripC b)
  | .loop b => .loop (stripC b)
  | .scope b => .scope (stripC b)
  | .rangeFunc f ps a b => .range f ps.toList (stripC a) (stripC b)
  | .exit id => .exit id
  | .ret => .ret
  | .goto _ | .refuse _ => .other

def sops (P : Program) [Tabs P] (N : Env → Heap → Prop) : List SOp → Env → Heap → Prop
  | [], e, h => N e h
  | ⟨dst, op, none⟩ :: l, e, h => aop P false op (ev e) h (fun v h' => sops P N l (sputO e dst v) h')
  | ⟨dst, op, some (d, want)⟩ :: l, e, h => ∃ g : Option Bool, sget e d = gv g ∧ (g = some want → aop P false op (ev e) h (fun v h' => sops P N l (sputO e dst v) h')) ∧ (g ≠ some want → sops P N l (sputO e dst skp) h)

theorem sops_aops {P : Program} [Tabs P] {sz : Nat} {ops : Array Oper} {N : Env → Heap → Prop} : ∀ (l : List Oper) {e : Env} {h : Heap}, (∀ o ∈ l, opsOK sz ops o = true) →
    sops P N (l.map fun o => ⟨o.dst, o.op, o.guard.map fun p => ((gslot ops p.1).getD 0, p.2)⟩) e h = aops P ops N l e h
  | [], _, _, _ => rfl
  | o :: l, e, h, hok => by
    have ih : ∀ e h, sops P N (l.map fun o => ⟨o.dst, o.op, o.guard.map fun p => ((gslot ops p.1).getD 0, p.2)⟩) e h = aops P ops N l e h := fun e h => sops_aops l (fun o ho => hok o (by simp [ho]))
    have ho := hok o (by simp)
    simp only [opsOK, Bool.and_eq_true] at ho
    cases hg : o.guard with
    | none => simp only [List.map_cons, hg, Option.map_none, sops, aops, ih]
    | some p =>
      obtain ⟨j, want⟩ := p
      simp only [hg] at ho
      cases hs : gslot ops j with
      | none => simp [hs] at ho
      | some d => simp only [List.map_cons, hg, Option.map_some, sops, aops, ih, hs, Option.getD_some, Option.some.injEq, exists_and_left, exists_eq_left']

/-- The calculus on stripped code. -/
def AWS (P : Program) [Tabs P] (sz : Nat) (sc : SCode) (Q : Exit → Env → Heap → Prop) (e : Env) (h : Heap) : Prop := ∀ c : Code, stripC c = sc → codeOK sz c = true → AWP P sz c Q e h

def aw (P : Program) [Tabs P] (sz : Nat) : SCode → (Exit → Env → Heap → Prop) → Env → Heap → Prop
  | .skip, Q, e, h => Q .normal e h
  | .region l, Q, e, h => sops P (Q .normal) l e h
  | .seq a b, Q, e, h => aw P sz a (aThen (aw P sz b Q) Q) e h
  | .block id b, Q, e, h => aw P sz b (aBlock id Q) e h
  | .exit id, Q, e, h => Q (.exit id) e h
  | .ret, Q, e, h => Q .ret e h
  | .cond c a b, Q, e, h => ∃ g, ev e c = .bool g ∧ (g = true → aw P sz a Q e h) ∧ (g = false → aw P sz b Q e h)
  | sc, Q, e, h => AWS P sz sc Q e h

theorem aw_awp {P : Program} [Tabs P] {sz : Nat} : ∀ (c : Code) {Q : Exit → Env → Heap → Prop} {e : Env} {h : Heap}, codeOK sz c = true → aw P sz (stripC c) Q e h → AWP P sz c Q e h
  | .skip, Q, e, h, _, hk => awp_skip hk
  | .label _, Q, e, h, _, hk => awp_label hk
  | .region _ ops false, Q, e, h, hc, hk => awp_region hc (by
      have := sops_aops (P := P) (N := Q .normal) (e := e) (h := h) ops.toList (fun o ho => List.all_eq_true.1 hc o ho)
      rw [← this]; exact hk)
  | .region _ ops true, Q, e, h, hc, hk => hk _ rfl hc
  | .seq a b, Q, e, h, hc, hk => by
    simp only [codeOK, Bool.and_eq_true] at hc
    refine awp_seq ((aw_awp a hc.1 hk).mono ?_)
    intro x e' h' hq
    cases x <;> first | exact aw_awp b hc.2 hq | exact hq
  | .block id b, Q, e, h, hc, hk => awp_block (aw_awp b hc hk)
  | .exit id, Q, e, h, _, hk => awp_exit hk
  | .ret, Q, e, h, _, hk => awp_ret hk
  | .cond c a b, Q, e, h, hc, ⟨g, h1, h2, h3⟩ => by
    simp only [codeOK, Bool.and_eq_true] at hc
    exact awp_cond hc.1.1 h1 (fun hg => aw_awp a hc.1.2 (h2 hg)) (fun hg => aw_awp b hc.2 (h3 hg))
  | .loop _, Q, e, h, hc, hk => hk _ rfl hc
  | .rangeFunc .., Q, e, h, hc, hk => hk _ rfl hc
  | .scope _, Q, e, h, hc, hk => hk _ rfl hc
  | .goto _, Q, e, h, hc, hk => hk _ rfl hc
  | .refuse _, Q, e, h, hc, hk => hk _ rfl hc

theorem aw_aws {P : Program} [Tabs P] {sz : Nat} {sc : SCode} {Q : Exit → Env → Heap → Prop} {e : Env} {h : Heap} (hk : aw P sz sc Q e h) : AWS P sz sc Q e h := fun c hc hok => aw_awp c hok (by rw [hc]; exact hk)

theorem aws_le {P : Program} [Tabs P] {sz : Nat} {sc : SCode} {Q : Exit → Env → Heap → Prop} {e e1 : Env} {h : Heap} (hk : AWS P sz sc Q e1 h) (hl : ELe e e1) : AWS P sz sc Q e h := fun c hc hok => (hk c hc hok).le hl
theorem aws_mono {P : Program} [Tabs P] {sz : Nat} {sc : SCode} {Q Q' : Exit → Env → Heap → Prop} {e : Env} {h : Heap} (hk : AWS P sz sc Q e h) (hq : ∀ x e' h', Q x e' h' → Q' x e' h') : AWS P sz sc Q' e h := fun c hc hok => (hk c hc hok).mono hq

theorem stripC_loop {c : Code} {b : SCode} (h : stripC c = .loop b) : ∃ c', c = .loop c' ∧ stripC c' = b := by
  cases c with
  | region id ops d => cases d <;> simp [stripC] at h
  | loop c => exact ⟨c, rfl, by simpa [stripC] using h⟩
  | _ => simp [stripC] at h

/-- **A loop.** -/
theorem aw_loop {P : Program} [Tabs P] {sz : Nat} {b : SCode} {Q : Exit → Env → Heap → Prop} {e : Env} {h : Heap} {γ : Type} (inv : γ → Prop) (st : γ → Env × Heap) (μ : γ → Nat) (g0 : γ) (h0 : inv g0) (he : ELe e (st g0).1) (hh : h = (st g0).2)
    (round : ∀ g, inv g → aw P sz b (aThen (fun e' h' => ∃ g', inv g' ∧ μ g' < μ g ∧ ELe e' (st g').1 ∧ h' = (st g').2) Q) (st g).1 (st g).2) : AWS P sz (.loop b) Q e h := by
  intro c hc hok
  obtain ⟨c', rfl, hb⟩ := stripC_loop hc
  exact awp_loop inv st μ g0 h0 he hh fun g hg => aw_awp c' hok (by rw [hb]; exact round g hg)

/-! ### Functions -/
def bodyOf (fn : Func) : Code := fn.body.getD .skip

def aPost (P : Program) (rs : List ResultVar) (Q : Value → Heap → Prop) : Exit → Env → Heap → Prop
  | .normal, e, h => resK P h e rs (fun vs => Q (tup vs) h)
  | .ret, e, h => resK P h e rs (fun vs => Q (tup vs) h)
  | _, _, _ => False

theorem acall_s {P : Program} [Tabs P] {f : FuncId} {fn : Func} {sc : SCode} {rs : List ResultVar} {sz : Nat} (hf : P.funcs[f]? = some fn) (hb : fn.body.isSome = true)
    (hent : ∀ (as : Array Value) (w : World), (callFunc f as).run P w = .ok (.enter f as) w) (hn : fn.ntmps = sz) (hrs : fn.results.toList = rs) (hrs2 : resSlots sz rs = true)
    (hs : stripC (bodyOf fn) = sc) (hok : codeOK sz (bodyOf fn) = true) {args : List Value} {h : Heap} {Q : Value → Heap → Prop} (hsz : args.length ≤ sz) (hk : aw P sz sc (aPost P rs Q) (argEnv 0 args) h) : ACall P f args h Q := by
  subst hn
  refine acall_of_body (c := bodyOf fn) hf (by obtain ⟨c, hc⟩ := Option.isSome_iff_exists.1 hb; simp [bodyOf, hc]) hent hsz (by rw [hrs]; exact hrs2) ((aw_awp _ hok (by rw [hs]; exact hk)).mono ?_)
  intro x e' h' hq
  rw [hrs]
  cases x <;> first | exact ⟨.inl rfl, hq⟩ | exact ⟨.inr rfl, hq⟩ | exact hq.elim

/-! ### The code taken apart by simp -/
section takeapart
variable (P : Program) [Tabs P] (sz : Nat) (Q : Exit → Env → Heap → Prop) (e : Env) (h : Heap)
theorem aw_skip : aw P sz .skip Q e h = Q .normal e h := rfl
theorem aw_region (l : List SOp) : aw P sz (.region l) Q e h = sops P (Q .normal) l e h := rfl
theorem aw_seq (a b : SCode) : aw P sz (.seq a b) Q e h = aw P sz a (aThen (aw P sz b Q) Q) e h := rfl
theorem aw_block (id : Nat) (b : SCode) : aw P sz (.block id b) Q e h = aw P sz b (aBlock id Q) e h := rfl
theorem aw_exit (id : Nat) : aw P sz (.exit id) Q e h = Q (.exit id) e h := rfl
theorem aw_ret : aw P sz .ret Q e h = Q .ret e h := rfl
theorem aw_loop_eq (b : SCode) : aw P sz (.loop b) Q e h = AWS P sz (.loop b) Q e h := rfl
theorem aw_cond_true {c : Operand} {a b : SCode} (hc : ev e c = .bool true) : aw P sz (.cond c a b) Q e h = aw P sz a Q e h := by simp [aw, hc]
theorem aw_cond_false {c : Operand} {a b : SCode} (hc : ev e c = .bool false) : aw P sz (.cond c a b) Q e h = aw P sz b Q e h := by simp [aw, hc]
/-- A test that is not decided. -/
theorem aw_split {c : Operand} {a b : SCode} (g : Bool) (hc : ev e c = .bool g) (h1 : g = true → aw P sz a Q e h) (h2 : g = false → aw P sz b Q e h) : aw P sz (.cond c a b) Q e h := ⟨g, hc, h1, h2⟩
end takeapart
section takeapart
variable (P : Program) [Tabs P] (N : Env → Heap → Prop) (e : Env) (h : Heap) (dst : Option Nat) (op : Op) (l : List SOp)
theorem sops_nil : sops P N [] e h = N e h := rfl
theorem sops_cons : sops P N (⟨dst, op, none⟩ :: l) e h = aop P false op (ev e) h (fun v h' => sops P N l (sputO e dst v) h') := rfl
theorem sops_take {d : Nat} {want : Bool} (hg : sget e d = .bool want) : sops P N (⟨dst, op, some (d, want)⟩ :: l) e h = aop P false op (ev e) h (fun v h' => sops P N l (sputO e dst v) h') := by
  apply propext
  simp only [sops, hg]
  constructor
  · rintro ⟨g, h1, h2, _⟩
    cases g with
    | none => cases h1
    | some b => cases h1; exact h2 rfl
  · exact fun hk => ⟨some want, rfl, fun _ => hk, fun h => absurd rfl h⟩
theorem sops_pass {d : Nat} {want : Bool} (hg : sget e d = .bool (!want)) : sops P N (⟨dst, op, some (d, want)⟩ :: l) e h = sops P N l (sputO e dst skp) h := by
  apply propext
  simp only [sops, hg]
  constructor
  · rintro ⟨g, h1, _, h3⟩
    cases g with
    | none => cases h1
    | some b => cases h1; exact h3 (by cases want <;> simp)
  · exact fun hk => ⟨some (!want), rfl, fun h => by cases want <;> simp at h, fun _ => hk⟩
/-- The guard's own operation did not run. -/
theorem sops_skip {d : Nat} {want : Bool} (hg : sget e d = skp) : sops P N (⟨dst, op, some (d, want)⟩ :: l) e h = sops P N l (sputO e dst skp) h := by
  apply propext
  simp only [sops, hg]
  constructor
  · rintro ⟨g, h1, _, h3⟩
    cases g with
    | none => exact h3 (by simp)
    | some b => cases h1
  · exact fun hk => ⟨none, rfl, fun h => (by cases h), fun _ => hk⟩
/-- A guard that is not decided. -/
theorem sops_split {d : Nat} {want : Bool} (g : Bool) (hg : sget e d = .bool g) (h1 : g = want → aop P false op (ev e) h (fun v h' => sops P N l (sputO e dst v) h')) (h2 : g = (!want) → sops P N l (sputO e dst skp) h) :
    sops P N (⟨dst, op, some (d, want)⟩ :: l) e h := by
  cases g <;> cases want <;> first | (rw [sops_take P N e h dst op l hg]; exact h1 rfl) | (rw [sops_pass P N e h dst op l hg]; exact h2 rfl)
end takeapart
end Go.Am
