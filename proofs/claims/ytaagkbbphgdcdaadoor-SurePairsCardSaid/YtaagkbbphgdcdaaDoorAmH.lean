/-
  The abstract machine, part H: regions; the calculus of code; loops; functions.
-/
import Derived.Test.YtaagkbbphgdcdaaDoorAmG
set_option linter.all false
namespace Go.Am

def vokB (sz : Nat) : Operand → Bool
  | .tmp t => decide (t < sz)
  | .const v => atom v || (match v with | .agg k => k.toList.all atom | _ => false)
  | .global _ => false
  | .func _ => true
theorem vokB_eq {sz : Nat} {o : Operand} (h : vokB sz o = true) : vok sz o := by
  cases o with
  | tmp t => simpa [vokB, vok] using h
  | const v =>
    simp only [vokB, Bool.or_eq_true] at h
    rcases h with h | h
    · exact .inl h
    · cases v <;> simp at h
      rename_i k
      refine .inr ⟨k, rfl, fun i hi => ?_⟩
      have := h i hi
      simpa [Array.getD_eq_getD_getElem?, hi] using this
  | global g => simp [vokB] at h
  | func f => trivial

def opOK (sz : Nat) (o : Oper) : Bool := o.op.operands.toList.all (vokB sz) && (match o.dst with | some d => decide (d < sz) | none => true)
def gslot (ops : Array Oper) (j : Nat) : Option Nat := (ops[j]?).bind (·.dst)
def opsOK (sz : Nat) (ops : Array Oper) (o : Oper) : Bool := opOK sz o && (match o.guard with | none => true | some (j, _) => (match gslot ops j with | some d => decide (d < sz) | none => false))

/-- What an operation comes to, whatever stands behind it. -/
def OpOK (P : Program) [Tabs P] (sz : Nat) (o : Oper) (K : Env → Heap → Prop) (e : Env) (h : Heap) : Prop :=
  ∀ (r : Option Nat) (n m : Nat) (ρ : Nat → Loc) (a : Act) (w : World), m ≤ w.heap.size → Sim P ρ h w → ARel r m sz ρ h e a w → ∀ (Qx : Exit → Act → World → Prop),
    o.wpIn (fence r) n P a w (fun a' w' => ∃ ρ' e' h', K e' h' ∧ Evo h ρ w h' ρ' w' ∧ Sim P ρ' h' w' ∧ ARel r m sz ρ' h' e' a' w') Qx

theorem fence_call {P : Program} [Tabs P] {r : Option Nat} {n : Nat} {f : FuncId} {args : Array Value} {w : World} {R : Ending → World → Prop} (h : CallsIn Fence.wide n P f args w R) : CallsIn (fence r) n P f args w R := by
  cases r with
  | none => exact h
  | some l => exact CallsIn.inRound l h

theorem isCall_eq {op : Op} (h : isCall op = true) : ∃ f args ats, op = .call { callee := .value f, args := args, argTypes := ats } := by
  unfold isCall at h
  split at h
  · exact ⟨_, _, _, rfl⟩
  · cases h

theorem op_ok {P : Program} [Tabs P] {sz : Nat} {o : Oper} {K : Env → Heap → Prop} {e : Env} {h : Heap} (ho : opOK sz o = true) (hk : aop P false o.op (ev e) h (fun v h' => K (sputO e o.dst v) h')) : OpOK P sz o K e h := by
  intro r n m ρ a w hm s x Qx
  simp only [opOK, Bool.and_eq_true] at ho
  have hE : ∀ y ∈ o.op.operands.toList, VRel h.length ρ (ev e y) (a.eval y) := fun y hy => x.ev (vokB_eq (List.all_eq_true.1 ho.1 y hy))
  refine ⟨fun _ _ => trivial, ?_⟩
  have hnd : ∀ c, o.op ≠ .defer c := fun c hc => by rw [hc] at hk; exact hk
  rw [Oper.semAt_eq _ _ _ hnd]
  by_cases hc : isCall o.op = true
  · -- a call
    obtain ⟨f, args, ats, hop⟩ := isCall_eq hc
    obtain ⟨dst, op, ty, pos, after, guard⟩ := o
    simp only at hop
    subst hop
    simp only [aop, callK] at hk
    split at hk
    · rename_i g first captured hf
      obtain ⟨hent, hcall⟩ := hk
      have hfr := hE f (by simp [Op.operands, Call.operands])
      rw [hf] at hfr
      obtain ⟨ys, vs, hev, h1, h2, h3, h4⟩ := hfr.func'
      have hargs : LRel h.length ρ (args.toList.map (ev e)) (args.map a.eval).toList := by
        have := lrel_map (n := h.length) (ρ := ρ) (E := ev e) (E' := a.eval) args.toList (fun y hy => hE y (by simp [Op.operands, Call.operands]; right; simpa using hy))
        simpa using this
      have lr : ∀ (us ws : Array Value), us.size = ws.size → (∀ i, i < us.size → VRel h.length ρ (us.getD i undef) (ws.getD i undef)) → LRel h.length ρ us.toList ws.toList := fun us ws e1 e2 => ⟨by simp [e1], fun k hk => by
        have := e2 k (by simpa using hk)
        simpa [List.getD, Array.getD_eq_getD_getElem?] using this⟩
      have hall := ((lr _ _ h1 h3).append hargs).append (lr _ _ h2 h4)
      have hcl := hcall (n - 1) ρ (ys ++ args.map a.eval ++ vs) w s (by simpa using hall)
      have hx : (execOp a.eval { dst := dst, op := .call { callee := .value f, args := args, argTypes := ats }, type := ty, pos := pos, after := after, guard := guard }).run P w = .ok (.enter g (ys ++ args.map a.eval ++ vs)) w := by
        simp [execOp, resolve, hev, Deferred.ofValue, invoke, hent]
      rw [hx]
      refine ⟨fun hd => by simp [fence, Fence.wide] at hd, (fence_call hcl).mono ?_⟩
      rintro en w' ⟨v, v', ρ', h', rfl, hK, hv, hE', hS⟩
      exact ⟨ρ', _, h', hK, hE', hS, (x.evo s hE').put hv⟩
    · exact hk.elim
  · obtain ⟨nx, v, v', h', ρ', w', hK, hrun, hnx, hv, hS, hE'⟩ := aop_sound (E' := a.eval) s hE (by simpa using hc) hk
    rw [hrun]
    rcases hnx with rfl | ⟨rfl, rfl⟩
    · exact ⟨ρ', _, h', hK, hE', hS, (x.evo s hE').put hv⟩
    · exact ⟨ρ', _, h', hK, hE', hS, (x.evo s hE').put hv⟩

/-- A region in the text's order. -/
def aops (P : Program) [Tabs P] (ops : Array Oper) (N : Env → Heap → Prop) : List Oper → Env → Heap → Prop
  | [], e, h => N e h
  | o :: l, e, h => match o.guard with
    | none => aop P false o.op (ev e) h (fun v h' => aops P ops N l (sputO e o.dst v) h')
    | some (j, want) => ∃ (d : Nat) (g : Option Bool), gslot ops j = some d ∧ sget e d = gv g ∧ (g = some want → aop P false o.op (ev e) h (fun v h' => aops P ops N l (sputO e o.dst v) h')) ∧ (g ≠ some want → aops P ops N l (sputO e o.dst skp) h)

theorem aops_sound {P : Program} [Tabs P] {sz : Nat} {ops : Array Oper} {N : Env → Heap → Prop} {r : Option Nat} {n m : Nat} {Q : Exit → Act → World → Prop} : ∀ (l : List Oper) {e : Env} {h : Heap} {ρ : Nat → Loc} {a : Act} {w : World},
    (∀ o ∈ l, opsOK sz ops o = true) → aops P ops N l e h → m ≤ w.heap.size → Sim P ρ h w → ARel r m sz ρ h e a w →
    (∀ e' h' ρ' a' w', N e' h' → Evo h ρ w h' ρ' w' → Sim P ρ' h' w' → ARel r m sz ρ' h' e' a' w' → Q .normal a' w') → wpListIn (fence r) n P ops Q l a w
  | [], e, h, ρ, a, w, _, hk, _, s, x, hQ => hQ e h ρ a w hk (.refl _ _ _) s x
  | o :: l, e, h, ρ, a, w, hok, hk, hm, s, x, hQ => by
    have ho := hok o (by simp)
    simp only [opsOK, Bool.and_eq_true] at ho
    have rest : ∀ e1 h1, aops P ops N l e1 h1 → ∀ ρ1 a1 w1, Evo h ρ w h1 ρ1 w1 → Sim P ρ1 h1 w1 → ARel r m sz ρ1 h1 e1 a1 w1 → wpListIn (fence r) n P ops Q l a1 w1 := fun e1 h1 hk1 ρ1 a1 w1 hE1 s1 x1 =>
      aops_sound l (fun o ho => hok o (by simp [ho])) hk1 (Nat.le_trans hm hE1.wsize) s1 x1 (fun e' h' ρ' a' w' g1 g2 g3 g4 => hQ e' h' ρ' a' w' g1 (hE1.trans g2) g3 g4)
    have run : aop P false o.op (ev e) h (fun v h' => aops P ops N l (sputO e o.dst v) h') → o.wpIn (fence r) n P a w (wpListIn (fence r) n P ops Q l) Q := fun hk => by
      have := op_ok (P := P) (sz := sz) (o := o) (K := fun e1 h1 => aops P ops N l e1 h1) ho.1 hk r n m ρ a w hm s x Q
      exact Oper.wpIn_mono (fun a' w' ⟨ρ', e', h', g1, g2, g3, g4⟩ => rest e' h' g1 ρ' a' w' g2 g3 g4) this
    unfold wpListIn
    unfold aops at hk
    cases hg : o.guard with
    | none =>
      simp only [hg] at hk
      rw [if_pos (by simp [Region.wanted, hg])]
      exact run hk
    | some p =>
      obtain ⟨j, want⟩ := p
      simp only [hg] at hk
      obtain ⟨d, b, hsl, hb, h1, h2⟩ := hk
      have hd : d < sz := by have := ho.2; simpa [hg, hsl] using this
      have hr := x.env d (by rw [x.size]; exact hd)
      rw [hb] at hr
      have hv := hr.gv
      have hy : yielded ops a.tmps j = b := by
        have hlt : d < a.tmps.size := by rw [x.size]; exact hd
        unfold yielded
        unfold gslot at hsl
        rw [hsl]
        have e1 : a.tmps.getD d undef = a.tmps[d] := by simp [Array.getD_eq_getD_getElem?, hlt]
        rw [e1] at hv
        simp only [Option.bind_some, Array.getElem?_eq_getElem hlt]
        rw [← hv]; cases a.tmps[d] <;> rfl
      by_cases hbw : b = some want
      · rw [if_pos (by simp [Region.wanted, hg, hy, hbw])]
        exact run (h1 hbw)
      · rw [if_neg (by simp [Region.wanted, hg, hy, hbw])]
        exact ⟨fun _ _ => trivial, rest _ _ (h2 hbw) ρ _ w (.refl _ _ _) s (x.put .skip)⟩

/-! ### The calculus -/
def AWP (P : Program) [Tabs P] (sz : Nat) (c : Code) (Q : Exit → Env → Heap → Prop) (e : Env) (h : Heap) : Prop :=
  ∀ (r : Option Nat) (n m : Nat) (ρ : Nat → Loc) (a : Act) (w : World), m ≤ w.heap.size → Sim P ρ h w → ARel r m sz ρ h e a w →
    c.wpIn (fence r) n P (fun x a' w' => ∃ ρ' e' h', Q x e' h' ∧ Evo h ρ w h' ρ' w' ∧ Sim P ρ' h' w' ∧ ARel r m sz ρ' h' e' a' w') a w

def aThen (N : Env → Heap → Prop) (Q : Exit → Env → Heap → Prop) : Exit → Env → Heap → Prop
  | .normal, e, h => N e h
  | x, e, h => Q x e h
def aBlock (id : Nat) (Q : Exit → Env → Heap → Prop) : Exit → Env → Heap → Prop
  | .exit i, e, h => if i = id then Q .normal e h else Q (.exit i) e h
  | x, e, h => Q x e h

def codeOK (sz : Nat) : Code → Bool
  | .region _ ops _ => ops.toList.all (opsOK sz ops)
  | .seq a b => codeOK sz a && codeOK sz b
  | .cond c a b => vokB sz c && codeOK sz a && codeOK sz b
  | .block _ b | .loop b | .scope b => codeOK sz b
  | .rangeFunc f ps assign body => vokB sz f && ps.toList.all (fun p => decide (p < sz)) && codeOK sz assign && codeOK sz body
  | _ => true

section calculus
variable {P : Program} [Tabs P] {sz : Nat} {Q Q' : Exit → Env → Heap → Prop} {e : Env} {h : Heap}

theorem AWP.mono {c : Code} (hc : AWP P sz c Q e h) (hq : ∀ x e' h', Q x e' h' → Q' x e' h') : AWP P sz c Q' e h :=
  fun r n m ρ a w hm s x => wpIn_mono (hc r n m ρ a w hm s x) fun _ _ _ ⟨ρ', e', h', g1, g2⟩ => ⟨ρ', e', h', hq _ _ _ g1, g2⟩

theorem AWP.le {c : Code} {e1 : Env} (hc : AWP P sz c Q e1 h) (hl : ELe e e1) : AWP P sz c Q e h :=
  fun r n m ρ a w hm s x => hc r n m ρ a w hm s (x.le hl)

theorem awp_seq {c d : Code} (hc : AWP P sz c (aThen (AWP P sz d Q) Q) e h) : AWP P sz (.seq c d) Q e h := by
  intro r n m ρ a w hm s x
  refine wpIn_seq (wpIn_mono (hc r n m ρ a w hm s x) ?_)
  rintro ex a' w' ⟨ρ', e', h', g1, g2, g3, g4⟩
  cases ex with
  | normal => exact wpIn_mono (g1 r n m ρ' a' w' (Nat.le_trans hm g2.wsize) g3 g4) fun _ _ _ ⟨ρ2, e2, h2, k1, k2, k3, k4⟩ => ⟨ρ2, e2, h2, k1, g2.trans k2, k3, k4⟩
  | _ => exact ⟨ρ', e', h', g1, g2, g3, g4⟩

theorem awp_skip (hq : Q .normal e h) : AWP P sz .skip Q e h := fun _ _ _ ρ _ _ _ s x => wpIn_skip ⟨ρ, e, h, hq, .refl _ _ _, s, x⟩
theorem awp_label {l : Nat} (hq : Q .normal e h) : AWP P sz (.label l) Q e h := fun _ _ _ ρ _ _ _ s x => wpIn_label ⟨ρ, e, h, hq, .refl _ _ _, s, x⟩
theorem awp_exit {id : Nat} (hq : Q (.exit id) e h) : AWP P sz (.exit id) Q e h := fun _ _ _ ρ _ _ _ s x => wpIn_exit ⟨ρ, e, h, hq, .refl _ _ _, s, x⟩
theorem awp_ret (hq : Q .ret e h) : AWP P sz .ret Q e h := fun _ _ _ ρ _ _ _ s x => wpIn_ret ⟨ρ, e, h, hq, .refl _ _ _, s, x⟩

theorem awp_cond {c : Operand} {x y : Code} {b : Bool} (hv : vokB sz c = true) (hc : ev e c = .bool b) (ht : b = true → AWP P sz x Q e h) (hf : b = false → AWP P sz y Q e h) : AWP P sz (.cond c x y) Q e h := by
  intro r n m ρ a w hm s xr
  have := xr.ev (vokB_eq hv)
  rw [hc] at this
  refine wpIn_cond this.bool ?_
  cases b with
  | true => exact ht rfl r n m ρ a w hm s xr
  | false => exact hf rfl r n m ρ a w hm s xr

theorem awp_block {id : Nat} {c : Code} (hc : AWP P sz c (aBlock id Q) e h) : AWP P sz (.block id c) Q e h := by
  intro r n m ρ a w hm s x
  refine wpIn_block (wpIn_mono (hc r n m ρ a w hm s x) ?_)
  rintro ex a' w' ⟨ρ', e', h', g1, g⟩
  cases ex with
  | exit i =>
    simp only [aBlock] at g1
    simp only [Exit.inBlock]
    by_cases hi : i = id
    · rw [if_pos hi] at g1 ⊢; exact ⟨ρ', e', h', g1, g⟩
    · rw [if_neg hi] at g1 ⊢; exact ⟨ρ', e', h', g1, g⟩
  | _ => exact ⟨ρ', e', h', g1, g⟩

theorem awp_region {id : Nat} {ops : Array Oper} (hok : ops.toList.all (opsOK sz ops) = true) (hk : aops P ops (Q .normal) ops.toList e h) : AWP P sz (.region id ops false) Q e h := by
  intro r n m ρ a w hm s x
  exact wpIn_region_list (aops_sound ops.toList (fun o ho => List.all_eq_true.1 hok o ho) hk hm s x fun e' h' ρ' a' w' g1 g2 g3 g4 => ⟨ρ', e', h', g1, g2, g3, g4⟩)

open Classical in
noncomputable def least (p : Nat → Prop) : Nat := if hp : ∃ k, p k ∧ ∀ j, p j → k ≤ j then Classical.choose hp else 0
theorem least_spec {p : Nat → Prop} (hp : ∃ k, p k) : p (least p) ∧ ∀ j, p j → least p ≤ j := by
  have : ∃ k, p k ∧ ∀ j, p j → k ≤ j := by
    obtain ⟨k, hk⟩ := hp
    induction k using Nat.strongRecOn with
    | _ k ih =>
      by_cases hex : ∃ j, j < k ∧ p j
      · obtain ⟨j, hj, hpj⟩ := hex; exact ih j hj hpj
      · exact ⟨k, hk, fun j hj => by
          rcases Nat.lt_or_ge j k with h | h
          · exact absurd ⟨j, h, hj⟩ hex
          · exact h⟩
  unfold least
  rw [dif_pos this]
  exact Classical.choose_spec this

/-- A loop: what holds at each round's head, told of a ghost; a measure of the ghost. -/
theorem awp_loop {γ : Type} {c : Code} (inv : γ → Prop) (st : γ → Env × Heap) (μ : γ → Nat) (g0 : γ) (h0 : inv g0) (he : ELe e (st g0).1) (hh : h = (st g0).2)
    (round : ∀ g, inv g → AWP P sz c (aThen (fun e' h' => ∃ g', inv g' ∧ μ g' < μ g ∧ ELe e' (st g').1 ∧ h' = (st g').2) Q) (st g).1 (st g).2) : AWP P sz (.loop c) Q e h := by
  intro r n m ρ a w hm s x
  subst hh
  let I : Nat → Act → World → Prop := fun k a' w' => ∃ g ρ', inv g ∧ μ g = k ∧ Evo (st g0).2 ρ w (st g).2 ρ' w' ∧ Sim P ρ' (st g).2 w' ∧ ARel r m sz ρ' (st g).2 (st g).1 a' w'
  refine wpIn_loop (fun a' w' => ∃ k, I k a' w') (fun a' w' => least (fun k => I k a' w')) ⟨_, g0, ρ, h0, rfl, .refl _ _ _, s, x.le he⟩ ?_
  intro a1 w1 hI
  obtain ⟨⟨g, ρ1, hg, hμ, hE, hS, hA⟩, _⟩ := least_spec hI
  refine wpIn_mono (round g hg r n m ρ1 a1 w1 (Nat.le_trans hm hE.wsize) hS hA) ?_
  rintro ex a' w' ⟨ρ', e', h', g1, g2, g3, g4⟩
  cases ex with
  | normal =>
    obtain ⟨g', k1, k2, k3, k4⟩ := g1
    subst k4
    have hI' : I (μ g') a' w' := ⟨g', ρ', k1, rfl, hE.trans g2, g3, g4.le k3⟩
    refine ⟨⟨_, hI'⟩, ?_⟩
    have := (least_spec (p := fun k => I k a' w') ⟨_, hI'⟩).2 _ hI'
    show least (fun k => I k a' w') < least (fun k => I k a1 w1)
    omega
  | _ => exact ⟨ρ', e', h', g1, hE.trans g2, g3, g4⟩
end calculus

/-! ### Functions -/
def argEnv : Nat → List Value → Env
  | _, [] => []
  | i, v :: l => (i, v) :: argEnv (i + 1) l
theorem sget_argEnv : ∀ (l : List Value) (i k : Nat), sget (argEnv i l) k = if i ≤ k then l.getD (k - i) undef else undef
  | [], i, k => by simp [argEnv, sget]
  | v :: l, i, k => by
    simp only [argEnv, sget, cond_eq_ite, beq_iff_eq, sget_argEnv l (i + 1) k]
    by_cases h : i = k
    · subst h; simp
    · rw [if_neg h]
      by_cases h2 : i + 1 ≤ k
      · rw [if_pos h2, if_pos (by omega)]
        obtain ⟨j, hj⟩ : ∃ j, k - i = j + 1 := ⟨k - i - 1, by omega⟩
        rw [hj, show k - (i + 1) = j by omega]; rfl
      · rw [if_neg h2, if_neg (by omega)]

/-- The results, out of the environment. -/
def resK (P : Program) (h : Heap) (e : Env) : List ResultVar → (List Value → Prop) → Prop
  | [], K => K []
  | .tmp t :: l, K => resK P h e l (fun vs => K (sget e t :: vs))
  | .cell a t :: l, K => loadK P h t (sget e a) (fun v => resK P h e l (fun vs => K (v :: vs)))
def tup : List Value → Value
  | [v] => v
  | vs => .tuple vs.toArray

def resSlots (sz : Nat) : List ResultVar → Bool
  | [] => true
  | .tmp t :: l => decide (t < sz) && resSlots sz l
  | .cell a _ :: l => decide (a < sz) && resSlots sz l

def resOne (tmps : Array Value) : ResultVar → Sem Value
  | .tmp t => pure (tmps.getD t undef)
  | .cell a t => do loadVar t (← asAddr (tmps.getD a undef))

theorem resK_sound {P : Program} [Tabs P] {ρ : Nat → Loc} {h : Heap} {w : World} (s : Sim P ρ h w) {e : Env} {tmps : Array Value} (he : ERel h.length ρ e tmps) : ∀ (l : List ResultVar) {K : List Value → Prop}, resSlots tmps.size l = true → resK P h e l K →
    ∃ vs vs', K vs ∧ LRel h.length ρ vs vs' ∧ (l.mapM (resOne tmps)).run P w = .ok vs' w
  | [], K, _, hk => ⟨[], [], hk, LRel.nil _ _, by simp⟩
  | .tmp t :: l, K, hs, hk => by
    simp only [resSlots, Bool.and_eq_true, decide_eq_true_eq] at hs
    obtain ⟨vs, vs', h1, h2, h3⟩ := resK_sound s he l hs.2 hk
    refine ⟨_, tmps.getD t undef :: vs', h1, LRel.cons (he t hs.1) h2, ?_⟩
    rw [List.mapM_cons]
    simp only [resOne, Sem.run_bind, Sem.run_pure, Result.andThen_ok, h3]
  | .cell a t :: l, K, hs, hk => by
    simp only [resSlots, Bool.and_eq_true, decide_eq_true_eq] at hs
    obtain ⟨v, v', hk', hv, hrun⟩ := loadK_sound s (he a hs.1) hk
    obtain ⟨vs, vs', h1, h2, h3⟩ := resK_sound s he l hs.2 hk'
    refine ⟨_, v' :: vs', h1, LRel.cons hv h2, ?_⟩
    have hld : (resOne tmps (.cell a t)).run P w = .ok v' w := by
      simp only [resK, loadK] at hk
      split at hk
      · rename_i b o hp
        have hr := he a hs.1
        rw [hp] at hr
        obtain ⟨_, _, hpt⟩ := hr.ptr'
        rw [hpt] at hrun
        simp only [resOne, hpt]
        simpa [Instr.loadAt, Instr.sureAddr, asAddr] using hrun
      · exact hk.elim
    rw [List.mapM_cons]
    simp only [Sem.run_bind, Sem.run_pure, hld, Result.andThen_ok, h3]

theorem tup_rel {n : Nat} {ρ : Nat → Loc} {vs vs' : List Value} (h : LRel n ρ vs vs') : VRel n ρ (tup vs) (tup vs') := by
  match vs, vs', h.1, h with
  | [], [], _, _ => exact .any _
  | [v], [v'], _, h => exact h.2 0 (by simp)
  | v :: u :: l, v' :: u' :: l', _, h => exact .tuple_of_LRel h

theorem run_results {P : Program} [Tabs P] {fn : Func} {tmps : Array Value} {vs' : List Value} {w : World} (h : (fn.results.toList.mapM (resOne tmps)).run P w = .ok vs' w) : (results fn tmps).run P w = .ok (tup vs') w := by
  have e : results fn tmps = (do let vs ← fn.results.mapM (resOne tmps); pure (if h : vs.size = 1 then vs[0] else .tuple vs)) := by
    unfold results
    congr 1
  rw [e, Array.mapM_eq_mapM_toList]
  simp only [Sem.run_bind, Sem.run_map, Sem.run_pure, h, Result.andThen_ok]
  match vs' with
  | [] => rfl
  | [v] => rfl
  | v :: u :: l => simp [tup]

/-- The blocks of marks are shut, one behind the other. -/
theorem leaves {P : Program} [Tabs P] {n : Nat} {fn : Func} {tmps : Array Value} {R : Ending → World → Prop} : ∀ (Ds : List Nat) (w : World), Ds.Nodup → (∀ D ∈ Ds, w.heap[D]? = some (.deferred (some []))) →
    (∀ w' : World, w'.heap.size = w.heap.size → w'.os = w.os → w'.tape = w.tape → w'.output = w.output → (∀ k, k ∉ Ds → w'.heap[k]? = w.heap[k]?) → LeavesIn Fence.wide n P fn tmps R [] .returning w') →
    LeavesInM Fence.wide n P fn tmps R (Ds.map (fun D => { target := .collected D, args := #[] })) .returning w
  | [], w, _, _, h => h w rfl rfl rfl rfl (fun _ _ => rfl)
  | D :: Ds, w, hn, hd, h => by
    have hD := hd D (by simp)
    have hn' := List.nodup_cons.1 hn
    refine ⟨by simp, .inl ⟨D, _, rfl, run_takeDeferred hD, ?_⟩⟩
    refine leaves Ds _ hn'.2 (fun D' hD' => ?_) (fun w' h1 h2 h3 h4 h5 => h w' (by rw [h1]; simp) h2 h3 h4 (fun k hk => ?_))
    · have hne : D' ≠ D := fun he => hn'.1 (he ▸ hD')
      rw [World.putObj_heap_other hne]; exact hd D' (by simp [hD'])
    · simp only [List.mem_cons, not_or] at hk
      rw [h5 k hk.2, World.putObj_heap_other hk.1]

/-- **A function, out of its body.** -/
theorem acall_of_body {P : Program} [Tabs P] {f : FuncId} {fn : Func} {c : Code} {args : List Value} {h : Heap} {Q : Value → Heap → Prop} (hf : P.funcs[f]? = some fn) (hb : fn.body = some c)
    (hent : ∀ (as : Array Value) (w : World), (callFunc f as).run P w = .ok (.enter f as) w) (hsz : args.length ≤ fn.ntmps) (hrs : resSlots fn.ntmps fn.results.toList = true)
    (hbody : AWP P fn.ntmps c (fun x e' h' => (x = .normal ∨ x = .ret) ∧ resK P h' e' fn.results.toList (fun vs => Q (tup vs) h')) (argEnv 0 args) h) : ACall P f args h Q := by
  refine ⟨hent, fun n ρ args' w s hr => ?_⟩
  have hal : args'.size = args.length := by have := hr.1; simpa using this.symm
  refine callsIn_of_wp_marks hf hb trivial ?_ rfl
  have hA : ARel none w.heap.size fn.ntmps ρ h (argEnv 0 args) { tmps := args' ++ Array.replicate (fn.ntmps - args'.size) undef, defers := [] } w := by
    refine ⟨by simp; omega, fun i hi => ?_, ⟨[], rfl, by simp, fun D hD => by simp at hD⟩, fun l hl => by cases hl⟩
    rw [sget_argEnv]
    simp only [Nat.zero_le, if_true, Nat.sub_zero]
    by_cases hi2 : i < args.length
    · have := hr.2 i hi2
      have hi3 : i < args'.size := by omega
      have e1 : (args' ++ Array.replicate (fn.ntmps - args'.size) undef).getD i undef = args'.toList.getD i undef := by
        simp [Array.getD_eq_getD_getElem?, Array.getElem?_append_left hi3, List.getD]
      rw [e1]; exact this
    · have : args.getD i undef = undef := by simp [List.getD, List.getElem?_eq_none (Nat.le_of_not_lt hi2)]
      rw [this]; exact .any _
  refine wpIn_mono (hbody none n w.heap.size ρ _ w (Nat.le_refl _) s hA) ?_
  rintro ex a' w' ⟨ρ', e', h', ⟨hex, hres⟩, hE, hS, hA'⟩
  obtain ⟨Ds, hd, hnd, hD⟩ := hA'.marks
  have main : LeavesInM Fence.wide n P fn a'.tmps (fun en w' => ∃ v v' ρ' h', en = .returned v' ∧ Q v h' ∧ VRel h'.length ρ' v v' ∧ Evo h ρ w h' ρ' w' ∧ Sim P ρ' h' w') a'.defers .returning w' := by
    rw [hd]
    refine leaves Ds w' hnd (fun D hDm => (hD D hDm).2) ?_
    intro w2 g1 g2 g3 g4 g5
    have notlive : ∀ i x, view h' i = some x → (ρ' i).blk ∉ Ds := by
      rintro i ⟨c2, e2, ro⟩ hv hm
      obtain ⟨c', fr, hc, _⟩ := hS.cells i c2 e2 ro hv
      rw [(hD _ hm).2] at hc; cases hc
    have nottab : ∀ p ∈ Tabs.tabs P, p.1 ∉ Ds := fun p hp hm => by
      have h1 := (s.tab p hp).1
      have := (Array.getElem?_eq_some_iff.1 h1).1
      have := (hD _ hm).1
      omega
    have s2 : Sim P ρ' h' w2 := hS.same (fun i x hv => g5 _ (notlive i x hv)) (fun p hp => g5 _ (nottab p hp))
    obtain ⟨vs, vs', k1, k2, k3⟩ := resK_sound s2 (tmps := a'.tmps) hA'.env fn.results.toList (by rw [hA'.size]; exact hrs) hres
    refine ⟨tup vs', run_results k3, tup vs, tup vs', ρ', h', rfl, k1, tup_rel k2, ?_, s2⟩
    exact { hE with
      wsize := by rw [g1]; exact hE.wsize
      os := g2.trans hE.os
      tape := g3.trans hE.tape
      output := g4.trans hE.output
      keep := fun k hk hm => by
        rw [g5 k (fun hin => by have := (hD k hin).1; omega)]
        exact hE.keep k hk hm }
  rcases hex with rfl | rfl
  · exact main
  · exact main
end Go.Am
