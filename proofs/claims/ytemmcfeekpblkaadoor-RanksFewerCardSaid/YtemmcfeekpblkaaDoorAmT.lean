/-
  The abstract machine, part T: what stands in slots that nobody reads any more may be dropped where two parts meet.
-/
import Derived.Test.YtemmcfeekpblkaaDoorAmS
set_option linter.all false
namespace Go.Am

theorem stripC_seq {c : Code} {a b : SCode} (h : stripC c = .seq a b) : ∃ a' b', c = .seq a' b' ∧ stripC a' = a ∧ stripC b' = b := by
  cases c with
  | region id ops d => cases d <;> simp [stripC] at h
  | seq a' b' => exact ⟨a', b', rfl, by simpa [stripC] using h⟩
  | _ => simp [stripC] at h
theorem aws_cut {P : Program} [Tabs P] {sz : Nat} {a b : SCode} {Q : Exit → Env → Heap → Prop} {e : Env} {h : Heap}
    (k : ∀ N : Env → Heap → Prop, (∀ e1 e h, AWS P sz b Q e1 h → ELe e e1 → N e h) → aw P sz a (aThen N Q) e h) : AWS P sz (.seq a b) Q e h := by
  intro c hc hok
  obtain ⟨a', b', rfl, rfl, rfl⟩ := stripC_seq hc
  simp only [codeOK, Bool.and_eq_true] at hok
  refine awp_seq ((aw_awp a' hok.1 (k (fun e h => AWS P sz (stripC b') Q e h) fun e1 e h hk hl => aws_le hk hl)).mono ?_)
  intro x e' h' hq
  cases x <;> first | exact hq b' rfl hok.2 | exact hq
theorem aw_loopW {P : Program} [Tabs P] {sz : Nat} {b : SCode} {Q : Exit → Env → Heap → Prop} {e : Env} {h : Heap} {γ : Type} (inv : γ → Prop) (st : γ → Env × Heap) (μ : γ → Nat) (g0 : γ) (h0 : inv g0) (he : ELe e (st g0).1) (hh : h = (st g0).2)
    (round : ∀ g, inv g → AWS P sz b (aThen (fun e' h' => ∃ g', inv g' ∧ μ g' < μ g ∧ ELe e' (st g').1 ∧ h' = (st g').2) Q) (st g).1 (st g).2) : AWS P sz (.loop b) Q e h := by
  intro c hc hok
  obtain ⟨c', rfl, hb⟩ := stripC_loop hc
  exact awp_loop inv st μ g0 h0 he hh fun g hg => round g hg c' hb hok
theorem acall_w {P : Program} [Tabs P] {f : FuncId} {fn : Func} {sc : SCode} {rs : List ResultVar} {sz : Nat} (hf : P.funcs[f]? = some fn) (hb : fn.body.isSome = true)
    (hent : ∀ (as : Array Value) (w : World), (callFunc f as).run P w = .ok (.enter f as) w) (hn : fn.ntmps = sz) (hrs : fn.results.toList = rs) (hrs2 : resSlots sz rs = true)
    (hs : stripC (bodyOf fn) = sc) (hok : codeOK sz (bodyOf fn) = true) {args : List Value} {h : Heap} {Q : Value → Heap → Prop} (hsz : args.length ≤ sz) (hk : AWS P sz sc (aPost P rs Q) (argEnv 0 args) h) : ACall P f args h Q := by
  subst hn
  refine acall_of_body (c := bodyOf fn) hf (by obtain ⟨c, hc⟩ := Option.isSome_iff_exists.1 hb; simp [bodyOf, hc]) hent hsz (by rw [hrs]; exact hrs2) ((hk _ hs hok).mono ?_)
  intro x e' h' hq
  rw [hrs]
  cases x <;> first | exact ⟨.inl rfl, hq⟩ | exact ⟨.inr rfl, hq⟩ | exact hq.elim
end Go.Am
