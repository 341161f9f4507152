/-
  The abstract machine, part Zb: a body with labels that nobody jumps to.
-/
import Derived.Test.YtemmcfeekpblkaaDoorAmZa
import Derived.Scope
set_option linter.all false
namespace Go
section
variable {F : Fence} {n : Nat} {P : Program} {b : Frame} {a : Act} {k : List Item} {cs : List Frame} {w : World} {Q : Exit → Act → World → Prop}
theorem stepR_scope {c : Code} : step P (lone (b.atR a (.code (.scope c) :: k)) cs w) = .next (lone (b.atR a (.code c :: .inScope c :: k)) cs w) :=
  step_lone_go (by simp [stepG, stepG.exec, Frame.atR])
theorem stepR_inScope {c : Code} : step P (lone (b.atR a (.inScope c :: k)) cs w) = .next (lone (b.atR a k) cs w) :=
  step_lone_go (by simp [stepG, stepG.exec, Frame.atR])
theorem wpIn_scope {c : Code} (h : c.wpIn F n P (Exit.noGoto Q) a w) : (Code.scope c).wpIn F n P Q a w := by
  intro b k cs hro hb hr
  have h0 : (lone (b.atR a (.code (.scope c) :: k)) cs w).fenced P F := fenced_calm hb hr rfl
  obtain ⟨e, a₁, w₁, hq, harr⟩ := h b (.inScope c :: k) cs hro hb hr
  cases e with
  | normal => exact ⟨.normal, a₁, w₁, hq, .head h0 stepR_scope (StepsIn.trans harr (.one (fenced_calm hb hr rfl) stepR_inScope))⟩
  | exit id =>
    have hx : exitTo id (.inScope c :: k) = exitTo id k := by simp [exitTo]
    exact ⟨.exit id, a₁, w₁, hq, fun k' hk => .head h0 stepR_scope (harr.1 k' (by rw [hx]; exact hk)),
        fun hr' hk => let ⟨k₁, h1, h2⟩ := harr.2 hr' (by rw [hx]; exact hk); ⟨k₁, h1, .head h0 stepR_scope h2⟩⟩
  | goto l => exact hq.elim
  | ret => exact ⟨_, a₁, w₁, hq, .of_steps (.one h0 stepR_scope) harr⟩
  | panic ch => exact ⟨_, a₁, w₁, hq, .of_steps (.one h0 stepR_scope) harr⟩
  | outgrown => exact ⟨_, a₁, w₁, hq, .of_steps (.one h0 stepR_scope) harr⟩
end
end Go
namespace Go.Am
def noGo (Q : Exit → Env → Heap → Prop) : Exit → Env → Heap → Prop
  | .goto _, _, _ => False
  | x, e, h => Q x e h
section
variable {P : Program} [Tabs P] {sz : Nat} {Q : Exit → Env → Heap → Prop} {e : Env} {h : Heap}
theorem awp_scope {c : Code} (hc : AWP P sz c (noGo Q) e h) : AWP P sz (.scope c) Q e h := by
  intro r n m ρ a w hm s x
  refine wpIn_scope (wpIn_mono (hc r n m ρ a w hm s x) ?_)
  rintro ex a' w' ⟨ρ', e', h', g1, g⟩
  cases ex <;> first | exact g1.elim | exact ⟨ρ', e', h', g1, g⟩
theorem stripC_scope {c : Code} {b : SCode} (h : stripC c = .scope b) : ∃ c', c = .scope c' ∧ stripC c' = b := by
  cases c with
  | region id ops d => cases d <;> simp [stripC] at h
  | scope c => exact ⟨c, rfl, by simpa [stripC] using h⟩
  | _ => simp [stripC] at h
theorem aws_scope {b : SCode} (hk : AWS P sz b (noGo Q) e h) : AWS P sz (.scope b) Q e h := by
  intro c hc hok
  obtain ⟨c', rfl, hb⟩ := stripC_scope hc
  exact awp_scope (hk c' hb hok)
theorem noGo_normal {e : Env} {h : Heap} : noGo Q .normal e h = Q .normal e h := rfl
theorem noGo_ret {e : Env} {h : Heap} : noGo Q .ret e h = Q .ret e h := rfl
theorem noGo_exit {i : Nat} {e : Env} {h : Heap} : noGo Q (.exit i) e h = Q (.exit i) e h := rfl
end
end Go.Am
namespace Go.Am
/-! A slice of ints that a run has made and writes into. -/
section
variable {P : Program} {h : Heap} {b o : Nat} {e t : TypeId} {xs : List Int}
theorem storeBI {K : Heap → Prop} {x : Int} (hb : h[b]? = some (.ints xs e false)) (hs : shp P t = some none) (ho : o < xs.length) : storeK P h t (.pointer (some ⟨b, o, none⟩)) (vint x) K = K (h.set b (.ints (xs.set o x) e false)) := by
  simp only [storeK, hs, hb, ho, true_and]
theorem elemP_new (b n c i : Nat) : elemP (.slice (some ⟨b, 0, none⟩) n c) 1 i = .pointer (some ⟨b, i, none⟩) := by simp [elemP]
theorem intSl_blk (hb : h[b]? = some (.ints xs e false)) : IntSl h (.slice (some ⟨b, 0, none⟩) xs.length xs.length) xs :=
  .inr ⟨b, 0, none, xs.length, xs.map vint, e, false, rfl, Nat.le_refl _, by simp [view, hb, Blk.view], fun i hi => by rw [Nat.zero_add, List.getElem?_map, List.getD, List.getElem?_eq_getElem hi]; rfl⟩
/-- Behind what was there a run may write. -/
theorem Ext.set_ge {S : Nat → Prop} {h h' : Heap} (hE : Ext S h h') {b : Nat} (hb : h.length ≤ b) (B : Blk) : Ext S h (h'.set b B) :=
  ⟨by rw [List.length_set]; exact hE.1, fun i hi hs => by rw [List.getElem?_set_ne (by omega)]; exact hE.2 i hi hs⟩
end
end Go.Am
