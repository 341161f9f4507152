/-
  The abstract machine, part J: regions whose order Go leaves open.
-/
import Derived.Test.YtaagkbbphgdcdaaDoorAmI
set_option linter.all false
namespace Go.Am

/-! ### Each operation comes to one value and one heap -/
section lin
variable {P : Program} [Tabs P] {K : Value → Prop}
theorem binI_lin {op : BinOp} {k k' : IntKind} {a b : Int} (hk : binI op k k' a b K) : ∃ v, K v ∧ ∀ K' : Value → Prop, K' v → binI op k k' a b K' := by
  cases op <;> simp only [binI] at hk ⊢
  case quo => exact ⟨_, hk.2.2, fun K' h => ⟨hk.1, hk.2.1, h⟩⟩
  case rem => exact ⟨_, hk.2.2, fun K' h => ⟨hk.1, hk.2.1, h⟩⟩
  all_goals exact ⟨_, hk.2, fun K' h => ⟨hk.1, h⟩⟩
theorem binK_lin {op : BinOp} {t : TypeId} {x y : Value} (hk : binK P op t x y K) : ∃ v, K v ∧ ∀ K' : Value → Prop, K' v → binK P op t x y K' := by
  unfold binK at hk
  split at hk
  · obtain ⟨v, h1, h2⟩ := binI_lin hk; exact ⟨v, h1, fun K' h => by simpa [binK] using h2 K' h⟩
  · obtain ⟨ht, hk⟩ := hk
    split at hk
    · exact ⟨_, hk, fun K' h => by simp only [binK]; exact ⟨ht, h⟩⟩
    · exact ⟨_, hk, fun K' h => by simp only [binK]; exact ⟨ht, h⟩⟩
    · exact hk.elim
  · split at hk
    · rename_i is js h1 h2
      obtain ⟨ht, hl, hk⟩ := hk
      split at hk
      · exact ⟨_, hk, fun K' h => by simp only [binK, h1, h2]; exact ⟨ht, hl, h⟩⟩
      · exact ⟨_, hk, fun K' h => by simp only [binK, h1, h2]; exact ⟨ht, hl, h⟩⟩
      · exact hk.elim
    · exact hk.elim
  · obtain ⟨ht, hk⟩ := hk
    split at hk
    · exact ⟨_, hk, fun K' h => by simp only [binK]; exact ⟨ht, h⟩⟩
    · exact ⟨_, hk, fun K' h => by simp only [binK]; exact ⟨ht, h⟩⟩
    · exact hk.elim
  · obtain ⟨ht, hk⟩ := hk
    split at hk
    · exact ⟨_, hk, fun K' h => by simp only [binK]; exact ⟨ht, h⟩⟩
    · exact ⟨_, hk, fun K' h => by simp only [binK]; exact ⟨ht, h⟩⟩
    · exact hk.elim
  · exact hk.elim
theorem unK_lin {op : UnOp} {x : Value} (hk : unK op x K) : ∃ v, K v ∧ ∀ K' : Value → Prop, K' v → unK op x K' := by
  unfold unK at hk
  split at hk
  · exact ⟨_, hk, fun K' h => h⟩
  · exact ⟨_, hk, fun K' h => h⟩
  · exact ⟨_, hk, fun K' h => h⟩
  · exact hk.elim
theorem convK_lin {s d : TypeId} {x : Value} (hk : convK P s d x K) : ∃ v, K v ∧ ∀ K' : Value → Prop, K' v → convK P s d x K' := by
  unfold convK at hk
  split at hk
  · split at hk
    · rename_i h1 h2; exact ⟨_, hk, fun K' h => by simp only [convK, h1, h2]; exact h⟩
    · exact hk.elim
  · exact hk.elim
theorem pickK_lin {c a b : Value} (hk : pickK c a b K) : ∃ v, K v ∧ ∀ K' : Value → Prop, K' v → pickK c a b K' := by
  unfold pickK at hk
  split at hk
  · exact ⟨_, hk, fun K' h => h⟩
  · exact hk.elim
theorem idxAddrK_lin {t : TypeId} {x i : Value} (hk : idxAddrK P t x i K) : ∃ v, K v ∧ ∀ K' : Value → Prop, K' v → idxAddrK P t x i K' := by
  unfold idxAddrK at hk
  split at hk
  · split at hk
    · split at hk
      · rename_i h1
        split at hk
        · rename_i h2; exact ⟨_, hk.2.2, fun K' h => by simp only [idxAddrK, h1, h2]; exact ⟨hk.1, hk.2.1, h⟩⟩
        · exact hk.elim
      · exact hk.elim
    · split at hk
      · rename_i h1
        split at hk
        · rename_i h2; exact ⟨_, hk.2.2, fun K' h => by simp only [idxAddrK, h1, h2]; exact ⟨hk.1, hk.2.1, h⟩⟩
        · exact hk.elim
      · exact hk.elim
    · exact hk.elim
  · exact hk.elim
theorem fieldAddrK_lin {t : TypeId} {x : Value} {f : Nat} (hk : fieldAddrK P t x f K) : ∃ v, K v ∧ ∀ K' : Value → Prop, K' v → fieldAddrK P t x f K' := by
  unfold fieldAddrK at hk
  split at hk
  · split at hk
    · rename_i h1
      split at hk
      · rename_i h2; exact ⟨_, hk.2, fun K' h => by simp only [fieldAddrK, h1, h2]; exact ⟨hk.1, h⟩⟩
      · exact hk.elim
    · exact hk.elim
  · exact hk.elim
theorem partK_lin {t : TypeId} {cs : List Value} {off : Nat} (hk : partK P t cs off K) : ∃ v, K v ∧ ∀ K' : Value → Prop, K' v → partK P t cs off K' := by
  unfold partK at hk
  split at hk
  · rename_i h1
    split at hk
    · rename_i h2; exact ⟨_, hk, fun K' h => by simp only [partK, h1, h2]; exact h⟩
    · exact hk.elim
  · rename_i h1; exact ⟨_, hk.2, fun K' h => by simp only [partK, h1]; exact ⟨hk.1, h⟩⟩
  · exact hk.elim
theorem fieldK_lin {t : TypeId} {x : Value} {f : Nat} (hk : fieldK P t x f K) : ∃ v, K v ∧ ∀ K' : Value → Prop, K' v → fieldK P t x f K' := by
  unfold fieldK at hk
  split at hk
  · split at hk
    · rename_i h1
      obtain ⟨v, h2, h3⟩ := partK_lin hk; exact ⟨v, h2, fun K' h => by simp only [fieldK, h1]; exact h3 K' h⟩
    · exact hk.elim
  · exact hk.elim
theorem indexK_lin {t : TypeId} {x i : Value} (hk : indexK P t x i K) : ∃ v, K v ∧ ∀ K' : Value → Prop, K' v → indexK P t x i K' := by
  unfold indexK at hk
  split at hk
  · split at hk
    · rename_i h1
      split at hk
      · rename_i h2
        obtain ⟨v, h3, h4⟩ := partK_lin hk.2.2; exact ⟨v, h3, fun K' h => by simp only [indexK, h1, h2]; exact ⟨hk.1, hk.2.1, h4 K' h⟩⟩
      · exact hk.elim
    · exact hk.elim
  · exact hk.elim
theorem extractK_lin {x : Value} {i : Nat} (hk : extractK x i K) : ∃ v, K v ∧ ∀ K' : Value → Prop, K' v → extractK x i K' := by
  unfold extractK at hk
  split at hk
  · split at hk
    · rename_i h1; exact ⟨_, hk, fun K' h => by simp only [extractK, h1]; exact h⟩
    · exact hk.elim
  · exact hk.elim
theorem sliceK_lin {t : TypeId} {x : Value} {lo hi mx : Option Value} (hk : sliceK P t x lo hi mx K) : ∃ v, K v ∧ ∀ K' : Value → Prop, K' v → sliceK P t x lo hi mx K' := by
  unfold sliceK at hk
  split at hk
  · obtain ⟨h1, h2, h3, h4, h5⟩ := hk
    exact ⟨_, h5, fun K' h => by simp only [sliceK]; exact ⟨h1, h2, h3, h4, h⟩⟩
  · rename_i b o sp len cap
    split at hk
    · rename_i h1
      split at hk
      · rename_i h2 h3 h4
        obtain ⟨g1, g2, g3, g4, g5⟩ := hk
        cases sp with
        | none => exact ⟨_, g4 rfl, fun K' h => by simp only [sliceK, h1, h2, h3, h4]; exact ⟨g1, g2, g3, fun _ => h, fun h => absurd rfl h⟩⟩
        | some n =>
          rcases g5 (by simp) with ⟨k1, k2⟩ | ⟨k1, ⟨k2, k3, k4⟩ | ⟨k2, k3⟩⟩
          · exact ⟨_, k2, fun K' h => by simp only [sliceK, h1, h2, h3, h4]; exact ⟨g1, g2, g3, (fun h => by cases h), fun _ => .inl ⟨k1, h⟩⟩⟩
          · exact ⟨_, k4, fun K' h => by simp only [sliceK, h1, h2, h3, h4]; exact ⟨g1, g2, g3, (fun h => by cases h), fun _ => .inr ⟨k1, .inl ⟨k2, k3, h⟩⟩⟩⟩
          · exact ⟨_, k3, fun K' h => by simp only [sliceK, h1, h2, h3, h4]; exact ⟨g1, g2, g3, (fun h => by cases h), fun _ => .inr ⟨k1, .inr ⟨k2, h⟩⟩⟩⟩
      · rename_i h2 h3 h4
        obtain ⟨g1, g2, g3, g4, g5, g6⟩ := hk
        exact ⟨_, g6, fun K' h => by simp only [sliceK, h1, h2, h3, h4]; exact ⟨g1, g2, g3, g4, g5, h⟩⟩
      · exact hk.elim
    · exact hk.elim
  · split at hk
    · rename_i h1
      split at hk
      · rename_i h2 h3 h4
        obtain ⟨g1, g2, g3, g4⟩ := hk
        exact ⟨_, g4, fun K' h => by simp only [sliceK, h1, h2, h3, h4]; exact ⟨g1, g2, g3, h⟩⟩
      · exact hk.elim
    · exact hk.elim
  · exact hk.elim
theorem arrSliceK_lin {t : TypeId} {x : Value} (hk : arrSliceK P t x K) : ∃ v, K v ∧ ∀ K' : Value → Prop, K' v → arrSliceK P t x K' := by
  unfold arrSliceK at hk
  split at hk
  · rename_i h1; exact ⟨_, hk.2, fun K' h => by simp only [arrSliceK, h1]; exact ⟨hk.1, h⟩⟩
  · exact hk.elim
theorem nilK_lin {x : Value} (hk : nilK x K) : ∃ v, K v ∧ ∀ K' : Value → Prop, K' v → nilK x K' := by
  unfold nilK at hk
  split at hk
  · exact ⟨_, hk, fun K' h => h⟩
  · exact ⟨_, hk, fun K' h => h⟩
  · exact hk.elim
theorem buildK_lin {t : TypeId} {parts : List (Nat × Value)} (hk : buildK P t parts K) : ∃ v, K v ∧ ∀ K' : Value → Prop, K' v → buildK P t parts K' := by
  unfold buildK at hk
  split at hk
  · rename_i h1
    split at hk
    · rename_i h2; exact ⟨_, hk.2, fun K' h => by simp only [buildK, h1, h2]; exact ⟨hk.1, h⟩⟩
    · exact hk.elim
  · exact hk.elim
theorem lenK_lin {x : Value} (hk : lenK x K) : ∃ v, K v ∧ ∀ K' : Value → Prop, K' v → lenK x K' := by
  unfold lenK at hk
  split at hk
  · exact ⟨_, hk, fun K' h => h⟩
  · exact ⟨_, hk, fun K' h => h⟩
  · exact hk.elim
theorem mmK_lin {m : Bool} {xs : List Value} (hk : mmK m xs K) : ∃ v, K v ∧ ∀ K' : Value → Prop, K' v → mmK m xs K' := by
  unfold mmK at hk
  split at hk
  · exact ⟨_, hk, fun K' h => h⟩
  · exact hk.elim
theorem cellK_lin {h : Heap} {b o : Nat} (hk : cellK h b o K) : ∃ v, K v ∧ ∀ K' : Value → Prop, K' v → cellK h b o K' := by
  unfold cellK at hk
  split at hk
  · rename_i h1
    split at hk
    · rename_i h2; exact ⟨_, hk, fun K' h => by simp only [cellK, h1, h2]; exact h⟩
    · exact hk.elim
  · rename_i h1; exact ⟨_, hk.2, fun K' h => by simp only [cellK, h1]; exact ⟨hk.1, h⟩⟩
  · exact hk.elim
theorem cellsK_lin {h : Heap} {b o n : Nat} {K : List Value → Prop} (hk : cellsK h b o n K) : ∃ v, K v ∧ ∀ K' : List Value → Prop, K' v → cellsK h b o n K' := by
  unfold cellsK at hk
  split at hk
  · rename_i h1; exact ⟨_, hk.2, fun K' h => by simp only [cellsK, h1]; exact ⟨hk.1, h⟩⟩
  · rename_i h1; exact ⟨_, hk.2, fun K' h => by simp only [cellsK, h1]; exact ⟨hk.1, h⟩⟩
  · exact hk.elim
theorem loadK_lin {h : Heap} {t : TypeId} {p : Value} (hk : loadK P h t p K) : ∃ v, K v ∧ ∀ K' : Value → Prop, K' v → loadK P h t p K' := by
  unfold loadK at hk
  split at hk
  · split at hk
    · rename_i h1
      obtain ⟨v, h2, h3⟩ := cellK_lin hk; exact ⟨v, h2, fun K' h => by simp only [loadK, h1]; exact h3 K' h⟩
    · rename_i h1
      obtain ⟨v, h2, h3⟩ := cellsK_lin hk; exact ⟨_, h2, fun K' h => by simp only [loadK, h1]; exact h3 _ h⟩
    · exact hk.elim
  · exact hk.elim
end lin
section lin2
variable {P : Program} [Tabs P] {h : Heap} {K : Value → Heap → Prop}
theorem allocK_lin {t : TypeId} (hk : allocK P h t K) : ∃ v h', K v h' ∧ ∀ K' : Value → Heap → Prop, K' v h' → allocK P h t K' := by
  unfold allocK at hk
  split at hk
  · rename_i h1; exact ⟨_, _, hk, fun K' h => by simp only [allocK, h1]; exact h⟩
  · exact hk.elim
theorem boxK_lin {t : TypeId} {v : Value} (hk : boxK P h t v K) : ∃ r h', K r h' ∧ ∀ K' : Value → Heap → Prop, K' r h' → boxK P h t v K' :=
  ⟨_, _, hk.2.2, fun _ h => ⟨hk.1, hk.2.1, h⟩⟩
theorem makeK_lin {t : TypeId} {l c : Value} (hk : makeK P h t l c K) : ∃ v h', K v h' ∧ ∀ K' : Value → Heap → Prop, K' v h' → makeK P h t l c K' := by
  unfold makeK at hk
  split at hk
  · split at hk
    · rename_i h1
      split at hk
      · rename_i h2 h3
        obtain ⟨g1, g2, g3, g4, g5, g6, g7⟩ := hk
        exact ⟨_, _, g7, fun K' h => by simp only [makeK, h1, h2, h3]; exact ⟨g1, g2, g3, g4, g5, g6, h⟩⟩
      · exact hk.elim
    · exact hk.elim
  · exact hk.elim
theorem buildSliceK_lin {t : TypeId} {len : Nat} {parts : List (Nat × Value)} (hk : buildSliceK P h t len parts K) : ∃ v h', K v h' ∧ ∀ K' : Value → Heap → Prop, K' v h' → buildSliceK P h t len parts K' := by
  unfold buildSliceK at hk
  split at hk
  · rename_i h1
    split at hk
    · rename_i h2 h3
      obtain ⟨g1, g2, g3, hk⟩ := hk
      split at hk
      · rename_i h4; exact ⟨_, _, hk, fun K' h => by simp only [buildSliceK, h1, h2, h3, h4]; exact ⟨g1, g2, g3, h⟩⟩
      · exact hk.elim
    · exact hk.elim
  · exact hk.elim
theorem storeK_lin {t : TypeId} {p v : Value} {K : Heap → Prop} (hk : storeK P h t p v K) : ∃ h', K h' ∧ ∀ K' : Heap → Prop, K' h' → storeK P h t p v K' := by
  unfold storeK at hk
  split at hk
  · split at hk
    · rename_i h1
      split at hk
      · rename_i h2; exact ⟨_, hk.2.2, fun K' h => by simp only [storeK, h1, h2]; exact ⟨hk.1, hk.2.1, h⟩⟩
      · rename_i h2
        split at hk
        · exact ⟨_, hk.2, fun K' h => by simp only [storeK, h1, h2]; exact ⟨hk.1, h⟩⟩
        · exact hk.elim
      · exact hk.elim
    · rename_i h1
      split at hk
      · obtain ⟨g1, g2, hk⟩ := hk
        split at hk
        · rename_i h2; exact ⟨_, hk.2, fun K' h => by simp only [storeK, h1, h2]; exact ⟨g1, g2, hk.1, h⟩⟩
        · rename_i h2
          split at hk
          · rename_i h3; exact ⟨_, hk.2, fun K' h => by simp only [storeK, h1, h2, h3]; exact ⟨g1, g2, hk.1, h⟩⟩
          · exact hk.elim
        · exact hk.elim
      · exact hk.elim
    · exact hk.elim
  · exact hk.elim
theorem storesK_lin {b o : Nat} {ns : List Value} {K : Heap → Prop} (hk : storesK h b o ns K) : ∃ h', K h' ∧ ∀ K' : Heap → Prop, K' h' → storesK h b o ns K' := by
  obtain ⟨g1, hk⟩ := hk
  split at hk
  · rename_i h2; exact ⟨_, hk.2, fun K' h => by simp only [storesK, h2]; exact ⟨g1, hk.1, h⟩⟩
  · rename_i h2
    split at hk
    · rename_i h3; exact ⟨_, hk.2, fun K' h => by simp only [storesK, h2, h3]; exact ⟨g1, hk.1, h⟩⟩
    · exact hk.elim
  · exact hk.elim
theorem copyK_lin {t : TypeId} {d x : Value} (hk : copyK P h t d x K) : ∃ v h', K v h' ∧ ∀ K' : Value → Heap → Prop, K' v h' → copyK P h t d x K' := by
  unfold copyK at hk
  split at hk
  · split at hk
    · rename_i h1
      split at hk
      · rename_i h2
        obtain ⟨l, g1, g2⟩ := cellsK_lin hk
        obtain ⟨h', g3, g4⟩ := storesK_lin g1
        exact ⟨_, h', g3, fun K' h => by simp only [copyK, h1, h2]; exact g2 _ (g4 _ h)⟩
      · exact hk.elim
    · exact hk.elim
  · exact hk.elim
theorem putK_lin {e : TypeId} {sz bytes : Nat} {s : Value} {n : Nat} {ns : List Value} (hk : putK h e sz bytes s n ns K) : ∃ v h', K v h' ∧ ∀ K' : Value → Heap → Prop, K' v h' → putK h e sz bytes s n ns K' := by
  unfold putK at hk
  split at hk
  · by_cases hn : n = 0
    · exact ⟨_, _, hk.1 hn, fun K' h => by simp only [putK]; exact ⟨fun _ => h, fun h => absurd hn h⟩⟩
    · exact ⟨_, _, (hk.2 hn).2, fun K' h => by simp only [putK]; exact ⟨fun h => absurd h hn, fun _ => ⟨(hk.2 hn).1, h⟩⟩⟩
  · rename_i b o sp len cap
    by_cases hr : len + n ≤ cap
    · by_cases hn : n = 0
      · exact ⟨_, _, (hk.1 hr).1 hn, fun K' h => by simp only [putK]; exact ⟨fun _ => ⟨fun _ => h, fun hh => absurd hn hh⟩, fun hh => by omega⟩⟩
      obtain ⟨g1, hk⟩ := (hk.1 hr).2 hn
      split at hk
      · rename_i h2; exact ⟨_, _, hk.2, fun K' h => by simp only [putK, h2]; exact ⟨fun _ => ⟨fun hh => absurd hh hn, fun _ => ⟨g1, hk.1, h⟩⟩, fun hh => by omega⟩⟩
      · rename_i h2
        split at hk
        · rename_i h3; exact ⟨_, _, hk.2, fun K' h => by simp only [putK, h2, h3]; exact ⟨fun _ => ⟨fun hh => absurd hh hn, fun _ => ⟨g1, hk.1, h⟩⟩, fun hh => by omega⟩⟩
        · exact hk.elim
      · exact hk.elim
    · obtain ⟨g1, hk⟩ := hk.2 (by omega)
      cases sp with
      | none =>
        obtain ⟨l, g2, g3⟩ := cellsK_lin hk
        exact ⟨_, _, g2, fun K' h => by simp only [putK]; exact ⟨fun hh => absurd hh hr, fun _ => ⟨g1, g3 _ h⟩⟩⟩
      | some m =>
        obtain ⟨k1, k2, k3, hk⟩ := hk
        obtain ⟨l, g2, g3⟩ := cellsK_lin hk
        exact ⟨_, _, g2, fun K' h => by simp only [putK]; exact ⟨fun hh => absurd hh hr, fun _ => ⟨g1, k1, k2, k3, g3 _ h⟩⟩⟩
  · exact hk.elim
theorem appendK_lin {t t2 : TypeId} {s x : Value} (hk : appendK P h t t2 s x K) : ∃ v h', K v h' ∧ ∀ K' : Value → Heap → Prop, K' v h' → appendK P h t t2 s x K' := by
  unfold appendK at hk
  split at hk
  · rename_i h1
    unfold elemsK at hk
    split at hk
    · obtain ⟨v, h', g1, g2⟩ := putK_lin hk.2
      exact ⟨v, h', g1, fun K' h => by simp only [appendK, h1, elemsK]; exact ⟨hk.1, g2 _ h⟩⟩
    · rename_i n _
      by_cases hn0 : n = 0
      · obtain ⟨v, h', g1, g2⟩ := putK_lin (hk.1 hn0)
        exact ⟨v, h', g1, fun K' h => by simp only [appendK, h1, elemsK]; exact ⟨fun _ => g2 _ h, fun hh => absurd hn0 hh⟩⟩
      obtain ⟨l, k1, k2⟩ := cellsK_lin (hk.2 hn0)
      obtain ⟨v, h', g1, g2⟩ := putK_lin k1
      exact ⟨v, h', g1, fun K' h => by simp only [appendK, h1, elemsK]; exact ⟨fun hh => absurd hh hn0, fun _ => k2 _ (g2 _ h)⟩⟩
    · obtain ⟨v, h', g1, g2⟩ := putK_lin hk
      exact ⟨v, h', g1, fun K' h => by simp only [appendK, h1, elemsK]; exact g2 _ h⟩
    · exact hk.elim
  · exact hk.elim

def worldless : Op → Bool
  | .move _ | .assign _ | .pick .. | .build .. | .nilCheck _ | .binOp .. | .unOp .. | .convert .. | .makeFunc .. | .slice .. | .fieldAddr .. | .field .. | .indexAddr .. | .index .. | .extract .. => true
  | .call { callee := .builtin .len, .. } | .call { callee := .builtin .max, .. } | .call { callee := .builtin .min, .. } => true
  | _ => false

theorem builtinK_lin {b : Builtin} {ts : List TypeId} {xs : List Value} (hk : builtinK P b ts xs h K) : ∃ v h', K v h' ∧ (∀ K' : Value → Heap → Prop, K' v h' → builtinK P b ts xs h K') ∧
    ((b = .len ∨ b = .max ∨ b = .min) → h' = h ∧ ∀ (h0 : Heap) (K' : Value → Heap → Prop), K' v h0 → builtinK P b ts xs h0 K') := by
  unfold builtinK at hk
  split at hk
  · obtain ⟨v, g1, g2⟩ := lenK_lin hk.2
    exact ⟨v, h, g1, fun K' h => by simp only [builtinK]; exact ⟨hk.1, g2 _ h⟩, fun _ => ⟨rfl, fun h0 K' h => by simp only [builtinK]; exact ⟨hk.1, g2 _ h⟩⟩⟩
  · obtain ⟨v, h', g1, g2⟩ := appendK_lin hk
    exact ⟨v, h', g1, fun K' h => by simp only [builtinK]; exact g2 _ h, fun hb => by simp at hb⟩
  · obtain ⟨v, h', g1, g2⟩ := copyK_lin hk
    exact ⟨v, h', g1, fun K' h => by simp only [builtinK]; exact g2 _ h, fun hb => by simp at hb⟩
  · obtain ⟨v, g1, g2⟩ := mmK_lin hk
    exact ⟨v, h, g1, fun K' h => by simp only [builtinK]; exact g2 _ h, fun _ => ⟨rfl, fun h0 K' h => by simp only [builtinK]; exact g2 _ h⟩⟩
  · obtain ⟨v, g1, g2⟩ := mmK_lin hk
    exact ⟨v, h, g1, fun K' h => by simp only [builtinK]; exact g2 _ h, fun _ => ⟨rfl, fun h0 K' h => by simp only [builtinK]; exact g2 _ h⟩⟩
  · exact hk.elim

theorem aop_lin {op : Op} {E : Operand → Value} (hk : aop P true op E h K) : ∃ v h', K v h' ∧ (∀ K' : Value → Heap → Prop, K' v h' → aop P true op E h K') ∧
    (worldless op = true → h' = h ∧ ∀ (h0 : Heap) (K' : Value → Heap → Prop), K' v h0 → aop P true op E h0 K') ∧ ((∃ t x, op = .load t x) → h' = h) := by
  have pure : ∀ (F : (Value → Prop) → Prop) (_ : ∀ (h0 : Heap) (K' : Value → Heap → Prop), aop P true op E h0 K' = F (fun v => K' v h0)), (∃ v, K v h ∧ ∀ K' : Value → Prop, K' v → F K') →
      ∃ v h', K v h' ∧ (∀ K' : Value → Heap → Prop, K' v h' → aop P true op E h K') ∧ (worldless op = true → h' = h ∧ ∀ (h0 : Heap) (K' : Value → Heap → Prop), K' v h0 → aop P true op E h0 K') ∧ ((∃ t x, op = .load t x) → h' = h) :=
    fun F hF ⟨v, g1, g2⟩ => ⟨v, h, g1, fun K' hh => by rw [hF]; exact g2 _ hh, fun _ => ⟨rfl, fun h0 K' hh => by rw [hF]; exact g2 _ hh⟩, fun _ => rfl⟩
  have eff : worldless op = false → (∀ t x, op ≠ .load t x) → (∃ v h', K v h' ∧ ∀ K' : Value → Heap → Prop, K' v h' → aop P true op E h K') →
      ∃ v h', K v h' ∧ (∀ K' : Value → Heap → Prop, K' v h' → aop P true op E h K') ∧ (worldless op = true → h' = h ∧ ∀ (h0 : Heap) (K' : Value → Heap → Prop), K' v h0 → aop P true op E h0 K') ∧ ((∃ t x, op = .load t x) → h' = h) :=
    fun hw hl ⟨v, h', g1, g2⟩ => ⟨v, h', g1, g2, (fun h => by rw [hw] at h; cases h), fun ⟨t, x, he⟩ => absurd he (hl t x)⟩
  cases op
  case move x => exact pure (fun K => K (E x)) (fun _ _ => rfl) ⟨_, hk, fun K' h => h⟩
  case assign x => exact pure (fun K => K (E x)) (fun _ _ => rfl) ⟨_, hk, fun K' h => h⟩
  case pick c a b => exact pure (pickK (E c) (E a) (E b)) (fun _ _ => rfl) (pickK_lin hk)
  case alloc t => exact eff rfl (fun _ _ h => by cases h) (allocK_lin hk)
  case box t x => exact eff rfl (fun _ _ h => by cases h) (boxK_lin hk)
  case build t parts => exact pure (fun K => buildK P t (parts.toList.map fun p : Nat × Operand => (p.1, E p.2)) K) (fun _ _ => rfl) (buildK_lin (P := P) (t := t) (parts := parts.toList.map fun p : Nat × Operand => (p.1, E p.2)) hk)
  case buildSlice t len parts => exact eff rfl (fun _ _ h => by cases h) (buildSliceK_lin hk)
  case load t x =>
    obtain ⟨v, g1, g2⟩ := loadK_lin hk
    exact ⟨v, h, g1, fun K' h => g2 _ h, (fun h => by cases h), fun _ => rfl⟩
  case store t x y =>
    obtain ⟨h', g1, g2⟩ := storeK_lin hk
    exact eff rfl (fun _ _ h => by cases h) ⟨undef, h', g1, fun K' h => g2 _ h⟩
  case nilCheck x => exact pure (nilK (E x)) (fun _ _ => rfl) (nilK_lin hk)
  case binOp op t x y t2 => exact pure (binK P op t (E x) (E y)) (fun _ _ => rfl) (binK_lin hk)
  case unOp op t x => exact pure (unK op (E x)) (fun _ _ => rfl) (unK_lin hk)
  case convert s d x => exact pure (convK P s d (E x)) (fun _ _ => rfl) (convK_lin hk)
  case makeFunc fn first captured =>
    cases fn <;> try exact hk.elim
    rename_i f
    exact pure (fun K => K (.func (.func f) (first.map E) (captured.map E))) (fun _ _ => rfl) ⟨_, hk, fun K' h => h⟩
  case makeSlice t l c => exact eff rfl (fun _ _ h => by cases h) (makeK_lin hk)
  case slice t x lo hi mx =>
    by_cases hc : lo = none ∧ hi = none ∧ mx = none ∧ ∃ n e, P.underlying t = some (.array n e)
    · obtain ⟨rfl, rfl, rfl, n, e, hu⟩ := hc
      simp only [aop, hu] at hk
      exact pure (arrSliceK P t (E x)) (fun h0 K' => by simp only [aop, hu]) (arrSliceK_lin hk)
    · have hs : ∀ (h0 : Heap) (K' : Value → Heap → Prop), aop P true (.slice t x lo hi mx) E h0 K' = sliceK P t (E x) (lo.map E) (hi.map E) (mx.map E) (fun v => K' v h0) := by
        intro h0 K'
        simp only [aop]
        split
        · rename_i n e hu; exact absurd ⟨rfl, rfl, rfl, n, e, hu⟩ hc
        · rfl
      rw [hs] at hk
      exact pure _ hs (sliceK_lin hk)
  case fieldAddr t x f => exact pure (fieldAddrK P t (E x) f) (fun _ _ => rfl) (fieldAddrK_lin hk)
  case field t x f => exact pure (fieldK P t (E x) f) (fun _ _ => rfl) (fieldK_lin hk)
  case indexAddr t x i => exact pure (idxAddrK P t (E x) (E i)) (fun _ _ => rfl) (idxAddrK_lin hk)
  case index t x i => exact pure (indexK P t (E x) (E i)) (fun _ _ => rfl) (indexK_lin hk)
  case extract x i => exact pure (extractK (E x) i) (fun _ _ => rfl) (extractK_lin hk)
  case call c =>
    obtain ⟨callee, args, ats⟩ := c
    cases callee with
    | builtin b =>
      obtain ⟨v, h', g1, g2, g3⟩ := builtinK_lin (show builtinK P b ats.toList (args.toList.map E) h K from hk)
      refine ⟨v, h', g1, fun K' h => g2 _ h, fun hw => ?_, fun ⟨t, x, he⟩ => by cases he⟩
      have hb : b = .len ∨ b = .max ∨ b = .min := by
        cases b <;> first | exact .inl rfl | exact .inr (.inl rfl) | exact .inr (.inr rfl) | cases hw
      obtain ⟨k1, k2⟩ := g3 hb
      exact ⟨k1, fun h0 K' h => k2 _ _ h⟩
    | value f =>
      refine eff rfl (fun _ _ h => by cases h) ?_
      simp only [aop, callK] at hk ⊢
      split at hk
      · obtain ⟨v, h', g1, g2⟩ := hk
        exact ⟨v, h', g2, fun K' h => ⟨v, h', g1, h⟩⟩
      · exact hk.elim
    | invoke r m => exact hk.elim
  all_goals exact hk.elim
end lin2
end Go.Am
