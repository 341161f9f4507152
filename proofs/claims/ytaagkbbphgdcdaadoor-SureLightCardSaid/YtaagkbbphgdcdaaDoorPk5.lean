/-
  The abstract machine, part Y f: a whole slice of pairs behind one that a run owns.
-/
import Derived.Test.YtaagkbbphgdcdaaDoorPk4
set_option linter.all false
namespace Go.Am
section
variable {P : Program} {e : TypeId} {h : Zh} {v w : Value} {ps zs : List (Int × Int)}
theorem OwnP.app {t t2 : TypeId} (ho : OwnP e h v ps) (hw : PairSl h w zs) (hz : zs ≠ []) (hT : appT P t t2 = some (e, 2, 16)) (hn : ps.length + zs.length < 1099511627776) {K : Value → Zh → Prop}
    (hk : ∀ v' h', OwnP e h' v' (ps ++ zs) → Ext (fun i => Ye v = some i) h h' → K v' h') : Yn P h t t2 v w K := by
  have hpos : 0 < zs.length := List.length_pos_iff.2 hz
  have hone : ((Yg zs).map Zd).all one = true := by rw [List.all_eq_true]; intro x hx; obtain ⟨y, _, rfl⟩ := List.mem_map.1 hx; rfl
  have l1 := Xz ps
  have l2 := Xz zs
  have hgo : putK h e 2 16 v zs.length ((Yg zs).map Zd) K := by
    rcases ho with ⟨rfl, rfl⟩ | ⟨b, ys, rfl, hb⟩
    · simp only [putK]
      refine ⟨fun h => by omega, fun _ => ⟨by simp at hn; omega, hk _ _ (.inr ⟨h.length, [], by simp, ?_⟩) (Ext.app _ _ _)⟩⟩
      rw [Yq, mkb, intsOf_map']; simp [Yg]
    · have l3 := Xz ys
      simp only [putK, hb, intsOf_map']
      refine ⟨fun hroom => ⟨fun h => by omega, fun _ => ⟨hone, by simp only [List.length_append]; omega, ?_⟩⟩, fun hroom => ⟨by omega, trivial, hone, by simp [view, hb, Blk.view], ?_⟩⟩
      · refine hk _ _ (.inr ⟨b, ys.drop zs.length, by simp; omega, ?_⟩) (Ext.set _ rfl)
        have e1 : Yb (Yg ps ++ Yg ys) (0 + ps.length * 2) (Yg zs) = Yg ps ++ Yg zs ++ (Yg ys).drop (zs.length * 2) := by
          rw [Yb, Nat.zero_add, show ps.length * 2 = (Yg ps).length by omega, List.take_left, List.drop_append, List.drop_eq_nil_of_le (by omega), List.nil_append, Nat.add_sub_cancel_left, show (Yg zs).length = zs.length * 2 by omega]
        have e2 : ∀ (l : List (Int × Int)) (k : Nat), Yg (l.drop k) = (Yg l).drop (k * 2) := by
          intro l
          induction l with
          | nil => intro k; simp [Yg]
          | cons p l ih =>
            intro k
            cases k with
            | zero => rfl
            | succ k =>
              have : Yg (p :: l) = p.1 :: p.2 :: Yg l := rfl
              rw [List.drop_succ_cons, ih, this, show (k + 1) * 2 = k * 2 + 1 + 1 by omega]; rfl
        rw [Wx (Yr hb), e1, flatP_app, e2]
      · simp only [Xj, hb]
        refine ⟨by simp only [List.length_append]; omega, hk _ _ (.inr ⟨h.length, [], by simp, ?_⟩) ((Ext.set (S := fun i => Ye (.slice (some ⟨b, 0, some 0⟩) ps.length (ps.length + ys.length)) = some i) .dead rfl).trans (Ext.app _ _ _))⟩
        rw [List.getElem?_append_right (by simp)]
        have : Xc (List.map Zd (List.take (ps.length * 2) (List.drop 0 (Yg ps ++ Yg ys))) ++ List.map Zd (Yg zs)) = some (Yg ps ++ Yg zs) := by
          rw [← List.map_append, List.drop_zero, show ps.length * 2 = (Yg ps).length by omega, List.take_left]; exact intsOf_map' _
        simp only [mkb, List.length_set, Nat.sub_self, List.getElem?_cons_zero, this, flatP_app]
        simp [Yg]
  simp only [Yn, hT]
  have hw' := hw
  rcases hw with ⟨_, h1⟩ | ⟨b, o, sp, cap, c, e', ro, rfl, hc, hb, _⟩
  · exact absurd h1 hz
  · exact ⟨fun h => absurd (List.length_eq_zero_iff.1 h) hz, fun _ => hw'.cells hz rfl hgo⟩
end
end Go.Am
