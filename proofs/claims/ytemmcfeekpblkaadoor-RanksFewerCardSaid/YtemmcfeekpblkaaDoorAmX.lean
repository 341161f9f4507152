/-
  The abstract machine, part X: slices of values of one cell each (slices of slices), read and owned.
-/
import Derived.Test.YtemmcfeekpblkaaDoorAmW
set_option linter.all false
namespace Go.Am

/-- No int of the common kind: a block that holds one is a block of cells. -/
def notI : Value → Bool
  | .int .i64 _ => false
  | _ => true
theorem intsOf_no {w : Value} {l : List Value} (hw : notI w = true) : intsOf (w :: l) = none := by
  cases w with
  | int k n => cases k <;> first | rfl | (simp [notI] at hw)
  | _ => rfl
theorem mkb_no {ws : List Value} {e : TypeId} (hne : ws ≠ []) (hw : ∀ w ∈ ws, notI w = true) : mkb ws e = .cells ws e false := by
  cases ws with
  | nil => exact absurd rfl hne
  | cons w l => rw [mkb, intsOf_no (hw w (by simp))]

/-- Each with its own. -/
def Each {α β : Type} (R : α → β → Prop) : List α → List β → Prop
  | [], [] => True
  | a :: as, b :: bs => R a b ∧ Each R as bs
  | _, _ => False
section
variable {α β : Type} {R S : α → β → Prop}
theorem Each.len : ∀ {as : List α} {bs : List β}, Each R as bs → as.length = bs.length
  | [], [], _ => rfl
  | _ :: _, _ :: _, h => by rw [List.length_cons, List.length_cons, Each.len h.2]
  | [], _ :: _, h => h.elim
  | _ :: _, [], h => h.elim
theorem Each.app : ∀ {as as' : List α} {bs bs' : List β}, Each R as bs → Each R as' bs' → Each R (as ++ as') (bs ++ bs')
  | [], _, [], _, _, h' => h'
  | _ :: _, _, _ :: _, _, h, h' => ⟨h.1, Each.app h.2 h'⟩
  | [], _, _ :: _, _, h, _ => h.elim
  | _ :: _, _, [], _, h, _ => h.elim
theorem Each.imp : ∀ {as : List α} {bs : List β}, Each R as bs → (∀ a b, R a b → S a b) → Each S as bs
  | [], [], _, _ => trivial
  | _ :: _, _ :: _, h, hi => ⟨hi _ _ h.1, Each.imp h.2 hi⟩
  | [], _ :: _, h, _ => h.elim
  | _ :: _, [], h, _ => h.elim
theorem Each.get (da : α) (db : β) : ∀ {as : List α} {bs : List β}, Each R as bs → ∀ {k}, k < bs.length → R (as.getD k da) (bs.getD k db)
  | [], [], _, k, hk => by simp at hk
  | _ :: _, _ :: _, h, 0, _ => h.1
  | _ :: _, _ :: _, h, k + 1, hk => by simpa using Each.get da db h.2 (k := k) (by simpa using hk)
  | [], _ :: _, h, _, _ => h.elim
  | _ :: _, [], h, _, _ => h.elim
theorem Each.mem : ∀ {as : List α} {bs : List β}, Each R as bs → ∀ a ∈ as, ∃ b, R a b
  | [], [], _, _, h => by cases h
  | _ :: _, _ :: _, h, a, ha => by
    rcases List.mem_cons.1 ha with rfl | ha
    · exact ⟨_, h.1⟩
    · exact Each.mem h.2 a ha
  | [], _ :: _, h, _, _ => h.elim
  | _ :: _, [], h, _, _ => h.elim
end

/-- The slice v holds these values, one cell each. -/
def ValSl (h : Heap) (v : Value) (ws : List Value) : Prop :=
  (v = .slice none 0 0 ∧ ws = []) ∨ ∃ b o sp cap c e ro, v = .slice (some ⟨b, o, sp⟩) ws.length cap ∧ ws.length ≤ cap ∧ view h b = some (c, e, ro) ∧ (c.drop o).take ws.length = ws
section
variable {P : Program} {h : Heap} {v : Value} {ws : List Value}
theorem ValSl.len (hv : ValSl h v ws) (K : Value → Prop) : lenK v K = K (vint ws.length) := by
  rcases hv with ⟨rfl, rfl⟩ | ⟨b, o, sp, cap, c, e, ro, rfl, _⟩ <;> rfl
theorem ValSl.idx (hv : ValSl h v ws) {t e : TypeId} (he : elemOf' P t = some e) (hs : esz P e = some 1) {k : IntKind} {i : Nat} (hi : i < ws.length) (K : Value → Prop) :
    idxAddrK P t v (.int k i) K = K (elemP v 1 i) := by
  rcases hv with ⟨rfl, rfl⟩ | ⟨b, o, sp, cap, c, e', ro, rfl, _⟩
  · simp at hi
  · simp only [idxAddrK, he, hs, elemP, Int.toNat_natCast, eq_iff_iff]
    exact ⟨fun h => h.2.2, fun h => ⟨by omega, by omega, h⟩⟩
theorem ValSl.load (hv : ValSl h v ws) {t : TypeId} (hs : shp P t = some none) {i : Nat} (hi : i < ws.length) (K : Value → Prop) : loadK P h t (elemP v 1 i) K = K (ws.getD i undef) := by
  rcases hv with ⟨rfl, rfl⟩ | ⟨b, o, sp, cap, c, e', ro, rfl, _, hvw, hc⟩
  · simp at hi
  · simp only [elemP, loadK, hs, Nat.mul_one]
    refine view_cell hvw ?_
    have h1 : ((c.drop o).take ws.length)[i]? = ws[i]? := by rw [hc]
    rw [List.getElem?_take_of_lt hi, List.getElem?_drop] at h1
    rw [h1, List.getD, List.getElem?_eq_getElem hi]; rfl
theorem ValSl.same {h' : Heap} (hv : ValSl h v ws) (hb : ∀ b, blkOf v = some b → h'[b]? = h[b]?) : ValSl h' v ws := by
  rcases hv with ⟨rfl, rfl⟩ | ⟨b, o, sp, cap, c, e, ro, rfl, hc, hw, hx⟩
  · exact .inl ⟨rfl, rfl⟩
  · exact .inr ⟨b, o, sp, cap, c, e, ro, rfl, hc, by rw [← hw]; simp only [view, hb b rfl], hx⟩
theorem ValSl.lt (hv : ValSl h v ws) {b : Nat} (hb : blkOf v = some b) : b < h.length := by
  rcases hv with ⟨rfl, rfl⟩ | ⟨b', o, sp, cap, c, e, ro, rfl, hc, hw, hx⟩
  · cases hb
  · cases hb; exact view_lt hw
theorem ValSl.ext {h' : Heap} (hv : ValSl h v ws) (he : Ext (fun _ => False) h h') : ValSl h' v ws := hv.same fun b hb => he.2 b (hv.lt hb) id
theorem ValSl.elems (hv : ValSl h v ws) {K : Nat → List Value → Prop} (hk : K ws.length ws) : elemsK h 1 v K := by
  rcases hv with ⟨rfl, rfl⟩ | ⟨b, o, sp, cap, c, e, ro, rfl, hc, hw, hx⟩
  · exact ⟨rfl, hk⟩
  · refine ⟨fun h0 => ?_, fun h0 => ?_⟩
    · obtain rfl : ws = [] := List.length_eq_zero_iff.1 h0
      exact hk
    · rw [view_cells hw, Nat.mul_one, hx]
      refine ⟨?_, hk⟩
      have := congrArg List.length hx
      rw [List.length_take, List.length_drop] at this
      omega
end

/-- The slice v of values that are no ints lies in a block of its own, from its beginning on. -/
def OwnV (e : TypeId) (h : Heap) (v : Value) (ws : List Value) : Prop :=
  (v = .slice none 0 0 ∧ ws = []) ∨ ∃ (b : Nat) (ys : List Value), v = .slice (some ⟨b, 0, some 0⟩) ws.length (ws.length + ys.length) ∧ ws ≠ [] ∧ h[b]? = some (.cells (ws ++ ys) e false)
section
variable {P : Program} {e : TypeId} {h : Heap} {v : Value} {ws : List Value}
theorem OwnV.val (ho : OwnV e h v ws) : ValSl h v ws := by
  rcases ho with ⟨rfl, rfl⟩ | ⟨b, ys, rfl, hne, hb⟩
  · exact .inl ⟨rfl, rfl⟩
  · exact .inr ⟨b, 0, some 0, _, ws ++ ys, e, false, rfl, by omega, by simp [view, hb, Blk.view], by simp⟩
theorem OwnV.same {h' : Heap} (ho : OwnV e h v ws) (hb : ∀ b, blkOf v = some b → h'[b]? = h[b]?) : OwnV e h' v ws := by
  rcases ho with ho | ⟨b, ys, rfl, hne, hb'⟩
  · exact .inl ho
  · exact .inr ⟨b, ys, rfl, hne, by rw [hb b rfl]; exact hb'⟩
theorem OwnV.lt (ho : OwnV e h v ws) {b : Nat} (hb : blkOf v = some b) : b < h.length := ho.val.lt hb
theorem OwnV.ext {h' : Heap} (ho : OwnV e h v ws) (he : Ext (fun _ => False) h h') : OwnV e h' v ws := ho.same fun b hb => he.2 b (ho.lt hb) id
theorem OwnV.blk (ho : OwnV e h v ws) {b : Nat} (hb : blkOf v = some b) : ∃ c, h[b]? = some (.cells c e false) := by
  rcases ho with ⟨rfl, rfl⟩ | ⟨b', ys, rfl, hne, hb'⟩
  · cases hb
  · cases hb; exact ⟨_, hb'⟩
/-- More at its end. -/
theorem OwnV.app {t t2 : TypeId} {bytes : Nat} {x : Value} {us : List Value} (ho : OwnV e h v ws) (hT : appT P t t2 = some (e, 1, bytes)) (hx : ValSl h x us) (hw : ∀ w ∈ ws ++ us, notI w = true ∧ one w = true) (hn : (ws.length + us.length) * bytes ≤ 140737488355328)
    {K : Value → Heap → Prop} (hk : ∀ v' h', OwnV e h' v' (ws ++ us) → Ext (fun i => blkOf v = some i) h h' → (blkOf v' = blkOf v ∨ ∃ b, blkOf v' = some b ∧ h.length ≤ b) → K v' h') :
    appendK P h t t2 v x K := by
  simp only [appendK, hT]
  refine hx.elems ?_
  have hu1 : us.all one = true := List.all_eq_true.2 fun w h => (hw w (by simp [h])).2
  rcases ho with ⟨rfl, rfl⟩ | ⟨b, ys, rfl, hne, hb⟩
  · simp only [putK]
    refine ⟨fun h0 => ?_, fun h0 => ⟨by simpa using hn, hk _ _ (.inr ⟨h.length, [], by simp, ?_, ?_⟩) (Ext.app _ _ _) (.inr ⟨_, rfl, Nat.le_refl _⟩)⟩⟩
    · obtain rfl : us = [] := List.length_eq_zero_iff.1 h0
      exact hk _ _ (.inl ⟨rfl, rfl⟩) (Ext.refl _ _) (.inl rfl)
    · intro h1; apply h0; rw [List.nil_append] at h1; rw [h1]; rfl
    · rw [List.getElem?_append_right (Nat.le_refl _), Nat.sub_self, List.getElem?_cons_zero, List.nil_append, List.append_nil, mkb_no (fun h1 => h0 (by rw [h1]; rfl)) (fun w h => (hw w (by simp [h])).1)]
  · simp only [putK, hb]
    refine ⟨fun hroom => ⟨fun h0 => ?_, fun h0 => ⟨hu1, ?_, ?_⟩⟩, fun hroom => ⟨hn, trivial, hu1, by simp [view, hb, Blk.view], ?_⟩⟩
    · obtain rfl : us = [] := List.length_eq_zero_iff.1 h0
      exact hk _ _ (.inr ⟨b, ys, by simp, by simpa using hne, by simpa using hb⟩) (Ext.refl _ _) (.inl rfl)
    · simp only [List.length_append]; omega
    · refine hk _ _ (.inr ⟨b, ys.drop us.length, ?_, by simp [hne], ?_⟩) (Ext.set _ rfl) (.inl rfl)
      · simp only [List.length_append, List.length_drop]
        have : ws.length + us.length + (ys.length - us.length) = ws.length + ys.length := by omega
        rw [this]
      · rw [List.getElem?_set_self (List.getElem?_eq_some_iff.1 hb).1]
        simp [splice, List.drop_append]
    · rw [view_cells (c := ws ++ ys) (e := e) (ro := false) (by simp [view, hb, Blk.view])]
      have e1 : List.take (ws.length * 1) (List.drop 0 (ws ++ ys)) = ws := by simp
      refine ⟨by simp, ?_⟩
      rw [e1, mkb_no (by simp [hne]) (fun w h => (hw w h).1)]
      refine hk _ _ (.inr ⟨h.length, [], by simp, by simp [hne], ?_⟩) ?_ (.inr ⟨_, rfl, Nat.le_refl _⟩)
      · rw [List.getElem?_append_right (by simp)]
        simp
      · exact (Ext.set (S := fun i => blkOf (.slice (some ⟨b, 0, some 0⟩) ws.length (ws.length + ys.length)) = some i) .dead rfl).trans (Ext.app _ _ _)
end

/-- A slice of slices of ints, all the run's own. -/
def OwnL (e e2 : TypeId) (h : Heap) (v : Value) (Ls : List (List Int)) : Prop := ∃ ws, OwnV e h v ws ∧ Each (OwnSl e2 h) ws Ls
section
variable {P : Program} {e e2 : TypeId} {h : Heap} {v : Value} {Ls : List (List Int)}
theorem OwnSl.notI {h : Heap} {v : Value} {xs : List Int} (ho : OwnSl e h v xs) : Am.notI v = true ∧ Am.one v = true := by
  rcases ho with ⟨rfl, rfl⟩ | ⟨b, ys, rfl, _⟩ <;> exact ⟨rfl, rfl⟩
theorem OwnSl.ints {h : Heap} {v : Value} {xs : List Int} (ho : OwnSl e h v xs) {b : Nat} (hb : blkOf v = some b) : ∃ ys, h[b]? = some (.ints ys e false) := by
  rcases ho with ⟨rfl, rfl⟩ | ⟨b', ys, rfl, hb'⟩
  · cases hb
  · cases hb; exact ⟨_, hb'⟩
theorem OwnSl.same {h h' : Heap} {v : Value} {xs : List Int} (ho : OwnSl e h v xs) (hb : ∀ b, blkOf v = some b → h'[b]? = h[b]?) : OwnSl e h' v xs := by
  rcases ho with ho | ⟨b, ys, rfl, hb'⟩
  · exact .inl ho
  · exact .inr ⟨b, ys, rfl, by rw [hb b rfl]; exact hb'⟩
theorem OwnL.nil : OwnL e e2 h (.slice none 0 0) [] := ⟨[], .inl ⟨rfl, rfl⟩, trivial⟩
theorem OwnL.ext {h' : Heap} (ho : OwnL e e2 h v Ls) (he : Ext (fun _ => False) h h') : OwnL e e2 h' v Ls := by
  obtain ⟨ws, h1, h2⟩ := ho
  exact ⟨ws, h1.ext he, h2.imp fun w l hw => hw.same fun b hb => he.2 b (hw.lt hb) id⟩
theorem OwnL.lt (ho : OwnL e e2 h v Ls) {b : Nat} (hb : blkOf v = some b) : b < h.length := by
  obtain ⟨ws, h1, _⟩ := ho; exact h1.lt hb
theorem OwnL.len (ho : OwnL e e2 h v Ls) (K : Value → Prop) : lenK v K = K (vint Ls.length) := by
  obtain ⟨ws, h1, h2⟩ := ho
  rw [h1.val.len, h2.len]
/-- Some more slices, at its end. -/
theorem OwnL.app {t t2 : TypeId} {bytes : Nat} {x : Value} {Ms : List (List Int)} {us : List Value} (ho : OwnL e e2 h v Ls) (hT : appT P t t2 = some (e, 1, bytes)) (hx : ValSl h x us) (hu : Each (OwnSl e2 h) us Ms) (hn : (Ls.length + Ms.length) * bytes ≤ 140737488355328)
    {K : Value → Heap → Prop} (hk : ∀ v' h', OwnL e e2 h' v' (Ls ++ Ms) → Ext (fun i => blkOf v = some i) h h' → (blkOf v' = blkOf v ∨ ∃ b, blkOf v' = some b ∧ h.length ≤ b) → K v' h') :
    appendK P h t t2 v x K := by
  obtain ⟨ws, h1, h2⟩ := ho
  have hall := h2.app hu
  refine h1.app hT hx (fun w hw => by obtain ⟨l, hl⟩ := hall.mem w hw; exact hl.notI) (by rw [h2.len, hu.len]; exact hn) fun v' h' ho' hE hb => hk v' h' ⟨_, ho', hall.imp fun w l hw => hw.same fun b hb2 => ?_⟩ hE hb
  refine hE.2 b (hw.lt hb2) fun hb3 => ?_
  obtain ⟨c, hc⟩ := h1.blk hb3
  obtain ⟨ys, hy⟩ := hw.ints hb2
  rw [hc] at hy; cases hy
theorem OwnL.idx (ho : OwnL e e2 h v Ls) {t e' : TypeId} (he : elemOf' P t = some e') (hs : esz P e' = some 1) {k : IntKind} {i : Nat} (hi : i < Ls.length) (K : Value → Prop) : idxAddrK P t v (.int k i) K = K (elemP v 1 i) := by
  obtain ⟨ws, h1, h2⟩ := ho
  exact h1.val.idx he hs (by rw [h2.len]; exact hi) K
theorem OwnL.load (ho : OwnL e e2 h v Ls) {t : TypeId} (hs : shp P t = some none) {i : Nat} (hi : i < Ls.length) : ∃ w, OwnSl e2 h w (Ls.getD i []) ∧ ∀ K : Value → Prop, loadK P h t (elemP v 1 i) K = K w := by
  obtain ⟨ws, h1, h2⟩ := ho
  exact ⟨ws.getD i undef, h2.get undef [] hi, fun K => h1.val.load hs (by rw [h2.len]; exact hi) K⟩
/-- One slice alone. -/
theorem OwnL.single {w : Value} {l : List Int} (hw : OwnSl e2 h w l) : Each (OwnSl e2 (h ++ [.cells [w] e false])) [w] [l] :=
  ⟨hw.same fun b hb => by rw [List.getElem?_append_left (hw.lt hb)], trivial⟩
end

/-- Cut to its length by force, then one more: a new block. -/
theorem OwnSl.cap {P : Program} {e : TypeId} {h : Heap} {v : Value} {xs : List Int} {t : TypeId} (ho : OwnSl e h v xs) (he : elemOf' P t = some e) (hs : esz P e = some 1) {K : Value → Prop}
    (hk : ∀ v', (v' = .slice none 0 0 ∧ xs = []) ∨ (∃ (b : Nat) (ys : List Int), v' = .slice (some ⟨b, 0, none⟩) xs.length xs.length ∧ h[b]? = some (.ints (xs ++ ys) e false)) → K v') :
    sliceK P t v none (some (vint xs.length)) (some (vint xs.length)) K := by
  rcases ho with ⟨rfl, rfl⟩ | ⟨b, ys, rfl, hb⟩
  · simp only [sliceK, he, hs, bnd, Option.bind_some, Option.isSome_some]
    exact ⟨trivial, rfl, rfl, rfl, hk _ (.inl ⟨rfl, rfl⟩)⟩
  · simp only [sliceK, he, hs, bnd]
    refine ⟨Int.le_refl _, by omega, by omega, by omega, rfl, ?_⟩
    have h1 : (if (xs.length : Int) = ((0 : Nat) : Int) then 0 else 0 + (((0 : Nat) : Int)).toNat * 1) = 0 := by split <;> rfl
    have h2 : ((xs.length : Int) - ((0 : Nat) : Int)).toNat = xs.length := by omega
    have h3 : (xs.length : Int).toNat - ((0 : Nat) : Int).toNat = xs.length := by simp
    rw [h1, h2, h3]
    exact hk _ (.inr ⟨b, ys, rfl, hb⟩)
theorem capApp {P : Program} {e : TypeId} {h : Heap} {v : Value} {xs : List Int} {x : Int} {t t2 : TypeId} {b2 c2 : Nat} {c : Bool} (ho : (v = .slice none 0 0 ∧ xs = []) ∨ (∃ (b : Nat) (ys : List Int), v = .slice (some ⟨b, 0, none⟩) xs.length xs.length ∧ h[b]? = some (.ints (xs ++ ys) e false)))
    (hT : appT P t t2 = some (e, 1, 8)) (hn : xs.length < 1099511627776) (hb2 : h[b2]? = some (.ints [x] e c)) {K : Value → Heap → Prop}
    (hk : ∀ v', OwnSl e (h ++ [.ints (xs ++ [x]) e false]) v' (xs ++ [x]) → K v' (h ++ [.ints (xs ++ [x]) e false])) :
    appendK P h t t2 v (.slice (some ⟨b2, 0, none⟩) 1 c2) K := by
  simp only [appendK, hT, elemsK, cellsK, hb2]
  refine ⟨fun h => by omega, fun _ => ⟨by simp, ?_⟩⟩
  rcases ho with ⟨rfl, rfl⟩ | ⟨b, ys, rfl, hb⟩
  · simp only [putK]
    refine ⟨fun h => by omega, fun _ => ⟨by omega, hk _ (.inr ⟨h.length, [], rfl, ?_⟩)⟩⟩
    rw [List.getElem?_append_right (Nat.le_refl _)]
    simp
  · simp only [putK, hb]
    refine ⟨fun hroom => by omega, fun hroom => ⟨by omega, ?_⟩⟩
    simp only [cellsK, hb]
    refine ⟨by simp, ?_⟩
    have : intsOf (List.map vint (List.take (xs.length * 1) (List.drop 0 (xs ++ ys))) ++ List.map vint (List.take (1 * 1) (List.drop 0 [x]))) = some (xs ++ [x]) := by
      rw [← List.map_append]
      have h1 : List.take (xs.length * 1) (List.drop 0 (xs ++ ys)) = xs := by simp
      rw [h1]
      exact intsOf_map' _
    simp only [mkb, this]
    refine hk _ (.inr ⟨h.length, [], by simp, ?_⟩)
    rw [List.getElem?_append_right (Nat.le_refl _)]
    simp

/-- A slice of slices of ints, to be read. -/
def RdL (e2 : TypeId) (h : Heap) (v : Value) (Ls : List (List Int)) : Prop := ∃ ws, ValSl h v ws ∧ Each (OwnSl e2 h) ws Ls
section
variable {P : Program} {e e2 : TypeId} {h : Heap} {v : Value} {Ls : List (List Int)}
theorem OwnL.rd (ho : OwnL e e2 h v Ls) : RdL e2 h v Ls := by
  obtain ⟨ws, h1, h2⟩ := ho; exact ⟨ws, h1.val, h2⟩
theorem RdL.ext {h' : Heap} (ho : RdL e2 h v Ls) (he : Ext (fun _ => False) h h') : RdL e2 h' v Ls := by
  obtain ⟨ws, h1, h2⟩ := ho
  exact ⟨ws, h1.ext he, h2.imp fun w l hw => hw.same fun b hb => he.2 b (hw.lt hb) id⟩
theorem RdL.len (ho : RdL e2 h v Ls) (K : Value → Prop) : lenK v K = K (vint Ls.length) := by
  obtain ⟨ws, h1, h2⟩ := ho
  rw [h1.len, h2.len]
theorem RdL.idx (ho : RdL e2 h v Ls) {t e' : TypeId} (he : elemOf' P t = some e') (hs : esz P e' = some 1) {k : IntKind} {i : Nat} (hi : i < Ls.length) (K : Value → Prop) : idxAddrK P t v (.int k i) K = K (elemP v 1 i) := by
  obtain ⟨ws, h1, h2⟩ := ho
  exact h1.idx he hs (by rw [h2.len]; exact hi) K
theorem RdL.load (ho : RdL e2 h v Ls) {t : TypeId} (hs : shp P t = some none) {i : Nat} (hi : i < Ls.length) : ∃ w, OwnSl e2 h w (Ls.getD i []) ∧ ∀ K : Value → Prop, loadK P h t (elemP v 1 i) K = K w := by
  obtain ⟨ws, h1, h2⟩ := ho
  exact ⟨ws.getD i undef, h2.get undef [] hi, fun K => h1.load hs (by rw [h2.len]; exact hi) K⟩
/-- A slice written down, of one slice. -/
theorem RdL.lit {w : Value} {l : List Int} (hw : OwnSl e2 h w l) : RdL e2 (h ++ [.cells [w] e false]) (.slice (some ⟨h.length, 0, none⟩) 1 1) [l] :=
  ⟨[w], .inr ⟨h.length, 0, none, 1, [w], e, false, rfl, Nat.le_refl _, by simp [view, Blk.view], rfl⟩, OwnL.single hw⟩
theorem buildSl1 {w : Value} {t e : TypeId} (he : elemOf' P t = some e) (hz : zeroOf P e = some [.slice none 0 0]) (hs : esz P e = some 1) {xs : List Int} (hw : OwnSl e2 h w xs) {K : Value → Heap → Prop} :
    buildSliceK P h t 1 [(0, w)] K = K (.slice (some ⟨h.length, 0, none⟩) 1 1) (h ++ [.cells [w] e false]) := by
  have e1 : fillL (fun i => some (i * 1, 1)) (reps [.slice none 0 0] 1) [(0, w)] = some [w] := by
    rcases hw with ⟨rfl, rfl⟩ | ⟨b, ys, rfl, _⟩ <;> simp [fillL, notTuple, cellsOf, reps, splice]
  have e2 : mkb [w] e = .cells [w] e false := mkb_no (by simp) fun w' hw' => by
    rw [List.mem_singleton.1 hw']; exact hw.notI.1
  simp only [buildSliceK, he, hz, hs, e1, e2]
  exact propext ⟨fun h => h.2.2.2, fun h => ⟨rfl, by decide, by decide, h⟩⟩
theorem OwnL.appR {t t2 : TypeId} {bytes : Nat} {x : Value} {Ms : List (List Int)} (ho : OwnL e e2 h v Ls) (hT : appT P t t2 = some (e, 1, bytes)) (hx : RdL e2 h x Ms) (hn : (Ls.length + Ms.length) * bytes ≤ 140737488355328)
    {K : Value → Heap → Prop} (hk : ∀ v' h', OwnL e e2 h' v' (Ls ++ Ms) → Ext (fun i => blkOf v = some i) h h' → (blkOf v' = blkOf v ∨ ∃ b, blkOf v' = some b ∧ h.length ≤ b) → K v' h') :
    appendK P h t t2 v x K := by
  obtain ⟨us, h1, h2⟩ := hx
  exact ho.app hT h1 h2 hn hk
end
end Go.Am
