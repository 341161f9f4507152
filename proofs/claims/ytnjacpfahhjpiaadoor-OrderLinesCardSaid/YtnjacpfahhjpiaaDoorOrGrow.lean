/-
  order: the program's lines: the function literal that grows them.
-/
import Derived.Test.YtnjacpfahhjpiaaDoorOrLines
set_option linter.all false
namespace Go.Proofs.Tryd.Am
open Go.Am Ord
set_option maxRecDepth 100000
set_option maxHeartbeats 1000000

/-- What one element adds. -/
def gF (o : List Int) (n left : Nat) (cur : List Int) (x : Nat) : List (List Int) :=
  if dn o x &&& left = 0 then behind (cur ++ [(x : Int)]) (lines (ab o) n (Am.bits (less left (2 ^ x)))) else []
theorem bits_nodup (s : Nat) : (Am.bits s).Nodup := List.nodup_range.filter _
theorem bits_erase {s x : Nat} : (Am.bits s).erase x = Am.bits (less s (2 ^ x)) := by
  rw [List.Nodup.erase_eq_filter (bits_nodup s), Am.bits, Am.bits, List.filter_filter]
  refine List.filter_congr fun j _ => ?_
  rw [less_testBit, Nat.testBit_two_pow]
  by_cases h : j = x
  · subst h; simp
  · simp [h, Ne.symm h]
theorem firsts_bits {o : List Int} (ho : ord o = true) {left : Nat} (hl : left < 2 ^ 63) : firsts (ab o) (Am.bits left) = (Am.bits left).filter fun x => decide (dn o x &&& left = 0) := by
  rw [firsts]
  refine List.filter_congr fun x hx => ?_
  rw [Bool.eq_iff_iff, List.all_eq_true, decide_eq_true_eq]
  constructor
  · intro h
    apply Nat.eq_of_testBit_eq
    intro j
    rw [Nat.testBit_and, Nat.zero_testBit, dn_bit' ho]
    cases hj : left.testBit j with
    | false => rw [Bool.and_false]
    | true =>
      have hj64 : j < 64 := by
        rcases Nat.lt_or_ge j 64 with h1 | h1
        · exact h1
        · rw [Nat.testBit_lt_two_pow (Nat.lt_of_lt_of_le hl (Nat.pow_le_pow_right (by decide) (by omega)))] at hj; cases hj
      have := h j (mem_bits.2 ⟨hj64, hj⟩)
      rw [Bool.not_eq_true'] at this
      rw [this]; rfl
  · intro h j hj
    have h1 : (dn o x &&& left).testBit j = false := by rw [h, Nat.zero_testBit]
    rw [Nat.testBit_and, dn_bit' ho, (mem_bits.1 hj).2, Bool.and_true] at h1
    rw [h1]; rfl
theorem gF_all {o : List Int} (ho : ord o = true) {n left : Nat} (hl : left < 2 ^ 63) (cur : List Int) : (Am.bits left).flatMap (gF o n left cur) = behind cur (lines (ab o) (n + 1) (Am.bits left)) := by
  have h1 : ∀ l : List Nat, l.flatMap (gF o n left cur) = (l.filter fun x => decide (dn o x &&& left = 0)).flatMap fun (x : Nat) => behind (cur ++ [(x : Int)]) (lines (ab o) n (Am.bits (less left (2 ^ x)))) := by
    intro l
    induction l with
    | nil => rfl
    | cons x l ih =>
      rw [List.flatMap_cons, ih, List.filter_cons, gF]
      by_cases hx : dn o x &&& left = 0
      · rw [if_pos hx, if_pos (by simpa using hx), List.flatMap_cons]
      · rw [if_neg hx, if_neg (by simpa using hx), List.nil_append]
  rw [h1, lines, firsts_bits ho hl, behind, List.map_flatMap]
  congr 1
  funext x
  rw [behind, List.map_map, bits_erase]
  exact List.map_congr_left fun l _ => by simp [castN]

/-- A copy, told in full. -/
theorem clone_det [Tabs prog] {h : Heap} {v : Value} {xs : List Int} (hv : IntSl h v xs) (hx : xs ≠ []) (hl : xs.length < 1099511627776) : ADet prog 66 [v] h (.slice (some ⟨h.length + 1, 0, some 0⟩) xs.length xs.length) (h ++ [.ints [] 3 false] ++ [.ints xs 3 false]) := by
  refine s66_call (by simp) ?_
  have hv' := hv
  rcases hv with ⟨rfl, rfl⟩ | ⟨b, o, sp, cap, c, e, ro, rfl, hc, hb, _⟩
  · exact absurd rfl hx
  · simp (config := {maxSteps := 2000000}) only [s66, ↓aw_region, ↓aw_skip, ↓aw_seq, ↓aw_block, ↓aw_exit, ↓aw_ret, ↓sops_nil, ↓sops_go, ↓dops_nil, ↓dopsX_nil, ↓dopsR_nil, ↓vdn, vup, extr_20, extr_21, extr_30, extr_31, extr_32, List.map_cons, List.map_nil, cond_true, cond_false, aop, aThen, aBlock, argEnv, ev, sput, sputO, binK, binI, unK, builtinK, pickK, Nat.reduceBEq, Nat.reduceAdd, Int.reduceBEq, Int.reduceBNe, Int.reduceLT, aPost, resK, tup, tyf, Option.isSome_some]
    simp only [buildSliceK, el_22, zero_3, esz_3, reps, fillL, mkb, intsOf]
    refine And.intro rfl (And.intro Nat.zero_lt_one (And.intro (Nat.zero_le _) ?_))
    refine (hv'.grow [.ints [] 3 false]).copyOwn hx app_22_22 hl (by rw [List.getElem?_append_right (Nat.le_refl _)]; simp) ?_
    exact ⟨by simp, rfl⟩

/-- The search under way: the blocks I lie as in h0; the boxes hold the lines found, and the line that grows. -/
structure LS (I : Nat → Prop) (h0 : Heap) (bo bl : Nat) (h : Heap) (ov lv : Value) (Ls : List (List Int)) (cur : List Int) : Prop where
  len : h0.length ≤ h.length
  keep : ∀ i, I i → h[i]? = h0[i]?
  low : ∀ i, I i → i < h0.length
  o : h[bo]? = some (.cells [ov] 45 false)
  l : h[bl]? = some (.cells [lv] 22 false)
  ne : bo ≠ bl
  no : ¬ I bo
  nl : ¬ I bl
  own : OwnSl 3 h lv cur
  out : ∃ ws, OwnV 22 h ov ws ∧ Each (OwnSl 3 h) ws Ls ∧ ∀ w ∈ ws, ∀ b, blkOf w = some b → blkOf lv ≠ some b
  apo : ∀ b, blkOf ov = some b → ¬ I b ∧ b ≠ bo ∧ b ≠ bl
  apl : ∀ b, blkOf lv = some b → ¬ I b
/-- What a run may touch. -/
def gS (bo bl : Nat) (ov lv : Value) (i : Nat) : Prop := i = bo ∨ i = bl ∨ blkOf ov = some i ∨ blkOf lv = some i
theorem own_ints {e : TypeId} {h : Heap} {v : Value} {xs : List Int} (ho : OwnSl e h v xs) {b : Nat} (hb : blkOf v = some b) : ∃ ys e, h[b]? = some (.ints ys e false) := by
  obtain ⟨ys, hy⟩ := ho.ints hb; exact ⟨ys, e, hy⟩
section
variable {I : Nat → Prop} {h0 h h' h1 : Heap} {bo bl : Nat} {ov lv ov' lv' : Value} {Ls : List (List Int)} {cur cur' : List Int}
theorem LS.ext {S : Nat → Prop} (s : LS I h0 bo bl h ov lv Ls cur) (hx : Ext S h h') (h1 : ∀ i, I i → ¬ S i) (h2 : ¬ S bo) (h3 : ¬ S bl) (h4 : ∀ b, blkOf ov = some b → ¬ S b) (h5 : ∀ b ys e, h[b]? = some (.ints ys e false) → ¬ S b) : LS I h0 bo bl h' ov lv Ls cur where
  len := Nat.le_trans s.len hx.1
  keep i hi := (hx.2 i (Nat.lt_of_lt_of_le (s.low i hi) s.len) (h1 i hi)).trans (s.keep i hi)
  low := s.low
  o := (hx.2 bo (get_lt s.o) h2).trans s.o
  l := (hx.2 bl (get_lt s.l) h3).trans s.l
  ne := s.ne
  no := s.no
  nl := s.nl
  own := s.own.same fun b hb => by
    obtain ⟨ys, e, hy⟩ := own_ints s.own hb
    exact hx.2 b (get_lt hy) (h5 b ys e hy)
  out := by
    obtain ⟨ws, g1, g2, g3⟩ := s.out
    exact ⟨ws, g1.same fun b hb => hx.2 b (g1.lt hb) (h4 b hb), g2.imp fun w l hw => hw.same fun b hb => by
      obtain ⟨ys, e, hy⟩ := own_ints hw hb
      exact hx.2 b (get_lt hy) (h5 b ys e hy), g3⟩
  apo := s.apo
  apl := s.apl
theorem LS.app (s : LS I h0 bo bl h ov lv Ls cur) (g : Heap) : LS I h0 bo bl (h ++ g) ov lv Ls cur :=
  s.ext (S := fun _ => False) (Ext.app _ _ _) (fun _ _ h => h) (fun h => h) (fun h => h) (fun _ _ h => h) (fun _ _ _ _ h => h)
/-- A new list in l's box. -/
theorem LS.storeL (s : LS I h0 bo bl h ov lv Ls cur) (hx : Ext (fun i => blkOf lv = some i) h h1) (ho : OwnSl 3 h1 lv' cur') (hb : blkOf lv' = blkOf lv ∨ ∃ b, blkOf lv' = some b ∧ h.length ≤ b) :
    LS I h0 bo bl (h1.set bl (.cells [lv'] 22 false)) ov lv' Ls cur' where
  len := by have := s.len; have := hx.1; simp; omega
  keep i hi := by
    have hl := Nat.lt_of_lt_of_le (s.low i hi) s.len
    rw [List.getElem?_set_ne (fun h => s.nl (by rw [h]; exact hi)), hx.2 i hl (fun h => s.apl i h hi)]
    exact s.keep i hi
  low := s.low
  o := by
    rw [List.getElem?_set_ne (Ne.symm s.ne), hx.2 _ (get_lt s.o) (s.own.notCells s.o)]; exact s.o
  l := get_set (Nat.lt_of_lt_of_le (get_lt s.l) hx.1) _
  ne := s.ne
  no := s.no
  nl := s.nl
  own := ho.ext (S := fun i => i = bl) (Ext.set _ rfl) fun b hbb => by
    rintro rfl
    rcases hb with h | ⟨b', h, hl⟩
    · exact s.own.notCells s.l (h ▸ hbb)
    · rw [h] at hbb; cases hbb; have := get_lt s.l; omega
  out := by
    obtain ⟨ws, g1, g2, g3⟩ := s.out
    refine ⟨ws, g1.same fun b hbb => ?_, ?_, fun w hw b hbw hbl => ?_⟩
    · obtain ⟨c, hc⟩ := g1.blk hbb
      rw [List.getElem?_set_ne (Ne.symm (s.apo b hbb).2.2), hx.2 b (get_lt hc) (s.own.notCells hc)]
    · have key : ∀ {ws : List Value} {Ls : List (List Int)}, Each (OwnSl 3 h) ws Ls → (∀ w ∈ ws, ∀ b, blkOf w = some b → blkOf lv ≠ some b) → Each (OwnSl 3 (h1.set bl (.cells [lv'] 22 false))) ws Ls := by
        intro ws
        induction ws with
        | nil => intro Ls hE _; cases Ls <;> first | exact hE | exact hE.elim
        | cons w ws ih =>
          intro Ls hE hd
          cases Ls with
          | nil => exact hE.elim
          | cons l Ls =>
            refine ⟨hE.1.same fun b hbb => ?_, ih hE.2 fun w hw => hd w (by simp [hw])⟩
            obtain ⟨ys, hy⟩ := hE.1.ints hbb
            have hne : bl ≠ b := fun he => by subst he; rw [s.l] at hy; cases hy
            rw [List.getElem?_set_ne hne, hx.2 b (get_lt hy) (hd w (by simp) b hbb)]
      exact key g2 g3
    · rcases hb with h | ⟨b', h, hl⟩
      · exact g3 w hw b hbw (h ▸ hbl)
      · rw [h] at hbl; cases hbl
        obtain ⟨l, hwl⟩ := g2.mem w hw
        have := hwl.lt hbw; omega
  apo := s.apo
  apl b hbb := by
    rcases hb with h | ⟨b', h, hl⟩
    · exact s.apl b (h ▸ hbb)
    · rw [h] at hbb; cases hbb
      exact fun hi => by have := s.low _ hi; have := s.len; omega
/-- One line more, a copy that nobody else holds. -/
theorem LS.storeO {l : List Int} {w : Value} {ws : List Value} (s : LS I h0 bo bl h ov lv Ls cur) (g1 : OwnV 22 h ov ws) (g2 : Each (OwnSl 3 h) ws Ls) (g3 : ∀ w ∈ ws, ∀ b, blkOf w = some b → blkOf lv ≠ some b)
    (hw : OwnSl 3 h w l) (hwl : ∀ b, blkOf w = some b → blkOf lv ≠ some b)
    (hx : Ext (fun i => blkOf ov = some i) h h1) (ho : OwnV 22 h1 ov' (ws ++ [w])) (hb : blkOf ov' = blkOf ov ∨ ∃ b, blkOf ov' = some b ∧ h.length ≤ b) :
    LS I h0 bo bl (h1.set bo (.cells [ov'] 45 false)) ov' lv (Ls ++ [l]) cur := by
  have ints : ∀ {v : Value} {xs : List Int}, OwnSl 3 h v xs → OwnSl 3 (h1.set bo (.cells [ov'] 45 false)) v xs := fun {v xs} hv => hv.same fun b hbb => by
    obtain ⟨ys, hy⟩ := hv.ints hbb
    have hne : bo ≠ b := fun he => by subst he; rw [s.o] at hy; cases hy
    rw [List.getElem?_set_ne hne, hx.2 b (get_lt hy) fun h2 => by
      obtain ⟨c, hc⟩ := g1.blk h2
      rw [hc] at hy; cases hy]
  refine ⟨by have := s.len; have := hx.1; simp; omega, fun i hi => ?_, s.low, get_set (Nat.lt_of_lt_of_le (get_lt s.o) hx.1) _, ?_, s.ne, s.no, s.nl, ints s.own, ⟨ws ++ [w], ?_, ?_, ?_⟩, fun b hbb => ?_, s.apl⟩
  · have hl := Nat.lt_of_lt_of_le (s.low i hi) s.len
    rw [List.getElem?_set_ne (fun h => s.no (by rw [h]; exact hi)), hx.2 i hl (fun h => (s.apo i h).1 hi)]
    exact s.keep i hi
  · rw [List.getElem?_set_ne s.ne, hx.2 _ (get_lt s.l) (fun h => (s.apo _ h).2.2 rfl)]; exact s.l
  · refine ho.same fun b hbb => List.getElem?_set_ne fun he => ?_
    rcases hb with h | ⟨b', h, hl⟩
    · exact (s.apo b (h ▸ hbb)).2.1 he.symm
    · rw [h] at hbb; cases hbb; have := get_lt s.o; omega
  · exact (g2.imp fun w l hw => ints hw).app ⟨ints hw, trivial⟩
  · intro w' hw' b hbw
    rcases List.mem_append.1 hw' with h | h
    · exact g3 w' h b hbw
    · rw [List.mem_singleton.1 h] at hbw; exact hwl b hbw
  · rcases hb with h | ⟨b', h, hl⟩
    · exact s.apo b (h ▸ hbb)
    · rw [h] at hbb; cases hbb
      have h1 := get_lt s.o
      have h2 := get_lt s.l
      exact ⟨fun hi => by have := s.low _ hi; have := s.len; omega, by omega, by omega⟩
end

/-- A run of the function literal under way: its box (left) stands at the end of the heap h that it found. -/
structure LR (I : Nat → Prop) (h0 : Heap) (bo bl : Nat) (h : Heap) (ov0 lv0 : Value) (left : Nat) (h' : Heap) (ov lv : Value) (Ls : List (List Int)) (cur : List Int) : Prop where
  gs : LS I h0 bo bl h' ov lv Ls cur
  low : h0.length ≤ h.length
  lto : bo < h.length
  ltl : bl < h.length
  bx : h'[h.length]? = some (.cells [vint left] 3 false)
  nbx : ∀ b, blkOf ov = some b → b ≠ h.length
  ext : Ext (gS bo bl ov0 lv0) h h'
  blko : blkOf ov = blkOf ov0 ∨ ∃ b, blkOf ov = some b ∧ h.length ≤ b
  blkl : blkOf lv = blkOf lv0 ∨ ∃ b, blkOf lv = some b ∧ h.length ≤ b
section
variable {I : Nat → Prop} {h0 h h' h1 : Heap} {bo bl left : Nat} {ov0 lv0 ov lv ov' lv' : Value} {Ls Ls' : List (List Int)} {cur cur' : List Int}
theorem LR.of (s : LS I h0 bo bl h ov lv Ls cur) : LR I h0 bo bl h ov lv left (h ++ [.cells [vint left] 3 false]) ov lv Ls cur where
  gs := s.app _
  low := s.len
  lto := get_lt s.o
  ltl := get_lt s.l
  bx := by simp
  nbx b hb := by
    obtain ⟨ws, g1, _⟩ := s.out
    have := g1.lt hb; omega
  ext := Ext.app _ _ _
  blko := .inl rfl
  blkl := .inl rfl
theorem LR.go (s : LR I h0 bo bl h ov0 lv0 left h' ov lv Ls cur) (g : LS I h0 bo bl h1 ov' lv' Ls' cur') (hx : Ext (gS bo bl ov lv) h' h1) (hbo : blkOf ov' = blkOf ov ∨ ∃ b, blkOf ov' = some b ∧ h'.length ≤ b) (hbl : blkOf lv' = blkOf lv ∨ ∃ b, blkOf lv' = some b ∧ h'.length ≤ b) :
    LR I h0 bo bl h ov0 lv0 left h1 ov' lv' Ls' cur' where
  gs := g
  low := s.low
  lto := s.lto
  ltl := s.ltl
  bx := by
    rw [hx.2 _ (get_lt s.bx) ?_]
    · exact s.bx
    · rintro (h | h | h | h)
      · have := s.lto; omega
      · have := s.ltl; omega
      · exact s.nbx _ h rfl
      · exact s.gs.own.notCells s.bx h
  nbx b hb := by
    rcases hbo with h | ⟨b', h, h2⟩
    · exact s.nbx b (h ▸ hb)
    · rw [h] at hb; cases hb; have := get_lt s.bx; omega
  ext := ⟨Nat.le_trans s.ext.1 hx.1, fun i hi hs => by
    rw [hx.2 i (Nat.lt_of_lt_of_le hi s.ext.1), s.ext.2 i hi hs]
    rintro (h | h | h | h)
    · exact hs (.inl h)
    · exact hs (.inr (.inl h))
    · rcases s.blko with h2 | ⟨b, h2, h3⟩
      · exact hs (.inr (.inr (.inl (h2 ▸ h))))
      · rw [h2] at h; cases h; omega
    · rcases s.blkl with h2 | ⟨b, h2, h3⟩
      · exact hs (.inr (.inr (.inr (h2 ▸ h))))
      · rw [h2] at h; cases h; omega⟩
  blko := by
    have := s.ext.1
    rcases hbo with h | ⟨b, h, h2⟩
    · rw [h]; exact s.blko
    · exact .inr ⟨b, h, by omega⟩
  blkl := by
    have := s.ext.1
    rcases hbl with h | ⟨b, h, h2⟩
    · rw [h]; exact s.blkl
    · exact .inr ⟨b, h, by omega⟩
theorem LR.app (s : LR I h0 bo bl h ov0 lv0 left h' ov lv Ls cur) (g : Heap) : LR I h0 bo bl h ov0 lv0 left (h' ++ g) ov lv Ls cur := s.go (s.gs.app g) (Ext.app _ _ _) (.inl rfl) (.inl rfl)
/-- A block of no concern turns. -/
theorem LR.else (s : LR I h0 bo bl h ov0 lv0 left h' ov lv Ls cur) {j : Nat} {B : Blk} (hj : h.length < j) (ho : blkOf ov ≠ some j) (hc : ∀ ys e, h'[j]? ≠ some (.ints ys e false)) : LR I h0 bo bl h ov0 lv0 left (h'.set j B) ov lv Ls cur := by
  have hlen := s.low
  have hext := s.ext.1
  have hx : Ext (fun i => i = j) h' (h'.set j B) := Ext.set _ rfl
  have hbo := s.lto
  have hbl := s.ltl
  refine ⟨s.gs.ext hx (fun i hi he => by have := s.gs.low i hi; omega) (by omega) (by omega) (fun b hb he => ho (he ▸ hb)) (fun b ys e hy he => hc ys e (he ▸ hy)), s.low, s.lto, s.ltl, by rw [List.getElem?_set_ne (by omega)]; exact s.bx, s.nbx, ?_, s.blko, s.blkl⟩
  exact ⟨by simp; exact hext, fun i hi hs => by rw [List.getElem?_set_ne (by omega)]; exact s.ext.2 i hi hs⟩
theorem LR.box (s : LR I h0 bo bl h ov0 lv0 left h' ov lv Ls cur) {i : Nat} {B : Blk} (hi : I i) (hb : h0[i]? = some B) : h'[i]? = some B := (s.gs.keep i hi).trans hb
end
end Go.Proofs.Tryd.Am
