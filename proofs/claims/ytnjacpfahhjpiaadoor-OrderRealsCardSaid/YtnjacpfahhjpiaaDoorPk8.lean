/-
  order: the search for a realizer.
  order: the program's lines: the function literal that grows them.
  order: the function literal that grows the lines, walked.
  Printed by gen.py: the code of some functions, without what no step looks at; held against the program's own by the kernel.
  order: slices of pairs: copies, whether they are pairs of elements.
  order: Close.
  order: the reference's Close.
  order: the reference's Add; how many lines have one element before another one; the most even pair.
  order: the law OrderMakes.
  order: Lines, EqualFunc; the law OrderLines.
-/
import Derived.Test.YtnjacpfahhjpiaaDoorPk7
import Derived.Test.YtnjacpfahhjpiaaDoorPk6
import Derived.Test.YtnjacpfahhjpiaaDoorPk3
import Derived.Test.YtnjacpfahhjpiaaDoorProg
import Derived.KernelRfl
import Derived.Shelf.Abstract
import Derived.Test.YtnjacpfahhjpiaaDoorPk4
import Derived.Test.YtnjacpfahhjpiaaDoorPk5
set_option linter.all false
namespace Go.Proofs.Tryd.Am
open Go.Am Ord
set_option maxRecDepth 100000
set_option maxHeartbeats 4000000

/-! ### Plain -/
abbrev lin (o : List Int) (k : Nat) : List Nat := (Yy o).getD k []
theorem lin_mem {o : List Int} {k : Nat} (hk : k < cn o) : lin o k ∈ Yy o := by
  have hk' : k < (Yy o).length := by rw [Xp]; exact hk
  rw [lin, List.getD, List.getElem?_eq_getElem hk']; exact List.getElem_mem hk'
structure LinF (o : List Int) (l : List Nat) : Prop where
  pm : l.Perm (List.range o.length)
  nd : l.Nodup
  ab : ∀ i j, ab o i j = true → bef l i j = true
theorem Vb {o : List Int} (ho : ord o = true) {k : Nat} (hk : k < cn o) : LinF o (lin o k) := by
  obtain ⟨h1, h2⟩ := (mem_all ho).1 (lin_mem hk)
  have hn : (lin o k).Nodup := h1.nodup_iff.2 List.nodup_range
  refine ⟨h1, hn, fun i j hij => ?_⟩
  obtain ⟨hi, hj⟩ := ab_lt ho hij
  have hil : i ∈ lin o k := h1.mem_iff.2 (List.mem_range.2 hi)
  have hjl : j ∈ lin o k := h1.mem_iff.2 (List.mem_range.2 hj)
  have hne : i ≠ j := by rintro rfl; rw [(ord_po ho).irr] at hij; cases hij
  cases hb : bef (lin o k) i j with
  | true => rfl
  | false =>
    rw [bef_not hjl hil hne.symm] at hb
    have := (bef_pw hn).1 h2 j hjl i hil (by simpa using hb)
    rw [hij] at this; cases this
theorem mem_drop_idx {l : List Nat} (hn : l.Nodup) {m j : Nat} : j ∈ l.drop m ↔ j ∈ l ∧ m ≤ l.idxOf j := by
  constructor
  · intro h
    have hjl := List.mem_of_mem_drop h
    refine ⟨hjl, ?_⟩
    obtain ⟨a, ha, he⟩ := List.mem_iff_getElem.1 h
    rw [List.getElem_drop] at he
    rw [List.length_drop] at ha
    have := idx_at hn (k := m + a) (by omega)
    rw [getD_at (by omega), he] at this
    omega
  · rintro ⟨h1, h2⟩
    have h3 := List.idxOf_lt_length_of_mem h1
    have h4 := List.getElem_idxOf h3
    rw [List.mem_iff_getElem]
    refine ⟨l.idxOf j - m, by rw [List.length_drop]; omega, ?_⟩
    rw [List.getElem_drop]
    have : m + (l.idxOf j - m) = l.idxOf j := by omega
    simp only [this]; exact h4
theorem bhF_bit {l : List Nat} (hn : l.Nodup) {i j : Nat} : (bhF l i).testBit j = true ↔ j ∈ l ∧ bef l i j = true := by
  rw [bhF, msk_bit, mem_drop_idx hn, bef, decide_eq_true_eq]
  exact and_congr_right fun _ => Nat.succ_le_iff
/-- What stands behind i in all lines taken. -/
def cmF (o : List Int) (pre : List Nat) : F6 := fun i => pre.foldl (fun c k => c &&& bhF (lin o k) i) (if i < o.length then 2 ^ o.length - 1 else 0)
theorem cmF_snoc (o : List Int) (pre : List Nat) (k i : Nat) : cmF o (pre ++ [k]) i = cmF o pre i &&& bhF (lin o k) i := by
  rw [cmF, List.foldl_append]; rfl
theorem cmF_bit (o : List Int) (i j : Nat) : ∀ pre : List Nat, (cmF o pre i).testBit j = true ↔ (i < o.length ∧ j < o.length) ∧ ∀ k ∈ pre, (bhF (lin o k) i).testBit j = true := fun pre => by
  have : ∀ (pre : List Nat) (c : Nat), (pre.foldl (fun c k => c &&& bhF (lin o k) i) c).testBit j = true ↔ c.testBit j = true ∧ ∀ k ∈ pre, (bhF (lin o k) i).testBit j = true := fun pre => by
    induction pre with
    | nil => intro c; simp
    | cons k pre ih =>
      intro c
      rw [List.foldl_cons, ih, Nat.testBit_and, Bool.and_eq_true]
      simp only [List.mem_cons, forall_eq_or_imp, and_assoc]
  rw [cmF, this]
  refine and_congr_left fun _ => ?_
  split
  · rename_i h; rw [all_bit, decide_eq_true_eq]; exact ⟨fun h2 => ⟨h, h2⟩, fun h2 => h2.2⟩
  · rename_i h; rw [Nat.zero_testBit]; exact ⟨fun h2 => (by cases h2), fun h2 => absurd h2.1 h⟩
theorem cmF_lt (o : List Int) (hl : o.length ≤ 6) (pre : List Nat) (i : Nat) : cmF o pre i < 64 := by
  have := lt_of_bits (s := cmF o pre i) (n := o.length) fun j hj => by
    rw [← Bool.not_eq_true]
    intro h
    have := ((cmF_bit o i j pre).1 h).1.2; omega
  have := pow6 hl; omega
theorem cmF_sep {o : List Int} (ho : ord o = true) {pre : List Nat} (h0 : pre ≠ []) (hk : ∀ k ∈ pre, k < cn o) : (∀ i, i < 6 → cmF o pre i = bt o i) ↔ sepB o pre = true := by
  have hl := Xk ho
  rw [sepB_iff]
  constructor
  · intro h i j hi hj hne hab
    refine Classical.byContradiction fun hc => ?_
    have h1 : (cmF o pre i).testBit j = true := (cmF_bit o i j pre).2 ⟨⟨hi, hj⟩, fun k hkp => by
      have lf := Vb ho (hk k hkp)
      have hil : i ∈ lin o k := lf.pm.mem_iff.2 (List.mem_range.2 hi)
      have hjl : j ∈ lin o k := lf.pm.mem_iff.2 (List.mem_range.2 hj)
      refine (bhF_bit lf.nd).2 ⟨hjl, ?_⟩
      cases hb : bef (lin o k) i j with
      | true => rfl
      | false => exact absurd ⟨k, hkp, by rw [bef_not hil hjl hne, hb]; rfl⟩ hc⟩
    rw [h i (by omega)] at h1
    rw [ab] at hab
    rw [hab] at h1; cases h1
  · intro h i hi
    refine Nat.eq_of_testBit_eq fun j => ?_
    rw [Bool.eq_iff_iff, cmF_bit]
    constructor
    · rintro ⟨⟨hi, hj⟩, hall⟩
      cases hab : ab o i j with
      | true => exact hab
      | false =>
        exfalso
        by_cases hne : i = j
        · obtain ⟨k, hkp⟩ := List.exists_mem_of_ne_nil _ h0
          have lf := Vb ho (hk k hkp)
          have := ((bhF_bit lf.nd).1 (hall k hkp)).2
          rw [hne, bef] at this; simp at this
        · obtain ⟨k, hkp, hb⟩ := h i j hi hj hne hab
          have lf := Vb ho (hk k hkp)
          have hil : i ∈ lin o k := lf.pm.mem_iff.2 (List.mem_range.2 hi)
          have hjl : j ∈ lin o k := lf.pm.mem_iff.2 (List.mem_range.2 hj)
          have h2 := ((bhF_bit lf.nd).1 (hall k hkp)).2
          have h3 : bef (lin o k) j i = true := hb
          rw [bef_not hil hjl hne, h2] at h3; cases h3
    · intro hab
      have hab' : ab o i j = true := hab
      obtain ⟨hi, hj⟩ := ab_lt ho hab'
      refine ⟨⟨hi, hj⟩, fun k hkp => ?_⟩
      have lf := Vb ho (hk k hkp)
      exact (bhF_bit lf.nd).2 ⟨lf.pm.mem_iff.2 (List.mem_range.2 hj), lf.ab i j hab'⟩
theorem find_hit {G : Nat → Option (List Nat)} {fr N k : Nat} {q : List Nat} (h : ∀ j, fr ≤ j → j < k → G j = none) (h1 : fr ≤ k) (h2 : k < N) (hk : G k = some q) : (List.range' fr (N - fr)).findSome? G = some q := by
  have e : List.range' fr (N - fr) = List.range' fr (k - fr) ++ k :: List.range' (k + 1) (N - (k + 1)) := by
    rw [← List.range'_succ, show N - (k + 1) + 1 = N - k by omega]
    have := List.range'_append_1 (s := fr) (m := k - fr) (n := N - k)
    rw [show fr + (k - fr) = k by omega, show k - fr + (N - k) = N - fr by omega] at this
    exact this.symm
  rw [e, List.findSome?_append, List.findSome?_eq_none_iff.2 fun j hj => by
    have := List.mem_range'_1.1 hj
    exact h j this.1 (by omega), List.findSome?_cons, hk]; rfl
theorem find_none {G : Nat → Option (List Nat)} {fr N : Nat} (h : ∀ j, fr ≤ j → j < N → G j = none) : (List.range' fr (N - fr)).findSome? G = none :=
  List.findSome?_eq_none_iff.2 fun j hj => by
    have := List.mem_range'_1.1 hj
    exact h j this.1 (by omega)

theorem and_six {a b : Nat} (ha : a < 64) (hb : b < 64) : Wm .and .i64 ((a : Nat) : Int) ((b : Nat) : Int) = ((a &&& b : Nat) : Int) := bitsV_and (by omega) (by omega)

/-! ### The walk -/
/-- Six numbers are the same. -/
def eq6 (f g : F6) : Bool := (List.range 6).all fun i => f i == g i
theorem eq6_iff {f g : F6} : eq6 f g = true ↔ ∀ i, i < 6 → f i = g i := by
  simp only [eq6, List.all_eq_true, List.mem_range, beq_iff_eq]
theorem bin6 [Tabs prog] {f g : F6} {K : Value → Prop} : Zy prog .eql 121 (sixV f) (sixV g) K = K (.bool (eq6 f g)) := by
  have hq : EqT prog 121 6 := eqT_array und_121 und_3 Xs (by kernel_rfl)
  have e : ((six f == six g) : Bool) = eq6 f g := by
    rw [Bool.eq_iff_iff, beq_iff_eq, eq6_iff]
    constructor
    · intro h i hi
      have := congrArg (fun l => l[i]?) h
      simp only [six_get _ hi, Option.some.injEq, Int.ofNat_inj] at this
      exact this
    · intro h
      simp only [six, h 0 (by omega), h 1 (by omega), h 2 (by omega), h 3 (by omega), h 4 (by omega), h 5 (by omega)]
  rw [← e]
  exact propext ⟨fun h => h.2.2, fun h => ⟨hq, rfl, h⟩⟩
theorem bin6n [Tabs prog] {f g : F6} {K : Value → Prop} : Zy prog .neq 121 (sixV f) (sixV g) K = K (.bool (!eq6 f g)) := by
  have hq : EqT prog 121 6 := eqT_array und_121 und_3 Xs (by kernel_rfl)
  have e : ((six f == six g) : Bool) = eq6 f g := by
    rw [Bool.eq_iff_iff, beq_iff_eq, eq6_iff]
    constructor
    · intro h i hi
      have := congrArg (fun l => l[i]?) h
      simp only [six_get _ hi, Option.some.injEq, Int.ofNat_inj] at this
      exact this
    · intro h
      simp only [six, h 0 (by omega), h 1 (by omega), h 2 (by omega), h 3 (by omega), h 4 (by omega), h 5 (by omega)]
  rw [← e]
  exact propext ⟨fun h => h.2.2, fun h => ⟨hq, rfl, h⟩⟩
theorem six_bt {o : List Int} (ho : ord o = true) : (sixs o).map Zx = sixC (bt o) := by
  have hl := Xk ho
  refine List.ext_getElem? fun i => ?_
  by_cases hi : i < 6
  · rw [sixC_get _ hi]
    have := ordC_get (o := o) hl.2 hi
    rw [Ww, Nat.add_comm, List.getElem?_cons_succ] at this
    rw [this]
    by_cases hio : i < o.length
    · rw [(ord_nat ho hio).1]
    · rw [bt_out (by omega), List.getD, List.getElem?_eq_none (by omega)]; rfl
  · rw [List.getElem?_eq_none (by rw [List.length_map, sixs_len hl.2]; omega), List.getElem?_eq_none (by simp; omega)]
theorem load75 {h : Yb} {b : Nat} {o : List Int} (ho : ord o = true) {e : TypeId} {ro : Bool} (hb : h[b]? = some (.cells (Ww o) e ro)) {K : Value → Prop} : Wb prog h 75 (.pointer (some ⟨b, 1, none⟩)) K = K (sixV (bt o)) := by
  have hl := Xk ho
  have e1 : ((Ww o).drop 1).take 6 = sixC (bt o) := by
    rw [Ww, List.drop_succ_cons, List.drop_zero, six_bt ho]; rfl
  simp only [Wb, shp_75, Xn, hb, e1, Xl hl.2]
  exact propext ⟨fun h => h.2, fun h => ⟨by omega, h⟩⟩

/-- The search's surroundings, as they lie at the start. -/
structure RE (o : List Int) (h0 : Yb) (po pa ps pf pg : Nat) (av sv : Value) : Prop where
  ob : h0[po]? = some (.cells (Ww o) 77 false)
  ab_ : h0[pa]? = some (.cells [av] 45 false)
  sb : h0[ps]? = some (.cells [sv] 120 false)
  gb : h0[pg]? = some (.cells [.func (.func 106) #[] #[.pointer (some ⟨po, 0, none⟩), .pointer (some ⟨pa, 0, none⟩), .pointer (some ⟨ps, 0, none⟩), .pointer (some ⟨pf, 0, none⟩), .pointer (some ⟨pg, 0, none⟩)]] 123 false)
  fo : po ≠ pf
  fa : pa ≠ pf
  fs : ps ≠ pf
  fg : pg ≠ pf
  f : pf < h0.length
  al : ∀ K : Value → Prop, lenK av K = K (Zx (cn o : Nat))
  sl : Own6 121 h0 sv ((Yy o).map bhF)
  sf : Yd sv ≠ some pf
/-- What is kept. -/
def KH (h0 : Yb) (pf : Nat) (h : Yb) : Prop := Ext (fun b => b = pf) h0 h
/-- What was found so far. -/
structure FD (h0 : Yb) (pf : Nat) (h : Yb) (fv : Value) (pre : List Nat) : Prop where
  bx : h[pf]? = some (.cells [fv] 22 false)
  own : OwnSl 3 h fv (iL pre)
  fr : ∀ b, Yd fv = some b → h0.length ≤ b
section
variable {o : List Int} {h0 h h' : Yb} {po pa ps pf pg : Nat} {av sv fv : Value} {pre : List Nat}
theorem KH.at_ {b : Nat} {B : Blk} (k : KH h0 pf h) (hb : h0[b]? = some B) (hn : b ≠ pf) : h[b]? = some B := (k.2 b (Yn hb) hn).trans hb
theorem FD.ext (f : FD h0 pf h fv pre) (hE : Ext (fun _ => False) h h') : FD h0 pf h' fv pre := ⟨(hE.2 _ (Yn f.bx) id).trans f.bx, f.own.ext (S := fun _ => False) hE (fun _ _ => id), f.fr⟩
theorem KH.ext (k : KH h0 pf h) (hE : Ext (fun _ => False) h h') : KH h0 pf h' := k.trans (hE.mono fun _ h => h.elim)
theorem RE.sets (r : RE o h0 po pa ps pf pg av sv) (k : KH h0 pf h) : Own6 121 h sv ((Yy o).map bhF) := r.sl.same fun b hb => k.2 b (r.sl.lt hb) fun he => r.sf (he ▸ hb)
end
/-- What a run of the search may touch. -/
def gS2 (pf : Nat) (fv : Value) (b : Nat) : Prop := b = pf ∨ Yd fv = some b
/-- Where the list found lies afterwards. -/
def gB2 (h : Yb) (fv fv' : Value) : Prop := Yd fv' = Yd fv ∨ ∃ b, Yd fv' = some b ∧ h.length ≤ b
theorem gB2.trans {h G : Yb} {a b c : Value} (h1 : gB2 h a b) (hl : h.length ≤ G.length) (h2 : gB2 G b c) : gB2 h a c := by
  rcases h2 with h2 | ⟨x, h2, h3⟩
  · rcases h1 with h1 | ⟨y, h1, h4⟩
    · exact .inl (h2.trans h1)
    · exact .inr ⟨y, h2.trans h1, h4⟩
  · exact .inr ⟨x, h2, by omega⟩
theorem extS {h G G' : Yb} {pf : Nat} {fv fv1 : Value} (h1 : Ext (gS2 pf fv) h G) (hf : gB2 h fv fv1) (h2 : Ext (gS2 pf fv1) G G') : Ext (gS2 pf fv) h G' :=
  ⟨Nat.le_trans h1.1 h2.1, fun i hi hn => by
    refine (h2.2 i (Nat.lt_of_lt_of_le hi h1.1) fun hc => ?_).trans (h1.2 i hi hn)
    rcases hc with hc | hc
    · exact hn (.inl hc)
    · rcases hf with hf | ⟨b, hf, hb⟩
      · exact hn (.inr (hf ▸ hc))
      · rw [hf] at hc; cases hc; omega⟩
theorem KH.go {h0 h h' : Yb} {pf : Nat} {fv : Value} (k : KH h0 pf h) (hfr : ∀ b, Yd fv = some b → h0.length ≤ b) (hE : Ext (gS2 pf fv) h h') : KH h0 pf h' :=
  ⟨Nat.le_trans k.1 hE.1, fun i hi hn => (hE.2 i (Nat.lt_of_lt_of_le hi k.1) fun hc => by
    rcases hc with hc | hc
    · exact hn hc
    · have := hfr i hc; omega).trans (k.2 i hi hn)⟩
/-- Up to i the next line is taken. -/
def andTo (c f : F6) (m : Nat) : F6 := fun i => if i < m then c i &&& f i else c i
theorem andTo_upd (c f : F6) (m : Nat) : upd6 (andTo c f m) m (andTo c f m m &&& f m) = andTo c f (m + 1) := by
  funext i
  simp only [upd6, andTo, Nat.lt_irrefl, if_false]
  by_cases h1 : i = m
  · rw [if_pos h1, h1, if_pos (by omega)]
  · rw [if_neg h1]
    by_cases h2 : i < m
    · rw [if_pos h2, if_pos (by omega)]
    · rw [if_neg h2, if_neg (by omega)]

theorem s106_callW [Tabs Tryd.prog] {args : List Value} {h : Yb} {Q : Value → Yb → Prop} (hsz : args.length ≤ 68) (hk : AWS Tryd.prog 68 s106 (Zu Tryd.prog [.tmp 11] Q) (Zp 0 args) h) : ACall Tryd.prog 106 args h Q :=
  acall_w Tryd.func106 rfl (enters_of Tryd.func106 (by kernel_rfl) rfl) rfl rfl (by decide) s106_strip s106_ok hsz hk
theorem real_grow [Tabs prog] {o : List Int} (ho : ord o = true) {h0 : Yb} {po pa ps pf pg : Nat} {av sv : Value} (re : RE o h0 po pa ps pf pg av sv) : ∀ (s fr : Nat) (pre : List Nat) (h : Yb) (fv : Value), (s = 0 → pre ≠ []) → pre.length + s ≤ 3 → (∀ k ∈ pre, k < cn o) → fr ≤ cn o → KH h0 pf h → FD h0 pf h fv pre →
    ACall prog 106 [Zx (fr : Nat), Zx (s : Nat), sixV (cmF o pre), .pointer (some ⟨po, 0, none⟩), .pointer (some ⟨pa, 0, none⟩), .pointer (some ⟨ps, 0, none⟩), .pointer (some ⟨pf, 0, none⟩), .pointer (some ⟨pg, 0, none⟩)] h
      fun r h' => Ext (gS2 pf fv) h h' ∧ ∃ fv', gB2 h fv fv' ∧ match srch (sepB o) (cn o) 1 s fr pre with
        | some q => r = .bool true ∧ FD h0 pf h' fv' q
        | none => r = .bool false ∧ FD h0 pf h' fv' pre := by
  have hln := Xk ho
  have hcn := cn_le ho
  have sh : shp prog 121 = some (some 6) := shp_121
  have f1 : ∀ {K : Value → Prop}, Xh prog 77 (.pointer (some ⟨po, 0, none⟩)) 1 K = K (.pointer (some ⟨po, 1, none⟩)) := fun {K} => by
    simp [Xh, fld_77_1, esz_75]
  intro s
  induction s with
  | zero =>
    intro fr pre h fv hs0 hpl hpk hfr kh fd
    obtain ⟨H, hH⟩ : ∃ H, H = h ++ [Blk.cells (sixC (cmF o pre)) 121 false] := ⟨_, rfl⟩
    have hE : Ext (fun _ => False) h H := by rw [hH]; exact Ext.app _ _ _
    have b10 : H[h.length]? = some (.cells (sixC (cmF o pre)) 121 false) := by rw [hH]; exact Yv _ _
    have hbx : ∀ {K : Value → Yb → Prop}, boxK prog h 121 (sixV (cmF o pre)) K = K (Xg h) H := fun {K} => by
      rw [hH]; simp [boxK, esz_121, Xg, cellsOf, sixV]
    have khH := kh.ext hE
    have hz : (((0 : Nat) : Int) == 0) = true := rfl
    have hdec : eq6 (cmF o pre) (bt o) = sepB o pre := by
      rw [Bool.eq_iff_iff, eq6_iff]; exact cmF_sep ho (hs0 rfl) hpk
    refine s106_callW (by simp) ?_
    simp only [s106]
    refine Yc fun N1 hN1 => ?_
    simp (maxSteps := 2000000) only [s106, ↓Za, ↓Zm, ↓Zr, ↓Ze, ↓Zk, ↓Zs, ↓Zf, ↓Zi, ↓Zg, ↓Zc, ↓Zb, ↓vdn, vup, Zl, Zn, Zh, Zj, Zo, List.map_cons, List.map_nil, cond_true, cond_false, aop, Zv, Zq, Zp, ev, sput, Zt, Zy, Ya, unK, Zd, Zw, Nat.reduceBEq, Nat.reduceAdd, Int.reduceBEq, Int.reduceBNe, Int.reduceLT, Zu, Zz, tup, tyf, hbx, Xg]
    refine hN1 [(0, Zx (fr : Nat)), (1, Zx (0 : Nat)), (3, .pointer (some ⟨po, 0, none⟩)), (4, .pointer (some ⟨pa, 0, none⟩)), (5, .pointer (some ⟨ps, 0, none⟩)), (6, .pointer (some ⟨pf, 0, none⟩)), (7, .pointer (some ⟨pg, 0, none⟩)), (10, .pointer (some ⟨h.length, 0, none⟩)), (11, .bool false)] _ _ ?_ (by simp (maxSteps := 2000000) only [↓Za, ↓Zm, ↓Zr, ↓Ze, ↓Zk, ↓Zs, ↓Zf, ↓Zi, ↓Zg, ↓Zc, ↓Zb, ↓vdn, vup, Zl, Zn, Zh, Zj, Zo, List.map_cons, List.map_nil, cond_true, cond_false, aop, Zv, Zq, Zp, ev, sput, Zt, Zy, Ya, unK, Zd, Zw, Nat.reduceBEq, Nat.reduceAdd, Int.reduceBEq, Int.reduceBNe, Int.reduceLT, Zu, Zz, tup, tyf])
    clear hN1
    try clear N1
    refine Yh fun M hM => ?_
    refine Yc fun N2 hN2 => ?_
    simp (maxSteps := 2000000) only [s106, ↓Za, ↓Zm, ↓Zr, ↓Ze, ↓Zk, ↓Zs, ↓Zf, ↓Zi, ↓Zg, ↓Zc, ↓Zb, ↓vdn, vup, Zl, Zn, Zh, Zj, Zo, List.map_cons, List.map_nil, cond_true, cond_false, aop, Zv, Zq, Zp, ev, sput, Zt, Zy, Ya, unK, Zd, Zw, Nat.reduceBEq, Nat.reduceAdd, Int.reduceBEq, Int.reduceBNe, Int.reduceLT, Zu, Zz, tup, tyf, hz]
    refine hN2 [(0, Zx (fr : Nat)), (1, Zx (0 : Nat)), (3, .pointer (some ⟨po, 0, none⟩)), (4, .pointer (some ⟨pa, 0, none⟩)), (5, .pointer (some ⟨ps, 0, none⟩)), (6, .pointer (some ⟨pf, 0, none⟩)), (7, .pointer (some ⟨pg, 0, none⟩)), (10, .pointer (some ⟨h.length, 0, none⟩)), (11, .bool false), (16, .bool true)] _ _ ?_ (by simp (maxSteps := 2000000) only [↓Za, ↓Zm, ↓Zr, ↓Ze, ↓Zk, ↓Zs, ↓Zf, ↓Zi, ↓Zg, ↓Zc, ↓Zb, ↓vdn, vup, Zl, Zn, Zh, Zj, Zo, List.map_cons, List.map_nil, cond_true, cond_false, aop, Zv, Zq, Zp, ev, sput, Zt, Zy, Ya, unK, Zd, Zw, Nat.reduceBEq, Nat.reduceAdd, Int.reduceBEq, Int.reduceBNe, Int.reduceLT, Zu, Zz, tup, tyf])
    clear hN2
    try clear N2
    refine Wu rfl ?_
    refine Yl ?_
    simp (maxSteps := 2000000) only [s106, ↓Za, ↓Zm, ↓Zr, ↓Ze, ↓Zk, ↓Zs, ↓Zf, ↓Zi, ↓Zg, ↓Zc, ↓Zb, ↓vdn, vup, Zl, Zn, Zh, Zj, Zo, List.map_cons, List.map_nil, cond_true, cond_false, aop, Zv, Zq, Zp, ev, sput, Zt, Zd, Nat.reduceBEq, Nat.reduceAdd, Int.reduceBEq, Int.reduceBNe, Int.reduceLT, Zu, Zz, tup, tyf, six_load b10 sh, f1, load75 ho (khH.at_ re.ob re.fo), bin6, hdec]
    refine ⟨hE.mono fun _ h => h.elim, fv, .inl rfl, ?_⟩
    rw [srch]
    cases hsp : sepB o pre with
    | true => exact ⟨rfl, fd.ext hE⟩
    | false => exact ⟨rfl, fd.ext hE⟩
  | succ s ih =>
    intro fr pre h fv hs0 hpl hpk hfr kh fd
    obtain ⟨H, hH⟩ : ∃ H, H = h ++ [Blk.cells (sixC (cmF o pre)) 121 false] := ⟨_, rfl⟩
    have hE : Ext (fun _ => False) h H := by rw [hH]; exact Ext.app _ _ _
    have b10 : H[h.length]? = some (.cells (sixC (cmF o pre)) 121 false) := by rw [hH]; exact Yv _ _
    have hbx : ∀ {K : Value → Yb → Prop}, boxK prog h 121 (sixV (cmF o pre)) K = K (Xg h) H := fun {K} => by
      rw [hH]; simp [boxK, esz_121, Xg, cellsOf, sixV]
    have khH := kh.ext hE
    have hhl := kh.1
    have hz : (((s + 1 : Nat) : Int) == 0) = false := by rw [beq_eq_false_iff_ne]; omega
    refine s106_callW (by simp) ?_
    simp only [s106]
    refine Yc fun N3 hN3 => ?_
    simp (maxSteps := 2000000) only [s106, ↓Za, ↓Zm, ↓Zr, ↓Ze, ↓Zk, ↓Zs, ↓Zf, ↓Zi, ↓Zg, ↓Zc, ↓Zb, ↓vdn, vup, Zl, Zn, Zh, Zj, Zo, List.map_cons, List.map_nil, cond_true, cond_false, aop, Zv, Zq, Zp, ev, sput, Zt, Zy, Ya, unK, Zd, Zw, Nat.reduceBEq, Nat.reduceAdd, Int.reduceBEq, Int.reduceBNe, Int.reduceLT, Zu, Zz, tup, tyf, hbx, Xg]
    refine hN3 [(0, Zx (fr : Nat)), (1, Zx (s + 1 : Nat)), (3, .pointer (some ⟨po, 0, none⟩)), (4, .pointer (some ⟨pa, 0, none⟩)), (5, .pointer (some ⟨ps, 0, none⟩)), (6, .pointer (some ⟨pf, 0, none⟩)), (7, .pointer (some ⟨pg, 0, none⟩)), (10, .pointer (some ⟨h.length, 0, none⟩)), (11, .bool false)] _ _ ?_ (by simp (maxSteps := 2000000) only [↓Za, ↓Zm, ↓Zr, ↓Ze, ↓Zk, ↓Zs, ↓Zf, ↓Zi, ↓Zg, ↓Zc, ↓Zb, ↓vdn, vup, Zl, Zn, Zh, Zj, Zo, List.map_cons, List.map_nil, cond_true, cond_false, aop, Zv, Zq, Zp, ev, sput, Zt, Zy, Ya, unK, Zd, Zw, Nat.reduceBEq, Nat.reduceAdd, Int.reduceBEq, Int.reduceBNe, Int.reduceLT, Zu, Zz, tup, tyf])
    clear hN3
    try clear N3
    refine Yh fun M hM => ?_
    refine Yc fun N4 hN4 => ?_
    simp (maxSteps := 2000000) only [s106, ↓Za, ↓Zm, ↓Zr, ↓Ze, ↓Zk, ↓Zs, ↓Zf, ↓Zi, ↓Zg, ↓Zc, ↓Zb, ↓vdn, vup, Zl, Zn, Zh, Zj, Zo, List.map_cons, List.map_nil, cond_true, cond_false, aop, Zv, Zq, Zp, ev, sput, Zt, Zy, Ya, unK, Zd, Zw, Nat.reduceBEq, Nat.reduceAdd, Int.reduceBEq, Int.reduceBNe, Int.reduceLT, Zu, Zz, tup, tyf, hz]
    refine hN4 [(0, Zx (fr : Nat)), (1, Zx (s + 1 : Nat)), (3, .pointer (some ⟨po, 0, none⟩)), (4, .pointer (some ⟨pa, 0, none⟩)), (5, .pointer (some ⟨ps, 0, none⟩)), (6, .pointer (some ⟨pf, 0, none⟩)), (7, .pointer (some ⟨pg, 0, none⟩)), (10, .pointer (some ⟨h.length, 0, none⟩)), (11, .bool false), (16, .bool false)] _ _ ?_ (by simp (maxSteps := 2000000) only [↓Za, ↓Zm, ↓Zr, ↓Ze, ↓Zk, ↓Zs, ↓Zf, ↓Zi, ↓Zg, ↓Zc, ↓Zb, ↓vdn, vup, Zl, Zn, Zh, Zj, Zo, List.map_cons, List.map_nil, cond_true, cond_false, aop, Zv, Zq, Zp, ev, sput, Zt, Zy, Ya, unK, Zd, Zw, Nat.reduceBEq, Nat.reduceAdd, Int.reduceBEq, Int.reduceBNe, Int.reduceLT, Zu, Zz, tup, tyf])
    clear hN4
    try clear N4
    refine Xy rfl ?_
    refine Yl ?_
    simp (maxSteps := 2000000) only [s106, ↓Za, ↓Zm, ↓Zr, ↓Ze, ↓Zk, ↓Zs, ↓Zf, ↓Zi, ↓Zg, ↓Zc, ↓Zb, ↓vdn, vup, Zl, Zn, Zh, Zj, Zo, List.map_cons, List.map_nil, cond_true, cond_false, aop, Zv, Zq, Zp, ev, sput, Zt, Zy, Ya, unK, Zd, Zw, Nat.reduceBEq, Nat.reduceAdd, Int.reduceBEq, Int.reduceBNe, Int.reduceLT, Zu, Zz, tup, tyf]
    refine hM [(0, Zx (fr : Nat)), (1, Zx (s + 1 : Nat)), (3, .pointer (some ⟨po, 0, none⟩)), (4, .pointer (some ⟨pa, 0, none⟩)), (5, .pointer (some ⟨ps, 0, none⟩)), (6, .pointer (some ⟨pf, 0, none⟩)), (7, .pointer (some ⟨pg, 0, none⟩)), (10, .pointer (some ⟨h.length, 0, none⟩)), (11, .bool false)] _ _ ?_ (by simp (maxSteps := 2000000) only [↓Za, ↓Zm, ↓Zr, ↓Ze, ↓Zk, ↓Zs, ↓Zf, ↓Zi, ↓Zg, ↓Zc, ↓Zb, ↓vdn, vup, Zl, Zn, Zh, Zj, Zo, List.map_cons, List.map_nil, cond_true, cond_false, aop, Zv, Zq, Zp, ev, sput, Zt, Zy, Ya, unK, Zd, Zw, Nat.reduceBEq, Nat.reduceAdd, Int.reduceBEq, Int.reduceBNe, Int.reduceLT, Zu, Zz, tup, tyf])
    clear hM
    try clear M
    refine Yh fun Z hZ => ?_
    refine Yc fun N5 hN5 => ?_
    simp (maxSteps := 2000000) only [s106, ↓Za, ↓Zm, ↓Zr, ↓Ze, ↓Zk, ↓Zs, ↓Zf, ↓Zi, ↓Zg, ↓Zc, ↓Zb, ↓vdn, vup, Zl, Zn, Zh, Zj, Zo, List.map_cons, List.map_nil, cond_true, cond_false, aop, Zv, Zq, Zp, ev, sput, Zt, Zy, Ya, unK, Zd, Zw, Nat.reduceBEq, Nat.reduceAdd, Int.reduceBEq, Int.reduceBNe, Int.reduceLT, Zu, Zz, tup, tyf]
    refine hN5 [(1, Zx (s + 1 : Nat)), (3, .pointer (some ⟨po, 0, none⟩)), (4, .pointer (some ⟨pa, 0, none⟩)), (5, .pointer (some ⟨ps, 0, none⟩)), (6, .pointer (some ⟨pf, 0, none⟩)), (7, .pointer (some ⟨pg, 0, none⟩)), (10, .pointer (some ⟨h.length, 0, none⟩)), (11, .bool false), (12, Zx (fr : Nat))] _ _ ?_ (by simp (maxSteps := 2000000) only [↓Za, ↓Zm, ↓Zr, ↓Ze, ↓Zk, ↓Zs, ↓Zf, ↓Zi, ↓Zg, ↓Zc, ↓Zb, ↓vdn, vup, Zl, Zn, Zh, Zj, Zo, List.map_cons, List.map_nil, cond_true, cond_false, aop, Zv, Zq, Zp, ev, sput, Zt, Zy, Ya, unK, Zd, Zw, Nat.reduceBEq, Nat.reduceAdd, Int.reduceBEq, Int.reduceBNe, Int.reduceLT, Zu, Zz, tup, tyf])
    clear hN5
    try clear N5
    refine Yk ?_
    refine Yf fun Q hQ => ?_
    refine Xt (γ := Nat × Value × Yb) (fun g => fr ≤ g.1 ∧ g.1 ≤ cn o ∧ Ext (gS2 pf fv) h g.2.2 ∧ gB2 h fv g.2.1 ∧ FD h0 pf g.2.2 g.2.1 pre ∧ g.2.2[h.length]? = some (.cells (sixC (cmF o pre)) 121 false) ∧ ∀ j, fr ≤ j → j < g.1 → srch (sepB o) (cn o) 1 s (j + 1) (pre ++ [j]) = none)
      (fun g => ([(1, Zx (s + 1 : Nat)), (3, .pointer (some ⟨po, 0, none⟩)), (4, .pointer (some ⟨pa, 0, none⟩)), (5, .pointer (some ⟨ps, 0, none⟩)), (6, .pointer (some ⟨pf, 0, none⟩)), (7, .pointer (some ⟨pg, 0, none⟩)), (10, .pointer (some ⟨h.length, 0, none⟩)), (11, .bool false), (12, Zx (g.1 : Nat))], g.2.2)) (fun g => cn o - g.1) (fr, fv, H) ⟨Nat.le_refl _, hfr, hE.mono fun _ h => h.elim, .inl rfl, fd.ext hE, b10, fun j h1 h2 => absurd h2 (Nat.not_lt_of_le h1)⟩ (by simp (maxSteps := 2000000) only [↓Za, ↓Zm, ↓Zr, ↓Ze, ↓Zk, ↓Zs, ↓Zf, ↓Zi, ↓Zg, ↓Zc, ↓Zb, ↓vdn, vup, Zl, Zn, Zh, Zj, Zo, List.map_cons, List.map_nil, cond_true, cond_false, aop, Zv, Zq, Zp, ev, sput, Zt, Zy, Ya, unK, Zd, Zw, Nat.reduceBEq, Nat.reduceAdd, Int.reduceBEq, Int.reduceBNe, Int.reduceLT, Zu, Zz, tup, tyf]) rfl ?_
    rintro ⟨k, fv1, G⟩ ⟨hk1, hk2, eG, gG, fG, bG, hno⟩
    simp only at hk1 hk2 eG gG fG bG hno
    have kG := kh.go fd.fr eG
    refine Yf fun Q2 hQ2 => ?_
    simp only [l106_1]
    have aG := kG.at_ re.ab_ re.fa
    by_cases hin : (k : Int) < ((cn o : Nat) : Int)
    · have hk' : k < cn o := by omega
      obtain ⟨G1, hG1⟩ : ∃ G1, G1 = G ++ [Blk.cells (sixC (cmF o pre)) 121 false] := ⟨_, rfl⟩
      have hEG1 : Ext (fun _ => False) G G1 := by rw [hG1]; exact Ext.app _ _ _
      have b13 : G1[G.length]? = some (.cells (sixC (cmF o pre)) 121 false) := by rw [hG1]; exact Yv _ _
      refine Yh fun C hC => ?_
      refine Yc fun N6 hN6 => ?_
      simp (maxSteps := 2000000) only [s106, ↓Za, ↓Zm, ↓Zr, ↓Ze, ↓Zk, ↓Zs, ↓Zf, ↓Zi, ↓Zg, ↓Zc, ↓Zb, ↓vdn, vup, Zl, Zn, Zh, Zj, Zo, List.map_cons, List.map_nil, cond_true, cond_false, aop, Zv, Zq, Zp, ev, sput, Zt, Zy, Ya, unK, Zd, Zw, Nat.reduceBEq, Nat.reduceAdd, Int.reduceBEq, Int.reduceBNe, Int.reduceLT, Zu, Zz, tup, tyf, Xi aG shp_45, re.al, hin]
      refine hN6 [(1, Zx (s + 1 : Nat)), (3, .pointer (some ⟨po, 0, none⟩)), (4, .pointer (some ⟨pa, 0, none⟩)), (5, .pointer (some ⟨ps, 0, none⟩)), (6, .pointer (some ⟨pf, 0, none⟩)), (7, .pointer (some ⟨pg, 0, none⟩)), (10, .pointer (some ⟨h.length, 0, none⟩)), (11, .bool false), (12, Zx (k : Nat)), (25, .bool true)] _ _ ?_ (by simp (maxSteps := 2000000) only [↓Za, ↓Zm, ↓Zr, ↓Ze, ↓Zk, ↓Zs, ↓Zf, ↓Zi, ↓Zg, ↓Zc, ↓Zb, ↓vdn, vup, Zl, Zn, Zh, Zj, Zo, List.map_cons, List.map_nil, cond_true, cond_false, aop, Zv, Zq, Zp, ev, sput, Zt, Zy, Ya, unK, Zd, Zw, Nat.reduceBEq, Nat.reduceAdd, Int.reduceBEq, Int.reduceBNe, Int.reduceLT, Zu, Zz, tup, tyf])
      clear hN6
      try clear N6
      refine Wu rfl ?_
      refine Yl ?_
      simp (maxSteps := 2000000) only [s106, ↓Za, ↓Zm, ↓Zr, ↓Ze, ↓Zk, ↓Zs, ↓Zf, ↓Zi, ↓Zg, ↓Zc, ↓Zb, ↓vdn, vup, Zl, Zn, Zh, Zj, Zo, List.map_cons, List.map_nil, cond_true, cond_false, aop, Zv, Zq, Zp, ev, sput, Zt, Zy, Ya, unK, Zd, Zw, Nat.reduceBEq, Nat.reduceAdd, Int.reduceBEq, Int.reduceBNe, Int.reduceLT, Zu, Zz, tup, tyf]
      refine hC [(1, Zx (s + 1 : Nat)), (3, .pointer (some ⟨po, 0, none⟩)), (4, .pointer (some ⟨pa, 0, none⟩)), (5, .pointer (some ⟨ps, 0, none⟩)), (6, .pointer (some ⟨pf, 0, none⟩)), (7, .pointer (some ⟨pg, 0, none⟩)), (10, .pointer (some ⟨h.length, 0, none⟩)), (11, .bool false), (12, Zx (k : Nat))] _ _ ?_ (by simp (maxSteps := 2000000) only [↓Za, ↓Zm, ↓Zr, ↓Ze, ↓Zk, ↓Zs, ↓Zf, ↓Zi, ↓Zg, ↓Zc, ↓Zb, ↓vdn, vup, Zl, Zn, Zh, Zj, Zo, List.map_cons, List.map_nil, cond_true, cond_false, aop, Zv, Zq, Zp, ev, sput, Zt, Zy, Ya, unK, Zd, Zw, Nat.reduceBEq, Nat.reduceAdd, Int.reduceBEq, Int.reduceBNe, Int.reduceLT, Zu, Zz, tup, tyf])
      clear hC
      try clear C
      refine Yh fun B hB => ?_
      refine Yk ?_
      refine Yc fun N7 hN7 => ?_
      simp (maxSteps := 2000000) only [s106, ↓Za, ↓Zm, ↓Zr, ↓Ze, ↓Zk, ↓Zs, ↓Zf, ↓Zi, ↓Zg, ↓Zc, ↓Zb, ↓vdn, vup, Zl, Zn, Zh, Zj, Zo, List.map_cons, List.map_nil, cond_true, cond_false, aop, Zv, Zq, Zp, ev, sput, Zt, Zy, Ya, unK, Zd, Zw, Nat.reduceBEq, Nat.reduceAdd, Int.reduceBEq, Int.reduceBNe, Int.reduceLT, Zu, Zz, tup, tyf, six_load bG sh, We, Xg, zero_121, six_store (Yv G (.cells [.int .i64 0, .int .i64 0, .int .i64 0, .int .i64 0, .int .i64 0, .int .i64 0] 121 false)) rfl sh, List.set_append_right, Nat.le_refl, Nat.sub_self, List.set_cons_zero]
      rw [← hG1]
      refine hN7 [(1, Zx (s + 1 : Nat)), (3, .pointer (some ⟨po, 0, none⟩)), (4, .pointer (some ⟨pa, 0, none⟩)), (5, .pointer (some ⟨ps, 0, none⟩)), (6, .pointer (some ⟨pf, 0, none⟩)), (7, .pointer (some ⟨pg, 0, none⟩)), (10, .pointer (some ⟨h.length, 0, none⟩)), (11, .bool false), (12, Zx (k : Nat)), (13, .pointer (some ⟨G.length, 0, none⟩))] _ _ ?_ (by simp (maxSteps := 2000000) only [↓Za, ↓Zm, ↓Zr, ↓Ze, ↓Zk, ↓Zs, ↓Zf, ↓Zi, ↓Zg, ↓Zc, ↓Zb, ↓vdn, vup, Zl, Zn, Zh, Zj, Zo, List.map_cons, List.map_nil, cond_true, cond_false, aop, Zv, Zq, Zp, ev, sput, Zt, Zy, Ya, unK, Zd, Zw, Nat.reduceBEq, Nat.reduceAdd, Int.reduceBEq, Int.reduceBNe, Int.reduceLT, Zu, Zz, tup, tyf])
      clear hN7
      try clear N7
      obtain ⟨X, hX⟩ : ∃ X : F6 → Yb, X = fun f => G1.set G.length (.cells (sixC f) 121 false) := ⟨_, rfl⟩
      have hGl1 := Yn b13
      have xX : ∀ f, (X f)[G.length]? = some (.cells (sixC f) 121 false) := fun f => by rw [hX]; exact Xw hGl1 _
      have xset : ∀ f g, (X f).set G.length (.cells (sixC g) 121 false) = X g := fun f g => by rw [hX]; simp only [List.set_set]
      have xE : ∀ f, Ext (fun _ => False) G (X f) := fun f => by rw [hX]; exact hEG1.set_ge (Nat.le_refl _) _
      have hX0 : G1 = X (andTo (cmF o pre) (bhF (lin o k)) 0) := by
        rw [hX]
        refine List.ext_getElem? fun i => ?_
        by_cases hi : G.length = i
        · subst hi
          rw [Xw hGl1, b13, sixC_congr (f := cmF o pre) (g := andTo (cmF o pre) (bhF (lin o k)) 0) fun i _ => by simp [andTo]]
        · rw [List.getElem?_set_ne hi]
      rw [hX0]
      have hrow : k < ((Yy o).map bhF).length := by rw [List.length_map, Xp]; exact hk'
      have hrg : ((Yy o).map bhF).getD k z6 = bhF (lin o k) := by
        have hk3 : k < (Yy o).length := by rw [Xp]; exact hk'
        rw [List.getD, List.getElem?_map, List.getElem?_eq_getElem hk3, lin, List.getD, List.getElem?_eq_getElem hk3]; rfl
      have hb64 : ∀ i, bhF (lin o k) i < 64 := fun i => by
        have lf := Vb ho hk'
        exact msk_lt6 fun x hx => by
          have := List.mem_range.1 (lf.pm.mem_iff.1 (List.mem_of_mem_drop hx)); omega
      refine Yh fun Y hY => ?_
      refine Yc fun N8 hN8 => ?_
      simp (maxSteps := 2000000) only [s106, ↓Za, ↓Zm, ↓Zr, ↓Ze, ↓Zk, ↓Zs, ↓Zf, ↓Zi, ↓Zg, ↓Zc, ↓Zb, ↓vdn, vup, Zl, Zn, Zh, Zj, Zo, List.map_cons, List.map_nil, cond_true, cond_false, aop, Zv, Zq, Zp, ev, sput, Zt, Zy, Ya, unK, Zd, Zw, Nat.reduceBEq, Nat.reduceAdd, Int.reduceBEq, Int.reduceBNe, Int.reduceLT, Zu, Zz, tup, tyf]
      refine hN8 [(1, Zx (s + 1 : Nat)), (3, .pointer (some ⟨po, 0, none⟩)), (4, .pointer (some ⟨pa, 0, none⟩)), (5, .pointer (some ⟨ps, 0, none⟩)), (6, .pointer (some ⟨pf, 0, none⟩)), (7, .pointer (some ⟨pg, 0, none⟩)), (10, .pointer (some ⟨h.length, 0, none⟩)), (11, .bool false), (12, Zx (k : Nat)), (13, .pointer (some ⟨G.length, 0, none⟩)), (29, .int .i64 0)] _ _ ?_ (by simp (maxSteps := 2000000) only [↓Za, ↓Zm, ↓Zr, ↓Ze, ↓Zk, ↓Zs, ↓Zf, ↓Zi, ↓Zg, ↓Zc, ↓Zb, ↓vdn, vup, Zl, Zn, Zh, Zj, Zo, List.map_cons, List.map_nil, cond_true, cond_false, aop, Zv, Zq, Zp, ev, sput, Zt, Zy, Ya, unK, Zd, Zw, Nat.reduceBEq, Nat.reduceAdd, Int.reduceBEq, Int.reduceBNe, Int.reduceLT, Zu, Zz, tup, tyf])
      clear hN8
      try clear N8
      refine Yk ?_
      refine Yf fun Qa hQa => ?_
      refine Xt (γ := Nat) (fun i => i ≤ 6) (fun i => ([(1, Zx (s + 1 : Nat)), (3, .pointer (some ⟨po, 0, none⟩)), (4, .pointer (some ⟨pa, 0, none⟩)), (5, .pointer (some ⟨ps, 0, none⟩)), (6, .pointer (some ⟨pf, 0, none⟩)), (7, .pointer (some ⟨pg, 0, none⟩)), (10, .pointer (some ⟨h.length, 0, none⟩)), (11, .bool false), (12, Zx (k : Nat)), (13, .pointer (some ⟨G.length, 0, none⟩)), (29, Zx (i : Nat))], X (andTo (cmF o pre) (bhF (lin o k)) i))) (fun i => 6 - i) 0 (Nat.zero_le _) (by simp (maxSteps := 2000000) only [↓Za, ↓Zm, ↓Zr, ↓Ze, ↓Zk, ↓Zs, ↓Zf, ↓Zi, ↓Zg, ↓Zc, ↓Zb, ↓vdn, vup, Zl, Zn, Zh, Zj, Zo, List.map_cons, List.map_nil, cond_true, cond_false, aop, Zv, Zq, Zp, ev, sput, Zt, Zy, Ya, unK, Zd, Zw, Nat.reduceBEq, Nat.reduceAdd, Int.reduceBEq, Int.reduceBNe, Int.reduceLT, Zu, Zz, tup, tyf, Int.natCast_zero]) rfl ?_
      rintro i hi
      refine Yf fun Qb hQb => ?_
      simp only [l106_0]
      by_cases hjin : (i : Int) < 6
      · have hi6 : i < 6 := by omega
        obtain ⟨D, hD⟩ : ∃ D, D = andTo (cmF o pre) (bhF (lin o k)) i := ⟨_, rfl⟩
        have kX := kG.ext (xE D)
        have oX := re.sets kX
        have sX := kX.at_ re.sb re.fs
        obtain ⟨b6, q1, q2, q3⟩ := oX.at_ (P := prog) (t := 120) (ta := 121) (ti := 3) (ea := 3) el_120 esz_121 und_121 Xs Xb hrow hi6
        rw [hrg] at q3
        have hup := andTo_upd (cmF o pre) (bhF (lin o k)) i
        rw [← hD] at hup ⊢
        have hD64 : D i < 64 := by
          rw [hD, andTo, if_neg (Nat.lt_irrefl i)]; exact cmF_lt o hln.2 pre i
        have hand := and_six (a := D i) (b := bhF (lin o k) i) hD64 (hb64 i)
        refine Yc fun N9 hN9 => ?_
        simp (maxSteps := 2000000) only [s106, ↓Za, ↓Zm, ↓Zr, ↓Ze, ↓Zk, ↓Zs, ↓Zf, ↓Zi, ↓Zg, ↓Zc, ↓Zb, ↓vdn, vup, Zl, Zn, Zh, Zj, Zo, List.map_cons, List.map_nil, cond_true, cond_false, aop, Zv, Zq, Zp, ev, sput, Zt, Zy, Ya, unK, Zd, Zw, Nat.reduceBEq, Nat.reduceAdd, Int.reduceBEq, Int.reduceBNe, Int.reduceLT, Zu, Zz, tup, tyf, hjin]
        refine hN9 [(1, Zx (s + 1 : Nat)), (3, .pointer (some ⟨po, 0, none⟩)), (4, .pointer (some ⟨pa, 0, none⟩)), (5, .pointer (some ⟨ps, 0, none⟩)), (6, .pointer (some ⟨pf, 0, none⟩)), (7, .pointer (some ⟨pg, 0, none⟩)), (10, .pointer (some ⟨h.length, 0, none⟩)), (11, .bool false), (12, Zx (k : Nat)), (13, .pointer (some ⟨G.length, 0, none⟩)), (29, Zx (i : Nat)), (30, .bool true)] _ _ ?_ (by simp (maxSteps := 2000000) only [↓Za, ↓Zm, ↓Zr, ↓Ze, ↓Zk, ↓Zs, ↓Zf, ↓Zi, ↓Zg, ↓Zc, ↓Zb, ↓vdn, vup, Zl, Zn, Zh, Zj, Zo, List.map_cons, List.map_nil, cond_true, cond_false, aop, Zv, Zq, Zp, ev, sput, Zt, Zy, Ya, unK, Zd, Zw, Nat.reduceBEq, Nat.reduceAdd, Int.reduceBEq, Int.reduceBNe, Int.reduceLT, Zu, Zz, tup, tyf])
        clear hN9
        try clear N9
        refine Yc fun N10 hN10 => ?_
        simp (maxSteps := 2000000) only [s106, ↓Za, ↓Zm, ↓Zr, ↓Ze, ↓Zk, ↓Zs, ↓Zf, ↓Zi, ↓Zg, ↓Zc, ↓Zb, ↓vdn, vup, Zl, Zn, Zh, Zj, Zo, List.map_cons, List.map_nil, cond_true, cond_false, aop, Zv, Zq, Zp, ev, sput, Zt, Zy, Ya, unK, Zd, Zw, Nat.reduceBEq, Nat.reduceAdd, Int.reduceBEq, Int.reduceBNe, Int.reduceLT, Zu, Zz, tup, tyf]
        refine hN10 [(1, Zx (s + 1 : Nat)), (3, .pointer (some ⟨po, 0, none⟩)), (4, .pointer (some ⟨pa, 0, none⟩)), (5, .pointer (some ⟨ps, 0, none⟩)), (6, .pointer (some ⟨pf, 0, none⟩)), (7, .pointer (some ⟨pg, 0, none⟩)), (10, .pointer (some ⟨h.length, 0, none⟩)), (11, .bool false), (12, Zx (k : Nat)), (13, .pointer (some ⟨G.length, 0, none⟩)), (29, Zx (i : Nat))] _ _ ?_ (by simp (maxSteps := 2000000) only [↓Za, ↓Zm, ↓Zr, ↓Ze, ↓Zk, ↓Zs, ↓Zf, ↓Zi, ↓Zg, ↓Zc, ↓Zb, ↓vdn, vup, Zl, Zn, Zh, Zj, Zo, List.map_cons, List.map_nil, cond_true, cond_false, aop, Zv, Zq, Zp, ev, sput, Zt, Zy, Ya, unK, Zd, Zw, Nat.reduceBEq, Nat.reduceAdd, Int.reduceBEq, Int.reduceBNe, Int.reduceLT, Zu, Zz, tup, tyf])
        clear hN10
        try clear N10
        refine Yh fun E hE => ?_
        refine Yk ?_
        refine Yc fun N11 hN11 => ?_
        simp (maxSteps := 2000000) only [s106, ↓Za, ↓Zm, ↓Zr, ↓Ze, ↓Zk, ↓Zs, ↓Zf, ↓Zi, ↓Zg, ↓Zc, ↓Zb, ↓vdn, vup, Zl, Zn, Zh, Zj, Zo, List.map_cons, List.map_nil, cond_true, cond_false, aop, Zv, Zq, Zp, ev, sput, Zt, Zy, Ya, unK, Zd, Zw, Nat.reduceBEq, Nat.reduceAdd, Int.reduceBEq, Int.reduceBNe, Int.reduceLT, Zu, Zz, tup, tyf]
        refine hN11 [(1, Zx (s + 1 : Nat)), (3, .pointer (some ⟨po, 0, none⟩)), (4, .pointer (some ⟨pa, 0, none⟩)), (5, .pointer (some ⟨ps, 0, none⟩)), (6, .pointer (some ⟨pf, 0, none⟩)), (7, .pointer (some ⟨pg, 0, none⟩)), (10, .pointer (some ⟨h.length, 0, none⟩)), (11, .bool false), (12, Zx (k : Nat)), (13, .pointer (some ⟨G.length, 0, none⟩)), (14, Zx (i : Nat)), (29, Zx (i : Nat))] _ _ ?_ (by simp (maxSteps := 2000000) only [↓Za, ↓Zm, ↓Zr, ↓Ze, ↓Zk, ↓Zs, ↓Zf, ↓Zi, ↓Zg, ↓Zc, ↓Zb, ↓vdn, vup, Zl, Zn, Zh, Zj, Zo, List.map_cons, List.map_nil, cond_true, cond_false, aop, Zv, Zq, Zp, ev, sput, Zt, Zy, Ya, unK, Zd, Zw, Nat.reduceBEq, Nat.reduceAdd, Int.reduceBEq, Int.reduceBNe, Int.reduceLT, Zu, Zz, tup, tyf])
        clear hN11
        try clear N11
        refine Yl ?_
        simp only [q106_10]
        refine Xx [] (by kernel_rfl) (by kernel_rfl) (by kernel_rfl) (by kernel_rfl) ?_
        simp (maxSteps := 2000000) only [s106, ↓Za, ↓Zm, ↓Zr, ↓Ze, ↓Zk, ↓Zs, ↓Zf, ↓Zi, ↓Zg, ↓Zc, ↓Zb, ↓vdn, vup, Zl, Zn, Zh, Zj, Zo, List.map_cons, List.map_nil, cond_true, cond_false, aop, Zv, Zq, Zp, ev, sput, Zt, Zy, Ya, unK, Zd, Zw, Nat.reduceBEq, Nat.reduceAdd, Int.reduceBEq, Int.reduceBNe, Int.reduceLT, Zu, Zz, tup, tyf, six_idx und_121 Xs hi6, Nat.zero_add, six_load1 (xX D) Xb hi6, Xi sX shp_120, q1, q2, q3, hand, six_store1 (xX D) Xb hi6, hup, xset]
        refine hE [(1, Zx (s + 1 : Nat)), (3, .pointer (some ⟨po, 0, none⟩)), (4, .pointer (some ⟨pa, 0, none⟩)), (5, .pointer (some ⟨ps, 0, none⟩)), (6, .pointer (some ⟨pf, 0, none⟩)), (7, .pointer (some ⟨pg, 0, none⟩)), (10, .pointer (some ⟨h.length, 0, none⟩)), (11, .bool false), (12, Zx (k : Nat)), (13, .pointer (some ⟨G.length, 0, none⟩)), (29, Zx (i : Nat))] _ _ ?_ (by simp (maxSteps := 2000000) only [↓Za, ↓Zm, ↓Zr, ↓Ze, ↓Zk, ↓Zs, ↓Zf, ↓Zi, ↓Zg, ↓Zc, ↓Zb, ↓vdn, vup, Zl, Zn, Zh, Zj, Zo, List.map_cons, List.map_nil, cond_true, cond_false, aop, Zv, Zq, Zp, ev, sput, Zt, Zy, Ya, unK, Zd, Zw, Nat.reduceBEq, Nat.reduceAdd, Int.reduceBEq, Int.reduceBNe, Int.reduceLT, Zu, Zz, tup, tyf])
        clear hE
        try clear E
        refine Yl ?_
        simp (maxSteps := 2000000) only [s106, ↓Za, ↓Zm, ↓Zr, ↓Ze, ↓Zk, ↓Zs, ↓Zf, ↓Zi, ↓Zg, ↓Zc, ↓Zb, ↓vdn, vup, Zl, Zn, Zh, Zj, Zo, List.map_cons, List.map_nil, cond_true, cond_false, aop, Zv, Zq, Zp, ev, sput, Zt, Zy, Ya, unK, Zd, Zw, Nat.reduceBEq, Nat.reduceAdd, Int.reduceBEq, Int.reduceBNe, Int.reduceLT, Zu, Zz, tup, tyf, add1 (show i < 9223372036854775807 by omega)]
        exact hQb _ _ _ ⟨i + 1, hi6, by omega, by simp (maxSteps := 2000000) only [↓Za, ↓Zm, ↓Zr, ↓Ze, ↓Zk, ↓Zs, ↓Zf, ↓Zi, ↓Zg, ↓Zc, ↓Zb, ↓vdn, vup, Zl, Zn, Zh, Zj, Zo, List.map_cons, List.map_nil, cond_true, cond_false, aop, Zv, Zq, Zp, ev, sput, Zt, Zy, Ya, unK, Zd, Zw, Nat.reduceBEq, Nat.reduceAdd, Int.reduceBEq, Int.reduceBNe, Int.reduceLT, Zu, Zz, tup, tyf], rfl⟩
      · obtain rfl : i = 6 := by omega
        refine Yc fun N12 hN12 => ?_
        simp (maxSteps := 2000000) only [s106, ↓Za, ↓Zm, ↓Zr, ↓Ze, ↓Zk, ↓Zs, ↓Zf, ↓Zi, ↓Zg, ↓Zc, ↓Zb, ↓vdn, vup, Zl, Zn, Zh, Zj, Zo, List.map_cons, List.map_nil, cond_true, cond_false, aop, Zv, Zq, Zp, ev, sput, Zt, Zy, Ya, unK, Zd, Zw, Nat.reduceBEq, Nat.reduceAdd, Int.reduceBEq, Int.reduceBNe, Int.reduceLT, Zu, Zz, tup, tyf, hjin]
        refine hN12 [(1, Zx (s + 1 : Nat)), (3, .pointer (some ⟨po, 0, none⟩)), (4, .pointer (some ⟨pa, 0, none⟩)), (5, .pointer (some ⟨ps, 0, none⟩)), (6, .pointer (some ⟨pf, 0, none⟩)), (7, .pointer (some ⟨pg, 0, none⟩)), (10, .pointer (some ⟨h.length, 0, none⟩)), (11, .bool false), (12, Zx (k : Nat)), (13, .pointer (some ⟨G.length, 0, none⟩)), (29, Zx (6 : Nat)), (30, .bool false)] _ _ ?_ (by simp (maxSteps := 2000000) only [↓Za, ↓Zm, ↓Zr, ↓Ze, ↓Zk, ↓Zs, ↓Zf, ↓Zi, ↓Zg, ↓Zc, ↓Zb, ↓vdn, vup, Zl, Zn, Zh, Zj, Zo, List.map_cons, List.map_nil, cond_true, cond_false, aop, Zv, Zq, Zp, ev, sput, Zt, Zy, Ya, unK, Zd, Zw, Nat.reduceBEq, Nat.reduceAdd, Int.reduceBEq, Int.reduceBNe, Int.reduceLT, Zu, Zz, tup, tyf])
        clear hN12
        try clear N12
        refine Yc fun N13 hN13 => ?_
        simp (maxSteps := 2000000) only [s106, ↓Za, ↓Zm, ↓Zr, ↓Ze, ↓Zk, ↓Zs, ↓Zf, ↓Zi, ↓Zg, ↓Zc, ↓Zb, ↓vdn, vup, Zl, Zn, Zh, Zj, Zo, List.map_cons, List.map_nil, cond_true, cond_false, aop, Zv, Zq, Zp, ev, sput, Zt, Zy, Ya, unK, Zd, Zw, Nat.reduceBEq, Nat.reduceAdd, Int.reduceBEq, Int.reduceBNe, Int.reduceLT, Zu, Zz, tup, tyf]
        refine hQb _ _ _ (hQa _ _ _ ?_)
        simp (maxSteps := 2000000) only [s106, ↓Za, ↓Zm, ↓Zr, ↓Ze, ↓Zk, ↓Zs, ↓Zf, ↓Zi, ↓Zg, ↓Zc, ↓Zb, ↓vdn, vup, Zl, Zn, Zh, Zj, Zo, List.map_cons, List.map_nil, cond_true, cond_false, aop, Zv, Zq, Zp, ev, sput, Zt, Zy, Ya, unK, Zd, Zw, Nat.reduceBEq, Nat.reduceAdd, Int.reduceBEq, Int.reduceBNe, Int.reduceLT, Zu, Zz, tup, tyf, if_true]
        have hXc : X (andTo (cmF o pre) (bhF (lin o k)) 6) = X (cmF o (pre ++ [k])) := by
          rw [hX]
          simp only
          rw [sixC_congr (f := andTo (cmF o pre) (bhF (lin o k)) 6) (g := cmF o (pre ++ [k])) fun i hi => by rw [andTo, if_pos hi, cmF_snoc]]
        rw [hXc]
        refine hY [(1, Zx (s + 1 : Nat)), (3, .pointer (some ⟨po, 0, none⟩)), (4, .pointer (some ⟨pa, 0, none⟩)), (5, .pointer (some ⟨ps, 0, none⟩)), (6, .pointer (some ⟨pf, 0, none⟩)), (7, .pointer (some ⟨pg, 0, none⟩)), (10, .pointer (some ⟨h.length, 0, none⟩)), (11, .bool false), (12, Zx (k : Nat)), (13, .pointer (some ⟨G.length, 0, none⟩)), (30, .bool false)] _ _ ?_ (by simp (maxSteps := 2000000) only [↓Za, ↓Zm, ↓Zr, ↓Ze, ↓Zk, ↓Zs, ↓Zf, ↓Zi, ↓Zg, ↓Zc, ↓Zb, ↓vdn, vup, Zl, Zn, Zh, Zj, Zo, List.map_cons, List.map_nil, cond_true, cond_false, aop, Zv, Zq, Zp, ev, sput, Zt, Zy, Ya, unK, Zd, Zw, Nat.reduceBEq, Nat.reduceAdd, Int.reduceBEq, Int.reduceBNe, Int.reduceLT, Zu, Zz, tup, tyf])
        clear hY
        try clear Y
        obtain ⟨C, hC⟩ : ∃ C, C = cmF o (pre ++ [k]) := ⟨_, rfl⟩
        obtain ⟨G3, hG3⟩ : ∃ z, z = X C := ⟨_, rfl⟩
        rw [← hC, ← hG3]
        have e3 : Ext (fun _ => False) G G3 := hG3 ▸ xE C
        have g13 : G3[G.length]? = some (.cells (sixC C) 121 false) := hG3 ▸ xX C
        have k3 := kG.ext e3
        have f3 := fG.ext e3
        have b3 := (e3.2 _ (Yn bG) id).trans bG
        have hpk' : ∀ j ∈ pre ++ [k], j < cn o := fun j hj => by
          rcases List.mem_append.1 hj with h1 | h1
          · exact hpk j h1
          · rw [List.mem_singleton.1 h1]; exact hk'
        have hpne : pre ++ [k] ≠ [] := by simp
        have hnext : ∀ (fv' : Value) (G' : Yb), Ext (gS2 pf fv1) G G' → gB2 G fv1 fv' → FD h0 pf G' fv' pre → G'[h.length]? = some (.cells (sixC (cmF o pre)) 121 false) → srch (sepB o) (cn o) 1 s (k + 1) (pre ++ [k]) = none → ∀ e, ELe e [(1, Zx (s + 1 : Nat)), (3, .pointer (some ⟨po, 0, none⟩)), (4, .pointer (some ⟨pa, 0, none⟩)), (5, .pointer (some ⟨ps, 0, none⟩)), (6, .pointer (some ⟨pf, 0, none⟩)), (7, .pointer (some ⟨pg, 0, none⟩)), (10, .pointer (some ⟨h.length, 0, none⟩)), (11, .bool false), (12, Zx (k : Nat)), (30, .bool false)] → B e G' := by
          intro fv' G' q1 q2 q3 q4 q5 e he
          refine hB _ _ _ ?_ he
          refine Yl ?_
          simp (maxSteps := 2000000) only [s106, ↓Za, ↓Zm, ↓Zr, ↓Ze, ↓Zk, ↓Zs, ↓Zf, ↓Zi, ↓Zg, ↓Zc, ↓Zb, ↓vdn, vup, Zl, Zn, Zh, Zj, Zo, List.map_cons, List.map_nil, cond_true, cond_false, aop, Zv, Zq, Zp, ev, sput, Zt, Zy, Ya, unK, Zd, Zw, Nat.reduceBEq, Nat.reduceAdd, Int.reduceBEq, Int.reduceBNe, Int.reduceLT, Zu, Zz, tup, tyf, add1 (show k < 9223372036854775807 by omega)]
          refine hQ2 _ _ _ ⟨(k + 1, fv', G'), ⟨by simp only; omega, hk', extS eG gG q1, gG.trans eG.1 q2, q3, q4, fun j h1 h2 => ?_⟩, by simp only; omega, by simp (maxSteps := 2000000) only [↓Za, ↓Zm, ↓Zr, ↓Ze, ↓Zk, ↓Zs, ↓Zf, ↓Zi, ↓Zg, ↓Zc, ↓Zb, ↓vdn, vup, Zl, Zn, Zh, Zj, Zo, List.map_cons, List.map_nil, cond_true, cond_false, aop, Zv, Zq, Zp, ev, sput, Zt, Zy, Ya, unK, Zd, Zw, Nat.reduceBEq, Nat.reduceAdd, Int.reduceBEq, Int.reduceBNe, Int.reduceLT, Zu, Zz, tup, tyf], rfl⟩
          by_cases he : j = k
          · rw [he]; exact q5
          · exact hno j h1 (by simp only at h2; omega)
        refine Yh fun R hR => ?_
        have rest : (s = 0 → sepB o (pre ++ [k]) = true) → ∀ e, ELe e [(1, Zx (s + 1 : Nat)), (3, .pointer (some ⟨po, 0, none⟩)), (4, .pointer (some ⟨pa, 0, none⟩)), (5, .pointer (some ⟨ps, 0, none⟩)), (6, .pointer (some ⟨pf, 0, none⟩)), (7, .pointer (some ⟨pg, 0, none⟩)), (10, .pointer (some ⟨h.length, 0, none⟩)), (11, .bool false), (12, Zx (k : Nat)), (13, .pointer (some ⟨G.length, 0, none⟩)), (30, .bool false)] → R e G3 := by
          intro hsep e he
          refine hR _ _ _ ?_ he
          -- the list grows
          refine Yc fun N14 hN14 => ?_
          simp (maxSteps := 2000000) only [s106, ↓Za, ↓Zm, ↓Zr, ↓Ze, ↓Zk, ↓Zs, ↓Zf, ↓Zi, ↓Zg, ↓Zc, ↓Zb, ↓vdn, vup, Zl, Zn, Zh, Zj, Zo, List.map_cons, List.map_nil, cond_true, cond_false, aop, Zv, Zq, Zp, ev, sput, Zt, Zy, Ya, unK, Zd, Zw, Nat.reduceBEq, Nat.reduceAdd, Int.reduceBEq, Int.reduceBNe, Int.reduceLT, Zu, Zz, tup, tyf, Xi f3.bx Xq, litI1]
          refine OwnSl.append (x := (k : Int)) (f3.own.ext (S := fun _ => False) (Ext.app _ _ _) (fun _ _ => id)) Vl (by rw [iL_len]; omega) (Yv _ _) ?_
          intro fv2 G4 ho' hE' hb'
          rw [iL_snoc] at ho'
          have hE4 : Ext (fun i => Yd fv1 = some i) G3 G4 := ((Ext.app (fun _ => False) G3 _).mono fun _ h => h.elim).trans hE'
          have hb4 : gB2 G3 fv1 fv2 := by
            rcases hb' with h1 | ⟨b, h1, h2⟩
            · exact .inl h1
            · exact .inr ⟨b, h1, by rw [List.length_append] at h2; omega⟩
          have hpf4 : G4[pf]? = some (.cells [fv1] 22 false) := (hE4.2 pf (Yn f3.bx) (f3.own.notCells f3.bx)).trans f3.bx
          simp (maxSteps := 2000000) only [s106, ↓Za, ↓Zm, ↓Zr, ↓Ze, ↓Zk, ↓Zs, ↓Zf, ↓Zi, ↓Zg, ↓Zc, ↓Zb, ↓vdn, vup, Zl, Zn, Zh, Zj, Zo, List.map_cons, List.map_nil, cond_true, cond_false, aop, Zv, Zq, Zp, ev, sput, Zt, Zy, Ya, unK, Zd, Zw, Nat.reduceBEq, Nat.reduceAdd, Int.reduceBEq, Int.reduceBNe, Int.reduceLT, Zu, Zz, tup, tyf, store1 hpf4 Xq ho'.one]
          obtain ⟨G5, hG5⟩ : ∃ z, z = G4.set pf (.cells [fv2] 22 false) := ⟨_, rfl⟩
          rw [← hG5]
          have hE5 : Ext (gS2 pf fv1) G3 G5 := by
            rw [hG5]
            exact (hE4.mono fun _ h => .inr h).trans (Ext.set _ (.inl rfl))
          have e35 : Ext (gS2 pf fv1) G G5 := (e3.mono fun _ h => h.elim).trans hE5
          have hfr2 : ∀ b, Yd fv2 = some b → h0.length ≤ b := fun b hb => by
            rcases hb4 with h1 | ⟨b', h1, h2⟩
            · exact f3.fr b (h1 ▸ hb)
            · rw [h1] at hb; cases hb
              have := k3.1; omega
          have f5 : FD h0 pf G5 fv2 (pre ++ [k]) := ⟨by rw [hG5]; exact Xw (Yn hpf4) _, ho'.same fun b hb => by
            rw [hG5, List.getElem?_set_ne]
            have := hfr2 b hb; have := re.f; omega, hfr2⟩
          have k5 : KH h0 pf G5 := kG.go fG.fr e35
          have keep5 : ∀ {b : Nat} {c : List Value} {e : TypeId}, G3[b]? = some (.cells c e false) → b ≠ pf → G5[b]? = some (.cells c e false) := fun {b c e} hb hn => by
            rw [hE5.2 b (Yn hb) fun hc => by
              rcases hc with hc | hc
              · exact hn hc
              · exact f3.own.notCells hb hc]
            exact hb
          have hph : pf < h0.length := re.f
          have hGl : h.length ≤ G.length := eG.1
          have b5 := keep5 b3 (by omega)
          have g5 := keep5 g13 (by omega)
          have gg5 := k5.at_ re.gb re.fg
          have hs1 : subV .i64 ((s + 1 : Nat) : Int) 1 = ((s : Nat) : Int) := by rw [subV_id (by omega) (by omega)]; omega
          refine hN14 [(1, Zx (s + 1 : Nat)), (3, .pointer (some ⟨po, 0, none⟩)), (4, .pointer (some ⟨pa, 0, none⟩)), (5, .pointer (some ⟨ps, 0, none⟩)), (6, .pointer (some ⟨pf, 0, none⟩)), (7, .pointer (some ⟨pg, 0, none⟩)), (10, .pointer (some ⟨h.length, 0, none⟩)), (11, .bool false), (12, Zx (k : Nat)), (13, .pointer (some ⟨G.length, 0, none⟩)), (30, .bool false)] _ _ ?_ (by simp (maxSteps := 2000000) only [↓Za, ↓Zm, ↓Zr, ↓Ze, ↓Zk, ↓Zs, ↓Zf, ↓Zi, ↓Zg, ↓Zc, ↓Zb, ↓vdn, vup, Zl, Zn, Zh, Zj, Zo, List.map_cons, List.map_nil, cond_true, cond_false, aop, Zv, Zq, Zp, ev, sput, Zt, Zy, Ya, unK, Zd, Zw, Nat.reduceBEq, Nat.reduceAdd, Int.reduceBEq, Int.reduceBNe, Int.reduceLT, Zu, Zz, tup, tyf])
          clear hN14
          try clear N14
          have ihc := ih (k + 1) (pre ++ [k]) G5 fv2 (fun _ => hpne) (by rw [List.length_append, List.length_singleton]; omega) hpk' hk' k5 f5
          rw [← hC] at ihc
          refine Yh fun V hV => ?_
          refine Yc fun N15 hN15 => ?_
          simp (maxSteps := 2000000) only [s106, ↓Za, ↓Zm, ↓Zr, ↓Ze, ↓Zk, ↓Zs, ↓Zf, ↓Zi, ↓Zg, ↓Zc, ↓Zb, ↓vdn, vup, Zl, Zn, Zh, Zj, Zo, List.map_cons, List.map_nil, cond_true, cond_false, aop, Zv, Zq, Zp, ev, sput, Zt, Zy, Ya, unK, Zd, Zw, Nat.reduceBEq, Nat.reduceAdd, Int.reduceBEq, Int.reduceBNe, Int.reduceLT, Zu, Zz, tup, tyf, Xi gg5 shp_123, add1 (show k < 9223372036854775807 by omega), hs1, six_load g5 sh, Xf, List.nil_append, List.append_nil, List.toList_toArray, List.cons_append]
          refine ihc.mono ?_
          rintro r G6 ⟨e6, fv3, b6, hres⟩
          have e56 : Ext (gS2 pf fv1) G G6 := extS e35 (by
            rcases hb4 with h1 | ⟨b', h1, h2⟩
            · exact .inl h1
            · exact .inr ⟨b', h1, by have := e3.1; omega⟩) e6
          have gb2 : gB2 G fv1 fv2 := by
            rcases hb4 with h1 | ⟨b', h1, h2⟩
            · exact .inl h1
            · exact .inr ⟨b', h1, by have := e3.1; omega⟩
          have gb3 : gB2 G fv1 fv3 := gb2.trans e35.1 b6
          have keep6 : ∀ {b : Nat} {c : List Value} {e : TypeId}, G5[b]? = some (.cells c e false) → b ≠ pf → G6[b]? = some (.cells c e false) := fun {b c e} hb hn => by
            rw [e6.2 b (Yn hb) fun hc => by
              rcases hc with hc | hc
              · exact hn hc
              · exact f5.own.notCells hb hc]
            exact hb
          have b6c := keep6 b5 (by omega)
          cases hsr : srch (sepB o) (cn o) 1 s (k + 1) (pre ++ [k]) with
          | some q =>
            rw [hsr] at hres
            obtain ⟨rfl, f6⟩ := hres
            refine hN15 [(1, Zx (s + 1 : Nat)), (3, .pointer (some ⟨po, 0, none⟩)), (4, .pointer (some ⟨pa, 0, none⟩)), (5, .pointer (some ⟨ps, 0, none⟩)), (6, .pointer (some ⟨pf, 0, none⟩)), (7, .pointer (some ⟨pg, 0, none⟩)), (10, .pointer (some ⟨h.length, 0, none⟩)), (11, .bool false), (12, Zx (k : Nat)), (13, .pointer (some ⟨G.length, 0, none⟩)), (30, .bool false), (62, .bool true)] _ _ ?_ (by simp (maxSteps := 2000000) only [↓Za, ↓Zm, ↓Zr, ↓Ze, ↓Zk, ↓Zs, ↓Zf, ↓Zi, ↓Zg, ↓Zc, ↓Zb, ↓vdn, vup, Zl, Zn, Zh, Zj, Zo, List.map_cons, List.map_nil, cond_true, cond_false, aop, Zv, Zq, Zp, ev, sput, Zt, Zy, Ya, unK, Zd, Zw, Nat.reduceBEq, Nat.reduceAdd, Int.reduceBEq, Int.reduceBNe, Int.reduceLT, Zu, Zz, tup, tyf])
            clear hN15
            try clear N15
            refine Wu rfl ?_
            refine Yl ?_
            simp (maxSteps := 2000000) only [s106, ↓Za, ↓Zm, ↓Zr, ↓Ze, ↓Zk, ↓Zs, ↓Zf, ↓Zi, ↓Zg, ↓Zc, ↓Zb, ↓vdn, vup, Zl, Zn, Zh, Zj, Zo, List.map_cons, List.map_nil, cond_true, cond_false, aop, Zv, Zq, Zp, ev, sput, Zt, Zy, Ya, unK, Zd, Zw, Nat.reduceBEq, Nat.reduceAdd, Int.reduceBEq, Int.reduceBNe, Int.reduceLT, Zu, Zz, tup, tyf]
            refine hQ2 _ _ _ (hQ _ _ _ ?_)
            have hfind : srch (sepB o) (cn o) 1 (s + 1) fr pre = some q := by rw [srch]; exact find_hit hno hk1 hk' hsr
            simp (maxSteps := 2000000) only [s106, ↓Za, ↓Zm, ↓Zr, ↓Ze, ↓Zk, ↓Zs, ↓Zf, ↓Zi, ↓Zg, ↓Zc, ↓Zb, ↓vdn, vup, Zl, Zn, Zh, Zj, Zo, List.map_cons, List.map_nil, cond_true, cond_false, aop, Zv, Zq, Zp, ev, sput, Zt, Zy, Ya, unK, Zd, Zw, Nat.reduceBEq, Nat.reduceAdd, Int.reduceBEq, Int.reduceBNe, Int.reduceLT, Zu, Zz, tup, tyf, hfind]
            exact ⟨extS eG gG e56, fv3, gG.trans eG.1 gb3, f6⟩
          | none =>
            rw [hsr] at hres
            obtain ⟨rfl, f6⟩ := hres
            refine hN15 [(1, Zx (s + 1 : Nat)), (3, .pointer (some ⟨po, 0, none⟩)), (4, .pointer (some ⟨pa, 0, none⟩)), (5, .pointer (some ⟨ps, 0, none⟩)), (6, .pointer (some ⟨pf, 0, none⟩)), (7, .pointer (some ⟨pg, 0, none⟩)), (10, .pointer (some ⟨h.length, 0, none⟩)), (11, .bool false), (12, Zx (k : Nat)), (13, .pointer (some ⟨G.length, 0, none⟩)), (30, .bool false), (62, .bool false)] _ _ ?_ (by simp (maxSteps := 2000000) only [↓Za, ↓Zm, ↓Zr, ↓Ze, ↓Zk, ↓Zs, ↓Zf, ↓Zi, ↓Zg, ↓Zc, ↓Zb, ↓vdn, vup, Zl, Zn, Zh, Zj, Zo, List.map_cons, List.map_nil, cond_true, cond_false, aop, Zv, Zq, Zp, ev, sput, Zt, Zy, Ya, unK, Zd, Zw, Nat.reduceBEq, Nat.reduceAdd, Int.reduceBEq, Int.reduceBNe, Int.reduceLT, Zu, Zz, tup, tyf])
            clear hN15
            try clear N15
            refine Xy rfl ?_
            refine Yl ?_
            simp (maxSteps := 2000000) only [s106, ↓Za, ↓Zm, ↓Zr, ↓Ze, ↓Zk, ↓Zs, ↓Zf, ↓Zi, ↓Zg, ↓Zc, ↓Zb, ↓vdn, vup, Zl, Zn, Zh, Zj, Zo, List.map_cons, List.map_nil, cond_true, cond_false, aop, Zv, Zq, Zp, ev, sput, Zt, Zy, Ya, unK, Zd, Zw, Nat.reduceBEq, Nat.reduceAdd, Int.reduceBEq, Int.reduceBNe, Int.reduceLT, Zu, Zz, tup, tyf]
            refine hV [(1, Zx (s + 1 : Nat)), (3, .pointer (some ⟨po, 0, none⟩)), (4, .pointer (some ⟨pa, 0, none⟩)), (5, .pointer (some ⟨ps, 0, none⟩)), (6, .pointer (some ⟨pf, 0, none⟩)), (7, .pointer (some ⟨pg, 0, none⟩)), (10, .pointer (some ⟨h.length, 0, none⟩)), (11, .bool false), (12, Zx (k : Nat)), (13, .pointer (some ⟨G.length, 0, none⟩)), (30, .bool false)] _ _ ?_ (by simp (maxSteps := 2000000) only [↓Za, ↓Zm, ↓Zr, ↓Ze, ↓Zk, ↓Zs, ↓Zf, ↓Zi, ↓Zg, ↓Zc, ↓Zb, ↓vdn, vup, Zl, Zn, Zh, Zj, Zo, List.map_cons, List.map_nil, cond_true, cond_false, aop, Zv, Zq, Zp, ev, sput, Zt, Zy, Ya, unK, Zd, Zw, Nat.reduceBEq, Nat.reduceAdd, Int.reduceBEq, Int.reduceBNe, Int.reduceLT, Zu, Zz, tup, tyf])
            clear hV
            try clear V
            have hl6 : (iL (pre ++ [k])).length = pre.length + 1 := by rw [iL_len]; simp
            have hsub : subV .i64 ((pre.length + 1 : Nat) : Int) 1 = ((pre.length : Nat) : Int) := by rw [subV_id (by omega) (by omega)]; omega
            have ho6 : OwnSl 3 G6 fv3 (iL pre ++ [((k : Nat) : Int)]) := by rw [iL_snoc]; exact f6.own
            refine Yl ?_
            simp (maxSteps := 2000000) only [s106, ↓Za, ↓Zm, ↓Zr, ↓Ze, ↓Zk, ↓Zs, ↓Zf, ↓Zi, ↓Zg, ↓Zc, ↓Zb, ↓vdn, vup, Zl, Zn, Zh, Zj, Zo, List.map_cons, List.map_nil, cond_true, cond_false, aop, Zv, Zq, Zp, ev, sput, Zt, Zy, Ya, unK, Zd, Zw, Nat.reduceBEq, Nat.reduceAdd, Int.reduceBEq, Int.reduceBNe, Int.reduceLT, Zu, Zz, tup, tyf, Xi f6.bx Xq, f6.own.int.len, hl6, hsub]
            rw [← iL_len pre]
            refine ho6.cut Wk Xs ?_
            intro fv4 ho4 hb7
            simp (maxSteps := 2000000) only [s106, ↓Za, ↓Zm, ↓Zr, ↓Ze, ↓Zk, ↓Zs, ↓Zf, ↓Zi, ↓Zg, ↓Zc, ↓Zb, ↓vdn, vup, Zl, Zn, Zh, Zj, Zo, List.map_cons, List.map_nil, cond_true, cond_false, aop, Zv, Zq, Zp, ev, sput, Zt, Zy, Ya, unK, Zd, Zw, Nat.reduceBEq, Nat.reduceAdd, Int.reduceBEq, Int.reduceBNe, Int.reduceLT, Zu, Zz, tup, tyf, store1 f6.bx Xq ho4.one]
            have hne4 : ∀ b, Yd fv4 = some b → b ≠ pf := fun b hb => by
              have := f6.fr b (hb7 ▸ hb); omega
            refine hnext fv4 _ (e56.trans (Ext.set _ (.inl rfl))) ?_ ⟨Xw (Yn f6.bx) _, ho4.same fun b hb => List.getElem?_set_ne (Ne.symm (hne4 b hb)), fun b hb => f6.fr b (hb7 ▸ hb)⟩ ?_ hsr _ (by simp (maxSteps := 2000000) only [↓Za, ↓Zm, ↓Zr, ↓Ze, ↓Zk, ↓Zs, ↓Zf, ↓Zi, ↓Zg, ↓Zc, ↓Zb, ↓vdn, vup, Zl, Zn, Zh, Zj, Zo, List.map_cons, List.map_nil, cond_true, cond_false, aop, Zv, Zq, Zp, ev, sput, Zt, Zy, Ya, unK, Zd, Zw, Nat.reduceBEq, Nat.reduceAdd, Int.reduceBEq, Int.reduceBNe, Int.reduceLT, Zu, Zz, tup, tyf])
            · rcases gb3 with h1 | ⟨b', h1, h2⟩
              · exact .inl (hb7.trans h1)
              · exact .inr ⟨b', hb7.trans h1, h2⟩
            · rw [List.getElem?_set_ne (by omega)]; exact b6c
        have k3o := k3.at_ re.ob re.fo
        have hdec : eq6 C (bt o) = sepB o (pre ++ [k]) := by
          rw [hC, Bool.eq_iff_iff, eq6_iff]; exact cmF_sep ho hpne hpk'
        by_cases h0s : s = 0
        · have e1 : (((s + 1 : Nat) : Int) == 1) = true := by rw [h0s]; rfl
          refine Yc fun N16 hN16 => ?_
          simp only [q106_12]
          refine aw_regcut 6 fun N1 hN1 => ?_
          simp (maxSteps := 2000000) only [s106, ↓Za, ↓Zm, ↓Zr, ↓Ze, ↓Zk, ↓Zs, ↓Zf, ↓Zi, ↓Zg, ↓Zc, ↓Zb, ↓vdn, vup, Zl, Zn, Zh, Zj, Zo, List.map_cons, List.map_nil, cond_true, cond_false, aop, Zv, Zq, Zp, ev, sput, Zt, Zy, Ya, unK, Zd, Zw, Nat.reduceBEq, Nat.reduceAdd, Int.reduceBEq, Int.reduceBNe, Int.reduceLT, Zu, Zz, tup, tyf, List.take_succ_cons, List.take_zero, e1, six_load g13 sh, f1, load75 ho k3o]
          refine hN1 _ _ ?_
          clear hN1 N1
          simp only [List.drop_succ_cons, List.drop_zero]
          refine aw_regcut 1 fun N1 hN1 => ?_
          simp (maxSteps := 2000000) only [s106, ↓Za, ↓Zm, ↓Zr, ↓Ze, ↓Zk, ↓Zs, ↓Zf, ↓Zi, ↓Zg, ↓Zc, ↓Zb, ↓vdn, vup, Zl, Zn, Zh, Zj, Zo, List.map_cons, List.map_nil, cond_true, cond_false, aop, Zv, Zq, Zp, ev, sput, Zt, Zd, Nat.reduceBEq, Nat.reduceAdd, Int.reduceBEq, Int.reduceBNe, Int.reduceLT, Zu, Zz, tup, tyf, List.take_succ_cons, List.take_zero, bin6n, hdec]
          refine hN1 _ _ ?_
          clear hN1 N1
          simp only [List.drop_succ_cons, List.drop_zero]
          cases hsp : sepB o (pre ++ [k]) with
          | true =>
            simp (maxSteps := 2000000) only [s106, ↓Za, ↓Zm, ↓Zr, ↓Ze, ↓Zk, ↓Zs, ↓Zf, ↓Zi, ↓Zg, ↓Zc, ↓Zb, ↓vdn, vup, Zl, Zn, Zh, Zj, Zo, List.map_cons, List.map_nil, cond_true, cond_false, aop, Zv, Zq, Zp, ev, sput, Zt, Zy, Ya, unK, Zd, Zw, Nat.reduceBEq, Nat.reduceAdd, Int.reduceBEq, Int.reduceBNe, Int.reduceLT, Zu, Zz, tup, tyf, Bool.not_true]
            refine hN16 [(1, Zx (s + 1 : Nat)), (3, .pointer (some ⟨po, 0, none⟩)), (4, .pointer (some ⟨pa, 0, none⟩)), (5, .pointer (some ⟨ps, 0, none⟩)), (6, .pointer (some ⟨pf, 0, none⟩)), (7, .pointer (some ⟨pg, 0, none⟩)), (10, .pointer (some ⟨h.length, 0, none⟩)), (11, .bool false), (12, Zx (k : Nat)), (13, .pointer (some ⟨G.length, 0, none⟩)), (30, .bool false), (51, .bool false)] _ _ ?_ (by simp (maxSteps := 2000000) only [↓Za, ↓Zm, ↓Zr, ↓Ze, ↓Zk, ↓Zs, ↓Zf, ↓Zi, ↓Zg, ↓Zc, ↓Zb, ↓vdn, vup, Zl, Zn, Zh, Zj, Zo, List.map_cons, List.map_nil, cond_true, cond_false, aop, Zv, Zq, Zp, ev, sput, Zt, Zy, Ya, unK, Zd, Zw, Nat.reduceBEq, Nat.reduceAdd, Int.reduceBEq, Int.reduceBNe, Int.reduceLT, Zu, Zz, tup, tyf])
            clear hN16
            try clear N16
            refine Xy rfl ?_
            refine Yl ?_
            simp (maxSteps := 2000000) only [s106, ↓Za, ↓Zm, ↓Zr, ↓Ze, ↓Zk, ↓Zs, ↓Zf, ↓Zi, ↓Zg, ↓Zc, ↓Zb, ↓vdn, vup, Zl, Zn, Zh, Zj, Zo, List.map_cons, List.map_nil, cond_true, cond_false, aop, Zv, Zq, Zp, ev, sput, Zt, Zy, Ya, unK, Zd, Zw, Nat.reduceBEq, Nat.reduceAdd, Int.reduceBEq, Int.reduceBNe, Int.reduceLT, Zu, Zz, tup, tyf]
            exact rest (fun _ => hsp) _ (by simp (maxSteps := 2000000) only [↓Za, ↓Zm, ↓Zr, ↓Ze, ↓Zk, ↓Zs, ↓Zf, ↓Zi, ↓Zg, ↓Zc, ↓Zb, ↓vdn, vup, Zl, Zn, Zh, Zj, Zo, List.map_cons, List.map_nil, cond_true, cond_false, aop, Zv, Zq, Zp, ev, sput, Zt, Zy, Ya, unK, Zd, Zw, Nat.reduceBEq, Nat.reduceAdd, Int.reduceBEq, Int.reduceBNe, Int.reduceLT, Zu, Zz, tup, tyf])
          | false =>
            simp (maxSteps := 2000000) only [s106, ↓Za, ↓Zm, ↓Zr, ↓Ze, ↓Zk, ↓Zs, ↓Zf, ↓Zi, ↓Zg, ↓Zc, ↓Zb, ↓vdn, vup, Zl, Zn, Zh, Zj, Zo, List.map_cons, List.map_nil, cond_true, cond_false, aop, Zv, Zq, Zp, ev, sput, Zt, Zy, Ya, unK, Zd, Zw, Nat.reduceBEq, Nat.reduceAdd, Int.reduceBEq, Int.reduceBNe, Int.reduceLT, Zu, Zz, tup, tyf, Bool.not_false]
            refine hN16 [(1, Zx (s + 1 : Nat)), (3, .pointer (some ⟨po, 0, none⟩)), (4, .pointer (some ⟨pa, 0, none⟩)), (5, .pointer (some ⟨ps, 0, none⟩)), (6, .pointer (some ⟨pf, 0, none⟩)), (7, .pointer (some ⟨pg, 0, none⟩)), (10, .pointer (some ⟨h.length, 0, none⟩)), (11, .bool false), (12, Zx (k : Nat)), (13, .pointer (some ⟨G.length, 0, none⟩)), (30, .bool false), (51, .bool true)] _ _ ?_ (by simp (maxSteps := 2000000) only [↓Za, ↓Zm, ↓Zr, ↓Ze, ↓Zk, ↓Zs, ↓Zf, ↓Zi, ↓Zg, ↓Zc, ↓Zb, ↓vdn, vup, Zl, Zn, Zh, Zj, Zo, List.map_cons, List.map_nil, cond_true, cond_false, aop, Zv, Zq, Zp, ev, sput, Zt, Zy, Ya, unK, Zd, Zw, Nat.reduceBEq, Nat.reduceAdd, Int.reduceBEq, Int.reduceBNe, Int.reduceLT, Zu, Zz, tup, tyf])
            clear hN16
            try clear N16
            refine Wu rfl ?_
            refine Yl ?_
            simp (maxSteps := 2000000) only [s106, ↓Za, ↓Zm, ↓Zr, ↓Ze, ↓Zk, ↓Zs, ↓Zf, ↓Zi, ↓Zg, ↓Zc, ↓Zb, ↓vdn, vup, Zl, Zn, Zh, Zj, Zo, List.map_cons, List.map_nil, cond_true, cond_false, aop, Zv, Zq, Zp, ev, sput, Zt, Zy, Ya, unK, Zd, Zw, Nat.reduceBEq, Nat.reduceAdd, Int.reduceBEq, Int.reduceBNe, Int.reduceLT, Zu, Zz, tup, tyf]
            refine hnext fv1 G3 (e3.mono fun _ h => h.elim) (.inl rfl) f3 b3 ?_ _ (by simp (maxSteps := 2000000) only [↓Za, ↓Zm, ↓Zr, ↓Ze, ↓Zk, ↓Zs, ↓Zf, ↓Zi, ↓Zg, ↓Zc, ↓Zb, ↓vdn, vup, Zl, Zn, Zh, Zj, Zo, List.map_cons, List.map_nil, cond_true, cond_false, aop, Zv, Zq, Zp, ev, sput, Zt, Zy, Ya, unK, Zd, Zw, Nat.reduceBEq, Nat.reduceAdd, Int.reduceBEq, Int.reduceBNe, Int.reduceLT, Zu, Zz, tup, tyf])
            rw [h0s, srch, hsp]; rfl
        · have e1 : (((s + 1 : Nat) : Int) == 1) = false := by rw [beq_eq_false_iff_ne]; omega
          refine Yc fun N17 hN17 => ?_
          simp (maxSteps := 2000000) only [s106, ↓Za, ↓Zm, ↓Zr, ↓Ze, ↓Zk, ↓Zs, ↓Zf, ↓Zi, ↓Zg, ↓Zc, ↓Zb, ↓vdn, vup, Zl, Zn, Zh, Zj, Zo, List.map_cons, List.map_nil, cond_true, cond_false, aop, Zv, Zq, Zp, ev, sput, Zt, Zy, Ya, unK, Zd, Zw, Nat.reduceBEq, Nat.reduceAdd, Int.reduceBEq, Int.reduceBNe, Int.reduceLT, Zu, Zz, tup, tyf, e1]
          refine hN17 [(1, Zx (s + 1 : Nat)), (3, .pointer (some ⟨po, 0, none⟩)), (4, .pointer (some ⟨pa, 0, none⟩)), (5, .pointer (some ⟨ps, 0, none⟩)), (6, .pointer (some ⟨pf, 0, none⟩)), (7, .pointer (some ⟨pg, 0, none⟩)), (10, .pointer (some ⟨h.length, 0, none⟩)), (11, .bool false), (12, Zx (k : Nat)), (13, .pointer (some ⟨G.length, 0, none⟩)), (30, .bool false), (51, .bool false)] _ _ ?_ (by simp (maxSteps := 2000000) only [↓Za, ↓Zm, ↓Zr, ↓Ze, ↓Zk, ↓Zs, ↓Zf, ↓Zi, ↓Zg, ↓Zc, ↓Zb, ↓vdn, vup, Zl, Zn, Zh, Zj, Zo, List.map_cons, List.map_nil, cond_true, cond_false, aop, Zv, Zq, Zp, ev, sput, Zt, Zy, Ya, unK, Zd, Zw, Nat.reduceBEq, Nat.reduceAdd, Int.reduceBEq, Int.reduceBNe, Int.reduceLT, Zu, Zz, tup, tyf])
          clear hN17
          try clear N17
          refine Xy rfl ?_
          refine Yl ?_
          simp (maxSteps := 2000000) only [s106, ↓Za, ↓Zm, ↓Zr, ↓Ze, ↓Zk, ↓Zs, ↓Zf, ↓Zi, ↓Zg, ↓Zc, ↓Zb, ↓vdn, vup, Zl, Zn, Zh, Zj, Zo, List.map_cons, List.map_nil, cond_true, cond_false, aop, Zv, Zq, Zp, ev, sput, Zt, Zy, Ya, unK, Zd, Zw, Nat.reduceBEq, Nat.reduceAdd, Int.reduceBEq, Int.reduceBNe, Int.reduceLT, Zu, Zz, tup, tyf]
          exact rest (fun h => absurd h h0s) _ (by simp (maxSteps := 2000000) only [↓Za, ↓Zm, ↓Zr, ↓Ze, ↓Zk, ↓Zs, ↓Zf, ↓Zi, ↓Zg, ↓Zc, ↓Zb, ↓vdn, vup, Zl, Zn, Zh, Zj, Zo, List.map_cons, List.map_nil, cond_true, cond_false, aop, Zv, Zq, Zp, ev, sput, Zt, Zy, Ya, unK, Zd, Zw, Nat.reduceBEq, Nat.reduceAdd, Int.reduceBEq, Int.reduceBNe, Int.reduceLT, Zu, Zz, tup, tyf])
    · obtain rfl : k = cn o := by omega
      refine Yh fun C hC => ?_
      refine Yc fun N18 hN18 => ?_
      simp (maxSteps := 2000000) only [s106, ↓Za, ↓Zm, ↓Zr, ↓Ze, ↓Zk, ↓Zs, ↓Zf, ↓Zi, ↓Zg, ↓Zc, ↓Zb, ↓vdn, vup, Zl, Zn, Zh, Zj, Zo, List.map_cons, List.map_nil, cond_true, cond_false, aop, Zv, Zq, Zp, ev, sput, Zt, Zy, Ya, unK, Zd, Zw, Nat.reduceBEq, Nat.reduceAdd, Int.reduceBEq, Int.reduceBNe, Int.reduceLT, Zu, Zz, tup, tyf, Xi aG shp_45, re.al, hin]
      refine hN18 [(1, Zx (s + 1 : Nat)), (3, .pointer (some ⟨po, 0, none⟩)), (4, .pointer (some ⟨pa, 0, none⟩)), (5, .pointer (some ⟨ps, 0, none⟩)), (6, .pointer (some ⟨pf, 0, none⟩)), (7, .pointer (some ⟨pg, 0, none⟩)), (10, .pointer (some ⟨h.length, 0, none⟩)), (11, .bool false), (12, Zx (cn o : Nat)), (25, .bool false)] _ _ ?_ (by simp (maxSteps := 2000000) only [↓Za, ↓Zm, ↓Zr, ↓Ze, ↓Zk, ↓Zs, ↓Zf, ↓Zi, ↓Zg, ↓Zc, ↓Zb, ↓vdn, vup, Zl, Zn, Zh, Zj, Zo, List.map_cons, List.map_nil, cond_true, cond_false, aop, Zv, Zq, Zp, ev, sput, Zt, Zy, Ya, unK, Zd, Zw, Nat.reduceBEq, Nat.reduceAdd, Int.reduceBEq, Int.reduceBNe, Int.reduceLT, Zu, Zz, tup, tyf])
      clear hN18
      try clear N18
      refine Xy rfl ?_
      refine Yl ?_
      simp (maxSteps := 2000000) only [s106, ↓Za, ↓Zm, ↓Zr, ↓Ze, ↓Zk, ↓Zs, ↓Zf, ↓Zi, ↓Zg, ↓Zc, ↓Zb, ↓vdn, vup, Zl, Zn, Zh, Zj, Zo, List.map_cons, List.map_nil, cond_true, cond_false, aop, Zv, Zq, Zp, ev, sput, Zt, Zy, Ya, unK, Zd, Zw, Nat.reduceBEq, Nat.reduceAdd, Int.reduceBEq, Int.reduceBNe, Int.reduceLT, Zu, Zz, tup, tyf]
      refine hQ2 _ _ _ (hQ _ _ _ ?_)
      simp (maxSteps := 2000000) only [s106, ↓Za, ↓Zm, ↓Zr, ↓Ze, ↓Zk, ↓Zs, ↓Zf, ↓Zi, ↓Zg, ↓Zc, ↓Zb, ↓vdn, vup, Zl, Zn, Zh, Zj, Zo, List.map_cons, List.map_nil, cond_true, cond_false, aop, Zv, Zq, Zp, ev, sput, Zt, Zy, Ya, unK, Zd, Zw, Nat.reduceBEq, Nat.reduceAdd, Int.reduceBEq, Int.reduceBNe, Int.reduceLT, Zu, Zz, tup, tyf, if_true]
      refine hZ [(1, Zx (s + 1 : Nat)), (3, .pointer (some ⟨po, 0, none⟩)), (4, .pointer (some ⟨pa, 0, none⟩)), (5, .pointer (some ⟨ps, 0, none⟩)), (6, .pointer (some ⟨pf, 0, none⟩)), (7, .pointer (some ⟨pg, 0, none⟩)), (10, .pointer (some ⟨h.length, 0, none⟩)), (11, .bool false), (25, .bool false)] _ _ ?_ (by simp (maxSteps := 2000000) only [↓Za, ↓Zm, ↓Zr, ↓Ze, ↓Zk, ↓Zs, ↓Zf, ↓Zi, ↓Zg, ↓Zc, ↓Zb, ↓vdn, vup, Zl, Zn, Zh, Zj, Zo, List.map_cons, List.map_nil, cond_true, cond_false, aop, Zv, Zq, Zp, ev, sput, Zt, Zy, Ya, unK, Zd, Zw, Nat.reduceBEq, Nat.reduceAdd, Int.reduceBEq, Int.reduceBNe, Int.reduceLT, Zu, Zz, tup, tyf])
      clear hZ
      try clear Z
      have hfind : srch (sepB o) (cn o) 1 (s + 1) fr pre = none := by rw [srch]; exact find_none hno
      refine Yl ?_
      simp (maxSteps := 2000000) only [s106, ↓Za, ↓Zm, ↓Zr, ↓Ze, ↓Zk, ↓Zs, ↓Zf, ↓Zi, ↓Zg, ↓Zc, ↓Zb, ↓vdn, vup, Zl, Zn, Zh, Zj, Zo, List.map_cons, List.map_nil, cond_true, cond_false, aop, Zv, Zq, Zp, ev, sput, Zt, Zy, Ya, unK, Zd, Zw, Nat.reduceBEq, Nat.reduceAdd, Int.reduceBEq, Int.reduceBNe, Int.reduceLT, Zu, Zz, tup, tyf, hfind]
      exact ⟨eG, fv1, gG, fG⟩
end Go.Proofs.Tryd.Am

namespace Go.Proofs.Tryd.Am
open Go.Am Ord
set_option maxRecDepth 100000
set_option maxHeartbeats 1000000

/-- What one element adds. -/
def gF (o : List Int) (n left : Nat) (cur : List Int) (x : Nat) : List (List Int) :=
  if dn o x &&& left = 0 then behind (cur ++ [(x : Int)]) (lines (ab o) n (Am.bits (Wj left (2 ^ x)))) else []
theorem bits_nodup (s : Nat) : (Am.bits s).Nodup := List.nodup_range.filter _
theorem bits_erase {s x : Nat} : (Am.bits s).erase x = Am.bits (Wj s (2 ^ x)) := by
  rw [List.Nodup.erase_eq_filter (bits_nodup s), Am.bits, Am.bits, List.filter_filter]
  refine List.filter_congr fun j _ => ?_
  rw [Xz, Nat.testBit_two_pow]
  by_cases h : j = x
  · subst h; simp
  · simp [h, Ne.symm h]
theorem firsts_bits {o : List Int} (ho : ord o = true) {left : Nat} (hl : left < 2 ^ 63) : Vd (ab o) (Am.bits left) = (Am.bits left).filter fun x => decide (dn o x &&& left = 0) := by
  rw [Vd]
  refine List.filter_congr fun x hx => ?_
  rw [Bool.eq_iff_iff, List.all_eq_true, decide_eq_true_eq]
  constructor
  · intro h
    apply Nat.eq_of_testBit_eq
    intro j
    rw [Nat.testBit_and, Nat.zero_testBit, dn_bit' ho]
    cases hj : left.testBit j with
    | false => rw [Bool.and_false]
    | true =>
      have hj64 : j < 64 := by
        rcases Nat.lt_or_ge j 64 with h1 | h1
        · exact h1
        · rw [Nat.testBit_lt_two_pow (Nat.lt_of_lt_of_le hl (Nat.pow_le_pow_right (by decide) (by omega)))] at hj; cases hj
      have := h j (Wo.2 ⟨hj64, hj⟩)
      rw [Bool.not_eq_true'] at this
      rw [this]; rfl
  · intro h j hj
    have h1 : (dn o x &&& left).testBit j = false := by rw [h, Nat.zero_testBit]
    rw [Nat.testBit_and, dn_bit' ho, (Wo.1 hj).2, Bool.and_true] at h1
    rw [h1]; rfl
theorem gF_all {o : List Int} (ho : ord o = true) {n left : Nat} (hl : left < 2 ^ 63) (cur : List Int) : (Am.bits left).flatMap (gF o n left cur) = behind cur (lines (ab o) (n + 1) (Am.bits left)) := by
  have h1 : ∀ l : List Nat, l.flatMap (gF o n left cur) = (l.filter fun x => decide (dn o x &&& left = 0)).flatMap fun (x : Nat) => behind (cur ++ [(x : Int)]) (lines (ab o) n (Am.bits (Wj left (2 ^ x)))) := by
    intro l
    induction l with
    | nil => rfl
    | cons x l ih =>
      rw [List.flatMap_cons, ih, List.filter_cons, gF]
      by_cases hx : dn o x &&& left = 0
      · rw [if_pos hx, if_pos (by simpa using hx), List.flatMap_cons]
      · rw [if_neg hx, if_neg (by simpa using hx), List.nil_append]
  rw [h1, lines, firsts_bits ho hl, behind, List.map_flatMap]
  congr 1
  funext x
  rw [behind, List.map_map, bits_erase]
  exact List.map_congr_left fun l _ => by simp [Wp]

/-- A copy, told in full. -/
theorem clone_det [Tabs prog] {h : Yb} {v : Value} {xs : List Int} (hv : IntSl h v xs) (hx : xs ≠ []) (hl : xs.length < 1099511627776) : ADet prog 66 [v] h (.slice (some ⟨h.length + 1, 0, some 0⟩) xs.length xs.length) (h ++ [.ints [] 3 false] ++ [.ints xs 3 false]) := by
  refine s66_call (by simp) ?_
  have hv' := hv
  rcases hv with ⟨rfl, rfl⟩ | ⟨b, o, sp, cap, c, e, ro, rfl, hc, hb, _⟩
  · exact absurd rfl hx
  · simp (maxSteps := 2000000) only [s66, ↓Za, ↓Zm, ↓Zr, ↓Ze, ↓Zk, ↓Zs, ↓Zf, ↓Zi, ↓Zg, ↓Zc, ↓Zb, ↓vdn, vup, Zl, Zn, Zh, Zj, Zo, List.map_cons, List.map_nil, cond_true, cond_false, aop, Zv, Zq, Zp, ev, sput, Zt, Zy, Ya, unK, Zd, Zw, Nat.reduceBEq, Nat.reduceAdd, Int.reduceBEq, Int.reduceBNe, Int.reduceLT, Zu, Zz, tup, tyf, Option.isSome_some]
    simp only [Yu, Wk, zero_3, Xs, reps, fillL, mkb, Xj]
    refine And.intro rfl (And.intro Nat.zero_lt_one (And.intro (Nat.zero_le _) ?_))
    refine (hv'.grow [.ints [] 3 false]).copyOwn hx Vl hl (by rw [List.getElem?_append_right (Nat.le_refl _)]; simp) ?_
    exact ⟨by simp, rfl⟩

/-- The search under way: the blocks I lie as in h0; the boxes hold the lines found, and the line that grows. -/
structure LS (I : Nat → Prop) (h0 : Yb) (bo bl : Nat) (h : Yb) (ov lv : Value) (Ls : List (List Int)) (cur : List Int) : Prop where
  len : h0.length ≤ h.length
  keep : ∀ i, I i → h[i]? = h0[i]?
  low : ∀ i, I i → i < h0.length
  o : h[bo]? = some (.cells [ov] 45 false)
  l : h[bl]? = some (.cells [lv] 22 false)
  ne : bo ≠ bl
  no : ¬ I bo
  nl : ¬ I bl
  own : OwnSl 3 h lv cur
  out : ∃ ws, OwnV 22 h ov ws ∧ Each (OwnSl 3 h) ws Ls ∧ ∀ w ∈ ws, ∀ b, Yd w = some b → Yd lv ≠ some b
  apo : ∀ b, Yd ov = some b → ¬ I b ∧ b ≠ bo ∧ b ≠ bl
  apl : ∀ b, Yd lv = some b → ¬ I b
/-- What a run may touch. -/
def gS (bo bl : Nat) (ov lv : Value) (i : Nat) : Prop := i = bo ∨ i = bl ∨ Yd ov = some i ∨ Yd lv = some i
theorem own_ints {e : TypeId} {h : Yb} {v : Value} {xs : List Int} (ho : OwnSl e h v xs) {b : Nat} (hb : Yd v = some b) : ∃ ys e, h[b]? = some (.ints ys e false) := by
  obtain ⟨ys, hy⟩ := ho.ints hb; exact ⟨ys, e, hy⟩
section
variable {I : Nat → Prop} {h0 h h' h1 : Yb} {bo bl : Nat} {ov lv ov' lv' : Value} {Ls : List (List Int)} {cur cur' : List Int}
theorem LS.ext {S : Nat → Prop} (s : LS I h0 bo bl h ov lv Ls cur) (hx : Ext S h h') (h1 : ∀ i, I i → ¬ S i) (h2 : ¬ S bo) (h3 : ¬ S bl) (h4 : ∀ b, Yd ov = some b → ¬ S b) (h5 : ∀ b ys e, h[b]? = some (.ints ys e false) → ¬ S b) : LS I h0 bo bl h' ov lv Ls cur where
  len := Nat.le_trans s.len hx.1
  keep i hi := (hx.2 i (Nat.lt_of_lt_of_le (s.low i hi) s.len) (h1 i hi)).trans (s.keep i hi)
  low := s.low
  o := (hx.2 bo (Yn s.o) h2).trans s.o
  l := (hx.2 bl (Yn s.l) h3).trans s.l
  ne := s.ne
  no := s.no
  nl := s.nl
  own := s.own.same fun b hb => by
    obtain ⟨ys, e, hy⟩ := own_ints s.own hb
    exact hx.2 b (Yn hy) (h5 b ys e hy)
  out := by
    obtain ⟨ws, g1, g2, g3⟩ := s.out
    exact ⟨ws, g1.same fun b hb => hx.2 b (g1.lt hb) (h4 b hb), g2.imp fun w l hw => hw.same fun b hb => by
      obtain ⟨ys, e, hy⟩ := own_ints hw hb
      exact hx.2 b (Yn hy) (h5 b ys e hy), g3⟩
  apo := s.apo
  apl := s.apl
theorem LS.app (s : LS I h0 bo bl h ov lv Ls cur) (g : Yb) : LS I h0 bo bl (h ++ g) ov lv Ls cur :=
  s.ext (S := fun _ => False) (Ext.app _ _ _) (fun _ _ h => h) (fun h => h) (fun h => h) (fun _ _ h => h) (fun _ _ _ _ h => h)
/-- A new list in l's box. -/
theorem LS.storeL (s : LS I h0 bo bl h ov lv Ls cur) (hx : Ext (fun i => Yd lv = some i) h h1) (ho : OwnSl 3 h1 lv' cur') (hb : Yd lv' = Yd lv ∨ ∃ b, Yd lv' = some b ∧ h.length ≤ b) :
    LS I h0 bo bl (h1.set bl (.cells [lv'] 22 false)) ov lv' Ls cur' where
  len := by have := s.len; have := hx.1; simp; omega
  keep i hi := by
    have hl := Nat.lt_of_lt_of_le (s.low i hi) s.len
    rw [List.getElem?_set_ne (fun h => s.nl (by rw [h]; exact hi)), hx.2 i hl (fun h => s.apl i h hi)]
    exact s.keep i hi
  low := s.low
  o := by
    rw [List.getElem?_set_ne (Ne.symm s.ne), hx.2 _ (Yn s.o) (s.own.notCells s.o)]; exact s.o
  l := Xw (Nat.lt_of_lt_of_le (Yn s.l) hx.1) _
  ne := s.ne
  no := s.no
  nl := s.nl
  own := ho.ext (S := fun i => i = bl) (Ext.set _ rfl) fun b hbb => by
    rintro rfl
    rcases hb with h | ⟨b', h, hl⟩
    · exact s.own.notCells s.l (h ▸ hbb)
    · rw [h] at hbb; cases hbb; have := Yn s.l; omega
  out := by
    obtain ⟨ws, g1, g2, g3⟩ := s.out
    refine ⟨ws, g1.same fun b hbb => ?_, ?_, fun w hw b hbw hbl => ?_⟩
    · obtain ⟨c, hc⟩ := g1.blk hbb
      rw [List.getElem?_set_ne (Ne.symm (s.apo b hbb).2.2), hx.2 b (Yn hc) (s.own.notCells hc)]
    · have key : ∀ {ws : List Value} {Ls : List (List Int)}, Each (OwnSl 3 h) ws Ls → (∀ w ∈ ws, ∀ b, Yd w = some b → Yd lv ≠ some b) → Each (OwnSl 3 (h1.set bl (.cells [lv'] 22 false))) ws Ls := by
        intro ws
        induction ws with
        | nil => intro Ls hE _; cases Ls <;> first | exact hE | exact hE.elim
        | cons w ws ih =>
          intro Ls hE hd
          cases Ls with
          | nil => exact hE.elim
          | cons l Ls =>
            refine ⟨hE.1.same fun b hbb => ?_, ih hE.2 fun w hw => hd w (by simp [hw])⟩
            obtain ⟨ys, hy⟩ := hE.1.ints hbb
            have hne : bl ≠ b := fun he => by subst he; rw [s.l] at hy; cases hy
            rw [List.getElem?_set_ne hne, hx.2 b (Yn hy) (hd w (by simp) b hbb)]
      exact key g2 g3
    · rcases hb with h | ⟨b', h, hl⟩
      · exact g3 w hw b hbw (h ▸ hbl)
      · rw [h] at hbl; cases hbl
        obtain ⟨l, hwl⟩ := g2.mem w hw
        have := hwl.lt hbw; omega
  apo := s.apo
  apl b hbb := by
    rcases hb with h | ⟨b', h, hl⟩
    · exact s.apl b (h ▸ hbb)
    · rw [h] at hbb; cases hbb
      exact fun hi => by have := s.low _ hi; have := s.len; omega
/-- One line more, a copy that nobody else holds. -/
theorem LS.storeO {l : List Int} {w : Value} {ws : List Value} (s : LS I h0 bo bl h ov lv Ls cur) (g1 : OwnV 22 h ov ws) (g2 : Each (OwnSl 3 h) ws Ls) (g3 : ∀ w ∈ ws, ∀ b, Yd w = some b → Yd lv ≠ some b)
    (hw : OwnSl 3 h w l) (hwl : ∀ b, Yd w = some b → Yd lv ≠ some b)
    (hx : Ext (fun i => Yd ov = some i) h h1) (ho : OwnV 22 h1 ov' (ws ++ [w])) (hb : Yd ov' = Yd ov ∨ ∃ b, Yd ov' = some b ∧ h.length ≤ b) :
    LS I h0 bo bl (h1.set bo (.cells [ov'] 45 false)) ov' lv (Ls ++ [l]) cur := by
  have ints : ∀ {v : Value} {xs : List Int}, OwnSl 3 h v xs → OwnSl 3 (h1.set bo (.cells [ov'] 45 false)) v xs := fun {v xs} hv => hv.same fun b hbb => by
    obtain ⟨ys, hy⟩ := hv.ints hbb
    have hne : bo ≠ b := fun he => by subst he; rw [s.o] at hy; cases hy
    rw [List.getElem?_set_ne hne, hx.2 b (Yn hy) fun h2 => by
      obtain ⟨c, hc⟩ := g1.blk h2
      rw [hc] at hy; cases hy]
  refine ⟨by have := s.len; have := hx.1; simp; omega, fun i hi => ?_, s.low, Xw (Nat.lt_of_lt_of_le (Yn s.o) hx.1) _, ?_, s.ne, s.no, s.nl, ints s.own, ⟨ws ++ [w], ?_, ?_, ?_⟩, fun b hbb => ?_, s.apl⟩
  · have hl := Nat.lt_of_lt_of_le (s.low i hi) s.len
    rw [List.getElem?_set_ne (fun h => s.no (by rw [h]; exact hi)), hx.2 i hl (fun h => (s.apo i h).1 hi)]
    exact s.keep i hi
  · rw [List.getElem?_set_ne s.ne, hx.2 _ (Yn s.l) (fun h => (s.apo _ h).2.2 rfl)]; exact s.l
  · refine ho.same fun b hbb => List.getElem?_set_ne fun he => ?_
    rcases hb with h | ⟨b', h, hl⟩
    · exact (s.apo b (h ▸ hbb)).2.1 he.symm
    · rw [h] at hbb; cases hbb; have := Yn s.o; omega
  · exact (g2.imp fun w l hw => ints hw).app ⟨ints hw, trivial⟩
  · intro w' hw' b hbw
    rcases List.mem_append.1 hw' with h | h
    · exact g3 w' h b hbw
    · rw [List.mem_singleton.1 h] at hbw; exact hwl b hbw
  · rcases hb with h | ⟨b', h, hl⟩
    · exact s.apo b (h ▸ hbb)
    · rw [h] at hbb; cases hbb
      have h1 := Yn s.o
      have h2 := Yn s.l
      exact ⟨fun hi => by have := s.low _ hi; have := s.len; omega, by omega, by omega⟩
end

/-- A run of the function literal under way: its box (left) stands at the end of the heap h that it found. -/
structure LR (I : Nat → Prop) (h0 : Yb) (bo bl : Nat) (h : Yb) (ov0 lv0 : Value) (left : Nat) (h' : Yb) (ov lv : Value) (Ls : List (List Int)) (cur : List Int) : Prop where
  gs : LS I h0 bo bl h' ov lv Ls cur
  low : h0.length ≤ h.length
  lto : bo < h.length
  ltl : bl < h.length
  bx : h'[h.length]? = some (.cells [Zx left] 3 false)
  nbx : ∀ b, Yd ov = some b → b ≠ h.length
  ext : Ext (gS bo bl ov0 lv0) h h'
  blko : Yd ov = Yd ov0 ∨ ∃ b, Yd ov = some b ∧ h.length ≤ b
  blkl : Yd lv = Yd lv0 ∨ ∃ b, Yd lv = some b ∧ h.length ≤ b
section
variable {I : Nat → Prop} {h0 h h' h1 : Yb} {bo bl left : Nat} {ov0 lv0 ov lv ov' lv' : Value} {Ls Ls' : List (List Int)} {cur cur' : List Int}
theorem LR.of (s : LS I h0 bo bl h ov lv Ls cur) : LR I h0 bo bl h ov lv left (h ++ [.cells [Zx left] 3 false]) ov lv Ls cur where
  gs := s.app _
  low := s.len
  lto := Yn s.o
  ltl := Yn s.l
  bx := by simp
  nbx b hb := by
    obtain ⟨ws, g1, _⟩ := s.out
    have := g1.lt hb; omega
  ext := Ext.app _ _ _
  blko := .inl rfl
  blkl := .inl rfl
theorem LR.go (s : LR I h0 bo bl h ov0 lv0 left h' ov lv Ls cur) (g : LS I h0 bo bl h1 ov' lv' Ls' cur') (hx : Ext (gS bo bl ov lv) h' h1) (hbo : Yd ov' = Yd ov ∨ ∃ b, Yd ov' = some b ∧ h'.length ≤ b) (hbl : Yd lv' = Yd lv ∨ ∃ b, Yd lv' = some b ∧ h'.length ≤ b) :
    LR I h0 bo bl h ov0 lv0 left h1 ov' lv' Ls' cur' where
  gs := g
  low := s.low
  lto := s.lto
  ltl := s.ltl
  bx := by
    rw [hx.2 _ (Yn s.bx) ?_]
    · exact s.bx
    · rintro (h | h | h | h)
      · have := s.lto; omega
      · have := s.ltl; omega
      · exact s.nbx _ h rfl
      · exact s.gs.own.notCells s.bx h
  nbx b hb := by
    rcases hbo with h | ⟨b', h, h2⟩
    · exact s.nbx b (h ▸ hb)
    · rw [h] at hb; cases hb; have := Yn s.bx; omega
  ext := ⟨Nat.le_trans s.ext.1 hx.1, fun i hi hs => by
    rw [hx.2 i (Nat.lt_of_lt_of_le hi s.ext.1), s.ext.2 i hi hs]
    rintro (h | h | h | h)
    · exact hs (.inl h)
    · exact hs (.inr (.inl h))
    · rcases s.blko with h2 | ⟨b, h2, h3⟩
      · exact hs (.inr (.inr (.inl (h2 ▸ h))))
      · rw [h2] at h; cases h; omega
    · rcases s.blkl with h2 | ⟨b, h2, h3⟩
      · exact hs (.inr (.inr (.inr (h2 ▸ h))))
      · rw [h2] at h; cases h; omega⟩
  blko := by
    have := s.ext.1
    rcases hbo with h | ⟨b, h, h2⟩
    · rw [h]; exact s.blko
    · exact .inr ⟨b, h, by omega⟩
  blkl := by
    have := s.ext.1
    rcases hbl with h | ⟨b, h, h2⟩
    · rw [h]; exact s.blkl
    · exact .inr ⟨b, h, by omega⟩
theorem LR.app (s : LR I h0 bo bl h ov0 lv0 left h' ov lv Ls cur) (g : Yb) : LR I h0 bo bl h ov0 lv0 left (h' ++ g) ov lv Ls cur := s.go (s.gs.app g) (Ext.app _ _ _) (.inl rfl) (.inl rfl)
/-- A block of no concern turns. -/
theorem LR.else (s : LR I h0 bo bl h ov0 lv0 left h' ov lv Ls cur) {j : Nat} {B : Blk} (hj : h.length < j) (ho : Yd ov ≠ some j) (hc : ∀ ys e, h'[j]? ≠ some (.ints ys e false)) : LR I h0 bo bl h ov0 lv0 left (h'.set j B) ov lv Ls cur := by
  have hlen := s.low
  have hext := s.ext.1
  have hx : Ext (fun i => i = j) h' (h'.set j B) := Ext.set _ rfl
  have hbo := s.lto
  have hbl := s.ltl
  refine ⟨s.gs.ext hx (fun i hi he => by have := s.gs.low i hi; omega) (by omega) (by omega) (fun b hb he => ho (he ▸ hb)) (fun b ys e hy he => hc ys e (he ▸ hy)), s.low, s.lto, s.ltl, by rw [List.getElem?_set_ne (by omega)]; exact s.bx, s.nbx, ?_, s.blko, s.blkl⟩
  exact ⟨by simp; exact hext, fun i hi hs => by rw [List.getElem?_set_ne (by omega)]; exact s.ext.2 i hi hs⟩
theorem LR.box (s : LR I h0 bo bl h ov0 lv0 left h' ov lv Ls cur) {i : Nat} {B : Blk} (hi : I i) (hb : h0[i]? = some B) : h'[i]? = some B := (s.gs.keep i hi).trans hb
end
end Go.Proofs.Tryd.Am

namespace Go.Proofs.Tryd.Am
open Go.Am Ord
set_option maxRecDepth 100000
set_option maxHeartbeats 1000000

theorem flat_pre {α β : Type} {f : α → List β} {pre l : List α} {x : α} (h : pre ++ [x] <+: l) : (pre.flatMap f).length + (f x).length ≤ (l.flatMap f).length := by
  obtain ⟨t, rfl⟩ := h
  rw [List.flatMap_append, List.flatMap_append, List.length_append, List.length_append, List.flatMap_singleton]
  omega

/-- The closure that grows. -/
def gV (bo bl bd bg : Nat) : Value := .func (.func 103) #[] #[.pointer (some ⟨bo, 0, none⟩), .pointer (some ⟨bl, 0, none⟩), .pointer (some ⟨bd, 0, none⟩), .pointer (some ⟨bg, 0, none⟩)]

theorem grow_call [BitTab prog 1] {I : Nat → Prop} {h0 : Yb} {bo bl bd bg : Nat} {o : List Int} (ho : ord o = true) (hI : I bd ∧ I bg) (hd : h0[bd]? = some (.cells (Ww o) 77 false)) (hg : h0[bg]? = some (.cells [gV bo bl bd bg] 118 false)) :
    ∀ (n left : Nat) (cur : List Int) (Ls : List (List Int)) (h : Yb) (ov lv : Value), LS I h0 bo bl h ov lv Ls cur → (Am.bits left).length = n → left < 2 ^ o.length → cur.length + n = o.length → Ls.length + (lines (ab o) n (Am.bits left)).length ≤ 46656 →
      ACall prog 103 [Zx left, .pointer (some ⟨bo, 0, none⟩), .pointer (some ⟨bl, 0, none⟩), .pointer (some ⟨bd, 0, none⟩), .pointer (some ⟨bg, 0, none⟩)] h fun _ h' =>
        ∃ ov' lv', LS I h0 bo bl h' ov' lv' (Ls ++ behind cur (lines (ab o) n (Am.bits left))) cur ∧ Ext (gS bo bl ov lv) h h' ∧ (Yd ov' = Yd ov ∨ ∃ b, Yd ov' = some b ∧ h.length ≤ b) ∧ (Yd lv' = Yd lv ∨ ∃ b, Yd lv' = some b ∧ h.length ≤ b) := by
  have hlen := Xk ho
  have hpw := pow6 hlen.2
  intro n
  induction n with
  | zero =>
    intro left cur Ls h ov lv gs hn hlt hcl hLs
    have hz : left = 0 := by
      rcases Nat.eq_zero_or_pos left with h | h
      · exact h
      · exact absurd (List.length_eq_zero_iff.1 hn) (Ord.bits_ne (by omega) (by omega))
    subst hz
    have hcne : cur ≠ [] := by rintro rfl; simp at hcl; omega
    refine s103_call (by simp) ?_
    simp only [s103]
    refine Wy fun N hN => ?_
    simp (maxSteps := 2000000) only [s103, ↓Za, ↓Zm, ↓Zr, ↓Ze, ↓Zk, ↓Zs, ↓Zf, ↓Zi, ↓Zg, ↓Zc, ↓Zb, ↓vdn, vup, Zl, Zn, Zh, Zj, Zo, List.map_cons, List.map_nil, cond_true, cond_false, aop, Zv, Zq, Zp, ev, sput, Zt, Zy, Ya, unK, Zd, Zw, Nat.reduceBEq, Nat.reduceAdd, Int.reduceBEq, Int.reduceBNe, Int.reduceLT, Zu, Zz, tup, tyf, boxK, cellsOf, Option.isSome_some, Xg]
    refine hN _ _ ?_
    clear hN N
    have rs0 := LR.of (left := 0) gs
    have e0 : Zx ((0 : Nat) : Int) = .int .i64 0 := rfl
    rw [e0] at rs0
    generalize h ++ [.cells [.int .i64 0] 3 false] = h2 at rs0 ⊢
    have hb0 : h2[h.length]? = some (.cells [.int .i64 0] 3 false) := rs0.bx
    refine Wy fun N hN => ?_
    simp (maxSteps := 2000000) only [s103, ↓Za, ↓Zm, ↓Zr, ↓Ze, ↓Zk, ↓Zs, ↓Zf, ↓Zi, ↓Zg, ↓Zc, ↓Zb, ↓vdn, vup, Zl, Zn, Zh, Zj, Zo, List.map_cons, List.map_nil, cond_true, cond_false, aop, Zv, Zq, Zp, ev, sput, Zt, Zy, Ya, unK, Zd, Zw, Nat.reduceBEq, Nat.reduceAdd, Int.reduceBEq, Int.reduceBNe, Int.reduceLT, Zu, Zz, tup, tyf, Xi hb0 Xb, beq_self_eq_true]
    refine aw_drawR (fun hp => hp[bo]? = some (.cells [ov] 45 false)) [(0, 5), (5, 6)] (by kernel_rfl) (by kernel_rfl) (by kernel_rfl) (by kernel_rfl) rs0.gs.o ?_
    simp (maxSteps := 2000000) only [s103, ↓Za, ↓Zm, ↓Zr, ↓Ze, ↓Zk, ↓Zs, ↓Zf, ↓Zi, ↓Zg, ↓Zc, ↓Zb, ↓vdn, vup, Zl, Zn, Zh, Zj, Zo, List.map_cons, List.map_nil, cond_true, cond_false, aop, Zv, Zq, Zp, ev, sput, Zt, Zy, Ya, unK, Zd, Zw, Nat.reduceBEq, Nat.reduceAdd, Int.reduceBEq, Int.reduceBNe, Int.reduceLT, Zu, Zz, tup, tyf, Nat.reduceLT, Bool.false_or, Bool.true_or, Xi rs0.gs.l Xq, Xf, List.nil_append, List.append_nil, List.toList_toArray, List.cons_append]
    refine ⟨ov, fun hp hhp => by simp only [Xi hhp shp_45], ?_⟩
    refine ⟨_, _, clone_det rs0.gs.own.int hcne (by omega), Wc (Wc rs0.gs.o _) _, ?_⟩
    obtain ⟨w, hw⟩ : ∃ w : Value, w = .slice (some ⟨h2.length + 1, 0, some 0⟩) cur.length cur.length := ⟨_, rfl⟩
    rw [← hw]
    obtain ⟨H1, hH1⟩ : ∃ H1, H1 = h2 ++ [Blk.ints [] 3 false] ++ [Blk.ints cur 3 false] := ⟨_, rfl⟩
    rw [← hH1]
    have how : OwnSl 3 H1 w cur := .inr ⟨h2.length + 1, [], by rw [hw]; simp, by rw [hH1, List.getElem?_append_right (by simp)]; simp⟩
    have hl1 : H1.length = h2.length + 2 := by rw [hH1]; simp
    have rs1 := (rs0.app [Blk.ints [] 3 false]).app [Blk.ints cur 3 false]
    rw [← hH1] at rs1
    clear hH1
    simp (maxSteps := 2000000) only [s103, ↓Za, ↓Zm, ↓Zr, ↓Ze, ↓Zk, ↓Zs, ↓Zf, ↓Zi, ↓Zg, ↓Zc, ↓Zb, ↓vdn, vup, Zl, Zn, Zh, Zj, Zo, List.map_cons, List.map_nil, cond_true, cond_false, aop, Zv, Zq, Zp, ev, sput, Zt, Zy, Ya, unK, Zd, Zw, Nat.reduceBEq, Nat.reduceAdd, Int.reduceBEq, Int.reduceBNe, Int.reduceLT, Zu, Zz, tup, tyf, Nat.reduceLT, Bool.false_or, Bool.true_or, List.toList_toArray, buildSl1 el_45 zero_22 esz_22 how]
    have rs2 := rs1.app [Blk.cells [w] 22 false]
    have how2 : OwnSl 3 (H1 ++ [Blk.cells [w] 22 false]) w cur := how.ext (S := fun _ => False) (Ext.app _ _ _) (fun _ _ h => h)
    have hval : ValSl (H1 ++ [Blk.cells [w] 22 false]) (.slice (some ⟨H1.length, 0, none⟩) 1 1) [w] := .inr ⟨H1.length, 0, none, 1, [w], 22, false, rfl, Nat.le_refl _, by simp [view, Blk.view], rfl⟩
    refine ⟨rs2.gs.o, ?_⟩
    obtain ⟨ws, g1, g2, g3⟩ := rs2.gs.out
    have hall := g2.app (show Each (OwnSl 3 (H1 ++ [Blk.cells [w] 22 false])) [w] [cur] from ⟨how2, trivial⟩)
    refine g1.app app_45_45 hval (fun y hy => by obtain ⟨l, hl⟩ := hall.mem y hy; exact hl.notI) ?_ fun ov' h' hov hE hb => ⟨?_, ?_⟩
    · rw [g2.len]
      have : (lines (ab o) 0 (Am.bits 0)).length = 1 := rfl
      simp only [List.length_singleton]; omega
    · exact (hE.2 bo (Yn rs2.gs.o) (fun h => (rs2.gs.apo _ h).2.1 rfl)).trans rs2.gs.o
    have ho' := (hE.2 bo (Yn rs2.gs.o) (fun h => (rs2.gs.apo _ h).2.1 rfl)).trans rs2.gs.o
    have hone : one ov' = true := by rcases hov with ⟨rfl, _⟩ | ⟨b, ys, rfl, _⟩ <;> rfl
    simp (maxSteps := 2000000) only [s103, ↓Za, ↓Zm, ↓Zr, ↓Ze, ↓Zk, ↓Zs, ↓Zf, ↓Zi, ↓Zg, ↓Zc, ↓Zb, ↓vdn, vup, Zl, Zn, Zh, Zj, Zo, List.map_cons, List.map_nil, cond_true, cond_false, aop, Zv, Zq, Zp, ev, sput, Zt, Zy, Ya, unK, Zd, Zw, Nat.reduceBEq, Nat.reduceAdd, Int.reduceBEq, Int.reduceBNe, Int.reduceLT, Zu, Zz, tup, tyf, Nat.reduceLT, Bool.false_or, Bool.true_or, store1 ho' shp_45 hone]
    have hwl : ∀ b, Yd w = some b → Yd lv ≠ some b := fun b hbw hbl => by
      rw [hw] at hbw; cases hbw
      have := rs0.gs.own.lt hbl; omega
    have gs3 := rs2.gs.storeO g1 g2 g3 how2 hwl hE hov hb
    have rs3 := rs2.go gs3 ((hE.mono fun _ h => .inr (.inr (.inl h))).trans (Ext.set _ (.inl rfl))) hb (.inl rfl)
    refine hN _ _ ?_
    clear hN N gs3 hone ho' hwl hb hE hov
    generalize h'.set bo (.cells [ov'] 45 false) = h3 at rs3 ⊢
    have hb3 : h3[h.length]? = some (.cells [.int .i64 0] 3 false) := rs3.bx
    simp (maxSteps := 2000000) only [s103, ↓Za, ↓Zm, ↓Zr, ↓Ze, ↓Zk, ↓Zs, ↓Zf, ↓Zi, ↓Zg, ↓Zc, ↓Zb, ↓vdn, vup, Zl, Zn, Zh, Zj, Zo, List.map_cons, List.map_nil, cond_true, cond_false, aop, Zv, Zq, Zp, ev, sput, Zt, Zy, Ya, unK, Zd, Zw, Nat.reduceBEq, Nat.reduceAdd, Int.reduceBEq, Int.reduceBNe, Int.reduceLT, Zu, Zz, tup, tyf, Xi hb3 Xb, Xf, List.nil_append, List.append_nil, List.toList_toArray, List.cons_append]
    refine elements_call.mono ?_
    rintro _ _ ⟨rfl, rfl⟩
    simp (maxSteps := 2000000) only [s103, ↓Za, ↓Zm, ↓Zr, ↓Ze, ↓Zk, ↓Zs, ↓Zf, ↓Zi, ↓Zg, ↓Zc, ↓Zb, ↓vdn, vup, Zl, Zn, Zh, Zj, Zo, List.map_cons, List.map_nil, cond_true, cond_false, aop, Zv, Zq, Zp, ev, sput, Zt, Zy, Ya, unK, Zd, Zw, Nat.reduceBEq, Nat.reduceAdd, Int.reduceBEq, Int.reduceBNe, Int.reduceLT, Zu, Zz, tup, tyf, Xg]
    have hb4 := Yn rs3.bx
    have rs4 : LR I h0 bo bl h ov lv 0 ((h3 ++ [Blk.cells [.int .i64 0] 3 false]).set h3.length Blk.dead) ov' lv (Ls ++ [cur]) cur :=
      (rs3.app _).else hb4 (fun hb => by obtain ⟨ws, g1, _⟩ := rs3.gs.out; have := g1.lt hb; omega) (fun ys e => by rw [Yv]; intro h; cases h)
    refine aw_range bitIter (bx := h3.length) (s := 0) (et := 3) rfl (Yv _ _) (by decide) (fun pre hk => LR I h0 bo bl h ov lv 0 hk ov' lv (Ls ++ [cur]) cur) rs4 ?_ ?_
    · rintro pre x hk hpre _
      have := mem_pre hpre
      exact absurd this (by simp [Am.bits])
    · rintro hk rs
      simp (maxSteps := 2000000) only [s103, ↓Za, ↓Zm, ↓Zr, ↓Ze, ↓Zk, ↓Zs, ↓Zf, ↓Zi, ↓Zg, ↓Zc, ↓Zb, ↓vdn, vup, Zl, Zn, Zh, Zj, Zo, List.map_cons, List.map_nil, cond_true, cond_false, aop, Zv, Zq, Zp, ev, sput, Zt, Zy, Ya, unK, Zd, Zw, Nat.reduceBEq, Nat.reduceAdd, Int.reduceBEq, Int.reduceBNe, Int.reduceLT, Zu, Zz, tup, tyf]
      have e1 : behind cur (lines (ab o) 0 (Am.bits 0)) = [cur] := by simp [behind, lines, Wp]
      rw [e1]
      exact ⟨ov', lv, rs.gs, rs.ext, rs.blko, rs.blkl⟩
  | succ k ih =>
    intro left cur Ls h ov lv gs hn hlt hcl hLs
    have hz : left ≠ 0 := by
      rintro rfl
      have : Am.bits 0 = [] := by simp [Am.bits]
      rw [this] at hn; cases hn
    have hz2 : (((left : Nat) : Int) == 0) = false := by rw [eq0, decide_eq_false hz]
    have hall := gF_all ho (n := k) (left := left) (by omega) cur
    refine s103_call (by simp) ?_
    simp only [s103]
    refine Wy fun N hN => ?_
    simp (maxSteps := 2000000) only [s103, ↓Za, ↓Zm, ↓Zr, ↓Ze, ↓Zk, ↓Zs, ↓Zf, ↓Zi, ↓Zg, ↓Zc, ↓Zb, ↓vdn, vup, Zl, Zn, Zh, Zj, Zo, List.map_cons, List.map_nil, cond_true, cond_false, aop, Zv, Zq, Zp, ev, sput, Zt, Zy, Ya, unK, Zd, Zw, Nat.reduceBEq, Nat.reduceAdd, Int.reduceBEq, Int.reduceBNe, Int.reduceLT, Zu, Zz, tup, tyf, boxK, cellsOf, Option.isSome_some, Xg]
    refine hN _ _ ?_
    clear hN N
    have rs0 := LR.of (left := left) gs
    generalize h ++ [.cells [Zx left] 3 false] = h2 at rs0 ⊢
    simp (maxSteps := 2000000) only [s103, ↓Za, ↓Zm, ↓Zr, ↓Ze, ↓Zk, ↓Zs, ↓Zf, ↓Zi, ↓Zg, ↓Zc, ↓Zb, ↓vdn, vup, Zl, Zn, Zh, Zj, Zo, List.map_cons, List.map_nil, cond_true, cond_false, aop, Zv, Zq, Zp, ev, sput, Zt, Zy, Ya, unK, Zd, Zw, Nat.reduceBEq, Nat.reduceAdd, Int.reduceBEq, Int.reduceBNe, Int.reduceLT, Zu, Zz, tup, tyf, Xi rs0.bx Xb, hz2, Xf, List.nil_append, List.append_nil, List.toList_toArray, List.cons_append]
    refine elements_call.mono ?_
    rintro _ _ ⟨rfl, rfl⟩
    simp (maxSteps := 2000000) only [s103, ↓Za, ↓Zm, ↓Zr, ↓Ze, ↓Zk, ↓Zs, ↓Zf, ↓Zi, ↓Zg, ↓Zc, ↓Zb, ↓vdn, vup, Zl, Zn, Zh, Zj, Zo, List.map_cons, List.map_nil, cond_true, cond_false, aop, Zv, Zq, Zp, ev, sput, Zt, Zy, Ya, unK, Zd, Zw, Nat.reduceBEq, Nat.reduceAdd, Int.reduceBEq, Int.reduceBNe, Int.reduceLT, Zu, Zz, tup, tyf, Xg]
    have hb4 := Yn rs0.bx
    have rs4 : LR I h0 bo bl h ov lv left ((h2 ++ [Blk.cells [Zx left] 3 false]).set h2.length Blk.dead) ov lv Ls cur :=
      (rs0.app _).else hb4 (fun hb => by obtain ⟨ws, g1, _⟩ := rs0.gs.out; have := g1.lt hb; omega) (fun ys e => by rw [Yv]; intro h; cases h)
    refine aw_range bitIter (bx := h2.length) (s := left) (et := 3) rfl (Yv _ _) (by omega) (fun pre hk => ∃ ov' lv', LR I h0 bo bl h ov lv left hk ov' lv' (Ls ++ pre.flatMap (gF o k left cur)) cur) ⟨ov, lv, by simpa using rs4⟩ ?_ ?_
    · rintro pre x hk hpre ⟨ov1, lv1, rs⟩
      obtain ⟨hx64, hxb⟩ := Wo.1 (mem_pre hpre)
      have hx6 : x < o.length := by
        rcases Nat.lt_or_ge x o.length with h | h
        · exact h
        · rw [Nat.testBit_lt_two_pow (Nat.lt_of_lt_of_le hlt (Nat.pow_le_pow_right (by decide) h))] at hxb; cases hxb
      have hdl := dn_lt (o := o) (i := x)
      have hand : Wm .and .i64 ((dn o x : Nat) : Int) (left : Int) = ((dn o x &&& left : Nat) : Int) := bitsV_and (by omega) (by omega)
      have hcnt := flat_pre (f := gF o k left cur) hpre
      rw [hall, behind, List.length_map] at hcnt
      simp (maxSteps := 2000000) only [s103, ↓Za, ↓Zm, ↓Zr, ↓Ze, ↓Zk, ↓Zs, ↓Zf, ↓Zi, ↓Zg, ↓Zc, ↓Zb, ↓vdn, vup, Zl, Zn, Zh, Zj, Zo, List.map_cons, List.map_nil, cond_true, cond_false, aop, Zv, Zq, Zp, ev, sput, Zt, Zy, Ya, unK, Zd, Zw, Nat.reduceBEq, Nat.reduceAdd, Int.reduceBEq, Int.reduceBNe, Int.reduceLT, Zu, Zz, tup, tyf, r103_0_a, r103_0_b]
      refine Xx [(2, 1)] (by kernel_rfl) (by kernel_rfl) (by kernel_rfl) (by kernel_rfl) ?_
      simp (maxSteps := 2000000) only [s103, ↓Za, ↓Zm, ↓Zr, ↓Ze, ↓Zk, ↓Zs, ↓Zf, ↓Zi, ↓Zg, ↓Zc, ↓Zb, ↓vdn, vup, Zl, Zn, Zh, Zj, Zo, List.map_cons, List.map_nil, cond_true, cond_false, aop, Zv, Zq, Zp, ev, sput, Zt, Zy, Ya, unK, Zd, Zw, Nat.reduceBEq, Nat.reduceAdd, Int.reduceBEq, Int.reduceBNe, Int.reduceLT, Zu, Zz, tup, tyf, loadO (rs.box hI.1 hd) Xr hlen.2, Xf, List.nil_append, List.append_nil, List.toList_toArray, List.cons_append]
      refine ⟨_, _, below_call ho, rfl, ?_⟩
      by_cases hd1 : dn o x &&& left = 0
      · have hd2 : (((dn o x &&& left : Nat) : Int) == 0) = true := by rw [hd1]; rfl
        have hF : gF o k left cur x = behind (cur ++ [(x : Int)]) (lines (ab o) k (Am.bits (Wj left (2 ^ x)))) := by rw [gF, if_pos hd1]
        have hl1 : (Am.bits (Wj left (2 ^ x))).length = k := by
          rw [← Ord.bits_erase hx64, List.length_erase_of_mem (Wo.2 ⟨hx64, hxb⟩), hn]; rfl
        rw [hF, behind, List.length_map] at hcnt
        simp (maxSteps := 2000000) only [s103, ↓Za, ↓Zm, ↓Zr, ↓Ze, ↓Zk, ↓Zs, ↓Zf, ↓Zi, ↓Zg, ↓Zc, ↓Zb, ↓vdn, vup, Zl, Zn, Zh, Zj, Zo, List.map_cons, List.map_nil, cond_true, cond_false, aop, Zv, Zq, Zp, ev, sput, Zt, Zy, Ya, unK, Zd, Zw, Nat.reduceBEq, Nat.reduceAdd, Int.reduceBEq, Int.reduceBNe, Int.reduceLT, Zu, Zz, tup, tyf, Xi rs.bx Xb, hand, hd2, Xi rs.gs.l Xq, litI1]
        have hx1 : Ext (fun _ => False) hk (hk ++ [.ints [(x : Int)] 3 false]) := Ext.app _ _ _
        refine (rs.gs.own.ext hx1 fun _ _ h => h).append Vl (by omega) (Yv _ _) ?_
        intro lv3 h4 ho4 hx4 hb4
        have hx5 : Ext (fun i => Yd lv1 = some i) hk h4 := (hx1.mono fun _ h => h.elim).trans hx4
        have hb5 : Yd lv3 = Yd lv1 ∨ ∃ b, Yd lv3 = some b ∧ hk.length ≤ b := by
          rcases hb4 with h | ⟨b, h, hl⟩
          · exact .inl h
          · exact .inr ⟨b, h, by simp at hl; omega⟩
        have hbl4 : h4[bl]? = some (.cells [lv1] 22 false) := (hx5.2 bl (Yn rs.gs.l) (rs.gs.own.notCells rs.gs.l)).trans rs.gs.l
        have rs3 := rs.go (rs.gs.storeL hx5 ho4 hb5) ((hx5.mono fun _ h => .inr (.inr (.inr h))).trans (Ext.set _ (.inr (.inl rfl)))) (.inl rfl) hb5
        have hshl : shlV .i64 1 x = 2 ^ x := shl1 (by omega)
        have h2x : 2 ^ x < 2 ^ o.length := Nat.pow_lt_pow_right (by decide) hx6
        have hand3 : Wm .andNot .i64 (left : Int) (2 ^ x) = ((Wj left (2 ^ x) : Nat) : Int) := by
          have := Wz (a := left) (b := 2 ^ x) (by omega) (by omega)
          rw [Wt] at this; exact this
        simp (maxSteps := 2000000) only [s103, ↓Za, ↓Zm, ↓Zr, ↓Ze, ↓Zk, ↓Zs, ↓Zf, ↓Zi, ↓Zg, ↓Zc, ↓Zb, ↓vdn, vup, Zl, Zn, Zh, Zj, Zo, List.map_cons, List.map_nil, cond_true, cond_false, aop, Zv, Zq, Zp, ev, sput, Zt, Zy, Ya, unK, Zd, Zw, Nat.reduceBEq, Nat.reduceAdd, Int.reduceBEq, Int.reduceBNe, Int.reduceLT, Zu, Zz, tup, tyf, store1 hbl4 Xq ho4.one]
        refine Xx [(5, 4)] (by kernel_rfl) (by kernel_rfl) (by kernel_rfl) (by kernel_rfl) ?_
        simp (maxSteps := 2000000) only [s103, ↓Za, ↓Zm, ↓Zr, ↓Ze, ↓Zk, ↓Zs, ↓Zf, ↓Zi, ↓Zg, ↓Zc, ↓Zb, ↓vdn, vup, Zl, Zn, Zh, Zj, Zo, List.map_cons, List.map_nil, cond_true, cond_false, aop, Zv, Zq, Zp, ev, sput, Zt, Zy, Ya, unK, Zd, Zw, Nat.reduceBEq, Nat.reduceAdd, Int.reduceBEq, Int.reduceBNe, Int.reduceLT, Zu, Zz, tup, tyf, Xi (rs3.box hI.2 hg) shp_118, gV, Xi rs3.bx Xb, hshl, hand3, Xf, List.nil_append, List.append_nil, List.toList_toArray, List.cons_append]
        refine (ih (Wj left (2 ^ x)) (cur ++ [(x : Int)]) _ _ ov1 lv3 rs3.gs hl1 (less_lt hlt) (by simp; omega) (by rw [List.length_append]; omega)).mono ?_
        rintro _ h6 ⟨ov4, lv4, gs6, hx6, hbo6, hbl6⟩
        have rs6 := rs3.go gs6 hx6 hbo6 hbl6
        have hsub6 : subV .i64 ((cur ++ [(x : Int)]).length : Nat) 1 = (cur.length : Int) := by
          rw [List.length_append, List.length_singleton, subV_id (by omega) (by omega)]; omega
        simp (maxSteps := 2000000) only [s103, ↓Za, ↓Zm, ↓Zr, ↓Ze, ↓Zk, ↓Zs, ↓Zf, ↓Zi, ↓Zg, ↓Zc, ↓Zb, ↓vdn, vup, Zl, Zn, Zh, Zj, Zo, List.map_cons, List.map_nil, cond_true, cond_false, aop, Zv, Zq, Zp, ev, sput, Zt, Zy, Ya, unK, Zd, Zw, Nat.reduceBEq, Nat.reduceAdd, Int.reduceBEq, Int.reduceBNe, Int.reduceLT, Zu, Zz, tup, tyf, Xi rs6.gs.l Xq, rs6.gs.own.int.len, hsub6]
        refine rs6.gs.own.cut Wk Xs ?_
        intro lv5 ho5 hb7
        simp (maxSteps := 2000000) only [s103, ↓Za, ↓Zm, ↓Zr, ↓Ze, ↓Zk, ↓Zs, ↓Zf, ↓Zi, ↓Zg, ↓Zc, ↓Zb, ↓vdn, vup, Zl, Zn, Zh, Zj, Zo, List.map_cons, List.map_nil, cond_true, cond_false, aop, Zv, Zq, Zp, ev, sput, Zt, Zy, Ya, unK, Zd, Zw, Nat.reduceBEq, Nat.reduceAdd, Int.reduceBEq, Int.reduceBNe, Int.reduceLT, Zu, Zz, tup, tyf, store1 rs6.gs.l Xq ho5.one, rangeQ]
        refine ⟨ov4, lv5, ?_⟩
        have e1 : Ls ++ (pre ++ [x]).flatMap (gF o k left cur) = Ls ++ pre.flatMap (gF o k left cur) ++ behind (cur ++ [(x : Int)]) (lines (ab o) k (Am.bits (Wj left (2 ^ x)))) := by
          rw [List.flatMap_append, List.flatMap_singleton, hF, List.append_assoc]
        rw [e1]
        exact rs6.go (rs6.gs.storeL (Ext.refl _ _) ho5 (.inl hb7)) (Ext.set _ (.inr (.inl rfl))) (.inl rfl) (.inl hb7)
      · have hd2 : (((dn o x &&& left : Nat) : Int) == 0) = false := by rw [eq0, decide_eq_false hd1]
        have hF : gF o k left cur x = [] := by rw [gF, if_neg hd1]
        simp (maxSteps := 2000000) only [s103, ↓Za, ↓Zm, ↓Zr, ↓Ze, ↓Zk, ↓Zs, ↓Zf, ↓Zi, ↓Zg, ↓Zc, ↓Zb, ↓vdn, vup, Zl, Zn, Zh, Zj, Zo, List.map_cons, List.map_nil, cond_true, cond_false, aop, Zv, Zq, Zp, ev, sput, Zt, Zy, Ya, unK, Zd, Zw, Nat.reduceBEq, Nat.reduceAdd, Int.reduceBEq, Int.reduceBNe, Int.reduceLT, Zu, Zz, tup, tyf, Xi rs.bx Xb, hand, hd2, rangeQ]
        refine ⟨ov1, lv1, ?_⟩
        rw [List.flatMap_append, List.flatMap_singleton, hF, List.append_nil]
        exact rs
    · rintro hk ⟨ov1, lv1, rs⟩
      rw [hall] at rs
      simp (maxSteps := 2000000) only [s103, ↓Za, ↓Zm, ↓Zr, ↓Ze, ↓Zk, ↓Zs, ↓Zf, ↓Zi, ↓Zg, ↓Zc, ↓Zb, ↓vdn, vup, Zl, Zn, Zh, Zj, Zo, List.map_cons, List.map_nil, cond_true, cond_false, aop, Zv, Zq, Zp, ev, sput, Zt, Zy, Ya, unK, Zd, Zw, Nat.reduceBEq, Nat.reduceAdd, Int.reduceBEq, Int.reduceBNe, Int.reduceLT, Zu, Zz, tup, tyf]
      exact ⟨ov1, lv1, rs.gs, rs.ext, rs.blko, rs.blkl⟩
end Go.Proofs.Tryd.Am

namespace Go.Proofs.Tryd.Am
open Go.Am
set_option maxRecDepth 100000
/-! 34: slices.Equal[[]int,int] -/
@[reducible] def q34_0 : SCode := .region [⟨some 4, .assign (.const (.bool false)), none⟩]
@[reducible] def q34_1 : SCode := .region [⟨some 6, .move (.tmp 0), none⟩,
    ⟨some 7, .call { callee := .builtin .len, args := #[.tmp 6], argTypes := #[22] }, none⟩,
    ⟨some 8, .move (.tmp 1), none⟩,
    ⟨some 9, .call { callee := .builtin .len, args := #[.tmp 8], argTypes := #[22] }, none⟩,
    ⟨some 10, .binOp .neq 3 (.tmp 7) (.tmp 9) 3, none⟩]
@[reducible] def q34_2 : SCode := .region [⟨some 4, .assign (.const (.bool false)), none⟩]
@[reducible] def q34_3 : SCode := .region [⟨some 11, .move (.tmp 0), none⟩,
    ⟨some 12, .call { callee := .builtin .len, args := #[.tmp 11], argTypes := #[22] }, none⟩,
    ⟨some 13, .move (.const (.int .i64 0)), none⟩]
@[reducible] def q34_4 : SCode := .region [⟨some 14, .binOp .lss 3 (.tmp 13) (.tmp 12) 3, none⟩]
@[reducible] def q34_5 : SCode := .region [⟨some 15, .move (.tmp 13), none⟩,
    ⟨some 5, .assign (.tmp 15), none⟩]
def q34_6 : SCode := .draw [⟨some 16, .move (.tmp 0), none⟩,
    ⟨some 17, .move (.tmp 5), none⟩,
    ⟨some 18, .indexAddr 22 (.tmp 16) (.tmp 17), none⟩,
    ⟨some 19, .load 3 (.tmp 18), none⟩,
    ⟨some 20, .move (.tmp 1), none⟩,
    ⟨some 21, .move (.tmp 5), none⟩,
    ⟨some 22, .indexAddr 22 (.tmp 20) (.tmp 21), none⟩,
    ⟨some 23, .load 3 (.tmp 22), none⟩,
    ⟨some 24, .binOp .neq 3 (.tmp 19) (.tmp 23) 3, none⟩]
   [[], [], [0, 1], [2], [], [], [4, 5], [6], [3, 7]]
@[reducible] def q34_7 : SCode := .region [⟨some 4, .assign (.const (.bool false)), none⟩]
@[reducible] def q34_8 : SCode := .region [⟨some 25, .binOp .add 3 (.tmp 13) (.const (.int .i64 1)) 3, none⟩,
    ⟨some 13, .move (.tmp 25), none⟩]
def l34_0 : SCode := (.seq q34_4 (.seq (.cond (.tmp 14) .skip (.exit 0)) (.seq (.block 1 (.seq q34_5 (.seq q34_6 (.cond (.tmp 24) (.seq q34_7 .ret) .skip)))) q34_8)))
@[reducible] def q34_9 : SCode := .region [⟨some 4, .assign (.const (.bool true)), none⟩]
def s34 : SCode := (.seq q34_0 (.seq (.seq q34_1 (.cond (.tmp 10) (.seq q34_2 .ret) .skip)) (.seq (.seq q34_3 (.block 0 (.loop l34_0))) (.seq q34_9 .ret))))
theorem s34_strip : Yi (Ym Tryd.f34) = s34 := by kernel_rfl
theorem s34_ok : Xa 26 (Ym Tryd.f34) = true := by kernel_rfl
theorem s34_call [Tabs Tryd.prog] {args : List Value} {h : Yb} {Q : Value → Yb → Prop} (hsz : args.length ≤ 26) (hk : aw Tryd.prog 26 s34 (Zu Tryd.prog [.tmp 4] Q) (Zp 0 args) h) : ACall Tryd.prog 34 args h Q :=
  Wd Tryd.func34 rfl (enters_of Tryd.func34 (by kernel_rfl) rfl) rfl rfl (by decide) s34_strip s34_ok hsz hk

end Go.Proofs.Tryd.Am

namespace Go.Proofs.Tryd.Am
open Go.Am Ord
set_option maxRecDepth 100000
set_option maxHeartbeats 1000000

section
variable {h : Yb} {b : Nat} {e : TypeId} {ro : Bool} {x y : Int} {K : Value → Prop}
end

end Go.Proofs.Tryd.Am

namespace Go.Proofs.Tryd.Am
open Go.Am Ord
set_option maxRecDepth 100000
set_option maxHeartbeats 1000000

end Go.Proofs.Tryd.Am

namespace Go.Proofs.Tryd.Am
open Go.Am Ord
set_option maxRecDepth 100000
set_option maxHeartbeats 1000000

end Go.Proofs.Tryd.Am

namespace Go.Proofs.Tryd.Am
open Go.Am Ord
set_option maxRecDepth 100000
set_option maxHeartbeats 1000000

theorem idxL {P : Program} {t e : TypeId} {b n c k : Nat} {sp : Option Nat} {K : Value → Prop} (he : elemOf' P t = some e) (hs : esz P e = some 1) (hk : k < n) : Yp P t (.slice (some ⟨b, 0, sp⟩) n c) (Zx (k : Nat)) K = K (.pointer (some ⟨b, k, none⟩)) := by
  simp only [Yp, he, hs, Int.natCast_nonneg, Int.toNat_natCast, Nat.mul_one, Nat.zero_add, true_and, Int.ofNat_lt.2 hk]
theorem lit0 {h : Yb} (K : Value → Yb → Prop) : Yu prog h 22 0 [] K = K (.slice (some ⟨h.length, 0, none⟩) 0 0) (h ++ [.ints [] 3 false]) := by
  simp only [Yu, Wk, zero_3, Xs, reps, fillL, mkb, Xj, List.length_singleton, Nat.mul_one, Nat.zero_mul]
  exact propext ⟨fun h => h.2.2.2, fun h => ⟨trivial, Nat.zero_lt_one, by decide, h⟩⟩

end Go.Proofs.Tryd.Am

namespace Go.Proofs.Tryd.Am
open Go.Am Ord
set_option maxRecDepth 100000
set_option maxHeartbeats 1000000

theorem equal_call [Tabs prog] {h : Yb} {v w : Value} {xs ys : List Int} (hv : IntSl h v xs) (hw : IntSl h w ys) (hl : xs.length < 9223372036854775808) (hl2 : ys.length < 9223372036854775808) :
    APure prog 34 [v, w] h (.bool (decide (xs = ys))) := by
  refine s34_call (by simp) ?_
  by_cases hlen : xs.length = ys.length
  · have hne : ((xs.length : Int) != ys.length) = false := by simp [hlen]
    simp (maxSteps := 2000000) only [s34, ↓Za, ↓Zm, ↓Zr, ↓Ze, ↓Zk, ↓Zs, ↓Zf, ↓Zi, ↓Zg, ↓Zc, ↓Zb, ↓vdn, vup, Zl, Zn, Zh, Zj, Zo, List.map_cons, List.map_nil, cond_true, cond_false, aop, Zv, Zq, Zp, ev, sput, Zt, Zy, Ya, unK, Zd, Zw, Nat.reduceBEq, Nat.reduceAdd, Int.reduceBEq, Int.reduceBNe, Int.reduceLT, Zu, Zz, tup, tyf, hv.len, hw.len, hne, ↓Wr]
    refine Yf fun Q hQ => ?_
    refine aw_loop (γ := Nat) (fun i => i ≤ xs.length ∧ ∀ k, k < i → xs.getD k 0 = ys.getD k 0)
      (fun i => ([(0, v), (1, w), (12, Zx xs.length), (13, Zx i)], h)) (fun i => xs.length - i) 0 ⟨by omega, fun _ hk => by omega⟩ (by simp (maxSteps := 2000000) only [↓Za, ↓Zm, ↓Zr, ↓Ze, ↓Zk, ↓Zs, ↓Zf, ↓Zi, ↓Zg, ↓Zc, ↓Zb, ↓vdn, vup, Zl, Zn, Zh, Zj, Zo, List.map_cons, List.map_nil, cond_true, cond_false, aop, Zv, Zq, Zp, ev, sput, Zt, Zy, Ya, unK, Zd, Zw, Nat.reduceBEq, Nat.reduceAdd, Int.reduceBEq, Int.reduceBNe, Int.reduceLT, Zu, Zz, tup, tyf, Int.natCast_zero]) rfl ?_
    rintro i ⟨hi, hok⟩
    refine aw_hide fun Q2 hQ2 => ?_
    by_cases hin : (i : Int) < xs.length
    · have h1 : i < xs.length := by omega
      have h2 : i < ys.length := by omega
      simp (maxSteps := 2000000) only [s34, ↓Za, ↓Zm, ↓Zr, ↓Ze, ↓Zk, ↓Zs, ↓Zf, ↓Zi, ↓Zg, ↓Zc, ↓Zb, ↓vdn, vup, Zl, Zn, Zh, Zj, Zo, List.map_cons, List.map_nil, cond_true, cond_false, aop, Zv, Zq, Zp, ev, sput, Zt, Zy, Ya, unK, Zd, Zw, Nat.reduceBEq, Nat.reduceAdd, Int.reduceBEq, Int.reduceBNe, Int.reduceLT, Zu, Zz, tup, tyf, l34_0, hin]
      refine aw_draw [] (by kernel_rfl) (by kernel_rfl) (by kernel_rfl) ?_
      by_cases heq : xs.getD i 0 = ys.getD i 0
      · have hb : (xs.getD i 0 != ys.getD i 0) = false := by rw [heq]; exact bne_self_eq_false _
        simp (maxSteps := 2000000) only [s34, ↓Za, ↓Zm, ↓Zr, ↓Ze, ↓Zk, ↓Zs, ↓Zf, ↓Zi, ↓Zg, ↓Zc, ↓Zb, ↓vdn, vup, Zl, Zn, Zh, Zj, Zo, List.map_cons, List.map_nil, cond_true, cond_false, aop, Zv, Zq, Zp, ev, sput, Zt, Zy, Ya, unK, Zd, Zw, Nat.reduceBEq, Nat.reduceAdd, Int.reduceBEq, Int.reduceBNe, Int.reduceLT, Zu, Zz, tup, tyf, hv.idx Wk Xs h1, hv.load Xb h1, hw.idx Wk Xs h2, hw.load Xb h2, hb, add1 (show i < 9223372036854775807 by omega)]
        refine hQ2 _ _ _ ⟨i + 1, ⟨by omega, fun k hk => ?_⟩, by omega, by simp (maxSteps := 2000000) only [↓Za, ↓Zm, ↓Zr, ↓Ze, ↓Zk, ↓Zs, ↓Zf, ↓Zi, ↓Zg, ↓Zc, ↓Zb, ↓vdn, vup, Zl, Zn, Zh, Zj, Zo, List.map_cons, List.map_nil, cond_true, cond_false, aop, Zv, Zq, Zp, ev, sput, Zt, Zy, Ya, unK, Zd, Zw, Nat.reduceBEq, Nat.reduceAdd, Int.reduceBEq, Int.reduceBNe, Int.reduceLT, Zu, Zz, tup, tyf], rfl⟩
        by_cases hki : k = i
        · subst hki; exact heq
        · exact hok k (by omega)
      · have hb : (xs.getD i 0 != ys.getD i 0) = true := by simp only [bne_iff_ne, ne_eq]; exact heq
        simp (maxSteps := 2000000) only [s34, ↓Za, ↓Zm, ↓Zr, ↓Ze, ↓Zk, ↓Zs, ↓Zf, ↓Zi, ↓Zg, ↓Zc, ↓Zb, ↓vdn, vup, Zl, Zn, Zh, Zj, Zo, List.map_cons, List.map_nil, cond_true, cond_false, aop, Zv, Zq, Zp, ev, sput, Zt, Zy, Ya, unK, Zd, Zw, Nat.reduceBEq, Nat.reduceAdd, Int.reduceBEq, Int.reduceBNe, Int.reduceLT, Zu, Zz, tup, tyf, hv.idx Wk Xs h1, hv.load Xb h1, hw.idx Wk Xs h2, hw.load Xb h2, hb]
        refine hQ2 _ _ _ (hQ _ _ _ ?_)
        have hne : decide (xs = ys) = false := decide_eq_false (fun he => heq (by rw [he]))
        simp (maxSteps := 2000000) only [↓Za, ↓Zm, ↓Zr, ↓Ze, ↓Zk, ↓Zs, ↓Zf, ↓Zi, ↓Zg, ↓Zc, ↓Zb, ↓vdn, vup, Zl, Zn, Zh, Zj, Zo, List.map_cons, List.map_nil, cond_true, cond_false, aop, Zv, Zq, Zp, ev, sput, Zt, Zy, Ya, unK, Zd, Zw, Nat.reduceBEq, Nat.reduceAdd, Int.reduceBEq, Int.reduceBNe, Int.reduceLT, Zu, Zz, tup, tyf, hne]
    · obtain rfl : i = xs.length := by omega
      simp (maxSteps := 2000000) only [s34, ↓Za, ↓Zm, ↓Zr, ↓Ze, ↓Zk, ↓Zs, ↓Zf, ↓Zi, ↓Zg, ↓Zc, ↓Zb, ↓vdn, vup, Zl, Zn, Zh, Zj, Zo, List.map_cons, List.map_nil, cond_true, cond_false, aop, Zv, Zq, Zp, ev, sput, Zt, Zy, Ya, unK, Zd, Zw, Nat.reduceBEq, Nat.reduceAdd, Int.reduceBEq, Int.reduceBNe, Int.reduceLT, Zu, Zz, tup, tyf, l34_0, Int.lt_irrefl]
      refine hQ2 _ _ _ (hQ _ _ _ ?_)
      have he : decide (xs = ys) = true := decide_eq_true (List.ext_getElem hlen fun k h1 h2 => by
        have := hok k h1
        simpa [List.getD, List.getElem?_eq_getElem h1, List.getElem?_eq_getElem h2] using this)
      simp (maxSteps := 2000000) only [s34, ↓Za, ↓Zm, ↓Zr, ↓Ze, ↓Zk, ↓Zs, ↓Zf, ↓Zi, ↓Zg, ↓Zc, ↓Zb, ↓vdn, vup, Zl, Zn, Zh, Zj, Zo, List.map_cons, List.map_nil, cond_true, cond_false, aop, Zv, Zq, Zp, ev, sput, Zt, Zy, Ya, unK, Zd, Zw, Nat.reduceBEq, Nat.reduceAdd, Int.reduceBEq, Int.reduceBNe, Int.reduceLT, Zu, Zz, tup, tyf, if_true, he]
  · have hne : ((xs.length : Int) != ys.length) = true := by simp only [bne_iff_ne, ne_eq]; omega
    have hf : decide (xs = ys) = false := decide_eq_false (fun he => hlen (by rw [he]))
    simp (maxSteps := 2000000) only [s34, ↓Za, ↓Zm, ↓Zr, ↓Ze, ↓Zk, ↓Zs, ↓Zf, ↓Zi, ↓Zg, ↓Zc, ↓Zb, ↓vdn, vup, Zl, Zn, Zh, Zj, Zo, List.map_cons, List.map_nil, cond_true, cond_false, aop, Zv, Zq, Zp, ev, sput, Zt, Zy, Ya, unK, Zd, Zw, Nat.reduceBEq, Nat.reduceAdd, Int.reduceBEq, Int.reduceBNe, Int.reduceLT, Zu, Zz, tup, tyf, hv.len, hw.len, hne, hf]

theorem AddR.ext {o : List Int} {i j : Int} {s : Value} {e : Int} {h h' : Yb} (ha : AddR o i j s e h) (hE : Ext (fun _ => False) h h') : AddR o i j s e h' := by
  by_cases h1 : ord o = true ∧ elI o i = true ∧ elI o j = true
  · rw [AddR, if_pos h1] at ha ⊢
    by_cases h2 : fr o i.toNat j.toNat = true
    · rw [if_pos h2] at ha ⊢; exact ⟨ha.1, Yt ha.2 hE⟩
    · rw [if_neg h2] at ha ⊢; exact ha
  · rw [AddR, if_neg h1] at ha ⊢; exact ha

end Go.Proofs.Tryd.Am

namespace Go.Proofs.Tryd.Am
open Go.Am Ord
set_option maxRecDepth 100000
set_option maxHeartbeats 1000000

theorem lines75_call [BitTab prog 1] {h : Yb} {o : List Int} (ho : ord o = true) : ACall prog 75 [ordV o] h fun r h' => RdL 3 h' r (linesI o) ∧ Ext (fun _ => False) h h' := by
  have hlen := Xk ho
  have hpw := pow6 hlen.2
  have hcn := cn_le ho
  refine s75_call (by simp) ?_
  simp only [s75]
  refine Wy fun N hN => ?_
  simp (maxSteps := 2000000) only [s75, ↓Za, ↓Zm, ↓Zr, ↓Ze, ↓Zk, ↓Zs, ↓Zf, ↓Zi, ↓Zg, ↓Zc, ↓Zb, ↓vdn, vup, Zl, Zn, Zh, Zj, Zo, List.map_cons, List.map_nil, cond_true, cond_false, aop, Zv, Zq, Zp, ev, sput, Zt, Zy, Ya, unK, Zd, Zw, Nat.reduceBEq, Nat.reduceAdd, Int.reduceBEq, Int.reduceBNe, Int.reduceLT, Zu, Zz, tup, tyf, boxO esz_77, Xg]
  refine hN _ _ ?_
  clear hN N
  refine Wy fun N hN => ?_
  simp (maxSteps := 2000000) only [s75, ↓Za, ↓Zm, ↓Zr, ↓Ze, ↓Zk, ↓Zs, ↓Zf, ↓Zi, ↓Zg, ↓Zc, ↓Zb, ↓vdn, vup, Zl, Zn, Zh, Zj, Zo, List.map_cons, List.map_nil, cond_true, cond_false, aop, Zv, Zq, Zp, ev, sput, Zt, Zy, Ya, unK, Zd, Zw, Nat.reduceBEq, Nat.reduceAdd, Int.reduceBEq, Int.reduceBNe, Int.reduceLT, Zu, Zz, tup, tyf, We, Xg, zero_45]
  refine hN _ _ ?_
  clear hN N
  refine Wy fun N hN => ?_
  simp (maxSteps := 2000000) only [s75, ↓Za, ↓Zm, ↓Zr, ↓Ze, ↓Zk, ↓Zs, ↓Zf, ↓Zi, ↓Zg, ↓Zc, ↓Zb, ↓vdn, vup, Zl, Zn, Zh, Zj, Zo, List.map_cons, List.map_nil, cond_true, cond_false, aop, Zv, Zq, Zp, ev, sput, Zt, Zy, Ya, unK, Zd, Zw, Nat.reduceBEq, Nat.reduceAdd, Int.reduceBEq, Int.reduceBNe, Int.reduceLT, Zu, Zz, tup, tyf, We, Xg, zero_22]
  refine hN _ _ ?_
  clear hN N
  refine Wy fun N hN => ?_
  simp (maxSteps := 2000000) only [s75, ↓Za, ↓Zm, ↓Zr, ↓Ze, ↓Zk, ↓Zs, ↓Zf, ↓Zi, ↓Zg, ↓Zc, ↓Zb, ↓vdn, vup, Zl, Zn, Zh, Zj, Zo, List.map_cons, List.map_nil, cond_true, cond_false, aop, Zv, Zq, Zp, ev, sput, Zt, Zy, Ya, unK, Zd, Zw, Nat.reduceBEq, Nat.reduceAdd, Int.reduceBEq, Int.reduceBNe, Int.reduceLT, Zu, Zz, tup, tyf, We, Xg, zero_118]
  refine hN _ _ ?_
  clear hN N
  obtain ⟨n, hn⟩ : ∃ n, n = h.length := ⟨_, rfl⟩
  simp only [List.length_append, List.length_cons, List.length_nil, Nat.zero_add, Nat.add_assoc, Nat.reduceAdd, ← hn]
  obtain ⟨F, hF⟩ : ∃ F, F = h ++ [Blk.cells (Ww o) 77 false] ++ [Blk.cells [.slice none 0 0] 45 false] ++ [Blk.cells [.slice none 0 0] 22 false] ++ [Blk.cells [.nilFunc] 118 false] := ⟨_, rfl⟩
  rw [← hF]
  have hFl : F.length = n + 4 := by rw [hF, hn]; simp
  have f0 : F[n]? = some (.cells (Ww o) 77 false) := by rw [hF, hn]; exact Wc (Wc (Wc (Yv _ _) _) _) _
  have f1 : F[n + 1]? = some (.cells [.slice none 0 0] 45 false) := by
    have := Yv (h ++ [Blk.cells (Ww o) 77 false]) (Blk.cells [.slice none 0 0] 45 false)
    simp only [List.length_append, List.length_singleton, ← hn] at this
    rw [hF]; exact Wc (Wc this _) _
  have f2 : F[n + 2]? = some (.cells [.slice none 0 0] 22 false) := by
    have := Yv (h ++ [Blk.cells (Ww o) 77 false] ++ [Blk.cells [.slice none 0 0] 45 false]) (Blk.cells [.slice none 0 0] 22 false)
    simp only [List.length_append, List.length_singleton, ← hn, Nat.add_assoc, Nat.reduceAdd] at this
    rw [hF]; exact Wc this _
  have f3 : F[n + 3]? = some (.cells [.nilFunc] 118 false) := by
    have := Yv (h ++ [Blk.cells (Ww o) 77 false] ++ [Blk.cells [.slice none 0 0] 45 false] ++ [Blk.cells [.slice none 0 0] 22 false]) (Blk.cells [.nilFunc] 118 false)
    simp only [List.length_append, List.length_singleton, ← hn, Nat.add_assoc, Nat.reduceAdd] at this
    rw [hF]; exact this
  have hEF : Ext (fun _ => False) h F := by rw [hF]; simp only [List.append_assoc]; exact Ext.app _ _ _
  clear hF
  refine Wy fun N hN => ?_
  simp (maxSteps := 2000000) only [s75, ↓Za, ↓Zm, ↓Zr, ↓Ze, ↓Zk, ↓Zs, ↓Zf, ↓Zi, ↓Zg, ↓Zc, ↓Zb, ↓vdn, vup, Zl, Zn, Zh, Zj, Zo, List.map_cons, List.map_nil, cond_true, cond_false, aop, Zv, Zq, Zp, ev, sput, Zt, Zy, Ya, unK, Zd, Zw, Nat.reduceBEq, Nat.reduceAdd, Int.reduceBEq, Int.reduceBNe, Int.reduceLT, Zu, Zz, tup, tyf, List.map_toArray, storeF f3 shp_118]
  refine hN _ _ ?_
  clear hN N
  obtain ⟨G, hG⟩ : ∃ G, G = F.set (n + 3) (.cells [gV (n + 1) (n + 2) n (n + 3)] 118 false) := ⟨_, rfl⟩
  have hG' := hG
  rw [gV] at hG'
  rw [← hG']
  have g0 : G[n]? = some (.cells (Ww o) 77 false) := by rw [hG, List.getElem?_set_ne (by omega)]; exact f0
  have g1 : G[n + 1]? = some (.cells [.slice none 0 0] 45 false) := by rw [hG, List.getElem?_set_ne (by omega)]; exact f1
  have g2 : G[n + 2]? = some (.cells [.slice none 0 0] 22 false) := by rw [hG, List.getElem?_set_ne (by omega)]; exact f2
  have g3 : G[n + 3]? = some (.cells [gV (n + 1) (n + 2) n (n + 3)] 118 false) := by rw [hG]; exact Xw (by omega) _
  have hGl : G.length = n + 4 := by rw [hG]; simp [hFl]
  have hEG : Ext (fun _ => False) h G := ⟨by omega, fun i hi _ => by rw [hG, List.getElem?_set_ne (by omega)]; exact hEF.2 i hi id⟩
  clear hG hG' hEF f0 f1 f2 f3 hFl
  clear F
  have ls : LS (fun i => i = n ∨ i = n + 3) G (n + 1) (n + 2) G (.slice none 0 0) (.slice none 0 0) [] [] :=
    ⟨Nat.le_refl _, fun _ _ => rfl, fun i hi => by omega, g1, g2, by omega, by omega, by omega, .inl ⟨rfl, rfl⟩, ⟨[], .inl ⟨rfl, rfl⟩, trivial, fun _ h => by cases h⟩, fun _ h => (by cases h), fun _ h => (by cases h)⟩
  have hba : Am.bits (2 ^ o.length - 1) = List.range o.length := Ord.bits_all (by omega)
  have hgr := grow_call (I := fun i => i = n ∨ i = n + 3) ho ⟨.inl rfl, .inr rfl⟩ g0 g3 o.length (2 ^ o.length - 1) [] [] G _ _ ls (by rw [hba, List.length_range]) (by have := Nat.two_pow_pos o.length; omega) (by simp) (by
    rw [hba]
    have := Xp o
    rw [Yy] at this
    rw [this, List.length_nil]; omega)
  rw [hba] at hgr
  simp (maxSteps := 2000000) only [s75, ↓Za, ↓Zm, ↓Zr, ↓Ze, ↓Zk, ↓Zs, ↓Zf, ↓Zi, ↓Zg, ↓Zc, ↓Zb, ↓vdn, vup, Zl, Zn, Zh, Zj, Zo, List.map_cons, List.map_nil, cond_true, cond_false, aop, Zv, Zq, Zp, ev, sput, Zt, Zy, Ya, unK, Zd, Zw, Nat.reduceBEq, Nat.reduceAdd, Int.reduceBEq, Int.reduceBNe, Int.reduceLT, Zu, Zz, tup, tyf]
  refine Xx [(2, 1), (3, 4)] (by kernel_rfl) (by kernel_rfl) (by kernel_rfl) (by kernel_rfl) ?_
  simp (maxSteps := 2000000) only [s75, ↓Za, ↓Zm, ↓Zr, ↓Ze, ↓Zk, ↓Zs, ↓Zf, ↓Zi, ↓Zg, ↓Zc, ↓Zb, ↓vdn, vup, Zl, Zn, Zh, Zj, Zo, List.map_cons, List.map_nil, cond_true, cond_false, aop, Zv, Zq, Zp, ev, sput, Zt, Zy, Ya, unK, Zd, Zw, Nat.reduceBEq, Nat.reduceAdd, Int.reduceBEq, Int.reduceBNe, Int.reduceLT, Zu, Zz, tup, tyf, Xi g3 shp_118, gV, loadO g0 Xr hlen.2, Xf, List.nil_append, List.append_nil, List.toList_toArray, List.cons_append]
  refine ⟨_, _, all_call hlen.2, rfl, ?_⟩
  refine hgr.mono ?_
  rintro _ h' ⟨ov, lv, gs, hE, _, _⟩
  simp (maxSteps := 2000000) only [s75, ↓Za, ↓Zm, ↓Zr, ↓Ze, ↓Zk, ↓Zs, ↓Zf, ↓Zi, ↓Zg, ↓Zc, ↓Zb, ↓vdn, vup, Zl, Zn, Zh, Zj, Zo, List.map_cons, List.map_nil, cond_true, cond_false, aop, Zv, Zq, Zp, ev, sput, Zt, Zy, Ya, unK, Zd, Zw, Nat.reduceBEq, Nat.reduceAdd, Int.reduceBEq, Int.reduceBNe, Int.reduceLT, Zu, Zz, tup, tyf, Xi gs.o shp_45]
  obtain ⟨ws, k1, k2, _⟩ := gs.out
  refine ⟨⟨ws, k1.val, ?_⟩, ⟨by have := hE.1; omega, fun i hi _ => ?_⟩⟩
  · rw [List.nil_append] at k2; exact k2
  · rw [hE.2 i (by omega) ?_, hEG.2 i hi id]
    rintro (h | h | h | h)
    · omega
    · omega
    · cases h
    · cases h

theorem equalFunc_call [Tabs prog] {h : Yb} {v w : Value} {Ls : List (List Int)} (hv : RdL 3 h v Ls) (hw : RdL 3 h w Ls) (hl : Ls.length < 9223372036854775807) (hl2 : ∀ i, i < Ls.length → (Ls.getD i []).length < 9223372036854775808) :
    APure prog 32 [v, w, .func (.func 34) #[] #[]] h (.bool true) := by
  refine s32_call (by simp) ?_
  have hne : ((Ls.length : Int) != Ls.length) = false := by simp
  simp (maxSteps := 2000000) only [s32, ↓Za, ↓Zm, ↓Zr, ↓Ze, ↓Zk, ↓Zs, ↓Zf, ↓Zi, ↓Zg, ↓Zc, ↓Zb, ↓vdn, vup, Zl, Zn, Zh, Zj, Zo, List.map_cons, List.map_nil, cond_true, cond_false, aop, Zv, Zq, Zp, ev, sput, Zt, Zy, Ya, unK, Zd, Zw, Nat.reduceBEq, Nat.reduceAdd, Int.reduceBEq, Int.reduceBNe, Int.reduceLT, Zu, Zz, tup, tyf, hv.len, hw.len, hne, ↓Wr]
  refine Yf fun Q hQ => ?_
  refine aw_loop (γ := Nat) (fun i => i ≤ Ls.length)
    (fun i => ([(0, v), (1, w), (2, .func (.func 34) #[] #[]), (15, v), (16, Zx Ls.length), (17, Zx i)], h)) (fun i => Ls.length - i) 0 (Nat.zero_le _) (by simp (maxSteps := 2000000) only [↓Za, ↓Zm, ↓Zr, ↓Ze, ↓Zk, ↓Zs, ↓Zf, ↓Zi, ↓Zg, ↓Zc, ↓Zb, ↓vdn, vup, Zl, Zn, Zh, Zj, Zo, List.map_cons, List.map_nil, cond_true, cond_false, aop, Zv, Zq, Zp, ev, sput, Zt, Zy, Ya, unK, Zd, Zw, Nat.reduceBEq, Nat.reduceAdd, Int.reduceBEq, Int.reduceBNe, Int.reduceLT, Zu, Zz, tup, tyf, Int.natCast_zero]) rfl ?_
  intro i hi
  refine aw_hide fun Q2 hQ2 => ?_
  by_cases hin : (i : Int) < Ls.length
  · have h1 : i < Ls.length := by omega
    obtain ⟨w1, hw1, l1⟩ := hv.load (P := prog) Xq h1
    obtain ⟨w2, hw2, l2⟩ := hw.load (P := prog) Xq h1
    simp (maxSteps := 2000000) only [s32, ↓Za, ↓Zm, ↓Zr, ↓Ze, ↓Zk, ↓Zs, ↓Zf, ↓Zi, ↓Zg, ↓Zc, ↓Zb, ↓vdn, vup, Zl, Zn, Zh, Zj, Zo, List.map_cons, List.map_nil, cond_true, cond_false, aop, Zv, Zq, Zp, ev, sput, Zt, Zy, Ya, unK, Zd, Zw, Nat.reduceBEq, Nat.reduceAdd, Int.reduceBEq, Int.reduceBNe, Int.reduceLT, Zu, Zz, tup, tyf, l32_0, hin, hv.idx el_45 esz_22 h1, hw.idx el_45 esz_22 h1, l1, l2, Xf, List.nil_append, List.append_nil, List.toList_toArray, List.cons_append]
    refine (equal_call hw1.int hw2.int (hl2 i h1) (hl2 i h1)).mono ?_
    rintro _ _ ⟨rfl, rfl⟩
    simp (maxSteps := 2000000) only [s32, ↓Za, ↓Zm, ↓Zr, ↓Ze, ↓Zk, ↓Zs, ↓Zf, ↓Zi, ↓Zg, ↓Zc, ↓Zb, ↓vdn, vup, Zl, Zn, Zh, Zj, Zo, List.map_cons, List.map_nil, cond_true, cond_false, aop, Zv, Zq, Zp, ev, sput, Zt, Zy, Ya, unK, Zd, Zw, Nat.reduceBEq, Nat.reduceAdd, Int.reduceBEq, Int.reduceBNe, Int.reduceLT, Zu, Zz, tup, tyf, add1 (show i < 9223372036854775807 by omega)]
    exact hQ2 _ _ _ ⟨i + 1, by omega, by omega, by simp (maxSteps := 2000000) only [↓Za, ↓Zm, ↓Zr, ↓Ze, ↓Zk, ↓Zs, ↓Zf, ↓Zi, ↓Zg, ↓Zc, ↓Zb, ↓vdn, vup, Zl, Zn, Zh, Zj, Zo, List.map_cons, List.map_nil, cond_true, cond_false, aop, Zv, Zq, Zp, ev, sput, Zt, Zy, Ya, unK, Zd, Zw, Nat.reduceBEq, Nat.reduceAdd, Int.reduceBEq, Int.reduceBNe, Int.reduceLT, Zu, Zz, tup, tyf], rfl⟩
  · obtain rfl : i = Ls.length := by omega
    simp (maxSteps := 2000000) only [s32, ↓Za, ↓Zm, ↓Zr, ↓Ze, ↓Zk, ↓Zs, ↓Zf, ↓Zi, ↓Zg, ↓Zc, ↓Zb, ↓vdn, vup, Zl, Zn, Zh, Zj, Zo, List.map_cons, List.map_nil, cond_true, cond_false, aop, Zv, Zq, Zp, ev, sput, Zt, Zy, Ya, unK, Zd, Zw, Nat.reduceBEq, Nat.reduceAdd, Int.reduceBEq, Int.reduceBNe, Int.reduceLT, Zu, Zz, tup, tyf, l32_0, Int.lt_irrefl]
    refine hQ2 _ _ _ (hQ _ _ _ ?_)
    simp (maxSteps := 2000000) only [s32, ↓Za, ↓Zm, ↓Zr, ↓Ze, ↓Zk, ↓Zs, ↓Zf, ↓Zi, ↓Zg, ↓Zc, ↓Zb, ↓vdn, vup, Zl, Zn, Zh, Zj, Zo, List.map_cons, List.map_nil, cond_true, cond_false, aop, Zv, Zq, Zp, ev, sput, Zt, Zy, Ya, unK, Zd, Zw, Nat.reduceBEq, Nat.reduceAdd, Int.reduceBEq, Int.reduceBNe, Int.reduceLT, Zu, Zz, tup, tyf, if_true]

end Go.Proofs.Tryd.Am
