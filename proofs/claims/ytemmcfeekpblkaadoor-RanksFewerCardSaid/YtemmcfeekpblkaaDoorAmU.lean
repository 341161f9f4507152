/-
  The abstract machine, part U: what '==' says of arrays and structs of ints; a copy that the run owns.
-/
import Derived.Test.YtemmcfeekpblkaaDoorAmT
import Derived.Laws.StructEq
set_option linter.all false
namespace Go.Am

theorem all_range_int : ∀ (xs ys : List Int), xs.length = ys.length → ((List.range xs.length).all fun i => xs.getD i 0 == ys.getD i 0) = (xs == ys) := by
  intro xs ys h
  rw [Bool.eq_iff_iff, List.all_eq_true, beq_iff_eq]
  constructor
  · intro H
    refine List.ext_getElem h fun i h1 h2 => ?_
    have := H i (List.mem_range.2 h1)
    simpa [List.getD, List.getElem?_eq_getElem h1, List.getElem?_eq_getElem h2] using this
  · rintro rfl i _; exact beq_self_eq_true _

section
variable {P : Program} (w : World)
theorem part_int {e : TypeId} (he : P.underlying e = some (.int .i64)) {xs : List Int} {i : Nat} (hi : i < xs.length) : (part e (xs.map vint).toArray i).run P w = .ok (vint (xs.getD i 0)) w := by
  simp [part, isAgg, run_underlying he, List.getD, List.getElem?_eq_getElem hi]
theorem run_equalIn_ints (d : Nat) (t e : TypeId) (n : Nat) (ht : P.underlying t = some (.array n e)) (he : P.underlying e = some (.int .i64)) (hsz : ∀ w, (sizeOf e).run P w = .ok 1 w)
    (xs ys : List Int) (hx : xs.length = n) (hy : ys.length = n) :
    (Op.equalIn (d + 2) t (.agg (xs.map vint).toArray) (.agg (ys.map vint).toArray)).run P w = .ok (xs == ys) w := by
  rw [← all_range_int xs ys (hx.trans hy.symm), hx, List.range_eq_range', Op.equalIn]
  simp only [Sem.run_bind, run_underlying ht, Result.andThen_ok, hsz, Std.Legacy.Range.forIn_eq_forIn_range', Std.Legacy.Range.size, Nat.sub_zero, Nat.add_sub_cancel, Nat.div_one]
  have hl : ∀ i ∈ List.range' 0 n 1, i < n := fun i hi => by simpa using (List.mem_range'_1.1 hi).2
  generalize List.range' 0 n 1 = l at hl ⊢
  induction l with
  | nil => simp
  | cons i l ih =>
    have hi : i < n := hl i (by simp)
    have px : (part e (xs.map vint).toArray (i * 1)).run P w = .ok (vint (xs.getD i 0)) w := by rw [Nat.mul_one]; exact part_int w he (by omega)
    have py : (part e (ys.map vint).toArray (i * 1)).run P w = .ok (vint (ys.getD i 0)) w := by rw [Nat.mul_one]; exact part_int w he (by omega)
    have pe : (Op.equalIn (d + 1) e (vint (xs.getD i 0)) (vint (ys.getD i 0))).run P w = .ok (xs.getD i 0 == ys.getD i 0) w := run_equalIn_int w d e .i64 .i64 _ _ he
    simp only [List.forIn_cons, Sem.run_bind, px, py, pe, Result.andThen_ok, List.all_cons]
    cases hb : (xs.getD i 0 == ys.getD i 0)
    · simp
    · simp only [Bool.not_true, Bool.false_eq_true, if_false, Sem.run_pure, Result.andThen_ok, Bool.true_and]
      exact ih fun j hj => hl j (by simp [hj])
theorem run_eqFields (d : Nat) (xs ys : List Int) (hxy : xs.length = ys.length) : ∀ (fs : List Field) (i : Nat), (∀ (j : Nat) (f : Field), fs[j]? = some f → f.name ≠ "_" ∧ P.underlying f.type = some (.int .i64) ∧ f.offset = i + j) → i + fs.length = xs.length →
    (Op.eqFields (d + 1) (xs.map vint).toArray (ys.map vint).toArray fs).run P w = .ok (xs.drop i == ys.drop i) w
  | [], i, _, hl => by
    rw [Op.eqFields, List.drop_eq_nil_of_le (by simp at hl; omega), List.drop_eq_nil_of_le (by simp at hl; omega)]; rfl
  | f :: fs, i, hf, hl => by
    obtain ⟨h1, h2, h3⟩ := hf 0 f rfl
    rw [Nat.add_zero] at h3
    simp only [List.length_cons] at hl
    have hi : i < xs.length := by omega
    have px := part_int (P := P) w h2 hi
    have py := part_int (P := P) w h2 (xs := ys) (i := i) (by omega)
    have pe : (Op.equalIn (d + 1) f.type (vint (xs.getD i 0)) (vint (ys.getD i 0))).run P w = .ok (xs.getD i 0 == ys.getD i 0) w := run_equalIn_int w d f.type .i64 .i64 _ _ h2
    have ih := run_eqFields d xs ys hxy fs (i + 1) (fun j g hg => by
      obtain ⟨g1, g2, g3⟩ := hf (j + 1) g (by simpa using hg)
      exact ⟨g1, g2, by omega⟩) (by omega)
    rw [Op.eqFields, if_pos h1, h3]
    simp only [Sem.run_bind, px, py, pe, Result.andThen_ok, Sem.run_ite]
    have e1 : xs.drop i = xs.getD i 0 :: xs.drop (i + 1) := by rw [List.drop_eq_getElem_cons hi]; simp [List.getD, hi]
    have e2 : ys.drop i = ys.getD i 0 :: ys.drop (i + 1) := by rw [List.drop_eq_getElem_cons (by omega)]; simp [List.getD, show i < ys.length by omega]
    rw [e1, e2, List.cons_beq_cons]
    cases hb : (xs.getD i 0 == ys.getD i 0)
    · simp
    · simp only [Bool.not_true, Bool.false_eq_true, if_false, Bool.true_and]
      exact ih
end
theorem eqT_array {P : Program} [Tabs P] {t e : TypeId} {n : Nat} (ht : P.underlying t = some (.array n e)) (he : P.underlying e = some (.int .i64)) (hs : esz P e = some 1) (hm : P.eqGuardType P.depth t = false) : EqT P t n := by
  intro xs ys w x y hx hy
  obtain ⟨i, hi, hi2⟩ := esz_eq hs
  have hsz : ∀ w, (sizeOf e).run P w = .ok 1 w := fun w => by rw [run_sizeOf hi, hi2]
  have h1 := run_equalIn_ints w 9998 t e n ht he hsz xs ys hx hy
  refine ⟨?_, ?_⟩
  · rw [Sem.run_bind, run_eqGuard_agg w .eql t x y _ _ hm, Result.andThen_ok, run_eql_struct, h1]; rfl
  · rw [Sem.run_bind, run_eqGuard_agg w .neq t x y _ _ hm, Result.andThen_ok, run_neq_struct, h1]; rfl
theorem eqT_struct {P : Program} [Tabs P] {t : TypeId} {n : Nat} (ht : P.underlying t = some (.struct (P.fieldsOf t))) (hp : P.stoodInHeld t = false) (hm : P.eqGuardType P.depth t = false)
    (hf : ∀ (j : Nat) (f : Field), (P.fieldsOf t).toList[j]? = some f → f.name ≠ "_" ∧ P.underlying f.type = some (.int .i64) ∧ f.offset = j) (hn : (P.fieldsOf t).toList.length = n) : EqT P t n := by
  intro xs ys w x y hx hy
  have h1 : (Op.equalIn 10000 t (.agg (xs.map vint).toArray) (.agg (ys.map vint).toArray)).run P w = .ok (xs == ys) w := by
    rw [show (10000 : Nat) = 9999 + 1 from rfl, run_equalIn_agg w 9999 t _ _ ht hp]
    have := run_eqFields (P := P) w 9998 xs ys (hx.trans hy.symm) (P.fieldsOf t).toList 0 (fun j f h => by rw [Nat.zero_add]; exact hf j f h) (by rw [hn, hx, Nat.zero_add])
    simpa using this
  refine ⟨?_, ?_⟩
  · rw [Sem.run_bind, run_eqGuard_agg w .eql t x y _ _ hm, Result.andThen_ok, run_eql_struct, h1]; rfl
  · rw [Sem.run_bind, run_eqGuard_agg w .neq t x y _ _ hm, Result.andThen_ok, run_neq_struct, h1]; rfl

/-- A copy of some ints, which the run owns. -/
theorem IntSl.copyOwn {P : Program} {h : Heap} {v : Value} {xs : List Int} {e t t2 : TypeId} {b0 : Nat} (hv : IntSl h v xs) (hx : xs ≠ []) (hT : appT P t t2 = some (e, 1, 8)) (hn : xs.length < 1099511627776) (hb0 : h[b0]? = some (.ints [] e false)) {K : Value → Heap → Prop}
    (hk : K (.slice (some ⟨h.length, 0, some 0⟩) xs.length xs.length) (h ++ [.ints xs e false])) : appendK P h t t2 (.slice (some ⟨b0, 0, none⟩) 0 0) v K := by
  have hpos : 0 < xs.length := List.length_pos_iff.2 hx
  have hgo : putK h e 1 8 (.slice (some ⟨b0, 0, none⟩) 0 0) xs.length (xs.map vint) K := by
    simp only [putK]
    refine ⟨fun h => by omega, fun _ => ⟨by omega, ?_⟩⟩
    simp only [cellsK, hb0]
    refine ⟨by simp, ?_⟩
    have e1 : mkb (List.map vint (List.take (0 * 1) (List.drop 0 [])) ++ xs.map vint) e = .ints xs e false := by
      have : intsOf (xs.map vint) = some xs := intsOf_map' _
      simp [mkb, this]
    simp only [e1]
    simpa using hk
  simp only [appendK, hT]
  have hv' := hv
  rcases hv with ⟨_, h1⟩ | ⟨b, o, sp, cap, c, e', ro, rfl, hc, hb, _⟩
  · exact absurd h1 hx
  · exact ⟨fun h => absurd (List.length_eq_zero_iff.1 h) hx, fun _ => hv'.cells hx b o sp _ cap rfl hgo⟩
end Go.Am
