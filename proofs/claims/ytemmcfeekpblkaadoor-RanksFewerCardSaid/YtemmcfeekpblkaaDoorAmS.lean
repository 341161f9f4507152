/-
  The abstract machine, part S: what a call has laid beside may be forgotten; made slices of ints; cells of a block.
-/
import Derived.Test.YtemmcfeekpblkaaDoorAmR
set_option linter.all false
namespace Go.Am

/-- A value that bears no address anywhere. -/
def Low (v : Value) : Prop := ∀ (n : Nat) (ρ : Nat → Loc), VRel n ρ v v
theorem Low.atom {v : Value} (h : Am.atom v = true) : Low v := fun _ _ => .atom h
theorem Low.agg {xs : Array Value} (h : ∀ x ∈ xs.toList, Low x) : Low (.agg xs) := fun n ρ => .agg rfl fun i hi => by
  have : xs.getD i undef = xs[i] := by simp [Array.getD, hi]
  rw [this]; exact h _ (by simp) n ρ
theorem Low.tuple {xs : Array Value} (h : ∀ x ∈ xs.toList, Low x) : Low (.tuple xs) := fun n ρ => .tuple rfl fun i hi => by
  have : xs.getD i undef = xs[i] := by simp [Array.getD, hi]
  rw [this]; exact h _ (by simp) n ρ
theorem Low.int (k : IntKind) (n : Int) : Low (.int k n) := .atom rfl
theorem Low.bool (b : Bool) : Low (.bool b) := .atom rfl
theorem Low.pair {a b : Value} (ha : Low a) (hb : Low b) : Low (.tuple #[a, b]) := .tuple fun x hx => by
  simp only [List.mem_cons, List.not_mem_nil, or_false] at hx; rcases hx with rfl | rfl <;> assumption

theorem view_ext {h h' : Heap} (he : Ext (fun _ => False) h h') {i : Nat} {x : List Value × TypeId × Bool} (hv : view h i = some x) : view h' i = some x := by
  unfold view at hv ⊢
  have hi : i < h.length := view_lt (by unfold view; exact hv)
  rw [he.2 i hi id]; exact hv

theorem ACall.forget {P : Program} [Tabs P] {f : FuncId} {args : List Value} {h : Heap} {v : Value} (hv : Low v) (c : ACall P f args h fun v' h' => v' = v ∧ Ext (fun _ => False) h h') : APure P f args h v := by
  refine ⟨c.1, fun n ρ args' w s hr => (c.2 n ρ args' w s hr).mono ?_⟩
  rintro en w' ⟨_, v', ρ', h', he, ⟨rfl, hx⟩, hvr, hE, hS⟩
  refine ⟨_, v', ρ', h, he, ⟨rfl, rfl⟩, (hv h.length ρ).restrict hvr hE.agree, ?_, ?_⟩
  · refine ⟨Nat.le_refl _, hE.agree, hE.wsize, hE.os, hE.tape, hE.output, hE.keep, ?_, ?_⟩
    · rintro k ⟨i, c, e, hw, hk⟩
      exact .inr ⟨i, c, e, hw, by rw [← hk, hE.agree i (view_lt hw)]⟩
    · rintro k ⟨i, x, hw, hk⟩
      exact .inr ⟨i, x, hw, by rw [← hk, hE.agree i (view_lt hw)]⟩
  · refine ⟨fun i c e ro hw => ?_, fun i j x y hi hj hb => hS.inj i j x y (view_ext hx hi) (view_ext hx hj) hb, fun p hp => ⟨(hS.tab p hp).1, ?_⟩⟩
    · obtain ⟨c', fr, h1, h2, h3, h4, h5⟩ := hS.cells i c e ro (view_ext hx hw)
      obtain ⟨c0, fr0, -, -, h30, h40, -⟩ := s.cells i c e ro hw
      exact ⟨c', fr, h1, h2, h3, fun k hk => (h40 k hk).restrict (h4 k hk) hE.agree, h5⟩
    · rintro ⟨i, c, e, hw, hk⟩
      exact (hS.tab p hp).2 ⟨i, c, e, view_ext hx hw, hk⟩

section
variable {P : Program} {h : Heap} {b o : Nat} {v : Value} {e t : TypeId} {c : List Value} {ro : Bool}
theorem makeI {l : Int} {K : Value → Heap → Prop} (he : elemOf' P t = some e) (hz : zeroOf P e = some [.int .i64 0]) (hi : (P.info? e).map (fun i => (i.size, i.bytes)) = some (1, 8)) (h0 : 0 ≤ l) (h1 : l ≤ 35184372088832) :
    makeK P h t (.int .i64 l) (.int .i64 l) K = K (.slice (some ⟨h.length, 0, none⟩) l.toNat l.toNat) (h ++ [.ints (List.replicate l.toNat 0) e false]) := by
  obtain ⟨i, hi1, hi2⟩ := Option.map_eq_some_iff.1 hi
  simp only [Prod.mk.injEq] at hi2
  simp only [makeK, he, hz, hi1, hi2.1, hi2.2, zblk]
  apply propext
  constructor
  · intro hk; exact hk.2.2.2.2.2.2
  · intro hk
    refine ⟨rfl, by decide, h0, Int.le_refl _, ?_, by omega, hk⟩
    omega
/-- One cell of a block. -/
theorem loadC {K : Value → Prop} (hb : h[b]? = some (.cells c e ro)) (hs : shp P t = some none) (hv : c[o]? = some v) : loadK P h t (.pointer (some ⟨b, o, none⟩)) K = K v := by
  simp only [loadK, hs, cellK, hb, hv]
/-- All cells of a block. -/
theorem loadA {K : Value → Prop} (hb : h[b]? = some (.cells c e ro)) (hs : shp P t = some (some c.length)) : loadK P h t (.pointer (some ⟨b, 0, none⟩)) K = K (.agg c.toArray) := by
  simp only [loadK, hs, cellsK, hb, List.drop_zero, Nat.zero_add, Nat.le_refl, true_and, List.take_length]
theorem storeC {K : Heap → Prop} (hb : h[b]? = some (.cells c e false)) (hs : shp P t = some none) (hv : one v = true) (ho : o < c.length) : storeK P h t (.pointer (some ⟨b, o, none⟩)) v K = K (h.set b (.cells (c.set o v) e false)) := by
  simp only [storeK, hs, hb, hv, ho, true_and]
theorem storeA {K : Heap → Prop} {vs : List Value} (hb : h[b]? = some (.cells c e false)) (hs : shp P t = some (some vs.length)) (hv : vs.all one = true) (hl : c.length = vs.length) :
    storeK P h t (.pointer (some ⟨b, 0, none⟩)) (.agg vs.toArray) K = K (h.set b (.cells vs e false)) := by
  have hsp : splice c 0 vs = vs := by
    unfold splice
    rw [List.take_zero, List.nil_append, Nat.zero_add, ← hl, List.drop_length, List.append_nil]
  simp only [storeK, hs, hb]
  simp [hv, hl, hsp]
end

/-- Cut behind the first of two parts: what comes next is hidden. -/
theorem aw_cut {P : Program} [Tabs P] {sz : Nat} {a b : SCode} {Q : Exit → Env → Heap → Prop} {e : Env} {h : Heap} (k : ∀ N : Env → Heap → Prop, (∀ e h, aw P sz b Q e h → N e h) → aw P sz a (aThen N Q) e h) : aw P sz (.seq a b) Q e h := by
  rw [aw_seq]; exact k _ fun _ _ h => h

section
variable {P : Program} {t ft e : TypeId} {b o off sz n k f : Nat} {K : Value → Prop}
theorem idxA (hu : P.underlying t = some (.array n e)) (hs : esz P e = some 1) (hk : k < n) : idxAddrK P t (.pointer (some ⟨b, o, none⟩)) (vint (k : Nat)) K = K (.pointer (some ⟨b, o + k, none⟩)) := by
  simp only [idxAddrK, hu, hs, Int.natCast_nonneg, Int.toNat_natCast, Nat.mul_one, true_and, Int.ofNat_lt.2 hk]
theorem fldA (hf : fldOf P t f = some (ft, off)) (hs : esz P ft = some (sz + 1)) : fieldAddrK P t (.pointer (some ⟨b, 0, none⟩)) f K = K (.pointer (some ⟨b, off, none⟩)) := by
  simp only [fieldAddrK, hf, hs, Nat.zero_add]
  simp
end
end Go.Am
