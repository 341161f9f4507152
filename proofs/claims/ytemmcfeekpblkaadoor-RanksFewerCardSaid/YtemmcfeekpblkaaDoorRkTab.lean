/-
  ranks: the table of math/bits, out of what the statement grants.
-/
import Derived.Test.YtemmcfeekpblkaaDoorAmR
import Derived.Test.YtemmcfeekpblkaaDoorRows
import Derived.Test.YtemmcfeekpblkaaDoorProg
import Derived.MakeChecks
set_option linter.all false
namespace Go.Proofs.YtemmcfeekpblkaaDoor
open Go Go.Am Go.ChangeShapes Go.WideShapes Go.ChangeAt Go.WideMaps Go.WideElems Go.RowKit

theorem row_bytes {H : Type} {enc : TypeId × Value → H} {P : Program} {w : World} {base : Nat} {spare : Nat → Bool} {held : Bool} {fuel : Nat} {t e : TypeId} {n : Nat} {cs : List Value} {ns : List Nat} {p : List MemPlace}
    (ht : P.underlying t = some (.array n e)) (he : P.underlying e = some (.int .u8)) (hc : P.cellsOf e = 1) (hct : P.cellsOf t = n) (h : DataW.trod enc P w base spare held fuel t cs = some (.agg (ns.map fun (k : Nat) => .lit (.int .u8 k)), p)) : cs = ns.map fun (k : Nat) => Value.int .u8 k := by
  obtain ⟨xs, m, rfl, hx, hlen, hn, hel⟩ := DataW.trod_array ht h
  simp only [Prod.mk.injEq, DataW.agg.injEq] at hx
  have hns : ns.length = n := by rw [← hn, ← List.length_map (f := fun (x : DataW H × List MemPlace) => x.1), ← hx.1, List.length_map]
  apply List.ext_getElem (by rw [hlen, hct, List.length_map, hns])
  intro i h1 h2
  have hi : i < n := by rw [hlen, hct] at h1; exact h1
  have h3 := hel i hi
  rw [hc, Nat.mul_one, List.getElem?_eq_getElem (by omega)] at h3
  obtain ⟨k, g1, g2, _⟩ := DataW.trod_int he h3
  have h4 : (xs.map (·.1))[i]? = some (xs[i]'(by omega)).1 := by simp [List.getElem?_map, List.getElem?_eq_getElem (show i < xs.length by omega)]
  rw [← hx.1, g2] at h4
  rw [List.drop_eq_getElem_cons h1, List.take_succ_cons, List.take_zero] at g1
  have g1 := (List.cons.inj g1).1
  simp at h4
  obtain ⟨a, ha, hk⟩ := h4
  rw [g1, List.getElem_map]
  have : ns[i]'(by omega) = a := by
    rw [List.getElem?_eq_getElem (show i < ns.length by omega)] at ha; exact Option.some.inj ha
  rw [this, ← hk]

abbrev laid2 : List (String × DataW Unit) := [("math/bits.deBruijn32tab", Rows.laid_math_bits_deBruijn32tab), ("math/bits.deBruijn64tab", Rows.laid_math_bits_deBruijn64tab)]

theorem tab_of {W : World} (h : laidMetH Tryd.prog laid2 W) : ∃ e fr, W.heap[1]? = some (.cells (Lib.deBruijn64tab.map fun (n : Nat) => Value.int .u8 n).toArray e fr) := by
  rw [MakeChecks.laidMetH_plain _ _ _ (by kernel_rfl)] at h
  obtain ⟨ps, ⟨g0, t0, cs0, f0, p0, q0, hg0, ht0, hv0, hd0, ⟨g1, t1, cs1, f1, p1, q1, hg1, ht1, hv1, hd1, _, _⟩, _⟩, _, _⟩ := h
  obtain rfl := Option.some.inj ((show Tryd.prog.globalNamed "math/bits.deBruijn64tab" = some 1 by kernel_rfl).symm.trans hg1)
  obtain rfl := Option.some.inj ((show (Tryd.prog.globals[1]?).map (·.type) = some 103 by kernel_rfl).symm.trans ht1)
  have hrow := row_bytes (ns := Lib.deBruijn64tab) Tryd.underlying103 Tryd.underlying5 (by kernel_rfl) (by kernel_rfl) hd1
  simp only [World.var?, hg1, Option.bind_some] at hv1
  split at hv1
  · rename_i cs e fr hh
    cases hv1
    exact ⟨e, fr, by rw [hh, ← hrow]⟩
  · cases hv1
end Go.Proofs.YtemmcfeekpblkaaDoor
