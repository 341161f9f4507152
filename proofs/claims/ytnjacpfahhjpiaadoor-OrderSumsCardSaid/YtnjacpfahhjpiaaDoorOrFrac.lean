/-
  order: fractions.
-/
import Derived.Test.YtnjacpfahhjpiaaDoorOrRead2
import Derived.Test.YtnjacpfahhjpiaaDoorFnD
import Derived.Test.YtnjacpfahhjpiaaDoorAmU
set_option linter.all false
namespace Go.Proofs.Tryd.Am
open Go.Am Ord
set_option maxRecDepth 100000
set_option maxHeartbeats 1000000

/-- A fraction, as it is handed back. -/
def frV (x y : Int) : Value := .agg #[vint x, vint y]
theorem low_frV (x y : Int) : Low (frV x y) := .agg fun w hw => by
  simp at hw; rcases hw with rfl | rfl <;> exact .int _ _
theorem loadF {h : Heap} {b : Nat} {x y : Int} {e : TypeId} {ro : Bool} {K : Value → Prop} (hb : h[b]? = some (.cells [vint x, vint y] e ro)) : loadK prog h 37 (.pointer (some ⟨b, 0, none⟩)) K = K (.agg #[vint x, vint y]) :=
  loadA hb (by rw [shp_37]; rfl)
theorem storeF {h : Heap} {b : Nat} {x y : Int} {e : TypeId} {c : List Value} {K : Heap → Prop} (hb : h[b]? = some (.cells c e false)) (hc : c.length = 2) : storeK prog h 37 (.pointer (some ⟨b, 0, none⟩)) (.agg #[vint x, vint y]) K = K (h.set b (.cells [vint x, vint y] e false)) :=
  storeA (vs := [vint x, vint y]) hb (by rw [shp_37]; rfl) rfl (by rw [hc]; rfl)
theorem bldF {x y : Int} {K : Value → Prop} : buildK prog 37 [(0, vint x), (1, vint y)] K = K (.agg #[vint x, vint y]) := by
  simp [buildK, zero_37, fillL, pl_37_0, pl_37_1, notTuple, cellsOf, splice]
theorem bldF0 {K : Value → Prop} : buildK prog 37 [] K = K (.agg #[vint 0, vint 0]) := by
  simp [buildK, zero_37, fillL, pl_37_0]
theorem bldF1 {y : Int} {K : Value → Prop} : buildK prog 37 [(1, vint y)] K = K (.agg #[vint 0, vint y]) := by
  simp [buildK, zero_37, fillL, pl_37_1, notTuple, cellsOf, splice]
noncomputable def okF (p : Field × Nat) : Bool := p.1.name != "_" && (match prog.underlying p.1.type with | some (.int .i64) => true | _ => false) && p.1.offset == p.2
theorem eqF [Tabs prog] : EqT prog 37 2 := eqT_struct (by kernel_rfl) (by kernel_rfl) (by kernel_rfl) (fun j f hf => by
  have h4 : (prog.fieldsOf 37).toList.zipIdx.all okF = true := by kernel_rfl
  have h5 := List.all_eq_true.1 h4 (f, j) (by rw [List.mem_zipIdx_iff_getElem?]; exact hf)
  simp only [okF, Bool.and_eq_true, bne_iff_ne, beq_iff_eq] at h5
  refine ⟨h5.1.1, ?_, h5.2⟩
  have h6 := h5.1.2
  split at h6
  · assumption
  · cases h6) (by kernel_rfl)
theorem tmodN (x y : Nat) : ((x : Nat) : Int).tmod ((y : Nat) : Int) = ((x % y : Nat) : Int) := by
  rw [Int.tmod_eq_emod_of_nonneg (by omega)]; rfl
theorem quoN {x y : Nat} (hx : x < 9223372036854775808) : quoV .i64 ((x : Nat) : Int) ((y : Nat) : Int) = ((x / y : Nat) : Int) := by
  have e : ((x : Nat) : Int).tdiv ((y : Nat) : Int) = ((x / y : Nat) : Int) := by
    rw [Int.tdiv_eq_ediv_of_nonneg (by omega)]; rfl
  have h1 := Nat.div_le_self x y
  rw [quoV, e]
  generalize x / y = z at h1
  exact wrap_id (by omega) (by omega)
/-- The fraction a / b in least terms. -/
def fracV (a b : Nat) : Value := frV ((a / Nat.gcd a b : Nat) : Int) ((b / Nat.gcd a b : Nat) : Int)

theorem frac_call [Tabs prog] {h : Heap} {a b : Nat} (hb : 0 < b) (ha : a < 9223372036854775808) (hb2 : b < 9223372036854775808) : APure prog 73 [vint a, vint b] h (fracV a b) := by
  have hg : 0 < Nat.gcd a b := Nat.gcd_pos_of_pos_right a hb
  refine ACall.forget (low_frV _ _) ?_
  refine s73_call (by simp) ?_
  simp only [s73]
  have c0 := get_new h (Blk.cells [.int .i64 0, .int .i64 0] 37 false)
  have hE0 : Ext (fun _ => False) h (h ++ [Blk.cells [.int .i64 0, .int .i64 0] 37 false]) := Ext.app _ _ _
  simp (config := {maxSteps := 2000000}) only [s73, ↓aw_region, ↓aw_skip, ↓aw_seq, ↓aw_block, ↓aw_exit, ↓aw_ret, ↓sops_nil, ↓sops_go, ↓dops_nil, ↓dopsX_nil, ↓dopsR_nil, ↓vdn, vup, extr_20, extr_21, extr_30, extr_31, extr_32, List.map_cons, List.map_nil, cond_true, cond_false, aop, aThen, aBlock, argEnv, ev, sput, sputO, binK, binI, unK, builtinK, pickK, Nat.reduceBEq, Nat.reduceAdd, Int.reduceBEq, Int.reduceBNe, Int.reduceLT, aPost, resK, tup, tyf, allocK, newPtr, zero_37, ↓aw_loop_eq]
  refine aws_hide fun Q hQ => ?_
  refine aw_loop (γ := Nat × Nat) (fun s => Nat.gcd s.1 s.2 = Nat.gcd a b ∧ s.1 < 9223372036854775808 ∧ s.2 < 9223372036854775808)
    (fun s => ([(0, vint a), (1, vint b), (4, .pointer (some ⟨h.length, 0, none⟩)), (5, vint s.1), (6, vint s.2)], h ++ [Blk.cells [.int .i64 0, .int .i64 0] 37 false])) (fun s => s.2) (a, b) ⟨rfl, ha, hb2⟩ (by simp (config := {maxSteps := 2000000}) only [↓aw_region, ↓aw_skip, ↓aw_seq, ↓aw_block, ↓aw_exit, ↓aw_ret, ↓sops_nil, ↓sops_go, ↓dops_nil, ↓dopsX_nil, ↓dopsR_nil, ↓vdn, vup, extr_20, extr_21, extr_30, extr_31, extr_32, List.map_cons, List.map_nil, cond_true, cond_false, aop, aThen, aBlock, argEnv, ev, sput, sputO, binK, binI, unK, builtinK, pickK, Nat.reduceBEq, Nat.reduceAdd, Int.reduceBEq, Int.reduceBNe, Int.reduceLT, aPost, resK, tup, tyf]) rfl ?_
  rintro ⟨x, y⟩ ⟨hxy, hx, hy⟩
  simp only at hxy hx hy
  refine aw_hide fun Q2 hQ2 => ?_
  by_cases hy0 : y = 0
  · subst hy0
    have e0 : (((0 : Nat) : Int) != 0) = false := rfl
    rw [Nat.gcd_zero_right] at hxy
    subst hxy
    simp (config := {maxSteps := 2000000}) only [s73, ↓aw_region, ↓aw_skip, ↓aw_seq, ↓aw_block, ↓aw_exit, ↓aw_ret, ↓sops_nil, ↓sops_go, ↓dops_nil, ↓dopsX_nil, ↓dopsR_nil, ↓vdn, vup, extr_20, extr_21, extr_30, extr_31, extr_32, List.map_cons, List.map_nil, cond_true, cond_false, aop, aThen, aBlock, argEnv, ev, sput, sputO, binK, binI, unK, builtinK, pickK, Nat.reduceBEq, Nat.reduceAdd, Int.reduceBEq, Int.reduceBNe, Int.reduceLT, aPost, resK, tup, tyf, l73_0, e0]
    refine hQ2 _ _ _ (hQ _ _ _ ?_)
    have hg0 : ¬ ((Nat.gcd a b : Nat) : Int) = 0 := by omega
    simp only [aBlock, if_true, aThen]
    refine aw_drawX [] (by kernel_rfl) (by kernel_rfl) (by kernel_rfl) (by kernel_rfl) ?_
    have c1 : ∀ {x y : Int} {K : Value → Prop}, loadK prog ((h ++ [Blk.cells [.int .i64 0, .int .i64 0] 37 false]).set h.length (.cells [vint x, vint y] 37 false)) 37 (.pointer (some ⟨h.length, 0, none⟩)) K = K (.agg #[vint x, vint y]) := fun {x y K} => loadF (get_set (by simp) _)
    simp (config := {maxSteps := 2000000}) only [s73, ↓aw_region, ↓aw_skip, ↓aw_seq, ↓aw_block, ↓aw_exit, ↓aw_ret, ↓sops_nil, ↓sops_go, ↓dops_nil, ↓dopsX_nil, ↓dopsR_nil, ↓vdn, vup, extr_20, extr_21, extr_30, extr_31, extr_32, List.map_cons, List.map_nil, cond_true, cond_false, aop, aThen, aBlock, argEnv, ev, sput, sputO, binK, binI, unK, builtinK, pickK, Nat.reduceBEq, Nat.reduceAdd, Int.reduceBEq, Int.reduceBNe, Int.reduceLT, aPost, resK, tup, tyf, ne_eq, hg0, not_false_eq_true, quoN ha, quoN hb2, List.toList_toArray, bldF, storeF c0 rfl, c1]
    exact ⟨rfl, by simp, fun i hi _ => by rw [List.getElem?_set_ne (by omega), List.getElem?_append_left hi]⟩
  · have e0 : (((y : Nat) : Int) != 0) = true := by
      have : ((y : Nat) : Int) ≠ 0 := by omega
      simpa using this
    have e1 : ¬ ((y : Nat) : Int) = 0 := by omega
    simp (config := {maxSteps := 2000000}) only [s73, ↓aw_region, ↓aw_skip, ↓aw_seq, ↓aw_block, ↓aw_exit, ↓aw_ret, ↓sops_nil, ↓sops_go, ↓dops_nil, ↓dopsX_nil, ↓dopsR_nil, ↓vdn, vup, extr_20, extr_21, extr_30, extr_31, extr_32, List.map_cons, List.map_nil, cond_true, cond_false, aop, aThen, aBlock, argEnv, ev, sput, sputO, binK, binI, unK, builtinK, pickK, Nat.reduceBEq, Nat.reduceAdd, Int.reduceBEq, Int.reduceBNe, Int.reduceLT, aPost, resK, tup, tyf, l73_0, e0]
    refine aw_drawX [] (by kernel_rfl) (by kernel_rfl) (by kernel_rfl) (by kernel_rfl) ?_
    simp (config := {maxSteps := 2000000}) only [s73, ↓aw_region, ↓aw_skip, ↓aw_seq, ↓aw_block, ↓aw_exit, ↓aw_ret, ↓sops_nil, ↓sops_go, ↓dops_nil, ↓dopsX_nil, ↓dopsR_nil, ↓vdn, vup, extr_20, extr_21, extr_30, extr_31, extr_32, List.map_cons, List.map_nil, cond_true, cond_false, aop, aThen, aBlock, argEnv, ev, sput, sputO, binK, binI, unK, builtinK, pickK, Nat.reduceBEq, Nat.reduceAdd, Int.reduceBEq, Int.reduceBNe, Int.reduceLT, aPost, resK, tup, tyf, ne_eq, e1, not_false_eq_true, tmodN]
    have hlt := Nat.mod_lt x (show y > 0 by omega)
    refine hQ2 _ _ _ ⟨(y, x % y), ⟨?_, hy, by simp only; omega⟩, hlt, by simp (config := {maxSteps := 2000000}) only [↓aw_region, ↓aw_skip, ↓aw_seq, ↓aw_block, ↓aw_exit, ↓aw_ret, ↓sops_nil, ↓sops_go, ↓dops_nil, ↓dopsX_nil, ↓dopsR_nil, ↓vdn, vup, extr_20, extr_21, extr_30, extr_31, extr_32, List.map_cons, List.map_nil, cond_true, cond_false, aop, aThen, aBlock, argEnv, ev, sput, sputO, binK, binI, unK, builtinK, pickK, Nat.reduceBEq, Nat.reduceAdd, Int.reduceBEq, Int.reduceBNe, Int.reduceLT, aPost, resK, tup, tyf], rfl⟩
    simp only
    rw [← hxy, Nat.gcd_comm x y, Nat.gcd_rec y x, Nat.gcd_comm]

theorem fracR_call [Tabs prog] {h : Heap} {a b : Nat} (hb : 0 < b) (ha : a < 9223372036854775808) (hb2 : b < 9223372036854775808) : APure prog 74 [vint a, vint b] h (fracV a b) := by
  have hg : 0 < Nat.gcd a b := Nat.gcd_pos_of_pos_right a hb
  refine ACall.forget (low_frV _ _) ?_
  refine s74_call (by simp) ?_
  simp only [s74]
  have c0 := get_new h (Blk.cells [.int .i64 0, .int .i64 0] 37 false)
  have hE0 : Ext (fun _ => False) h (h ++ [Blk.cells [.int .i64 0, .int .i64 0] 37 false]) := Ext.app _ _ _
  simp (config := {maxSteps := 2000000}) only [s74, ↓aw_region, ↓aw_skip, ↓aw_seq, ↓aw_block, ↓aw_exit, ↓aw_ret, ↓sops_nil, ↓sops_go, ↓dops_nil, ↓dopsX_nil, ↓dopsR_nil, ↓vdn, vup, extr_20, extr_21, extr_30, extr_31, extr_32, List.map_cons, List.map_nil, cond_true, cond_false, aop, aThen, aBlock, argEnv, ev, sput, sputO, binK, binI, unK, builtinK, pickK, Nat.reduceBEq, Nat.reduceAdd, Int.reduceBEq, Int.reduceBNe, Int.reduceLT, aPost, resK, tup, tyf, allocK, newPtr, zero_37, ↓aw_loop_eq]
  refine aws_hide fun Q hQ => ?_
  refine aw_loop (γ := Nat × Nat) (fun s => Nat.gcd s.1 s.2 = Nat.gcd a b ∧ s.1 < 9223372036854775808 ∧ s.2 < 9223372036854775808)
    (fun s => ([(0, vint a), (1, vint b), (4, .pointer (some ⟨h.length, 0, none⟩)), (5, vint s.1), (6, vint s.2)], h ++ [Blk.cells [.int .i64 0, .int .i64 0] 37 false])) (fun s => s.2) (a, b) ⟨rfl, ha, hb2⟩ (by simp (config := {maxSteps := 2000000}) only [↓aw_region, ↓aw_skip, ↓aw_seq, ↓aw_block, ↓aw_exit, ↓aw_ret, ↓sops_nil, ↓sops_go, ↓dops_nil, ↓dopsX_nil, ↓dopsR_nil, ↓vdn, vup, extr_20, extr_21, extr_30, extr_31, extr_32, List.map_cons, List.map_nil, cond_true, cond_false, aop, aThen, aBlock, argEnv, ev, sput, sputO, binK, binI, unK, builtinK, pickK, Nat.reduceBEq, Nat.reduceAdd, Int.reduceBEq, Int.reduceBNe, Int.reduceLT, aPost, resK, tup, tyf]) rfl ?_
  rintro ⟨x, y⟩ ⟨hxy, hx, hy⟩
  simp only at hxy hx hy
  refine aw_hide fun Q2 hQ2 => ?_
  by_cases hy0 : y = 0
  · subst hy0
    have e0 : (((0 : Nat) : Int) != 0) = false := rfl
    rw [Nat.gcd_zero_right] at hxy
    subst hxy
    simp (config := {maxSteps := 2000000}) only [s74, ↓aw_region, ↓aw_skip, ↓aw_seq, ↓aw_block, ↓aw_exit, ↓aw_ret, ↓sops_nil, ↓sops_go, ↓dops_nil, ↓dopsX_nil, ↓dopsR_nil, ↓vdn, vup, extr_20, extr_21, extr_30, extr_31, extr_32, List.map_cons, List.map_nil, cond_true, cond_false, aop, aThen, aBlock, argEnv, ev, sput, sputO, binK, binI, unK, builtinK, pickK, Nat.reduceBEq, Nat.reduceAdd, Int.reduceBEq, Int.reduceBNe, Int.reduceLT, aPost, resK, tup, tyf, l74_0, e0]
    refine hQ2 _ _ _ (hQ _ _ _ ?_)
    have hg0 : ¬ ((Nat.gcd a b : Nat) : Int) = 0 := by omega
    simp only [aBlock, if_true, aThen]
    refine aw_drawX [] (by kernel_rfl) (by kernel_rfl) (by kernel_rfl) (by kernel_rfl) ?_
    have c1 : ∀ {x y : Int} {K : Value → Prop}, loadK prog ((h ++ [Blk.cells [.int .i64 0, .int .i64 0] 37 false]).set h.length (.cells [vint x, vint y] 37 false)) 37 (.pointer (some ⟨h.length, 0, none⟩)) K = K (.agg #[vint x, vint y]) := fun {x y K} => loadF (get_set (by simp) _)
    simp (config := {maxSteps := 2000000}) only [s74, ↓aw_region, ↓aw_skip, ↓aw_seq, ↓aw_block, ↓aw_exit, ↓aw_ret, ↓sops_nil, ↓sops_go, ↓dops_nil, ↓dopsX_nil, ↓dopsR_nil, ↓vdn, vup, extr_20, extr_21, extr_30, extr_31, extr_32, List.map_cons, List.map_nil, cond_true, cond_false, aop, aThen, aBlock, argEnv, ev, sput, sputO, binK, binI, unK, builtinK, pickK, Nat.reduceBEq, Nat.reduceAdd, Int.reduceBEq, Int.reduceBNe, Int.reduceLT, aPost, resK, tup, tyf, ne_eq, hg0, not_false_eq_true, quoN ha, quoN hb2, List.toList_toArray, bldF, storeF c0 rfl, c1]
    exact ⟨rfl, by simp, fun i hi _ => by rw [List.getElem?_set_ne (by omega), List.getElem?_append_left hi]⟩
  · have e0 : (((y : Nat) : Int) != 0) = true := by
      have : ((y : Nat) : Int) ≠ 0 := by omega
      simpa using this
    have e1 : ¬ ((y : Nat) : Int) = 0 := by omega
    simp (config := {maxSteps := 2000000}) only [s74, ↓aw_region, ↓aw_skip, ↓aw_seq, ↓aw_block, ↓aw_exit, ↓aw_ret, ↓sops_nil, ↓sops_go, ↓dops_nil, ↓dopsX_nil, ↓dopsR_nil, ↓vdn, vup, extr_20, extr_21, extr_30, extr_31, extr_32, List.map_cons, List.map_nil, cond_true, cond_false, aop, aThen, aBlock, argEnv, ev, sput, sputO, binK, binI, unK, builtinK, pickK, Nat.reduceBEq, Nat.reduceAdd, Int.reduceBEq, Int.reduceBNe, Int.reduceLT, aPost, resK, tup, tyf, l74_0, e0]
    refine aw_drawX [] (by kernel_rfl) (by kernel_rfl) (by kernel_rfl) (by kernel_rfl) ?_
    simp (config := {maxSteps := 2000000}) only [s74, ↓aw_region, ↓aw_skip, ↓aw_seq, ↓aw_block, ↓aw_exit, ↓aw_ret, ↓sops_nil, ↓sops_go, ↓dops_nil, ↓dopsX_nil, ↓dopsR_nil, ↓vdn, vup, extr_20, extr_21, extr_30, extr_31, extr_32, List.map_cons, List.map_nil, cond_true, cond_false, aop, aThen, aBlock, argEnv, ev, sput, sputO, binK, binI, unK, builtinK, pickK, Nat.reduceBEq, Nat.reduceAdd, Int.reduceBEq, Int.reduceBNe, Int.reduceLT, aPost, resK, tup, tyf, ne_eq, e1, not_false_eq_true, tmodN]
    have hlt := Nat.mod_lt x (show y > 0 by omega)
    refine hQ2 _ _ _ ⟨(y, x % y), ⟨?_, hy, by simp only; omega⟩, hlt, by simp (config := {maxSteps := 2000000}) only [↓aw_region, ↓aw_skip, ↓aw_seq, ↓aw_block, ↓aw_exit, ↓aw_ret, ↓sops_nil, ↓sops_go, ↓dops_nil, ↓dopsX_nil, ↓dopsR_nil, ↓vdn, vup, extr_20, extr_21, extr_30, extr_31, extr_32, List.map_cons, List.map_nil, cond_true, cond_false, aop, aThen, aBlock, argEnv, ev, sput, sputO, binK, binI, unK, builtinK, pickK, Nat.reduceBEq, Nat.reduceAdd, Int.reduceBEq, Int.reduceBNe, Int.reduceLT, aPost, resK, tup, tyf], rfl⟩
    simp only
    rw [← hxy, Nat.gcd_comm x y, Nat.gcd_rec y x, Nat.gcd_comm]

/-- Whether a fraction is none. -/
theorem none_call [Tabs prog] {h : Heap} {x y : Int} : APure prog 28 [.agg #[vint x, vint y]] h (.bool (([x, y] : List Int) == [0, 0])) := by
  refine ACall.forget (Low.bool _) ?_
  refine s28_call (by simp) ?_
  have hb : ∀ {K : Value → Heap → Prop}, boxK prog h 37 (.agg #[vint x, vint y]) K = K (newPtr h) (h ++ [.cells [vint x, vint y] 37 false]) := fun {K} => by
    simp [boxK, esz_37, newPtr, cellsOf]
  have c0 := get_new h (Blk.cells [vint x, vint y] 37 false)
  simp (config := {maxSteps := 2000000}) only [s28, ↓aw_region, ↓aw_skip, ↓aw_seq, ↓aw_block, ↓aw_exit, ↓aw_ret, ↓sops_nil, ↓sops_go, ↓dops_nil, ↓dopsX_nil, ↓dopsR_nil, ↓vdn, vup, extr_20, extr_21, extr_30, extr_31, extr_32, List.map_cons, List.map_nil, cond_true, cond_false, aop, aThen, aBlock, argEnv, ev, sput, sputO, binK, binI, unK, builtinK, pickK, Nat.reduceBEq, Nat.reduceAdd, Int.reduceBEq, Int.reduceBNe, Int.reduceLT, aPost, resK, tup, tyf, hb, newPtr, loadF c0, List.toList_toArray, bldF0, intsOf, Option.map_some, List.length_cons, List.length_nil, Nat.zero_add, eqF]
  exact Ext.app _ _ _
end Go.Proofs.Tryd.Am
