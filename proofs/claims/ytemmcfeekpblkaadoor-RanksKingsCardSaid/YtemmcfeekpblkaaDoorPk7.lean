/-
  ranks: the library's sort of a short slice: what stands ahead of the insertion; the stable sort by a function.
  ranks, plain: which numbers are the scores of a tournament: the greatest one taken away, and the sums of the least ones (Landau). What is decided of the short lists is decided by the kernel.
  ranks: the scores, rising.
  ranks: the kings and the parts, as the reference finds them.
  ranks: the parts, as the reference finds them.
  ranks: the parts, as the reference finds them: the whole.
  ranks: who is reached from a player, as the program finds it.
  ranks: the library's sort of a short slice by a function: insertion; the stable sort.
  ranks: the library's sort of a short slice by a function, not stable.
  ranks: the parts, as the program finds them: a map from reaches to players, the reaches sorted.
-/
import Derived.Test.YtemmcfeekpblkaaDoorPk6
set_option linter.all false
namespace Go.Proofs.Tryd.Am
open Go.Am Rb
set_option maxRecDepth 100000
set_option maxHeartbeats 1000000

theorem wrap8 {x : Nat} (h : x < 256) : IntKind.u8.wrap (x : Int) = (x : Int) := by
  simp [IntKind.wrap, IntKind.signed, IntKind.bits]; omega
theorem s119_callW [Tabs Tryd.prog] {args : List Value} {h : Heap} {Q : Value → Heap → Prop} (hsz : args.length ≤ 25) (hk : AWS Tryd.prog 25 s119 (aPost Tryd.prog [.tmp 2] Q) (argEnv 0 args) h) : ACall Tryd.prog 119 args h Q :=
  acall_w Tryd.func119 rfl (enters_of Tryd.func119 (by kernel_rfl) rfl) rfl rfl (by decide) s119_strip s119_ok hsz hk
theorem len64_call [Tabs prog] {h : Heap} {x : Nat} (hx : x < 256) : ACall prog 119 [vu x] h fun r h' => (∃ z, r = .int .i64 z) ∧ h' = h := by
  obtain ⟨s, hs, hq⟩ : ∃ s : ByteArray, s.size = 256 ∧ q119_10 = .region [⟨some 19, .move (.tmp 2), none⟩, ⟨some 20, .move (.tmp 0), none⟩, ⟨some 21, .convert 89 5 (.tmp 20), none⟩, ⟨some 22, .index 9 (.const (.string s)) (.tmp 21), none⟩,
      ⟨some 23, .convert 5 3 (.tmp 22), none⟩, ⟨some 24, .binOp .add 3 (.tmp 19) (.tmp 23) 3, none⟩, ⟨some 2, .assign (.tmp 24), none⟩] := by
    refine ⟨_, ?_, rfl⟩
    kernel_rfl
  have hidx : s[x]? = some (s[x]'(by omega)) := getElem?_pos s x (by omega)
  have hnn : ∀ i : Nat, (0 : Int) ≤ (i : Int) := Int.natCast_nonneg
  have n1 : ¬ (4294967296 : Int) ≤ (x : Int) := by omega
  have n2 : ¬ (65536 : Int) ≤ (x : Int) := by omega
  have n3 : ¬ (256 : Int) ≤ (x : Int) := by omega
  refine s119_callW (by simp) ?_
  simp only [s119]
  refine aws_cut fun N1 hN1 => ?_
  simp (maxSteps := 2000000) only [s119, ↓aw_region, ↓aw_skip, ↓aw_seq, ↓aw_block, ↓aw_exit, ↓aw_ret, ↓sops_nil, ↓sops_go, ↓dops_nil, ↓dopsX_nil, ↓dopsR_nil, ↓vdn, vup, extr_20, extr_21, extr_30, extr_31, extr_32, List.map_cons, List.map_nil, cond_true, cond_false, aop, aThen, aBlock, argEnv, ev, sput, sputO, binK, binI, unK, builtinK, pickK, Nat.reduceBEq, Nat.reduceAdd, Int.reduceBEq, Int.reduceBNe, Int.reduceLT, aPost, resK, tup, tyf]
  refine hN1 [(0, vu x), (2, .int .i64 0)] _ _ ?_ (by simp (maxSteps := 2000000) only [↓aw_region, ↓aw_skip, ↓aw_seq, ↓aw_block, ↓aw_exit, ↓aw_ret, ↓sops_nil, ↓sops_go, ↓dops_nil, ↓dopsX_nil, ↓dopsR_nil, ↓vdn, vup, extr_20, extr_21, extr_30, extr_31, extr_32, List.map_cons, List.map_nil, cond_true, cond_false, aop, aThen, aBlock, argEnv, ev, sput, sputO, binK, binI, unK, builtinK, pickK, Nat.reduceBEq, Nat.reduceAdd, Int.reduceBEq, Int.reduceBNe, Int.reduceLT, aPost, resK, tup, tyf])
  clear hN1
  try clear N1
  refine aws_cut fun N2 hN2 => ?_
  simp (maxSteps := 2000000) only [s119, ↓aw_region, ↓aw_skip, ↓aw_seq, ↓aw_block, ↓aw_exit, ↓aw_ret, ↓sops_nil, ↓sops_go, ↓dops_nil, ↓dopsX_nil, ↓dopsR_nil, ↓vdn, vup, extr_20, extr_21, extr_30, extr_31, extr_32, List.map_cons, List.map_nil, cond_true, cond_false, aop, aThen, aBlock, argEnv, ev, sput, sputO, binK, binI, unK, builtinK, pickK, Nat.reduceBEq, Nat.reduceAdd, Int.reduceBEq, Int.reduceBNe, Int.reduceLT, aPost, resK, tup, tyf, ge_iff_le, n1]
  refine hN2 [(0, vu x), (2, .int .i64 0)] _ _ ?_ (by simp (maxSteps := 2000000) only [↓aw_region, ↓aw_skip, ↓aw_seq, ↓aw_block, ↓aw_exit, ↓aw_ret, ↓sops_nil, ↓sops_go, ↓dops_nil, ↓dopsX_nil, ↓dopsR_nil, ↓vdn, vup, extr_20, extr_21, extr_30, extr_31, extr_32, List.map_cons, List.map_nil, cond_true, cond_false, aop, aThen, aBlock, argEnv, ev, sput, sputO, binK, binI, unK, builtinK, pickK, Nat.reduceBEq, Nat.reduceAdd, Int.reduceBEq, Int.reduceBNe, Int.reduceLT, aPost, resK, tup, tyf])
  clear hN2
  try clear N2
  refine aws_cut fun N3 hN3 => ?_
  simp (maxSteps := 2000000) only [s119, ↓aw_region, ↓aw_skip, ↓aw_seq, ↓aw_block, ↓aw_exit, ↓aw_ret, ↓sops_nil, ↓sops_go, ↓dops_nil, ↓dopsX_nil, ↓dopsR_nil, ↓vdn, vup, extr_20, extr_21, extr_30, extr_31, extr_32, List.map_cons, List.map_nil, cond_true, cond_false, aop, aThen, aBlock, argEnv, ev, sput, sputO, binK, binI, unK, builtinK, pickK, Nat.reduceBEq, Nat.reduceAdd, Int.reduceBEq, Int.reduceBNe, Int.reduceLT, aPost, resK, tup, tyf, ge_iff_le, n2]
  refine hN3 [(0, vu x), (2, .int .i64 0)] _ _ ?_ (by simp (maxSteps := 2000000) only [↓aw_region, ↓aw_skip, ↓aw_seq, ↓aw_block, ↓aw_exit, ↓aw_ret, ↓sops_nil, ↓sops_go, ↓dops_nil, ↓dopsX_nil, ↓dopsR_nil, ↓vdn, vup, extr_20, extr_21, extr_30, extr_31, extr_32, List.map_cons, List.map_nil, cond_true, cond_false, aop, aThen, aBlock, argEnv, ev, sput, sputO, binK, binI, unK, builtinK, pickK, Nat.reduceBEq, Nat.reduceAdd, Int.reduceBEq, Int.reduceBNe, Int.reduceLT, aPost, resK, tup, tyf])
  clear hN3
  try clear N3
  refine aws_cut fun N4 hN4 => ?_
  simp (maxSteps := 2000000) only [s119, ↓aw_region, ↓aw_skip, ↓aw_seq, ↓aw_block, ↓aw_exit, ↓aw_ret, ↓sops_nil, ↓sops_go, ↓dops_nil, ↓dopsX_nil, ↓dopsR_nil, ↓vdn, vup, extr_20, extr_21, extr_30, extr_31, extr_32, List.map_cons, List.map_nil, cond_true, cond_false, aop, aThen, aBlock, argEnv, ev, sput, sputO, binK, binI, unK, builtinK, pickK, Nat.reduceBEq, Nat.reduceAdd, Int.reduceBEq, Int.reduceBNe, Int.reduceLT, aPost, resK, tup, tyf, ge_iff_le, n3]
  refine hN4 [(0, vu x), (2, .int .i64 0)] _ _ ?_ (by simp (maxSteps := 2000000) only [↓aw_region, ↓aw_skip, ↓aw_seq, ↓aw_block, ↓aw_exit, ↓aw_ret, ↓sops_nil, ↓sops_go, ↓dops_nil, ↓dopsX_nil, ↓dopsR_nil, ↓vdn, vup, extr_20, extr_21, extr_30, extr_31, extr_32, List.map_cons, List.map_nil, cond_true, cond_false, aop, aThen, aBlock, argEnv, ev, sput, sputO, binK, binI, unK, builtinK, pickK, Nat.reduceBEq, Nat.reduceAdd, Int.reduceBEq, Int.reduceBNe, Int.reduceLT, aPost, resK, tup, tyf])
  clear hN4
  try clear N4
  rw [hq]
  refine aw_aws ?_
  simp (maxSteps := 2000000) only [s119, ↓aw_region, ↓aw_skip, ↓aw_seq, ↓aw_block, ↓aw_exit, ↓aw_ret, ↓sops_nil, ↓sops_go, ↓dops_nil, ↓dopsX_nil, ↓dopsR_nil, ↓vdn, vup, extr_20, extr_21, extr_30, extr_31, extr_32, List.map_cons, List.map_nil, cond_true, cond_false, aop, aThen, aBlock, argEnv, ev, sput, sputO, binK, binI, unK, builtinK, pickK, Nat.reduceBEq, Nat.reduceAdd, Int.reduceBEq, Int.reduceBNe, Int.reduceLT, aPost, resK, tup, tyf, convK, und_89, und_5, und_3, wrap8 hx, indexK, und_9, hnn, Int.toNat_natCast, hidx]
  first | exact ⟨⟨_, rfl⟩, rfl⟩ | exact ⟨_, rfl⟩
theorem s101_callW [Tabs Tryd.prog] {args : List Value} {h : Heap} {Q : Value → Heap → Prop} (hsz : args.length ≤ 8) (hk : AWS Tryd.prog 8 s101 (aPost Tryd.prog [.tmp 2] Q) (argEnv 0 args) h) : ACall Tryd.prog 101 args h Q :=
  acall_w Tryd.func101 rfl (enters_of Tryd.func101 (by kernel_rfl) rfl) rfl rfl (by decide) s101_strip s101_ok hsz hk
theorem len_call [Tabs prog] {h : Heap} {x : Nat} (hx : x < 256) : ACall prog 101 [vu x] h fun r h' => (∃ z, r = .int .i64 z) ∧ h' = h := by
  refine s101_callW (by simp) ?_
  simp only [s101]
  refine aws_cut fun N5 hN5 => ?_
  simp (maxSteps := 2000000) only [s101, ↓aw_region, ↓aw_skip, ↓aw_seq, ↓aw_block, ↓aw_exit, ↓aw_ret, ↓sops_nil, ↓sops_go, ↓dops_nil, ↓dopsX_nil, ↓dopsR_nil, ↓vdn, vup, extr_20, extr_21, extr_30, extr_31, extr_32, List.map_cons, List.map_nil, cond_true, cond_false, aop, aThen, aBlock, argEnv, ev, sput, sputO, binK, binI, unK, builtinK, pickK, Nat.reduceBEq, Nat.reduceAdd, Int.reduceBEq, Int.reduceBNe, Int.reduceLT, aPost, resK, tup, tyf]
  refine hN5 [(0, vu x), (2, .int .i64 0)] _ _ ?_ (by simp (maxSteps := 2000000) only [↓aw_region, ↓aw_skip, ↓aw_seq, ↓aw_block, ↓aw_exit, ↓aw_ret, ↓sops_nil, ↓sops_go, ↓dops_nil, ↓dopsX_nil, ↓dopsR_nil, ↓vdn, vup, extr_20, extr_21, extr_30, extr_31, extr_32, List.map_cons, List.map_nil, cond_true, cond_false, aop, aThen, aBlock, argEnv, ev, sput, sputO, binK, binI, unK, builtinK, pickK, Nat.reduceBEq, Nat.reduceAdd, Int.reduceBEq, Int.reduceBNe, Int.reduceLT, aPost, resK, tup, tyf])
  clear hN5
  try clear N5
  refine aws_cutW fun N6 hN6 => ?_
  refine aws_false rfl ?_
  refine aw_aws ?_
  simp (maxSteps := 2000000) only [s101, ↓aw_region, ↓aw_skip, ↓aw_seq, ↓aw_block, ↓aw_exit, ↓aw_ret, ↓sops_nil, ↓sops_go, ↓dops_nil, ↓dopsX_nil, ↓dopsR_nil, ↓vdn, vup, extr_20, extr_21, extr_30, extr_31, extr_32, List.map_cons, List.map_nil, cond_true, cond_false, aop, aThen, aBlock, argEnv, ev, sput, sputO, binK, binI, unK, builtinK, pickK, Nat.reduceBEq, Nat.reduceAdd, Int.reduceBEq, Int.reduceBNe, Int.reduceLT, aPost, resK, tup, tyf]
  refine hN6 [(0, vu x), (2, .int .i64 0)] _ _ ?_ (by simp (maxSteps := 2000000) only [↓aw_region, ↓aw_skip, ↓aw_seq, ↓aw_block, ↓aw_exit, ↓aw_ret, ↓sops_nil, ↓sops_go, ↓dops_nil, ↓dopsX_nil, ↓dopsR_nil, ↓vdn, vup, extr_20, extr_21, extr_30, extr_31, extr_32, List.map_cons, List.map_nil, cond_true, cond_false, aop, aThen, aBlock, argEnv, ev, sput, sputO, binK, binI, unK, builtinK, pickK, Nat.reduceBEq, Nat.reduceAdd, Int.reduceBEq, Int.reduceBNe, Int.reduceLT, aPost, resK, tup, tyf])
  clear hN6
  try clear N6
  refine aw_aws ?_
  simp (maxSteps := 2000000) only [s101, ↓aw_region, ↓aw_skip, ↓aw_seq, ↓aw_block, ↓aw_exit, ↓aw_ret, ↓sops_nil, ↓sops_go, ↓dops_nil, ↓dopsX_nil, ↓dopsR_nil, ↓vdn, vup, extr_20, extr_21, extr_30, extr_31, extr_32, List.map_cons, List.map_nil, cond_true, cond_false, aop, aThen, aBlock, argEnv, ev, sput, sputO, binK, binI, unK, builtinK, pickK, Nat.reduceBEq, Nat.reduceAdd, Int.reduceBEq, Int.reduceBNe, Int.reduceLT, aPost, resK, tup, tyf, callK, List.nil_append, List.append_nil, List.toList_toArray, List.cons_append]
  refine (len64_call hx).mono ?_
  rintro _ h ⟨⟨z, rfl⟩, rfl⟩
  first | exact ⟨⟨z, rfl⟩, rfl⟩ | exact ⟨z, rfl⟩

end Go.Proofs.Tryd.Am

namespace Rb
set_option maxRecDepth 100000

/-- x put behind all that are not greater. -/
def insR (x : Nat) : List Nat → List Nat
  | [] => [x]
  | y :: l => if y ≤ x then y :: insR x l else x :: y :: l
def rising (l : List Nat) : List Nat := l.foldl (fun out x => insR x out) []
end Rb

namespace Go.Proofs.Tryd.Am
open Go.Am Rb
set_option maxRecDepth 100000
set_option maxHeartbeats 1000000

/-- A slice of ints that a run makes, behind what was there. -/
def RSI (h hp : Heap) (ov : Value) (xs : List Int) : Prop := OwnSl 3 hp ov xs ∧ Ext (fun _ => False) h hp ∧ ∀ b, blkOf ov = some b → h.length ≤ b
theorem RSI.nil (h : Heap) : RSI h h (.slice none 0 0) [] := ⟨.inl ⟨rfl, rfl⟩, Ext.refl _ _, fun b hb => by cases hb⟩
theorem RSI.push {h hp : Heap} {ov : Value} {xs : List Int} (s : RSI h hp ov xs) {x : Int} (hn : xs.length < 1099511627776) {K : Value → Heap → Prop} (hk : ∀ v' h', RSI h h' v' (xs ++ [x]) → K v' h') :
    appendK prog (hp ++ [.ints [x] 3 false]) 22 22 ov (.slice (some ⟨hp.length, 0, none⟩) 1 1) K := by
  obtain ⟨hown, hE, hblk⟩ := s
  have hx1 : Ext (fun _ => False) hp (hp ++ [.ints [x] 3 false]) := Ext.app _ _ _
  refine (hown.ext hx1 fun _ _ => id).append app_22_22 hn (get_new _ _) fun v' h' ho hE' hb => hk v' h' ⟨ho, ?_, fun b hbb => ?_⟩
  · have h1 := hE.1
    have h2 := hx1.1
    have h3 := hE'.1
    refine ⟨by omega, fun i hi _ => ?_⟩
    rw [hE'.2 i (by omega) fun hbb => by have := hblk i hbb; omega, hx1.2 i (by omega) id]
    exact hE.2 i hi id
  · rcases hb with h1 | ⟨b', h1, h2⟩
    · exact hblk b (h1 ▸ hbb)
    · rw [h1] at hbb; cases hbb; have := hE.1; have := hx1.1; omega

/-- How many a player beats. -/
def scr (x : Int) : Nat := (Am.bits x.toNat).length
theorem scr_le (x : Int) : scr x ≤ 64 := by rw [scr, Am.bits]; exact Nat.le_trans (List.length_filter_le _ _) (by simp)
end Go.Proofs.Tryd.Am

namespace Go.Proofs.Tryd.Am
open Go.Am Rb Rch
set_option maxRecDepth 100000
set_option maxHeartbeats 1000000

def kS (xs : List Int) (X r m : Nat) : Nat := if X.testBit m = true then r ||| (xs.getD m 0).toNat else r
theorem kS_all {xs : List Int} (ht : trn xs = true) {i : Nat} (hi : i < xs.length) : (List.range xs.length).foldl (kS xs (xs.getD i 0).toNat) ((xs.getD i 0).toNat ||| 2 ^ i) = reachF xs i := by
  have hxl := trn_len ht
  rw [reachF, bits_range (trn_nat ht hi).2 (by omega), List.foldl_filter]
  rfl
theorem kS_lt {xs : List Int} (ht : trn xs = true) {X : Nat} {l : List Nat} (hl : ∀ j ∈ l, j < xs.length) : ∀ {a : Nat}, a < 2 ^ xs.length → l.foldl (kS xs X) a < 2 ^ xs.length := by
  induction l with
  | nil => exact fun h => h
  | cons j l ih =>
    intro a h
    refine ih (fun k hk => hl k (by simp [hk])) ?_
    rw [kS]; split
    · exact Nat.or_lt_two_pow h (trn_nat ht (hl j (by simp))).2
    · exact h
theorem s50_callW [Tabs Tryd.prog] {args : List Value} {h : Heap} {Q : Value → Heap → Prop} (hsz : args.length ≤ 48) (hk : AWS Tryd.prog 48 s50 (aPost Tryd.prog [.tmp 2] Q) (argEnv 0 args) h) : ACall Tryd.prog 50 args h Q :=
  acall_w Tryd.func50 rfl (enters_of Tryd.func50 (by kernel_rfl) rfl) rfl rfl (by decide) s50_strip s50_ok hsz hk
theorem rkings_call [Tabs prog] {h : Heap} {v : Value} {xs : List Int} (hv : IntSl h v xs) (ht : trn xs = true) : APure prog 50 [v] h (vint (kingsTo xs xs.length : Nat)) := by
  have hxl := trn_len ht
  have h256 := pow8N hxl.2
  have hnn : ∀ i : Nat, (0 : Int) ≤ (i : Int) := Int.natCast_nonneg
  have e01 : ((0 : Int) == 1) = false := rfl
  have e11 : ((1 : Int) == 1) = true := rfl
  refine s50_callW (by simp) ?_
  simp only [s50]
  refine aws_cut fun N1 hN1 => ?_
  simp (maxSteps := 2000000) only [s50, ↓aw_region, ↓aw_skip, ↓aw_seq, ↓aw_block, ↓aw_exit, ↓aw_ret, ↓sops_nil, ↓sops_go, ↓dops_nil, ↓dopsX_nil, ↓dopsR_nil, ↓vdn, vup, extr_20, extr_21, extr_30, extr_31, extr_32, List.map_cons, List.map_nil, cond_true, cond_false, aop, aThen, aBlock, argEnv, ev, sput, sputO, binK, binI, unK, builtinK, pickK, Nat.reduceBEq, Nat.reduceAdd, Int.reduceBEq, Int.reduceBNe, Int.reduceLT, aPost, resK, tup, tyf]
  refine hN1 [(0, v), (2, .int .i64 0)] _ _ ?_ (by simp (maxSteps := 2000000) only [↓aw_region, ↓aw_skip, ↓aw_seq, ↓aw_block, ↓aw_exit, ↓aw_ret, ↓sops_nil, ↓sops_go, ↓dops_nil, ↓dopsX_nil, ↓dopsR_nil, ↓vdn, vup, extr_20, extr_21, extr_30, extr_31, extr_32, List.map_cons, List.map_nil, cond_true, cond_false, aop, aThen, aBlock, argEnv, ev, sput, sputO, binK, binI, unK, builtinK, pickK, Nat.reduceBEq, Nat.reduceAdd, Int.reduceBEq, Int.reduceBNe, Int.reduceLT, aPost, resK, tup, tyf])
  clear hN1
  try clear N1
  refine aws_cut fun N2 hN2 => ?_
  simp (maxSteps := 2000000) only [s50, ↓aw_region, ↓aw_skip, ↓aw_seq, ↓aw_block, ↓aw_exit, ↓aw_ret, ↓sops_nil, ↓sops_go, ↓dops_nil, ↓dopsX_nil, ↓dopsR_nil, ↓vdn, vup, extr_20, extr_21, extr_30, extr_31, extr_32, List.map_cons, List.map_nil, cond_true, cond_false, aop, aThen, aBlock, argEnv, ev, sput, sputO, binK, binI, unK, builtinK, pickK, Nat.reduceBEq, Nat.reduceAdd, Int.reduceBEq, Int.reduceBNe, Int.reduceLT, aPost, resK, tup, tyf]
  refine hN2 [(0, v), (2, .int .i64 0), (3, .int .i64 0)] _ _ ?_ (by simp (maxSteps := 2000000) only [↓aw_region, ↓aw_skip, ↓aw_seq, ↓aw_block, ↓aw_exit, ↓aw_ret, ↓sops_nil, ↓sops_go, ↓dops_nil, ↓dopsX_nil, ↓dopsR_nil, ↓vdn, vup, extr_20, extr_21, extr_30, extr_31, extr_32, List.map_cons, List.map_nil, cond_true, cond_false, aop, aThen, aBlock, argEnv, ev, sput, sputO, binK, binI, unK, builtinK, pickK, Nat.reduceBEq, Nat.reduceAdd, Int.reduceBEq, Int.reduceBNe, Int.reduceLT, aPost, resK, tup, tyf])
  clear hN2
  try clear N2
  refine aws_cut fun Z hZ => ?_
  simp (maxSteps := 2000000) only [s50, ↓aw_region, ↓aw_skip, ↓aw_seq, ↓aw_block, ↓aw_exit, ↓aw_ret, ↓sops_nil, ↓sops_go, ↓dops_nil, ↓dopsX_nil, ↓dopsR_nil, ↓vdn, vup, extr_20, extr_21, extr_30, extr_31, extr_32, List.map_cons, List.map_nil, cond_true, cond_false, aop, aThen, aBlock, argEnv, ev, sput, sputO, binK, binI, unK, builtinK, pickK, Nat.reduceBEq, Nat.reduceAdd, Int.reduceBEq, Int.reduceBNe, Int.reduceLT, aPost, resK, tup, tyf, hv.len, ↓aw_loop_eq]
  refine aws_hide fun Q hQ => ?_
  refine aw_loopW (γ := Nat) (fun i => i ≤ xs.length)
    (fun i => ([(0, v), (2, .int .i64 0), (3, vint (kingsTo xs i : Nat)), (8, v), (9, vint xs.length), (10, vint i)], h)) (fun i => xs.length - i) 0 (Nat.zero_le _) (by simp (maxSteps := 2000000) only [↓aw_region, ↓aw_skip, ↓aw_seq, ↓aw_block, ↓aw_exit, ↓aw_ret, ↓sops_nil, ↓sops_go, ↓dops_nil, ↓dopsX_nil, ↓dopsR_nil, ↓vdn, vup, extr_20, extr_21, extr_30, extr_31, extr_32, List.map_cons, List.map_nil, cond_true, cond_false, aop, aThen, aBlock, argEnv, ev, sput, sputO, binK, binI, unK, builtinK, pickK, Nat.reduceBEq, Nat.reduceAdd, Int.reduceBEq, Int.reduceBNe, Int.reduceLT, aPost, resK, tup, tyf, Int.natCast_zero, kingsTo]) rfl ?_
  intro i hi
  refine aws_hide fun Q2 hQ2 => ?_
  simp only [l50_1]
  by_cases hin : (i : Int) < xs.length
  · have hi' : i < xs.length := by omega
    obtain ⟨hX, hXl⟩ := trn_nat ht hi'
    have h2i : 2 ^ i < 2 ^ xs.length := Nat.pow_lt_pow_right (by decide) hi'
    obtain ⟨X, hXe⟩ : ∃ X, X = (xs.getD i 0).toNat := ⟨_, rfl⟩
    have hall := kS_all ht hi'
    rw [← hXe] at hX hXl hall
    have hor : bitsV .or .i64 (X : Int) ((2 ^ i : Nat) : Int) = ((X ||| 2 ^ i : Nat) : Int) := bitsV_or (by omega) (by omega)
    refine aws_cut fun N3 hN3 => ?_
    simp (maxSteps := 2000000) only [s50, ↓aw_region, ↓aw_skip, ↓aw_seq, ↓aw_block, ↓aw_exit, ↓aw_ret, ↓sops_nil, ↓sops_go, ↓dops_nil, ↓dopsX_nil, ↓dopsR_nil, ↓vdn, vup, extr_20, extr_21, extr_30, extr_31, extr_32, List.map_cons, List.map_nil, cond_true, cond_false, aop, aThen, aBlock, argEnv, ev, sput, sputO, binK, binI, unK, builtinK, pickK, Nat.reduceBEq, Nat.reduceAdd, Int.reduceBEq, Int.reduceBNe, Int.reduceLT, aPost, resK, tup, tyf, hin]
    refine hN3 [(0, v), (2, .int .i64 0), (3, vint (kingsTo xs i : Nat)), (8, v), (9, vint xs.length), (10, vint i), (11, .bool true)] _ _ ?_ (by simp (maxSteps := 2000000) only [↓aw_region, ↓aw_skip, ↓aw_seq, ↓aw_block, ↓aw_exit, ↓aw_ret, ↓sops_nil, ↓sops_go, ↓dops_nil, ↓dopsX_nil, ↓dopsR_nil, ↓vdn, vup, extr_20, extr_21, extr_30, extr_31, extr_32, List.map_cons, List.map_nil, cond_true, cond_false, aop, aThen, aBlock, argEnv, ev, sput, sputO, binK, binI, unK, builtinK, pickK, Nat.reduceBEq, Nat.reduceAdd, Int.reduceBEq, Int.reduceBNe, Int.reduceLT, aPost, resK, tup, tyf])
    clear hN3
    try clear N3
    refine aws_cut fun N4 hN4 => ?_
    simp (maxSteps := 2000000) only [s50, ↓aw_region, ↓aw_skip, ↓aw_seq, ↓aw_block, ↓aw_exit, ↓aw_ret, ↓sops_nil, ↓sops_go, ↓dops_nil, ↓dopsX_nil, ↓dopsR_nil, ↓vdn, vup, extr_20, extr_21, extr_30, extr_31, extr_32, List.map_cons, List.map_nil, cond_true, cond_false, aop, aThen, aBlock, argEnv, ev, sput, sputO, binK, binI, unK, builtinK, pickK, Nat.reduceBEq, Nat.reduceAdd, Int.reduceBEq, Int.reduceBNe, Int.reduceLT, aPost, resK, tup, tyf]
    refine hN4 [(0, v), (2, .int .i64 0), (3, vint (kingsTo xs i : Nat)), (8, v), (9, vint xs.length), (10, vint i)] _ _ ?_ (by simp (maxSteps := 2000000) only [↓aw_region, ↓aw_skip, ↓aw_seq, ↓aw_block, ↓aw_exit, ↓aw_ret, ↓sops_nil, ↓sops_go, ↓dops_nil, ↓dopsX_nil, ↓dopsR_nil, ↓vdn, vup, extr_20, extr_21, extr_30, extr_31, extr_32, List.map_cons, List.map_nil, cond_true, cond_false, aop, aThen, aBlock, argEnv, ev, sput, sputO, binK, binI, unK, builtinK, pickK, Nat.reduceBEq, Nat.reduceAdd, Int.reduceBEq, Int.reduceBNe, Int.reduceLT, aPost, resK, tup, tyf])
    clear hN4
    try clear N4
    refine aws_cutW fun M hM => ?_
    refine aws_block ?_
    refine aws_cut fun N5 hN5 => ?_
    simp (maxSteps := 2000000) only [s50, ↓aw_region, ↓aw_skip, ↓aw_seq, ↓aw_block, ↓aw_exit, ↓aw_ret, ↓sops_nil, ↓sops_go, ↓dops_nil, ↓dopsX_nil, ↓dopsR_nil, ↓vdn, vup, extr_20, extr_21, extr_30, extr_31, extr_32, List.map_cons, List.map_nil, cond_true, cond_false, aop, aThen, aBlock, argEnv, ev, sput, sputO, binK, binI, unK, builtinK, pickK, Nat.reduceBEq, Nat.reduceAdd, Int.reduceBEq, Int.reduceBNe, Int.reduceLT, aPost, resK, tup, tyf, hv.idx el_22 esz_3 hi', hv.load shp_3 hi', hX]
    refine hN5 [(0, v), (2, .int .i64 0), (3, vint (kingsTo xs i : Nat)), (4, vint i), (5, vint X), (8, v), (9, vint xs.length), (10, vint i)] _ _ ?_ (by simp (maxSteps := 2000000) only [↓aw_region, ↓aw_skip, ↓aw_seq, ↓aw_block, ↓aw_exit, ↓aw_ret, ↓sops_nil, ↓sops_go, ↓dops_nil, ↓dopsX_nil, ↓dopsR_nil, ↓vdn, vup, extr_20, extr_21, extr_30, extr_31, extr_32, List.map_cons, List.map_nil, cond_true, cond_false, aop, aThen, aBlock, argEnv, ev, sput, sputO, binK, binI, unK, builtinK, pickK, Nat.reduceBEq, Nat.reduceAdd, Int.reduceBEq, Int.reduceBNe, Int.reduceLT, aPost, resK, tup, tyf])
    clear hN5
    try clear N5
    refine aws_cut fun N6 hN6 => ?_
    simp (maxSteps := 2000000) only [s50, ↓aw_region, ↓aw_skip, ↓aw_seq, ↓aw_block, ↓aw_exit, ↓aw_ret, ↓sops_nil, ↓sops_go, ↓dops_nil, ↓dopsX_nil, ↓dopsR_nil, ↓vdn, vup, extr_20, extr_21, extr_30, extr_31, extr_32, List.map_cons, List.map_nil, cond_true, cond_false, aop, aThen, aBlock, argEnv, ev, sput, sputO, binK, binI, unK, builtinK, pickK, Nat.reduceBEq, Nat.reduceAdd, Int.reduceBEq, Int.reduceBNe, Int.reduceLT, aPost, resK, tup, tyf, hnn, shlI1 (show i ≤ 62 by omega), hor]
    refine hN6 [(0, v), (2, .int .i64 0), (3, vint (kingsTo xs i : Nat)), (4, vint i), (5, vint X), (6, vint ((X ||| 2 ^ i : Nat) : Int)), (8, v), (9, vint xs.length), (10, vint i)] _ _ ?_ (by simp (maxSteps := 2000000) only [↓aw_region, ↓aw_skip, ↓aw_seq, ↓aw_block, ↓aw_exit, ↓aw_ret, ↓sops_nil, ↓sops_go, ↓dops_nil, ↓dopsX_nil, ↓dopsR_nil, ↓vdn, vup, extr_20, extr_21, extr_30, extr_31, extr_32, List.map_cons, List.map_nil, cond_true, cond_false, aop, aThen, aBlock, argEnv, ev, sput, sputO, binK, binI, unK, builtinK, pickK, Nat.reduceBEq, Nat.reduceAdd, Int.reduceBEq, Int.reduceBNe, Int.reduceLT, aPost, resK, tup, tyf])
    clear hN6
    try clear N6
    refine aws_cut fun Y hY => ?_
    simp (maxSteps := 2000000) only [s50, ↓aw_region, ↓aw_skip, ↓aw_seq, ↓aw_block, ↓aw_exit, ↓aw_ret, ↓sops_nil, ↓sops_go, ↓dops_nil, ↓dopsX_nil, ↓dopsR_nil, ↓vdn, vup, extr_20, extr_21, extr_30, extr_31, extr_32, List.map_cons, List.map_nil, cond_true, cond_false, aop, aThen, aBlock, argEnv, ev, sput, sputO, binK, binI, unK, builtinK, pickK, Nat.reduceBEq, Nat.reduceAdd, Int.reduceBEq, Int.reduceBNe, Int.reduceLT, aPost, resK, tup, tyf, hv.len, ↓aw_loop_eq]
    refine aws_hide fun Q3 hQ3 => ?_
    refine aw_loop (γ := Nat) (fun j => j ≤ xs.length)
      (fun j => ([(0, v), (2, .int .i64 0), (3, vint (kingsTo xs i : Nat)), (4, vint i), (5, vint X), (6, vint ((List.range j).foldl (kS xs X) (X ||| 2 ^ i) : Nat)), (8, v), (9, vint xs.length), (10, vint i), (19, v), (20, vint xs.length), (21, vint j)], h)) (fun j => xs.length - j) 0 (Nat.zero_le _) (by simp (maxSteps := 2000000) only [↓aw_region, ↓aw_skip, ↓aw_seq, ↓aw_block, ↓aw_exit, ↓aw_ret, ↓sops_nil, ↓sops_go, ↓dops_nil, ↓dopsX_nil, ↓dopsR_nil, ↓vdn, vup, extr_20, extr_21, extr_30, extr_31, extr_32, List.map_cons, List.map_nil, cond_true, cond_false, aop, aThen, aBlock, argEnv, ev, sput, sputO, binK, binI, unK, builtinK, pickK, Nat.reduceBEq, Nat.reduceAdd, Int.reduceBEq, Int.reduceBNe, Int.reduceLT, aPost, resK, tup, tyf, Int.natCast_zero, List.range_zero, List.foldl_nil]) rfl ?_
    intro j hj
    refine aw_hide fun Q4 hQ4 => ?_
    have hlt : (List.range j).foldl (kS xs X) (X ||| 2 ^ i) < 2 ^ xs.length := kS_lt ht (fun m hm => by have := List.mem_range.1 hm; omega) (Nat.or_lt_two_pow hXl h2i)
    by_cases hjn : (j : Int) < xs.length
    · have hj' : j < xs.length := by omega
      obtain ⟨hY, hYl⟩ := trn_nat ht hj'
      have hs : (List.range (j + 1)).foldl (kS xs X) (X ||| 2 ^ i) = kS xs X ((List.range j).foldl (kS xs X) (X ||| 2 ^ i)) j := by rw [List.range_succ, List.foldl_append]; rfl
      generalize (List.range j).foldl (kS xs X) (X ||| 2 ^ i) = a at hlt hs ⊢
      have htest := testV (a := X) (y := j) (by omega)
      have hor2 : bitsV .or .i64 (a : Int) (xs.getD j 0) = ((a ||| (xs.getD j 0).toNat : Nat) : Int) := by
        have := bitsV_or (a := a) (b := (xs.getD j 0).toNat) (by omega) (by omega)
        rw [← hY] at this; exact this
      cases hb : X.testBit j with
      | true =>
        rw [kS, if_pos hb] at hs
        rw [hb, if_pos rfl] at htest
        simp (maxSteps := 2000000) only [s50, ↓aw_region, ↓aw_skip, ↓aw_seq, ↓aw_block, ↓aw_exit, ↓aw_ret, ↓sops_nil, ↓sops_go, ↓dops_nil, ↓dopsX_nil, ↓dopsR_nil, ↓vdn, vup, extr_20, extr_21, extr_30, extr_31, extr_32, List.map_cons, List.map_nil, cond_true, cond_false, aop, aThen, aBlock, argEnv, ev, sput, sputO, binK, binI, unK, builtinK, pickK, Nat.reduceBEq, Nat.reduceAdd, Int.reduceBEq, Int.reduceBNe, Int.reduceLT, aPost, resK, tup, tyf, l50_0, hjn, hnn, htest, e11, hv.idx el_22 esz_3 hj', hv.load shp_3 hj', hor2, add1 (show j < 9223372036854775807 by omega)]
        exact hQ4 _ _ _ ⟨j + 1, hj', by omega, by simp (maxSteps := 2000000) only [↓aw_region, ↓aw_skip, ↓aw_seq, ↓aw_block, ↓aw_exit, ↓aw_ret, ↓sops_nil, ↓sops_go, ↓dops_nil, ↓dopsX_nil, ↓dopsR_nil, ↓vdn, vup, extr_20, extr_21, extr_30, extr_31, extr_32, List.map_cons, List.map_nil, cond_true, cond_false, aop, aThen, aBlock, argEnv, ev, sput, sputO, binK, binI, unK, builtinK, pickK, Nat.reduceBEq, Nat.reduceAdd, Int.reduceBEq, Int.reduceBNe, Int.reduceLT, aPost, resK, tup, tyf, hs], rfl⟩
      | false =>
        rw [kS, if_neg (by rw [hb]; decide)] at hs
        rw [hb, if_neg (by decide)] at htest
        simp (maxSteps := 2000000) only [s50, ↓aw_region, ↓aw_skip, ↓aw_seq, ↓aw_block, ↓aw_exit, ↓aw_ret, ↓sops_nil, ↓sops_go, ↓dops_nil, ↓dopsX_nil, ↓dopsR_nil, ↓vdn, vup, extr_20, extr_21, extr_30, extr_31, extr_32, List.map_cons, List.map_nil, cond_true, cond_false, aop, aThen, aBlock, argEnv, ev, sput, sputO, binK, binI, unK, builtinK, pickK, Nat.reduceBEq, Nat.reduceAdd, Int.reduceBEq, Int.reduceBNe, Int.reduceLT, aPost, resK, tup, tyf, l50_0, hjn, hnn, htest, e01, add1 (show j < 9223372036854775807 by omega)]
        exact hQ4 _ _ _ ⟨j + 1, hj', by omega, by simp (maxSteps := 2000000) only [↓aw_region, ↓aw_skip, ↓aw_seq, ↓aw_block, ↓aw_exit, ↓aw_ret, ↓sops_nil, ↓sops_go, ↓dops_nil, ↓dopsX_nil, ↓dopsR_nil, ↓vdn, vup, extr_20, extr_21, extr_30, extr_31, extr_32, List.map_cons, List.map_nil, cond_true, cond_false, aop, aThen, aBlock, argEnv, ev, sput, sputO, binK, binI, unK, builtinK, pickK, Nat.reduceBEq, Nat.reduceAdd, Int.reduceBEq, Int.reduceBNe, Int.reduceLT, aPost, resK, tup, tyf, hs], rfl⟩
    · obtain rfl : j = xs.length := by omega
      simp (maxSteps := 2000000) only [s50, ↓aw_region, ↓aw_skip, ↓aw_seq, ↓aw_block, ↓aw_exit, ↓aw_ret, ↓sops_nil, ↓sops_go, ↓dops_nil, ↓dopsX_nil, ↓dopsR_nil, ↓vdn, vup, extr_20, extr_21, extr_30, extr_31, extr_32, List.map_cons, List.map_nil, cond_true, cond_false, aop, aThen, aBlock, argEnv, ev, sput, sputO, binK, binI, unK, builtinK, pickK, Nat.reduceBEq, Nat.reduceAdd, Int.reduceBEq, Int.reduceBNe, Int.reduceLT, aPost, resK, tup, tyf, l50_0, Int.lt_irrefl]
      refine hQ4 _ _ _ (hQ3 _ _ _ ?_)
      simp (maxSteps := 2000000) only [s50, ↓aw_region, ↓aw_skip, ↓aw_seq, ↓aw_block, ↓aw_exit, ↓aw_ret, ↓sops_nil, ↓sops_go, ↓dops_nil, ↓dopsX_nil, ↓dopsR_nil, ↓vdn, vup, extr_20, extr_21, extr_30, extr_31, extr_32, List.map_cons, List.map_nil, cond_true, cond_false, aop, aThen, aBlock, argEnv, ev, sput, sputO, binK, binI, unK, builtinK, pickK, Nat.reduceBEq, Nat.reduceAdd, Int.reduceBEq, Int.reduceBNe, Int.reduceLT, aPost, resK, tup, tyf, if_true, hall]
      refine hY [(0, v), (2, .int .i64 0), (3, vint (kingsTo xs i : Nat)), (4, vint i), (5, vint X), (6, vint (reachF xs i : Nat)), (8, v), (9, vint xs.length), (10, vint i)] _ _ ?_ (by simp (maxSteps := 2000000) only [↓aw_region, ↓aw_skip, ↓aw_seq, ↓aw_block, ↓aw_exit, ↓aw_ret, ↓sops_nil, ↓sops_go, ↓dops_nil, ↓dopsX_nil, ↓dopsR_nil, ↓vdn, vup, extr_20, extr_21, extr_30, extr_31, extr_32, List.map_cons, List.map_nil, cond_true, cond_false, aop, aThen, aBlock, argEnv, ev, sput, sputO, binK, binI, unK, builtinK, pickK, Nat.reduceBEq, Nat.reduceAdd, Int.reduceBEq, Int.reduceBNe, Int.reduceLT, aPost, resK, tup, tyf])
      clear hY
      try clear Y
      have hsh : shlV .i64 1 (xs.length : Int) = ((2 ^ xs.length : Nat) : Int) := shlI1 (by omega)
      have h1 := Nat.two_pow_pos xs.length
      have hsub : subV .i64 ((2 ^ xs.length : Nat) : Int) 1 = ((2 ^ xs.length - 1 : Nat) : Int) := by rw [subV_id (by omega) (by omega)]; omega
      have hkl := kingsTo_lt (xs := xs) i (by omega)
      have hor3 : bitsV .or .i64 ((kingsTo xs i : Nat) : Int) ((2 ^ i : Nat) : Int) = ((kingsTo xs i ||| 2 ^ i : Nat) : Int) := bitsV_or (by omega) (by omega)
      have hnx : ∀ e, ELe e [(0, v), (2, .int .i64 0), (3, vint (kingsTo xs (i + 1) : Nat)), (4, vint i), (5, vint X), (6, vint (reachF xs i : Nat)), (8, v), (9, vint xs.length), (10, vint i)] → M e h := fun e he => by
        refine hM [(0, v), (2, .int .i64 0), (3, vint (kingsTo xs (i + 1) : Nat)), (4, vint i), (5, vint X), (6, vint (reachF xs i : Nat)), (8, v), (9, vint xs.length), (10, vint i)] _ _ ?_ he
        refine aw_aws ?_
        simp (maxSteps := 2000000) only [s50, ↓aw_region, ↓aw_skip, ↓aw_seq, ↓aw_block, ↓aw_exit, ↓aw_ret, ↓sops_nil, ↓sops_go, ↓dops_nil, ↓dopsX_nil, ↓dopsR_nil, ↓vdn, vup, extr_20, extr_21, extr_30, extr_31, extr_32, List.map_cons, List.map_nil, cond_true, cond_false, aop, aThen, aBlock, argEnv, ev, sput, sputO, binK, binI, unK, builtinK, pickK, Nat.reduceBEq, Nat.reduceAdd, Int.reduceBEq, Int.reduceBNe, Int.reduceLT, aPost, resK, tup, tyf, add1 (show i < 9223372036854775807 by omega)]
        exact hQ2 _ _ _ ⟨i + 1, by omega, by omega, by simp (maxSteps := 2000000) only [↓aw_region, ↓aw_skip, ↓aw_seq, ↓aw_block, ↓aw_exit, ↓aw_ret, ↓sops_nil, ↓sops_go, ↓dops_nil, ↓dopsX_nil, ↓dopsR_nil, ↓vdn, vup, extr_20, extr_21, extr_30, extr_31, extr_32, List.map_cons, List.map_nil, cond_true, cond_false, aop, aThen, aBlock, argEnv, ev, sput, sputO, binK, binI, unK, builtinK, pickK, Nat.reduceBEq, Nat.reduceAdd, Int.reduceBEq, Int.reduceBNe, Int.reduceLT, aPost, resK, tup, tyf], rfl⟩
      refine aw_aws ?_
      by_cases hK : reachF xs i = 2 ^ xs.length - 1
      · have he : (((reachF xs i : Nat) : Int) == ((2 ^ xs.length - 1 : Nat) : Int)) = true := by rw [hK]; exact beq_self_eq_true _
        have hkn : kingsTo xs (i + 1) = kingsTo xs i ||| 2 ^ i := by rw [kingsTo, if_pos hK]
        simp (maxSteps := 2000000) only [s50, ↓aw_region, ↓aw_skip, ↓aw_seq, ↓aw_block, ↓aw_exit, ↓aw_ret, ↓sops_nil, ↓sops_go, ↓dops_nil, ↓dopsX_nil, ↓dopsR_nil, ↓vdn, vup, extr_20, extr_21, extr_30, extr_31, extr_32, List.map_cons, List.map_nil, cond_true, cond_false, aop, aThen, aBlock, argEnv, ev, sput, sputO, binK, binI, unK, builtinK, pickK, Nat.reduceBEq, Nat.reduceAdd, Int.reduceBEq, Int.reduceBNe, Int.reduceLT, aPost, resK, tup, tyf, hv.len, hnn, hsh, hsub, he, shlI1 (show i ≤ 62 by omega), hor3]
        exact hnx _ (by simp (maxSteps := 2000000) only [↓aw_region, ↓aw_skip, ↓aw_seq, ↓aw_block, ↓aw_exit, ↓aw_ret, ↓sops_nil, ↓sops_go, ↓dops_nil, ↓dopsX_nil, ↓dopsR_nil, ↓vdn, vup, extr_20, extr_21, extr_30, extr_31, extr_32, List.map_cons, List.map_nil, cond_true, cond_false, aop, aThen, aBlock, argEnv, ev, sput, sputO, binK, binI, unK, builtinK, pickK, Nat.reduceBEq, Nat.reduceAdd, Int.reduceBEq, Int.reduceBNe, Int.reduceLT, aPost, resK, tup, tyf, hkn])
      · have he : (((reachF xs i : Nat) : Int) == ((2 ^ xs.length - 1 : Nat) : Int)) = false := by
          have : ((reachF xs i : Nat) : Int) ≠ ((2 ^ xs.length - 1 : Nat) : Int) := fun h => hK (Int.ofNat_inj.1 h)
          simpa using this
        have hkn : kingsTo xs (i + 1) = kingsTo xs i := by rw [kingsTo, if_neg hK]
        simp (maxSteps := 2000000) only [s50, ↓aw_region, ↓aw_skip, ↓aw_seq, ↓aw_block, ↓aw_exit, ↓aw_ret, ↓sops_nil, ↓sops_go, ↓dops_nil, ↓dopsX_nil, ↓dopsR_nil, ↓vdn, vup, extr_20, extr_21, extr_30, extr_31, extr_32, List.map_cons, List.map_nil, cond_true, cond_false, aop, aThen, aBlock, argEnv, ev, sput, sputO, binK, binI, unK, builtinK, pickK, Nat.reduceBEq, Nat.reduceAdd, Int.reduceBEq, Int.reduceBNe, Int.reduceLT, aPost, resK, tup, tyf, hv.len, hnn, hsh, hsub, he]
        exact hnx _ (by simp (maxSteps := 2000000) only [↓aw_region, ↓aw_skip, ↓aw_seq, ↓aw_block, ↓aw_exit, ↓aw_ret, ↓sops_nil, ↓sops_go, ↓dops_nil, ↓dopsX_nil, ↓dopsR_nil, ↓vdn, vup, extr_20, extr_21, extr_30, extr_31, extr_32, List.map_cons, List.map_nil, cond_true, cond_false, aop, aThen, aBlock, argEnv, ev, sput, sputO, binK, binI, unK, builtinK, pickK, Nat.reduceBEq, Nat.reduceAdd, Int.reduceBEq, Int.reduceBNe, Int.reduceLT, aPost, resK, tup, tyf, hkn])
  · obtain rfl : i = xs.length := by omega
    refine aws_cut fun Y hY => ?_
    simp (maxSteps := 2000000) only [s50, ↓aw_region, ↓aw_skip, ↓aw_seq, ↓aw_block, ↓aw_exit, ↓aw_ret, ↓sops_nil, ↓sops_go, ↓dops_nil, ↓dopsX_nil, ↓dopsR_nil, ↓vdn, vup, extr_20, extr_21, extr_30, extr_31, extr_32, List.map_cons, List.map_nil, cond_true, cond_false, aop, aThen, aBlock, argEnv, ev, sput, sputO, binK, binI, unK, builtinK, pickK, Nat.reduceBEq, Nat.reduceAdd, Int.reduceBEq, Int.reduceBNe, Int.reduceLT, aPost, resK, tup, tyf, Int.lt_irrefl]
    refine hY [(0, v), (2, .int .i64 0), (3, vint (kingsTo xs xs.length : Nat)), (8, v), (9, vint xs.length), (10, vint xs.length), (11, .bool false)] _ _ ?_ (by simp (maxSteps := 2000000) only [↓aw_region, ↓aw_skip, ↓aw_seq, ↓aw_block, ↓aw_exit, ↓aw_ret, ↓sops_nil, ↓sops_go, ↓dops_nil, ↓dopsX_nil, ↓dopsR_nil, ↓vdn, vup, extr_20, extr_21, extr_30, extr_31, extr_32, List.map_cons, List.map_nil, cond_true, cond_false, aop, aThen, aBlock, argEnv, ev, sput, sputO, binK, binI, unK, builtinK, pickK, Nat.reduceBEq, Nat.reduceAdd, Int.reduceBEq, Int.reduceBNe, Int.reduceLT, aPost, resK, tup, tyf])
    clear hY
    try clear Y
    refine aw_aws ?_
    simp (maxSteps := 2000000) only [s50, ↓aw_region, ↓aw_skip, ↓aw_seq, ↓aw_block, ↓aw_exit, ↓aw_ret, ↓sops_nil, ↓sops_go, ↓dops_nil, ↓dopsX_nil, ↓dopsR_nil, ↓vdn, vup, extr_20, extr_21, extr_30, extr_31, extr_32, List.map_cons, List.map_nil, cond_true, cond_false, aop, aThen, aBlock, argEnv, ev, sput, sputO, binK, binI, unK, builtinK, pickK, Nat.reduceBEq, Nat.reduceAdd, Int.reduceBEq, Int.reduceBNe, Int.reduceLT, aPost, resK, tup, tyf]
    refine hQ2 _ _ _ (hQ _ _ _ ?_)
    simp (maxSteps := 2000000) only [s50, ↓aw_region, ↓aw_skip, ↓aw_seq, ↓aw_block, ↓aw_exit, ↓aw_ret, ↓sops_nil, ↓sops_go, ↓dops_nil, ↓dopsX_nil, ↓dopsR_nil, ↓vdn, vup, extr_20, extr_21, extr_30, extr_31, extr_32, List.map_cons, List.map_nil, cond_true, cond_false, aop, aThen, aBlock, argEnv, ev, sput, sputO, binK, binI, unK, builtinK, pickK, Nat.reduceBEq, Nat.reduceAdd, Int.reduceBEq, Int.reduceBNe, Int.reduceLT, aPost, resK, tup, tyf, if_true]
    refine hZ [(0, v), (2, .int .i64 0), (3, vint (kingsTo xs xs.length : Nat))] _ _ ?_ (by simp (maxSteps := 2000000) only [↓aw_region, ↓aw_skip, ↓aw_seq, ↓aw_block, ↓aw_exit, ↓aw_ret, ↓sops_nil, ↓sops_go, ↓dops_nil, ↓dopsX_nil, ↓dopsR_nil, ↓vdn, vup, extr_20, extr_21, extr_30, extr_31, extr_32, List.map_cons, List.map_nil, cond_true, cond_false, aop, aThen, aBlock, argEnv, ev, sput, sputO, binK, binI, unK, builtinK, pickK, Nat.reduceBEq, Nat.reduceAdd, Int.reduceBEq, Int.reduceBNe, Int.reduceLT, aPost, resK, tup, tyf])
    clear hZ
    try clear Z
    refine aw_aws ?_
    simp (maxSteps := 2000000) only [s50, ↓aw_region, ↓aw_skip, ↓aw_seq, ↓aw_block, ↓aw_exit, ↓aw_ret, ↓sops_nil, ↓sops_go, ↓dops_nil, ↓dopsX_nil, ↓dopsR_nil, ↓vdn, vup, extr_20, extr_21, extr_30, extr_31, extr_32, List.map_cons, List.map_nil, cond_true, cond_false, aop, aThen, aBlock, argEnv, ev, sput, sputO, binK, binI, unK, builtinK, pickK, Nat.reduceBEq, Nat.reduceAdd, Int.reduceBEq, Int.reduceBNe, Int.reduceLT, aPost, resK, tup, tyf]
end Go.Proofs.Tryd.Am

namespace Go.Proofs.Tryd.Am
open Go.Am Rb Rch
set_option maxRecDepth 100000
set_option maxHeartbeats 1000000

/-- Who reaches all that is left. -/
def tp (R : Nat → Nat) (left j : Nat) : Bool := left.testBit j && (R j &&& left == left)
theorem nest_top {n : Nat} {R : Nat → Nat} (h : Nest n R) : ∀ l : List Nat, l ≠ [] → (∀ j ∈ l, j < n) → ∃ i ∈ l, ∀ j ∈ l, (R i).testBit j = true
  | [a], _, hl => ⟨a, by simp, fun j hj => by rw [List.mem_singleton.1 hj]; exact h.self a (hl a (by simp))⟩
  | a :: b :: l, _, hl => by
    obtain ⟨i, hi, hr⟩ := nest_top h (b :: l) (by simp) (fun j hj => hl j (by simp at hj ⊢; exact .inr hj))
    have ha := hl a (by simp)
    have hi' := hl i (by simp at hi ⊢; exact .inr hi)
    rcases h.lin i a hi' ha with g | g
    · refine ⟨i, by simp at hi ⊢; exact .inr hi, fun j hj => ?_⟩
      rcases List.mem_cons.1 hj with rfl | hj
      · exact g
      · exact hr j hj
    · refine ⟨a, by simp, fun j hj => ?_⟩
      rcases List.mem_cons.1 hj with rfl | hj
      · exact h.self j ha
      · exact h.sub a i j ha g (hr j hj)
section
variable {n : Nat} {R : Nat → Nat} {left : Nat}
theorem left_bit (hlt : left < 2 ^ n) {x : Nat} (hx : left.testBit x = true) : x < n := by
  apply Classical.byContradiction
  intro hn
  rw [Nat.testBit_lt_two_pow (Nat.lt_of_lt_of_le hlt (Nat.pow_le_pow_right (by decide) (Nat.le_of_not_lt hn)))] at hx
  cases hx
theorem tp_some (h : Nest n R) (hlt : left < 2 ^ n) (h0 : left ≠ 0) : ∃ i, i < n ∧ tp R left i = true := by
  have hne : ((List.range n).filter left.testBit) ≠ [] := fun e => h0 (Nat.eq_of_testBit_eq fun x => by
    rw [Nat.zero_testBit]
    cases hx : left.testBit x with
    | false => rfl
    | true =>
      have : x ∈ (List.range n).filter left.testBit := List.mem_filter.2 ⟨List.mem_range.2 (left_bit hlt hx), hx⟩
      rw [e] at this; cases this)
  obtain ⟨i, hi, hr⟩ := nest_top h _ hne (fun j hj => List.mem_range.1 (List.mem_filter.1 hj).1)
  obtain ⟨hin, hil⟩ := List.mem_filter.1 hi
  refine ⟨i, List.mem_range.1 hin, ?_⟩
  rw [tp, hil, Bool.true_and, beq_iff_eq]
  refine Nat.eq_of_testBit_eq fun x => ?_
  rw [Nat.testBit_and]
  cases hx : left.testBit x with
  | false => simp
  | true => rw [hr x (List.mem_filter.2 ⟨List.mem_range.2 (left_bit hlt hx), hx⟩)]; rfl
theorem top_bit (x : Nat) : (Clr.setL (topL n R left)).testBit x = true ↔ x < n ∧ tp R left x = true := by
  rw [Clr.setL_bit, topL, List.mem_filter, List.mem_range]; rfl
theorem less_top : Am.less left (Clr.setL (topL n R left)) = left ^^^ Clr.setL (topL n R left) := by
  rw [Am.less]
  congr 1
  refine Nat.eq_of_testBit_eq fun x => ?_
  rw [Nat.testBit_and, Bool.eq_iff_iff, Bool.and_eq_true]
  refine ⟨fun h => h.2, fun h => ⟨?_, h⟩⟩
  have := ((top_bit x).1 h).2
  rw [tp, Bool.and_eq_true] at this; exact this.1
theorem cps_go {i k : Nat} (hlt : left < 2 ^ n) (hi : i < n) (ht : tp R left i = true) (hk : cnt n left ≤ k) :
    ∃ k', k = k' + 1 ∧ cps n R k left = Clr.setL (topL n R left) :: cps n R k' (Am.less left (Clr.setL (topL n R left))) ∧ cnt n (Am.less left (Clr.setL (topL n R left))) ≤ k' ∧ Am.less left (Clr.setL (topL n R left)) < left ∧ Am.less left (Clr.setL (topL n R left)) < 2 ^ n := by
  have hil : left.testBit i = true := by rw [tp, Bool.and_eq_true] at ht; exact ht.1
  have h0 : left ≠ 0 := fun e => by rw [e, Nat.zero_testBit] at hil; cases hil
  have hbit : ∀ x, (Am.less left (Clr.setL (topL n R left))).testBit x = (left.testBit x && !(Clr.setL (topL n R left)).testBit x) := fun x => less_testBit _ _ _
  have hti : (Clr.setL (topL n R left)).testBit i = true := (top_bit i).2 ⟨hi, ht⟩
  have hc : cnt n (Am.less left (Clr.setL (topL n R left))) < cnt n left := countP_lt (x := i) (fun y _ hy => by rw [hbit, Bool.and_eq_true] at hy; exact hy.1) (List.mem_range.2 hi) (by rw [hbit, hti]; simp) hil
  cases k with
  | zero => omega
  | succ k =>
    refine ⟨k, rfl, ?_, by omega, ?_, less_lt hlt⟩
    · rw [cps, if_neg h0, less_top]
    · have hand : Am.less left (Clr.setL (topL n R left)) = left &&& Am.less left (Clr.setL (topL n R left)) := Nat.eq_of_testBit_eq fun x => by
        rw [Nat.testBit_and, hbit]; cases left.testBit x <;> rfl
      have hle : Am.less left (Clr.setL (topL n R left)) ≤ left := by rw [hand]; exact Nat.and_le_left
      rcases Nat.lt_or_eq_of_le hle with h | h
      · exact h
      · rw [h] at hc; omega
end
theorem cps_zero (n : Nat) (R : Nat → Nat) : ∀ k, cps n R k 0 = []
  | 0 => rfl
  | k + 1 => by rw [cps, if_pos rfl]
/-- What stands in the reference's loops: the parts so far, what is left. -/
structure RP (h hp : Heap) (xs : List Int) (w : Value) (P : List Nat) (left : Nat) : Prop where
  r : RSI h hp w (iL P)
  lt : left < 2 ^ xs.length
  p : P.length ≤ 8
  c : ∃ k, P.length + k ≤ 8 ∧ cnt xs.length left ≤ k ∧ prts xs = P ++ cps xs.length (rch xs) k left

theorem s51_callW [Tabs Tryd.prog] {args : List Value} {h : Heap} {Q : Value → Heap → Prop} (hsz : args.length ≤ 66) (hk : AWS Tryd.prog 66 s51 (aPost Tryd.prog [.tmp 2] Q) (argEnv 0 args) h) : ACall Tryd.prog 51 args h Q :=
  acall_w Tryd.func51 rfl (enters_of Tryd.func51 (by kernel_rfl) rfl) rfl rfl (by decide) s51_strip s51_ok hsz hk
theorem part_loop [Tabs prog] {hp : Heap} {v w : Value} {xs : List Int} {left i : Nat} (hv : IntSl hp v xs) (ht : trn xs = true) (hlt : left < 2 ^ xs.length) {N : Env → Heap → Prop} {Q0 : Exit → Env → Heap → Prop}
    (hN : ∀ e, ELe e [(0, v), (2, .slice none 0 0), (3, w), (4, vint left), (5, vint i), (6, vint (Clr.setL (topL xs.length (rch xs) left) : Nat)), (14, v), (15, vint xs.length), (16, vint i)] → N e hp) :
    AWS prog 66 (.seq q51_9 (.block 4 (.loop l51_0))) (aThen N Q0) [(0, v), (2, .slice none 0 0), (3, w), (4, vint left), (5, vint i), (6, .int .i64 0), (14, v), (15, vint xs.length), (16, vint i)] hp := by
  have hxl := trn_len ht
  have h256 := pow8N hxl.2
  have hnn : ∀ i : Nat, (0 : Int) ≤ (i : Int) := Int.natCast_nonneg
  have e01 : ((0 : Int) == 1) = false := rfl
  have e11 : ((1 : Int) == 1) = true := rfl
  refine aw_aws ?_
  simp (maxSteps := 2000000) only [s51, ↓aw_region, ↓aw_skip, ↓aw_seq, ↓aw_block, ↓aw_exit, ↓aw_ret, ↓sops_nil, ↓sops_go, ↓dops_nil, ↓dopsX_nil, ↓dopsR_nil, ↓vdn, vup, extr_20, extr_21, extr_30, extr_31, extr_32, List.map_cons, List.map_nil, cond_true, cond_false, aop, aThen, aBlock, argEnv, ev, sput, sputO, binK, binI, unK, builtinK, pickK, Nat.reduceBEq, Nat.reduceAdd, Int.reduceBEq, Int.reduceBNe, Int.reduceLT, aPost, resK, tup, tyf, hv.len, ↓aw_loop_eq]
  refine aws_hide fun Q3 hQ3 => ?_
  refine aw_loop (γ := Nat) (fun j => j ≤ xs.length)
    (fun j => ([(0, v), (2, .slice none 0 0), (3, w), (4, vint left), (5, vint i), (6, vint (Clr.setL ((List.range j).filter (tp (rch xs) left)) : Nat)), (14, v), (15, vint xs.length), (16, vint i), (33, v), (34, vint xs.length), (35, vint j)], hp)) (fun j => xs.length - j) 0 (Nat.zero_le _) (by simp (maxSteps := 2000000) only [↓aw_region, ↓aw_skip, ↓aw_seq, ↓aw_block, ↓aw_exit, ↓aw_ret, ↓sops_nil, ↓sops_go, ↓dops_nil, ↓dopsX_nil, ↓dopsR_nil, ↓vdn, vup, extr_20, extr_21, extr_30, extr_31, extr_32, List.map_cons, List.map_nil, cond_true, cond_false, aop, aThen, aBlock, argEnv, ev, sput, sputO, binK, binI, unK, builtinK, pickK, Nat.reduceBEq, Nat.reduceAdd, Int.reduceBEq, Int.reduceBNe, Int.reduceLT, aPost, resK, tup, tyf, Int.natCast_zero, List.range_zero, List.filter_nil, Clr.setL, List.foldl_nil]) rfl ?_
  intro j hj
  refine aw_hide fun Q4 hQ4 => ?_
  by_cases hjn : (j : Int) < xs.length
  · have hj' : j < xs.length := by omega
    have hs : Clr.setL ((List.range (j + 1)).filter (tp (rch xs) left)) = if tp (rch xs) left j = true then Clr.setL ((List.range j).filter (tp (rch xs) left)) ||| 2 ^ j else Clr.setL ((List.range j).filter (tp (rch xs) left)) := by
      rw [List.range_succ, List.filter_append]
      by_cases h : tp (rch xs) left j = true
      · rw [if_pos h]
        have : List.filter (tp (rch xs) left) [j] = [j] := by simp [h]
        rw [this, setL_snoc]
      · rw [if_neg h]
        have : List.filter (tp (rch xs) left) [j] = [] := by simp [h]
        rw [this, List.append_nil]
    have hal : Clr.setL ((List.range j).filter (tp (rch xs) left)) < 2 ^ xs.length := Clr.setL_lt fun x hx => by have := List.mem_range.1 (List.mem_filter.1 hx).1; omega
    generalize Clr.setL ((List.range j).filter (tp (rch xs) left)) = a at hs hal ⊢
    have htest := testV (a := left) (y := j) (by omega)
    have h2j : 2 ^ j < 2 ^ 8 := Nat.pow_lt_pow_right (by decide) (by omega)
    have hor : bitsV .or .i64 (a : Int) ((2 ^ j : Nat) : Int) = ((a ||| 2 ^ j : Nat) : Int) := bitsV_or (by omega) (by omega)
    have hrl := (rch_nest ht).lt j hj'
    have hand : bitsV .and .i64 ((rch xs j : Nat) : Int) ((left : Nat) : Int) = ((rch xs j &&& left : Nat) : Int) := bitsV_and (by omega) (by omega)
    cases hb : left.testBit j with
    | false =>
      rw [if_neg (by rw [tp, hb]; simp)] at hs
      rw [hb, if_neg (by decide)] at htest
      simp (maxSteps := 2000000) only [s51, ↓aw_region, ↓aw_skip, ↓aw_seq, ↓aw_block, ↓aw_exit, ↓aw_ret, ↓sops_nil, ↓sops_go, ↓dops_nil, ↓dopsX_nil, ↓dopsR_nil, ↓vdn, vup, extr_20, extr_21, extr_30, extr_31, extr_32, List.map_cons, List.map_nil, cond_true, cond_false, aop, aThen, aBlock, argEnv, ev, sput, sputO, binK, binI, unK, builtinK, pickK, Nat.reduceBEq, Nat.reduceAdd, Int.reduceBEq, Int.reduceBNe, Int.reduceLT, aPost, resK, tup, tyf, l51_0, hjn, hnn, htest, e01, add1 (show j < 9223372036854775807 by omega)]
      exact hQ4 _ _ _ ⟨j + 1, hj', by omega, by simp (maxSteps := 2000000) only [↓aw_region, ↓aw_skip, ↓aw_seq, ↓aw_block, ↓aw_exit, ↓aw_ret, ↓sops_nil, ↓sops_go, ↓dops_nil, ↓dopsX_nil, ↓dopsR_nil, ↓vdn, vup, extr_20, extr_21, extr_30, extr_31, extr_32, List.map_cons, List.map_nil, cond_true, cond_false, aop, aThen, aBlock, argEnv, ev, sput, sputO, binK, binI, unK, builtinK, pickK, Nat.reduceBEq, Nat.reduceAdd, Int.reduceBEq, Int.reduceBNe, Int.reduceLT, aPost, resK, tup, tyf, hs], rfl⟩
    | true =>
      rw [hb, if_pos rfl] at htest
      have heq : (((rch xs j &&& left : Nat) : Int) == ((left : Nat) : Int)) = (rch xs j &&& left == left) := by
        rw [Bool.eq_iff_iff, beq_iff_eq, beq_iff_eq]; exact Int.ofNat_inj
      have htp : tp (rch xs) left j = (rch xs j &&& left == left) := by rw [tp, hb, Bool.true_and]
      rw [htp] at hs
      simp (maxSteps := 2000000) only [s51, ↓aw_region, ↓aw_skip, ↓aw_seq, ↓aw_block, ↓aw_exit, ↓aw_ret, ↓sops_nil, ↓sops_go, ↓dops_nil, ↓dopsX_nil, ↓dopsR_nil, ↓vdn, vup, extr_20, extr_21, extr_30, extr_31, extr_32, List.map_cons, List.map_nil, cond_true, cond_false, aop, aThen, aBlock, argEnv, ev, sput, sputO, binK, binI, unK, builtinK, pickK, Nat.reduceBEq, Nat.reduceAdd, Int.reduceBEq, Int.reduceBNe, Int.reduceLT, aPost, resK, tup, tyf, l51_0, hjn, hnn, htest, e11, callK, List.nil_append, List.append_nil, List.toList_toArray, List.cons_append]
      refine (rreach_call hv ht hj').mono ?_
      rintro _ hp ⟨rfl, rfl⟩
      cases hc : (rch xs j &&& left == left) with
      | true =>
        rw [hc, if_pos rfl] at hs
        simp (maxSteps := 2000000) only [s51, ↓aw_region, ↓aw_skip, ↓aw_seq, ↓aw_block, ↓aw_exit, ↓aw_ret, ↓sops_nil, ↓sops_go, ↓dops_nil, ↓dopsX_nil, ↓dopsR_nil, ↓vdn, vup, extr_20, extr_21, extr_30, extr_31, extr_32, List.map_cons, List.map_nil, cond_true, cond_false, aop, aThen, aBlock, argEnv, ev, sput, sputO, binK, binI, unK, builtinK, pickK, Nat.reduceBEq, Nat.reduceAdd, Int.reduceBEq, Int.reduceBNe, Int.reduceLT, aPost, resK, tup, tyf, hand, heq, hc, hnn, shlI1 (show j ≤ 62 by omega), hor, add1 (show j < 9223372036854775807 by omega)]
        exact hQ4 _ _ _ ⟨j + 1, hj', by omega, by simp (maxSteps := 2000000) only [↓aw_region, ↓aw_skip, ↓aw_seq, ↓aw_block, ↓aw_exit, ↓aw_ret, ↓sops_nil, ↓sops_go, ↓dops_nil, ↓dopsX_nil, ↓dopsR_nil, ↓vdn, vup, extr_20, extr_21, extr_30, extr_31, extr_32, List.map_cons, List.map_nil, cond_true, cond_false, aop, aThen, aBlock, argEnv, ev, sput, sputO, binK, binI, unK, builtinK, pickK, Nat.reduceBEq, Nat.reduceAdd, Int.reduceBEq, Int.reduceBNe, Int.reduceLT, aPost, resK, tup, tyf, hs], rfl⟩
      | false =>
        rw [hc, if_neg (by decide)] at hs
        simp (maxSteps := 2000000) only [s51, ↓aw_region, ↓aw_skip, ↓aw_seq, ↓aw_block, ↓aw_exit, ↓aw_ret, ↓sops_nil, ↓sops_go, ↓dops_nil, ↓dopsX_nil, ↓dopsR_nil, ↓vdn, vup, extr_20, extr_21, extr_30, extr_31, extr_32, List.map_cons, List.map_nil, cond_true, cond_false, aop, aThen, aBlock, argEnv, ev, sput, sputO, binK, binI, unK, builtinK, pickK, Nat.reduceBEq, Nat.reduceAdd, Int.reduceBEq, Int.reduceBNe, Int.reduceLT, aPost, resK, tup, tyf, hand, heq, hc, add1 (show j < 9223372036854775807 by omega)]
        exact hQ4 _ _ _ ⟨j + 1, hj', by omega, by simp (maxSteps := 2000000) only [↓aw_region, ↓aw_skip, ↓aw_seq, ↓aw_block, ↓aw_exit, ↓aw_ret, ↓sops_nil, ↓sops_go, ↓dops_nil, ↓dopsX_nil, ↓dopsR_nil, ↓vdn, vup, extr_20, extr_21, extr_30, extr_31, extr_32, List.map_cons, List.map_nil, cond_true, cond_false, aop, aThen, aBlock, argEnv, ev, sput, sputO, binK, binI, unK, builtinK, pickK, Nat.reduceBEq, Nat.reduceAdd, Int.reduceBEq, Int.reduceBNe, Int.reduceLT, aPost, resK, tup, tyf, hs], rfl⟩
  · obtain rfl : j = xs.length := by omega
    have htop : Clr.setL ((List.range xs.length).filter (tp (rch xs) left)) = Clr.setL (topL xs.length (rch xs) left) := rfl
    simp (maxSteps := 2000000) only [s51, ↓aw_region, ↓aw_skip, ↓aw_seq, ↓aw_block, ↓aw_exit, ↓aw_ret, ↓sops_nil, ↓sops_go, ↓dops_nil, ↓dopsX_nil, ↓dopsR_nil, ↓vdn, vup, extr_20, extr_21, extr_30, extr_31, extr_32, List.map_cons, List.map_nil, cond_true, cond_false, aop, aThen, aBlock, argEnv, ev, sput, sputO, binK, binI, unK, builtinK, pickK, Nat.reduceBEq, Nat.reduceAdd, Int.reduceBEq, Int.reduceBNe, Int.reduceLT, aPost, resK, tup, tyf, l51_0, Int.lt_irrefl]
    refine hQ4 _ _ _ (hQ3 _ _ _ ?_)
    simp (maxSteps := 2000000) only [s51, ↓aw_region, ↓aw_skip, ↓aw_seq, ↓aw_block, ↓aw_exit, ↓aw_ret, ↓sops_nil, ↓sops_go, ↓dops_nil, ↓dopsX_nil, ↓dopsR_nil, ↓vdn, vup, extr_20, extr_21, extr_30, extr_31, extr_32, List.map_cons, List.map_nil, cond_true, cond_false, aop, aThen, aBlock, argEnv, ev, sput, sputO, binK, binI, unK, builtinK, pickK, Nat.reduceBEq, Nat.reduceAdd, Int.reduceBEq, Int.reduceBNe, Int.reduceLT, aPost, resK, tup, tyf, if_true, htop]
    exact hN _ (by simp (maxSteps := 2000000) only [↓aw_region, ↓aw_skip, ↓aw_seq, ↓aw_block, ↓aw_exit, ↓aw_ret, ↓sops_nil, ↓sops_go, ↓dops_nil, ↓dopsX_nil, ↓dopsR_nil, ↓vdn, vup, extr_20, extr_21, extr_30, extr_31, extr_32, List.map_cons, List.map_nil, cond_true, cond_false, aop, aThen, aBlock, argEnv, ev, sput, sputO, binK, binI, unK, builtinK, pickK, Nat.reduceBEq, Nat.reduceAdd, Int.reduceBEq, Int.reduceBNe, Int.reduceLT, aPost, resK, tup, tyf])
end Go.Proofs.Tryd.Am

namespace Go.Proofs.Tryd.Am
open Go.Am Rb Rch
set_option maxRecDepth 100000
set_option maxHeartbeats 1000000

theorem rparts_call [Tabs prog] {h : Heap} {v : Value} {xs : List Int} (hv : IntSl h v xs) (ht : trn xs = true) : ACall prog 51 [v] h fun r h' => Ext (fun _ => False) h h' ∧ IntSl h' r (iL (prts xs)) := by
  have hxl := trn_len ht
  have h256 := pow8N hxl.2
  have hnn : ∀ i : Nat, (0 : Int) ≤ (i : Int) := Int.natCast_nonneg
  have e01 : ((0 : Int) == 1) = false := rfl
  have e11 : ((1 : Int) == 1) = true := rfl
  have hsh : shlV .i64 1 (xs.length : Int) = ((2 ^ xs.length : Nat) : Int) := shlI1 (by omega)
  have h1 := Nat.two_pow_pos xs.length
  have hsub : subV .i64 ((2 ^ xs.length : Nat) : Int) 1 = ((2 ^ xs.length - 1 : Nat) : Int) := by rw [subV_id (by omega) (by omega)]; omega
  have hn := rch_nest ht
  refine s51_callW (by simp) ?_
  simp only [s51]
  refine aws_cut fun N1 hN1 => ?_
  simp (maxSteps := 2000000) only [s51, ↓aw_region, ↓aw_skip, ↓aw_seq, ↓aw_block, ↓aw_exit, ↓aw_ret, ↓sops_nil, ↓sops_go, ↓dops_nil, ↓dopsX_nil, ↓dopsR_nil, ↓vdn, vup, extr_20, extr_21, extr_30, extr_31, extr_32, List.map_cons, List.map_nil, cond_true, cond_false, aop, aThen, aBlock, argEnv, ev, sput, sputO, binK, binI, unK, builtinK, pickK, Nat.reduceBEq, Nat.reduceAdd, Int.reduceBEq, Int.reduceBNe, Int.reduceLT, aPost, resK, tup, tyf]
  refine hN1 [(0, v), (2, .slice none 0 0)] _ _ ?_ (by simp (maxSteps := 2000000) only [↓aw_region, ↓aw_skip, ↓aw_seq, ↓aw_block, ↓aw_exit, ↓aw_ret, ↓sops_nil, ↓sops_go, ↓dops_nil, ↓dopsX_nil, ↓dopsR_nil, ↓vdn, vup, extr_20, extr_21, extr_30, extr_31, extr_32, List.map_cons, List.map_nil, cond_true, cond_false, aop, aThen, aBlock, argEnv, ev, sput, sputO, binK, binI, unK, builtinK, pickK, Nat.reduceBEq, Nat.reduceAdd, Int.reduceBEq, Int.reduceBNe, Int.reduceLT, aPost, resK, tup, tyf])
  clear hN1
  try clear N1
  refine aws_cut fun N2 hN2 => ?_
  simp (maxSteps := 2000000) only [s51, ↓aw_region, ↓aw_skip, ↓aw_seq, ↓aw_block, ↓aw_exit, ↓aw_ret, ↓sops_nil, ↓sops_go, ↓dops_nil, ↓dopsX_nil, ↓dopsR_nil, ↓vdn, vup, extr_20, extr_21, extr_30, extr_31, extr_32, List.map_cons, List.map_nil, cond_true, cond_false, aop, aThen, aBlock, argEnv, ev, sput, sputO, binK, binI, unK, builtinK, pickK, Nat.reduceBEq, Nat.reduceAdd, Int.reduceBEq, Int.reduceBNe, Int.reduceLT, aPost, resK, tup, tyf]
  refine hN2 [(0, v), (2, .slice none 0 0), (3, .slice none 0 0)] _ _ ?_ (by simp (maxSteps := 2000000) only [↓aw_region, ↓aw_skip, ↓aw_seq, ↓aw_block, ↓aw_exit, ↓aw_ret, ↓sops_nil, ↓sops_go, ↓dops_nil, ↓dopsX_nil, ↓dopsR_nil, ↓vdn, vup, extr_20, extr_21, extr_30, extr_31, extr_32, List.map_cons, List.map_nil, cond_true, cond_false, aop, aThen, aBlock, argEnv, ev, sput, sputO, binK, binI, unK, builtinK, pickK, Nat.reduceBEq, Nat.reduceAdd, Int.reduceBEq, Int.reduceBNe, Int.reduceLT, aPost, resK, tup, tyf])
  clear hN2
  try clear N2
  refine aws_cut fun N3 hN3 => ?_
  simp (maxSteps := 2000000) only [s51, ↓aw_region, ↓aw_skip, ↓aw_seq, ↓aw_block, ↓aw_exit, ↓aw_ret, ↓sops_nil, ↓sops_go, ↓dops_nil, ↓dopsX_nil, ↓dopsR_nil, ↓vdn, vup, extr_20, extr_21, extr_30, extr_31, extr_32, List.map_cons, List.map_nil, cond_true, cond_false, aop, aThen, aBlock, argEnv, ev, sput, sputO, binK, binI, unK, builtinK, pickK, Nat.reduceBEq, Nat.reduceAdd, Int.reduceBEq, Int.reduceBNe, Int.reduceLT, aPost, resK, tup, tyf, hv.len, hnn, hsh, hsub]
  refine hN3 [(0, v), (2, .slice none 0 0), (3, .slice none 0 0), (4, vint ((2 ^ xs.length - 1 : Nat) : Int))] _ _ ?_ (by simp (maxSteps := 2000000) only [↓aw_region, ↓aw_skip, ↓aw_seq, ↓aw_block, ↓aw_exit, ↓aw_ret, ↓sops_nil, ↓sops_go, ↓dops_nil, ↓dopsX_nil, ↓dopsR_nil, ↓vdn, vup, extr_20, extr_21, extr_30, extr_31, extr_32, List.map_cons, List.map_nil, cond_true, cond_false, aop, aThen, aBlock, argEnv, ev, sput, sputO, binK, binI, unK, builtinK, pickK, Nat.reduceBEq, Nat.reduceAdd, Int.reduceBEq, Int.reduceBNe, Int.reduceLT, aPost, resK, tup, tyf])
  clear hN3
  try clear N3
  refine aws_cutW fun Z hZ => ?_
  refine aws_block ?_
  refine aws_hide fun Q hQ => ?_
  refine aw_loopW (γ := Heap × Value × List Nat × Nat) (fun s => RP h s.1 xs s.2.1 s.2.2.1 s.2.2.2)
    (fun s => ([(0, v), (2, .slice none 0 0), (3, s.2.1), (4, vint s.2.2.2)], s.1)) (fun s => s.2.2.2) (h, .slice none 0 0, [], 2 ^ xs.length - 1) ⟨RSI.nil h, Nat.sub_lt h1 (by decide), by simp, xs.length, by simp; omega, cnt_le _ _, rfl⟩ (by simp (maxSteps := 2000000) only [↓aw_region, ↓aw_skip, ↓aw_seq, ↓aw_block, ↓aw_exit, ↓aw_ret, ↓sops_nil, ↓sops_go, ↓dops_nil, ↓dopsX_nil, ↓dopsR_nil, ↓vdn, vup, extr_20, extr_21, extr_30, extr_31, extr_32, List.map_cons, List.map_nil, cond_true, cond_false, aop, aThen, aBlock, argEnv, ev, sput, sputO, binK, binI, unK, builtinK, pickK, Nat.reduceBEq, Nat.reduceAdd, Int.reduceBEq, Int.reduceBNe, Int.reduceLT, aPost, resK, tup, tyf]) rfl ?_
  rintro ⟨hp, w0, P, left⟩ rp
  simp only at rp
  refine aws_hide fun Q2 hQ2 => ?_
  simp only [l51_2]
  by_cases h0 : left = 0
  · subst h0
    refine aws_cut fun N4 hN4 => ?_
    simp (maxSteps := 2000000) only [s51, ↓aw_region, ↓aw_skip, ↓aw_seq, ↓aw_block, ↓aw_exit, ↓aw_ret, ↓sops_nil, ↓sops_go, ↓dops_nil, ↓dopsX_nil, ↓dopsR_nil, ↓vdn, vup, extr_20, extr_21, extr_30, extr_31, extr_32, List.map_cons, List.map_nil, cond_true, cond_false, aop, aThen, aBlock, argEnv, ev, sput, sputO, binK, binI, unK, builtinK, pickK, Nat.reduceBEq, Nat.reduceAdd, Int.reduceBEq, Int.reduceBNe, Int.reduceLT, aPost, resK, tup, tyf, Int.natCast_zero, gt_iff_lt, Int.lt_irrefl]
    refine hQ2 _ _ _ (hQ _ _ _ ?_)
    simp (maxSteps := 2000000) only [s51, ↓aw_region, ↓aw_skip, ↓aw_seq, ↓aw_block, ↓aw_exit, ↓aw_ret, ↓sops_nil, ↓sops_go, ↓dops_nil, ↓dopsX_nil, ↓dopsR_nil, ↓vdn, vup, extr_20, extr_21, extr_30, extr_31, extr_32, List.map_cons, List.map_nil, cond_true, cond_false, aop, aThen, aBlock, argEnv, ev, sput, sputO, binK, binI, unK, builtinK, pickK, Nat.reduceBEq, Nat.reduceAdd, Int.reduceBEq, Int.reduceBNe, Int.reduceLT, aPost, resK, tup, tyf, if_true]
    refine hZ [(0, v), (2, .slice none 0 0), (3, w0), (4, .int .i64 0)] _ _ ?_ (by simp (maxSteps := 2000000) only [↓aw_region, ↓aw_skip, ↓aw_seq, ↓aw_block, ↓aw_exit, ↓aw_ret, ↓sops_nil, ↓sops_go, ↓dops_nil, ↓dopsX_nil, ↓dopsR_nil, ↓vdn, vup, extr_20, extr_21, extr_30, extr_31, extr_32, List.map_cons, List.map_nil, cond_true, cond_false, aop, aThen, aBlock, argEnv, ev, sput, sputO, binK, binI, unK, builtinK, pickK, Nat.reduceBEq, Nat.reduceAdd, Int.reduceBEq, Int.reduceBNe, Int.reduceLT, aPost, resK, tup, tyf])
    clear hZ
    try clear Z
    obtain ⟨k, _, _, hc⟩ := rp.c
    rw [cps_zero, List.append_nil] at hc
    refine aw_aws ?_
    simp (maxSteps := 2000000) only [s51, ↓aw_region, ↓aw_skip, ↓aw_seq, ↓aw_block, ↓aw_exit, ↓aw_ret, ↓sops_nil, ↓sops_go, ↓dops_nil, ↓dopsX_nil, ↓dopsR_nil, ↓vdn, vup, extr_20, extr_21, extr_30, extr_31, extr_32, List.map_cons, List.map_nil, cond_true, cond_false, aop, aThen, aBlock, argEnv, ev, sput, sputO, binK, binI, unK, builtinK, pickK, Nat.reduceBEq, Nat.reduceAdd, Int.reduceBEq, Int.reduceBNe, Int.reduceLT, aPost, resK, tup, tyf]
    rw [hc]
    exact ⟨rp.r.2.1, rp.r.1.int⟩
  · have hpos : (0 : Int) < (left : Int) := by omega
    refine aws_cut fun N5 hN5 => ?_
    simp (maxSteps := 2000000) only [s51, ↓aw_region, ↓aw_skip, ↓aw_seq, ↓aw_block, ↓aw_exit, ↓aw_ret, ↓sops_nil, ↓sops_go, ↓dops_nil, ↓dopsX_nil, ↓dopsR_nil, ↓vdn, vup, extr_20, extr_21, extr_30, extr_31, extr_32, List.map_cons, List.map_nil, cond_true, cond_false, aop, aThen, aBlock, argEnv, ev, sput, sputO, binK, binI, unK, builtinK, pickK, Nat.reduceBEq, Nat.reduceAdd, Int.reduceBEq, Int.reduceBNe, Int.reduceLT, aPost, resK, tup, tyf, gt_iff_lt, hpos]
    refine hN5 [(0, v), (2, .slice none 0 0), (3, w0), (4, vint left)] _ _ ?_ (by simp (maxSteps := 2000000) only [↓aw_region, ↓aw_skip, ↓aw_seq, ↓aw_block, ↓aw_exit, ↓aw_ret, ↓sops_nil, ↓sops_go, ↓dops_nil, ↓dopsX_nil, ↓dopsR_nil, ↓vdn, vup, extr_20, extr_21, extr_30, extr_31, extr_32, List.map_cons, List.map_nil, cond_true, cond_false, aop, aThen, aBlock, argEnv, ev, sput, sputO, binK, binI, unK, builtinK, pickK, Nat.reduceBEq, Nat.reduceAdd, Int.reduceBEq, Int.reduceBNe, Int.reduceLT, aPost, resK, tup, tyf])
    clear hN5
    try clear N5
    refine aws_block ?_
    refine aws_cut fun N6 hN6 => ?_
    simp (maxSteps := 2000000) only [s51, ↓aw_region, ↓aw_skip, ↓aw_seq, ↓aw_block, ↓aw_exit, ↓aw_ret, ↓sops_nil, ↓sops_go, ↓dops_nil, ↓dopsX_nil, ↓dopsR_nil, ↓vdn, vup, extr_20, extr_21, extr_30, extr_31, extr_32, List.map_cons, List.map_nil, cond_true, cond_false, aop, aThen, aBlock, argEnv, ev, sput, sputO, binK, binI, unK, builtinK, pickK, Nat.reduceBEq, Nat.reduceAdd, Int.reduceBEq, Int.reduceBNe, Int.reduceLT, aPost, resK, tup, tyf, hv.len]
    refine hN6 [(0, v), (2, .slice none 0 0), (3, w0), (4, vint left), (14, v), (15, vint xs.length), (16, .int .i64 0)] _ _ ?_ (by simp (maxSteps := 2000000) only [↓aw_region, ↓aw_skip, ↓aw_seq, ↓aw_block, ↓aw_exit, ↓aw_ret, ↓sops_nil, ↓sops_go, ↓dops_nil, ↓dopsX_nil, ↓dopsR_nil, ↓vdn, vup, extr_20, extr_21, extr_30, extr_31, extr_32, List.map_cons, List.map_nil, cond_true, cond_false, aop, aThen, aBlock, argEnv, ev, sput, sputO, binK, binI, unK, builtinK, pickK, Nat.reduceBEq, Nat.reduceAdd, Int.reduceBEq, Int.reduceBNe, Int.reduceLT, aPost, resK, tup, tyf])
    clear hN6
    try clear N6
    refine aws_block ?_
    refine aws_hide fun Q3 hQ3 => ?_
    refine aw_loopW (γ := Nat × Heap × Value × List Nat × Nat) (fun s => s.1 ≤ xs.length ∧ RP h s.2.1 xs s.2.2.1 s.2.2.2.1 s.2.2.2.2 ∧ ((s.2.2.2.2 = left ∧ ∀ j, j < s.1 → tp (rch xs) left j = false) ∨ s.2.2.2.2 < left))
      (fun s => ([(0, v), (2, .slice none 0 0), (3, s.2.2.1), (4, vint s.2.2.2.2), (14, v), (15, vint xs.length), (16, vint s.1)], s.2.1)) (fun s => xs.length - s.1) (0, hp, w0, P, left) ⟨Nat.zero_le _, rp, .inl ⟨rfl, fun j hj => by omega⟩⟩ (by simp (maxSteps := 2000000) only [↓aw_region, ↓aw_skip, ↓aw_seq, ↓aw_block, ↓aw_exit, ↓aw_ret, ↓sops_nil, ↓sops_go, ↓dops_nil, ↓dopsX_nil, ↓dopsR_nil, ↓vdn, vup, extr_20, extr_21, extr_30, extr_31, extr_32, List.map_cons, List.map_nil, cond_true, cond_false, aop, aThen, aBlock, argEnv, ev, sput, sputO, binK, binI, unK, builtinK, pickK, Nat.reduceBEq, Nat.reduceAdd, Int.reduceBEq, Int.reduceBNe, Int.reduceLT, aPost, resK, tup, tyf, Int.natCast_zero]) rfl ?_
    rintro ⟨i, hq, w1, P2, l2⟩ ⟨hi, rq, hor⟩
    simp only at hi rq hor
    refine aws_hide fun Q4 hQ4 => ?_
    simp only [l51_1]
    have hvq := IntSl_ext hv rq.r.2.1
    have hlt := rq.lt
    by_cases hin : (i : Int) < xs.length
    · have hi' : i < xs.length := by omega
      have htest := testV (a := l2) (y := i) (by omega)
      have hrl := hn.lt i hi'
      have hand : bitsV .and .i64 ((rch xs i : Nat) : Int) ((l2 : Nat) : Int) = ((rch xs i &&& l2 : Nat) : Int) := bitsV_and (by omega) (by omega)
      have heq : (((rch xs i &&& l2 : Nat) : Int) == ((l2 : Nat) : Int)) = (rch xs i &&& l2 == l2) := by
        rw [Bool.eq_iff_iff, beq_iff_eq, beq_iff_eq]; exact Int.ofNat_inj
      refine aws_cut fun N7 hN7 => ?_
      simp (maxSteps := 2000000) only [s51, ↓aw_region, ↓aw_skip, ↓aw_seq, ↓aw_block, ↓aw_exit, ↓aw_ret, ↓sops_nil, ↓sops_go, ↓dops_nil, ↓dopsX_nil, ↓dopsR_nil, ↓vdn, vup, extr_20, extr_21, extr_30, extr_31, extr_32, List.map_cons, List.map_nil, cond_true, cond_false, aop, aThen, aBlock, argEnv, ev, sput, sputO, binK, binI, unK, builtinK, pickK, Nat.reduceBEq, Nat.reduceAdd, Int.reduceBEq, Int.reduceBNe, Int.reduceLT, aPost, resK, tup, tyf, hin]
      refine hN7 [(0, v), (2, .slice none 0 0), (3, w1), (4, vint l2), (14, v), (15, vint xs.length), (16, vint i), (17, .bool true)] _ _ ?_ (by simp (maxSteps := 2000000) only [↓aw_region, ↓aw_skip, ↓aw_seq, ↓aw_block, ↓aw_exit, ↓aw_ret, ↓sops_nil, ↓sops_go, ↓dops_nil, ↓dopsX_nil, ↓dopsR_nil, ↓vdn, vup, extr_20, extr_21, extr_30, extr_31, extr_32, List.map_cons, List.map_nil, cond_true, cond_false, aop, aThen, aBlock, argEnv, ev, sput, sputO, binK, binI, unK, builtinK, pickK, Nat.reduceBEq, Nat.reduceAdd, Int.reduceBEq, Int.reduceBNe, Int.reduceLT, aPost, resK, tup, tyf])
      clear hN7
      try clear N7
      refine aws_cut fun N8 hN8 => ?_
      simp (maxSteps := 2000000) only [s51, ↓aw_region, ↓aw_skip, ↓aw_seq, ↓aw_block, ↓aw_exit, ↓aw_ret, ↓sops_nil, ↓sops_go, ↓dops_nil, ↓dopsX_nil, ↓dopsR_nil, ↓vdn, vup, extr_20, extr_21, extr_30, extr_31, extr_32, List.map_cons, List.map_nil, cond_true, cond_false, aop, aThen, aBlock, argEnv, ev, sput, sputO, binK, binI, unK, builtinK, pickK, Nat.reduceBEq, Nat.reduceAdd, Int.reduceBEq, Int.reduceBNe, Int.reduceLT, aPost, resK, tup, tyf]
      refine hN8 [(0, v), (2, .slice none 0 0), (3, w1), (4, vint l2), (14, v), (15, vint xs.length), (16, vint i)] _ _ ?_ (by simp (maxSteps := 2000000) only [↓aw_region, ↓aw_skip, ↓aw_seq, ↓aw_block, ↓aw_exit, ↓aw_ret, ↓sops_nil, ↓sops_go, ↓dops_nil, ↓dopsX_nil, ↓dopsR_nil, ↓vdn, vup, extr_20, extr_21, extr_30, extr_31, extr_32, List.map_cons, List.map_nil, cond_true, cond_false, aop, aThen, aBlock, argEnv, ev, sput, sputO, binK, binI, unK, builtinK, pickK, Nat.reduceBEq, Nat.reduceAdd, Int.reduceBEq, Int.reduceBNe, Int.reduceLT, aPost, resK, tup, tyf])
      clear hN8
      try clear N8
      refine aws_cutW fun M hM => ?_
      refine aws_block ?_
      refine aws_cut fun N9 hN9 => ?_
      simp (maxSteps := 2000000) only [s51, ↓aw_region, ↓aw_skip, ↓aw_seq, ↓aw_block, ↓aw_exit, ↓aw_ret, ↓sops_nil, ↓sops_go, ↓dops_nil, ↓dopsX_nil, ↓dopsR_nil, ↓vdn, vup, extr_20, extr_21, extr_30, extr_31, extr_32, List.map_cons, List.map_nil, cond_true, cond_false, aop, aThen, aBlock, argEnv, ev, sput, sputO, binK, binI, unK, builtinK, pickK, Nat.reduceBEq, Nat.reduceAdd, Int.reduceBEq, Int.reduceBNe, Int.reduceLT, aPost, resK, tup, tyf]
      refine hN9 [(0, v), (2, .slice none 0 0), (3, w1), (4, vint l2), (5, vint i), (14, v), (15, vint xs.length), (16, vint i)] _ _ ?_ (by simp (maxSteps := 2000000) only [↓aw_region, ↓aw_skip, ↓aw_seq, ↓aw_block, ↓aw_exit, ↓aw_ret, ↓sops_nil, ↓sops_go, ↓dops_nil, ↓dopsX_nil, ↓dopsR_nil, ↓vdn, vup, extr_20, extr_21, extr_30, extr_31, extr_32, List.map_cons, List.map_nil, cond_true, cond_false, aop, aThen, aBlock, argEnv, ev, sput, sputO, binK, binI, unK, builtinK, pickK, Nat.reduceBEq, Nat.reduceAdd, Int.reduceBEq, Int.reduceBNe, Int.reduceLT, aPost, resK, tup, tyf])
      clear hN9
      try clear N9
      have skip : tp (rch xs) l2 i = false → ∀ e, ELe e [(0, v), (2, .slice none 0 0), (3, w1), (4, vint l2), (14, v), (15, vint xs.length), (16, vint i)] → M e hq := fun hno e he => by
        refine hM [(0, v), (2, .slice none 0 0), (3, w1), (4, vint l2), (14, v), (15, vint xs.length), (16, vint i)] _ _ ?_ he
        refine aw_aws ?_
        simp (maxSteps := 2000000) only [s51, ↓aw_region, ↓aw_skip, ↓aw_seq, ↓aw_block, ↓aw_exit, ↓aw_ret, ↓sops_nil, ↓sops_go, ↓dops_nil, ↓dopsX_nil, ↓dopsR_nil, ↓vdn, vup, extr_20, extr_21, extr_30, extr_31, extr_32, List.map_cons, List.map_nil, cond_true, cond_false, aop, aThen, aBlock, argEnv, ev, sput, sputO, binK, binI, unK, builtinK, pickK, Nat.reduceBEq, Nat.reduceAdd, Int.reduceBEq, Int.reduceBNe, Int.reduceLT, aPost, resK, tup, tyf, add1 (show i < 9223372036854775807 by omega)]
        refine hQ4 _ _ _ ⟨(i + 1, hq, w1, P2, l2), ⟨hi', rq, ?_⟩, by simp only; omega, by simp (maxSteps := 2000000) only [↓aw_region, ↓aw_skip, ↓aw_seq, ↓aw_block, ↓aw_exit, ↓aw_ret, ↓sops_nil, ↓sops_go, ↓dops_nil, ↓dopsX_nil, ↓dopsR_nil, ↓vdn, vup, extr_20, extr_21, extr_30, extr_31, extr_32, List.map_cons, List.map_nil, cond_true, cond_false, aop, aThen, aBlock, argEnv, ev, sput, sputO, binK, binI, unK, builtinK, pickK, Nat.reduceBEq, Nat.reduceAdd, Int.reduceBEq, Int.reduceBNe, Int.reduceLT, aPost, resK, tup, tyf], rfl⟩
        rcases hor with ⟨he, hall⟩ | hl
        · refine .inl ⟨he, fun j hj => ?_⟩
          by_cases hji : j = i
          · rw [hji, ← he]; exact hno
          · exact hall j (by omega)
        · exact .inr hl
      cases htp : tp (rch xs) l2 i with
      | false =>
        cases hb : l2.testBit i with
        | false =>
          rw [hb, if_neg (by decide)] at htest
          refine aw_aws ?_
          simp (maxSteps := 2000000) only [s51, ↓aw_region, ↓aw_skip, ↓aw_seq, ↓aw_block, ↓aw_exit, ↓aw_ret, ↓sops_nil, ↓sops_go, ↓dops_nil, ↓dopsX_nil, ↓dopsR_nil, ↓vdn, vup, extr_20, extr_21, extr_30, extr_31, extr_32, List.map_cons, List.map_nil, cond_true, cond_false, aop, aThen, aBlock, argEnv, ev, sput, sputO, binK, binI, unK, builtinK, pickK, Nat.reduceBEq, Nat.reduceAdd, Int.reduceBEq, Int.reduceBNe, Int.reduceLT, aPost, resK, tup, tyf, hnn, htest, e01]
          exact skip htp _ (by simp (maxSteps := 2000000) only [↓aw_region, ↓aw_skip, ↓aw_seq, ↓aw_block, ↓aw_exit, ↓aw_ret, ↓sops_nil, ↓sops_go, ↓dops_nil, ↓dopsX_nil, ↓dopsR_nil, ↓vdn, vup, extr_20, extr_21, extr_30, extr_31, extr_32, List.map_cons, List.map_nil, cond_true, cond_false, aop, aThen, aBlock, argEnv, ev, sput, sputO, binK, binI, unK, builtinK, pickK, Nat.reduceBEq, Nat.reduceAdd, Int.reduceBEq, Int.reduceBNe, Int.reduceLT, aPost, resK, tup, tyf])
        | true =>
          rw [hb, if_pos rfl] at htest
          have hc : (rch xs i &&& l2 == l2) = false := by rw [tp, hb, Bool.true_and] at htp; exact htp
          refine aw_aws ?_
          simp (maxSteps := 2000000) only [s51, ↓aw_region, ↓aw_skip, ↓aw_seq, ↓aw_block, ↓aw_exit, ↓aw_ret, ↓sops_nil, ↓sops_go, ↓dops_nil, ↓dopsX_nil, ↓dopsR_nil, ↓vdn, vup, extr_20, extr_21, extr_30, extr_31, extr_32, List.map_cons, List.map_nil, cond_true, cond_false, aop, aThen, aBlock, argEnv, ev, sput, sputO, binK, binI, unK, builtinK, pickK, Nat.reduceBEq, Nat.reduceAdd, Int.reduceBEq, Int.reduceBNe, Int.reduceLT, aPost, resK, tup, tyf, hnn, htest, e11, callK, List.nil_append, List.append_nil, List.toList_toArray, List.cons_append]
          refine (rreach_call hvq ht hi').mono ?_
          rintro _ hq ⟨rfl, rfl⟩
          simp (maxSteps := 2000000) only [s51, ↓aw_region, ↓aw_skip, ↓aw_seq, ↓aw_block, ↓aw_exit, ↓aw_ret, ↓sops_nil, ↓sops_go, ↓dops_nil, ↓dopsX_nil, ↓dopsR_nil, ↓vdn, vup, extr_20, extr_21, extr_30, extr_31, extr_32, List.map_cons, List.map_nil, cond_true, cond_false, aop, aThen, aBlock, argEnv, ev, sput, sputO, binK, binI, unK, builtinK, pickK, Nat.reduceBEq, Nat.reduceAdd, Int.reduceBEq, Int.reduceBNe, Int.reduceLT, aPost, resK, tup, tyf, hand, heq, hc]
          exact skip htp _ (by simp (maxSteps := 2000000) only [↓aw_region, ↓aw_skip, ↓aw_seq, ↓aw_block, ↓aw_exit, ↓aw_ret, ↓sops_nil, ↓sops_go, ↓dops_nil, ↓dopsX_nil, ↓dopsR_nil, ↓vdn, vup, extr_20, extr_21, extr_30, extr_31, extr_32, List.map_cons, List.map_nil, cond_true, cond_false, aop, aThen, aBlock, argEnv, ev, sput, sputO, binK, binI, unK, builtinK, pickK, Nat.reduceBEq, Nat.reduceAdd, Int.reduceBEq, Int.reduceBNe, Int.reduceLT, aPost, resK, tup, tyf])
      | true =>
        have hb : l2.testBit i = true := by rw [tp, Bool.and_eq_true] at htp; exact htp.1
        have hc : (rch xs i &&& l2 == l2) = true := by rw [tp, Bool.and_eq_true] at htp; exact htp.2
        rw [hb, if_pos rfl] at htest
        clear skip
        refine aws_cut fun N10 hN10 => ?_
        simp (maxSteps := 2000000) only [s51, ↓aw_region, ↓aw_skip, ↓aw_seq, ↓aw_block, ↓aw_exit, ↓aw_ret, ↓sops_nil, ↓sops_go, ↓dops_nil, ↓dopsX_nil, ↓dopsR_nil, ↓vdn, vup, extr_20, extr_21, extr_30, extr_31, extr_32, List.map_cons, List.map_nil, cond_true, cond_false, aop, aThen, aBlock, argEnv, ev, sput, sputO, binK, binI, unK, builtinK, pickK, Nat.reduceBEq, Nat.reduceAdd, Int.reduceBEq, Int.reduceBNe, Int.reduceLT, aPost, resK, tup, tyf, callK, List.nil_append, List.append_nil, List.toList_toArray, List.cons_append, hnn, htest, e11]
        refine (rreach_call hvq ht hi').mono ?_
        rintro _ hq ⟨rfl, rfl⟩
        simp (maxSteps := 2000000) only [s51, ↓aw_region, ↓aw_skip, ↓aw_seq, ↓aw_block, ↓aw_exit, ↓aw_ret, ↓sops_nil, ↓sops_go, ↓dops_nil, ↓dopsX_nil, ↓dopsR_nil, ↓vdn, vup, extr_20, extr_21, extr_30, extr_31, extr_32, List.map_cons, List.map_nil, cond_true, cond_false, aop, aThen, aBlock, argEnv, ev, sput, sputO, binK, binI, unK, builtinK, pickK, Nat.reduceBEq, Nat.reduceAdd, Int.reduceBEq, Int.reduceBNe, Int.reduceLT, aPost, resK, tup, tyf, hand, heq, hc]
        refine hN10 [(0, v), (2, .slice none 0 0), (3, w1), (4, vint l2), (5, vint i), (14, v), (15, vint xs.length), (16, vint i), (32, .bool true)] _ _ ?_ (by simp (maxSteps := 2000000) only [↓aw_region, ↓aw_skip, ↓aw_seq, ↓aw_block, ↓aw_exit, ↓aw_ret, ↓sops_nil, ↓sops_go, ↓dops_nil, ↓dopsX_nil, ↓dopsR_nil, ↓vdn, vup, extr_20, extr_21, extr_30, extr_31, extr_32, List.map_cons, List.map_nil, cond_true, cond_false, aop, aThen, aBlock, argEnv, ev, sput, sputO, binK, binI, unK, builtinK, pickK, Nat.reduceBEq, Nat.reduceAdd, Int.reduceBEq, Int.reduceBNe, Int.reduceLT, aPost, resK, tup, tyf])
        clear hN10
        try clear N10
        refine aws_true rfl ?_
        refine aws_cut fun N11 hN11 => ?_
        simp (maxSteps := 2000000) only [s51, ↓aw_region, ↓aw_skip, ↓aw_seq, ↓aw_block, ↓aw_exit, ↓aw_ret, ↓sops_nil, ↓sops_go, ↓dops_nil, ↓dopsX_nil, ↓dopsR_nil, ↓vdn, vup, extr_20, extr_21, extr_30, extr_31, extr_32, List.map_cons, List.map_nil, cond_true, cond_false, aop, aThen, aBlock, argEnv, ev, sput, sputO, binK, binI, unK, builtinK, pickK, Nat.reduceBEq, Nat.reduceAdd, Int.reduceBEq, Int.reduceBNe, Int.reduceLT, aPost, resK, tup, tyf]
        refine hN11 [(0, v), (2, .slice none 0 0), (3, w1), (4, vint l2), (5, vint i), (6, .int .i64 0), (14, v), (15, vint xs.length), (16, vint i)] _ _ ?_ (by simp (maxSteps := 2000000) only [↓aw_region, ↓aw_skip, ↓aw_seq, ↓aw_block, ↓aw_exit, ↓aw_ret, ↓sops_nil, ↓sops_go, ↓dops_nil, ↓dopsX_nil, ↓dopsR_nil, ↓vdn, vup, extr_20, extr_21, extr_30, extr_31, extr_32, List.map_cons, List.map_nil, cond_true, cond_false, aop, aThen, aBlock, argEnv, ev, sput, sputO, binK, binI, unK, builtinK, pickK, Nat.reduceBEq, Nat.reduceAdd, Int.reduceBEq, Int.reduceBNe, Int.reduceLT, aPost, resK, tup, tyf])
        clear hN11
        try clear N11
        refine aws_cutW fun N12 hN12 => ?_
        refine part_loop hvq ht hlt fun e he => ?_
        obtain ⟨k, hk1, hk2, hk3⟩ := rq.c
        obtain ⟨k', rfl, hc1, hc2, hc3, hc4⟩ := cps_go hlt hi' htp hk2
        have htl : Clr.setL (topL xs.length (rch xs) l2) < 2 ^ xs.length := Clr.setL_lt fun x hx => List.mem_range.1 (List.mem_filter.1 hx).1
        rw [hc1] at hk3
        generalize Clr.setL (topL xs.length (rch xs) l2) = pt at he hc2 hc3 hc4 htl hk3
        refine hN12 [(0, v), (2, .slice none 0 0), (3, w1), (4, vint l2), (5, vint i), (6, vint (pt : Nat)), (14, v), (15, vint xs.length), (16, vint i)] _ _ ?_ he
        have hnot : bitsV .andNot .i64 ((l2 : Nat) : Int) ((pt : Nat) : Int) = ((Am.less l2 pt : Nat) : Int) := bitsV_andNot (by omega) (by omega)
        refine aw_aws ?_
        simp (maxSteps := 2000000) only [s51, ↓aw_region, ↓aw_skip, ↓aw_seq, ↓aw_block, ↓aw_exit, ↓aw_ret, ↓sops_nil, ↓sops_go, ↓dops_nil, ↓dopsX_nil, ↓dopsR_nil, ↓vdn, vup, extr_20, extr_21, extr_30, extr_31, extr_32, List.map_cons, List.map_nil, cond_true, cond_false, aop, aThen, aBlock, argEnv, ev, sput, sputO, binK, binI, unK, builtinK, pickK, Nat.reduceBEq, Nat.reduceAdd, Int.reduceBEq, Int.reduceBNe, Int.reduceLT, aPost, resK, tup, tyf, litI1]
        refine rq.r.push (by rw [iL_len]; have := rq.p; omega) fun v' h' s' => ?_
        simp (maxSteps := 2000000) only [s51, ↓aw_region, ↓aw_skip, ↓aw_seq, ↓aw_block, ↓aw_exit, ↓aw_ret, ↓sops_nil, ↓sops_go, ↓dops_nil, ↓dopsX_nil, ↓dopsR_nil, ↓vdn, vup, extr_20, extr_21, extr_30, extr_31, extr_32, List.map_cons, List.map_nil, cond_true, cond_false, aop, aThen, aBlock, argEnv, ev, sput, sputO, binK, binI, unK, builtinK, pickK, Nat.reduceBEq, Nat.reduceAdd, Int.reduceBEq, Int.reduceBNe, Int.reduceLT, aPost, resK, tup, tyf, hnot]
        refine hM [(0, v), (2, .slice none 0 0), (3, v'), (4, vint (Am.less l2 pt : Nat)), (14, v), (15, vint xs.length), (16, vint i)] _ _ ?_ (by simp (maxSteps := 2000000) only [↓aw_region, ↓aw_skip, ↓aw_seq, ↓aw_block, ↓aw_exit, ↓aw_ret, ↓sops_nil, ↓sops_go, ↓dops_nil, ↓dopsX_nil, ↓dopsR_nil, ↓vdn, vup, extr_20, extr_21, extr_30, extr_31, extr_32, List.map_cons, List.map_nil, cond_true, cond_false, aop, aThen, aBlock, argEnv, ev, sput, sputO, binK, binI, unK, builtinK, pickK, Nat.reduceBEq, Nat.reduceAdd, Int.reduceBEq, Int.reduceBNe, Int.reduceLT, aPost, resK, tup, tyf])
        refine aw_aws ?_
        simp (maxSteps := 2000000) only [s51, ↓aw_region, ↓aw_skip, ↓aw_seq, ↓aw_block, ↓aw_exit, ↓aw_ret, ↓sops_nil, ↓sops_go, ↓dops_nil, ↓dopsX_nil, ↓dopsR_nil, ↓vdn, vup, extr_20, extr_21, extr_30, extr_31, extr_32, List.map_cons, List.map_nil, cond_true, cond_false, aop, aThen, aBlock, argEnv, ev, sput, sputO, binK, binI, unK, builtinK, pickK, Nat.reduceBEq, Nat.reduceAdd, Int.reduceBEq, Int.reduceBNe, Int.reduceLT, aPost, resK, tup, tyf, add1 (show i < 9223372036854775807 by omega)]
        refine hQ4 _ _ _ ⟨(i + 1, h', v', P2 ++ [pt], Am.less l2 pt), ⟨hi', ⟨?_, hc4, by rw [List.length_append, List.length_singleton]; omega, k', by rw [List.length_append, List.length_singleton]; omega, hc2, by rw [hk3]; simp⟩, .inr ?_⟩, by simp only; omega, by simp (maxSteps := 2000000) only [↓aw_region, ↓aw_skip, ↓aw_seq, ↓aw_block, ↓aw_exit, ↓aw_ret, ↓sops_nil, ↓sops_go, ↓dops_nil, ↓dopsX_nil, ↓dopsR_nil, ↓vdn, vup, extr_20, extr_21, extr_30, extr_31, extr_32, List.map_cons, List.map_nil, cond_true, cond_false, aop, aThen, aBlock, argEnv, ev, sput, sputO, binK, binI, unK, builtinK, pickK, Nat.reduceBEq, Nat.reduceAdd, Int.reduceBEq, Int.reduceBNe, Int.reduceLT, aPost, resK, tup, tyf], rfl⟩
        · have e : iL (P2 ++ [pt]) = iL P2 ++ [((pt : Nat) : Int)] := by simp [iL]
          rw [e]; exact s'
        · rcases hor with ⟨he2, _⟩ | hl
          · rw [← he2]; exact hc3
          · exact Nat.lt_trans hc3 hl
    · obtain rfl : i = xs.length := by omega
      refine aws_cut fun Y hY => ?_
      simp (maxSteps := 2000000) only [s51, ↓aw_region, ↓aw_skip, ↓aw_seq, ↓aw_block, ↓aw_exit, ↓aw_ret, ↓sops_nil, ↓sops_go, ↓dops_nil, ↓dopsX_nil, ↓dopsR_nil, ↓vdn, vup, extr_20, extr_21, extr_30, extr_31, extr_32, List.map_cons, List.map_nil, cond_true, cond_false, aop, aThen, aBlock, argEnv, ev, sput, sputO, binK, binI, unK, builtinK, pickK, Nat.reduceBEq, Nat.reduceAdd, Int.reduceBEq, Int.reduceBNe, Int.reduceLT, aPost, resK, tup, tyf, Int.lt_irrefl]
      refine hY [(0, v), (2, .slice none 0 0), (3, w1), (4, vint l2), (14, v), (15, vint xs.length), (16, vint xs.length), (17, .bool false)] _ _ ?_ (by simp (maxSteps := 2000000) only [↓aw_region, ↓aw_skip, ↓aw_seq, ↓aw_block, ↓aw_exit, ↓aw_ret, ↓sops_nil, ↓sops_go, ↓dops_nil, ↓dopsX_nil, ↓dopsR_nil, ↓vdn, vup, extr_20, extr_21, extr_30, extr_31, extr_32, List.map_cons, List.map_nil, cond_true, cond_false, aop, aThen, aBlock, argEnv, ev, sput, sputO, binK, binI, unK, builtinK, pickK, Nat.reduceBEq, Nat.reduceAdd, Int.reduceBEq, Int.reduceBNe, Int.reduceLT, aPost, resK, tup, tyf])
      clear hY
      try clear Y
      refine aw_aws ?_
      simp (maxSteps := 2000000) only [s51, ↓aw_region, ↓aw_skip, ↓aw_seq, ↓aw_block, ↓aw_exit, ↓aw_ret, ↓sops_nil, ↓sops_go, ↓dops_nil, ↓dopsX_nil, ↓dopsR_nil, ↓vdn, vup, extr_20, extr_21, extr_30, extr_31, extr_32, List.map_cons, List.map_nil, cond_true, cond_false, aop, aThen, aBlock, argEnv, ev, sput, sputO, binK, binI, unK, builtinK, pickK, Nat.reduceBEq, Nat.reduceAdd, Int.reduceBEq, Int.reduceBNe, Int.reduceLT, aPost, resK, tup, tyf]
      refine hQ4 _ _ _ (hQ3 _ _ _ ?_)
      simp (maxSteps := 2000000) only [s51, ↓aw_region, ↓aw_skip, ↓aw_seq, ↓aw_block, ↓aw_exit, ↓aw_ret, ↓sops_nil, ↓sops_go, ↓dops_nil, ↓dopsX_nil, ↓dopsR_nil, ↓vdn, vup, extr_20, extr_21, extr_30, extr_31, extr_32, List.map_cons, List.map_nil, cond_true, cond_false, aop, aThen, aBlock, argEnv, ev, sput, sputO, binK, binI, unK, builtinK, pickK, Nat.reduceBEq, Nat.reduceAdd, Int.reduceBEq, Int.reduceBNe, Int.reduceLT, aPost, resK, tup, tyf, if_true]
      have hless : l2 < left := by
        rcases hor with ⟨he, hall⟩ | hl
        · obtain ⟨j, hj, hjt⟩ := tp_some hn rp.lt h0
          rw [hall j hj] at hjt; cases hjt
        · exact hl
      refine hQ2 _ _ _ ⟨(hq, w1, P2, l2), rq, hless, by simp (maxSteps := 2000000) only [↓aw_region, ↓aw_skip, ↓aw_seq, ↓aw_block, ↓aw_exit, ↓aw_ret, ↓sops_nil, ↓sops_go, ↓dops_nil, ↓dopsX_nil, ↓dopsR_nil, ↓vdn, vup, extr_20, extr_21, extr_30, extr_31, extr_32, List.map_cons, List.map_nil, cond_true, cond_false, aop, aThen, aBlock, argEnv, ev, sput, sputO, binK, binI, unK, builtinK, pickK, Nat.reduceBEq, Nat.reduceAdd, Int.reduceBEq, Int.reduceBNe, Int.reduceLT, aPost, resK, tup, tyf], rfl⟩
end Go.Proofs.Tryd.Am

namespace Go.Proofs.Tryd.Am
open Go.Am Rb Rch
set_option maxRecDepth 100000
set_option maxHeartbeats 1000000

theorem s82_callW [Tabs Tryd.prog] {args : List Value} {h : Heap} {Q : Value → Heap → Prop} (hsz : args.length ≤ 24) (hk : AWS Tryd.prog 24 s82 (aPost Tryd.prog [.tmp 4] Q) (argEnv 0 args) h) : ACall Tryd.prog 82 args h Q :=
  acall_w Tryd.func82 rfl (enters_of Tryd.func82 (by kernel_rfl) rfl) rfl rfl (by decide) s82_strip s82_ok hsz hk
theorem reach_call [BitTab prog 1] {h : Heap} {v : Value} {xs : List Int} {i : Nat} (hv : IntSl h v xs) (ht : trn xs = true) (hi : i < xs.length) : APure prog 82 [v, vint i] h (vint (rch xs i : Nat)) := by
  refine ACall.forget (Low.int _ _) ?_
  have hxl := trn_len ht
  have h256 := pow8N hxl.2
  have hnn : ∀ i : Nat, (0 : Int) ≤ (i : Int) := Int.natCast_nonneg
  have box55 : ∀ {K : Value → Heap → Prop}, boxK prog h 55 v K = K (newPtr h) (h ++ [.cells [v] 55 false]) := fun {K} => by
    rcases hv with ⟨rfl, _⟩ | ⟨b, o, sp, cap, c, e, ro, rfl, _⟩ <;> simp [boxK, cellsOf, esz_55]
  refine s82_callW (by simp) ?_
  simp only [s82]
  refine aws_cut fun N1 hN1 => ?_
  simp (maxSteps := 2000000) only [s82, ↓aw_region, ↓aw_skip, ↓aw_seq, ↓aw_block, ↓aw_exit, ↓aw_ret, ↓sops_nil, ↓sops_go, ↓dops_nil, ↓dopsX_nil, ↓dopsR_nil, ↓vdn, vup, extr_20, extr_21, extr_30, extr_31, extr_32, List.map_cons, List.map_nil, cond_true, cond_false, aop, aThen, aBlock, argEnv, ev, sput, sputO, binK, binI, unK, builtinK, pickK, Nat.reduceBEq, Nat.reduceAdd, Int.reduceBEq, Int.reduceBNe, Int.reduceLT, aPost, resK, tup, tyf, box55]
  refine hN1 [(0, v), (1, vint i), (2, .pointer (some ⟨h.length, 0, none⟩)), (4, .int .i64 0)] _ _ ?_ (by simp (maxSteps := 2000000) only [↓aw_region, ↓aw_skip, ↓aw_seq, ↓aw_block, ↓aw_exit, ↓aw_ret, ↓sops_nil, ↓sops_go, ↓dops_nil, ↓dopsX_nil, ↓dopsR_nil, ↓vdn, vup, extr_20, extr_21, extr_30, extr_31, extr_32, List.map_cons, List.map_nil, cond_true, cond_false, aop, aThen, aBlock, argEnv, ev, sput, sputO, binK, binI, unK, builtinK, pickK, Nat.reduceBEq, Nat.reduceAdd, Int.reduceBEq, Int.reduceBNe, Int.reduceLT, aPost, resK, tup, tyf])
  clear hN1
  try clear N1
  obtain ⟨H, hH⟩ : ∃ H, H = h ++ [Blk.cells [v] 55 false] := ⟨_, rfl⟩
  have hE0 : Ext (fun _ => False) h H := by rw [hH]; exact Ext.app _ _ _
  have b0 : H[h.length]? = some (.cells [v] 55 false) := by rw [hH]; exact get_new _ _
  have hHl : H.length = h.length + 1 := by rw [hH]; simp
  rw [← hH]
  clear hH
  have hvH := IntSl_ext hv hE0
  refine aws_cut fun N2 hN2 => ?_
  simp (maxSteps := 2000000) only [s82, ↓aw_region, ↓aw_skip, ↓aw_seq, ↓aw_block, ↓aw_exit, ↓aw_ret, ↓sops_nil, ↓sops_go, ↓dops_nil, ↓dopsX_nil, ↓dopsR_nil, ↓vdn, vup, extr_20, extr_21, extr_30, extr_31, extr_32, List.map_cons, List.map_nil, cond_true, cond_false, aop, aThen, aBlock, argEnv, ev, sput, sputO, binK, binI, unK, builtinK, pickK, Nat.reduceBEq, Nat.reduceAdd, Int.reduceBEq, Int.reduceBNe, Int.reduceLT, aPost, resK, tup, tyf, hnn, shlI1 (show i ≤ 62 by omega), allocK, newPtr, zero_3]
  rw [storeI (v := .int .i64 0) (e := 3) (get_new _ _) shp_3]
  obtain ⟨G, hG⟩ : ∃ G, G = (H ++ [Blk.cells [Value.int .i64 0] 3 false]).set H.length (Blk.cells [vint ((2 ^ i : Nat) : Int)] 3 false) := ⟨_, rfl⟩
  have hE1 : Ext (fun _ => False) H G := ⟨by rw [hG]; simp, fun j hj _ => by rw [hG, List.getElem?_set_ne (by omega), List.getElem?_append_left hj]⟩
  have b1 : G[H.length]? = some (.cells [vint ((2 ^ i : Nat) : Int)] 3 false) := by rw [hG]; exact get_set (by simp) _
  rw [← hG]
  clear hG
  refine hN2 [(0, v), (1, vint i), (2, .pointer (some ⟨h.length, 0, none⟩)), (4, .int .i64 0), (5, .pointer (some ⟨H.length, 0, none⟩))] _ _ ?_ (by simp (maxSteps := 2000000) only [↓aw_region, ↓aw_skip, ↓aw_seq, ↓aw_block, ↓aw_exit, ↓aw_ret, ↓sops_nil, ↓sops_go, ↓dops_nil, ↓dopsX_nil, ↓dopsR_nil, ↓vdn, vup, extr_20, extr_21, extr_30, extr_31, extr_32, List.map_cons, List.map_nil, cond_true, cond_false, aop, aThen, aBlock, argEnv, ev, sput, sputO, binK, binI, unK, builtinK, pickK, Nat.reduceBEq, Nat.reduceAdd, Int.reduceBEq, Int.reduceBNe, Int.reduceLT, aPost, resK, tup, tyf])
  clear hN2
  try clear N2
  have b0G := (hE1.2 _ (get_lt b0) id).trans b0
  have hvG := IntSl_ext hvH hE1
  have hEG := hE0.trans hE1
  generalize hbs : H.length = bs at *
  refine aws_cut fun Z hZ => ?_
  simp (maxSteps := 2000000) only [s82, ↓aw_region, ↓aw_skip, ↓aw_seq, ↓aw_block, ↓aw_exit, ↓aw_ret, ↓sops_nil, ↓sops_go, ↓dops_nil, ↓dopsX_nil, ↓dopsR_nil, ↓vdn, vup, extr_20, extr_21, extr_30, extr_31, extr_32, List.map_cons, List.map_nil, cond_true, cond_false, aop, aThen, aBlock, argEnv, ev, sput, sputO, binK, binI, unK, builtinK, pickK, Nat.reduceBEq, Nat.reduceAdd, Int.reduceBEq, Int.reduceBNe, Int.reduceLT, aPost, resK, tup, tyf, load1 b0G shp_55, hvG.len, ↓aw_loop_eq]
  refine aws_hide fun Q hQ => ?_
  refine aw_loop (γ := Nat × Heap) (fun s => s.1 ≤ xs.length ∧ Ext (fun _ => False) h s.2 ∧ s.2[h.length]? = some (.cells [v] 55 false) ∧ s.2[bs]? = some (.cells [vint (pR xs i s.1 : Nat)] 3 false))
    (fun s => ([(0, v), (1, vint i), (2, .pointer (some ⟨h.length, 0, none⟩)), (4, .int .i64 0), (5, .pointer (some ⟨bs, 0, none⟩)), (9, v), (10, vint xs.length), (11, vint s.1)], s.2)) (fun s => xs.length - s.1) (0, G) ⟨Nat.zero_le _, hEG, b0G, by rw [pR]; exact b1⟩ (by simp (maxSteps := 2000000) only [↓aw_region, ↓aw_skip, ↓aw_seq, ↓aw_block, ↓aw_exit, ↓aw_ret, ↓sops_nil, ↓sops_go, ↓dops_nil, ↓dopsX_nil, ↓dopsR_nil, ↓vdn, vup, extr_20, extr_21, extr_30, extr_31, extr_32, List.map_cons, List.map_nil, cond_true, cond_false, aop, aThen, aBlock, argEnv, ev, sput, sputO, binK, binI, unK, builtinK, pickK, Nat.reduceBEq, Nat.reduceAdd, Int.reduceBEq, Int.reduceBNe, Int.reduceLT, aPost, resK, tup, tyf, Int.natCast_zero]) rfl ?_
  clear b0G b1 hvG hEG hE1 hE0 b0 hvH
  rintro ⟨k, hp⟩ ⟨hk, hE, bp, bS⟩
  simp only at hk hE bp bS
  refine aw_hide fun Q2 hQ2 => ?_
  have hvp := IntSl_ext hv hE
  by_cases hkn : (k : Int) < xs.length
  · have hlt := pR_lt ht hi k
    simp (maxSteps := 2000000) only [s82, ↓aw_region, ↓aw_skip, ↓aw_seq, ↓aw_block, ↓aw_exit, ↓aw_ret, ↓sops_nil, ↓sops_go, ↓dops_nil, ↓dopsX_nil, ↓dopsR_nil, ↓vdn, vup, extr_20, extr_21, extr_30, extr_31, extr_32, List.map_cons, List.map_nil, cond_true, cond_false, aop, aThen, aBlock, argEnv, ev, sput, sputO, binK, binI, unK, builtinK, pickK, Nat.reduceBEq, Nat.reduceAdd, Int.reduceBEq, Int.reduceBNe, Int.reduceLT, aPost, resK, tup, tyf, l82_1, hkn, load1 bS shp_3, callK, List.nil_append, List.append_nil, List.toList_toArray, List.cons_append]
    refine players_call.mono ?_
    rintro v' h3 ⟨rfl, rfl⟩
    have hbl := get_lt bS
    have hpl := get_lt bp
    have hEl := hE.1
    refine aw_range bitIter (bx := hp.length) (s := pR xs i k) (et := 3) rfl (get_new _ _) (by omega) (fun pre hk => Ext (fun _ => False) h hk ∧ hk[h.length]? = some (.cells [v] 55 false) ∧ hk[bs]? = some (.cells [vint ((pre.foldl (fun r j => r ||| tN xs j) (pR xs i k) : Nat) : Int)] 3 false)) ⟨?_, ?_, ?_⟩ ?_ ?_
    · refine hE.trans ⟨by simp, fun j hj _ => ?_⟩
      rw [List.getElem?_set_ne (by omega), List.getElem?_append_left hj]
    · rw [List.getElem?_set_ne (by omega)]; exact get_old bp _
    · rw [List.getElem?_set_ne (by omega)]; exact get_old bS _
    · rintro pre j hk2 hpre ⟨hE2, bp2, bS2⟩
      obtain ⟨hj64, hjb⟩ := mem_bits.1 (mem_pre hpre)
      have hjn : j < xs.length := bit_in ht hlt hjb
      obtain ⟨hY, hYl⟩ := trn_nat ht hjn
      have hvk := IntSl_ext hv hE2
      have hlt2 : pre.foldl (fun r j => r ||| tN xs j) (pR xs i k) < 2 ^ xs.length := orf_lt ht (fun m hm => bit_in ht hlt (mem_bits.1 (hpre.subset (by simp [hm]))).2) hlt
      generalize hr : pre.foldl (fun r j => r ||| tN xs j) (pR xs i k) = r at bS2 hlt2
      have hor2 : bitsV .or .i64 (r : Int) (xs.getD j 0) = ((r ||| tN xs j : Nat) : Int) := by
        have := bitsV_or (a := r) (b := tN xs j) (by omega) (by rw [tN]; omega)
        rw [tN] at this ⊢
        rw [← hY] at this; exact this
      simp (maxSteps := 2000000) only [s82, ↓aw_region, ↓aw_skip, ↓aw_seq, ↓aw_block, ↓aw_exit, ↓aw_ret, ↓sops_nil, ↓sops_go, ↓dops_nil, ↓dopsX_nil, ↓dopsR_nil, ↓vdn, vup, extr_20, extr_21, extr_30, extr_31, extr_32, List.map_cons, List.map_nil, cond_true, cond_false, aop, aThen, aBlock, argEnv, ev, sput, sputO, binK, binI, unK, builtinK, pickK, Nat.reduceBEq, Nat.reduceAdd, Int.reduceBEq, Int.reduceBNe, Int.reduceLT, aPost, resK, tup, tyf, r82_0_a, r82_0_b]
      refine aw_drawX [] (by kernel_rfl) (by kernel_rfl) (by kernel_rfl) (by kernel_rfl) ?_
      simp (maxSteps := 2000000) only [s82, ↓aw_region, ↓aw_skip, ↓aw_seq, ↓aw_block, ↓aw_exit, ↓aw_ret, ↓sops_nil, ↓sops_go, ↓dops_nil, ↓dopsX_nil, ↓dopsR_nil, ↓vdn, vup, extr_20, extr_21, extr_30, extr_31, extr_32, List.map_cons, List.map_nil, cond_true, cond_false, aop, aThen, aBlock, argEnv, ev, sput, sputO, binK, binI, unK, builtinK, pickK, Nat.reduceBEq, Nat.reduceAdd, Int.reduceBEq, Int.reduceBNe, Int.reduceLT, aPost, resK, tup, tyf, load1 bS2 shp_3, load1 bp2 shp_55, hvk.idx el_55 esz_3 hjn, hvk.load shp_3 hjn, hor2, storeI bS2 shp_3]
      have hbl2 := get_lt bS2
      refine ⟨?_, ?_, ?_⟩
      · exact hE2.set_ge (by omega) _
      · rw [List.getElem?_set_ne (by omega)]; exact bp2
      · rw [get_set (get_lt bS2), List.foldl_append, hr]; rfl
    · rintro hk2 ⟨hE2, bp2, bS2⟩
      simp (maxSteps := 2000000) only [s82, ↓aw_region, ↓aw_skip, ↓aw_seq, ↓aw_block, ↓aw_exit, ↓aw_ret, ↓sops_nil, ↓sops_go, ↓dops_nil, ↓dopsX_nil, ↓dopsR_nil, ↓vdn, vup, extr_20, extr_21, extr_30, extr_31, extr_32, List.map_cons, List.map_nil, cond_true, cond_false, aop, aThen, aBlock, argEnv, ev, sput, sputO, binK, binI, unK, builtinK, pickK, Nat.reduceBEq, Nat.reduceAdd, Int.reduceBEq, Int.reduceBNe, Int.reduceLT, aPost, resK, tup, tyf, add1 (show k < 9223372036854775807 by omega)]
      exact hQ2 _ _ _ ⟨(k + 1, hk2), ⟨by simp only; omega, hE2, bp2, bS2⟩, by simp only; omega, by simp (maxSteps := 2000000) only [↓aw_region, ↓aw_skip, ↓aw_seq, ↓aw_block, ↓aw_exit, ↓aw_ret, ↓sops_nil, ↓sops_go, ↓dops_nil, ↓dopsX_nil, ↓dopsR_nil, ↓vdn, vup, extr_20, extr_21, extr_30, extr_31, extr_32, List.map_cons, List.map_nil, cond_true, cond_false, aop, aThen, aBlock, argEnv, ev, sput, sputO, binK, binI, unK, builtinK, pickK, Nat.reduceBEq, Nat.reduceAdd, Int.reduceBEq, Int.reduceBNe, Int.reduceLT, aPost, resK, tup, tyf], rfl⟩
  · obtain rfl : k = xs.length := by omega
    simp (maxSteps := 2000000) only [s82, ↓aw_region, ↓aw_skip, ↓aw_seq, ↓aw_block, ↓aw_exit, ↓aw_ret, ↓sops_nil, ↓sops_go, ↓dops_nil, ↓dopsX_nil, ↓dopsR_nil, ↓vdn, vup, extr_20, extr_21, extr_30, extr_31, extr_32, List.map_cons, List.map_nil, cond_true, cond_false, aop, aThen, aBlock, argEnv, ev, sput, sputO, binK, binI, unK, builtinK, pickK, Nat.reduceBEq, Nat.reduceAdd, Int.reduceBEq, Int.reduceBNe, Int.reduceLT, aPost, resK, tup, tyf, l82_1, Int.lt_irrefl]
    refine hQ2 _ _ _ (hQ _ _ _ ?_)
    simp (maxSteps := 2000000) only [s82, ↓aw_region, ↓aw_skip, ↓aw_seq, ↓aw_block, ↓aw_exit, ↓aw_ret, ↓sops_nil, ↓sops_go, ↓dops_nil, ↓dopsX_nil, ↓dopsR_nil, ↓vdn, vup, extr_20, extr_21, extr_30, extr_31, extr_32, List.map_cons, List.map_nil, cond_true, cond_false, aop, aThen, aBlock, argEnv, ev, sput, sputO, binK, binI, unK, builtinK, pickK, Nat.reduceBEq, Nat.reduceAdd, Int.reduceBEq, Int.reduceBNe, Int.reduceLT, aPost, resK, tup, tyf, if_true]
    refine hZ [(0, v), (1, vint i), (2, .pointer (some ⟨h.length, 0, none⟩)), (4, .int .i64 0), (5, .pointer (some ⟨bs, 0, none⟩))] _ _ ?_ (by simp (maxSteps := 2000000) only [↓aw_region, ↓aw_skip, ↓aw_seq, ↓aw_block, ↓aw_exit, ↓aw_ret, ↓sops_nil, ↓sops_go, ↓dops_nil, ↓dopsX_nil, ↓dopsR_nil, ↓vdn, vup, extr_20, extr_21, extr_30, extr_31, extr_32, List.map_cons, List.map_nil, cond_true, cond_false, aop, aThen, aBlock, argEnv, ev, sput, sputO, binK, binI, unK, builtinK, pickK, Nat.reduceBEq, Nat.reduceAdd, Int.reduceBEq, Int.reduceBNe, Int.reduceLT, aPost, resK, tup, tyf])
    clear hZ
    try clear Z
    refine aw_aws ?_
    simp (maxSteps := 2000000) only [s82, ↓aw_region, ↓aw_skip, ↓aw_seq, ↓aw_block, ↓aw_exit, ↓aw_ret, ↓sops_nil, ↓sops_go, ↓dops_nil, ↓dopsX_nil, ↓dopsR_nil, ↓vdn, vup, extr_20, extr_21, extr_30, extr_31, extr_32, List.map_cons, List.map_nil, cond_true, cond_false, aop, aThen, aBlock, argEnv, ev, sput, sputO, binK, binI, unK, builtinK, pickK, Nat.reduceBEq, Nat.reduceAdd, Int.reduceBEq, Int.reduceBNe, Int.reduceLT, aPost, resK, tup, tyf, load1 bS shp_3]
    exact ⟨rfl, hE⟩
end Go.Proofs.Tryd.Am

namespace Go.Proofs.Tryd.Am
open Go.Am Rb
set_option maxRecDepth 100000
set_option maxHeartbeats 1000000

theorem s120_callW [Tabs Tryd.prog] {args : List Value} {h : Heap} {Q : Value → Heap → Prop} (hsz : args.length ≤ 53) (hk : AWS Tryd.prog 53 s120 (aPost Tryd.prog [] Q) (argEnv 0 args) h) : ACall Tryd.prog 120 args h Q :=
  acall_w Tryd.func120 rfl (enters_of Tryd.func120 (by kernel_rfl) rfl) rfl rfl (by decide) s120_strip s120_ok hsz hk
theorem isortF_call [Tabs prog] {h : Heap} {b : Nat} {L0 : List Nat} {ys : List Int} {g : FuncId} {cap : Array Value} {key : Nat → Int} (hk : ∀ x ∈ L0, -1000 ≤ key x ∧ key x ≤ 1000) (hc : ∀ L x y, x ∈ L0 → y ∈ L0 → APure prog g ([vint x, vint y] ++ cap.toList) (h.set b (.ints (iL L ++ ys) 3 false)) (vint (key x - key y))) (hb : h[b]? = some (.ints (iL L0 ++ ys) 3 false)) (hl : L0.length ≤ 12) (hx : ∀ x ∈ L0, x < 4611686018427387904) :
    ACall prog 120 [ov b L0.length ys.length, .int .i64 0, vint L0.length, .func (.func g) #[] cap] h fun _ h' => ∃ L : List Nat, L.Perm L0 ∧ L.Pairwise (fun a b => key a ≤ key b) ∧ h' = h.set b (.ints (iL L ++ ys) 3 false) := by
  have hlt := get_lt hb
  have h0 : h = h.set b (.ints (iL L0 ++ ys) 3 false) := by
    apply List.ext_getElem?
    intro i
    by_cases hi : b = i
    · subst hi; rw [get_set hlt, hb]
    · rw [List.getElem?_set_ne hi]
  obtain ⟨n, hn⟩ : ∃ n, L0.length = n := ⟨_, rfl⟩
  rw [hn] at hl ⊢
  have hrange : ∀ {L : List Nat}, L.Perm L0 → ∀ i, L.getD i 0 < 4611686018427387904 := fun {L} hp i => by
    by_cases hi : i < L.length
    · rw [List.getD, List.getElem?_eq_getElem hi]; exact hx _ (hp.mem_iff.1 (List.getElem_mem hi))
    · rw [List.getD, List.getElem?_eq_none (by omega)]; decide
  refine s120_callW (by simp) ?_
  simp only [s120]
  have e01 : addV .i64 0 1 = 1 := rfl
  refine aws_cut fun N1 hN1 => ?_
  simp (maxSteps := 2000000) only [s120, ↓aw_region, ↓aw_skip, ↓aw_seq, ↓aw_block, ↓aw_exit, ↓aw_ret, ↓sops_nil, ↓sops_go, ↓dops_nil, ↓dopsX_nil, ↓dopsR_nil, ↓vdn, vup, extr_20, extr_21, extr_30, extr_31, extr_32, List.map_cons, List.map_nil, cond_true, cond_false, aop, aThen, aBlock, argEnv, ev, sput, sputO, binK, binI, unK, builtinK, pickK, Nat.reduceBEq, Nat.reduceAdd, Int.reduceBEq, Int.reduceBNe, Int.reduceLT, aPost, resK, tup, tyf, e01]
  refine hN1 [(0, ov b n ys.length), (1, .int .i64 0), (2, vint n), (3, .func (.func g) #[] cap), (8, .int .i64 1)] _ _ ?_ (by simp (maxSteps := 2000000) only [↓aw_region, ↓aw_skip, ↓aw_seq, ↓aw_block, ↓aw_exit, ↓aw_ret, ↓sops_nil, ↓sops_go, ↓dops_nil, ↓dopsX_nil, ↓dopsR_nil, ↓vdn, vup, extr_20, extr_21, extr_30, extr_31, extr_32, List.map_cons, List.map_nil, cond_true, cond_false, aop, aThen, aBlock, argEnv, ev, sput, sputO, binK, binI, unK, builtinK, pickK, Nat.reduceBEq, Nat.reduceAdd, Int.reduceBEq, Int.reduceBNe, Int.reduceLT, aPost, resK, tup, tyf])
  clear hN1
  try clear N1
  refine aws_block ?_
  refine aws_hide fun Q hQ => ?_
  refine aw_loopW (γ := Nat × List Nat) (fun s => 1 ≤ s.1 ∧ (s.1 ≤ n ∨ s.1 = 1) ∧ s.2.Perm L0 ∧ SrtTo key s.2 s.1)
    (fun s => ([(0, ov b n ys.length), (1, .int .i64 0), (2, vint n), (3, .func (.func g) #[] cap), (8, vint s.1)], h.set b (.ints (iL s.2 ++ ys) 3 false))) (fun s => n - s.1) (1, L0) ⟨Nat.le_refl _, .inr rfl, .refl _, fun p q _ _ => by omega⟩ (by simp (maxSteps := 2000000) only [↓aw_region, ↓aw_skip, ↓aw_seq, ↓aw_block, ↓aw_exit, ↓aw_ret, ↓sops_nil, ↓sops_go, ↓dops_nil, ↓dopsX_nil, ↓dopsR_nil, ↓vdn, vup, extr_20, extr_21, extr_30, extr_31, extr_32, List.map_cons, List.map_nil, cond_true, cond_false, aop, aThen, aBlock, argEnv, ev, sput, sputO, binK, binI, unK, builtinK, pickK, Nat.reduceBEq, Nat.reduceAdd, Int.reduceBEq, Int.reduceBNe, Int.reduceLT, aPost, resK, tup, tyf, Int.natCast_one]) h0 ?_
  rintro ⟨i, L⟩ ⟨hi1, hi, hp, hs⟩
  simp only at hi1 hi hp hs
  have hLn : L.length = n := hp.length_eq.trans hn
  refine aws_hide fun Q2 hQ2 => ?_
  simp only [l120_1]
  by_cases hin : (i : Int) < n
  · have hi' : i < n := by omega
    refine aws_cut fun N2 hN2 => ?_
    simp (maxSteps := 2000000) only [s120, ↓aw_region, ↓aw_skip, ↓aw_seq, ↓aw_block, ↓aw_exit, ↓aw_ret, ↓sops_nil, ↓sops_go, ↓dops_nil, ↓dopsX_nil, ↓dopsR_nil, ↓vdn, vup, extr_20, extr_21, extr_30, extr_31, extr_32, List.map_cons, List.map_nil, cond_true, cond_false, aop, aThen, aBlock, argEnv, ev, sput, sputO, binK, binI, unK, builtinK, pickK, Nat.reduceBEq, Nat.reduceAdd, Int.reduceBEq, Int.reduceBNe, Int.reduceLT, aPost, resK, tup, tyf, hin]
    refine hN2 [(0, ov b n ys.length), (1, .int .i64 0), (2, vint n), (3, .func (.func g) #[] cap), (8, vint i)] _ _ ?_ (by simp (maxSteps := 2000000) only [↓aw_region, ↓aw_skip, ↓aw_seq, ↓aw_block, ↓aw_exit, ↓aw_ret, ↓sops_nil, ↓sops_go, ↓dops_nil, ↓dopsX_nil, ↓dopsR_nil, ↓vdn, vup, extr_20, extr_21, extr_30, extr_31, extr_32, List.map_cons, List.map_nil, cond_true, cond_false, aop, aThen, aBlock, argEnv, ev, sput, sputO, binK, binI, unK, builtinK, pickK, Nat.reduceBEq, Nat.reduceAdd, Int.reduceBEq, Int.reduceBNe, Int.reduceLT, aPost, resK, tup, tyf])
    clear hN2
    try clear N2
    refine aws_cutW fun M hM => ?_
    refine aws_block ?_
    refine aws_cut fun N3 hN3 => ?_
    simp (maxSteps := 2000000) only [s120, ↓aw_region, ↓aw_skip, ↓aw_seq, ↓aw_block, ↓aw_exit, ↓aw_ret, ↓sops_nil, ↓sops_go, ↓dops_nil, ↓dopsX_nil, ↓dopsR_nil, ↓vdn, vup, extr_20, extr_21, extr_30, extr_31, extr_32, List.map_cons, List.map_nil, cond_true, cond_false, aop, aThen, aBlock, argEnv, ev, sput, sputO, binK, binI, unK, builtinK, pickK, Nat.reduceBEq, Nat.reduceAdd, Int.reduceBEq, Int.reduceBNe, Int.reduceLT, aPost, resK, tup, tyf]
    refine hN3 [(0, ov b n ys.length), (1, .int .i64 0), (2, vint n), (3, .func (.func g) #[] cap), (8, vint i), (9, vint i)] _ _ ?_ (by simp (maxSteps := 2000000) only [↓aw_region, ↓aw_skip, ↓aw_seq, ↓aw_block, ↓aw_exit, ↓aw_ret, ↓sops_nil, ↓sops_go, ↓dops_nil, ↓dopsX_nil, ↓dopsR_nil, ↓vdn, vup, extr_20, extr_21, extr_30, extr_31, extr_32, List.map_cons, List.map_nil, cond_true, cond_false, aop, aThen, aBlock, argEnv, ev, sput, sputO, binK, binI, unK, builtinK, pickK, Nat.reduceBEq, Nat.reduceAdd, Int.reduceBEq, Int.reduceBNe, Int.reduceLT, aPost, resK, tup, tyf])
    clear hN3
    try clear N3
    refine aws_block ?_
    refine aws_hide fun Q3 hQ3 => ?_
    refine aw_loopW (γ := Nat × List Nat) (fun s => s.1 ≤ i ∧ s.2.Perm L0 ∧ SrtBut key s.2 i s.1)
      (fun s => ([(0, ov b n ys.length), (1, .int .i64 0), (2, vint n), (3, .func (.func g) #[] cap), (8, vint i), (9, vint s.1)], h.set b (.ints (iL s.2 ++ ys) 3 false))) (fun s => s.1) (i, L) ⟨Nat.le_refl _, hp, fun p q h1 h2 h3 => hs p q h1 (by omega)⟩ (by simp (maxSteps := 2000000) only [↓aw_region, ↓aw_skip, ↓aw_seq, ↓aw_block, ↓aw_exit, ↓aw_ret, ↓sops_nil, ↓sops_go, ↓dops_nil, ↓dopsX_nil, ↓dopsR_nil, ↓vdn, vup, extr_20, extr_21, extr_30, extr_31, extr_32, List.map_cons, List.map_nil, cond_true, cond_false, aop, aThen, aBlock, argEnv, ev, sput, sputO, binK, binI, unK, builtinK, pickK, Nat.reduceBEq, Nat.reduceAdd, Int.reduceBEq, Int.reduceBNe, Int.reduceLT, aPost, resK, tup, tyf]) rfl ?_
    clear hp hs hLn
    rintro ⟨j, L⟩ ⟨hj, hp, hs⟩
    simp only at hj hp hs
    have hLn : L.length = n := hp.length_eq.trans hn
    have own := ov_own (h := h) (b := b) (n := n) (L := L) (ys := ys) hlt hLn
    refine aws_hide fun Q4 hQ4 => ?_
    simp only [l120_0]
    have fin : (j = 0 ∨ key (L.getD (j - 1) 0) ≤ key (L.getD j 0)) → ∀ e, ELe e [(0, ov b n ys.length), (1, .int .i64 0), (2, vint n), (3, .func (.func g) #[] cap), (8, vint i)] → M e (h.set b (.ints (iL L ++ ys) 3 false)) := by
      intro hd e he
      refine hM [(0, ov b n ys.length), (1, .int .i64 0), (2, vint n), (3, .func (.func g) #[] cap), (8, vint i)] _ _ ?_ he
      refine aw_aws ?_
      simp (maxSteps := 2000000) only [s120, ↓aw_region, ↓aw_skip, ↓aw_seq, ↓aw_block, ↓aw_exit, ↓aw_ret, ↓sops_nil, ↓sops_go, ↓dops_nil, ↓dopsX_nil, ↓dopsR_nil, ↓vdn, vup, extr_20, extr_21, extr_30, extr_31, extr_32, List.map_cons, List.map_nil, cond_true, cond_false, aop, aThen, aBlock, argEnv, ev, sput, sputO, binK, binI, unK, builtinK, pickK, Nat.reduceBEq, Nat.reduceAdd, Int.reduceBEq, Int.reduceBNe, Int.reduceLT, aPost, resK, tup, tyf, add1 (show i < 9223372036854775807 by omega)]
      exact hQ2 _ _ _ ⟨(i + 1, L), ⟨by simp only; omega, .inl (by simp only; omega), hp, hs.done hd⟩, by simp only; omega, by simp (maxSteps := 2000000) only [↓aw_region, ↓aw_skip, ↓aw_seq, ↓aw_block, ↓aw_exit, ↓aw_ret, ↓sops_nil, ↓sops_go, ↓dops_nil, ↓dopsX_nil, ↓dopsR_nil, ↓vdn, vup, extr_20, extr_21, extr_30, extr_31, extr_32, List.map_cons, List.map_nil, cond_true, cond_false, aop, aThen, aBlock, argEnv, ev, sput, sputO, binK, binI, unK, builtinK, pickK, Nat.reduceBEq, Nat.reduceAdd, Int.reduceBEq, Int.reduceBNe, Int.reduceLT, aPost, resK, tup, tyf], rfl⟩
    by_cases hj0 : j = 0
    · subst hj0
      refine aws_cut fun N4 hN4 => ?_
      simp (maxSteps := 2000000) only [s120, ↓aw_region, ↓aw_skip, ↓aw_seq, ↓aw_block, ↓aw_exit, ↓aw_ret, ↓sops_nil, ↓sops_go, ↓dops_nil, ↓dopsX_nil, ↓dopsR_nil, ↓vdn, vup, extr_20, extr_21, extr_30, extr_31, extr_32, List.map_cons, List.map_nil, cond_true, cond_false, aop, aThen, aBlock, argEnv, ev, sput, sputO, binK, binI, unK, builtinK, pickK, Nat.reduceBEq, Nat.reduceAdd, Int.reduceBEq, Int.reduceBNe, Int.reduceLT, aPost, resK, tup, tyf]
      refine aw_drawX [(14, 1)] (by kernel_rfl) (by kernel_rfl) (by kernel_rfl) (by kernel_rfl) ?_
      simp (maxSteps := 2000000) only [s120, ↓aw_region, ↓aw_skip, ↓aw_seq, ↓aw_block, ↓aw_exit, ↓aw_ret, ↓sops_nil, ↓sops_go, ↓dops_nil, ↓dopsX_nil, ↓dopsR_nil, ↓vdn, vup, extr_20, extr_21, extr_30, extr_31, extr_32, List.map_cons, List.map_nil, cond_true, cond_false, aop, aThen, aBlock, argEnv, ev, sput, sputO, binK, binI, unK, builtinK, pickK, Nat.reduceBEq, Nat.reduceAdd, Int.reduceBEq, Int.reduceBNe, Int.reduceLT, aPost, resK, tup, tyf, gt_iff_lt, Int.natCast_zero, Int.lt_irrefl]
      refine hQ4 _ _ _ (hQ3 _ _ _ ?_)
      simp (maxSteps := 2000000) only [s120, ↓aw_region, ↓aw_skip, ↓aw_seq, ↓aw_block, ↓aw_exit, ↓aw_ret, ↓sops_nil, ↓sops_go, ↓dops_nil, ↓dopsX_nil, ↓dopsR_nil, ↓vdn, vup, extr_20, extr_21, extr_30, extr_31, extr_32, List.map_cons, List.map_nil, cond_true, cond_false, aop, aThen, aBlock, argEnv, ev, sput, sputO, binK, binI, unK, builtinK, pickK, Nat.reduceBEq, Nat.reduceAdd, Int.reduceBEq, Int.reduceBNe, Int.reduceLT, aPost, resK, tup, tyf, if_true]
      exact fin (.inl rfl) _ (by simp (maxSteps := 2000000) only [↓aw_region, ↓aw_skip, ↓aw_seq, ↓aw_block, ↓aw_exit, ↓aw_ret, ↓sops_nil, ↓sops_go, ↓dops_nil, ↓dopsX_nil, ↓dopsR_nil, ↓vdn, vup, extr_20, extr_21, extr_30, extr_31, extr_32, List.map_cons, List.map_nil, cond_true, cond_false, aop, aThen, aBlock, argEnv, ev, sput, sputO, binK, binI, unK, builtinK, pickK, Nat.reduceBEq, Nat.reduceAdd, Int.reduceBEq, Int.reduceBNe, Int.reduceLT, aPost, resK, tup, tyf])
    · have hjp : (0 : Int) < (j : Int) := by omega
      have hjn : j < (iL L).length := by rw [iL_len]; omega
      have hj1n : j - 1 < (iL L).length := by omega
      have hin1 : ∀ i, i < n → L.getD i 0 ∈ L0 := fun i hi => hp.mem_iff.1 (by rw [List.getD, List.getElem?_eq_getElem (by omega), Option.getD_some]; exact List.getElem_mem _)
      have c1 := hc L _ _ (hin1 j (by omega)) (hin1 (j - 1) (by omega))
      have hk1 := hk _ (hin1 j (by omega))
      have hk2 := hk _ (hin1 (j - 1) (by omega))
      have hsub := subN1 (show 1 ≤ j by omega) (show j < 9223372036854775808 by omega)
      by_cases hlt2 : key (L.getD j 0) < key (L.getD (j - 1) 0)
      · have hneg : key (L.getD j 0) - key (L.getD (j - 1) 0) < 0 := by omega
        refine aws_cut fun N5 hN5 => ?_
        simp (maxSteps := 2000000) only [s120, ↓aw_region, ↓aw_skip, ↓aw_seq, ↓aw_block, ↓aw_exit, ↓aw_ret, ↓sops_nil, ↓sops_go, ↓dops_nil, ↓dopsX_nil, ↓dopsR_nil, ↓vdn, vup, extr_20, extr_21, extr_30, extr_31, extr_32, List.map_cons, List.map_nil, cond_true, cond_false, aop, aThen, aBlock, argEnv, ev, sput, sputO, binK, binI, unK, builtinK, pickK, Nat.reduceBEq, Nat.reduceAdd, Int.reduceBEq, Int.reduceBNe, Int.reduceLT, aPost, resK, tup, tyf]
        refine aw_drawX [(14, 1)] (by kernel_rfl) (by kernel_rfl) (by kernel_rfl) (by kernel_rfl) ?_
        simp (maxSteps := 2000000) only [s120, ↓aw_region, ↓aw_skip, ↓aw_seq, ↓aw_block, ↓aw_exit, ↓aw_ret, ↓sops_nil, ↓sops_go, ↓dops_nil, ↓dopsX_nil, ↓dopsR_nil, ↓vdn, vup, extr_20, extr_21, extr_30, extr_31, extr_32, List.map_cons, List.map_nil, cond_true, cond_false, aop, aThen, aBlock, argEnv, ev, sput, sputO, binK, binI, unK, builtinK, pickK, Nat.reduceBEq, Nat.reduceAdd, Int.reduceBEq, Int.reduceBNe, Int.reduceLT, aPost, resK, tup, tyf, gt_iff_lt, hjp, hsub, own.int.idx el_22 esz_3 hjn, own.int.load shp_3 hjn, own.int.idx el_22 esz_3 hj1n, own.int.load shp_3 hj1n, iL_get, callK, List.nil_append, List.append_nil, List.toList_toArray, List.cons_append]
        refine ⟨_, _, c1, rfl, ?_⟩
        simp (maxSteps := 2000000) only [s120, ↓aw_region, ↓aw_skip, ↓aw_seq, ↓aw_block, ↓aw_exit, ↓aw_ret, ↓sops_nil, ↓sops_go, ↓dops_nil, ↓dopsX_nil, ↓dopsR_nil, ↓vdn, vup, extr_20, extr_21, extr_30, extr_31, extr_32, List.map_cons, List.map_nil, cond_true, cond_false, aop, aThen, aBlock, argEnv, ev, sput, sputO, binK, binI, unK, builtinK, pickK, Nat.reduceBEq, Nat.reduceAdd, Int.reduceBEq, Int.reduceBNe, Int.reduceLT, aPost, resK, tup, tyf, hneg, decide_true, decide_false]
        refine hN5 [(0, ov b n ys.length), (1, .int .i64 0), (2, vint n), (3, .func (.func g) #[] cap), (8, vint i), (9, vint j)] _ _ ?_ (by simp (maxSteps := 2000000) only [↓aw_region, ↓aw_skip, ↓aw_seq, ↓aw_block, ↓aw_exit, ↓aw_ret, ↓sops_nil, ↓sops_go, ↓dops_nil, ↓dopsX_nil, ↓dopsR_nil, ↓vdn, vup, extr_20, extr_21, extr_30, extr_31, extr_32, List.map_cons, List.map_nil, cond_true, cond_false, aop, aThen, aBlock, argEnv, ev, sput, sputO, binK, binI, unK, builtinK, pickK, Nat.reduceBEq, Nat.reduceAdd, Int.reduceBEq, Int.reduceBNe, Int.reduceLT, aPost, resK, tup, tyf])
        clear hN5
        try clear N5
        refine aw_aws ?_
        simp (maxSteps := 2000000) only [s120, ↓aw_region, ↓aw_skip, ↓aw_seq, ↓aw_block, ↓aw_exit, ↓aw_ret, ↓sops_nil, ↓sops_go, ↓dops_nil, ↓dopsX_nil, ↓dopsR_nil, ↓vdn, vup, extr_20, extr_21, extr_30, extr_31, extr_32, List.map_cons, List.map_nil, cond_true, cond_false, aop, aThen, aBlock, argEnv, ev, sput, sputO, binK, binI, unK, builtinK, pickK, Nat.reduceBEq, Nat.reduceAdd, Int.reduceBEq, Int.reduceBNe, Int.reduceLT, aPost, resK, tup, tyf]
        refine aw_drawX [] (by kernel_rfl) (by kernel_rfl) (by kernel_rfl) (by kernel_rfl) ?_
        have hjL : j < L.length := by omega
        simp (maxSteps := 2000000) only [s120, ↓aw_region, ↓aw_skip, ↓aw_seq, ↓aw_block, ↓aw_exit, ↓aw_ret, ↓sops_nil, ↓sops_go, ↓dops_nil, ↓dopsX_nil, ↓dopsR_nil, ↓vdn, vup, extr_20, extr_21, extr_30, extr_31, extr_32, List.map_cons, List.map_nil, cond_true, cond_false, aop, aThen, aBlock, argEnv, ev, sput, sputO, binK, binI, unK, builtinK, pickK, Nat.reduceBEq, Nat.reduceAdd, Int.reduceBEq, Int.reduceBNe, Int.reduceLT, aPost, resK, tup, tyf, hsub, own.int.idx el_22 esz_3 hjn, own.int.idx el_22 esz_3 hj1n, elemP_ov, ov_load hlt hLn (show j < n by omega), ov_load hlt hLn (show j - 1 < n by omega), ov_store hlt hjL, ov_store hlt (show j - 1 < (L.set j (L.getD (j - 1) 0)).length by rw [List.length_set]; omega)]
        refine hQ4 _ _ _ ⟨(j - 1, swL L j), ⟨by simp only; omega, (swL_perm (by omega) hjL).trans hp, hs.step (by omega) hjL hj hlt2⟩, by simp only; omega, by simp (maxSteps := 2000000) only [↓aw_region, ↓aw_skip, ↓aw_seq, ↓aw_block, ↓aw_exit, ↓aw_ret, ↓sops_nil, ↓sops_go, ↓dops_nil, ↓dopsX_nil, ↓dopsR_nil, ↓vdn, vup, extr_20, extr_21, extr_30, extr_31, extr_32, List.map_cons, List.map_nil, cond_true, cond_false, aop, aThen, aBlock, argEnv, ev, sput, sputO, binK, binI, unK, builtinK, pickK, Nat.reduceBEq, Nat.reduceAdd, Int.reduceBEq, Int.reduceBNe, Int.reduceLT, aPost, resK, tup, tyf], rfl⟩
      · have hneg : ¬ key (L.getD j 0) - key (L.getD (j - 1) 0) < 0 := by omega
        refine aws_cut fun N6 hN6 => ?_
        simp (maxSteps := 2000000) only [s120, ↓aw_region, ↓aw_skip, ↓aw_seq, ↓aw_block, ↓aw_exit, ↓aw_ret, ↓sops_nil, ↓sops_go, ↓dops_nil, ↓dopsX_nil, ↓dopsR_nil, ↓vdn, vup, extr_20, extr_21, extr_30, extr_31, extr_32, List.map_cons, List.map_nil, cond_true, cond_false, aop, aThen, aBlock, argEnv, ev, sput, sputO, binK, binI, unK, builtinK, pickK, Nat.reduceBEq, Nat.reduceAdd, Int.reduceBEq, Int.reduceBNe, Int.reduceLT, aPost, resK, tup, tyf]
        refine aw_drawX [(14, 1)] (by kernel_rfl) (by kernel_rfl) (by kernel_rfl) (by kernel_rfl) ?_
        simp (maxSteps := 2000000) only [s120, ↓aw_region, ↓aw_skip, ↓aw_seq, ↓aw_block, ↓aw_exit, ↓aw_ret, ↓sops_nil, ↓sops_go, ↓dops_nil, ↓dopsX_nil, ↓dopsR_nil, ↓vdn, vup, extr_20, extr_21, extr_30, extr_31, extr_32, List.map_cons, List.map_nil, cond_true, cond_false, aop, aThen, aBlock, argEnv, ev, sput, sputO, binK, binI, unK, builtinK, pickK, Nat.reduceBEq, Nat.reduceAdd, Int.reduceBEq, Int.reduceBNe, Int.reduceLT, aPost, resK, tup, tyf, gt_iff_lt, hjp, hsub, own.int.idx el_22 esz_3 hjn, own.int.load shp_3 hjn, own.int.idx el_22 esz_3 hj1n, own.int.load shp_3 hj1n, iL_get, callK, List.nil_append, List.append_nil, List.toList_toArray, List.cons_append]
        refine ⟨_, _, c1, rfl, ?_⟩
        simp (maxSteps := 2000000) only [s120, ↓aw_region, ↓aw_skip, ↓aw_seq, ↓aw_block, ↓aw_exit, ↓aw_ret, ↓sops_nil, ↓sops_go, ↓dops_nil, ↓dopsX_nil, ↓dopsR_nil, ↓vdn, vup, extr_20, extr_21, extr_30, extr_31, extr_32, List.map_cons, List.map_nil, cond_true, cond_false, aop, aThen, aBlock, argEnv, ev, sput, sputO, binK, binI, unK, builtinK, pickK, Nat.reduceBEq, Nat.reduceAdd, Int.reduceBEq, Int.reduceBNe, Int.reduceLT, aPost, resK, tup, tyf, hneg, decide_true, decide_false]
        refine hQ4 _ _ _ (hQ3 _ _ _ ?_)
        simp (maxSteps := 2000000) only [s120, ↓aw_region, ↓aw_skip, ↓aw_seq, ↓aw_block, ↓aw_exit, ↓aw_ret, ↓sops_nil, ↓sops_go, ↓dops_nil, ↓dopsX_nil, ↓dopsR_nil, ↓vdn, vup, extr_20, extr_21, extr_30, extr_31, extr_32, List.map_cons, List.map_nil, cond_true, cond_false, aop, aThen, aBlock, argEnv, ev, sput, sputO, binK, binI, unK, builtinK, pickK, Nat.reduceBEq, Nat.reduceAdd, Int.reduceBEq, Int.reduceBNe, Int.reduceLT, aPost, resK, tup, tyf, if_true]
        exact fin (.inr (by omega)) _ (by simp (maxSteps := 2000000) only [↓aw_region, ↓aw_skip, ↓aw_seq, ↓aw_block, ↓aw_exit, ↓aw_ret, ↓sops_nil, ↓sops_go, ↓dops_nil, ↓dopsX_nil, ↓dopsR_nil, ↓vdn, vup, extr_20, extr_21, extr_30, extr_31, extr_32, List.map_cons, List.map_nil, cond_true, cond_false, aop, aThen, aBlock, argEnv, ev, sput, sputO, binK, binI, unK, builtinK, pickK, Nat.reduceBEq, Nat.reduceAdd, Int.reduceBEq, Int.reduceBNe, Int.reduceLT, aPost, resK, tup, tyf])
  · refine aws_cut fun M hM => ?_
    simp (maxSteps := 2000000) only [s120, ↓aw_region, ↓aw_skip, ↓aw_seq, ↓aw_block, ↓aw_exit, ↓aw_ret, ↓sops_nil, ↓sops_go, ↓dops_nil, ↓dopsX_nil, ↓dopsR_nil, ↓vdn, vup, extr_20, extr_21, extr_30, extr_31, extr_32, List.map_cons, List.map_nil, cond_true, cond_false, aop, aThen, aBlock, argEnv, ev, sput, sputO, binK, binI, unK, builtinK, pickK, Nat.reduceBEq, Nat.reduceAdd, Int.reduceBEq, Int.reduceBNe, Int.reduceLT, aPost, resK, tup, tyf, hin]
    refine hQ2 _ _ _ (hQ _ _ _ ?_)
    simp (maxSteps := 2000000) only [s120, ↓aw_region, ↓aw_skip, ↓aw_seq, ↓aw_block, ↓aw_exit, ↓aw_ret, ↓sops_nil, ↓sops_go, ↓dops_nil, ↓dopsX_nil, ↓dopsR_nil, ↓vdn, vup, extr_20, extr_21, extr_30, extr_31, extr_32, List.map_cons, List.map_nil, cond_true, cond_false, aop, aThen, aBlock, argEnv, ev, sput, sputO, binK, binI, unK, builtinK, pickK, Nat.reduceBEq, Nat.reduceAdd, Int.reduceBEq, Int.reduceBNe, Int.reduceLT, aPost, resK, tup, tyf, if_true]
    refine ⟨L, hp, ?_, rfl⟩
    refine SrtTo.pw ?_
    rw [hLn]
    intro p q hpq hq
    exact hs p q hpq (by omega)

end Go.Proofs.Tryd.Am

namespace Go.Proofs.Tryd.Am
open Go.Am Rb
set_option maxRecDepth 100000
set_option maxHeartbeats 1000000

theorem s102_callW [Tabs Tryd.prog] {args : List Value} {h : Heap} {Q : Value → Heap → Prop} (hsz : args.length ≤ 148) (hk : AWS Tryd.prog 148 s102 (aPost Tryd.prog [] Q) (argEnv 0 args) h) : ACall Tryd.prog 102 args h Q :=
  acall_w Tryd.func102 rfl (enters_of Tryd.func102 (by kernel_rfl) rfl) rfl rfl (by decide) s102_strip s102_ok hsz hk
theorem pdqF_call [Tabs prog] {h : Heap} {b : Nat} {L0 : List Nat} {ys : List Int} {z : Int} {g : FuncId} {cap : Array Value} {key : Nat → Int} (hk : ∀ x ∈ L0, -1000 ≤ key x ∧ key x ≤ 1000) (hc : ∀ L x y, x ∈ L0 → y ∈ L0 → APure prog g ([vint x, vint y] ++ cap.toList) (h.set b (.ints (iL L ++ ys) 3 false)) (vint (key x - key y))) (hb : h[b]? = some (.ints (iL L0 ++ ys) 3 false)) (hl : L0.length ≤ 12) (hx : ∀ x ∈ L0, x < 4611686018427387904) :
    ACall prog 102 [ov b L0.length ys.length, .int .i64 0, vint L0.length, .int .i64 z, .func (.func g) #[] cap] h fun _ h' => ∃ L : List Nat, L.Perm L0 ∧ L.Pairwise (fun a b => key a ≤ key b) ∧ h' = h.set b (.ints (iL L ++ ys) 3 false) := by
  have hsub : subV .i64 (L0.length : Int) 0 = (L0.length : Int) := by rw [subV_id (by omega) (by omega)]; omega
  have hle : (L0.length : Int) ≤ 12 := by omega
  refine s102_callW (by simp) ?_
  simp only [s102]
  refine aws_cut fun N1 hN1 => ?_
  simp (maxSteps := 2000000) only [s102, ↓aw_region, ↓aw_skip, ↓aw_seq, ↓aw_block, ↓aw_exit, ↓aw_ret, ↓sops_nil, ↓sops_go, ↓dops_nil, ↓dopsX_nil, ↓dopsR_nil, ↓vdn, vup, extr_20, extr_21, extr_30, extr_31, extr_32, List.map_cons, List.map_nil, cond_true, cond_false, aop, aThen, aBlock, argEnv, ev, sput, sputO, binK, binI, unK, builtinK, pickK, Nat.reduceBEq, Nat.reduceAdd, Int.reduceBEq, Int.reduceBNe, Int.reduceLT, aPost, resK, tup, tyf]
  refine hN1 [(0, ov b L0.length ys.length), (1, .int .i64 0), (2, vint L0.length), (3, .int .i64 z), (4, .func (.func g) #[] cap), (10, .bool true)] _ _ ?_ (by simp (maxSteps := 2000000) only [↓aw_region, ↓aw_skip, ↓aw_seq, ↓aw_block, ↓aw_exit, ↓aw_ret, ↓sops_nil, ↓sops_go, ↓dops_nil, ↓dopsX_nil, ↓dopsR_nil, ↓vdn, vup, extr_20, extr_21, extr_30, extr_31, extr_32, List.map_cons, List.map_nil, cond_true, cond_false, aop, aThen, aBlock, argEnv, ev, sput, sputO, binK, binI, unK, builtinK, pickK, Nat.reduceBEq, Nat.reduceAdd, Int.reduceBEq, Int.reduceBNe, Int.reduceLT, aPost, resK, tup, tyf])
  clear hN1
  try clear N1
  refine aws_cut fun N2 hN2 => ?_
  simp (maxSteps := 2000000) only [s102, ↓aw_region, ↓aw_skip, ↓aw_seq, ↓aw_block, ↓aw_exit, ↓aw_ret, ↓sops_nil, ↓sops_go, ↓dops_nil, ↓dopsX_nil, ↓dopsR_nil, ↓vdn, vup, extr_20, extr_21, extr_30, extr_31, extr_32, List.map_cons, List.map_nil, cond_true, cond_false, aop, aThen, aBlock, argEnv, ev, sput, sputO, binK, binI, unK, builtinK, pickK, Nat.reduceBEq, Nat.reduceAdd, Int.reduceBEq, Int.reduceBNe, Int.reduceLT, aPost, resK, tup, tyf]
  refine hN2 [(0, ov b L0.length ys.length), (1, .int .i64 0), (2, vint L0.length), (3, .int .i64 z), (4, .func (.func g) #[] cap), (10, .bool true), (11, .bool true)] _ _ ?_ (by simp (maxSteps := 2000000) only [↓aw_region, ↓aw_skip, ↓aw_seq, ↓aw_block, ↓aw_exit, ↓aw_ret, ↓sops_nil, ↓sops_go, ↓dops_nil, ↓dopsX_nil, ↓dopsR_nil, ↓vdn, vup, extr_20, extr_21, extr_30, extr_31, extr_32, List.map_cons, List.map_nil, cond_true, cond_false, aop, aThen, aBlock, argEnv, ev, sput, sputO, binK, binI, unK, builtinK, pickK, Nat.reduceBEq, Nat.reduceAdd, Int.reduceBEq, Int.reduceBNe, Int.reduceLT, aPost, resK, tup, tyf])
  clear hN2
  try clear N2
  refine aws_block ?_
  refine aws_hide fun Q hQ => ?_
  refine aw_loopW (γ := Unit) (fun _ => True) (fun _ => ([(0, ov b L0.length ys.length), (1, .int .i64 0), (2, vint L0.length), (3, .int .i64 z), (4, .func (.func g) #[] cap), (10, .bool true), (11, .bool true)], h)) (fun _ => 0) () trivial (by simp (maxSteps := 2000000) only [↓aw_region, ↓aw_skip, ↓aw_seq, ↓aw_block, ↓aw_exit, ↓aw_ret, ↓sops_nil, ↓sops_go, ↓dops_nil, ↓dopsX_nil, ↓dopsR_nil, ↓vdn, vup, extr_20, extr_21, extr_30, extr_31, extr_32, List.map_cons, List.map_nil, cond_true, cond_false, aop, aThen, aBlock, argEnv, ev, sput, sputO, binK, binI, unK, builtinK, pickK, Nat.reduceBEq, Nat.reduceAdd, Int.reduceBEq, Int.reduceBNe, Int.reduceLT, aPost, resK, tup, tyf]) rfl ?_
  rintro _ _
  refine aws_hide fun Q2 hQ2 => ?_
  simp only [l102_0]
  refine aws_block ?_
  refine aws_cut fun N3 hN3 => ?_
  simp (maxSteps := 2000000) only [s102, ↓aw_region, ↓aw_skip, ↓aw_seq, ↓aw_block, ↓aw_exit, ↓aw_ret, ↓sops_nil, ↓sops_go, ↓dops_nil, ↓dopsX_nil, ↓dopsR_nil, ↓vdn, vup, extr_20, extr_21, extr_30, extr_31, extr_32, List.map_cons, List.map_nil, cond_true, cond_false, aop, aThen, aBlock, argEnv, ev, sput, sputO, binK, binI, unK, builtinK, pickK, Nat.reduceBEq, Nat.reduceAdd, Int.reduceBEq, Int.reduceBNe, Int.reduceLT, aPost, resK, tup, tyf, hsub]
  refine hN3 [(0, ov b L0.length ys.length), (1, .int .i64 0), (2, vint L0.length), (3, .int .i64 z), (4, .func (.func g) #[] cap), (10, .bool true), (11, .bool true), (12, vint L0.length)] _ _ ?_ (by simp (maxSteps := 2000000) only [↓aw_region, ↓aw_skip, ↓aw_seq, ↓aw_block, ↓aw_exit, ↓aw_ret, ↓sops_nil, ↓sops_go, ↓dops_nil, ↓dopsX_nil, ↓dopsR_nil, ↓vdn, vup, extr_20, extr_21, extr_30, extr_31, extr_32, List.map_cons, List.map_nil, cond_true, cond_false, aop, aThen, aBlock, argEnv, ev, sput, sputO, binK, binI, unK, builtinK, pickK, Nat.reduceBEq, Nat.reduceAdd, Int.reduceBEq, Int.reduceBNe, Int.reduceLT, aPost, resK, tup, tyf])
  clear hN3
  try clear N3
  refine aws_cut fun N4 hN4 => ?_
  simp (maxSteps := 2000000) only [s102, ↓aw_region, ↓aw_skip, ↓aw_seq, ↓aw_block, ↓aw_exit, ↓aw_ret, ↓sops_nil, ↓sops_go, ↓dops_nil, ↓dopsX_nil, ↓dopsR_nil, ↓vdn, vup, extr_20, extr_21, extr_30, extr_31, extr_32, List.map_cons, List.map_nil, cond_true, cond_false, aop, aThen, aBlock, argEnv, ev, sput, sputO, binK, binI, unK, builtinK, pickK, Nat.reduceBEq, Nat.reduceAdd, Int.reduceBEq, Int.reduceBNe, Int.reduceLT, aPost, resK, tup, tyf, callK, List.nil_append, List.append_nil, List.toList_toArray, List.cons_append, hle]
  refine (isortF_call hk hc hb hl hx).mono ?_
  rintro r h' hr
  refine hQ2 _ _ _ (hQ _ _ _ ?_)
  try simp (maxSteps := 2000000) only [s102, ↓aw_region, ↓aw_skip, ↓aw_seq, ↓aw_block, ↓aw_exit, ↓aw_ret, ↓sops_nil, ↓sops_go, ↓dops_nil, ↓dopsX_nil, ↓dopsR_nil, ↓vdn, vup, extr_20, extr_21, extr_30, extr_31, extr_32, List.map_cons, List.map_nil, cond_true, cond_false, aop, aThen, aBlock, argEnv, ev, sput, sputO, binK, binI, unK, builtinK, pickK, Nat.reduceBEq, Nat.reduceAdd, Int.reduceBEq, Int.reduceBNe, Int.reduceLT, aPost, resK, tup, tyf]
  exact hr
theorem s83_callW [Tabs Tryd.prog] {args : List Value} {h : Heap} {Q : Value → Heap → Prop} (hsz : args.length ≤ 14) (hk : AWS Tryd.prog 14 s83 (aPost Tryd.prog [] Q) (argEnv 0 args) h) : ACall Tryd.prog 83 args h Q :=
  acall_w Tryd.func83 rfl (enters_of Tryd.func83 (by kernel_rfl) rfl) rfl rfl (by decide) s83_strip s83_ok hsz hk
theorem sortFn_call [Tabs prog] {h : Heap} {b : Nat} {L0 : List Nat} {ys : List Int} {g : FuncId} {cap : Array Value} {key : Nat → Int} (hk : ∀ x ∈ L0, -1000 ≤ key x ∧ key x ≤ 1000) (hc : ∀ L x y, x ∈ L0 → y ∈ L0 → APure prog g ([vint x, vint y] ++ cap.toList) (h.set b (.ints (iL L ++ ys) 3 false)) (vint (key x - key y))) (hb : h[b]? = some (.ints (iL L0 ++ ys) 3 false)) (hl : L0.length ≤ 12) (hx : ∀ x ∈ L0, x < 4611686018427387904) :
    ACall prog 83 [ov b L0.length ys.length, .func (.func g) #[] cap] h fun _ h' => ∃ L : List Nat, L.Perm L0 ∧ L.Pairwise (fun a b => key a ≤ key b) ∧ h' = h.set b (.ints (iL L ++ ys) 3 false) := by
  have hw : IntKind.u64.wrap (L0.length : Int) = (L0.length : Int) := wrapU_id (by omega) (by omega)
  refine s83_callW (by simp) ?_
  simp only [s83]
  refine aws_cut fun N5 hN5 => ?_
  simp (maxSteps := 2000000) only [s83, ↓aw_region, ↓aw_skip, ↓aw_seq, ↓aw_block, ↓aw_exit, ↓aw_ret, ↓sops_nil, ↓sops_go, ↓dops_nil, ↓dopsX_nil, ↓dopsR_nil, ↓vdn, vup, extr_20, extr_21, extr_30, extr_31, extr_32, List.map_cons, List.map_nil, cond_true, cond_false, aop, aThen, aBlock, argEnv, ev, sput, sputO, binK, binI, unK, builtinK, pickK, Nat.reduceBEq, Nat.reduceAdd, Int.reduceBEq, Int.reduceBNe, Int.reduceLT, aPost, resK, tup, tyf, lenK]
  refine hN5 [(0, ov b L0.length ys.length), (1, .func (.func g) #[] cap), (4, vint L0.length)] _ _ ?_ (by simp (maxSteps := 2000000) only [↓aw_region, ↓aw_skip, ↓aw_seq, ↓aw_block, ↓aw_exit, ↓aw_ret, ↓sops_nil, ↓sops_go, ↓dops_nil, ↓dopsX_nil, ↓dopsR_nil, ↓vdn, vup, extr_20, extr_21, extr_30, extr_31, extr_32, List.map_cons, List.map_nil, cond_true, cond_false, aop, aThen, aBlock, argEnv, ev, sput, sputO, binK, binI, unK, builtinK, pickK, Nat.reduceBEq, Nat.reduceAdd, Int.reduceBEq, Int.reduceBNe, Int.reduceLT, aPost, resK, tup, tyf])
  clear hN5
  try clear N5
  refine aw_aws ?_
  simp (maxSteps := 2000000) only [s83, ↓aw_region, ↓aw_skip, ↓aw_seq, ↓aw_block, ↓aw_exit, ↓aw_ret, ↓sops_nil, ↓sops_go, ↓dops_nil, ↓dopsX_nil, ↓dopsR_nil, ↓vdn, vup, extr_20, extr_21, extr_30, extr_31, extr_32, List.map_cons, List.map_nil, cond_true, cond_false, aop, aThen, aBlock, argEnv, ev, sput, sputO, binK, binI, unK, builtinK, pickK, Nat.reduceBEq, Nat.reduceAdd, Int.reduceBEq, Int.reduceBNe, Int.reduceLT, aPost, resK, tup, tyf, callK, List.nil_append, List.append_nil, List.toList_toArray, List.cons_append, convK, und_3, und_53, hw]
  refine (len_call (show L0.length < 256 by omega)).mono ?_
  rintro _ h ⟨⟨z, rfl⟩, rfl⟩
  refine (pdqF_call hk hc hb hl hx).mono ?_
  rintro r h' hr
  exact hr
end Go.Proofs.Tryd.Am

namespace Go.Proofs.Tryd.Am
open Go.Am Rb Rch
set_option maxRecDepth 100000
set_option maxHeartbeats 1000000

theorem s84_callW [Tabs Tryd.prog] {args : List Value} {h : Heap} {Q : Value → Heap → Prop} (hsz : args.length ≤ 10) (hk : AWS Tryd.prog 10 s84 (aPost Tryd.prog [.tmp 4] Q) (argEnv 0 args) h) : ACall Tryd.prog 84 args h Q :=
  acall_w Tryd.func84 rfl (enters_of Tryd.func84 (by kernel_rfl) rfl) rfl rfl (by decide) s84_strip s84_ok hsz hk
theorem parts1_call [Tabs prog] {h : Heap} {x y : Nat} (hx : x < 256) (hy : y < 256) : APure prog 84 [vint x, vint y] h (vint ((-(((Am.bits x).length : Nat) : Int)) - (-(((Am.bits y).length : Nat) : Int)))) := by
  have h1 : (Am.bits x).length ≤ 64 := by have := scr_le (x : Int); rw [scr, Int.toNat_natCast] at this; exact this
  have h2 : (Am.bits y).length ≤ 64 := by have := scr_le (y : Int); rw [scr, Int.toNat_natCast] at this; exact this
  have hsub : subV .i64 (((Am.bits y).length : Nat) : Int) (((Am.bits x).length : Nat) : Int) = (-(((Am.bits x).length : Nat) : Int)) - (-(((Am.bits y).length : Nat) : Int)) := by rw [subV_id (by omega) (by omega)]; omega
  refine s84_callW (by simp) ?_
  simp only [s84]
  refine aws_cut fun N1 hN1 => ?_
  simp (maxSteps := 2000000) only [s84, ↓aw_region, ↓aw_skip, ↓aw_seq, ↓aw_block, ↓aw_exit, ↓aw_ret, ↓sops_nil, ↓sops_go, ↓dops_nil, ↓dopsX_nil, ↓dopsR_nil, ↓vdn, vup, extr_20, extr_21, extr_30, extr_31, extr_32, List.map_cons, List.map_nil, cond_true, cond_false, aop, aThen, aBlock, argEnv, ev, sput, sputO, binK, binI, unK, builtinK, pickK, Nat.reduceBEq, Nat.reduceAdd, Int.reduceBEq, Int.reduceBNe, Int.reduceLT, aPost, resK, tup, tyf]
  refine hN1 [(0, vint x), (1, vint y), (4, .int .i64 0)] _ _ ?_ (by simp (maxSteps := 2000000) only [↓aw_region, ↓aw_skip, ↓aw_seq, ↓aw_block, ↓aw_exit, ↓aw_ret, ↓sops_nil, ↓sops_go, ↓dops_nil, ↓dopsX_nil, ↓dopsR_nil, ↓vdn, vup, extr_20, extr_21, extr_30, extr_31, extr_32, List.map_cons, List.map_nil, cond_true, cond_false, aop, aThen, aBlock, argEnv, ev, sput, sputO, binK, binI, unK, builtinK, pickK, Nat.reduceBEq, Nat.reduceAdd, Int.reduceBEq, Int.reduceBNe, Int.reduceLT, aPost, resK, tup, tyf])
  clear hN1
  try clear N1
  refine aws_cut fun N2 hN2 => ?_
  simp (maxSteps := 2000000) only [s84, ↓aw_region, ↓aw_skip, ↓aw_seq, ↓aw_block, ↓aw_exit, ↓aw_ret, ↓sops_nil, ↓sops_go, ↓dops_nil, ↓dopsX_nil, ↓dopsR_nil, ↓vdn, vup, extr_20, extr_21, extr_30, extr_31, extr_32, List.map_cons, List.map_nil, cond_true, cond_false, aop, aThen, aBlock, argEnv, ev, sput, sputO, binK, binI, unK, builtinK, pickK, Nat.reduceBEq, Nat.reduceAdd, Int.reduceBEq, Int.reduceBNe, Int.reduceLT, aPost, resK, tup, tyf, callK, List.nil_append, List.append_nil, List.toList_toArray, List.cons_append]
  refine (count_call hy).mono ?_
  rintro _ h ⟨rfl, rfl⟩
  refine (count_call hx).mono ?_
  rintro _ h ⟨rfl, rfl⟩
  simp (maxSteps := 2000000) only [s84, ↓aw_region, ↓aw_skip, ↓aw_seq, ↓aw_block, ↓aw_exit, ↓aw_ret, ↓sops_nil, ↓sops_go, ↓dops_nil, ↓dopsX_nil, ↓dopsR_nil, ↓vdn, vup, extr_20, extr_21, extr_30, extr_31, extr_32, List.map_cons, List.map_nil, cond_true, cond_false, aop, aThen, aBlock, argEnv, ev, sput, sputO, binK, binI, unK, builtinK, pickK, Nat.reduceBEq, Nat.reduceAdd, Int.reduceBEq, Int.reduceBNe, Int.reduceLT, aPost, resK, tup, tyf, hsub]
  refine hN2 [(0, vint x), (1, vint y), (4, vint ((-(((Am.bits x).length : Nat) : Int)) - (-(((Am.bits y).length : Nat) : Int))))] _ _ ?_ (by simp (maxSteps := 2000000) only [↓aw_region, ↓aw_skip, ↓aw_seq, ↓aw_block, ↓aw_exit, ↓aw_ret, ↓sops_nil, ↓sops_go, ↓dops_nil, ↓dopsX_nil, ↓dopsR_nil, ↓vdn, vup, extr_20, extr_21, extr_30, extr_31, extr_32, List.map_cons, List.map_nil, cond_true, cond_false, aop, aThen, aBlock, argEnv, ev, sput, sputO, binK, binI, unK, builtinK, pickK, Nat.reduceBEq, Nat.reduceAdd, Int.reduceBEq, Int.reduceBNe, Int.reduceLT, aPost, resK, tup, tyf])
  clear hN2
  try clear N2
  refine aw_aws ?_
  simp (maxSteps := 2000000) only [s84, ↓aw_region, ↓aw_skip, ↓aw_seq, ↓aw_block, ↓aw_exit, ↓aw_ret, ↓sops_nil, ↓sops_go, ↓dops_nil, ↓dopsX_nil, ↓dopsR_nil, ↓vdn, vup, extr_20, extr_21, extr_30, extr_31, extr_32, List.map_cons, List.map_nil, cond_true, cond_false, aop, aThen, aBlock, argEnv, ev, sput, sputO, binK, binI, unK, builtinK, pickK, Nat.reduceBEq, Nat.reduceAdd, Int.reduceBEq, Int.reduceBNe, Int.reduceLT, aPost, resK, tup, tyf]

theorem pm_room {xs : List Int} (r i : Nat) (hi : i ≤ xs.length) (h8 : xs.length ≤ 8) : (mget ((r : Nat) : Int) (pm xs i)).toNat < 256 := by
  rw [pm_get, Int.toNat_natCast]
  have := Clr.setL_lt (n := xs.length) (l := (List.range i).filter fun j => rch xs j == r) (fun x hx => by have := List.mem_range.1 (List.mem_filter.1 hx).1; omega)
  have := pow8N h8
  omega

/-- The map is made. -/
theorem parts_map [BitTab prog 1] {h : Heap} {v : Value} {xs : List Int} {bm : Nat} (hv : IntSl h v xs) (ht : trn xs = true) (hm : h[bm]? = some (.map (mI []))) {N : Env → Heap → Prop} {Q0 : Exit → Env → Heap → Prop}
    (hN : ∀ hq e, Ext (fun b => b = bm) h hq → hq[bm]? = some (.map (mI (pm xs xs.length))) → ELe e [(0, v), (2, .slice none 0 0), (3, .int .i64 0), (4, v), (5, .map (some bm))] → N e hq) (hbv : blkOf v ≠ some bm) :
    aw prog 57 (.seq q49_5 (.block 0 (.loop l49_0))) (aThen N Q0) [(0, v), (2, .slice none 0 0), (3, .int .i64 0), (4, v), (5, .map (some bm))] h := by
  have hxl := trn_len ht
  have h256 := pow8N hxl.2
  have hnn : ∀ i : Nat, (0 : Int) ≤ (i : Int) := Int.natCast_nonneg
  simp (maxSteps := 2000000) only [s49, ↓aw_region, ↓aw_skip, ↓aw_seq, ↓aw_block, ↓aw_exit, ↓aw_ret, ↓sops_nil, ↓sops_go, ↓dops_nil, ↓dopsX_nil, ↓dopsR_nil, ↓vdn, vup, extr_20, extr_21, extr_30, extr_31, extr_32, List.map_cons, List.map_nil, cond_true, cond_false, aop, aThen, aBlock, argEnv, ev, sput, sputO, binK, binI, unK, builtinK, pickK, Nat.reduceBEq, Nat.reduceAdd, Int.reduceBEq, Int.reduceBNe, Int.reduceLT, aPost, resK, tup, tyf, hv.len, ↓aw_loop_eq]
  refine aws_hide fun Q hQ => ?_
  refine aw_loop (γ := Nat × Heap) (fun g => g.1 ≤ xs.length ∧ Ext (fun b => b = bm) h g.2 ∧ g.2[bm]? = some (.map (mI (pm xs g.1))))
    (fun g => ([(0, v), (2, .slice none 0 0), (3, .int .i64 0), (4, v), (5, .map (some bm)), (17, v), (18, vint xs.length), (19, vint g.1)], g.2)) (fun g => xs.length - g.1) (0, h) ⟨Nat.zero_le _, Ext.refl _ _, hm⟩ (by simp (maxSteps := 2000000) only [↓aw_region, ↓aw_skip, ↓aw_seq, ↓aw_block, ↓aw_exit, ↓aw_ret, ↓sops_nil, ↓sops_go, ↓dops_nil, ↓dopsX_nil, ↓dopsR_nil, ↓vdn, vup, extr_20, extr_21, extr_30, extr_31, extr_32, List.map_cons, List.map_nil, cond_true, cond_false, aop, aThen, aBlock, argEnv, ev, sput, sputO, binK, binI, unK, builtinK, pickK, Nat.reduceBEq, Nat.reduceAdd, Int.reduceBEq, Int.reduceBNe, Int.reduceLT, aPost, resK, tup, tyf, Int.natCast_zero]) rfl ?_
  rintro ⟨i, hp⟩ ⟨hi, hE, hmp⟩
  simp only at hi hE hmp
  refine aw_hide fun Q2 hQ2 => ?_
  by_cases hin : (i : Int) < xs.length
  · have hi' : i < xs.length := by omega
    have hvp : IntSl hp v xs := hv.same fun b hb => hE.2 b (hv.lt hb) (fun e => hbv (e ▸ hb))
    have hroom := pm_room (xs := xs) (rch xs i) i hi hxl.2
    have hg : mget ((rch xs i : Nat) : Int) (pm xs i) = (((mget ((rch xs i : Nat) : Int) (pm xs i)).toNat : Nat) : Int) := by rw [pm_get]; rfl
    have h2i : 2 ^ i < 2 ^ 8 := Nat.pow_lt_pow_right (by decide) (by omega)
    have hor : bitsV .or .i64 (mget ((rch xs i : Nat) : Int) (pm xs i)) ((2 ^ i : Nat) : Int) = (((mget ((rch xs i : Nat) : Int) (pm xs i)).toNat ||| 2 ^ i : Nat) : Int) := by
      have := bitsV_or (a := (mget ((rch xs i : Nat) : Int) (pm xs i)).toNat) (b := 2 ^ i) (by omega) (by omega)
      rw [← hg] at this; exact this
    simp (maxSteps := 2000000) only [s49, ↓aw_region, ↓aw_skip, ↓aw_seq, ↓aw_block, ↓aw_exit, ↓aw_ret, ↓sops_nil, ↓sops_go, ↓dops_nil, ↓dopsX_nil, ↓dopsR_nil, ↓vdn, vup, extr_20, extr_21, extr_30, extr_31, extr_32, List.map_cons, List.map_nil, cond_true, cond_false, aop, aThen, aBlock, argEnv, ev, sput, sputO, binK, binI, unK, builtinK, pickK, Nat.reduceBEq, Nat.reduceAdd, Int.reduceBEq, Int.reduceBNe, Int.reduceLT, aPost, resK, tup, tyf, l49_0, hin]
    refine aw_drawX [(3, 1)] (by kernel_rfl) (by kernel_rfl) (by kernel_rfl) (by kernel_rfl) ?_
    simp (maxSteps := 2000000) only [s49, ↓aw_region, ↓aw_skip, ↓aw_seq, ↓aw_block, ↓aw_exit, ↓aw_ret, ↓sops_nil, ↓sops_go, ↓dops_nil, ↓dopsX_nil, ↓dopsR_nil, ↓vdn, vup, extr_20, extr_21, extr_30, extr_31, extr_32, List.map_cons, List.map_nil, cond_true, cond_false, aop, aThen, aBlock, argEnv, ev, sput, sputO, binK, binI, unK, builtinK, pickK, Nat.reduceBEq, Nat.reduceAdd, Int.reduceBEq, Int.reduceBNe, Int.reduceLT, aPost, resK, tup, tyf, ↓dopsX_lookup, ↓dopsX_mapUpdate, callK, List.nil_append, List.append_nil, List.toList_toArray, List.cons_append]
    refine ⟨_, _, reach_call hvp ht hi', rfl, ?_⟩
    simp (maxSteps := 2000000) only [s49, ↓aw_region, ↓aw_skip, ↓aw_seq, ↓aw_block, ↓aw_exit, ↓aw_ret, ↓sops_nil, ↓sops_go, ↓dops_nil, ↓dopsX_nil, ↓dopsR_nil, ↓vdn, vup, extr_20, extr_21, extr_30, extr_31, extr_32, List.map_cons, List.map_nil, cond_true, cond_false, aop, aThen, aBlock, argEnv, ev, sput, sputO, binK, binI, unK, builtinK, pickK, Nat.reduceBEq, Nat.reduceAdd, Int.reduceBEq, Int.reduceBNe, Int.reduceLT, aPost, resK, tup, tyf, ↓dopsX_lookup, ↓dopsX_mapUpdate, lookupI hmp und_75 und_3 zv_3, hnn, shlI1 (show i ≤ 62 by omega), hor, updateI hmp und_75 und_3, add1 (show i < 9223372036854775807 by omega)]
    exact hQ2 _ _ _ ⟨(i + 1, hp.set bm (.map (mI (pm xs (i + 1))))), ⟨by simp only; omega, hE.trans (Ext.set _ rfl), get_set (get_lt hmp) _⟩, by simp only; omega, by simp (maxSteps := 2000000) only [↓aw_region, ↓aw_skip, ↓aw_seq, ↓aw_block, ↓aw_exit, ↓aw_ret, ↓sops_nil, ↓sops_go, ↓dops_nil, ↓dopsX_nil, ↓dopsR_nil, ↓vdn, vup, extr_20, extr_21, extr_30, extr_31, extr_32, List.map_cons, List.map_nil, cond_true, cond_false, aop, aThen, aBlock, argEnv, ev, sput, sputO, binK, binI, unK, builtinK, pickK, Nat.reduceBEq, Nat.reduceAdd, Int.reduceBEq, Int.reduceBNe, Int.reduceLT, aPost, resK, tup, tyf], rfl⟩
  · obtain rfl : i = xs.length := by omega
    simp (maxSteps := 2000000) only [s49, ↓aw_region, ↓aw_skip, ↓aw_seq, ↓aw_block, ↓aw_exit, ↓aw_ret, ↓sops_nil, ↓sops_go, ↓dops_nil, ↓dopsX_nil, ↓dopsR_nil, ↓vdn, vup, extr_20, extr_21, extr_30, extr_31, extr_32, List.map_cons, List.map_nil, cond_true, cond_false, aop, aThen, aBlock, argEnv, ev, sput, sputO, binK, binI, unK, builtinK, pickK, Nat.reduceBEq, Nat.reduceAdd, Int.reduceBEq, Int.reduceBNe, Int.reduceLT, aPost, resK, tup, tyf, l49_0, Int.lt_irrefl]
    refine hQ2 _ _ _ (hQ _ _ _ ?_)
    simp (maxSteps := 2000000) only [s49, ↓aw_region, ↓aw_skip, ↓aw_seq, ↓aw_block, ↓aw_exit, ↓aw_ret, ↓sops_nil, ↓sops_go, ↓dops_nil, ↓dopsX_nil, ↓dopsR_nil, ↓vdn, vup, extr_20, extr_21, extr_30, extr_31, extr_32, List.map_cons, List.map_nil, cond_true, cond_false, aop, aThen, aBlock, argEnv, ev, sput, sputO, binK, binI, unK, builtinK, pickK, Nat.reduceBEq, Nat.reduceAdd, Int.reduceBEq, Int.reduceBNe, Int.reduceLT, aPost, resK, tup, tyf, if_true]
    exact hN hp _ hE hmp (by simp (maxSteps := 2000000) only [↓aw_region, ↓aw_skip, ↓aw_seq, ↓aw_block, ↓aw_exit, ↓aw_ret, ↓sops_nil, ↓sops_go, ↓dops_nil, ↓dopsX_nil, ↓dopsR_nil, ↓vdn, vup, extr_20, extr_21, extr_30, extr_31, extr_32, List.map_cons, List.map_nil, cond_true, cond_false, aop, aThen, aBlock, argEnv, ev, sput, sputO, binK, binI, unK, builtinK, pickK, Nat.reduceBEq, Nat.reduceAdd, Int.reduceBEq, Int.reduceBNe, Int.reduceLT, aPost, resK, tup, tyf])
end Go.Proofs.Tryd.Am
