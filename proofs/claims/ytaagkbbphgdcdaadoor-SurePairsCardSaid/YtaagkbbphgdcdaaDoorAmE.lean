/-
  The abstract machine, part E: operations that touch no memory; places; slices of slices; literals; what is asked of calls.
-/
import Derived.Test.YtaagkbbphgdcdaaDoorAmD
set_option linter.all false
namespace Go.Am

def bitsV (op : BinOp) (k : IntKind) (x y : Int) : Int :=
  match op with
  | .and => k.wrap (BitVec.ofInt k.bits x &&& BitVec.ofInt k.bits y).toNat
  | .or => k.wrap (BitVec.ofInt k.bits x ||| BitVec.ofInt k.bits y).toNat
  | .xor => k.wrap (BitVec.ofInt k.bits x ^^^ BitVec.ofInt k.bits y).toNat
  | _ => k.wrap (BitVec.ofInt k.bits x &&& ~~~(BitVec.ofInt k.bits y)).toNat
def shlV (k : IntKind) (x y : Int) : Int := k.wrap (x * 2 ^ (min y.toNat k.bits))
def shrV (k : IntKind) (x y : Int) : Int := x.fdiv (2 ^ (min y.toNat k.bits))
def addV (k : IntKind) (x y : Int) : Int := k.wrap (x + y)
def subV (k : IntKind) (x y : Int) : Int := k.wrap (x - y)
def mulV (k : IntKind) (x y : Int) : Int := k.wrap (x * y)
def quoV (k : IntKind) (x y : Int) : Int := k.wrap (x.tdiv y)

/-- An operator on two ints. -/
def binI (op : BinOp) (k k' : IntKind) (a b : Int) (K : Value → Prop) : Prop :=
  match op with
  | .shl => 0 ≤ b ∧ K (.int k (shlV k a b))
  | .shr => 0 ≤ b ∧ K (.int k (shrV k a b))
  | .add => k = k' ∧ K (.int k (addV k a b))
  | .sub => k = k' ∧ K (.int k (subV k a b))
  | .mul => k = k' ∧ K (.int k (mulV k a b))
  | .quo => k = k' ∧ b ≠ 0 ∧ K (.int k (quoV k a b))
  | .rem => k = k' ∧ b ≠ 0 ∧ K (.int k (a.tmod b))
  | .and | .or | .xor | .andNot => k = k' ∧ K (.int k (bitsV op k a b))
  | .eql => k = k' ∧ K (.bool (a == b))
  | .neq => k = k' ∧ K (.bool (a != b))
  | .lss => k = k' ∧ K (.bool (decide (a < b)))
  | .leq => k = k' ∧ K (.bool (decide (a ≤ b)))
  | .gtr => k = k' ∧ K (.bool (decide (b < a)))
  | .geq => k = k' ∧ K (.bool (decide (b ≤ a)))

/-- Two aggregates of this type are held against each other cell by cell. -/
def EqT (P : Program) (t : TypeId) (n : Nat) : Prop :=
  ∀ (xs ys : List Int) (w : World) (x y : Operand), xs.length = n → ys.length = n →
    (do eqGuard .eql t x y (.agg (xs.map vint).toArray) (.agg (ys.map vint).toArray); binOp .eql t (.agg (xs.map vint).toArray) (.agg (ys.map vint).toArray) : Sem Value).run P w = .ok (.bool (xs == ys)) w ∧
    (do eqGuard .neq t x y (.agg (xs.map vint).toArray) (.agg (ys.map vint).toArray); binOp .neq t (.agg (xs.map vint).toArray) (.agg (ys.map vint).toArray) : Sem Value).run P w = .ok (.bool (xs != ys)) w

def binK (P : Program) (op : BinOp) (t : TypeId) (x y : Value) (K : Value → Prop) : Prop :=
  match x, y with
  | .int k a, .int k' b => binI op k k' a b K
  | .bool a, .bool b => P.underlying t = some .bool ∧ (match op with | .eql => K (.bool (a == b)) | .neq => K (.bool (a != b)) | _ => False)
  | .agg xs, .agg ys => (match intsOf xs.toList, intsOf ys.toList with
    | some is, some js => EqT P t is.length ∧ is.length = js.length ∧ (match op with | .eql => K (.bool (is == js)) | .neq => K (.bool (is != js)) | _ => False)
    | _, _ => False)
  | .slice none _ _, .slice none _ _ => (elemOf' P t).isSome = true ∧ (match op with | .eql => K (.bool true) | .neq => K (.bool false) | _ => False)
  | .slice (some _) _ _, .slice none _ _ => (elemOf' P t).isSome = true ∧ (match op with | .eql => K (.bool false) | .neq => K (.bool true) | _ => False)
  | _, _ => False

theorem LRel.ints {n : Nat} {ρ : Nat → Loc} {xs ys : Array Value} {is : List Int} (h : LRel n ρ xs.toList ys.toList) (hi : intsOf xs.toList = some is) : xs = (is.map vint).toArray ∧ ys = xs := by
  have e := intsOf_eq hi
  have e2 : ys.toList = xs.toList := by
    apply List.ext_getElem?
    intro k
    by_cases hk : k < xs.toList.length
    · have := h.2 k hk
      have hk' : k < ys.toList.length := by rw [← h.1]; exact hk
      simp only [List.getD, List.getElem?_eq_getElem hk, List.getElem?_eq_getElem hk', Option.getD_some] at this ⊢
      have : ys.toList[k] = xs.toList[k] := by
        apply this.atom_eq
        have : xs.toList[k] ∈ is.map vint := by rw [← e]; exact List.getElem_mem hk
        obtain ⟨n, _, hn⟩ := List.mem_map.1 this
        rw [← hn]; rfl
      rw [this]
    · have := h.1
      rw [List.getElem?_eq_none (by omega), List.getElem?_eq_none (by omega)]
  exact ⟨by rw [← e], by apply Array.ext'; exact e2⟩

theorem equalIn_bool {P : Program} [Tabs P] {t : TypeId} (ht : P.underlying t = some .bool) (d : Nat) (a b : Bool) (w : World) : (Op.equalIn (d + 1) t (.bool a) (.bool b)).run P w = .ok (a == b) w := by
  simp [Op.equalIn, run_underlying ht]
theorem run_equal_bool {P : Program} [Tabs P] {t : TypeId} (ht : P.underlying t = some .bool) (a b : Bool) (w : World) : (Op.equal t (.bool a) (.bool b)).run P w = .ok (a == b) w := equalIn_bool ht 9999 a b w
theorem equalIn_slice_nil {P : Program} [Tabs P] {t e : TypeId} (ht : P.underlying t = some (.slice e)) (d : Nat) (a : Option Addr) (l c l' c' : Nat) (w : World) :
    (Op.equalIn (d + 1) t (.slice a l c) (.slice none l' c')).run P w = .ok a.isNone w := by
  cases a <;> simp [Op.equalIn, run_underlying ht]
theorem run_equal_slice_nil {P : Program} [Tabs P] {t e : TypeId} (ht : P.underlying t = some (.slice e)) (a : Option Addr) (l c l' c' : Nat) (w : World) :
    (Op.equal t (.slice a l c) (.slice none l' c')).run P w = .ok a.isNone w := equalIn_slice_nil ht 9999 a l c l' c' w

theorem binK_sound {P : Program} [Tabs P] {n : Nat} {ρ : Nat → Loc} {op : BinOp} {t : TypeId} {x y x' y' : Value} {K : Value → Prop} (hx : VRel n ρ x x') (hy : VRel n ρ y y') (hk : binK P op t x y K) :
    ∃ v v', K v ∧ VRel n ρ v v' ∧ ∀ (w : World) (X Y : Operand), (do eqGuard op t X Y x' y'; binOp op t x' y' : Sem Value).run P w = .ok v' w := by
  unfold binK at hk
  split at hk
  · rename_i k a k' b
    rw [hx.int, hy.int]
    cases op <;> simp only [binI] at hk
    case shl => exact ⟨_, _, hk.2, .atom rfl, fun w X Y => by have := Int.not_lt.2 hk.1; simp [eqGuard, binOp, Op.shift, this, shlV]⟩
    case shr => exact ⟨_, _, hk.2, .atom rfl, fun w X Y => by have := Int.not_lt.2 hk.1; simp [eqGuard, binOp, Op.shift, this, shrV]⟩
    case quo => obtain ⟨rfl, h1, hk⟩ := hk; exact ⟨_, _, hk, .atom rfl, fun w X Y => by simp [eqGuard, binOp, Op.intDiv, h1, quoV]⟩
    case rem => obtain ⟨rfl, h1, hk⟩ := hk; exact ⟨_, _, hk, .atom rfl, fun w X Y => by simp [eqGuard, binOp, Op.intDiv, h1]⟩
    all_goals (obtain ⟨rfl, hk⟩ := hk; exact ⟨_, _, hk, .atom rfl, fun w X Y => by simp [eqGuard, binOp, Op.intArith, Op.intBits, Op.intCmp, bitsV, addV, subV, mulV]⟩)
  · rename_i a b
    obtain ⟨ht, hk⟩ := hk
    rw [hx.bool, hy.bool]
    split at hk
    · exact ⟨_, _, hk, .atom rfl, fun w X Y => by simp [eqGuard, binOp, run_equal_bool ht]⟩
    · exact ⟨_, _, hk, .atom rfl, fun w X Y => by simp [eqGuard, binOp, run_equal_bool ht, bne]⟩
    · exact hk.elim
  · rename_i xs ys
    obtain ⟨xs', rfl, hrx⟩ := hx.agg_iff
    obtain ⟨ys', rfl, hry⟩ := hy.agg_iff
    split at hk
    · rename_i is js hi hj
      obtain ⟨e1, rfl⟩ := hrx.ints hi
      obtain ⟨e2, rfl⟩ := hry.ints hj
      obtain ⟨hE, hl, hk⟩ := hk
      rw [e1, e2]
      split at hk
      · exact ⟨_, _, hk, .atom rfl, fun w X Y => (hE is js w X Y rfl hl.symm).1⟩
      · exact ⟨_, _, hk, .atom rfl, fun w X Y => (hE is js w X Y rfl hl.symm).2⟩
      · exact hk.elim
    · exact hk.elim
  · obtain ⟨ht, hk⟩ := hk
    obtain ⟨e, he⟩ := Option.isSome_iff_exists.1 ht
    rw [hx.atom_eq rfl, hy.atom_eq rfl]
    split at hk
    · exact ⟨_, _, hk, .atom rfl, fun w X Y => by simp [eqGuard, binOp, run_equal_slice_nil (elemOf'_eq he)]⟩
    · exact ⟨_, _, hk, .atom rfl, fun w X Y => by simp [eqGuard, binOp, run_equal_slice_nil (elemOf'_eq he)]⟩
    · exact hk.elim
  · rename_i a _ _ _ _
    obtain ⟨ht, hk⟩ := hk
    obtain ⟨e, he⟩ := Option.isSome_iff_exists.1 ht
    obtain ⟨b, o, sp⟩ := a
    obtain ⟨_, cap', _, _, _, rfl, _⟩ := hx.sl
    rw [hy.atom_eq rfl]
    split at hk
    · exact ⟨_, _, hk, .atom rfl, fun w X Y => by simp [eqGuard, binOp, run_equal_slice_nil (elemOf'_eq he)]⟩
    · exact ⟨_, _, hk, .atom rfl, fun w X Y => by simp [eqGuard, binOp, run_equal_slice_nil (elemOf'_eq he)]⟩
    · exact hk.elim
  · exact hk.elim

def unK (op : UnOp) (x : Value) (K : Value → Prop) : Prop :=
  match op, x with
  | .not, .bool b => K (.bool !b)
  | .neg, .int k a => K (.int k (subV k 0 a))
  | .xor, .int k a => K (.int k (bitsV .xor k (if k.signed then -1 else k.max) a))
  | _, _ => False
theorem unK_sound {P : Program} [Tabs P] {n : Nat} {ρ : Nat → Loc} {op : UnOp} {x x' : Value} {K : Value → Prop} (hx : VRel n ρ x x') (hk : unK op x K) :
    ∃ v v', K v ∧ VRel n ρ v v' ∧ ∀ w : World, (Op.unary op x').run P w = .ok v' w := by
  unfold unK at hk
  split at hk
  · rw [hx.bool]; exact ⟨_, _, hk, .atom rfl, fun w => by simp [Op.unary]⟩
  · rw [hx.int]; exact ⟨_, _, hk, .atom rfl, fun w => by simp [Op.unary, Op.intArith, subV]⟩
  · rw [hx.int]; exact ⟨_, _, hk, .atom rfl, fun w => by simp [Op.unary, Op.intBits, bitsV]⟩
  · exact hk.elim

/-- A conversion of ints; of whatever to a type of the same make. -/
def convK (P : Program) (s d : TypeId) (x : Value) (K : Value → Prop) : Prop :=
  match x with
  | .int _ a => (match P.underlying s, P.underlying d with | some _, some (.int k) => K (.int k (k.wrap a)) | _, _ => False)
  | _ => False
theorem convK_sound {P : Program} [Tabs P] {n : Nat} {ρ : Nat → Loc} {s d : TypeId} {x x' : Value} {K : Value → Prop} (hx : VRel n ρ x x') (hk : convK P s d x K) :
    ∃ v v', K v ∧ VRel n ρ v v' ∧ ∀ w : World, (convert s d x').run P w = .ok v' w := by
  unfold convK at hk
  split at hk
  · split at hk
    · rename_i sd k h1 h2
      rw [hx.int]
      exact ⟨_, _, hk, .atom rfl, fun w => by simp [convert, run_underlying h1, run_underlying h2, Conv.intToInt]⟩
    · exact hk.elim
  · exact hk.elim

def pickK (c a b : Value) (K : Value → Prop) : Prop :=
  match c with
  | .bool g => K (bif g then a else b)
  | _ => False

/-- An element's address. -/
def idxAddrK (P : Program) (t : TypeId) (x i : Value) (K : Value → Prop) : Prop :=
  match i with
  | .int _ i => (match x with
    | .slice (some ⟨b, o, _⟩) len _ => (match elemOf' P t with
      | some e => (match esz P e with | some sz => 0 ≤ i ∧ i < len ∧ K (.pointer (some ⟨b, o + i.toNat * sz, none⟩)) | none => False)
      | none => False)
    | .pointer (some ⟨b, o, none⟩) => (match P.underlying t with
      | some (.array len e) => (match esz P e with | some sz => 0 ≤ i ∧ i < len ∧ K (.pointer (some ⟨b, o + i.toNat * sz, none⟩)) | none => False)
      | _ => False)
    | _ => False)
  | _ => False
theorem esz_eq {P : Program} [Tabs P] {t : TypeId} {n : Nat} (h : esz P t = some n) : ∃ i, P.info? t = some i ∧ i.size = n := Option.map_eq_some_iff.1 h
theorem idxAddrK_sound {P : Program} [Tabs P] {n : Nat} {ρ : Nat → Loc} {t : TypeId} {x x' i i' : Value} {K : Value → Prop} (hx : VRel n ρ x x') (hi : VRel n ρ i i') (hk : idxAddrK P t x i K) :
    ∃ v v', K v ∧ VRel n ρ v v' ∧ ∀ w : World, (Instr.indexAt t x' i').run P w = .ok v' w := by
  unfold idxAddrK at hk
  split at hk
  · rename_i k i
    rw [hi.int]
    split at hk
    · rename_i b o sp len cap
      obtain ⟨hb, cap', _, _, _, rfl, _⟩ := hx.sl
      split at hk
      · rename_i e he
        split at hk
        · rename_i sz hs
          obtain ⟨inf, hinf, rfl⟩ := esz_eq hs
          obtain ⟨h0, h1, hk⟩ := hk
          refine ⟨_, _, hk, .ptr hb, fun w => ?_⟩
          simp [Instr.indexAt, asIntOf, run_underlying (elemOf'_eq he), h0, h1, run_sizeOf hinf, addr_add]
        · exact hk.elim
      · exact hk.elim
    · rename_i b o
      obtain ⟨_, hb, rfl⟩ := hx.ptr'
      split at hk
      · rename_i len e he
        split at hk
        · rename_i sz hs
          obtain ⟨inf, hinf, rfl⟩ := esz_eq hs
          obtain ⟨h0, h1, hk⟩ := hk
          refine ⟨_, _, hk, .ptr hb, fun w => ?_⟩
          simp [Instr.indexAt, asIntOf, run_underlying he, Instr.sureAddr, h0, h1, run_sizeOf hinf, addr_add]
        · exact hk.elim
      · exact hk.elim
    · exact hk.elim
  · exact hk.elim

/-- The fields' places: type, offset. -/
def fldOf (P : Program) (t : TypeId) (f : Nat) : Option (TypeId × Nat) :=
  match P.underlying t with
  | some (.struct fs) => (fs[f]?).map fun x => (x.type, x.offset)
  | _ => none
def fieldAddrK (P : Program) (t : TypeId) (x : Value) (f : Nat) (K : Value → Prop) : Prop :=
  match x with
  | .pointer (some ⟨b, o, none⟩) => (match fldOf P t f with
    | some (ft, off) => (match esz P ft with | some sz => sz ≠ 0 ∧ K (.pointer (some ⟨b, o + off, none⟩)) | none => False)
    | none => False)
  | _ => False
theorem fieldAddrK_sound {P : Program} [Tabs P] {n : Nat} {ρ : Nat → Loc} {t : TypeId} {x x' : Value} {f : Nat} {K : Value → Prop} (hx : VRel n ρ x x') (hk : fieldAddrK P t x f K) :
    ∃ v v', K v ∧ VRel n ρ v v' ∧ ∀ w : World, (Instr.fieldAt t x' f).run P w = .ok v' w := by
  unfold fieldAddrK at hk
  split at hk
  · rename_i b o
    obtain ⟨_, hb, rfl⟩ := hx.ptr'
    split at hk
    · rename_i ft off hf
      split at hk
      · rename_i sz hs
        obtain ⟨inf, hinf, rfl⟩ := esz_eq hs
        obtain ⟨h0, hk⟩ := hk
        refine ⟨_, _, hk, .ptr hb, fun w => ?_⟩
        unfold fldOf at hf
        split at hf
        · rename_i fs hu
          obtain ⟨fd, hfd, he⟩ := Option.map_eq_some_iff.1 hf
          cases he
          simp [Instr.fieldAt, run_underlying hu, hfd, Instr.sureAddr, fieldPlace, run_sizeOf hinf, h0, addr_add]
        · cases hf
      · exact hk.elim
    · exact hk.elim
  · exact hk.elim

/-- A part of an aggregate. -/
def partK (P : Program) (t : TypeId) (cs : List Value) (off : Nat) (K : Value → Prop) : Prop :=
  match shp P t with
  | some none => (match cs[off]? with | some v => K v | none => False)
  | some (some n) => off + n ≤ cs.length ∧ K (.agg ((cs.drop off).take n).toArray)
  | none => False
theorem partK_sound {P : Program} [Tabs P] {n : Nat} {ρ : Nat → Loc} {t : TypeId} {cs cs' : Array Value} {off : Nat} {K : Value → Prop} (hr : LRel n ρ cs.toList cs'.toList) (hk : partK P t cs.toList off K) :
    ∃ v v', K v ∧ VRel n ρ v v' ∧ ∀ w : World, (part t cs' off).run P w = .ok v' w := by
  unfold partK at hk
  split at hk
  · rename_i hs
    split at hk
    · rename_i v hv
      obtain ⟨hlt, hvv⟩ := List.getElem?_eq_some_iff.1 hv
      have hlt' : off < cs'.size := by have := hr.1; simp at this hlt; omega
      have := hr.2 off hlt
      refine ⟨v, cs'[off], hk, ?_, fun w => ?_⟩
      · simpa [List.getD, hv, List.getElem?_eq_getElem, hlt'] using this
      · have := (run_isAgg (w := w) hs).1
        simp [part, this, hlt']
    · exact hk.elim
  · rename_i m hs
    obtain ⟨hle, hk⟩ := hk
    have hsz : cs.toList.length = cs'.size := by have := hr.1; simpa using this
    have hl : ((cs.toList.drop off).take m).length = m := by simp at hle ⊢; omega
    have hr2 : LRel n ρ ((cs.toList.drop off).take m) ((cs'.toList.drop off).take m) := ⟨by rw [hl]; simp at hle hsz ⊢; omega, fun k hk => by
      rw [hl] at hk
      have := hr.2 (off + k) (by omega)
      simpa [List.getD, List.getElem?_take, hk, List.getElem?_drop] using this⟩
    refine ⟨_, .agg ((cs'.toList.drop off).take m).toArray, hk, .of_LRel hr2, fun w => ?_⟩
    obtain ⟨ha, i, hi, hsi⟩ := run_isAgg (w := w) hs
    simp at hsi
    simp [part, ha, run_sizeOf hi, hsi]
    apply Array.ext'
    simp [Array.toList_extract, List.extract_eq_take_drop]
  · exact hk.elim

def fieldK (P : Program) (t : TypeId) (x : Value) (f : Nat) (K : Value → Prop) : Prop :=
  match x with
  | .agg cs => (match fldOf P t f with | some (ft, off) => partK P ft cs.toList off K | none => False)
  | _ => False
theorem fieldK_sound {P : Program} [Tabs P] {n : Nat} {ρ : Nat → Loc} {t : TypeId} {x x' : Value} {f : Nat} {K : Value → Prop} (hx : VRel n ρ x x') (hk : fieldK P t x f K) :
    ∃ v v', K v ∧ VRel n ρ v v' ∧ ∀ w : World, (Instr.field t x' f).run P w = .ok v' w := by
  unfold fieldK at hk
  split at hk
  · obtain ⟨ys, rfl, hr⟩ := hx.agg_iff
    split at hk
    · rename_i ft off hf
      obtain ⟨v, v', h1, h2, h3⟩ := partK_sound hr hk
      refine ⟨v, v', h1, h2, fun w => ?_⟩
      unfold fldOf at hf
      split at hf
      · rename_i fs hu
        obtain ⟨fd, hfd, he⟩ := Option.map_eq_some_iff.1 hf
        cases he
        simp [Instr.field, run_underlying hu, hfd, asAgg, h3]
      · cases hf
    · exact hk.elim
  · exact hk.elim

def indexK (P : Program) (t : TypeId) (x i : Value) (K : Value → Prop) : Prop :=
  match x, i with
  | .agg cs, .int _ i => (match P.underlying t with
    | some (.array len e) => (match esz P e with | some sz => 0 ≤ i ∧ i < len ∧ partK P e cs.toList (i.toNat * sz) K | none => False)
    | _ => False)
  | _, _ => False
theorem indexK_sound {P : Program} [Tabs P] {n : Nat} {ρ : Nat → Loc} {t : TypeId} {x x' i i' : Value} {K : Value → Prop} (hx : VRel n ρ x x') (hi : VRel n ρ i i') (hk : indexK P t x i K) :
    ∃ v v', K v ∧ VRel n ρ v v' ∧ ∀ w : World, (Instr.index t x' i').run P w = .ok v' w := by
  unfold indexK at hk
  split at hk
  · obtain ⟨ys, rfl, hr⟩ := hx.agg_iff
    rw [hi.int]
    split at hk
    · rename_i len e hu
      split at hk
      · rename_i sz hs
        obtain ⟨inf, hinf, rfl⟩ := esz_eq hs
        obtain ⟨h0, h1, hk⟩ := hk
        obtain ⟨v, v', g1, g2, g3⟩ := partK_sound hr hk
        exact ⟨v, v', g1, g2, fun w => by simp [Instr.index, asIntOf, run_underlying hu, h0, h1, run_sizeOf hinf, g3]⟩
      · exact hk.elim
    · exact hk.elim
  · exact hk.elim

def extractK (x : Value) (i : Nat) (K : Value → Prop) : Prop :=
  match x with
  | .tuple vs => (match vs[i]? with | some v => K v | none => False)
  | _ => False
theorem extractK_sound {P : Program} [Tabs P] {n : Nat} {ρ : Nat → Loc} {x x' : Value} {i : Nat} {K : Value → Prop} (hx : VRel n ρ x x') (hk : extractK x i K) :
    ∃ v v', K v ∧ VRel n ρ v v' ∧ ∀ w : World, (Instr.extract x' i).run P w = .ok v' w := by
  unfold extractK at hk
  split at hk
  · rename_i vs
    split at hk
    · rename_i v hv
      obtain ⟨hlt, hvv⟩ := Array.getElem?_eq_some_iff.1 hv
      obtain ⟨ys, rfl, hs, hr⟩ := hx.tuple' (by rintro rfl; simp at hlt)
      have hlt' : i < ys.size := by omega
      refine ⟨v, ys[i], hk, ?_, fun w => by simp [Instr.extract, hlt']⟩
      have := hr i hlt
      simpa [Array.getD_eq_getD_getElem?, hv, hlt'] using this
    · exact hk.elim
  · exact hk.elim

/-- A part of a slice, or of an array behind a pointer. The bounds are ints. -/
def bnd (v : Option Value) (d : Nat) : Option Int :=
  match v with
  | none => some d
  | some (.int _ n) => some n
  | some _ => none
/-- The third bound of a slice of nothing. -/
def mx0 (hi mx : Option Value) : Bool :=
  match mx with
  | none => true
  | some (.int _ n) => n == 0 && hi.isSome
  | _ => false
def sliceK (P : Program) (t : TypeId) (x : Value) (lo hi mx : Option Value) (K : Value → Prop) : Prop :=
  match x with
  | .slice none 0 0 => ((elemOf' P t).bind (esz P)).isSome = true ∧ bnd lo 0 = some 0 ∧ bnd hi 0 = some 0 ∧ mx0 hi mx = true ∧ K (.slice none 0 0)
  | .slice (some ⟨b, o, sp⟩) len cap => (match elemOf' P t with
    | some e => (match esz P e, bnd lo 0, bnd hi len, mx with
      | some sz, some l, some h, none => 0 ≤ l ∧ l ≤ h ∧ h ≤ cap ∧
          ((sp = none → K (.slice (some ⟨b, if (cap : Int) = l then o else o + l.toNat * sz, none⟩) (h - l).toNat (cap - l.toNat))) ∧
           (sp ≠ none → (l = 0 ∧ K (.slice (some ⟨b, o, some 0⟩) h.toNat cap)) ∨
            (0 < l ∧ ((l < h ∧ 0 < sz ∧ K (.slice (some ⟨b, o + l.toNat * sz, some 0⟩) (h - l).toNat (cap - l.toNat))) ∨ (l = h ∧ K void)))))
      | some sz, some l, some h, some (.int _ m) => 0 ≤ l ∧ l ≤ h ∧ h ≤ m ∧ m ≤ cap ∧ hi.isSome = true ∧
          K (.slice (some ⟨b, if m = l then o else o + l.toNat * sz, none⟩) (h - l).toNat (m.toNat - l.toNat))
      | _, _, _, _ => False)
    | none => False)
  | .pointer (some ⟨b, o, none⟩) => (match P.underlying t with
    | some (.array n e) => (match esz P e, bnd lo 0, bnd hi n, mx with
      | some sz, some l, some h, none => 0 ≤ l ∧ l ≤ h ∧ h ≤ n ∧ K (.slice (some ⟨b, if (n : Int) = l then o else o + l.toNat * sz, none⟩) (h - l).toNat (n - l.toNat))
      | _, _, _, _ => False)
    | _ => False)
  | _ => False

theorem run_sliceBound {P : Program} [Tabs P] {w : World} {k : IntKind} {i : Int} {y : Nat} {c : BoundsCode} (h0 : 0 ≤ i) (h1 : i ≤ y) : (Instr.sliceBound (.int k i) y c).run P w = .ok i.toNat w := by
  simp [Instr.sliceBound, asIntOf, h0, h1]

theorem bnd_rel {n : Nat} {ρ : Nat → Loc} {v v' : Option Value} {d : Nat} {l : Int} (hv : ∀ x, v = some x → ∃ x', v' = some x' ∧ VRel n ρ x x') (hn : v = none → v' = none) (h : bnd v d = some l) :
    (v = none ∧ v' = none ∧ l = d) ∨ ∃ k, v = some (.int k l) ∧ v' = some (.int k l) := by
  unfold bnd at h
  split at h
  · cases h; exact .inl ⟨rfl, hn rfl, rfl⟩
  · rename_i k n'
    cases h
    obtain ⟨x', h1, h2⟩ := hv _ rfl
    rw [h2.int] at h1
    exact .inr ⟨k, rfl, h1⟩
  · cases h

theorem sliceK_sound {P : Program} [Tabs P] {n : Nat} {ρ : Nat → Loc} {t : TypeId} {x x' : Value} {lo hi mx lo' hi' mx' : Option Value} {K : Value → Prop} (hx : VRel n ρ x x')
    (hlo : (∀ x, lo = some x → ∃ x', lo' = some x' ∧ VRel n ρ x x') ∧ (lo = none → lo' = none)) (hhi : (∀ x, hi = some x → ∃ x', hi' = some x' ∧ VRel n ρ x x') ∧ (hi = none → hi' = none))
    (hmx : (∀ x, mx = some x → ∃ x', mx' = some x' ∧ VRel n ρ x x') ∧ (mx = none → mx' = none)) (hk : sliceK P t x lo hi mx K) :
    ∃ v v', K v ∧ VRel n ρ v v' ∧ ∀ w : World, (Instr.sliceAt t x' lo' hi' mx').run P w = .ok v' w := by
  unfold sliceK at hk
  split at hk
  · obtain ⟨ht, h1, h2, h3, hk⟩ := hk
    obtain ⟨sz, hsz⟩ := Option.isSome_iff_exists.1 ht
    obtain ⟨e, he, hes⟩ := Option.bind_eq_some_iff.1 hsz
    obtain ⟨inf, hinf, rfl⟩ := esz_eq hes
    rw [hx.atom_eq rfl]
    refine ⟨_, _, hk, .atom rfl, fun w => ?_⟩
    have hb1 : (Instr.sliceBounds true 0 0 lo' hi' mx').run P w = .ok (0, 0, 0) w := by
      unfold mx0 at h3
      split at h3
      case h_2 k' n' =>
        simp only [Bool.and_eq_true, beq_iff_eq] at h3
        obtain ⟨rfl, h4⟩ := h3
        obtain ⟨x', e5, e6⟩ := hmx.1 _ rfl
        rw [e6.int] at e5
        rcases bnd_rel hlo.1 hlo.2 h1 with ⟨_, e1, e2⟩ | ⟨k, _, e1⟩ <;> rcases bnd_rel hhi.1 hhi.2 h2 with ⟨e0, e3, e4⟩ | ⟨k2, _, e3⟩ <;> rw [e1, e3, e5] <;>
          first
          | (rw [e0] at h4; cases h4)
          | simp [Instr.sliceBounds, run_sliceBound (P := P) (w := w) (i := 0) (y := 0) (Int.le_refl 0) (by simp)]
      case h_3 => cases h3
      rw [hmx.2 rfl]
      rcases bnd_rel hlo.1 hlo.2 h1 with ⟨_, e1, e2⟩ | ⟨k, _, e1⟩ <;> rcases bnd_rel hhi.1 hhi.2 h2 with ⟨_, e3, e4⟩ | ⟨k2, _, e3⟩ <;> rw [e1, e3] <;>
        simp [Instr.sliceBounds, run_sliceBound (P := P) (w := w) (i := 0) (y := 0) (Int.le_refl 0) (by simp)]
    simp [Instr.sliceAt, Instr.slice, run_underlying (elemOf'_eq he), hb1, run_sizeOf hinf]
  · rename_i b o sp len cap
    obtain ⟨hb, cap', hcap, hex, hls, rfl, hsp⟩ := hx.sl
    split at hk
    · rename_i e he
      split at hk
      · rename_i sz l hh hes hl hhh
        obtain ⟨inf, hinf, rfl⟩ := esz_eq hes
        obtain ⟨h0, h1, h2, hK1, hK2⟩ := hk
        rw [hmx.2 rfl]
        have hb1 : ∀ w : World, (Instr.sliceBounds true len cap' lo' hi' none).run P w = .ok (l.toNat, hh.toNat, cap') w := by
          intro w
          rcases bnd_rel hlo.1 hlo.2 hl with ⟨_, e1, e2⟩ | ⟨k, _, e1⟩ <;> rcases bnd_rel hhi.1 hhi.2 hhh with ⟨_, e3, e4⟩ | ⟨k2, _, e3⟩ <;> rw [e1, e3]
          · subst e2 e4; simp [Instr.sliceBounds]
          · subst e2; simp [Instr.sliceBounds, run_sliceBound (show 0 ≤ hh by omega) (show hh ≤ (cap' : Int) by omega)]
          · subst e4; simp [Instr.sliceBounds, run_sliceBound h0 h1]
          · simp [Instr.sliceBounds, run_sliceBound (show 0 ≤ hh by omega) (show hh ≤ (cap' : Int) by omega), run_sliceBound h0 (show l ≤ (hh.toNat : Int) by omega)]
        rcases hsp with rfl | rfl
        · obtain rfl := hex rfl
          refine ⟨_, .slice (some ⟨(ρ b).blk, if (cap' : Int) = l then o else o + l.toNat * inf.size, none⟩) (hh - l).toNat (cap' - l.toNat), hK1 rfl, ?_, fun w => ?_⟩
          · exact .slice hb
          · have e5 : hh.toNat - l.toNat = (hh - l).toNat := by omega
            by_cases hc : (cap' : Int) = l
            · obtain rfl : l = (cap' : Int) := hc.symm
              have hb2 := hb1 w
              simp only [Int.toNat_natCast] at hb2
              simp [Instr.sliceAt, Instr.slice, run_underlying (elemOf'_eq he), hb2, run_sizeOf hinf]
            · have hc' : ¬ cap' = l.toNat := by omega
              simp [Instr.sliceAt, Instr.slice, run_underlying (elemOf'_eq he), hb1 w, run_sizeOf hinf, e5, hc, hc', addr_add]
        · rcases hK2 (by simp) with ⟨rfl, hK⟩ | ⟨hl0, ⟨hlt, hsz, hK⟩ | ⟨rfl, hK⟩⟩
          rotate_left
          · refine ⟨_, .slice (some ⟨(ρ b).blk, o + l.toNat * inf.size, none⟩) (hh - l).toNat (cap' - l.toNat), hK, .loose hb (by omega) (fun h0 => ?_), fun w => ?_⟩
            · have : 0 < l.toNat * inf.size := Nat.mul_pos (by omega) hsz
              omega
            · have e5 : hh.toNat - l.toNat = (hh - l).toNat := by omega
              have hc' : ¬ cap' = l.toNat := by omega
              simp [Instr.sliceAt, Instr.slice, run_underlying (elemOf'_eq he), hb1 w, run_sizeOf hinf, e5, hc', addr_add]
          · refine ⟨_, _, hK, .void (b := (ρ b).blk) (o := if cap' = l.toNat then o else o + l.toNat * inf.size) (cap := cap' - l.toNat), fun w => ?_⟩
            by_cases hc' : cap' = l.toNat
            · subst hc'
              have hb2 := hb1 w
              simp [Instr.sliceAt, Instr.slice, run_underlying (elemOf'_eq he), hb2, run_sizeOf hinf]
            · simp [Instr.sliceAt, Instr.slice, run_underlying (elemOf'_eq he), hb1 w, run_sizeOf hinf, hc', addr_add]
          refine ⟨_, .slice (some ⟨(ρ b).blk, o, none⟩) hh.toNat cap', hK, .loose hb hcap (hls (by simp)), fun w => ?_⟩
          simp [Instr.sliceAt, Instr.slice, run_underlying (elemOf'_eq he), hb1 w, run_sizeOf hinf, addr_add]
      · rename_i sz l hh k m hes hl hhh
        obtain ⟨inf, hinf, rfl⟩ := esz_eq hes
        obtain ⟨h0, h1, h2, h3, h4, hK⟩ := hk
        obtain ⟨m', hm', hmr⟩ := hmx.1 _ rfl
        rw [hm', hmr.int]
        have hb1 : ∀ w : World, (Instr.sliceBounds true len cap' lo' hi' (some (.int k m))).run P w = .ok (l.toNat, hh.toNat, m.toNat) w := by
          intro w
          have hm1 := run_sliceBound (P := P) (w := w) (k := k) (c := .slice3Acap) (show 0 ≤ m by omega) (show m ≤ (cap' : Int) by omega)
          rcases bnd_rel hlo.1 hlo.2 hl with ⟨_, e1, e2⟩ | ⟨k, _, e1⟩ <;> rcases bnd_rel hhi.1 hhi.2 hhh with ⟨e0, e3, e4⟩ | ⟨k2, _, e3⟩
          · simp [e0] at h4
          · rw [e1, e3]; subst e2; simp [Instr.sliceBounds, hm1, run_sliceBound (show 0 ≤ hh by omega) (show hh ≤ (m.toNat : Int) by omega)]
          · simp [e0] at h4
          · rw [e1, e3]; simp [Instr.sliceBounds, hm1, run_sliceBound (show 0 ≤ hh by omega) (show hh ≤ (m.toNat : Int) by omega), run_sliceBound h0 (show l ≤ (hh.toNat : Int) by omega)]
        refine ⟨_, .slice (some ⟨(ρ b).blk, if m = l then o else o + l.toNat * inf.size, none⟩) (hh - l).toNat (m.toNat - l.toNat), hK, .slice hb, fun w => ?_⟩
        have e5 : hh.toNat - l.toNat = (hh - l).toNat := by omega
        by_cases hc : m = l
        · subst hc
          simp [Instr.sliceAt, Instr.slice, run_underlying (elemOf'_eq he), hb1 w, run_sizeOf hinf, e5]
        · have hc' : ¬ m.toNat = l.toNat := by omega
          simp [Instr.sliceAt, Instr.slice, run_underlying (elemOf'_eq he), hb1 w, run_sizeOf hinf, e5, hc, hc', addr_add]
      · exact hk.elim
    · exact hk.elim
  · rename_i b o
    obtain ⟨_, hb, rfl⟩ := hx.ptr'
    split at hk
    · rename_i m e hu
      split at hk
      · rename_i sz l hh hes hl hhh
        obtain ⟨inf, hinf, rfl⟩ := esz_eq hes
        obtain ⟨h0, h1, h2, hK⟩ := hk
        rw [hmx.2 rfl]
        have hb1 : ∀ w : World, (Instr.sliceBounds false m m lo' hi' none).run P w = .ok (l.toNat, hh.toNat, m) w := by
          intro w
          rcases bnd_rel hlo.1 hlo.2 hl with ⟨_, e1, e2⟩ | ⟨k, _, e1⟩ <;> rcases bnd_rel hhi.1 hhi.2 hhh with ⟨_, e3, e4⟩ | ⟨k2, _, e3⟩ <;> rw [e1, e3]
          · subst e2 e4; simp [Instr.sliceBounds]
          · subst e2; simp [Instr.sliceBounds, run_sliceBound (show 0 ≤ hh by omega) (show hh ≤ (m : Int) by omega)]
          · subst e4; simp [Instr.sliceBounds, run_sliceBound h0 h1]
          · simp [Instr.sliceBounds, run_sliceBound (show 0 ≤ hh by omega) (show hh ≤ (m : Int) by omega), run_sliceBound h0 (show l ≤ (hh.toNat : Int) by omega)]
        refine ⟨_, .slice (some ⟨(ρ b).blk, if (m : Int) = l then o else o + l.toNat * inf.size, none⟩) (hh - l).toNat (m - l.toNat), hK, .slice hb, fun w => ?_⟩
        have e5 : hh.toNat - l.toNat = (hh - l).toNat := by omega
        by_cases hc : (m : Int) = l
        · obtain rfl : l = (m : Int) := hc.symm
          have hb2 := hb1 w
          simp only [Int.toNat_natCast] at hb2
          simp [Instr.sliceAt, Instr.sureAddr, run_underlying hu, hb2, run_sizeOf hinf]
        · have hc' : ¬ m = l.toNat := by omega
          simp [Instr.sliceAt, Instr.sureAddr, run_underlying hu, hb1 w, run_sizeOf hinf, e5, hc, hc', addr_add]
      · exact hk.elim
    · exact hk.elim
  · exact hk.elim
end Go.Am
