/-
  The abstract machine, part P: slices of ints as lists: how they are read.
-/
import Derived.Test.YtemmcfeekpblkaaDoorAmO
set_option linter.all false
namespace Go.Am

/-- Where an element lies. -/
def elemP (v : Value) (sz i : Nat) : Value :=
  match v with
  | .slice (some ⟨b, o, _⟩) _ _ => .pointer (some ⟨b, o + i * sz, none⟩)
  | _ => undef

section
variable {P : Program} {h : Heap} {v : Value} {xs : List Int}
theorem IntSl.len (hv : IntSl h v xs) (K : Value → Prop) : lenK v K = K (vint xs.length) := by
  rcases hv with ⟨rfl, rfl⟩ | ⟨b, o, sp, cap, c, e, ro, rfl, _⟩ <;> rfl
theorem IntSl.idx (hv : IntSl h v xs) {t e : TypeId} (he : elemOf' P t = some e) (hs : esz P e = some 1) {k : IntKind} {i : Nat} (hi : i < xs.length) (K : Value → Prop) :
    idxAddrK P t v (.int k i) K = K (elemP v 1 i) := by
  rcases hv with ⟨rfl, rfl⟩ | ⟨b, o, sp, cap, c, e', ro, rfl, _⟩
  · simp at hi
  · simp only [idxAddrK, he, hs, elemP, Int.toNat_natCast, eq_iff_iff]
    exact ⟨fun h => h.2.2, fun h => ⟨by omega, by omega, h⟩⟩
theorem view_cell {b o : Nat} {c : List Value} {e : TypeId} {ro : Bool} {u : Value} {K : Value → Prop} (hv : view h b = some (c, e, ro)) (hc : c[o]? = some u) : cellK h b o K = K u := by
  unfold view at hv
  unfold cellK
  cases hb : h[b]? with
  | none => simp [hb] at hv
  | some B =>
    rw [hb] at hv
    cases B with
    | cells c' e' ro' => simp [Blk.view] at hv; obtain ⟨rfl, rfl, rfl⟩ := hv; simp [hc]
    | ints ys e' ro' =>
      simp [Blk.view] at hv
      obtain ⟨rfl, rfl, rfl⟩ := hv
      simp only [List.getElem?_map, Option.map_eq_some_iff] at hc
      obtain ⟨y, hy, rfl⟩ := hc
      obtain ⟨hlt, rfl⟩ := List.getElem?_eq_some_iff.1 hy
      simp [hlt]
    | dead => simp [Blk.view] at hv
theorem IntSl.load (hv : IntSl h v xs) {t : TypeId} (hs : shp P t = some none) {i : Nat} (hi : i < xs.length) (K : Value → Prop) : loadK P h t (elemP v 1 i) K = K (vint (xs.getD i 0)) := by
  rcases hv with ⟨rfl, rfl⟩ | ⟨b, o, sp, cap, c, e', ro, rfl, _, hvw, hc⟩
  · simp at hi
  · simp only [elemP, loadK, hs, Nat.mul_one]
    exact view_cell hvw (hc i hi)
/-- It stays what it is while its block does. -/
theorem IntSl.grow (hv : IntSl h v xs) (g : List Blk) : IntSl (h ++ g) v xs := by
  rcases hv with ⟨rfl, rfl⟩ | ⟨b, o, sp, cap, c, e', ro, rfl, hl, hvw, hc⟩
  · exact .inl ⟨rfl, rfl⟩
  · refine .inr ⟨b, o, sp, cap, c, e', ro, rfl, hl, ?_, hc⟩
    have := view_lt hvw
    simp only [view, List.getElem?_append_left this]
    exact hvw
end

def isPick : Op → Bool
  | .pick (.tmp _) _ _ => true
  | _ => false
theorem add1 {n : Nat} (h : n < 9223372036854775807) : addV .i64 n 1 = ((n + 1 : Nat) : Int) := by rw [addV_id (by omega) (by omega)]; omega
theorem beq01 (a b : Bool) : ((if a = true then (1 : Int) else 0) == if b = true then 1 else 0) = (a == b) := by cases a <;> cases b <;> rfl
theorem beq1 (a : Bool) : ((if a = true then (1 : Int) else 0) == 1) = a := by cases a <;> rfl
theorem beq0 (a : Bool) : ((if a = true then (1 : Int) else 0) == 0) = !a := by cases a <;> rfl
theorem isPick_no : (∀ x, isPick (.move x) = false) ∧ (∀ x, isPick (.assign x) = false) ∧ (∀ t, isPick (.alloc t) = false) ∧ (∀ t x, isPick (.box t x) = false) ∧ (∀ t p, isPick (.build t p) = false) ∧ (∀ t n p, isPick (.buildSlice t n p) = false) ∧ (∀ t x, isPick (.load t x) = false) ∧ (∀ t x y, isPick (.store t x y) = false) ∧ (∀ x, isPick (.nilCheck x) = false) ∧ (∀ o t x y u, isPick (.binOp o t x y u) = false) ∧ (∀ o t x, isPick (.unOp o t x) = false) ∧ (∀ a b x, isPick (.convert a b x) = false) ∧ (∀ f a b, isPick (.makeFunc f a b) = false) ∧ (∀ t l c, isPick (.makeSlice t l c) = false) ∧ (∀ t x a b c, isPick (.slice t x a b c) = false) ∧ (∀ t x f, isPick (.fieldAddr t x f) = false) ∧ (∀ t x f, isPick (.field t x f) = false) ∧ (∀ t x i, isPick (.indexAddr t x i) = false) ∧ (∀ t x i, isPick (.index t x i) = false) ∧ (∀ x i, isPick (.extract x i) = false) ∧ (∀ c, isPick (.call c) = false) :=
  ⟨fun _ => rfl, fun _ => rfl, fun _ => rfl, fun _ _ => rfl, fun _ _ => rfl, fun _ _ _ => rfl, fun _ _ => rfl, fun _ _ _ => rfl, fun _ => rfl, fun _ _ _ _ _ => rfl, fun _ _ _ => rfl, fun _ _ _ => rfl, fun _ _ _ => rfl, fun _ _ _ => rfl, fun _ _ _ _ _ => rfl, fun _ _ _ => rfl, fun _ _ _ => rfl, fun _ _ _ => rfl, fun _ _ _ => rfl, fun _ _ => rfl, fun _ => rfl⟩
theorem sops_go {P : Program} [Tabs P] {N : Env → Heap → Prop} {e : Env} {h : Heap} {dst : Option Nat} {op : Op} {l : List SOp} (_ : isPick op = false) :
    sops P N (⟨dst, op, none⟩ :: l) e h = aop P false op (ev e) h (fun v h' => sops P N l (sputO e dst v) h') := rfl
theorem sops_pick_t {P : Program} [Tabs P] {N : Env → Heap → Prop} {e : Env} {h : Heap} {dst : Option Nat} {c : Nat} {a b : Operand} {l : List SOp} (hc : sget e c = .bool true) :
    sops P N (⟨dst, .pick (.tmp c) a b, none⟩ :: l) e h = sops P N l (sputO e dst (ev e a)) h := by
  rw [sops_cons]; simp only [aop, ev, hc, pickK, cond_true]
theorem sops_pick_f {P : Program} [Tabs P] {N : Env → Heap → Prop} {e : Env} {h : Heap} {dst : Option Nat} {c : Nat} {a b : Operand} {l : List SOp} (hc : sget e c = .bool false) :
    sops P N (⟨dst, .pick (.tmp c) a b, none⟩ :: l) e h = sops P N l (sputO e dst (ev e b)) h := by
  rw [sops_cons]; simp only [aop, ev, hc, pickK, cond_false]
/-- What is to hold behind, hidden. -/
theorem aw_hide {P : Program} [Tabs P] {sz : Nat} {sc : SCode} {Q : Exit → Env → Heap → Prop} {e : Env} {h : Heap} (H : ∀ Q' : Exit → Env → Heap → Prop, (∀ x e' h', Q x e' h' → Q' x e' h') → aw P sz sc Q' e h) : aw P sz sc Q e h := H Q fun _ _ _ h => h
theorem aws_hide {P : Program} [Tabs P] {sz : Nat} {sc : SCode} {Q : Exit → Env → Heap → Prop} {e : Env} {h : Heap} (H : ∀ Q' : Exit → Env → Heap → Prop, (∀ x e' h', Q x e' h' → Q' x e' h') → AWS P sz sc Q' e h) : AWS P sz sc Q e h := H Q fun _ _ _ h => h
theorem ele_nil (e : Env) : ELe e [] = True := eq_true (fun _ h => by cases h)
theorem ele_cons (e : Env) (i : Nat) (v : Value) (l : Env) : ELe e ((i, v) :: l) = (sget e i = v ∧ ELe e l) := by
  apply propext
  exact ⟨fun h => ⟨h (i, v) (by simp), fun p hp => h p (by simp [hp])⟩, fun h p hp => by
    rcases List.mem_cons.1 hp with rfl | hp
    · exact h.1
    · exact h.2 p hp⟩

theorem worldless_yes : (∀ x, worldless (.move x) = true) ∧ (∀ x, worldless (.assign x) = true) ∧ (∀ c x y, worldless (.pick c x y) = true) ∧ (∀ t p, worldless (.build t p) = true) ∧ (∀ x, worldless (.nilCheck x) = true) ∧ (∀ o t x y u, worldless (.binOp o t x y u) = true) ∧ (∀ o t x, worldless (.unOp o t x) = true) ∧ (∀ a b x, worldless (.convert a b x) = true) ∧ (∀ f a b, worldless (.makeFunc f a b) = true) ∧ (∀ t x a b c, worldless (.slice t x a b c) = true) ∧ (∀ t x f, worldless (.fieldAddr t x f) = true) ∧ (∀ t x f, worldless (.field t x f) = true) ∧ (∀ t x i, worldless (.indexAddr t x i) = true) ∧ (∀ t x i, worldless (.index t x i) = true) ∧ (∀ x i, worldless (.extract x i) = true) :=
  ⟨fun _ => rfl, fun _ => rfl, fun _ _ _ => rfl, fun _ _ => rfl, fun _ => rfl, fun _ _ _ _ _ => rfl, fun _ _ _ => rfl, fun _ _ _ => rfl, fun _ _ _ => rfl, fun _ _ _ _ _ => rfl, fun _ _ _ => rfl, fun _ _ _ => rfl, fun _ _ _ => rfl, fun _ _ _ => rfl, fun _ _ => rfl⟩
section drawn
variable {P : Program} [Tabs P] {qs : List (Nat × Nat)} {N : Env → Heap → Prop} {i : Nat} {e : Env} {h : Heap} {dst : Option Nat} {op : Op} {l : List SOp}
theorem dops_nil : dops P qs N i [] e h = N e h := rfl
theorem dops_0 (hw : worldless op = true) : dops P qs N i (⟨dst, op, none⟩ :: l) e h = aop P true op (ev e) h (fun v h' => dops P qs N (i + 1) l (sputO e dst v) h') := by simp [dops, cls, hw]
theorem dops_load {t : TypeId} {x : Operand} : dops P [] N i (⟨dst, .load t x, none⟩ :: l) e h = loadK P h t (ev e x) (fun v => dops P [] N (i + 1) l (sputO e dst v) h) := by
  have : cls [] i (.load t x) = 1 := rfl
  simp only [dops, this, aop, true_and]
/-- An effect: a store, an append, a call. -/
theorem dops_3 (hc : cls qs i op = 3) : dops P qs N i (⟨dst, op, none⟩ :: l) e h = aop P true op (ev e) h (fun v h' => dops P qs N (i + 1) l (sputO e dst v) h') := by simp [dops, hc]
end drawn
end Go.Am
