/-
  The abstract machine, part A: values of an abstract heap held against values of the model's heap (up to the numbers of blocks, spare capacity, and what nobody reads), worlds likewise, and what a step keeps.
  The abstract machine, part B: what the operations do on the abstract heap; each held against the model's own operation.
  The abstract machine, part C: stores, new blocks, slices, append.
  The abstract machine, part D: append; slices of slices; literals.
-/
import Derived.RangeFuncNested
import Derived.RangeFuncBound
import Derived.RangeFuncCalls
import Derived.RangeFuncLeaves
import Derived.OrdersIn
import Derived.WalkKit
import Derived.MapKept
set_option linter.all false
namespace Go.Am
structure Loc where
 blk:Nat
 sz:Nat
 es:Nat
inductive Blk where
 | cells (c:List Value) (e:TypeId) (ro:Bool)
 | ints (xs:List Int) (e:TypeId) (ro:Bool)
 | dead
 | map (es:List (Value×Value))
 | iter (m since:Nat) (seen:List Nat) (stepped:Nat)
abbrev Zh:=List Blk
abbrev Zd (n:Int):Value:=.int .i64 n
def Blk.view:Blk→Option (List Value×TypeId×Bool)
 | .cells c e ro=>some (c,e,ro)
 | .ints xs e ro=>some (xs.map Zd,e,ro)
 | .dead=>none
 | .map _=>some ([],0,false)
 | .iter ..=>some ([],0,false)
def Blk.side:Blk→Bool
 | .map _ | .iter ..=>true
 | _=>false
def view (h:Zh) (i:Nat):Option (List Value×TypeId×Bool):=(h[i]?).bind Blk.view
def side (h:Zh) (i:Nat):Bool:=match h[i]? with | some b=>b.side | none=>false
def atom:Value→Bool
 | .bool _ | .int _ _ | .float _ _ | .complex _ _ _ | .string _ | .nilFunc | .nilIface=>true
 | .pointer none | .slice none _ _ | .map none | .chan none=>true
 | _=>false
def skp:Value:=.chan (some 0)
def void:Value:=.chan (some 1)
inductive VRel (n:Nat) (ρ:Nat→Loc):Value→Value→Prop
 | any (v:Value):VRel n ρ undef v
 | skip:VRel n ρ skp undef
 | atom {v:Value} (h:atom v=true):VRel n ρ v v
 | ptr {b o:Nat} (h:b<n):VRel n ρ (.pointer (some ⟨b,o,none⟩)) (.pointer (some ⟨(ρ b).blk,o,none⟩))
 | slice {b o len cap:Nat} (h:b<n):VRel n ρ (.slice (some ⟨b,o,none⟩) len cap) (.slice (some ⟨(ρ b).blk,o,none⟩) len cap)
 | loose {b o len cap cap' : Nat} (h:b<n) (hc:cap≤cap') (hs:o=0→o+cap' * (ρ b).es=(ρ b).sz) :
    VRel n ρ (.slice (some ⟨b,o,some 0⟩) len cap) (.slice (some ⟨(ρ b).blk,o,none⟩) len cap')
 | void {a:Addr} {cap:Nat}:VRel n ρ (.chan (some 1)) (.slice (some a) 0 cap)
 | mapv {b:Nat} (h:b<n):VRel n ρ (.map (some b)) (.map (some (ρ b).blk))
 | func {f:FuncId} {xs ys us vs:Array Value} (h1:xs.size=ys.size) (h2:us.size=vs.size) (h3 : ∀ i,i<xs.size→VRel n ρ (xs.getD i undef) (ys.getD i undef))
    (h4 : ∀ i,i<us.size→VRel n ρ (us.getD i undef) (vs.getD i undef)):VRel n ρ (.func (.func f) xs us) (.func (.func f) ys vs)
 | agg {xs ys:Array Value} (h1:xs.size=ys.size) (h3 : ∀ i,i<xs.size→VRel n ρ (xs.getD i undef) (ys.getD i undef)):VRel n ρ (.agg xs) (.agg ys)
 | tuple {xs ys:Array Value} (h1:xs.size=ys.size) (h3 : ∀ i,i<xs.size→VRel n ρ (xs.getD i undef) (ys.getD i undef)):VRel n ρ (.tuple xs) (.tuple ys)
section vrel
variable {n n' : Nat} {ρ ρ' : Nat→Loc} {v v' u:Value}
theorem VRel.mono (h:VRel n ρ v v') (hn:n≤n') (ha : ∀ i,i<n→ρ' i=ρ i):VRel n' ρ' v v':=by
 induction h with
 | any v=>exact .any v
 | skip=>exact .skip
 | atom h=>exact .atom h
 | ptr h=>rw [← ha _ h]; exact .ptr (Nat.lt_of_lt_of_le h hn)
 | slice h=>rw [← ha _ h]; exact .slice (Nat.lt_of_lt_of_le h hn)
 | loose h hc hs=>rw [← ha _ h] at hs ⊢; exact .loose (Nat.lt_of_lt_of_le h hn) hc hs
 | void=>exact .void
 | mapv h=>rw [← ha _ h]; exact .mapv (Nat.lt_of_lt_of_le h hn)
 | func h1 h2 _ _ i3 i4=>exact .func h1 h2 i3 i4
 | agg h1 _ i3=>exact .agg h1 i3
 | tuple h1 _ i3=>exact .tuple h1 i3
theorem VRel.restrict {x:Value} (h:VRel n ρ v x) : ∀ {v' : Value},VRel n' ρ' v v'→(∀ i,i<n→ρ' i=ρ i)→VRel n ρ' v v':=by
 induction h with
 | any v=>intro v' _ _; exact .any _
 | skip =>
   intro v' h' _
   cases h' with
   | skip=>exact .skip
   | atom h=>simp [Am.atom,skp] at h
 | atom h =>
   intro v' h' _
   cases h' with
   | any=>exact .any _
   | atom h=>exact .atom h
   | _=>simp [Am.atom,skp] at h
 | ptr h =>
   intro v' h' ha
   cases h' with
   | atom h=>simp [Am.atom] at h
   | ptr _=>exact .ptr h
 | slice h =>
   intro v' h' ha
   cases h' with
   | atom h=>simp [Am.atom] at h
   | slice _=>exact .slice h
 | loose h hc hs =>
   intro v' h' ha
   cases h' with
   | atom h=>simp [Am.atom] at h
   | loose _ hc hs=>exact .loose h hc hs
 | void =>
   intro v' h' _
   cases h' with
   | atom h=>simp [Am.atom] at h
   | void=>exact .void
 | mapv h =>
   intro v' h' ha
   cases h' with
   | atom h=>simp [Am.atom] at h
   | mapv _=>exact .mapv h
 | func h1 h2 _ _ i3 i4 =>
   intro v' h' ha
   cases h' with
   | atom h=>simp [Am.atom] at h
   | func g1 g2 g3 g4=>exact .func g1 g2 (fun i hi=>i3 i hi (g3 i hi) ha) (fun i hi=>i4 i hi (g4 i hi) ha)
 | agg h1 _ i3 =>
   intro v' h' ha
   cases h' with
   | atom h=>simp [Am.atom] at h
   | agg g1 g3=>exact .agg g1 (fun i hi=>i3 i hi (g3 i hi) ha)
 | tuple h1 _ i3 =>
   intro v' h' ha
   cases h' with
   | any=>exact .any _
   | atom h=>simp [Am.atom] at h
   | tuple g1 g3=>exact .tuple g1 (fun i hi=>i3 i hi (g3 i hi) ha)
theorem VRel.atom_eq (h:VRel n ρ v v') (ha:Am.atom v=true):v' = v:=by
 cases h <;> first | rfl | simp [Am.atom,undef,skp] at ha
def gv:Option Bool→Value
 | some b=>.bool b
 | none=>skp
def boolOf:Value→Option Bool
 | .bool b=>some b
 | _=>none
theorem VRel.gv {g:Option Bool} (h:VRel n ρ (gv g) v'):boolOf v' = g:=by
 cases g with
 | some b=>rw [h.atom_eq rfl]; rfl
 | none =>
   unfold Am.gv skp at h
   cases h with
   | skip=>rfl
   | atom h=>simp [Am.atom] at h
theorem VRel.int {k:IntKind} {a:Int} (h:VRel n ρ (.int k a) v'):v' = .int k a:=h.atom_eq rfl
theorem VRel.bool {b:Bool} (h:VRel n ρ (.bool b) v'):v' = .bool b:=h.atom_eq rfl
theorem VRel.ptr' {b o:Nat} {s:Option Nat} (h:VRel n ρ (.pointer (some ⟨b,o,s⟩)) v'):s=none∧b<n∧v' = .pointer (some ⟨(ρ b).blk,o,none⟩):=by
 cases h with
 | atom h=>simp [Am.atom] at h
 | ptr h=>exact ⟨rfl,h,rfl⟩
theorem VRel.sl {b o len cap:Nat} {s:Option Nat} (h:VRel n ρ (.slice (some ⟨b,o,s⟩) len cap) v') :
  b<n∧∃ cap',cap≤cap'∧(s=none→cap' = cap)∧(s≠none→o=0→o+cap' * (ρ b).es=(ρ b).sz)∧v' = .slice (some ⟨(ρ b).blk,o,none⟩) len cap'∧(s=none∨s=some 0):=by
 cases h with
 | atom h=>simp [Am.atom] at h
 | slice h=>exact ⟨h,cap,Nat.le_refl _,fun _=>rfl,fun h=>absurd rfl h,rfl,.inl rfl⟩
 | loose h hc hs=>exact ⟨h,_,hc,(fun h=>by cases h),fun _=>hs,rfl,.inr rfl⟩
theorem VRel.map' {b:Nat} (h:VRel n ρ (.map (some b)) v'):b<n∧v' = .map (some (ρ b).blk):=by
 cases h with
 | atom h=>simp [Am.atom] at h
 | mapv h=>exact ⟨h,rfl⟩
theorem VRel.agg' {xs:Array Value} (h:VRel n ρ (.agg xs) v') : ∃ ys,v' = .agg ys∧xs.size=ys.size∧∀ i,i<xs.size→VRel n ρ (xs.getD i undef) (ys.getD i undef):=by
 cases h with
 | atom h=>simp [Am.atom] at h
 | agg h1 h3=>exact ⟨_,rfl,h1,h3⟩
theorem VRel.func' {f:FuncId} {xs us:Array Value} (h:VRel n ρ (.func (.func f) xs us) v') : ∃ ys vs,v' = .func (.func f) ys vs∧xs.size=ys.size∧us.size=vs.size ∧
  (∀ i,i<xs.size→VRel n ρ (xs.getD i undef) (ys.getD i undef))∧∀ i,i<us.size→VRel n ρ (us.getD i undef) (vs.getD i undef):=by
 cases h with
 | atom h=>simp [Am.atom] at h
 | func h1 h2 h3 h4=>exact ⟨_,_,rfl,h1,h2,h3,h4⟩
theorem VRel.tuple' {xs:Array Value} (h:VRel n ρ (.tuple xs) v') (hx:xs≠#[]) : ∃ ys,v' = .tuple ys∧xs.size=ys.size∧∀ i,i<xs.size→VRel n ρ (xs.getD i undef) (ys.getD i undef):=by
 cases h with
 | any=>exact absurd rfl hx
 | atom h=>simp [Am.atom] at h
 | tuple h1 h3=>exact ⟨_,rfl,h1,h3⟩
end vrel
class Tabs (P:Program) where
 tabs:List (Nat×Obj)
def Mine (h:Zh) (ρ:Nat→Loc) (k:Nat):Prop:=∃ i c e,view h i=some (c,e,false)∧(ρ i).blk=k
def flat:Value→Bool
 | .agg xs=>xs.toList.all atom
 | v=>atom v
def SRel (n:Nat) (ρ:Nat→Loc):Blk→Obj→Prop
 | .map es,o=>∃ E:Array MapEntry,o = .map E es.length∧E.size=es.length∧∀ k x,E[k]? = some x→x.born=k∧x.key=(es.getD k (undef,undef)).1∧flat x.key=true∧VRel n ρ (es.getD k (undef,undef)).2 x.val
 | .iter m since seen stepped,o=>o = .mapIter (some (ρ m).blk) since seen.toArray stepped∧m<n
 | _,_=>True
theorem SRel.mono {n n' : Nat} {ρ ρ' : Nat→Loc} {b:Blk} {o:Obj} (h:SRel n ρ b o) (hn:n≤n') (ha : ∀ i,i<n→ρ' i=ρ i):SRel n' ρ' b o:=by
 cases b with
 | map es =>
   obtain ⟨E,h1,h2,h3⟩:=h
   exact ⟨E,h1,h2,fun k x hk=>let ⟨g1,g2,g3,g4⟩:=h3 k x hk; ⟨g1,g2,g3,g4.mono hn ha⟩⟩
 | iter m since seen stepped =>
   obtain ⟨h1,h2⟩:=h
   exact ⟨by rw [ha m h2]; exact h1,Nat.lt_of_lt_of_le h2 hn⟩
 | _=>trivial
theorem SRel.restrict {n n' : Nat} {ρ ρ' : Nat→Loc} {b:Blk} {o o' : Obj} (h:SRel n ρ b o) (h' : SRel n' ρ' b o') (ha : ∀ i,i<n→ρ' i=ρ i):SRel n ρ' b o':=by
 cases b with
 | map es =>
   obtain ⟨E,h1,h2,h3⟩:=h
   obtain ⟨E',g1,g2,g3⟩:=h'
   refine ⟨E',g1,g2,fun k x hk=>?_⟩
   obtain ⟨f1,f2,f3,f4⟩:=g3 k x hk
   have hkl:k<E.size:=by have:=(Array.getElem?_eq_some_iff.1 hk).1; omega
   exact ⟨f1,f2,f3,(h3 k E[k] (Array.getElem?_eq_getElem hkl)).2.2.2.restrict f4 ha⟩
 | iter m since seen stepped=>exact ⟨h'.1,h.2⟩
 | _=>trivial
def ownObj:Obj→Bool
 | .cells .. | .map .. | .mapIter ..=>true
 | _=>false
theorem SRel.own {n:Nat} {ρ:Nat→Loc} {b:Blk} {o:Obj} (h:SRel n ρ b o) (hb:b.side=true):ownObj o=true∧o.isCells=false:=by
 cases b with
 | map es=>obtain ⟨E,rfl,_⟩:=h; exact ⟨rfl,rfl⟩
 | iter m since seen stepped=>obtain ⟨rfl,_⟩:=h; exact ⟨rfl,rfl⟩
 | _=>cases hb
theorem side_spec {h:Zh} {i:Nat} (hs:side h i=true) : ∃ b,h[i]? = some b∧b.side=true:=by
 unfold side at hs
 cases hi:h[i]? with
 | none=>simp [hi] at hs
 | some b=>exact ⟨b,rfl,by simpa [hi] using hs⟩
theorem side_view {h:Zh} {i:Nat} {c:List Value} {e:TypeId} {ro:Bool} (hv:view h i=some (c,e,ro)) (hs:side h i=true):c=[]∧ro=false:=by
 obtain ⟨b,h1,h2⟩:=side_spec hs
 rw [view,h1] at hv
 cases b <;> simp [Blk.side] at h2 <;> simp [Blk.view] at hv <;> exact ⟨hv.1.symm▸rfl,hv.2.2.symm▸rfl⟩
structure Sim (P:Program) [Tabs P] (ρ:Nat→Loc) (h:Zh) (w:World):Prop where
 cells : ∀ i c e ro,view h i=some (c,e,ro)→side h i=false→∃ c' fr,w.heap[(ρ i).blk]? = some (.cells c' e fr)∧c'.size=(ρ i).sz∧c.length≤c'.size ∧
  (∀ k,k<c.length→VRel h.length ρ (c.getD k undef) (c'.getD k undef))∧(ro=false→fr=(0,0)∧(P.info? e).map (·.size)=some (ρ i).es)
 sides : ∀ i b,h[i]? = some b→b.side=true→∃ o,w.heap[(ρ i).blk]? = some o∧SRel h.length ρ b o
 inj : ∀ i j x y,view h i=some x→view h j=some y→(ρ i).blk=(ρ j).blk→i=j
 tab : ∀ p∈Tabs.tabs P,w.heap[p.1]? = some p.2∧¬ Mine h ρ p.1
def Live (h:Zh) (ρ:Nat→Loc) (k:Nat):Prop:=∃ i x,view h i=some x∧(ρ i).blk=k
structure Evo (h:Zh) (ρ:Nat→Loc) (w:World) (h' : Zh) (ρ' : Nat→Loc) (w' : World):Prop where
 len:h.length≤h'.length
 agree : ∀ i,i<h.length→ρ' i=ρ i
 wsize:w.heap.size≤w'.heap.size
 os:w'.os=w.os
 tape:w'.tape=w.tape
 output:w'.output=w.output
 keep : ∀ k,k<w.heap.size→¬ Mine h ρ k→w'.heap[k]? = w.heap[k]?
 orig : ∀ k,Mine h' ρ' k→w.heap.size≤k∨Mine h ρ k
 live : ∀ k,Live h' ρ' k→w.heap.size≤k∨Live h ρ k
theorem Evo.refl (h:Zh) (ρ:Nat→Loc) (w:World):Evo h ρ w h ρ w :=
 ⟨Nat.le_refl _,fun _ _=>rfl,Nat.le_refl _,rfl,rfl,rfl,fun _ _ _=>rfl,fun _ hk=>.inr hk,fun _ hk=>.inr hk⟩
theorem Evo.tab {h h' : Zh} {ρ ρ' : Nat→Loc} {w w' : World} (a:Evo h ρ w h' ρ' w') {k:Nat} {o:Obj} (ht:w.heap[k]? = some o∧¬ Mine h ρ k):w'.heap[k]? = some o∧¬ Mine h' ρ' k:=by
 have hk:=(Array.getElem?_eq_some_iff.1 ht.1).1
 exact ⟨(a.keep k hk ht.2).trans ht.1,fun hm=>(a.orig k hm).elim (fun h=>by omega) ht.2⟩
theorem Evo.trans {h h1 h2:Zh} {ρ ρ1 ρ2:Nat→Loc} {w w1 w2:World} (a:Evo h ρ w h1 ρ1 w1) (b:Evo h1 ρ1 w1 h2 ρ2 w2):Evo h ρ w h2 ρ2 w2 where
 len:=Nat.le_trans a.len b.len
 agree i hi:=(b.agree i (Nat.lt_of_lt_of_le hi a.len)).trans (a.agree i hi)
 wsize:=Nat.le_trans a.wsize b.wsize
 os:=b.os.trans a.os
 tape:=b.tape.trans a.tape
 output:=b.output.trans a.output
 keep k hk hm:=(b.keep k (Nat.lt_of_lt_of_le hk a.wsize) (fun hm1=>(a.orig k hm1).elim (fun h=>by omega) hm)).trans (a.keep k hk hm)
 orig k hk:=(b.orig k hk).elim (fun h=>.inl (Nat.le_trans a.wsize h)) (a.orig k)
 live k hk:=(b.live k hk).elim (fun h=>.inl (Nat.le_trans a.wsize h)) (a.live k)
theorem Evo.other {P:Program} [Tabs P] {h h' : Zh} {ρ ρ' : Nat→Loc} {w w' : World} (a:Evo h ρ w h' ρ' w') (s:Sim P ρ h w) {k:Nat} {o:Obj} (hk:w.heap[k]? = some o) (ho:ownObj o=false) :
  w'.heap[k]? = some o:=by
 rw [a.keep k (Array.getElem?_eq_some_iff.1 hk).1,hk]
 rintro ⟨i,c,e,hv,he⟩
 cases hs:side h i with
 | true =>
   obtain ⟨b,h1,h2⟩:=side_spec hs
   obtain ⟨o',h3,h4⟩:=s.sides i b h1 h2
   rw [he,hk] at h3; cases h3
   rw [(h4.own h2).1] at ho; cases ho
 | false =>
   obtain ⟨c',fr,hc,_⟩:=s.cells i c e false hv hs
   rw [he,hk] at hc
   cases hc
   cases ho
abbrev Env:=List (Nat×Value)
def sget:Env→Nat→Value
 | [],_=>undef
 | (i,v)::e,n=>bif i==n then v else sget e n
def sput:Env→Nat→Value→Env
 | [],n,v=>[(n,v)]
 | (i,x)::e,n,v=>bif i==n then (n,v)::e else (i,x)::sput e n v
def Zf (e:Env):Option Nat→Value→Env
 | none,_=>e
 | some d,v=>sput e d v
def ev (e:Env):Operand→Value
 | .tmp t=>sget e t
 | .const v=>v
 | .global g=>.pointer (some ⟨g,0,none⟩)
 | .func f=>.func (.func f) #[] #[]
theorem sget_sput (e:Env) (d i:Nat) (v:Value):sget (sput e d v) i=if d=i then v else sget e i:=by
 induction e with
 | nil=>simp [sput,sget,cond_eq_ite]
 | cons p e ih =>
   obtain ⟨j,x⟩:=p
   simp only [sput,sget,cond_eq_ite,beq_iff_eq]
   by_cases hj:j=d
   · subst hj
     simp only [if_true,sget,cond_eq_ite,beq_iff_eq]
     by_cases hi:j=i <;> simp [hi]
   · simp only [if_neg hj,sget,cond_eq_ite,beq_iff_eq,ih]
     by_cases hi:j=i
     · subst hi; simp [Ne.symm hj]
     · simp [hi]
def ERel (n:Nat) (ρ:Nat→Loc) (e:Env) (t:Array Value):Prop:=∀ i,i<t.size→VRel n ρ (sget e i) (t.getD i undef)
def ELe (e e1:Env):Prop:=∀ p∈e1,sget e p.1=p.2
theorem ELe.get {e e1:Env} (h:ELe e e1) (i:Nat):sget e1 i=undef∨sget e1 i=sget e i:=by
 induction e1 with
 | nil=>exact .inl rfl
 | cons p l ih =>
   obtain ⟨j,x⟩:=p
   simp only [Am.sget,cond_eq_ite,beq_iff_eq]
   by_cases hj:j=i
   · subst hj; simp only [if_true]; exact .inr (h (j,x) (by simp)).symm
   · simp only [if_neg hj]; exact ih (fun p hp=>h p (by simp [hp]))
theorem ERel.le {n:Nat} {ρ:Nat→Loc} {e e1:Env} {t:Array Value} (h:ERel n ρ e t) (hl:ELe e e1):ERel n ρ e1 t:=by
 intro i hi
 rcases hl.get i with h1 | h1
 · rw [h1]; exact .any _
 · rw [h1]; exact h i hi
theorem ERel.mono {n n' : Nat} {ρ ρ' : Nat→Loc} {e:Env} {t:Array Value} (h:ERel n ρ e t) (hn:n≤n') (ha : ∀ i,i<n→ρ' i=ρ i):ERel n' ρ' e t :=
 fun i hi=>(h i hi).mono hn ha
theorem ERel.put {n:Nat} {ρ:Nat→Loc} {e:Env} {t:Array Value} {v v' : Value} {d:Nat} (h:ERel n ρ e t) (hv:VRel n ρ v v'):ERel n ρ (Am.sput e d v) (t.setIfInBounds d v'):=by
 intro i hi
 rw [sget_sput]
 simp only [Array.size_setIfInBounds] at hi
 by_cases hd:d=i
 · subst hd; simp [Array.getD,hi,hv]
 · rw [if_neg hd]
   have e1:(t.setIfInBounds d v').getD i undef=t.getD i undef:=by simp [Array.getElem?_setIfInBounds_ne hd]
   rw [e1]; exact h i hi
structure ARel (r:Option Nat) (m sz:Nat) (ρ:Nat→Loc) (h:Zh) (e:Env) (a:Act) (w:World):Prop where
 size:a.tmps.size=sz
 env:ERel h.length ρ e a.tmps
 marks : ∃ Ds:List Nat,a.defers=Ds.map (fun D=>{ target:=.collected D,args:=#[] })∧Ds.Nodup∧∀ D∈Ds,m≤D∧w.heap[D]? = some (.deferred (some []))
 round : ∀ l,r=some l→∃ rec,w.heap[l]? = some (.loop rec)
theorem ARel.evo {P:Program} [Tabs P] {r:Option Nat} {m sz:Nat} {ρ ρ' : Nat→Loc} {h h' : Zh} {e:Env} {a:Act} {w w' : World} (x:ARel r m sz ρ h e a w) (s:Sim P ρ h w) (v:Evo h ρ w h' ρ' w') :
  ARel r m sz ρ' h' e a w' where
 size:=x.size
 env:=x.env.mono v.len v.agree
 marks:=let ⟨Ds,h1,h2,h3⟩:=x.marks; ⟨Ds,h1,h2,fun D hD=>⟨(h3 D hD).1,v.other s (h3 D hD).2 rfl⟩⟩
 round l hl:=let ⟨rec,hr⟩:=x.round l hl; ⟨rec,v.other s hr rfl⟩
theorem ARel.put {r:Option Nat} {m sz:Nat} {ρ:Nat→Loc} {h:Zh} {e:Env} {a:Act} {w:World} (x:ARel r m sz ρ h e a w) {dst:Option Nat} {v v' : Value} (hv:VRel h.length ρ v v') :
  ARel r m sz ρ h (Zf e dst v) (a.put dst v') w:=by
 cases dst with
 | none=>exact x
 | some d=>exact ⟨by simp [Act.put,x.size],x.env.put hv,x.marks,x.round⟩
theorem ARel.le {r:Option Nat} {m sz:Nat} {ρ:Nat→Loc} {h:Zh} {e e1:Env} {a:Act} {w:World} (x:ARel r m sz ρ h e a w) (hl:ELe e e1):ARel r m sz ρ h e1 a w :=
 ⟨x.size,x.env.le hl,x.marks,x.round⟩
def vok (sz:Nat):Operand→Prop
 | .tmp t=>t<sz
 | .const v=>atom v=true∨∃ k,v = .agg k∧∀ i,i<k.size→atom (k.getD i undef)=true
 | .global _=>False
 | .func _=>True
theorem ARel.ev {r:Option Nat} {m sz:Nat} {ρ:Nat→Loc} {h:Zh} {e:Env} {a:Act} {w:World} (x:ARel r m sz ρ h e a w) {o:Operand} (ho:vok sz o):VRel h.length ρ (ev e o) (a.eval o):=by
 cases o with
 | tmp t=>exact x.env t (by rw [x.size]; exact ho)
 | const v =>
   rcases ho with ho | ⟨k,rfl,hk⟩
   · exact .atom ho
   · exact .agg rfl (fun i hi=>.atom (hk i hi))
 | global g=>exact ho.elim
 | func f=>exact .func rfl rfl (fun i hi=>by simp at hi) (fun i hi=>by simp at hi)
end Go.Am
namespace Go.Am
section heapfacts
variable {P:Program} [Tabs P] {ρ ρ' : Nat→Loc} {h:Zh} {w:World}
theorem Wn {i:Nat} {x:List Value×TypeId×Bool} (hv:view h i=some x):i<h.length:=by
 unfold view at hv
 cases hi:h[i]? with
 | none=>simp [hi] at hv
 | some b=>exact (List.getElem?_eq_some_iff.1 hi).1
theorem view_append {g:Zh} {i:Nat} (hi:i<h.length):view (h++g) i=view h i:=by
 unfold view; rw [List.getElem?_append_left hi]
theorem view_new {b:Blk}:view (h++[b]) h.length=b.view:=by
 unfold view; rw [List.getElem?_append_right (Nat.le_refl _)]; simp
theorem Xi {b:Blk} {i:Nat} {x:List Value×TypeId×Bool} (hv:view (h++[b]) i=some x):(i<h.length∧view h i=some x)∨(i=h.length∧b.view=some x):=by
 have hl:=Wn hv
 simp at hl
 by_cases hi:i<h.length
 · rw [view_append hi] at hv; exact .inl ⟨hi,hv⟩
 · have:i=h.length:=by omega
   subst this
   rw [view_new] at hv; exact .inr ⟨rfl,hv⟩
theorem view_set {b:Blk} {i j:Nat} (hi:i<h.length):view (h.set i b) j=if i=j then b.view else view h j:=by
 unfold view
 rw [List.getElem?_set]
 by_cases hij:i=j
 · subst hij; simp [hi]
 · simp [hij]
theorem side_append {g:Zh} {i:Nat} (hi:i<h.length):side (h++g) i=side h i:=by
 unfold side; rw [List.getElem?_append_left hi]
theorem side_new {b:Blk}:side (h++[b]) h.length=b.side:=by
 unfold side; rw [List.getElem?_append_right (Nat.le_refl _)]; simp
theorem side_set {b:Blk} {i j:Nat} (hi:i<h.length):side (h.set i b) j=if i=j then b.side else side h j:=by
 unfold side
 rw [List.getElem?_set]
 by_cases hij:i=j
 · subst hij; simp [hi]
 · simp [hij]
theorem Wz {i:Nat} {b:Blk} (hb:h[i]? = some b):side h i=b.side:=by unfold side; rw [hb]
def Loc.upd (ρ:Nat→Loc) (i:Nat) (l:Loc):Nat→Loc:=fun j=>if j=i then l else ρ j
theorem Loc.upd_same (ρ:Nat→Loc) (i:Nat) (l:Loc):Loc.upd ρ i l i=l:=by simp [Loc.upd]
theorem Loc.upd_lt (ρ:Nat→Loc) {i j:Nat} (l:Loc) (h:j<i):Loc.upd ρ i l j=ρ j:=by simp [Loc.upd,Nat.ne_of_lt h]
theorem Sim.lt (s:Sim P ρ h w) {i:Nat} {x:List Value×TypeId×Bool} (hv:view h i=some x):(ρ i).blk<w.heap.size:=by
 obtain ⟨c,e,ro⟩:=x
 cases hs:side h i with
 | true =>
   obtain ⟨b,h1,h2⟩:=side_spec hs
   obtain ⟨o',h3,_⟩:=s.sides i b h1 h2
   exact (Array.getElem?_eq_some_iff.1 h3).1
 | false =>
   obtain ⟨c',fr,hc,_⟩:=s.cells i c e ro hv hs
   exact (Array.getElem?_eq_some_iff.1 hc).1
theorem Sim.noSide (s:Sim P ρ h w) {i:Nat} {c' : Array Value} {e:TypeId} {fr:Nat×Nat} (hc:w.heap[(ρ i).blk]? = some (.cells c' e fr)):side h i=false:=by
 cases hs:side h i with
 | false=>rfl
 | true =>
   obtain ⟨b,h1,h2⟩:=side_spec hs
   obtain ⟨o',h3,h4⟩:=s.sides i b h1 h2
   rw [hc] at h3; cases h3
   have:=(h4.own h2).2
   cases this
theorem Sim.cell (s:Sim P ρ h w) {i k:Nat} {c:List Value} {e:TypeId} {ro:Bool} {v:Value} (hv:view h i=some (c,e,ro)) (hk:c[k]? = some v) :
  ∃ v',w.cell? ⟨(ρ i).blk,k,none⟩=some v'∧VRel h.length ρ v v':=by
 have hkl:k<c.length:=(List.getElem?_eq_some_iff.1 hk).1
 have hns:side h i=false:=by
  cases hs:side h i with
  | false=>rfl
  | true=>rw [(side_view hv hs).1] at hkl; simp at hkl
 obtain ⟨c',fr,hc,hsz,hle,hr,_⟩:=s.cells i c e ro hv hns
 have:=hr k hkl
 refine ⟨c'.getD k undef,?_,?_⟩
 · have hk' : k<c'.size:=by omega
   simp [World.cell?,hc,Array.getElem?_eq_getElem hk']
 · have e1:c.getD k undef=v:=by simp [List.getD,hk]
   rw [e1] at this; exact this
theorem List.getElem?_append_left_or {α:Type} {h:List α} {b x:α} {i:Nat} (hi:(h++[b])[i]? = some x):(i<h.length∧h[i]? = some x)∨x=b:=by
 by_cases hl:i<h.length
 · rw [List.getElem?_append_left hl] at hi; exact .inl ⟨hl,hi⟩
 · rw [List.getElem?_append_right (by omega)] at hi
   right
   cases hk:i-h.length with
   | zero=>rw [hk] at hi; simpa using hi.symm
   | succ n=>rw [hk] at hi; simp at hi
theorem Sim.alloc (s:Sim P ρ h w) {b:Blk} {c:List Value} {e:TypeId} {c' : Array Value} {es:Nat} (hb:b.view=some (c,e,false)) (hbs:b.side=false) (hle:c.length≤c'.size)
  (hr : ∀ k,k<c.length→VRel h.length ρ (c.getD k undef) (c'.getD k undef)) (he:(P.info? e).map (·.size)=some es) :
  Sim P (Loc.upd ρ h.length ⟨w.heap.size,c'.size,es⟩) (h++[b]) (w.alloc (.cells c' e)) ∧
   Evo h ρ w (h++[b]) (Loc.upd ρ h.length ⟨w.heap.size,c'.size,es⟩) (w.alloc (.cells c' e)):=by
 have hag : ∀ i,i<h.length→Loc.upd ρ h.length ⟨w.heap.size,c'.size,es⟩ i=ρ i:=fun i hi=>Loc.upd_lt ρ _ hi
 have hnew:(w.alloc (.cells c' e)).heap[w.heap.size]? = some (.cells c' e (0,0)):=World.alloc_heap_new w _
 have hold : ∀ k,k<w.heap.size→(w.alloc (.cells c' e)).heap[k]? = w.heap[k]?:=fun k hk=>Go.RowKit.Below.heap_alloc w _ k hk
 have hEvo:Evo h ρ w (h++[b]) (Loc.upd ρ h.length ⟨w.heap.size,c'.size,es⟩) (w.alloc (.cells c' e)):=by
  refine ⟨by simp,hag,by simp,rfl,rfl,rfl,fun k hk _=>hold k hk,?_,?_⟩
  · rintro k ⟨i,c1,e1,hv,rfl⟩
    rcases Xi hv with ⟨hi,hv1⟩ | ⟨rfl,hv1⟩
    · right; exact ⟨i,c1,e1,hv1,by rw [hag i hi]⟩
    · left; rw [Loc.upd_same]; exact Nat.le_refl _
  · rintro k ⟨i,x1,hv,rfl⟩
    rcases Xi hv with ⟨hi,hv1⟩ | ⟨rfl,hv1⟩
    · right; exact ⟨i,x1,hv1,by rw [hag i hi]⟩
    · left; rw [Loc.upd_same]; exact Nat.le_refl _
 refine ⟨⟨?_,?_,?_,fun p hp=>hEvo.tab (s.tab p hp)⟩,hEvo⟩
 rotate_left
 · intro i b1 hi1 hb1
   rcases List.getElem?_append_left_or hi1 with ⟨hi,h2⟩ | h2
   · obtain ⟨o,h3,h4⟩:=s.sides i b1 h2 hb1
     rw [hag i hi]
     exact ⟨o,(hold _ (Array.getElem?_eq_some_iff.1 h3).1).trans h3,h4.mono (by simp) hag⟩
   · rw [h2] at hb1; rw [hbs] at hb1; cases hb1
 rotate_left
 · intro i c1 e1 ro1 hv hns
   rcases Xi hv with ⟨hi,hv1⟩ | ⟨rfl,hv1⟩
   · obtain ⟨c2,fr,hc,hsz,hl,hrel,hw⟩:=s.cells i c1 e1 ro1 hv1 (by rw [side_append hi] at hns; exact hns)
     rw [hag i hi]
     refine ⟨c2,fr,?_,hsz,hl,fun k hk=>(hrel k hk).mono (by simp) hag,hw⟩
     rw [hold _ (Array.getElem?_eq_some_iff.1 hc).1]; exact hc
   · rw [hb] at hv1; cases hv1
     rw [Loc.upd_same]
     exact ⟨c',(0,0),hnew,rfl,hle,fun k hk=>(hr k hk).mono (by simp) hag,fun _=>⟨rfl,he⟩⟩
 · intro i j x y hi hj hij
   rcases Xi hi with ⟨hi1,hi2⟩ | ⟨rfl,hi2⟩ <;> rcases Xi hj with ⟨hj1,hj2⟩ | ⟨rfl,hj2⟩
   · rw [hag i hi1,hag j hj1] at hij; exact s.inj i j x y hi2 hj2 hij
   · rw [hag i hi1,Loc.upd_same] at hij; have:=s.lt hi2; simp only at hij; omega
   · rw [hag j hj1,Loc.upd_same] at hij; have:=s.lt hj2; simp only at hij; omega
   · rfl
def setRow (w:World) (b:Nat) (c:Array Value) (e:TypeId):World:={ w with heap:=w.heap.setIfInBounds b (.cells c e) }
theorem Sim.write (s:Sim P ρ h w) {i:Nat} {b:Blk} {c c1:List Value} {e:TypeId} {c' c1' : Array Value} (hv:view h i=some (c,e,false)) (hb:b.view=some (c1,e,false)) (hbs:b.side=false)
  (hc:w.heap[(ρ i).blk]? = some (.cells c' e (0,0))) (hsz:c1'.size=c'.size) (hle:c1.length≤c1'.size) (hr : ∀ k,k<c1.length→VRel h.length ρ (c1.getD k undef) (c1'.getD k undef)) :
  Sim P ρ (h.set i b) (setRow w (ρ i).blk c1' e)∧Evo h ρ w (h.set i b) ρ (setRow w (ρ i).blk c1' e):=by
 have hil:=Wn hv
 have hbl:=s.lt hv
 have hlen:(h.set i b).length=h.length:=by simp
 have hother : ∀ k,k≠(ρ i).blk→(setRow w (ρ i).blk c1' e).heap[k]? = w.heap[k]?:=fun k hk=>by simp [setRow,Array.getElem?_setIfInBounds_ne (Ne.symm hk)]
 have hsame:(setRow w (ρ i).blk c1' e).heap[(ρ i).blk]? = some (.cells c1' e (0,0)):=by simp [setRow,hbl]
 obtain ⟨c2,fr,hc2,hsz2,_,_,hw2⟩:=s.cells i c e false hv (s.noSide hc)
 rw [hc] at hc2; cases hc2
 have hEvo:Evo h ρ w (h.set i b) ρ (setRow w (ρ i).blk c1' e):=by
  refine ⟨by simp,fun _ _=>rfl,by simp [setRow],rfl,rfl,rfl,?_,?_,?_⟩
  · intro k hk hm
    exact hother k (fun he=>hm ⟨i,c,e,hv,he.symm⟩)
  · rintro k ⟨j,cj,ej,hj,rfl⟩
    right
    rw [view_set hil] at hj
    by_cases hij:i=j
    · subst hij; exact ⟨i,c,e,hv,rfl⟩
    · rw [if_neg hij] at hj; exact ⟨j,cj,ej,hj,rfl⟩
  · rintro k ⟨j,xj,hj,rfl⟩
    right
    rw [view_set hil] at hj
    by_cases hij:i=j
    · subst hij; exact ⟨i,_,hv,rfl⟩
    · rw [if_neg hij] at hj; exact ⟨j,xj,hj,rfl⟩
 refine ⟨⟨?_,?_,?_,fun p hp=>hEvo.tab (s.tab p hp)⟩,hEvo⟩
 rotate_left
 · intro j b1 hj1 hb1
   by_cases hij:i=j
   · subst hij
     rw [List.getElem?_set_self hil] at hj1; cases hj1
     rw [hbs] at hb1; cases hb1
   · rw [List.getElem?_set_ne hij] at hj1
     obtain ⟨o,h3,h4⟩:=s.sides j b1 hj1 hb1
     have hne:(ρ j).blk≠(ρ i).blk:=fun he=>by rw [he,hc] at h3; cases h3; have:=(h4.own hb1).2; cases this
     exact ⟨o,by rw [hother _ hne]; exact h3,by rw [hlen]; exact h4⟩
 rotate_left
 · intro j cj ej roj hj hns
   rw [side_set hil] at hns
   rw [view_set hil] at hj
   by_cases hij:i=j
   · subst hij
     rw [if_pos rfl,hb] at hj; cases hj
     exact ⟨c1',(0,0),hsame,by rw [hsz,hsz2],hle,fun k hk=>by rw [hlen]; exact hr k hk,fun _=>⟨rfl,(hw2 rfl).2⟩⟩
   · rw [if_neg hij] at hj
     rw [if_neg hij] at hns
     obtain ⟨c3,fr3,h3,g1,g2,g3,g4⟩:=s.cells j cj ej roj hj hns
     have hne:(ρ j).blk≠(ρ i).blk:=fun he=>hij (s.inj i j _ _ hv hj he.symm)
     exact ⟨c3,fr3,by rw [hother _ hne]; exact h3,g1,g2,fun k hk=>by rw [hlen]; exact g3 k hk,g4⟩
 · intro j l x y hj hl hjl
   rw [view_set hil] at hj hl
   by_cases hij:i=j <;> by_cases hilx:i=l
   · exact hij.symm.trans hilx
   · subst hij; rw [if_neg hilx] at hl; exact s.inj i l _ _ hv hl hjl
   · subst hilx; rw [if_neg hij] at hj; exact s.inj j i _ _ hj hv hjl
   · rw [if_neg hij] at hj; rw [if_neg hilx] at hl; exact s.inj j l _ _ hj hl hjl
theorem Sim.kill (s:Sim P ρ h w) {i:Nat}:Sim P ρ (h.set i .dead) w∧Evo h ρ w (h.set i .dead) ρ w:=by
 have key : ∀ j x,view (h.set i .dead) j=some x→view h j=some x:=by
  intro j x hj
  by_cases hi:i<h.length
  · rw [view_set hi] at hj
    by_cases hij:i=j
    · rw [if_pos hij] at hj; simp [Blk.view] at hj
    · rw [if_neg hij] at hj; exact hj
  · rw [List.set_eq_of_length_le (by omega)] at hj; exact hj
 have hEvo:Evo h ρ w (h.set i .dead) ρ w:=⟨by simp,fun _ _=>rfl,Nat.le_refl _,rfl,rfl,rfl,fun _ _ _=>rfl,fun k ⟨j,cj,ej,hj,hb⟩=>.inr ⟨j,cj,ej,key _ _ hj,hb⟩,fun k ⟨j,xj,hj,hb⟩=>.inr ⟨j,xj,key _ _ hj,hb⟩⟩
 refine ⟨⟨fun j c e ro hj hns=>?_,fun j b hj hb=>?_,fun j l x y hj hl=>s.inj j l x y (key _ _ hj) (key _ _ hl),fun p hp=>hEvo.tab (s.tab p hp)⟩,hEvo⟩
 · have hns' : side h j=false:=by
    by_cases hi:i<h.length
    · rw [side_set hi] at hns
      by_cases hij:i=j
      · subst hij; rw [view_set hi,if_pos rfl] at hj; cases hj
      · rw [if_neg hij] at hns; exact hns
    · rw [List.set_eq_of_length_le (by omega)] at hns; exact hns
   have:=s.cells j c e ro (key _ _ hj) hns'; simpa using this
 · have hj' : h[j]? = some b:=by
    by_cases hij:i=j
    · subst hij
      by_cases hi:i<h.length
      · rw [List.getElem?_set_self hi] at hj; cases hj; cases hb
      · rw [List.set_eq_of_length_le (by omega)] at hj; exact hj
    · rw [List.getElem?_set_ne hij] at hj; exact hj
   obtain ⟨o,h3,h4⟩:=s.sides j b hj' hb
   exact ⟨o,h3,by simpa using h4⟩
theorem Sim.same (s:Sim P ρ h w) {w' : World} (hk : ∀ i x,view h i=some x→w'.heap[(ρ i).blk]? = w.heap[(ρ i).blk]?) (ht : ∀ p∈Tabs.tabs P,w'.heap[p.1]? = w.heap[p.1]?):Sim P ρ h w' :=
 ⟨fun i c e ro hv hns=>by obtain ⟨c',fr,hc,r⟩:=s.cells i c e ro hv hns; exact ⟨c',fr,(hk i _ hv).trans hc,r⟩,
  fun i b hi hb=>by
   obtain ⟨o,h3,h4⟩:=s.sides i b hi hb
   have hv:view h i=some ([],0,false):=by rw [view,hi]; cases b <;> first | rfl | cases hb
   exact ⟨o,(hk i _ hv).trans h3,h4⟩,s.inj,fun p hp=>⟨(ht p hp).trans (s.tab p hp).1,(s.tab p hp).2⟩⟩
end heapfacts
/-! ### What a type's variable is -/
/-- one cell: 'some none'; cells: 'some (some n)'. -/
def shp (P:Program) (t:TypeId):Option (Option Nat) :=
 match P.underlying t,P.info? t with
 | some (.struct _),some i=>some (some i.size)
 | some (.array _ _),some i=>some (some i.size)
 | some _,some i=>if i.size=1 then some none else none
 | _,_=>none
def esz (P:Program) (t:TypeId):Option Nat:=(P.info? t).map (·.size)
def Xs (P:Program) (t:TypeId):Option (List Value) :=
 match P.info? t with
 | some i=>match i.zero with
   | some z=>if z.cells.toList.all atom then some z.cells.toList else none
   | none=>none
 | none=>none
def one:Value→Bool
 | .agg _ | .tuple _ | .chan (some _)=>false
 | _=>true
def Xa:List Value→Option (List Int)
 | []=>some []
 | .int .i64 n::r=>(Xa r).map (n :: ·)
 | _::_=>none
theorem intsOf_eq : ∀ {c:List Value} {xs:List Int},Xa c=some xs→c=xs.map Zd
 | [],xs,h=>by simp [Xa] at h; subst h; rfl
 | v::r,xs,h=>by
   cases v with
   | int k n =>
     cases k <;> simp [Xa] at h
     obtain ⟨ys,hy,rfl⟩:=h
     rw [intsOf_eq hy]; rfl
   | _=>simp [Xa] at h
def mkb (c:List Value) (e:TypeId):Blk :=
 match Xa c with
 | some xs=>.ints xs e false
 | none=>.cells c e false
theorem mkb_view (c:List Value) (e:TypeId):(mkb c e).view=some (c,e,false):=by
 unfold mkb
 cases hi:Xa c with
 | none=>rfl
 | some xs=>simp [Blk.view,← intsOf_eq hi]
theorem mkb_side (c:List Value) (e:TypeId):(mkb c e).side=false:=by
 unfold mkb
 cases Xa c <;> rfl
def cellsOf:Value→List Value
 | .agg cs=>cs.toList
 | v=>[v]
/-! ### Reading -/
def cellK (h:Zh) (b o:Nat) (K:Value→Prop):Prop :=
 match h[b]? with
 | some (.cells c _ _)=>(match c[o]? with | some v=>K v | none=>False)
 | some (.ints xs _ _)=>o<xs.length∧K (Zd (xs.getD o 0))
 | _=>False
def Xo (h:Zh) (b o n:Nat) (K:List Value→Prop):Prop :=
 match h[b]? with
 | some (.cells c _ _)=>o+n≤c.length∧K ((c.drop o).take n)
 | some (.ints xs _ _)=>o+n≤xs.length∧K (((xs.drop o).take n).map Zd)
 | _=>False
def Xq (P:Program) (h:Zh) (t:TypeId) (p:Value) (K:Value→Prop):Prop :=
 match p with
 | .pointer (some ⟨b,o,none⟩)=>(match shp P t with | some none=>cellK h b o K | some (some n)=>Xo h b o n (fun l=>K (.agg l.toArray)) | none=>False)
 | _=>False
theorem cellK_view {h:Zh} {b o:Nat} {K:Value→Prop} (hk:cellK h b o K) : ∃ c e ro v,view h b=some (c,e,ro)∧c[o]? = some v∧K v:=by
 unfold cellK at hk
 unfold view
 split at hk
 · rename_i c e ro hb
   split at hk
   · rename_i v hv; exact ⟨c,e,ro,v,by simp [hb,Blk.view],hv,hk⟩
   · exact hk.elim
 · rename_i xs e ro hb
   exact ⟨xs.map Zd,e,ro,_,by simp [hb,Blk.view],by simp [List.getElem?_eq_getElem hk.1,List.getD],hk.2⟩
 · exact hk.elim
theorem cellsK_side {h:Zh} {b o n:Nat} {K:List Value→Prop} (hk:Xo h b o n K):side h b=false:=by
 unfold Xo at hk
 split at hk
 · rename_i hb; rw [Wz hb]; rfl
 · rename_i hb; rw [Wz hb]; rfl
 · exact hk.elim
theorem cellsK_view {h:Zh} {b o n:Nat} {K:List Value→Prop} (hk:Xo h b o n K) : ∃ c e ro,view h b=some (c,e,ro)∧o+n≤c.length∧K ((c.drop o).take n):=by
 unfold Xo at hk
 unfold view
 split at hk
 · rename_i c e ro hb; exact ⟨c,e,ro,by simp [hb,Blk.view],hk⟩
 · rename_i xs e ro hb; exact ⟨xs.map Zd,e,ro,by simp [hb,Blk.view],by simpa using hk.1,by simpa [← List.map_drop,← List.map_take] using hk.2⟩
 · exact hk.elim
theorem run_loadCellsFrom (P:Program) (w:World) (a:Addr) : ∀ (n i:Nat) (acc:Array Value) (vs:List Value),vs.length=n→(∀ k,k<n→w.cell? (a.add (i+k))=some (vs.getD k undef)) →
  (loadCellsFrom a i n acc).run P w = .ok (acc++vs.toArray) w
 | 0,i,acc,vs,hl,_=>by
   obtain rfl:vs=[]:=List.length_eq_zero_iff.1 hl
   simp [loadCellsFrom]
 | n+1,i,acc,vs,hl,h=>by
   match vs,hl with
   | v::vs,hl =>
     have h0:=h 0 (by omega)
     simp at h0
     have ih:=run_loadCellsFrom P w a n (i+1) (acc.push v) vs (by simpa using hl) (fun k hk=>by have:=h (k+1) (by omega); simpa [Nat.add_assoc,Nat.add_comm 1 k] using this)
     simp [loadCellsFrom,load,Sem.run,h0,ih]
theorem Wg (b o k:Nat):(Addr.add ⟨b,o,none⟩ k)=⟨b,o+k,none⟩:=by
 unfold Addr.add; split <;> simp_all
theorem run_loadCells {P:Program} [Tabs P] {ρ:Nat→Loc} {h:Zh} {w:World} (s:Sim P ρ h w) {b o n:Nat} {c:List Value} {e:TypeId} {ro:Bool} (hv:view h b=some (c,e,ro)) (hns:side h b=false) (hn:o+n≤c.length) :
  ∃ vs:Array Value,(∀ W:World,W.heap=w.heap→(loadCells ⟨(ρ b).blk,o,none⟩ n).run P W = .ok vs W)∧vs.size=n∧∀ k,k<n→VRel h.length ρ (((c.drop o).take n).getD k undef) (vs.getD k undef):=by
 obtain ⟨c',fr,hc,hsz,hle,hr,_⟩:=s.cells b c e ro hv hns
 refine ⟨(c'.extract o (o+n)),fun W hW=>?_,by simp; omega,?_⟩
 · have:=run_loadCellsFrom P W ⟨(ρ b).blk,o,none⟩ n 0 #[] ((c'.toList.drop o).take n) (by simp; omega) (fun k hk=>?_)
   · unfold loadCells
     rw [this]
     congr 1
     apply Array.ext'
     simp [Array.toList_extract]
   · rw [Wg]
     have h1:o+(0+k)<c'.size:=by omega
     simp [World.cell?,hW,hc,List.getD,hk,Array.getElem?_eq_getElem (show o+k<c'.size by omega)]
 · intro k hk
   have:=hr (o+k) (by omega)
   have e1:((c.drop o).take n).getD k undef=c.getD (o+k) undef:=by simp [List.getD,hk,List.getElem?_drop]
   have e2:(c'.extract o (o+n)).getD k undef=c'.getD (o+k) undef:=by
    have h1:k<min (o+n) c'.size-o:=by omega
    have h2:o+k<c'.size:=by omega
    simp [Array.getD,h1,h2,Array.getElem_extract]
   rw [e1,e2]; exact this
theorem run_isAgg {P:Program} [Tabs P] {t:TypeId} {w:World} {x:Option Nat} (h:shp P t=some x):(isAgg t).run P w = .ok x.isSome w∧∃ i,P.info? t=some i∧i.size=x.getD 1:=by
 unfold shp at h
 unfold isAgg
 split at h
 · rename_i fs i h1 h2; cases h
   exact ⟨by simp [run_underlying h1],i,h2,rfl⟩
 · rename_i fs i h1 h2; cases h
   exact ⟨by simp [run_underlying h1],i,h2,rfl⟩
 · rename_i d i h1 h2 h3 h4
   split at h
   · cases h
     refine ⟨?_,i,h4,by assumption⟩
     cases d <;> first | simp [run_underlying h3] | (exact absurd h3 (h1 _ _)) | (exact absurd h3 (h2 _ _ _)) | skip
     all_goals simp_all
   · cases h
 · cases h
theorem Yf {P:Program} [Tabs P] {t:TypeId} {w:World} {i:TypeInfo} (h:P.info? t=some i):(sizeOf t).run P w = .ok i.size w:=by
 simp [sizeOf,typeInfo,h]
theorem loadK_sound {P:Program} [Tabs P] {ρ:Nat→Loc} {h:Zh} {w:World} {t:TypeId} {p p' : Value} {K:Value→Prop} (s:Sim P ρ h w) (hp:VRel h.length ρ p p') (hk:Xq P h t p K) :
  ∃ v v',K v∧VRel h.length ρ v v'∧(Instr.loadAt t p').run P w = .ok v' w:=by
 unfold Xq at hk
 split at hk
 · rename_i b o
   obtain ⟨_,hb,rfl⟩:=hp.ptr'
   split at hk
   · rename_i hs
     obtain ⟨c,e,ro,v,hv,hc,hK⟩:=cellK_view hk
     obtain ⟨v',hc',hr⟩:=s.cell hv hc
     refine ⟨v,v',hK,hr,?_⟩
     have:=(run_isAgg (w:=w) hs).1
     simp [Instr.loadAt,Instr.sureAddr,loadVar,this,load,Sem.run,hc']
   · rename_i n hs
     have hns:=cellsK_side hk
     obtain ⟨c,e,ro,hv,hn,hK⟩:=cellsK_view hk
     obtain ⟨vs,hrun,hsz,hrel⟩:=run_loadCells s hv hns hn
     refine ⟨_,.agg vs,hK,?_,?_⟩
     · refine .agg (by simp; omega) (fun i hi=>?_)
       have:=hrel i (by simp at hi; omega)
       simpa [List.getD,Array.getD_eq_getD_getElem?] using this
     · obtain ⟨ha,i,hi,hsi⟩:=run_isAgg (w:=w) hs
       simp at hsi
       simp [Instr.loadAt,Instr.sureAddr,loadVar,ha,Yf hi,hsi,hrun w rfl]
   · exact hk.elim
 · exact hk.elim
end Go.Am
namespace Go.Am
def LRel (n:Nat) (ρ:Nat→Loc) (l l' : List Value):Prop:=l.length=l'.length∧∀ k,k<l.length→VRel n ρ (l.getD k undef) (l'.getD k undef)
theorem LRel.append {n:Nat} {ρ:Nat→Loc} {a a' b b' : List Value} (h:LRel n ρ a a') (g:LRel n ρ b b'):LRel n ρ (a++b) (a'++b'):=by
 refine ⟨by simp [h.1,g.1],fun k hk=>?_⟩
 by_cases hl:k<a.length
 · have:=h.2 k hl
   simpa [List.getD,List.getElem?_append_left hl,List.getElem?_append_left (h.1▸hl)] using this
 · have hk' : k-a.length<b.length:=by simp at hk; omega
   have:=g.2 _ hk'
   have e1:(a++b).getD k undef=b.getD (k-a.length) undef:=by simp [List.getD,List.getElem?_append_right (Nat.le_of_not_lt hl)]
   have hl2:a'.length≤k:=by rw [← h.1]; omega
   have e2:(a'++b').getD k undef=b'.getD (k-a.length) undef:=by rw [h.1]; simp [List.getD,List.getElem?_append_right hl2]
   rw [e1,e2]; exact this
theorem LRel.nil (n:Nat) (ρ:Nat→Loc):LRel n ρ [] []:=⟨rfl,fun k hk=>by simp at hk⟩
theorem LRel.cons {n:Nat} {ρ:Nat→Loc} {v v' : Value} {l l' : List Value} (h:VRel n ρ v v') (g:LRel n ρ l l'):LRel n ρ (v::l) (v' :: l') :=
 ⟨by simp [g.1],fun k hk=>by cases k with | zero=>exact h | succ k=>exact g.2 k (by simpa using hk)⟩
theorem LRel.cons_inv {n:Nat} {ρ:Nat→Loc} {v:Value} {l:List Value} {x:List Value} (h:LRel n ρ (v::l) x) : ∃ v' l',x=v' :: l'∧VRel n ρ v v'∧LRel n ρ l l':=by
 match x,h.1 with
 | v' :: l',h1=>exact ⟨v',l',rfl,h.2 0 (by simp),by simpa using h1,fun k hk=>h.2 (k+1) (by simpa using hk)⟩
theorem LRel.mono {n n' : Nat} {ρ ρ' : Nat→Loc} {l l' : List Value} (h:LRel n ρ l l') (hn:n≤n') (ha : ∀ i,i<n→ρ' i=ρ i):LRel n' ρ' l l' :=
 ⟨h.1,fun k hk=>(h.2 k hk).mono hn ha⟩
theorem LRel.of_mem {n:Nat} {ρ:Nat→Loc} {l l' : List Value} (h:LRel n ρ l l') {v' : Value} (hm:v'∈l') : ∃ v,v∈l∧VRel n ρ v v':=by
 obtain ⟨k,hk,rfl⟩:=List.getElem_of_mem hm
 have hkl:k<l.length:=by rw [h.1]; exact hk
 refine ⟨l[k],List.getElem_mem hkl,?_⟩
 have:=h.2 k hkl
 simpa [List.getD,List.getElem?_eq_getElem hkl,List.getElem?_eq_getElem hk] using this
theorem LRel.atoms {n:Nat} {ρ:Nat→Loc} {l:List Value} (h:l.all atom=true):LRel n ρ l l :=
 ⟨rfl,fun k hk=>.atom (by
  have:=List.all_eq_true.1 h l[k] (List.getElem_mem hk)
  simpa [List.getD,List.getElem?_eq_getElem hk] using this)⟩
theorem VRel.agg_iff {n:Nat} {ρ:Nat→Loc} {xs:Array Value} {v' : Value} (h:VRel n ρ (.agg xs) v') : ∃ ys,v' = .agg ys∧LRel n ρ xs.toList ys.toList:=by
 obtain ⟨ys,rfl,h1,h2⟩:=h.agg'
 exact ⟨ys,rfl,by simp [h1],fun k hk=>by
  have:=h2 k (by simpa using hk)
  simpa [List.getD,Array.getD_eq_getD_getElem?] using this⟩
theorem VRel.of_LRel {n:Nat} {ρ:Nat→Loc} {l l' : List Value} (h:LRel n ρ l l'):VRel n ρ (.agg l.toArray) (.agg l'.toArray) :=
 .agg (by simp [h.1]) (fun k hk=>by
  have:=h.2 k (by simpa using hk)
  simpa [List.getD,Array.getD_eq_getD_getElem?] using this)
theorem VRel.tuple_of_LRel {n:Nat} {ρ:Nat→Loc} {l l' : List Value} (h:LRel n ρ l l'):VRel n ρ (.tuple l.toArray) (.tuple l'.toArray) :=
 .tuple (by simp [h.1]) (fun k hk=>by
  have:=h.2 k (by simpa using hk)
  simpa [List.getD,Array.getD_eq_getD_getElem?] using this)
theorem VRel.one' {n:Nat} {ρ:Nat→Loc} {v v' : Value} (h:VRel n ρ v v') (ho:one v=true):v'.oneCell' = true:=by
 cases h with
 | any=>simp [one,undef] at ho
 | skip=>simp [one,skp] at ho
 | @atom v h=>cases v <;> simp_all [one,Am.atom,Value.oneCell']
 | agg=>simp [one] at ho
 | tuple=>simp [one] at ho
 | _=>rfl
def Yh {α:Type} (c:List α) (o:Nat) (vs:List α):List α:=c.take o++vs++c.drop (o+vs.length)
theorem Wa {α:Type} {c:List α} {o:Nat} {vs:List α} (h:o+vs.length≤c.length):(Yh c o vs).length=c.length:=by simp [Yh]; omega
theorem splice_one {α:Type} {c:List α} {o:Nat} {v:α} (h:o<c.length):Yh c o [v]=c.set o v:=by
 apply List.ext_getElem?
 intro k
 simp only [Yh,List.length_singleton,List.append_assoc,List.getElem?_set]
 by_cases h1:k<o
 · rw [List.getElem?_append_left (by simp; omega)]; simp [h1,Nat.ne_of_gt h1]
 · rw [List.getElem?_append_right (by simp; omega)]
   have:min o c.length=o:=by omega
   simp only [List.length_take,this]
   by_cases h2:o=k
   · subst h2; simp [h]
   · obtain ⟨j,hj⟩ : ∃ j,k-o=j+1:=⟨k-o-1,by omega⟩
     simp only [hj,List.singleton_append,List.getElem?_cons_succ,List.getElem?_drop,if_neg h2]
     congr 1; omega
theorem splice_getD {c:List Value} {o:Nat} {vs:List Value} (h:o+vs.length≤c.length) (k:Nat) :
  (Yh c o vs).getD k undef=if k<o then c.getD k undef else if k<o+vs.length then vs.getD (k-o) undef else c.getD k undef:=by
 have hm:min o c.length=o:=by omega
 simp only [Yh,List.append_assoc,List.getD]
 by_cases h1:k<o
 · rw [List.getElem?_append_left (by simp; omega)]; simp [h1]
 · rw [List.getElem?_append_right (by simp; omega),if_neg h1]
   simp only [List.length_take,hm]
   by_cases h2:k<o+vs.length
   · rw [List.getElem?_append_left (by omega),if_pos h2]
   · rw [List.getElem?_append_right (by omega),if_neg h2,List.getElem?_drop]
     congr 2; omega
theorem splice_map {α β:Type} (f:α→β) (c:List α) (o:Nat) (vs:List α):(Yh c o vs).map f=Yh (c.map f) o (vs.map f):=by simp [Yh,List.map_take,List.map_drop]
theorem setRow_eq {w:World} {g:Nat} {c cs:Array Value} {e:TypeId} (h:w.heap[g]? = some (.cells c e (0,0))):w.setRow g cs=setRow w g cs e:=by
 unfold World.setRow setRow
 congr 1
 apply Array.ext_getElem?
 intro k
 rw [Array.getElem?_modify,Array.getElem?_setIfInBounds]
 obtain ⟨hlt,hg⟩:=Array.getElem?_eq_some_iff.1 h
 by_cases hk:g=k
 · subst hk; simp [hg,hlt]
 · simp [hk]
theorem Sim.stores {P:Program} [Tabs P] {ρ:Nat→Loc} {h:Zh} {w:World} (s:Sim P ρ h w) {i o:Nat} {c:List Value} {e:TypeId} {b:Blk} {vs vs' : List Value} (hv:view h i=some (c,e,false)) (hns:side h i=false)
  (hb:b.view=some (Yh c o vs,e,false)) (hbs:b.side=false) (hl:o+vs.length≤c.length) (hr:LRel h.length ρ vs vs') (h1 : ∀ v∈vs,one v=true) :
  ∃ w',(storeCells ⟨(ρ i).blk,o,none⟩ vs').run P w = .ok () w'∧Sim P ρ (h.set i b) w'∧Evo h ρ w (h.set i b) ρ w':=by
 obtain ⟨c',fr,hc,hsz,hle,hrel,hw⟩:=s.cells i c e false hv hns
 obtain ⟨rfl,_⟩:=hw rfl
 have h1' : ∀ v∈vs',v.oneCell' = true:=fun v' hm=>by obtain ⟨v,hv,hr⟩:=hr.of_mem hm; exact hr.one' (h1 v hv)
 have hl' : o+vs'.length≤c'.size:=by rw [← hr.1]; omega
 have hrun:=run_storeCells_at P (ρ i).blk o e vs' 0 c' w hc (by simpa using hl') h1'
 rw [setRow_eq hc] at hrun
 have hsz1:(Yh c'.toList o vs').length=c'.toList.length:=Wa (by simpa using hl')
 have hW:=s.write (c1':=(Yh c'.toList o vs').toArray) hv hb hbs hc (by simpa using hsz1) (by rw [Wa hl]; simp at hsz1 ⊢; omega) (fun k hk=>by
  rw [Wa hl] at hk
  have e2:(Yh c'.toList o vs').toArray.getD k undef=(Yh c'.toList o vs').getD k undef:=by simp [Array.getD_eq_getD_getElem?,List.getD]
  rw [e2,splice_getD hl,splice_getD (by simpa using hl'),← hr.1]
  have hold:VRel h.length ρ (c.getD k undef) (c'.toList.getD k undef):=by
   have:=hrel k hk
   simpa [List.getD,Array.getD_eq_getD_getElem?] using this
  by_cases g1:k<o
  · rw [if_pos g1,if_pos g1]; exact hold
  · rw [if_neg g1,if_neg g1]
    by_cases g2:k<o+vs.length
    · rw [if_pos g2,if_pos g2]; exact hr.2 _ (by omega)
    · rw [if_neg g2,if_neg g2]; exact hold)
 exact ⟨_,by simpa [Yh] using hrun,hW⟩
def Xh (P:Program) (h:Zh) (t:TypeId) (p v:Value) (K:Zh→Prop):Prop :=
 match p with
 | .pointer (some ⟨b,o,none⟩) =>
   (match shp P t with
    | some none =>
      (match h[b]? with
       | some (.cells c e false)=>one v=true∧o<c.length∧K (h.set b (.cells (c.set o v) e false))
       | some (.ints xs e false)=>(match v with | .int .i64 n=>o<xs.length∧K (h.set b (.ints (xs.set o n) e false)) | _=>False)
       | _=>False)
    | some (some n) =>
      (match v with
       | .agg vs=>vs.size=n∧vs.toList.all one=true ∧
         (match h[b]? with
          | some (.cells c e false)=>o+n≤c.length∧K (h.set b (.cells (Yh c o vs.toList) e false))
          | some (.ints xs e false)=>(match Xa vs.toList with | some ns=>o+n≤xs.length∧K (h.set b (.ints (Yh xs o ns) e false)) | none=>False)
          | _=>False)
       | _=>False)
    | none=>False)
 | _=>False
theorem storeK_sound {P:Program} [Tabs P] {ρ:Nat→Loc} {h:Zh} {w:World} {t:TypeId} {p p' v v' : Value} {K:Zh→Prop} (s:Sim P ρ h w) (hp:VRel h.length ρ p p') (hx:VRel h.length ρ v v') (hk:Xh P h t p v K) :
  ∃ h' w',K h'∧(Instr.storeAt t p' v').run P w = .ok () w'∧Sim P ρ h' w'∧Evo h ρ w h' ρ w':=by
 unfold Xh at hk
 split at hk
 · rename_i b o
   obtain ⟨_,hb,rfl⟩:=hp.ptr'
   split at hk
   · rename_i hs
     obtain ⟨_,i,hi,hsi⟩:=run_isAgg (w:=w) hs
     simp at hsi
     have main : ∀ (c:List Value) (e:TypeId) (B:Blk),view h b=some (c,e,false)→side h b=false→B.view=some (c.set o v,e,false)→B.side=false→o<c.length→one v=true→K (h.set b B) →
       ∃ h' w',K h'∧(Instr.storeAt t (.pointer (some ⟨(ρ b).blk,o,none⟩)) v').run P w = .ok () w'∧Sim P ρ h' w'∧Evo h ρ w h' ρ w':=by
      intro c e B hv hns hB hBs ho h1 hK
      rw [← splice_one ho] at hB
      obtain ⟨w',hrun,hS,hE⟩:=s.stores (vs:=[v]) (vs':=[v']) hv hns hB hBs (by simp; omega) (LRel.cons hx (LRel.nil _ _)) (by simpa using h1)
      refine ⟨_,w',hK,?_,hS,hE⟩
      have ho' : v'.oneCell' = true:=hx.one' h1
      have hcells:v'.cells = #[v']:=by cases v' <;> first | rfl | simp [Value.oneCell'] at ho'
      simp [Instr.storeAt,Instr.sureAddr,storeVar,hcells,Yf hi,hsi,hrun]
     split at hk
     · rename_i c e hbk
       exact main c e _ (by simp [view,hbk,Blk.view]) (by rw [Wz hbk]; rfl) rfl rfl hk.2.1 hk.1 hk.2.2
     · rename_i xs e hbk
       split at hk
       · rename_i n
         exact main (xs.map Zd) e (.ints (xs.set o n) e false) (by simp [view,hbk,Blk.view]) (by rw [Wz hbk]; rfl) (by simp [Blk.view,List.map_set]) rfl (by simpa using hk.1) rfl hk.2
       · exact hk.elim
     · exact hk.elim
   · rename_i n hs
     obtain ⟨_,i,hi,hsi⟩:=run_isAgg (w:=w) hs
     simp at hsi
     split at hk
     · rename_i vs
       obtain ⟨hn,h1,hk⟩:=hk
       obtain ⟨ys,rfl,hr⟩:=hx.agg_iff
       have hys:ys.size=n:=by have:=hr.1; simp at this; omega
       have main : ∀ (c:List Value) (e:TypeId) (B:Blk),view h b=some (c,e,false)→side h b=false→B.view=some (Yh c o vs.toList,e,false)→B.side=false→o+n≤c.length→K (h.set b B) →
         ∃ h' w',K h'∧(Instr.storeAt t (.pointer (some ⟨(ρ b).blk,o,none⟩)) (.agg ys)).run P w = .ok () w'∧Sim P ρ h' w'∧Evo h ρ w h' ρ w':=by
        intro c e B hv hns hB hBs ho hK
        obtain ⟨w',hrun,hS,hE⟩:=s.stores hv hns hB hBs (by simpa [hn] using ho) hr (fun v hv=>List.all_eq_true.1 h1 v hv)
        refine ⟨_,w',hK,?_,hS,hE⟩
        simp [Instr.storeAt,Instr.sureAddr,storeVar,Value.cells,Yf hi,hsi,hys,hrun]
       split at hk
       · rename_i c e hbk
         exact main c e _ (by simp [view,hbk,Blk.view]) (by rw [Wz hbk]; rfl) rfl rfl hk.1 hk.2
       · rename_i xs e hbk
         split at hk
         · rename_i ns hns
           exact main (xs.map Zd) e (.ints (Yh xs o ns) e false) (by simp [view,hbk,Blk.view]) (by rw [Wz hbk]; rfl) (by simp [Blk.view,splice_map,← intsOf_eq hns]) rfl (by simpa using hk.1) hk.2
         · exact hk.elim
       · exact hk.elim
     · exact hk.elim
   · exact hk.elim
 · exact hk.elim
/-! ### New blocks -/
/-- The new block at the heap's end. -/
abbrev Xc (h:Zh):Value:=.pointer (some ⟨h.length,0,none⟩)
def Xv (P:Program) (h:Zh) (t:TypeId) (K:Value→Zh→Prop):Prop :=
 match Xs P t with
 | some z=>K (Xc h) (h++[.cells z t false])
 | none=>False
theorem allocK_sound {P:Program} [Tabs P] {ρ:Nat→Loc} {h:Zh} {w:World} {t:TypeId} {K:Value→Zh→Prop} (s:Sim P ρ h w) (hk:Xv P h t K) :
  ∃ v v' h' ρ' w',K v h'∧(Instr.alloc t true (.tuple #[])).run P w = .ok v' w'∧VRel h'.length ρ' v v'∧Sim P ρ' h' w'∧Evo h ρ w h' ρ' w':=by
 unfold Xv Xs at hk
 cases hi:P.info? t with
 | none=>simp [hi] at hk
 | some i =>
   cases hz:i.zero with
   | none=>simp [hi,hz] at hk
   | some z =>
     simp only [hi,hz] at hk
     split at hk
     · rename_i c hc
       split at hc
       · rename_i hat
         cases hc
         obtain ⟨hS,hE⟩:=s.alloc (b:=.cells z.cells.toList t false) (c:=z.cells.toList) (c':=z.cells) (es:=i.size) (e:=t) rfl rfl (by simp) (fun k hk=>by
          have:=(LRel.atoms (n:=h.length) (ρ:=ρ) hat).2 k hk
          simpa [List.getD,Array.getD_eq_getD_getElem?] using this) (by simp [hi])
         refine ⟨_,.pointer (some ⟨w.heap.size,0,none⟩),_,_,_,hk,?_,?_,hS,hE⟩
         · simp [Instr.alloc,zeroValue,typeInfo,hi,hz,newVar,newRow]
         · have:=VRel.ptr (n:=(h++[Blk.cells z.cells.toList t false]).length) (ρ:=Loc.upd ρ h.length ⟨w.heap.size,z.cells.size,i.size⟩) (b:=h.length) (o:=0) (by simp)
           rwa [Loc.upd_same] at this
       · cases hc
     · exact hk.elim
def boxK (P:Program) (h:Zh) (t:TypeId) (v:Value) (K:Value→Zh→Prop):Prop :=
 (match v with | .tuple _=>False | .chan (some _)=>False | _=>True)∧(esz P t).isSome=true∧K (Xc h) (h++[.cells (cellsOf v) t false])
theorem VRel.cells {n:Nat} {ρ:Nat→Loc} {v v' : Value} (h:VRel n ρ v v') (ht : ∀ vs,v≠.tuple vs) (hc : ∀ k,v≠.chan (some k)):LRel n ρ (cellsOf v) v'.cells.toList∧(v'.cells.size=(cellsOf v).length):=by
 have one1 : ∀ u u' : Value,VRel n ρ u u'→(cellsOf u=[u])→(u'.cells = #[u'])→LRel n ρ (cellsOf u) u'.cells.toList∧(u'.cells.size=(cellsOf u).length):=by
  intro u u' hr e1 e2; rw [e1,e2]; exact ⟨LRel.cons hr (LRel.nil _ _),rfl⟩
 cases v with
 | agg xs =>
   obtain ⟨ys,rfl,hr⟩:=h.agg_iff
   exact ⟨hr,by have:=hr.1; simpa [cellsOf,Value.cells] using this.symm⟩
 | tuple xs=>exact absurd rfl (ht xs)
 | chan r =>
   cases r with
   | some k=>exact absurd rfl (hc k)
   | none=>exact one1 _ _ h rfl (by rw [h.atom_eq rfl]; rfl)
 | _ =>
   have hh:=h
   have:=h.one' rfl
   refine one1 _ _ hh rfl ?_
   cases v' <;> first | rfl | simp [Value.oneCell'] at this
theorem boxK_sound {P:Program} [Tabs P] {ρ:Nat→Loc} {h:Zh} {w:World} {t:TypeId} {v v1:Value} {K:Value→Zh→Prop} (s:Sim P ρ h w) (hx:VRel h.length ρ v v1) (hk:boxK P h t v K) :
  ∃ v v' h' ρ' w',K v h'∧(Instr.box t v1).run P w = .ok v' w'∧VRel h'.length ρ' v v'∧Sim P ρ' h' w'∧Evo h ρ w h' ρ' w':=by
 obtain ⟨ht,hes,hK⟩:=hk
 obtain ⟨es,hes⟩:=Option.isSome_iff_exists.1 hes
 obtain ⟨hr,hsz⟩:=hx.cells (fun vs e=>by subst e; exact ht) (fun vs e=>by subst e; exact ht)
 obtain ⟨hS,hE⟩:=s.alloc (b:=.cells (cellsOf v) t false) (c:=cellsOf v) (c':=v1.cells) (es:=es) (e:=t) rfl rfl (by omega) (fun k hk=>by
  have:=hr.2 k hk
  simpa [List.getD,Array.getD_eq_getD_getElem?] using this) hes
 refine ⟨_,.pointer (some ⟨w.heap.size,0,none⟩),_,_,_,hK,?_,?_,hS,hE⟩
 · simp [Instr.box,newVar,newRow]
 · have:=VRel.ptr (n:=(h++[Blk.cells (cellsOf v) t false]).length) (ρ:=Loc.upd ρ h.length ⟨w.heap.size,v1.cells.size,es⟩) (b:=h.length) (o:=0) (by simp)
   rwa [Loc.upd_same] at this
/-! ### Slices made -/
theorem mkb_alloc {P:Program} [Tabs P] {ρ:Nat→Loc} {h:Zh} {w:World} (s:Sim P ρ h w) {c:List Value} {e:TypeId} {c' : Array Value} {es:Nat} (hle:c.length≤c'.size)
  (hr : ∀ k,k<c.length→VRel h.length ρ (c.getD k undef) (c'.getD k undef)) (he:(P.info? e).map (·.size)=some es) :
  Sim P (Loc.upd ρ h.length ⟨w.heap.size,c'.size,es⟩) (h++[mkb c e]) (w.alloc (.cells c' e)) ∧
   Evo h ρ w (h++[mkb c e]) (Loc.upd ρ h.length ⟨w.heap.size,c'.size,es⟩) (w.alloc (.cells c' e)) :=
 s.alloc (mkb_view c e) (mkb_side c e) hle hr he
def reps (z:List Value):Nat→List Value
 | 0=>[]
 | n+1=>z++reps z n
theorem reps_length (z:List Value) (n:Nat):(reps z n).length=n*z.length:=by
 induction n with
 | zero=>simp [reps]
 | succ n ih=>simp [reps,ih,Nat.succ_mul]; omega
theorem reps_get (z:List Value) : ∀ (n k:Nat),k<n*z.length→(reps z n).getD k undef=z.getD (k % z.length) undef
 | 0,k,hk=>by simp at hk
 | n+1,k,hk=>by
   have hz:0<z.length:=by rcases Nat.eq_zero_or_pos z.length with h | h; (rw [h] at hk; simp at hk); exact h
   simp only [reps,List.getD]
   by_cases h1:k<z.length
   · rw [List.getElem?_append_left h1,Nat.mod_eq_of_lt h1]
   · rw [List.getElem?_append_right (by omega)]
     have hk' : k-z.length<n*z.length:=by rw [Nat.succ_mul] at hk; omega
     have:=reps_get z n (k-z.length) hk'
     simp only [List.getD] at this
     rw [this]
     congr 2
     conv=>rhs; rw [show k=(k-z.length)+z.length from by omega]
     rw [Nat.add_mod_right]
def zblk (z:List Value) (n:Nat) (e:TypeId):Blk :=
 match z with
 | [.int .i64 0]=>.ints (List.replicate n 0) e false
 | z=>.cells (reps z n) e false
theorem zblk_side (z:List Value) (n:Nat) (e:TypeId):(zblk z n e).side=false:=by
 unfold zblk
 split <;> rfl
theorem zblk_view (z:List Value) (n:Nat) (e:TypeId):(zblk z n e).view=some (reps z n,e,false):=by
 unfold zblk
 split
 · simp only [Blk.view,List.map_replicate]
   congr 2
   induction n with
   | zero=>rfl
   | succ n ih=>simp [reps,List.replicate_succ,ih]
 · rfl
def elemOf' (P:Program) (t:TypeId):Option TypeId :=
 match P.underlying t with
 | some (.slice e)=>some e
 | _=>none
theorem elemOf'_eq {P:Program} [Tabs P] {t e:TypeId} (h:elemOf' P t=some e):P.underlying t=some (.slice e):=by
 unfold elemOf' at h; split at h <;> simp_all
def makeK (P:Program) (h:Zh) (t:TypeId) (len cap:Value) (K:Value→Zh→Prop):Prop :=
 match len,cap with
 | .int .i64 l,.int .i64 c =>
   (match elemOf' P t with
    | some e=>(match Xs P e,P.info? e with
      | some z,some i=>z.length=i.size∧0<i.size∧0≤l∧l≤c∧i.bytes*c≤281474976710656∧c<9223372036854775808∧K (.slice (some ⟨h.length,0,none⟩) l.toNat c.toNat) (h++[zblk z c.toNat e])
      | _,_=>False)
    | none=>False)
 | _,_=>False
theorem wrap_small {n:Int} (h0:0≤n) (h1:n<9223372036854775808):IntKind.i64.wrap n=n:=IntWalk.i64_in n (by omega)
theorem makeK_sound {P:Program} [Tabs P] {ρ:Nat→Loc} {h:Zh} {w:World} {t:TypeId} {l l' c c' : Value} {K:Value→Zh→Prop} (s:Sim P ρ h w) (hl:VRel h.length ρ l l') (hc:VRel h.length ρ c c') (hk:makeK P h t l c K) :
  ∃ v v' h' ρ' w',K v h'∧(Instr.makeSlice t l' c').run P w = .ok v' w'∧VRel h'.length ρ' v v'∧Sim P ρ' h' w'∧Evo h ρ w h' ρ' w':=by
 unfold makeK at hk
 split at hk
 · rename_i l c
   rw [hl.int,hc.int]
   split at hk
   · rename_i e he
     split at hk
     · rename_i z i hz hi
       obtain ⟨hzs,hsz,h0,hlc,hby,hcb,hK⟩:=hk
       unfold Xs at hz
       simp only [hi] at hz
       cases hzz:i.zero with
       | none=>simp [hzz] at hz
       | some zv =>
         simp only [hzz] at hz
         split at hz
         · rename_i hat
           cases hz
           have hzsz:zv.cells.size=i.size:=by simpa using hzs
           have hsize:((Array.range (c.toNat*i.size)).map (fun k=>zv.cells[k % zv.cells.size]!)).size=c.toNat*i.size:=by simp
           obtain ⟨hS,hE⟩:=s.alloc (b:=zblk zv.cells.toList c.toNat e) (c:=reps zv.cells.toList c.toNat) (c':=(Array.range (c.toNat*i.size)).map (fun k=>zv.cells[k % zv.cells.size]!)) (es:=i.size) (e:=e) (zblk_view _ _ _) (zblk_side _ _ _)
            (by rw [reps_length,hsize,hzs]; exact Nat.le_refl _) (fun k hk=>by
             rw [reps_length,hzs] at hk
             rw [reps_get _ _ _ (by rw [hzs]; exact hk)]
             have hm:k % zv.cells.size<zv.cells.size:=Nat.mod_lt _ (by omega)
             have e1:((Array.range (c.toNat*i.size)).map (fun k=>zv.cells[k % zv.cells.size]!)).getD k undef=zv.cells.toList.getD (k % zv.cells.toList.length) undef:=by
              simp [Array.getD_eq_getD_getElem?,hk,List.getD,hm]
             rw [e1]
             exact (LRel.atoms hat).2 _ (by simpa using hm)) (by simp [hi])
           rw [hsize] at hS hE
           refine ⟨_,.slice (some ⟨w.heap.size,0,none⟩) l.toNat c.toNat,_,_,_,hK,?_,?_,hS,hE⟩
           · have wl:IntKind.i64.wrap l=l:=wrap_small h0 (by omega)
             have wc:IntKind.i64.wrap c=c:=wrap_small (by omega) hcb
             have t1 : ¬ (c<0):=by omega
             have t2 : ¬ (l<0):=by omega
             have t3 : ¬ (c<l):=by omega
             have t4 : ¬ (281474976710656<(i.bytes:Int)*c):=by omega
             by_cases hz0:c.toNat*i.size=0
             · have hc0:c.toNat=0:=by rcases Nat.mul_eq_zero.1 hz0 with h | h; exact h; omega
               simp [hc0,Instr.makeSlice,run_underlying (elemOf'_eq he),asInt,asIntOf,typeInfo,hi,wl,wc,t1,t2,t3,t4,Yf hi,newRow,Array.range_zero']
             · simp [Instr.makeSlice,run_underlying (elemOf'_eq he),asInt,asIntOf,typeInfo,hi,wl,wc,t1,t2,t3,t4,Yf hi,hz0,newRow,zeroValue,hzz]
           · have:=VRel.slice (n:=(h++[zblk zv.cells.toList c.toNat e]).length) (ρ:=Loc.upd ρ h.length ⟨w.heap.size,c.toNat*i.size,i.size⟩) (b:=h.length) (o:=0) (len:=l.toNat) (cap:=c.toNat) (by simp)
             rwa [Loc.upd_same] at this
         · cases hz
     · exact hk.elim
   · exact hk.elim
 · exact hk.elim
end Go.Am
namespace Go.Am
def elemsK (h:Zh) (sz:Nat) (x:Value) (K:Nat→List Value→Prop):Prop :=
 match x with
 | .slice none n _=>n=0∧K 0 []
 | .slice (some ⟨b,o,_⟩) n _=>(n=0→K 0 [])∧(n≠0→Xo h b o (n*sz) (K n))
 | .chan (some 1)=>K 0 []
 | _=>False
theorem run_firstCells {P:Program} [Tabs P] {ρ:Nat→Loc} {h:Zh} {w:World} (s:Sim P ρ h w) {sz:Nat} {x x' : Value} {K:Nat→List Value→Prop} (hx:VRel h.length ρ x x') (hk:elemsK h sz x K) :
  ∃ n l l',K n l∧LRel h.length ρ l l'.toList∧l.length=n*sz∧(∀ W:World,(Builtin.lenOf x').run P W = .ok n W)∧∀ W:World,W.heap=w.heap→(Builtin.firstCells sz n x').run P W = .ok l' W:=by
 unfold elemsK at hk
 split at hk
 · obtain ⟨rfl,hK⟩:=hk
   rename_i c
   rw [hx.atom_eq rfl]
   exact ⟨0,[],#[],hK,LRel.nil _ _,by simp,by simp [Builtin.lenOf],by simp [Builtin.firstCells]⟩
 · rename_i b o sp n c
   obtain ⟨hb,cap',_,_,_,rfl,_⟩:=hx.sl
   by_cases hn0:n=0
   · subst hn0
     exact ⟨0,[],#[],hk.1 rfl,LRel.nil _ _,by simp,by simp [Builtin.lenOf],by simp [Builtin.firstCells,loadCells,loadCellsFrom]⟩
   have hns:=cellsK_side (hk.2 hn0)
   obtain ⟨cl,e,ro,hv,hn,hK⟩:=cellsK_view (hk.2 hn0)
   obtain ⟨vs,hrun,hsz,hrel⟩:=run_loadCells s hv hns hn
   have hlen:((cl.drop o).take (n*sz)).length=n*sz:=by simp; omega
   exact ⟨n,_,vs,hK,⟨by rw [hlen]; simp [hsz],fun k hk=>by
    have:=hrel k (by omega)
    simpa [List.getD,Array.getD_eq_getD_getElem?] using this⟩,hlen,by simp [Builtin.lenOf],fun W hW=>by simpa [Builtin.firstCells] using hrun W hW⟩
 · cases hx with
   | atom h=>simp [atom] at h
   | void=>exact ⟨0,[],#[],hk,LRel.nil _ _,by simp,by simp [Builtin.lenOf],by simp [Builtin.firstCells,loadCells,loadCellsFrom]⟩
 · exact hk.elim
def appT (P:Program) (t t2:TypeId):Option (TypeId×Nat×Nat) :=
 match elemOf' P t,P.underlying t2 with
 | some e,some (.slice _)=>(match P.info? e with | some i=>if (i.zero.map (·.cells.size))=some i.size∧0<i.size∧0<i.bytes then some (e,i.size,i.bytes) else none | none=>none)
 | _,_=>none
def putK (h:Zh) (e:TypeId) (sz bytes:Nat) (s:Value) (n:Nat) (ns:List Value) (K:Value→Zh→Prop):Prop :=
 match s with
 | .slice none 0 0=>(n=0→K (.slice none 0 0) h)∧(n≠0→n*bytes≤140737488355328∧K (.slice (some ⟨h.length,0,some 0⟩) n n) (h++[mkb ns e]))
 | .slice (some ⟨b,o,sp⟩) len cap =>
   (len+n≤cap→(n=0→K (.slice (some ⟨b,o,sp⟩) len cap) h)∧(n≠0→ns.all one=true ∧
    (match h[b]? with
     | some (.cells c e' false)=>o+len*sz+ns.length≤c.length∧K (.slice (some ⟨b,o,sp⟩) (len+n) cap) (h.set b (.cells (Yh c (o+len*sz) ns) e' false))
     | some (.ints xs e' false)=>(match Xa ns with | some is=>o+len*sz+is.length≤xs.length∧K (.slice (some ⟨b,o,sp⟩) (len+n) cap) (h.set b (.ints (Yh xs (o+len*sz) is) e' false)) | none=>False)
     | _=>False))) ∧
   (cap<len+n→(len+n)*bytes≤140737488355328 ∧
    (match sp with
     | none=>Xo h b o (len*sz) (fun os=>K (.slice (some ⟨h.length,0,some 0⟩) (len+n) (len+n)) (h++[mkb (os++ns) e]))
     | some _=>o=0∧ns.all one=true∧(match view h b with | some (_,e',false)=>e' = e | _=>False) ∧
        Xo h b o (len*sz) (fun os=>K (.slice (some ⟨h.length,0,some 0⟩) (len+n) (len+n)) (h.set b .dead++[mkb (os++ns) e]))))
 | _=>False
def Ys (P:Program) (h:Zh) (t t2:TypeId) (s x:Value) (K:Value→Zh→Prop):Prop :=
 match appT P t t2 with
 | some (e,sz,bytes)=>elemsK h sz x (fun n ns=>putK h e sz bytes s n ns K)
 | none=>False
theorem dead_snoc {P:Program} [Tabs P] {ρ:Nat→Loc} {h:Zh} {w w' : World} (s:Sim P ρ h w) {b:Nat} {c os ns:List Value} {c' c1' : Array Value} {e:TypeId} (hv:view h b=some (c,e,false))
  (hc:w.heap[(ρ b).blk]? = some (.cells c' e (0,0))) (hw:w' = setRow w (ρ b).blk c1' e) (hsz:c1'.size=c'.size) (hle:(os++ns).length≤c1'.size)
  (hr : ∀ k,k<(os++ns).length→VRel h.length ρ ((os++ns).getD k undef) (c1'.getD k undef)) :
  Sim P (Loc.upd ρ h.length (ρ b)) (h.set b .dead++[mkb (os++ns) e]) w'∧Evo h ρ w (h.set b .dead++[mkb (os++ns) e]) (Loc.upd ρ h.length (ρ b)) w':=by
 subst hw
 have hbl:=Wn hv
 have hblt:=s.lt hv
 have hag : ∀ i,i<h.length→Loc.upd ρ h.length (ρ b) i=ρ i:=fun i hi=>Loc.upd_lt ρ _ hi
 have hlen:(h.set b .dead).length=h.length:=by simp
 have hother : ∀ k,k≠(ρ b).blk→(setRow w (ρ b).blk c1' e).heap[k]? = w.heap[k]?:=fun k hk=>by simp [setRow,Array.getElem?_setIfInBounds_ne (Ne.symm hk)]
 have hsame:(setRow w (ρ b).blk c1' e).heap[(ρ b).blk]? = some (.cells c1' e (0,0)):=by simp [setRow,hblt]
 obtain ⟨c2,fr,hc2,hsz2,_,_,hw2⟩:=s.cells b c e false hv (s.noSide hc)
 rw [hc] at hc2; cases hc2
 have olds : ∀ i x,view (h.set b .dead++[mkb (os++ns) e]) i=some x→(i<h.length∧i≠b∧view h i=some x)∨(i=h.length∧x=(os++ns,e,false)):=by
  intro i x hi
  rcases Xi hi with ⟨h1,h2⟩ | ⟨h1,h2⟩
  · left
    rw [hlen] at h1
    rw [view_set hbl] at h2
    by_cases hib:b=i
    · rw [if_pos hib] at h2; simp [Blk.view] at h2
    · rw [if_neg hib] at h2; exact ⟨h1,Ne.symm hib,h2⟩
  · right
    rw [hlen] at h1
    rw [mkb_view] at h2
    exact ⟨h1,(Option.some.inj h2).symm⟩
 have hEvo:Evo h ρ w (h.set b .dead++[mkb (os++ns) e]) (Loc.upd ρ h.length (ρ b)) (setRow w (ρ b).blk c1' e):=by
  refine ⟨by simp,hag,by simp [setRow],rfl,rfl,rfl,?_,?_,?_⟩
  rotate_left 2
  · rintro k ⟨i,x3,hi,rfl⟩
    right
    rcases olds i _ hi with ⟨h1,h2,h3⟩ | ⟨rfl,h2⟩
    · exact ⟨i,x3,h3,by rw [hag i h1]⟩
    · exact ⟨b,_,hv,by rw [Loc.upd_same]⟩
  · intro k hk hm
    exact hother k (fun he=>hm ⟨b,c,e,hv,he.symm⟩)
  · rintro k ⟨i,c3,e3,hi,rfl⟩
    right
    rcases olds i _ hi with ⟨h1,h2,h3⟩ | ⟨rfl,h2⟩
    · exact ⟨i,c3,e3,h3,by rw [hag i h1]⟩
    · exact ⟨b,c,e,hv,by rw [Loc.upd_same]⟩
 refine ⟨⟨?_,?_,?_,fun p hp=>hEvo.tab (s.tab p hp)⟩,hEvo⟩
 rotate_left
 · intro i b1 hi1 hb1
   rcases List.getElem?_append_left_or hi1 with ⟨hi,h2⟩ | h2
   · rw [hlen] at hi
     by_cases hib:b=i
     · subst hib; rw [List.getElem?_set_self hbl] at h2; cases h2; cases hb1
     · rw [List.getElem?_set_ne hib] at h2
       obtain ⟨o,h3,h4⟩:=s.sides i b1 h2 hb1
       rw [hag i hi]
       have hne:(ρ i).blk≠(ρ b).blk:=fun he=>by rw [he,hc] at h3; cases h3; have:=(h4.own hb1).2; cases this
       exact ⟨o,by rw [hother _ hne]; exact h3,h4.mono (by simp) hag⟩
   · rw [h2,mkb_side] at hb1; cases hb1
 rotate_left
 · intro i c3 e3 ro3 hi hns
   rcases olds i _ hi with ⟨h1,h2,h3⟩ | ⟨rfl,h2⟩
   · have hns' : side h i=false:=by
      rw [side_append (by rw [hlen]; exact h1),side_set hbl,if_neg (Ne.symm h2)] at hns
      exact hns
     obtain ⟨c4,fr4,g1,g2,g3,g4,g5⟩:=s.cells i c3 e3 ro3 h3 hns'
     rw [hag i h1]
     exact ⟨c4,fr4,by rw [hother _ (fun he=>h2 (s.inj i b _ _ h3 hv he))]; exact g1,g2,g3,fun k hk=>(g4 k hk).mono (by simp) hag,g5⟩
   · cases h2
     rw [Loc.upd_same]
     exact ⟨c1',(0,0),hsame,by rw [hsz,hsz2],hle,fun k hk=>(hr k hk).mono (by simp) hag,fun _=>⟨rfl,(hw2 rfl).2⟩⟩
 · intro i j x y hi hj hij
   rcases olds i _ hi with ⟨h1,h2,h3⟩ | ⟨rfl,h2⟩ <;> rcases olds j _ hj with ⟨g1,g2,g3⟩ | ⟨rfl,g2⟩
   · rw [hag i h1,hag j g1] at hij; exact s.inj i j x y h3 g3 hij
   · rw [hag i h1,Loc.upd_same] at hij; exact absurd (s.inj i b _ _ h3 hv hij) h2
   · rw [hag j g1,Loc.upd_same] at hij; exact absurd (s.inj j b _ _ g3 hv hij.symm) g2
   · rfl
theorem drew_sim {P:Program} [Tabs P] {ρ:Nat→Loc} {h:Zh} {w:World} (s:Sim P ρ h w):Sim P ρ h { w with drawn:=w.drawn+1 }∧Evo h ρ w h ρ { w with drawn:=w.drawn+1 } :=
 ⟨⟨s.cells,s.sides,s.inj,s.tab⟩,⟨Nat.le_refl _,fun _ _=>rfl,Nat.le_refl _,rfl,rfl,rfl,fun _ _ _=>rfl,fun _ hk=>.inr hk,fun _ hk=>.inr hk⟩⟩
theorem run_append_in {P:Program} [Tabs P] {w w' : World} {t t2 ty e:TypeId} {i:TypeInfo} {et:TypeId} {a:Addr} {len cap n:Nat} {x' : Value} {l' : Array Value} (ht:P.underlying t=some (.slice e)) (ht2:P.underlying t2=some (.slice et))
  (hi:P.info? e=some i) (hl:(Builtin.lenOf x').run P w = .ok n w) (hf:(Builtin.firstCells i.size n x').run P w = .ok l' w) (hn:len+n≤cap) (hst:(storeCells (a.add (len*i.size)) l'.toList).run P w = .ok () w') :
  (Builtin.append_ #[t,t2] ty #[.slice (some a) len cap,x']).run P w = .ok (.slice (some a) (len+n) cap) w':=by
 simp [Builtin.append_,run_underlying ht,run_underlying ht2,Yf hi,hl,hf,hn,hst]
theorem run_append_out {P:Program} [Tabs P] {w:World} {t t2 ty e:TypeId} {i:TypeInfo} {et:TypeId} {z:Value} {base:Option Addr} {len cap n:Nat} {x' : Value} {l' os:Array Value} (ht:P.underlying t=some (.slice e)) (ht2:P.underlying t2=some (.slice et))
  (hi:P.info? e=some i) (hz:i.zero=some z) (hb0:0<i.bytes) (hl:(Builtin.lenOf x').run P w = .ok n w) (hf : ∀ W:World,W.heap=w.heap→(Builtin.firstCells i.size n x').run P W = .ok l' W) (hn:cap<len+n)
  (ho : ∀ W:World,W.heap=w.heap→(Builtin.firstCells i.size len (.slice base len cap)).run P W = .ok os W) (hby:(len+n)*i.bytes≤140737488355328) :
  ∃ m rest,(Builtin.append_ #[t,t2] ty #[.slice base len cap,x']).run P w = .ok (.slice (some ⟨w.heap.size,0,none⟩) (len+n) m) (World.alloc { w with drawn:=w.drawn+1 } (.cells (os++l'++rest) e)) ∧
    len+n≤m∧rest.size=(m-(len+n))*z.cells.size:=by
 have h48 : ¬ (281474976710656<Builtin.nextslicecap (len+n) cap*i.bytes):=by have:=growslice_fits hn hby; omega
 have hb1 : ¬ (i.bytes=0):=by omega
 refine ⟨(Question.appendCap (len+n) cap e).cut (w.tape w.drawn (.appendCap (len+n) cap e)),Builtin.zeroCells z.cells ((Question.appendCap (len+n) cap e).cut (w.tape w.drawn (.appendCap (len+n) cap e))-(len+n)),?_,by simp [Question.cut],by simp [Builtin.zeroCells]⟩
 have hf1:=hf w.drew rfl
 have ho1:=ho w.drew rfl
 simp [Builtin.append_,run_underlying ht,run_underlying ht2,Yf hi,hl,typeInfo,hi,hb1,Nat.not_le.2 hn,h48,Question.forced,hf1,ho1,zeroValue,hz,newRow]
theorem appT_spec {P:Program} [Tabs P] {t t2 e:TypeId} {sz bytes:Nat} (h:appT P t t2=some (e,sz,bytes)):P.underlying t=some (.slice e)∧(∃ et,P.underlying t2=some (.slice et)) ∧
  ∃ i z,P.info? e=some i∧i.zero=some z∧z.cells.size=sz∧i.size=sz∧i.bytes=bytes∧0<sz∧0<bytes:=by
 unfold appT at h
 split at h
 · rename_i e' et h1 h2
   split at h
   · rename_i i hi
     split at h
     · rename_i hc
       cases h
       obtain ⟨hz,h3,h4⟩:=hc
       obtain ⟨z,hz1,hz2⟩:=Option.map_eq_some_iff.1 hz
       exact ⟨elemOf'_eq h1,⟨et,h2⟩,i,z,hi,hz1,hz2,rfl,rfl,h3,h4⟩
     · cases h
   · cases h
 · cases h
theorem newLoose {h:Zh} {ρ:Nat→Loc} {B:Blk} {w:World} {m need sz len:Nat} {c' : Array Value} (hm:need≤m) (hs:c'.size=m*sz) :
  VRel (h++[B]).length (Loc.upd ρ h.length ⟨w.heap.size,c'.size,sz⟩) (.slice (some ⟨h.length,0,some 0⟩) len need) (.slice (some ⟨w.heap.size,0,none⟩) len m):=by
 have:=VRel.loose (n:=(h++[B]).length) (ρ:=Loc.upd ρ h.length ⟨w.heap.size,c'.size,sz⟩) (b:=h.length) (o:=0) (len:=len) (cap:=need) (cap':=m) (by simp) hm (fun _=>by rw [Loc.upd_same]; simp [hs])
 rwa [Loc.upd_same] at this
theorem appendK_sound {P:Program} [Tabs P] {ρ:Nat→Loc} {h:Zh} {w:World} {t t2 ty:TypeId} {x x' v v' : Value} {K:Value→Zh→Prop} (s:Sim P ρ h w) (hv:VRel h.length ρ v v') (hx:VRel h.length ρ x x') (hk:Ys P h t t2 v x K) :
  ∃ r r' h' ρ' w',K r h'∧(Builtin.append_ #[t,t2] ty #[v',x']).run P w = .ok r' w'∧VRel h'.length ρ' r r'∧Sim P ρ' h' w'∧Evo h ρ w h' ρ' w':=by
 unfold Ys at hk
 split at hk
 case h_2=>exact hk.elim
 rename_i e sz bytes hT
 obtain ⟨ht,⟨et,ht2⟩,i,z,hi,hz,hzs,rfl,rfl,hsz,hby0⟩:=appT_spec hT
 obtain ⟨n,ns,ns',hK,hrel,hlen,hlo,hfc⟩:=run_firstCells s hx hk
 clear hk
 unfold putK at hK
 split at hK
 · -- nil
   rw [hv.atom_eq rfl]
   by_cases hn:n=0
   · subst hn
     refine ⟨_,.slice none 0 0,h,ρ,w,hK.1 rfl,?_,.atom rfl,s,.refl _ _ _⟩
     simp [Builtin.append_,run_underlying ht,run_underlying ht2,Yf hi,hlo,hfc w rfl]
   · obtain ⟨hb,hK⟩:=hK.2 hn
     obtain ⟨m,rest,hrun,hm,hrs⟩:=run_append_out (ty:=ty) (base:=none) (len:=0) (cap:=0) (os:=#[]) ht ht2 hi hz hby0 (hlo w) hfc (by omega) (fun W _=>by simp [Builtin.firstCells]) (by simpa using hb)
     obtain ⟨s1,e1⟩:=drew_sim s
     have hns:ns'.size=n*i.size:=by have:=hrel.1; simp at this; omega
     have hsize:(#[]++ns'++rest).size=m*i.size:=by
      simp only [Array.size_append,hns,hrs,hzs,Nat.zero_add,Array.size_empty] at hm ⊢
      rw [← Nat.add_mul]; congr 1; omega
     obtain ⟨s2,e2⟩:=mkb_alloc s1 (c:=ns) (e:=e) (c':=#[]++ns'++rest) (es:=i.size) (by rw [hsize,hlen]; exact Nat.mul_le_mul_right _ (by simpa using hm)) (fun k hk=>by
      have:=hrel.2 k hk
      have hk' : k<ns'.size:=by have:=hrel.1; simp at this; omega
      simpa [Array.getElem?_append_left hk',List.getD,Array.getD_eq_getD_getElem?] using this) (by simp [hi])
     refine ⟨_,_,_,_,_,hK,hrun,?_,s2,e1.trans e2⟩
     have:=newLoose (h:=h) (ρ:=ρ) (B:=mkb ns e) (w:={ w with drawn:=w.drawn+1 }) (len:=0+n) hm hsize
     simpa using this
 · -- a row
   rename_i b o sp len cap
   obtain ⟨hb,cap',hcap,hex,hlo',rfl,hsp⟩:=hv.sl
   have inplace : ∀ (hroom:len+n≤cap') (c:List Value) (e' : TypeId) (B:Blk),view h b=some (c,e',false)→side h b=false→B.view=some (Yh c (o+len*i.size) ns,e',false)→B.side=false→o+len*i.size+ns.length≤c.length→ns.all one=true →
     K (.slice (some ⟨b,o,sp⟩) (len+n) cap) (h.set b B)→len+n≤cap →
     ∃ r r' h' ρ' w',K r h'∧(Builtin.append_ #[t,t2] ty #[.slice (some ⟨(ρ b).blk,o,none⟩) len cap',x']).run P w = .ok r' w'∧VRel h'.length ρ' r r'∧Sim P ρ' h' w'∧Evo h ρ w h' ρ' w':=by
    intro hroom c e' B hvw hns hB hBs hl h1 hK hroom2
    obtain ⟨w',hst,hS,hE⟩:=s.stores hvw hns hB hBs hl hrel (fun v hv=>List.all_eq_true.1 h1 v hv)
    refine ⟨_,.slice (some ⟨(ρ b).blk,o,none⟩) (len+n) cap',_,ρ,w',hK,run_append_in ht ht2 hi (hlo w) (hfc w rfl) hroom (by rw [Wg]; exact hst),?_,hS,hE⟩
    rw [List.length_set]
    rcases hsp with rfl | rfl
    · rw [hex rfl]; exact .slice hb
    · exact .loose hb hcap (hlo' (by simp))
   by_cases hroom:len+n≤cap
   · by_cases hn0:n=0
     · subst hn0
       obtain rfl:ns=[]:=List.length_eq_zero_iff.1 (by simpa using hlen)
       obtain rfl:ns' = #[]:=Array.size_eq_zero_iff.1 (by have:=hrel.1; simpa using this.symm)
       exact ⟨_,.slice (some ⟨(ρ b).blk,o,none⟩) len cap',h,ρ,w,(hK.1 hroom).1 rfl,run_append_in ht ht2 hi (hlo w) (hfc w rfl) (by omega) (by simp [storeCells]),hv,s,.refl _ _ _⟩
     obtain ⟨h1,hK⟩:=(hK.1 hroom).2 hn0
     split at hK
     · rename_i c e' hbk
       exact inplace (by omega) c e' _ (by simp [view,hbk,Blk.view]) (by rw [Wz hbk]; rfl) rfl rfl hK.1 h1 hK.2 hroom
     · rename_i xs e' hbk
       split at hK
       · rename_i is his
         exact inplace (by omega) (xs.map Zd) e' (.ints (Yh xs (o+len*i.size) is) e' false) (by simp [view,hbk,Blk.view]) (by rw [Wz hbk]; rfl) (by rw [intsOf_eq his]; simp [Blk.view,splice_map]) rfl (by rw [intsOf_eq his]; simpa using hK.1) h1 hK.2 hroom
       · exact hK.elim
     · exact hK.elim
   · obtain ⟨hby,hK⟩:=hK.2 (by omega)
     have hns:ns'.size=n*i.size:=by have:=hrel.1; simp at this; omega
     -- growth in the model
     have grow : ∀ (h0:Zh) (os:List Value),h0.length=h.length→Sim P ρ h0 w→Evo h ρ w h0 ρ w→(∃ os' : Array Value,(∀ W:World,W.heap=w.heap→(Builtin.firstCells i.size len (.slice (some ⟨(ρ b).blk,o,none⟩) len cap')).run P W = .ok os' W)∧LRel h.length ρ os os'.toList)→os.length=len*i.size→cap' < len+n →
       K (.slice (some ⟨h.length,0,some 0⟩) (len+n) (len+n)) (h0++[mkb (os++ns) e]) →
       ∃ r r' h' ρ' w',K r h'∧(Builtin.append_ #[t,t2] ty #[.slice (some ⟨(ρ b).blk,o,none⟩) len cap',x']).run P w = .ok r' w'∧VRel h'.length ρ' r r'∧Sim P ρ' h' w'∧Evo h ρ w h' ρ' w':=by
      intro h0 os hh0 s0 e0 ⟨os',hos,hosr⟩ hosl hc hK
      obtain ⟨m,rest,hrun,hm,hrs⟩:=run_append_out (ty:=ty) ht ht2 hi hz hby0 (hlo w) hfc hc hos hby
      obtain ⟨s1,e1⟩:=drew_sim s0
      have hoss:os'.size=len*i.size:=by have:=hosr.1; simp at this; omega
      have hsize:(os'++ns'++rest).size=m*i.size:=by
       simp only [Array.size_append,hns,hrs,hzs,hoss]
       rw [← Nat.add_mul,← Nat.add_mul]; congr 1; omega
      have hcat:=hosr.append hrel
      obtain ⟨s2,e2⟩:=mkb_alloc s1 (c:=os++ns) (e:=e) (c':=os'++ns'++rest) (es:=i.size) (by rw [hsize,List.length_append,hlen,hosl,← Nat.add_mul]; exact Nat.mul_le_mul_right _ hm) (fun k hk=>by
       have:=hcat.2 k hk
       have hk' : k<(os'++ns').size:=by rw [List.length_append] at hk; simp only [Array.size_append]; omega
       rw [hh0]
       have e3:(os'++ns'++rest).getD k undef=(os'.toList++ns'.toList).getD k undef:=by
        simp only [Array.getD_eq_getD_getElem?,List.getD]
        rw [Array.getElem?_append_left hk',← Array.toList_append,Array.getElem?_toList]
       rw [e3]; exact this) (by simp [hi])
      refine ⟨_,_,_,_,_,hK,hrun,?_,s2,(e0.trans e1).trans e2⟩
      have:=newLoose (h:=h0) (ρ:=ρ) (B:=mkb (os++ns) e) (w:={ w with drawn:=w.drawn+1 }) (len:=len+n) hm hsize
      rw [hh0] at this
      rw [hh0]
      simpa using this
     have reads : ∀ (c:List Value) (e2:TypeId) (ro:Bool),view h b=some (c,e2,ro)→side h b=false→o+len*i.size≤c.length →
       (∃ os' : Array Value,(∀ W:World,W.heap=w.heap→(Builtin.firstCells i.size len (.slice (some ⟨(ρ b).blk,o,none⟩) len cap')).run P W = .ok os' W)∧LRel h.length ρ ((c.drop o).take (len*i.size)) os'.toList):=by
      intro c e2 ro hvw hns hle
      obtain ⟨vs,hrun,hvsz,hvr⟩:=run_loadCells s hvw hns hle
      refine ⟨vs,fun W hW=>by simpa [Builtin.firstCells] using hrun W hW,by simp [hvsz]; omega,fun k hk=>?_⟩
      have:=hvr k (by simp at hk; omega)
      simpa [List.getD,Array.getD_eq_getD_getElem?] using this
     rcases hsp with rfl | rfl
     · -- exact
       have hns:=cellsK_side hK
       obtain ⟨c,e2,ro,hvw,hle,hK⟩:=cellsK_view hK
       exact grow h _ rfl s (.refl _ _ _) (reads c e2 ro hvw hns hle) (by simp; omega) (by rw [hex rfl]; omega) hK
     · -- loose
       obtain ⟨rfl,h1,hlive,hK⟩:=hK
       have hnsd:=cellsK_side hK
       obtain ⟨c,e2,ro,hvw,hle,hK⟩:=cellsK_view hK
       rw [hvw] at hlive
       cases ro with
       | true=>exact hlive.elim
       | false =>
         obtain rfl:e2=e:=hlive
         by_cases hroom' : cap' < len+n
         · obtain ⟨sk,ek⟩:=s.kill (i:=b)
           exact grow _ _ (by simp) sk ek (reads c e2 false hvw hnsd hle) (by simp; omega) hroom' hK
         · -- the model has room
           obtain ⟨c',fr,hc',hcsz,hcle,hcr,hw⟩:=s.cells b c e2 false hvw hnsd
           obtain ⟨rfl,hes⟩:=hw rfl
           have hes' : (ρ b).es=i.size:=by simpa [hi] using hes.symm
           have htot:=hlo' (by simp) rfl
           rw [hes'] at htot
           have hl' : len*i.size+ns'.toList.length≤c'.size:=by
            rw [hcsz,← htot]
            simp only [Array.length_toList,hns,Nat.zero_add]
            rw [← Nat.add_mul]; exact Nat.mul_le_mul_right _ (by omega)
           have h1' : ∀ v∈ns'.toList,v.oneCell' = true:=fun v' hm=>by obtain ⟨v,hv,hr⟩:=hrel.of_mem hm; exact hr.one' (List.all_eq_true.1 h1 v hv)
           have hrun:=run_storeCells_at P (ρ b).blk (len*i.size) e2 ns'.toList 0 c' w hc' (by simpa using hl') h1'
           rw [setRow_eq hc'] at hrun
           have hspl:(Yh c'.toList (len*i.size) ns'.toList).length=c'.toList.length:=Wa (by simpa using hl')
           have hosl:((c.drop 0).take (len*i.size)).length=len*i.size:=by simp at hle ⊢; omega
           obtain ⟨s2,e2'⟩:=dead_snoc s (os:=(c.drop 0).take (len*i.size)) (ns:=ns) (c1':=(Yh c'.toList (len*i.size) ns'.toList).toArray) hvw hc' rfl (by simpa using hspl)
            (by rw [List.length_append,hosl]; have:=hrel.1; simp at this hl' hspl ⊢; omega) (fun k hk=>by
             rw [List.length_append,hosl] at hk
             have e3:(Yh c'.toList (len*i.size) ns'.toList).toArray.getD k undef=(Yh c'.toList (len*i.size) ns'.toList).getD k undef:=by simp [Array.getD_eq_getD_getElem?,List.getD]
             rw [e3,splice_getD (by simpa using hl')]
             by_cases g1:k<len*i.size
             · rw [if_pos g1]
               have:=hcr k (by simp at hle; omega)
               have e4:((c.drop 0).take (len*i.size)++ns).getD k undef=c.getD k undef:=by
                simp only [List.getD]
                rw [List.getElem?_append_left (by omega)]
                simp [g1]
               rw [e4]
               simpa [List.getD,Array.getD_eq_getD_getElem?] using this
             · rw [if_neg g1,if_pos (by rw [← hrel.1]; omega)]
               have e4:((c.drop 0).take (len*i.size)++ns).getD k undef=ns.getD (k-len*i.size) undef:=by
                simp only [List.getD]
                rw [List.getElem?_append_right (by omega),hosl]
               rw [e4]
               exact hrel.2 _ (by omega))
           refine ⟨_,.slice (some ⟨(ρ b).blk,0,none⟩) (len+n) cap',_,_,_,hK,run_append_in ht ht2 hi (hlo w) (hfc w rfl) (by omega) (by rw [Wg]; simpa [Yh] using hrun),?_,s2,e2'⟩
           have:=VRel.loose (n:=(h.set b .dead++[mkb ((c.drop 0).take (len*i.size)++ns) e2]).length) (ρ:=Loc.upd ρ h.length (ρ b)) (b:=h.length) (o:=0) (len:=len+n) (cap:=len+n) (cap':=cap') (by simp) (by omega)
            (fun _=>by rw [Loc.upd_same,hes']; exact htot)
           rwa [Loc.upd_same] at this
 · exact hK.elim
end Go.Am
