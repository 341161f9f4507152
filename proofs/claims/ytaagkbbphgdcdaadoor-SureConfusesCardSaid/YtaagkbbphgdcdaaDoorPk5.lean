/-
  The abstract machine, part Y: a branch taken, and a part cut off, where the first part may itself be cut.
  The abstract machine, part Z: in a region whose order Go leaves open a variable may be laid earlier than the text says: what it lies in bears no name as long as effects ahead of it in the text are still to come.
  The abstract machine, part Z: slices of triples of ints.
  The abstract machine, part Za: unsigned ints of 64 bits as numbers.
  The abstract machine, part Zb: a body with labels that nobody jumps to.
  The abstract machine: the beginning and the end of a slice of values; appending them.
  The abstract machine, part Y b: in a region whose order Go leaves open a slice of one element may be laid earlier than the text says (as AmY's variable).
  The abstract machine, part Y c: blocks of pairs of ints that a run writes into.
  The abstract machine, part Y d: slices of structs of two ints, out of what a statement grants.
  The abstract machine, part Y e: a drawing region cut in two.
  The abstract machine, part Y f: a whole slice of pairs behind one that a run owns.
-/
import Derived.Test.YtaagkbbphgdcdaaDoorPk4
import Derived.Scope
import Derived.ChangeArms
set_option linter.all false
namespace Go.Am
theorem Zk {P:Program} [Tabs P] {sz:Nat} {a b:SCode} {Q:Exit→Env→Zh→Prop} {e:Env} {h:Zh}
  (k : ∀ N:Env→Zh→Prop,(∀ e1 e h,AWS P sz b Q e1 h→ELe e e1→N e h)→AWS P sz a (Zg N Q) e h):AWS P sz (.seq a b) Q e h:=by
 intro c hc hok
 obtain ⟨a',b',rfl,rfl,rfl⟩:=stripC_seq hc
 simp only [Yn,Bool.and_eq_true] at hok
 refine awp_seq ((k (fun e h=>AWS P sz (Zy b') Q e h) (fun e1 e h hk hl=>aws_le hk hl) a' rfl hok.1).mono ?_)
 intro x e' h' hq
 cases x <;> first | exact hq b' rfl hok.2 | exact hq
theorem stripC_cond {c:Code} {x:Operand} {a b:SCode} (h:Zy c = .cond x a b) : ∃ a' b',c = .cond x a' b'∧Zy a' = a∧Zy b' = b:=by
 cases c with
 | region id ops d=>cases d <;> simp [Zy] at h
 | cond x' a' b' =>
   simp only [Zy,SCode.cond.injEq] at h
   exact ⟨a',b',by rw [h.1],h.2.1,h.2.2⟩
 | _=>simp [Zy] at h
theorem aws_cond {P:Program} [Tabs P] {sz:Nat} {x:Operand} {a b:SCode} {Q:Exit→Env→Zh→Prop} {e:Env} {h:Zh} {g:Bool} (hg:ev e x = .bool g) (ht:g=true→AWS P sz a Q e h) (hf:g=false→AWS P sz b Q e h):AWS P sz (.cond x a b) Q e h:=by
 intro c hc hok
 obtain ⟨a',b',rfl,rfl,rfl⟩:=stripC_cond hc
 simp only [Yn,Bool.and_eq_true] at hok
 exact awp_cond hok.1.1 hg (fun h=>ht h a' rfl hok.1.2) (fun h=>hf h b' rfl hok.2)
theorem Yx {P:Program} [Tabs P] {sz:Nat} {x:Operand} {a b:SCode} {Q:Exit→Env→Zh→Prop} {e:Env} {h:Zh} (hg:ev e x = .bool true) (hk:AWS P sz a Q e h):AWS P sz (.cond x a b) Q e h :=
 aws_cond hg (fun _=>hk) (fun h=>by cases h)
theorem Yg {P:Program} [Tabs P] {sz:Nat} {x:Operand} {a b:SCode} {Q:Exit→Env→Zh→Prop} {e:Env} {h:Zh} (hg:ev e x = .bool false) (hk:AWS P sz b Q e h):AWS P sz (.cond x a b) Q e h :=
 aws_cond hg (fun h=>by cases h) (fun _=>hk)
theorem stripC_block {c:Code} {i:Nat} {a:SCode} (h:Zy c = .block i a) : ∃ a',c = .block i a'∧Zy a' = a:=by
 cases c with
 | region id ops d=>cases d <;> simp [Zy] at h
 | block j a' =>
   simp only [Zy,SCode.block.injEq] at h
   exact ⟨a',by rw [h.1],h.2⟩
 | _=>simp [Zy] at h
theorem Zo {P:Program} [Tabs P] {sz:Nat} {i:Nat} {a:SCode} {Q:Exit→Env→Zh→Prop} {e:Env} {h:Zh} (hk:AWS P sz a (Zl i Q) e h):AWS P sz (.block i a) Q e h:=by
 intro c hc hok
 obtain ⟨a',rfl,rfl⟩:=stripC_block hc
 exact awp_block (hk a' rfl hok)
end Go.Am
namespace Go.Am
theorem wpOpIn_put {F:Fence} {n:Nat} {P:Program} {ops:Array Oper} {Q:Exit→Act→World→Prop} {i:Nat} {K:Act→World→Prop} {a:Act} {w:World} {o:Oper} (ho:ops[i]? = some o) {d:Nat} (hd:o.dst≠some d)
  (h:wpOpIn F n P ops Q i K a w):wpOpIn F n P ops Q i (fun a' w'=>K a' w'∧a'.tmps.getD d undef=a.tmps.getD d undef) a w:=by
 have fact : ∀ (ds:List Deferred) (v:Value),(({ a with defers:=ds }:Act).put o.dst v).tmps.getD d undef=a.tmps.getD d undef:=by
  intro ds v
  cases hdst:o.dst with
  | none=>rfl
  | some c =>
    have hc:c≠d:=fun he=>hd (by rw [hdst,he])
    simp [Act.put,Array.getElem?_setIfInBounds_ne hc]
 have fact0 : ∀ v:Value,(a.put o.dst v).tmps.getD d undef=a.tmps.getD d undef:=fun v=>fact a.defers v
 unfold wpOpIn at h ⊢
 rw [ho] at h ⊢
 simp only at h ⊢
 split at h
 · rename_i hw
   rw [if_pos hw]
   unfold Oper.wpIn at h ⊢
   refine ⟨h.1,?_⟩
   have hh:=h.2
   generalize (o.semAt F.round a.eval).run P w=r at hh ⊢
   cases r with
   | ok x w' =>
     cases x <;> simp only [Oper.uponIn] at hh ⊢ <;>
      first
       | exact ⟨hh,fact0 _⟩
       | exact ⟨hh,fact _ _⟩
       | exact ⟨hh.1,CallsIn.mono hh.2 (fun e w'' he=>by cases e <;> first | exact ⟨he,fact0 _⟩ | exact he)⟩
       | exact ⟨hh.1,RowsIn.mono hh.2 (fun _ _ he=>⟨he,fact0 _⟩)⟩
       | exact ⟨hh.1,RoundIn.mono hh.2 (fun e w'' he=>by cases e <;> first | exact ⟨he,fact0 _⟩ | exact he)⟩
   | halt x w'=>cases x <;> simp only [Oper.uponIn] at hh ⊢ <;> exact hh
 · rename_i hw
   rw [if_neg hw]
   exact ⟨h.1,h.2,fact0 _⟩
structure MidB (P:Program) [Tabs P] (qs:List (Nat×Nat)) (ops:Array Oper) (af:List (List Nat)) (tr:List (Value×Zh)) (e0:Env) (h0:Zh) (hb:Zh) (ρ0:Nat→Loc) (w0:World) (r:Option Nat) (m sz:Nat) (listed:Array Bool) (a:Act) (w:World):Prop where
 size:listed.size=ops.size
 closed : ∀ j,listed.getD j false=true→∀ e∈af.getD j [],listed.getD e false=true
 st : ∃ ρ e h,Evo hb ρ0 w0 h ρ w∧Sim P ρ h w∧ARel r m sz ρ h e a w ∧
  (∀ t,∃ k,sget e t=sget (Yu (Zs ops) tr e0 k) t∧∀ i o,(Zs ops)[i]? = some o→o.dst=some t→(listed.getD i false=true↔i<k)) ∧
  (∃ k,h=Zr tr h0 k∧∀ i o,(Zs ops)[i]? = some o→cls qs i o.op=3→(listed.getD i false=true↔i<k))
section
variable {P:Program} [Tabs P] {R:Zh→Prop} {qs:List (Nat×Nat)} {ops:Array Oper} {af:List (List Nat)} {tr:List (Value×Zh)} {e0:Env} {h0 hb:Zh} {ρ0:Nat→Loc} {w0:World} {r:Option Nat} {m sz:Nat}
theorem MidB.congr {listed listed' : Array Bool} {a:Act} {w:World} (M:MidB P qs ops af tr e0 h0 hb ρ0 w0 r m sz listed a w) (hs:listed'.size=listed.size) (hl : ∀ j,listed'.getD j false=listed.getD j false):MidB P qs ops af tr e0 h0 hb ρ0 w0 r m sz listed' a w where
 size:=hs.trans M.size
 closed j hj e he:=by rw [hl] at hj ⊢; exact M.closed j hj e he
 st:=by
  obtain ⟨ρ,e,h,g1,g2,g3,g4,k,g5,g6⟩:=M.st
  exact ⟨ρ,e,h,g1,g2,g3,fun t=>by
   obtain ⟨k,k1,k2⟩:=g4 t
   exact ⟨k,k1,fun i o hi hd=>by rw [hl]; exact k2 i o hi hd⟩,k,g5,fun i o hi hc=>by rw [hl]; exact g6 i o hi hc⟩
theorem midB_next {listed:Array Bool} {a:Act} {w:World} {i:Nat} {o:SOp} {v:Value} (hd:Vm (Zs ops) af qs=true) (hso:(Zs ops)[i]? = some o) (htr:tr[i]? = some (v,Zr tr h0 (i+1)))
  (hXs : ∀ k,k<tr.length→¬ (∃ o,(Zs ops)[k]? = some o∧cls qs k o.op=3)→Zr tr h0 (k+1)=Zr tr h0 k)
  (M:MidB P qs ops af tr e0 h0 hb ρ0 w0 r m sz listed a w) (hil:i<listed.size) (hiS : ¬ listed.getD i false=true) (hedge : ∀ e∈af.getD i [],listed.getD e false=true) :
  ∃ ρ e h,Evo hb ρ0 w0 h ρ w∧Sim P ρ h w∧ARel r m sz ρ h e a w∧(∀ t,t∈reads o→sget e t=sget (Yu (Zs ops) tr e0 i) t)∧((cls qs i o.op=3∨cls qs i o.op=1)→h=Zr tr h0 i)∧(∃ k,h=Zr tr h0 k) ∧
    (∀ t,o.dst=some t→(∀ j oj,(Zs ops)[j]? = some oj→oj.dst=some t→j=i)→sget e t=sget e0 t) ∧
    ∀ (hx:Zh) (ρx:Nat→Loc) (wx:World) (h1:Zh),(cls qs i o.op=3→h1=Zr tr h0 (i+1))→(cls qs i o.op≠3→h1=h)→∀ ρ' a' w',Evo hx ρx wx h1 ρ' w'→Sim P ρ' h1 w'→ARel r m sz ρ' h1 (Zf e o.dst v) a' w' →
      MidB P qs ops af tr e0 h0 hx ρx wx r m sz (listed.setIfInBounds i true) a' w':=by
 obtain ⟨ρ,e,h,hE,hS,hA,hslot,kh,hheap,hheapS⟩:=M.st
 -- who clashes with i is listed just if it stands ahead in the text
 have hcl : ∀ j oj,(Zs ops)[j]? = some oj→j≠i→(Wh (cls qs j oj.op) (cls qs i o.op) oj o=true∨Wh (cls qs i o.op) (cls qs j oj.op) o oj=true)→(Wh (cls qs j oj.op) (cls qs i o.op) oj o=true∧Wh (cls qs i o.op) (cls qs j oj.op) o oj=true) →
   (listed.getD j false=true↔j<i):=by
  intro j oj hj hne _ hc
  rcases Nat.lt_or_gt_of_ne hne with hlt | hgt
  · have hb:=Ve hd hj hso hlt hc.1
    exact ⟨fun _=>hlt,fun _=>ahead (S:=fun j=>listed.getD j false=true) M.closed i j hedge hb⟩
  · have hb:=Ve hd hso hj hgt hc.2
    exact ⟨fun hjS=>absurd (ahead (S:=fun j=>listed.getD j false=true) M.closed j i (M.closed j hjS) hb) hiS,fun h=>by omega⟩
 have wread : ∀ t j oj,t∈reads o→(Zs ops)[j]? = some oj→oj.dst=some t→(listed.getD j false=true↔j<i):=by
  intro t j oj ht hj hdt
  by_cases hne:j=i
  · subst hne; exact ⟨fun h=>absurd h hiS,fun h=>by omega⟩
  · have c1:Wh (cls qs j oj.op) (cls qs i o.op) oj o=true:=by simp [Wh,hdt,ht]
    have c2:Wh (cls qs i o.op) (cls qs j oj.op) o oj=true:=by simp [Wh,hdt,ht]
    exact hcl j oj hj hne (.inl c1) ⟨c1,c2⟩
 have wwrite : ∀ t j oj,o.dst=some t→(Zs ops)[j]? = some oj→oj.dst=some t→j≠i→(listed.getD j false=true↔j<i):=by
  intro t j oj ht hj hdt hne
  have c1:Wh (cls qs j oj.op) (cls qs i o.op) oj o=true:=by simp [Wh,hdt,ht]
  have c2:Wh (cls qs i o.op) (cls qs j oj.op) o oj=true:=by simp [Wh,hdt,ht]
  exact hcl j oj hj hne (.inl c1) ⟨c1,c2⟩
 have wheap : ∀ j oj,(cls qs i o.op=3∨cls qs i o.op=1)→(Zs ops)[j]? = some oj→cls qs j oj.op=3→(listed.getD j false=true↔j<i):=by
  intro j oj hc hj hx
  by_cases hne:j=i
  · subst hne; exact ⟨fun h=>absurd h hiS,fun h=>by omega⟩
  · have c1:Wh (cls qs j oj.op) (cls qs i o.op) oj o=true:=by rcases hc with hc | hc <;> simp [Wh,hx,hc]
    have c2:Wh (cls qs i o.op) (cls qs j oj.op) o oj=true:=by rcases hc with hc | hc <;> simp [Wh,hx,hc]
    exact hcl j oj hj hne (.inl c1) ⟨c1,c2⟩
 have hread : ∀ t,t∈reads o→sget e t=sget (Yu (Zs ops) tr e0 i) t:=by
  intro t ht
  obtain ⟨k,h1,h2⟩:=hslot t
  rw [h1]
  exact Vn fun j oj hj hdt=>by rw [← h2 j oj hj hdt]; exact wread t j oj ht hj hdt
 have hheapi:(cls qs i o.op=3∨cls qs i o.op=1)→h=Zr tr h0 i:=by
  intro hc
  rw [hheap]
  exact heapAt_eq (X:=fun k=>∃ o,(Zs ops)[k]? = some o∧cls qs k o.op=3) hXs fun j ⟨oj,hj,hx⟩=>by rw [← hheapS j oj hj hx]; exact wheap j oj hc hj hx
 refine ⟨ρ,e,h,hE,hS,hA,hread,hheapi,⟨kh,hheap⟩,fun t ht hu=>?_,?_⟩
 · obtain ⟨k,k1,k2⟩:=hslot t
   rw [k1]
   exact Vn (b:=0) fun j oj hj hdj=>by
    obtain rfl:=hu j oj hj hdj
    have:=k2 j oj hj hdj
    exact ⟨fun h=>absurd (this.2 h) hiS,fun h=>by omega⟩
 · intro hx ρx wx h1 hc3 hcn ρ' a' w' g1 g2 g3
   refine ⟨by simp [M.size],fun j hj e' he'=>?_,ρ',_,h1,g1,g2,g3,fun t=>?_,?_⟩
   · rw [Yc hil] at hj ⊢
     rcases hj with rfl | hj
     · exact .inr (hedge e' he')
     · exact .inr (M.closed j hj e' he')
   · by_cases hdt:o.dst=some t
     · refine ⟨i+1,?_,fun j oj hj hdj=>?_⟩
       · rw [Wc,if_pos hdt]
         show v=sget (match (Zs ops)[i]?,tr[i]? with | some o,some (v,_)=>Zf (Yu (Zs ops) tr e0 i) o.dst v | _,_=>Yu (Zs ops) tr e0 i) t
         rw [hso,htr]
         simp only
         rw [Wc,if_pos hdt]
       · rw [Yc hil]
         by_cases hne:j=i
         · subst hne; exact ⟨fun _=>by omega,fun _=>.inl rfl⟩
         · rw [wwrite t j oj hdt hj hdj hne]; omega
     · obtain ⟨k,k1,k2⟩:=hslot t
       refine ⟨k,by rw [Wc,if_neg hdt]; exact k1,fun j oj hj hdj=>?_⟩
       rw [Yc hil,← k2 j oj hj hdj]
       have hne:j≠i:=fun he=>by subst he; rw [hso] at hj; cases hj; exact hdt hdj
       simp [hne]
   · by_cases hc:cls qs i o.op=3
     · refine ⟨i+1,hc3 hc,fun j oj hj hx=>?_⟩
       rw [Yc hil]
       by_cases hne:j=i
       · subst hne; exact ⟨fun _=>by omega,fun _=>.inl rfl⟩
       · rw [wheap j oj (.inl hc) hj hx]; omega
     · refine ⟨kh,(hcn hc).trans hheap,fun j oj hj hx=>?_⟩
       rw [Yc hil,← hheapS j oj hj hx]
       have hne:j≠i:=fun he=>by subst he; rw [hso] at hj; cases hj; exact hc hx
       simp [hne]
theorem midB_step {n:Nat} {Qx:Exit→Act→World→Prop} {listed:Array Bool} {a:Act} {w:World} {i:Nat} {o' : Oper} (ho' : ops[i]? = some o') (hok : ∀ o∈ops.toList,opsOK sz ops o=true) (hd:Vm (Zs ops) af qs=true)
  (hsp : ∀ o,(Zs ops)[i]? = some o→∃ v,tr[i]? = some (v,Zr tr h0 (i+1))∧StepD P R (cls qs i o.op) o (Yu (Zs ops) tr e0 i) (Zr tr h0 i) v (Zr tr h0 (i+1)))
  (hXs : ∀ k,k<tr.length→¬ (∃ o,(Zs ops)[k]? = some o∧cls qs k o.op=3)→Zr tr h0 (k+1)=Zr tr h0 k) (hm:m≤w0.heap.size)
  (hR : ∀ k,R (Zr tr h0 k))
  (M:MidB P qs ops af tr e0 h0 hb ρ0 w0 r m sz listed a w) (hil:i<listed.size) (hiS : ¬ listed.getD i false=true) (hedge : ∀ e∈af.getD i [],listed.getD e false=true) (K:Act→World→Prop) (hK : ∀ a' w',MidB P qs ops af tr e0 h0 hb ρ0 w0 r m sz (listed.setIfInBounds i true) a' w'→K a' w') :
  wpOpIn (fence r) n P ops Qx i K a w:=by
 have hso:=strip_get' ho'
 obtain ⟨o,hoeq⟩ : ∃ o:SOp,o=⟨o'.dst,o'.op,o'.guard.map fun p=>((gslot ops p.1).getD 0,p.2)⟩:=⟨_,rfl⟩
 rw [← hoeq] at hso
 have hodst:o.dst=o'.dst:=by rw [hoeq]
 have hoop:o.op=o'.op:=by rw [hoeq]
 have hmem:o'∈ops.toList:=by rw [Array.mem_toList_iff]; exact Array.mem_of_getElem? ho'
 have hok':=hok o' hmem
 obtain ⟨v,htr,hstep⟩:=hsp o hso
 obtain ⟨ρ,e,h,hE,hS,hA,hread,hheapi,⟨kh,hheap⟩,_,hnext⟩:=midB_next hd hso htr hXs M hil hiS hedge
 have next : ∀ (h1:Zh),(cls qs i o.op=3→h1=Zr tr h0 (i+1))→(cls qs i o.op≠3→h1=h)→∀ ρ' a' w',Evo h ρ w h1 ρ' w'→Sim P ρ' h1 w'→ARel r m sz ρ' h1 (Zf e o.dst v) a' w'→K a' w' :=
  fun h1 c3 cn ρ' a' w' g1 g2 g3=>hK a' w' (hnext hb ρ0 w0 h1 c3 cn ρ' a' w' (hE.trans g1) g2 g3)
 have hmw:m≤w.heap.size:=Nat.le_trans hm hE.wsize
 simp only [opsOK,Bool.and_eq_true] at hok'
 have opE : ∀ x∈o.op.operands.toList,ev e x=ev (Yu (Zs ops) tr e0 i) x:=by
  intro x hx
  cases x with
  | tmp t=>exact hread t (by simp only [reads,List.mem_append,List.mem_filterMap]; exact .inl ⟨.tmp t,hx,rfl⟩)
  | _=>rfl
 have run:((∀ K:Value→Zh→Prop,K v (Zr tr h0 (i+1))→aop P true o.op (ev (Yu (Zs ops) tr e0 i)) (Zr tr h0 i) K)∧(cls qs i o.op≠3→Zr tr h0 (i+1)=Zr tr h0 i) ∧
   (cls qs i o.op=0→∀ (h1:Zh) (K:Value→Zh→Prop),K v h1→aop P true o.op (ev (Yu (Zs ops) tr e0 i)) h1 K)∧(cls qs i o.op=2→∀ (h1:Zh) (K:Value→Zh→Prop),R h1→K v h1→aop P true o.op (ev (Yu (Zs ops) tr e0 i)) h1 K))→o'.wpIn (fence r) n P a w K Qx:=by
  rintro ⟨s1,s2,s3,s4⟩
  have fin : ∀ (h1:Zh),(cls qs i o.op=3→h1=Zr tr h0 (i+1))→(cls qs i o.op≠3→h1=h)→aop P true o.op (ev (Yu (Zs ops) tr e0 i)) h (fun v' h'=>v' = v∧h' = h1)→o'.wpIn (fence r) n P a w K Qx:=by
   intro h1 c3 cn hk
   have hk2:aop P false o'.op (ev e) h (fun v' h'=>(fun e1 h2=>e1=Zf e o.dst v∧h2=h1) (Zf e o'.dst v') h'):=by
    rw [← aop_congr (E:=ev e) (E':=ev (Yu (Zs ops) tr e0 i)) opE] at hk
    rw [← hoop]
    have:=aop_weak (Vh hk (K':=fun v' h'=>(fun e1 h2=>e1=Zf e o.dst v∧h2=h1) (Zf e o'.dst v') h') (fun v' h' ⟨g1,g2⟩=>by rw [g1,g2,hodst]; exact ⟨rfl,rfl⟩))
    exact this
   refine Oper.wpIn_mono ?_ (op_ok (P:=P) (sz:=sz) (K:=fun e1 h2=>e1=Zf e o.dst v∧h2=h1) hok'.1 hk2 r n m ρ a w hmw hS hA Qx)
   rintro a' w' ⟨ρ',e',h',⟨rfl,rfl⟩,g2,g3,g4⟩
   exact next _ c3 cn ρ' a' w' g2 g3 g4
  rcases cls_cases qs i o.op with ⟨hc,_⟩ | hc | hc | hc
  · exact fin h (fun h=>by rw [hc] at h; cases h) (fun _=>rfl) (s3 hc h _ ⟨rfl,rfl⟩)
  · have:=hheapi (.inr hc)
    refine fin h (fun h=>by rw [hc] at h; cases h) (fun _=>rfl) ?_
    rw [this]
    exact s1 _ ⟨rfl,s2 (by rw [hc]; simp)⟩
  · exact fin h (fun h=>by rw [hc] at h; cases h) (fun _=>rfl) (s4 hc h _ (hheap▸hR kh) ⟨rfl,rfl⟩)
  · have:=hheapi (.inl hc)
    refine fin (Zr tr h0 (i+1)) (fun _=>rfl) (fun h=>absurd hc h) ?_
    rw [this]
    exact s1 _ ⟨rfl,rfl⟩
 unfold wpOpIn
 rw [ho']
 simp only
 unfold StepD at hstep
 cases hg:o'.guard with
 | none =>
   have hog:o.guard=none:=by rw [hoeq,hg]; rfl
   simp only [hog] at hstep
   rw [if_pos (by simp [Region.wanted,hg])]
   exact run hstep
 | some p =>
   obtain ⟨j,want⟩:=p
   simp only [hg] at hok'
   cases hsl:gslot ops j with
   | none=>simp [hsl] at hok'
   | some d =>
     have hog:o.guard=some (d,want):=by rw [hoeq,hg]; simp [hsl]
     simp only [hog] at hstep
     obtain ⟨b,hb,k1,k2⟩:=hstep
     have hdr:d∈reads o:=by simp [reads,hog]
     rw [← hread d hdr] at hb
     have hdl:d<sz:=by simpa [hsl] using hok'.2
     have hr:=hA.env d (by rw [hA.size]; exact hdl)
     rw [hb] at hr
     have hv:=hr.gv
     have hy:yielded ops a.tmps j=b:=by
      have hlt:d<a.tmps.size:=by rw [hA.size]; exact hdl
      unfold yielded
      unfold gslot at hsl
      rw [hsl]
      have e1:a.tmps.getD d undef=a.tmps[d]:=by simp [Array.getD_eq_getD_getElem?,hlt]
      rw [e1] at hv
      simp only [Option.bind_some,Array.getElem?_eq_getElem hlt]
      rw [← hv]; cases a.tmps[d] <;> rfl
     by_cases hbw:b=some want
     · rw [if_pos (by simp [Region.wanted,hg,hy,hbw])]
       exact run (k1 hbw)
     · rw [if_neg (by simp [Region.wanted,hg,hy,hbw])]
       obtain ⟨g1,g2⟩:=k2 hbw
       subst g1
       refine ⟨fun _ _=>trivial,next h (fun hc=>?_) (fun _=>rfl) ρ _ w (.refl _ _ _) hS ?_⟩
       · rw [g2]; exact hheapi (.inl hc)
       · rw [← hodst]; exact hA.put .skip
/-! ### A block laid early -/
theorem VRel.of_atom {n:Nat} {ρ:Nat→Loc} {v x:Value} (ha:Am.atom v=true) (h:VRel n ρ v x) : ∀ n ρ,VRel n ρ v x:=by
 intro n2 ρ2
 cases h with
 | any=>exact .any _
 | atom h=>exact .atom h
 | _=>simp [Am.atom,skp] at ha
theorem zeroOf_atom {t:TypeId} {c:List Value} (h:Xs P t=some c) : ∀ k,k<c.length→atom (c.getD k undef)=true:=by
 unfold Xs at h
 split at h
 · split at h
   · split at h
     · rename_i hat
       cases h
       intro k hk
       rw [List.getD,List.getElem?_eq_getElem hk]
       exact List.all_eq_true.1 hat _ (List.getElem_mem _)
     · cases h
   · cases h
 · cases h
theorem sim_forget {h g:Zh} {ρ ρ' : Nat→Loc} {w w' : World} (s:Sim P ρ h w) (hE:Evo h ρ w (h++g) ρ' w') (hS:Sim P ρ' (h++g) w'):Sim P ρ' h w'∧Evo h ρ w h ρ' w':=by
 have hx:Ext (fun _=>False) h (h++g):=Ext.app _ _ _
 refine ⟨⟨fun i c e ro hw hns=>?_,fun i b hi hb=>?_,fun i j x y hi hj hb=>hS.inj i j x y (view_ext hx hi) (view_ext hx hj) hb,fun p hp=>⟨(hS.tab p hp).1,?_⟩⟩,Nat.le_refl _,hE.agree,hE.wsize,hE.os,hE.tape,hE.output,hE.keep,?_,?_⟩
 · obtain ⟨c',fr,h1,h2,h3,h4,h5⟩:=hS.cells i c e ro (view_ext hx hw) (by rw [side_ext hx (Wn hw)]; exact hns)
   obtain ⟨c0,fr0,-,-,h30,h40,-⟩:=s.cells i c e ro hw hns
   exact ⟨c',fr,h1,h2,h3,fun k hk=>(h40 k hk).restrict (h4 k hk) hE.agree,h5⟩
 · obtain ⟨o',h1,h2⟩:=hS.sides i b ((hx.2 i (List.getElem?_eq_some_iff.1 hi).1 id).trans hi) hb
   obtain ⟨o0,-,h3⟩:=s.sides i b hi hb
   exact ⟨o',h1,h3.restrict h2 hE.agree⟩
 · rintro ⟨i,c,e,hw,hk⟩
   exact (hS.tab p hp).2 ⟨i,c,e,view_ext hx hw,hk⟩
 · rintro k ⟨i,c,e,hw,hk⟩
   exact .inr ⟨i,c,e,hw,by rw [← hk,hE.agree i (Wn hw)]⟩
 · rintro k ⟨i,x,hw,hk⟩
   exact .inr ⟨i,x,hw,by rw [← hk,hE.agree i (Wn hw)]⟩
theorem sim_name {h:Zh} {ρ:Nat→Loc} {w:World} {l:Loc} {c:List Value} {c' : Array Value} {t:TypeId} (s:Sim P ρ h w) (hc:w.heap[l.blk]? = some (.cells c' t (0,0))) (hsz:c'.size=l.sz) (hle:c.length≤c'.size)
  (hr : ∀ k,k<c.length→∀ n ρ,VRel n ρ (c.getD k undef) (c'.getD k undef)) (he:(P.info? t).map (·.size)=some l.es) (hL : ¬ Live h ρ l.blk) (htab : ∀ p∈Tabs.tabs P,p.1≠l.blk) :
  Sim P (Loc.upd ρ h.length l) (h++[.cells c t false]) w:=by
 have hag : ∀ i,i<h.length→Loc.upd ρ h.length l i=ρ i:=fun i hi=>Loc.upd_lt ρ _ hi
 refine ⟨?_,?_,?_,fun p hp=>⟨(s.tab p hp).1,?_⟩⟩
 rotate_left
 · intro i b1 hi1 hb1
   rcases List.getElem?_append_left_or hi1 with ⟨hi,h2⟩ | h2
   · obtain ⟨o,h3,h4⟩:=s.sides i b1 h2 hb1
     rw [hag i hi]
     exact ⟨o,h3,h4.mono (by simp) hag⟩
   · rw [h2] at hb1; cases hb1
 rotate_left 2
 · intro i c1 e1 ro1 hv hns
   rcases Xi hv with ⟨hi,hv1⟩ | ⟨rfl,hv1⟩
   · obtain ⟨c2,fr,g1,g2,g3,g4,g5⟩:=s.cells i c1 e1 ro1 hv1 (by rw [side_append hi] at hns; exact hns)
     rw [hag i hi]
     exact ⟨c2,fr,g1,g2,g3,fun k hk=>(g4 k hk).mono (by simp) hag,g5⟩
   · simp only [Blk.view] at hv1; cases hv1
     rw [Loc.upd_same]
     exact ⟨c',(0,0),hc,hsz,hle,fun k hk=>hr k hk _ _,fun _=>⟨rfl,he⟩⟩
 · intro i j x y hi hj hij
   rcases Xi hi with ⟨hi1,hi2⟩ | ⟨rfl,hi2⟩ <;> rcases Xi hj with ⟨hj1,hj2⟩ | ⟨rfl,hj2⟩
   · rw [hag i hi1,hag j hj1] at hij; exact s.inj i j x y hi2 hj2 hij
   · rw [hag i hi1,Loc.upd_same] at hij; exact absurd ⟨i,x,hi2,hij⟩ hL
   · rw [hag j hj1,Loc.upd_same] at hij; exact absurd ⟨j,y,hj2,hij.symm⟩ hL
   · rfl
 · rintro ⟨i,c1,e1,hv,hk⟩
   rcases Xi hv with ⟨hi,hv1⟩ | ⟨rfl,hv1⟩
   · rw [hag i hi] at hk; exact (s.tab p hp).2 ⟨i,c1,e1,hv1,hk⟩
   · rw [Loc.upd_same] at hk; exact htab p hp hk.symm
theorem evo_name {hx h:Zh} {ρx ρ:Nat→Loc} {wx w:World} {l:Loc} {c:List Value} {t:TypeId} (hE:Evo hx ρx wx h ρ w) (hge:wx.heap.size≤l.blk):Evo hx ρx wx (h++[.cells c t false]) (Loc.upd ρ h.length l) w:=by
 have hag : ∀ i,i<h.length→Loc.upd ρ h.length l i=ρ i:=fun i hi=>Loc.upd_lt ρ _ hi
 refine ⟨by have:=hE.len; simp; omega,fun i hi=>by rw [hag i (Nat.lt_of_lt_of_le hi hE.len)]; exact hE.agree i hi,hE.wsize,hE.os,hE.tape,hE.output,hE.keep,?_,?_⟩
 · rintro k ⟨i,c1,e1,hv,rfl⟩
   rcases Xi hv with ⟨hi,hv1⟩ | ⟨rfl,hv1⟩
   · exact hE.orig _ ⟨i,c1,e1,hv1,by rw [hag i hi]⟩
   · left; rw [Loc.upd_same]; exact hge
 · rintro k ⟨i,x1,hv,rfl⟩
   rcases Xi hv with ⟨hi,hv1⟩ | ⟨rfl,hv1⟩
   · exact hE.live _ ⟨i,x1,hv1,by rw [hag i hi]⟩
   · left; rw [Loc.upd_same]; exact hge
def extE (af:List (List Nat)) (z:Nat) (X:List Nat):List (List Nat):=af.set z (af.getD z []++X)
def earlyOK (l:List SOp) (af:List (List Nat)) (z d:Nat) (X:List Nat):Bool :=
 (match l[z]? with | some ⟨some d',.alloc _,none⟩=>d' == d | _=>false)&&decide (z<af.length)&&X.all (fun k=>decide (k<z))&&l.zipIdx.all (fun p=>p.2==z || p.1.dst != some d) &&
 l.zipIdx.all (fun p=>!(af.getD p.2 []).contains z || X.all fun k=>((Wt [] af).getD p.2 0).testBit k)
theorem extE_ne {z i:Nat} {X:List Nat} (h:i≠z):(extE af z X).getD i []=af.getD i []:=by
 simp only [extE,List.getD,List.getElem?_set_ne (Ne.symm h)]
theorem extE_same {z:Nat} {X:List Nat} (h:z<af.length):(extE af z X).getD z []=af.getD z []++X:=by
 rw [extE,List.getD,List.getElem?_set_self h]; rfl
structure Pend (P:Program) [Tabs P] (qs:List (Nat×Nat)) (ops:Array Oper) (af:List (List Nat)) (tr:List (Value×Zh)) (e0:Env) (h0:Zh) (ρ0:Nat→Loc) (w0:World) (r:Option Nat) (m sz:Nat) (z d:Nat) (t:TypeId) (c:List Value) (X:List Nat) (listed:Array Bool) (a:Act) (w:World):Prop where
 size:listed.size=ops.size
 lz:listed.getD z false=true
 ez : ∀ e∈af.getD z [],listed.getD e false=true
 st : ∃ (listed' : Array Bool) (hb:Zh) (ρb:Nat→Loc) (wb:World) (l:Loc) (c' : Array Value),listed'.size=listed.size∧listed'.getD z false=false∧(∀ j,j≠z→listed'.getD j false=listed.getD j false)∧Evo h0 ρ0 w0 hb ρb wb ∧
  MidB P qs ops (extE af z X) tr e0 h0 hb ρb wb r m sz listed' a w∧wb.heap[l.blk]? = some (.cells c' t (0,0))∧c'.size=l.sz∧c.length≤c'.size∧(∀ k,k<c.length→∀ n ρ,VRel n ρ (c.getD k undef) (c'.getD k undef)) ∧
  (P.info? t).map (·.size)=some l.es∧¬ Live hb ρb l.blk∧w0.heap.size≤l.blk∧a.tmps.getD d undef = .pointer (some ⟨l.blk,0,none⟩)
variable {z d:Nat} {t:TypeId} {c:List Value} {X:List Nat}
theorem trace_alloc (hsp : ∀ k o,(Zs ops)[k]? = some o→∃ v,tr[k]? = some (v,Zr tr h0 (k+1))∧StepD P R (cls qs k o.op) o (Yu (Zs ops) tr e0 k) (Zr tr h0 k) v (Zr tr h0 (k+1)))
  (hz:(Zs ops)[z]? = some ⟨some d,.alloc t,none⟩) : ∃ c,Xs P t=some c∧tr[z]? = some (Xc (Zr tr h0 z),Zr tr h0 (z+1))∧Zr tr h0 (z+1)=Zr tr h0 z++[.cells c t false]:=by
 obtain ⟨v,h1,h2⟩:=hsp z _ hz
 unfold StepD at h2
 have h3:=h2.1 (fun v' h'=>v' = v∧h' = Zr tr h0 (z+1)) ⟨rfl,rfl⟩
 simp only [aop,Xv] at h3
 split at h3
 · rename_i c hc
   obtain ⟨rfl,h4⟩:=h3
   exact ⟨c,hc,h1,h4.symm⟩
 · exact h3.elim
theorem pend_enter {n:Nat} {Qx:Exit→Act→World→Prop} {listed:Array Bool} {a:Act} {w:World} {o' : Oper} (ho' : ops[z]? = some o') (hso:(Zs ops)[z]? = some ⟨some d,.alloc t,none⟩) (hok : ∀ o∈ops.toList,opsOK sz ops o=true)
  (hzc:Xs P t=some c) (huq : ∀ j oj,(Zs ops)[j]? = some oj→oj.dst=some d→j=z) (hud:sget e0 d=undef) (hm:m≤w0.heap.size)
  (M:MidB P qs ops (extE af z X) tr e0 h0 h0 ρ0 w0 r m sz listed a w) (hil:z<listed.size) (hiS : ¬ listed.getD z false=true) (hedge : ∀ e∈af.getD z [],listed.getD e false=true) (hzl:z<af.length) (hfw : ∀ e∈af.getD z [],e≠z) (K:Act→World→Prop)
  (hK : ∀ a' w',Pend P qs ops af tr e0 h0 ρ0 w0 r m sz z d t c X (listed.setIfInBounds z true) a' w'→K a' w'):wpOpIn (fence r) n P ops Qx z K a w:=by
 obtain ⟨ρ,e,h,hE,hS,hA,hslot,kh,hheap,hheapS⟩:=M.st
 have hse:=strip_get' ho'
 rw [hso] at hse
 injection hse with hse
 have hdst:o'.dst=some d:=by injection hse with h1 _ _; exact h1.symm
 have hop:o'.op = .alloc t:=by injection hse with _ h1 _; exact h1.symm
 have hgd:o'.guard=none:=by
  injection hse with _ _ h1
  cases hg:o'.guard with
  | none=>rfl
  | some p=>rw [hg] at h1; cases h1
 have hmem:o'∈ops.toList:=by rw [Array.mem_toList_iff]; exact Array.mem_of_getElem? ho'
 have hok':=hok o' hmem
 simp only [opsOK,Bool.and_eq_true] at hok'
 have hds:d<sz:=by
  have:=hok'.1
  simp only [opOK,hdst,Bool.and_eq_true,decide_eq_true_eq] at this
  exact this.2
 have hmw:m≤w.heap.size:=Nat.le_trans hm hE.wsize
 have hun:sget e d=undef:=by
  obtain ⟨k,k1,k2⟩:=hslot d
  rw [k1,← hud]
  exact Vn (b:=0) fun j oj hj hdj=>by
   obtain rfl:=huq j oj hj hdj
   have:=k2 j oj hj hdj
   exact ⟨fun h=>absurd (this.2 h) hiS,fun h=>by omega⟩
 unfold wpOpIn
 rw [ho']
 simp only
 rw [if_pos (by simp [Region.wanted,hgd])]
 have hk:aop P false o'.op (ev e) h (fun v' h'=>(fun e1 h2=>e1=Zf e (some d) (Xc h)∧h2=h++[.cells c t false]) (Zf e o'.dst v') h'):=by
  rw [hop]
  simp only [aop,Xv,hzc,hdst]
  refine ⟨?_,?_⟩ <;> trivial
 refine Oper.wpIn_mono ?_ (op_ok (P:=P) (sz:=sz) (K:=fun e1 h2=>e1=Zf e (some d) (Xc h)∧h2=h++[.cells c t false]) hok'.1 hk r n m ρ a w hmw hS hA Qx)
 rintro a' w' ⟨ρ',_,_,⟨rfl,rfl⟩,gE,gS,gA⟩
 refine hK a' w' ?_
 obtain ⟨fS,fE⟩:=sim_forget hS gE gS
 have hnew:view (h++[.cells c t false]) h.length=some (c,t,false):=by simp [view,Blk.view]
 obtain ⟨c',fr,g1,g2,g3,g4,g5⟩:=gS.cells h.length c t false hnew (by rw [side_new]; rfl)
 obtain ⟨rfl,g6⟩:=g5 rfl
 have hnl : ¬ Live h ρ' (ρ' h.length).blk:=by
  rintro ⟨i,x,hv,hb⟩
  have:=gS.inj i h.length x _ (view_ext (Ext.app _ _ _) hv) hnew hb
  have:=Wn hv; omega
 have hptr:a'.tmps.getD d undef = .pointer (some ⟨(ρ' h.length).blk,0,none⟩):=by
  have h1:=gA.env d (by rw [gA.size]; exact hds)
  simp only [Zf,sget_sput,if_pos] at h1
  exact h1.ptr'.2.2
 have hge:w.heap.size≤(ρ' h.length).blk:=by
  rcases gE.orig _ ⟨h.length,c,t,hnew,rfl⟩ with h1 | ⟨i,c1,e1,hv,hb⟩
  · exact h1
  · exact absurd ⟨i,_,hv,by rw [gE.agree i (Wn hv)]; exact hb⟩ hnl
 have hz0:listed.getD z false=false:=by simpa using hiS
 refine ⟨by simp [M.size],(Yc hil).2 (.inl rfl),fun e he=>by rw [Yc hil]; exact .inr (hedge e he),listed,h,ρ',w',ρ' h.length,c',by simp,hz0,fun j hj=>?_,hE.trans fE,?_,g1,g2,g3,fun k hk=>(g4 k hk).of_atom (zeroOf_atom hzc k hk),g6,hnl,Nat.le_trans hE.wsize hge,hptr⟩
 · rw [Go.getD_set_ne false (Ne.symm hj)]
 · refine ⟨M.size,M.closed,ρ',e,h,.refl _ _ _,fS,⟨gA.size,fun i hi=>?_,gA.marks,gA.round⟩,hslot,kh,hheap,hheapS⟩
   by_cases hid:i=d
   · subst hid; rw [hun]; exact .any _
   · have h1:=gA.env i hi
     simp only [Zf,sget_sput,if_neg (Ne.symm hid)] at h1
     exact (hA.env i (by rw [hA.size,← gA.size]; exact hi)).restrict h1 gE.agree
theorem pend_name {listed:Array Bool} {a:Act} {w:World} (hd:Vm (Zs ops) (extE af z X) qs=true) (hso:(Zs ops)[z]? = some ⟨some d,.alloc t,none⟩)
  (htr:tr[z]? = some (Xc (Zr tr h0 z),Zr tr h0 (z+1))) (htz:Zr tr h0 (z+1)=Zr tr h0 z++[.cells c t false])
  (hXs : ∀ k,k<tr.length→¬ (∃ o,(Zs ops)[k]? = some o∧cls qs k o.op=3)→Zr tr h0 (k+1)=Zr tr h0 k) (htab : ∀ p∈Tabs.tabs P,p.1<w0.heap.size) (hzl:z<af.length) (hfw : ∀ e∈af.getD z []++X,e≠z)
  (p:Pend P qs ops af tr e0 h0 ρ0 w0 r m sz z d t c X listed a w) (hall : ∀ k∈X,listed.getD k false=true):MidB P qs ops (extE af z X) tr e0 h0 h0 ρ0 w0 r m sz listed a w:=by
 obtain ⟨listed',hb,ρb,wb,l,c',k1,k2,k3,k4,M,k5,k6,k7,k8,k9,k10,k11,k12⟩:=p.st
 have hzs:z<listed'.size:=by
  rcases Nat.lt_or_ge z listed.size with h | h
  · omega
  · have:=p.lz; simp [Array.getD_eq_getD_getElem?,Array.getElem?_eq_none h] at this
 have hc3:cls qs z (.alloc t)=3:=rfl
 obtain ⟨ρ,e,h,hE,hS,hA,_,hheapi,_,_,hnext⟩:=midB_next hd hso htr hXs M hzs (by rw [k2]; decide) fun e he=>by
  rw [extE_same hzl] at he
  rw [k3 e (hfw e he)]
  rcases List.mem_append.1 he with h | h
  · exact p.ez e h
  · exact hall e h
 have hh:=hheapi (.inl hc3)
 have hL:w.heap[l.blk]? = some (.cells c' t (0,0)):=by
  rw [hE.keep l.blk (Array.getElem?_eq_some_iff.1 k5).1 fun ⟨i,c1,e1,hv,hk⟩=>k10 ⟨i,_,hv,hk⟩]; exact k5
 have hnl : ¬ Live h ρ l.blk:=fun hl=>(hE.live _ hl).elim (fun h1=>by have:=(Array.getElem?_eq_some_iff.1 k5).1; omega) k10
 have hSn:=sim_name (c:=c) hS hL k6 k7 k8 k9 hnl fun p hp he=>by have:=htab p hp; omega
 have hEn:=evo_name (c:=c) (t:=t) (k4.trans hE) k11
 have hM:=hnext h0 ρ0 w0 (h++[.cells c t false]) (fun _=>by rw [htz,hh]) (fun h1=>absurd hc3 h1) _ a w hEn hSn ⟨hA.size,fun i hi=>?_,hA.marks,hA.round⟩
 · refine hM.congr (by simp [k1]) fun j=>?_
   by_cases hj:j=z
   · subst hj
     rw [p.lz,(Yc hzs).2 (.inl rfl)]
   · rw [Go.getD_set_ne false (Ne.symm hj),k3 j hj]
 · simp only [Zf,sget_sput]
   by_cases hid:d=i
   · subst hid
     rw [if_pos rfl,k12,← hh]
     have:=VRel.ptr (n:=(h++[Blk.cells c t false]).length) (ρ:=Loc.upd ρ h.length l) (b:=h.length) (o:=0) (by simp)
     rwa [Loc.upd_same] at this
   · rw [if_neg hid]
     exact (hA.env i hi).mono (by simp) fun j hj=>Loc.upd_lt ρ _ hj
theorem earlyOK_spec {l:List SOp} {af:List (List Nat)} {z d:Nat} {X:List Nat} (h:earlyOK l af z d X=true):(∃ t,l[z]? = some ⟨some d,.alloc t,none⟩)∧z<af.length∧(∀ k∈X,k<z)∧(∀ j oj,l[j]? = some oj→oj.dst=some d→j=z) ∧
  (∀ j oj,l[j]? = some oj→z∈af.getD j []→∀ k∈X,((Wt [] af).getD j 0).testBit k=true):=by
 simp only [earlyOK,Bool.and_eq_true] at h
 obtain ⟨⟨⟨⟨h1,h2⟩,h3⟩,h4⟩,h5⟩:=h
 refine ⟨?_,by simpa using h2,fun k hk=>by simpa using List.all_eq_true.1 h3 k hk,fun j oj hj hdj=>?_,fun j oj hj hz k hk=>?_⟩
 · split at h1
   · rename_i d' t heq
     have:d' = d:=by simpa using h1
     subst this
     exact ⟨t,heq⟩
   · cases h1
 · have:=List.all_eq_true.1 h4 (oj,j) (by rw [List.mem_zipIdx_iff_getElem?]; exact hj)
   simp only [Bool.or_eq_true,beq_iff_eq,bne_iff_ne,ne_eq] at this
   exact this.resolve_right (fun h=>h hdj)
 · have:=List.all_eq_true.1 h5 (oj,j) (by rw [List.mem_zipIdx_iff_getElem?]; exact hj)
   simp only [Bool.or_eq_true,Bool.not_eq_true',List.contains_eq_mem,decide_eq_false_iff_not] at this
   exact List.all_eq_true.1 (this.resolve_left (fun h=>h hz)) k hk
theorem early_run {n:Nat} {Qx:Exit→Act→World→Prop} (hok : ∀ o∈ops.toList,opsOK sz ops o=true) (hd:Vm (Zs ops) (extE (Yd ops) z X) qs=true) (he:earlyOK (Zs ops) (Yd ops) z d X=true) (hf:fwd (Yd ops)=true)
  (hsp : ∀ k o,(Zs ops)[k]? = some o→∃ v,tr[k]? = some (v,Zr tr h0 (k+1))∧StepD P R (cls qs k o.op) o (Yu (Zs ops) tr e0 k) (Zr tr h0 k) v (Zr tr h0 (k+1)))
  (htl:tr.length=(Zs ops).length) (hm:m≤w0.heap.size) (hR : ∀ k,R (Zr tr h0 k)) (htab : ∀ p∈Tabs.tabs P,p.1<w0.heap.size) (hud:sget e0 d=undef)
  (hQ : ∀ listed a w,MidB P qs ops (extE (Yd ops) z X) tr e0 h0 h0 ρ0 w0 r m sz listed a w→(∀ j,j<ops.size→listed.getD j false=true)→Qx .normal a w) :
  ∀ (fuel:Nat) (listed:Array Bool) (a:Act) (w:World),(listed.toList.filter (!·)).length≤fuel →
    (MidB P qs ops (extE (Yd ops) z X) tr e0 h0 h0 ρ0 w0 r m sz listed a w∨((∃ t c,(Zs ops)[z]? = some ⟨some d,.alloc t,none⟩∧Xs P t=some c∧Zr tr h0 (z+1)=Zr tr h0 z++[.cells c t false]∧Pend P qs ops (Yd ops) tr e0 h0 ρ0 w0 r m sz z d t c X listed a w)∧∃ k∈X,¬ listed.getD k false=true)) →
    wpAnyIn (fence r) n P .any ops Qx fuel listed a w:=by
 obtain ⟨⟨t0,hz0⟩,hzl,hXz,huq,hdep⟩:=earlyOK_spec he
 obtain ⟨c0,hzc,htr0,htz0⟩:=trace_alloc hsp hz0
 have hXs:=trace_same hsp htl
 have hzo:z<ops.size:=by
  have:=(List.getElem?_eq_some_iff.1 hz0).1
  simpa [Zs] using this
 have hfwd : ∀ j e,e∈(Yd ops).getD j []→e<j:=fun j e hje=>by
  have hjl:j<(Yd ops).length:=by
   rcases Nat.lt_or_ge j (Yd ops).length with h | h
   · exact h
   · simp [List.getD,List.getElem?_eq_none h] at hje
  have h1:=List.all_eq_true.1 hf ((Yd ops)[j],j) (by rw [List.mem_zipIdx_iff_getElem?]; simp [List.getElem?_eq_getElem hjl])
  have he' : e∈(Yd ops)[j]:=by simpa [List.getD,List.getElem?_eq_getElem hjl] using hje
  simpa using List.all_eq_true.1 h1 e he'
 have hfw : ∀ e∈(Yd ops).getD z []++X,e≠z:=fun e he=>by
  rcases List.mem_append.1 he with h | h
  · have:=hfwd z e h; omega
  · have:=hXz e h; omega
 -- when nobody is ready, all have run
 have allOf : ∀ (listed:Array Bool),listed.size=ops.size→Region.ready .any ops listed=[]→∀ j,j<ops.size→listed.getD j false=true:=fun listed hs hr=>ready_nil_all hf hs hr
 -- the actual list is closed under the actual edges
 have closedE : ∀ {listed a w},MidB P qs ops (extE (Yd ops) z X) tr e0 h0 h0 ρ0 w0 r m sz listed a w→∀ j,listed.getD j false=true→∀ e∈(Yd ops).getD j [],listed.getD e false=true:=by
  intro listed a w M j hj e hej
  by_cases hjz:j=z
  · subst hjz
    exact M.closed _ hj e (by rw [extE_same hzl]; exact List.mem_append.2 (.inl hej))
  · exact M.closed j hj e (by rw [extE_ne hjz]; exact hej)
 have closedP : ∀ {listed a w t c},Pend P qs ops (Yd ops) tr e0 h0 ρ0 w0 r m sz z d t c X listed a w→∀ j,listed.getD j false=true→∀ e∈(Yd ops).getD j [],listed.getD e false=true:=by
  intro listed a w t c p j hj e hej
  obtain ⟨listed',hb,ρb,wb,l,c',k1,k2,k3,k4,M,_⟩:=p.st
  by_cases hjz:j=z
  · subst hjz; exact p.ez e hej
  · have:=M.closed j (by rw [k3 j hjz]; exact hj) e (by rw [extE_ne hjz]; exact hej)
    by_cases hez:e=z
    · subst hez; exact p.lz
    · rw [← k3 e hez]; exact this
 intro fuel
 induction fuel with
 | zero =>
   intro listed a w hl hst
   have hall : ∀ j,listed.getD j true=true:=by
    intro j
    have he:listed.toList.filter (!·)=[]:=List.length_eq_zero_iff.1 (Nat.le_zero.1 hl)
    rcases Nat.lt_or_ge j listed.size with h | h
    · have:=List.filter_eq_nil_iff.1 he listed[j] (by simp)
      simpa [Array.getD_eq_getD_getElem?,h] using this
    · simp [Array.getD_eq_getD_getElem?,Array.getElem?_eq_none h]
   have hr:Region.ready .any ops listed=[]:=by
    rw [List.eq_nil_iff_forall_not_mem]
    intro j hj
    have:=(mem_ready.1 hj).1
    rw [hall j] at this; cases this
   rcases hst with M | ⟨⟨t,c,_,_,_,p⟩,k,hk,hkl⟩
   · exact ⟨hr,hQ listed a w M (allOf listed M.size hr)⟩
   · exact absurd (allOf listed p.size hr k (by have:=hXz k hk; omega)) hkl
 | succ fuel ih =>
   intro listed a w hl hst
   have hsz:listed.size=ops.size:=by rcases hst with M | ⟨⟨_,_,_,_,_,p⟩,_⟩; exact M.size; exact p.size
   refine ⟨fun hr=>?_,fun i hi=>?_⟩
   · rcases hst with M | ⟨⟨t,c,_,_,_,p⟩,k,hk,hkl⟩
     · exact hQ listed a w M (allOf listed hsz hr)
     · exact absurd (allOf listed hsz hr k (by have:=hXz k hk; omega)) hkl
   obtain ⟨hi0,o',ho',hpre⟩:=mem_ready.1 hi
   have hil:i<listed.size:=by
    rcases Nat.lt_or_ge i listed.size with h | h
    · exact h
    · simp [Array.getD_eq_getD_getElem?,Array.getElem?_eq_none h] at hi0
   have hiS : ¬ listed.getD i false=true:=by
    simp [Array.getD_eq_getD_getElem?,hil] at hi0 ⊢; exact hi0
   have hedge : ∀ e∈(Yd ops).getD i [],listed.getD e false=true:=fun e he=>by
    obtain ⟨x,h1,h2,rfl⟩:=(edges_get ho').1 he; exact hpre x h1 h2
   have hcnt:((listed.setIfInBounds i true).toList.filter (!·)).length≤fuel:=by
    have hv:listed[i]=false:=by simpa [Array.getD_eq_getD_getElem?,hil] using hi0
    have e1:listed.toList=listed.toList.take i++false::listed.toList.drop (i+1):=by
     have:=List.take_append_drop i listed.toList
     rw [List.drop_eq_getElem_cons (by simpa using hil)] at this
     simpa [hv] using this.symm
    have e2:(listed.setIfInBounds i true).toList=listed.toList.take i++true::listed.toList.drop (i+1):=by
     rw [Array.toList_setIfInBounds]
     exact (List.set_eq_take_append_cons_drop ..).trans (by rw [if_pos (by simpa using hil)])
    rw [e2]
    rw [e1] at hl
    simp only [List.filter_append,List.filter_cons,Bool.not_false,Bool.not_true,if_true,List.length_append,List.length_cons] at hl ⊢
    simp at hl ⊢
    omega
   rcases hst with M | ⟨⟨t,c,hzt,hzt2,htz,p⟩,kx,hkx,hkxl⟩
   · by_cases hiz:i=z
     · subst hiz
       by_cases hX : ∀ k∈X,listed.getD k false=true
       · refine midB_step ho' hok hd (hsp i) hXs hm hR M hil hiS (fun e he=>?_) _ fun a' w' M'=>ih _ a' w' hcnt (.inl M')
         rw [extE_same hzl] at he
         rcases List.mem_append.1 he with h | h
         · exact hedge e h
         · exact hX e h
       · obtain ⟨kx,hkx⟩ : ∃ k,¬ (k∈X→listed.getD k false=true):=Classical.not_forall.1 hX
         simp only [Classical.not_imp] at hkx
         refine pend_enter ho' hz0 hok hzc huq hud hm M hil hiS hedge hzl (fun e he=>hfw e (List.mem_append.2 (.inl he))) _ fun a' w' p=>ih _ a' w' hcnt (.inr ⟨⟨t0,c0,hz0,hzc,htz0,p⟩,kx,hkx.1,?_⟩)
         rw [Go.getD_set_ne false (by have:=hXz kx hkx.1; omega)]
         exact hkx.2
     · exact midB_step ho' hok hd (hsp i) hXs hm hR M hil hiS (fun e he=>hedge e (by rw [extE_ne hiz] at he; exact he)) _ fun a' w' M'=>ih _ a' w' hcnt (.inl M')
   · rw [hz0] at hzt
     injection hzt with hzt
     injection hzt with _ hop _
     injection hop with hop
     subst hop
     rw [hzc] at hzt2
     injection hzt2 with hzt2
     subst hzt2
     have hiz:i≠z:=fun h=>by subst h; exact hiS p.lz
     obtain ⟨listed',hb,ρb,wb,l,c',k1,k2,k3,k4,M,k5,k6,k7,k8,k9,k10,k11,k12⟩:=p.st
     have hso:=strip_get' ho'
     -- it does not need the variable
     have hnz:z ∉ (Yd ops).getD i []:=fun h=>hkxl (ahead (S:=fun j=>listed.getD j false=true) (closedP p) i kx hedge (hdep i _ hso h kx hkx))
     have hdst:o'.dst≠some d:=fun h=>hiz (huq i _ hso h)
     refine wpOpIn_mono (fun a' w' hk=>?_) (wpOpIn_put ho' hdst (midB_step (K:=fun a' w'=>MidB P qs ops (extE (Yd ops) z X) tr e0 h0 hb ρb wb r m sz (listed'.setIfInBounds i true) a' w') ho' hok hd (hsp i) hXs (Nat.le_trans hm k4.wsize) hR M (by omega) (by rw [k3 i hiz]; exact hiS) (fun e he=>?_) fun _ _ h=>h))
     · obtain ⟨M',hdk⟩:=hk
       have p' : Pend P qs ops (Yd ops) tr e0 h0 ρ0 w0 r m sz z d t0 c0 X (listed.setIfInBounds i true) a' w' :=
        ⟨by simp [p.size],by rw [Go.getD_set_ne false hiz]; exact p.lz,fun e he=>by rw [Yc hil]; exact .inr (p.ez e he),listed'.setIfInBounds i true,hb,ρb,wb,l,c',by simp [k1],by rw [Go.getD_set_ne false hiz]; exact k2,fun j hj=>by
         by_cases hji:j=i
         · subst hji
           rw [(Yc (by omega)).2 (.inl rfl),(Yc hil).2 (.inl rfl)]
         · rw [Go.getD_set_ne false (Ne.symm hji),Go.getD_set_ne false (Ne.symm hji)]; exact k3 j hj,k4,M',k5,k6,k7,k8,k9,k10,k11,by rw [hdk]; exact k12⟩
       by_cases hX : ∀ k∈X,(listed.setIfInBounds i true).getD k false=true
       · exact ih _ a' w' hcnt (.inl (pend_name hd hz0 htr0 htz0 hXs htab hzl hfw p' hX))
       · obtain ⟨ky,hky⟩ : ∃ k,¬ (k∈X→(listed.setIfInBounds i true).getD k false=true):=Classical.not_forall.1 hX
         simp only [Classical.not_imp] at hky
         exact ih _ a' w' hcnt (.inr ⟨⟨t0,c0,hz0,hzc,htz0,p'⟩,ky,hky.1,hky.2⟩)
     · rw [extE_ne hiz] at he
       rw [k3 e fun h=>hnz (h▸he)]
       exact hedge e he
end
theorem piv_mem : ∀ {qs:List (Nat×Nat)} {i:Nat},piv qs i=true→∃ a,(a,4)∈qs
 | [],_,h=>by cases h
 | (a,b)::qs,i,h=>by
   simp only [piv] at h
   cases hb:(a==i) with
   | true =>
     rw [hb] at h
     have:b=4:=by simpa using h
     exact ⟨a,by rw [this]; simp⟩
   | false =>
     rw [hb] at h
     obtain ⟨a',h'⟩:=piv_mem (qs:=qs) h
     exact ⟨a',by simp [h']⟩
theorem awp_drawE {P:Program} [Tabs P] {sz id:Nat} {ops:Array Oper} {Q:Exit→Env→Zh→Prop} {e:Env} {h:Zh} (R:Zh→Prop) (qs:List (Nat×Nat)) (z d:Nat) (X:List Nat) (hm:P.follows .mixedOrders=true) (hok:ops.toList.all (opsOK sz ops)=true)
  (hd:Vm (Zs ops) (extE (Yd ops) z X) qs=true) (he:earlyOK (Zs ops) (Yd ops) z d X=true) (hno:qs.all (fun q=>q.2 != 4&&q.2 != 6)=true) (hf:fwd (Yd ops)=true) (hud:sget e d=undef) (hR0:R h) (hk:Yr P R qs (Q .normal) 0 (Zs ops) e h):AWP P sz (.region id ops true) Q e h:=by
 intro r n m ρ a w hmm s x
 obtain ⟨s1,e1⟩:=drew_sim s
 have hnp : ∀ i,piv qs i=false:=fun i=>by
  cases hp:piv qs i with
  | false=>rfl
  | true =>
    obtain ⟨a,ha⟩:=piv_mem hp
    have:=List.all_eq_true.1 hno _ ha
    simp at this
 have hpa : ∀ k,Vi qs k=false:=fun k=>by
  cases hp:Vi qs k with
  | false=>rfl
  | true =>
    obtain ⟨a,ha,_⟩:=past_mem.1 hp
    have:=List.all_eq_true.1 hno _ ha
    simp at this
 obtain ⟨l1,l2,tr,e',h',hsplit,ht,hr⟩:=dopsR_trace _ _ _ _ (fun _=>hR0) hk
 have hl2:l2=[]∧Q .normal e' h':=by
  rcases hr with hr | ⟨_,hp,_⟩
  · exact hr
  · rw [hnp] at hp; cases hp
 obtain ⟨rfl,hN⟩:=hl2
 rw [List.append_nil] at hsplit
 subst hsplit
 obtain ⟨htl,hE,hH,hsp⟩:=ht.spec
 simp only [Nat.zero_add] at hsp
 refine wpIn_region_any hm (early_run (ρ0:=ρ) (w0:=w) (e0:=e) (h0:=h) (fun o ho=>List.all_eq_true.1 hok o ho) hd he hf hsp htl hmm (fun k=>ht.rr (fun _=>hR0) k (hpa _)) (fun p hp=>(Array.getElem?_eq_some_iff.1 (s.tab p hp).1).1) hud ?_ ops.size (Array.replicate ops.size false) a { w with drawn:=w.drawn+1 } ?_ (.inl ?_))
 · intro listed a1 w1 M hall
   obtain ⟨ρ1,ee,hh,g1,g2,g3,g4,k,g5,g6⟩:=M.st
   have hlen:(Zs ops).length=ops.size:=by simp [Zs]
   have hSall : ∀ j o,(Zs ops)[j]? = some o→j<ops.size:=fun j o hj=>by rw [← hlen]; exact (List.getElem?_eq_some_iff.1 hj).1
   have hheap:hh=h':=by
    rw [g5,← hH]
    refine heapAt_eq (X:=fun k=>∃ o,(Zs ops)[k]? = some o∧cls qs k o.op=3) (trace_same hsp htl) fun j ⟨oj,hj,hx⟩=>?_
    have:=(g6 j oj hj hx).1 (hall j (hSall j oj hj))
    have:=hSall j oj hj
    constructor <;> intro <;> omega
   refine ⟨ρ1,e',hh,by rw [hheap]; exact hN,g1,g2,g3.size,fun t ht=>?_,g3.marks,g3.round⟩
   obtain ⟨k2,q1,q2⟩:=g4 t
   have:sget e' t=sget ee t:=by
    rw [q1,← hE]
    exact Vn fun j oj hj hdt=>by
     have:=(q2 j oj hj hdt).1 (hall j (hSall j oj hj))
     have:=hSall j oj hj
     constructor <;> intro <;> omega
   rw [this]; exact g3.env t ht
 · have:=List.length_filter_le (!·) (Array.replicate ops.size false).toList
   simpa using this
 · refine ⟨by simp,fun j hj=>?_,ρ,e,h,e1,s1,⟨x.size,x.env,x.marks,x.round⟩,fun t=>⟨0,rfl,fun i o _ _=>?_⟩,0,rfl,fun i o _ _=>?_⟩
   · simp [Array.getD_eq_getD_getElem?,Array.getElem?_replicate] at hj
     split at hj <;> simp at hj
   · simp only [Array.getD_eq_getD_getElem?,Array.getElem?_replicate]
     split <;> simp
   · simp only [Array.getD_eq_getD_getElem?,Array.getElem?_replicate]
     split <;> simp
theorem aw_drawE {P:Program} [Tabs P] {sz:Nat} {l:List SOp} {af:List (List Nat)} {Q:Exit→Env→Zh→Prop} {e:Env} {h:Zh} (R:Zh→Prop) (qs:List (Nat×Nat)) (z d:Nat) (X:List Nat) (hm:P.follows .mixedOrders=true)
  (hd:Vm l (extE af z X) qs=true) (he:earlyOK l af z d X=true) (hno:qs.all (fun q=>q.2 != 4&&q.2 != 6)=true) (hf:fwd af=true) (hud:sget e d=undef) (hR0:R h) (hk:Yr P R qs (Q .normal) 0 l e h):aw P sz (.draw l af) Q e h:=by
 intro c hc hok
 cases c with
 | region id ops d =>
   cases d with
   | false=>simp [Zy] at hc
   | true =>
     simp only [Zy,SCode.draw.injEq] at hc
     obtain ⟨h1,h2⟩:=hc
     have h2' : Yd ops=af:=h2
     subst h1
     rw [← h2'] at hd he hf
     exact awp_drawE R qs z _ X hm hok hd he hno hf hud hR0 hk
 | _=>simp [Zy] at hc
theorem sops_append {P:Program} [Tabs P] {N:Env→Zh→Prop} : ∀ (l1 l2:List SOp) (e:Env) (h:Zh),sops P N (l1++l2) e h=sops P (fun e h=>sops P N l2 e h) l1 e h
 | [],_,_,_=>rfl
 | ⟨dst,op,none⟩::l1,l2,e,h=>by
   rw [List.cons_append]
   simp only [sops,sops_append l1 l2]
 | ⟨dst,op,some g⟩::l1,l2,e,h=>by
   rw [List.cons_append]
   simp only [sops,sops_append l1 l2]
theorem Xw {P:Program} [Tabs P] {sz:Nat} {l:List SOp} {Q:Exit→Env→Zh→Prop} {e:Env} {h:Zh} (k:Nat) (H : ∀ N:Env→Zh→Prop,(∀ e h,aw P sz (.region (l.drop k)) Q e h→N e h)→aw P sz (.region (l.take k)) (fun _ e h=>N e h) e h):aw P sz (.region l) Q e h:=by
 have:=H (fun e h=>aw P sz (.region (l.drop k)) Q e h) fun _ _ h=>h
 rw [Za] at this ⊢
 rw [← List.take_append_drop k l,sops_append]
 exact this
end Go.Am
namespace Go.Am
abbrev T3:=Int×Int×Int
def t0:T3:=(0,0,0)
def tV (t:T3):Value:=.agg #[Zd t.1,Zd t.2.1,Zd t.2.2]
def TripSl (h:Zh) (v:Value) (ts:List T3):Prop :=
 (v = .slice none 0 0∧ts=[])∨∃ b o sp cap c e ro,v = .slice (some ⟨b,o,sp⟩) ts.length cap∧ts.length≤cap∧view h b=some (c,e,ro) ∧
  ∀ i,i<ts.length→c[o+i*3]? = some (Zd (ts.getD i t0).1)∧c[o+i*3+1]? = some (Zd (ts.getD i t0).2.1)∧c[o+i*3+2]? = some (Zd (ts.getD i t0).2.2)
section
variable {P:Program} {h:Zh} {v:Value} {ts:List T3}
theorem TripSl.len (hv:TripSl h v ts) (K:Value→Prop):lenK v K=K (Zd ts.length):=by
 rcases hv with ⟨rfl,rfl⟩ | ⟨b,o,sp,cap,c,e,ro,rfl,_⟩ <;> rfl
theorem TripSl.idx (hv:TripSl h v ts) {t e:TypeId} (he:elemOf' P t=some e) (hs:esz P e=some 3) {k:IntKind} {i:Nat} (hi:i<ts.length) (K:Value→Prop):Yy P t v (.int k i) K=K (Wb v 3 i):=by
 rcases hv with ⟨rfl,rfl⟩ | ⟨b,o,sp,cap,c,e',ro,rfl,_⟩
 · simp at hi
 · simp only [Yy,he,hs,Wb,Int.toNat_natCast,eq_iff_iff]
   exact ⟨fun h=>h.2.2,fun h=>⟨by omega,by omega,h⟩⟩
theorem take_three {c:List Value} {o:Nat} {x y z:Value} (hx:c[o]? = some x) (hy:c[o+1]? = some y) (hz:c[o+2]? = some z):(c.drop o).take 3=[x,y,z]∧o+3≤c.length:=by
 obtain ⟨h1,rfl⟩:=List.getElem?_eq_some_iff.1 hx
 obtain ⟨h2,rfl⟩:=List.getElem?_eq_some_iff.1 hy
 obtain ⟨h3,rfl⟩:=List.getElem?_eq_some_iff.1 hz
 refine ⟨?_,by omega⟩
 rw [List.drop_eq_getElem_cons h1,List.drop_eq_getElem_cons h2,List.drop_eq_getElem_cons h3]; rfl
theorem TripSl.load (hv:TripSl h v ts) {t:TypeId} (hs:shp P t=some (some 3)) {i:Nat} (hi:i<ts.length) (K:Value→Prop):Xq P h t (Wb v 3 i) K=K (tV (ts.getD i t0)):=by
 rcases hv with ⟨rfl,rfl⟩ | ⟨b,o,sp,cap,c,e',ro,rfl,_,hvw,hc⟩
 · simp at hi
 · obtain ⟨h1,h2,h2'⟩:=hc i hi
   obtain ⟨h3,h4⟩:=take_three h1 h2 h2'
   have hc0:0<c.length:=by omega
   simp only [Wb,Xq,hs,Vf hvw (.inr hc0),h3,h4,true_and,tV]
theorem TripSl.same {h' : Zh} (hv:TripSl h v ts) (hb : ∀ b,Ye v=some b→h'[b]? = h[b]?):TripSl h' v ts:=by
 rcases hv with ⟨rfl,rfl⟩ | ⟨b,o,sp,cap,c,e,ro,rfl,hc,hw,hx⟩
 · exact .inl ⟨rfl,rfl⟩
 · exact .inr ⟨b,o,sp,cap,c,e,ro,rfl,hc,by rw [← hw]; simp only [view,hb b rfl],hx⟩
theorem TripSl.lt (hv:TripSl h v ts) {b:Nat} (hb:Ye v=some b):b<h.length:=by
 rcases hv with ⟨rfl,rfl⟩ | ⟨b',o,sp,cap,c,e,ro,rfl,hc,hw,hx⟩
 · cases hb
 · cases hb; exact Wn hw
theorem TripSl.ext {h' : Zh} (hv:TripSl h v ts) (he:Ext (fun _=>False) h h'):TripSl h' v ts:=hv.same fun b hb=>he.2 b (hv.lt hb) id
end
def Xy (ts:List T3):List Int:=ts.flatMap fun t=>[t.1,t.2.1,t.2.2]
theorem flatT_len : ∀ ts:List T3,(Xy ts).length=ts.length*3
 | []=>rfl
 | t::ts=>by
   have:=flatT_len ts
   simp only [Xy,List.flatMap_cons,List.length_append,List.length_cons,List.length_nil] at this ⊢; omega
theorem flatT_get : ∀ (ts:List T3) (i:Nat),i<ts.length→(Xy ts)[i*3]? = some (ts.getD i t0).1∧(Xy ts)[i*3+1]? = some (ts.getD i t0).2.1∧(Xy ts)[i*3+2]? = some (ts.getD i t0).2.2
 | [],_,h=>by simp at h
 | t::ts,0,_=>⟨rfl,rfl,rfl⟩
 | t::ts,i+1,h=>by
   have:=flatT_get ts i (by simpa using h)
   have e1:(i+1)*3=i*3+3:=by omega
   have e2:Xy (t::ts)=t.1::t.2.1::t.2.2::Xy ts:=rfl
   rw [e1,e2]
   simpa [List.getD] using this
theorem flatT_app (a b:List T3):Xy (a++b)=Xy a++Xy b:=List.flatMap_append
def OwnT (e:TypeId) (h:Zh) (v:Value) (ts:List T3):Prop :=
 (v = .slice none 0 0∧ts=[])∨∃ (b:Nat) (ys:List T3),v = .slice (some ⟨b,0,some 0⟩) ts.length (ts.length+ys.length)∧h[b]? = some (.ints (Xy ts++Xy ys) e false)
section
variable {P:Program} {e:TypeId} {h:Zh} {v:Value} {ts:List T3}
theorem OwnT.trip (ho:OwnT e h v ts):TripSl h v ts:=by
 rcases ho with ⟨rfl,rfl⟩ | ⟨b,ys,rfl,hb⟩
 · exact .inl ⟨rfl,rfl⟩
 · refine .inr ⟨b,0,some 0,_,(Xy ts++Xy ys).map Zd,e,false,rfl,by omega,by simp [view,hb,Blk.view],fun i hi=>?_⟩
   obtain ⟨h1,h2,h3⟩:=flatT_get ts i hi
   have l1:=(List.getElem?_eq_some_iff.1 h1).1
   have l2:=(List.getElem?_eq_some_iff.1 h2).1
   have l3:=(List.getElem?_eq_some_iff.1 h3).1
   rw [Nat.zero_add,List.getElem?_map,List.getElem?_map,List.getElem?_map,List.getElem?_append_left l1,List.getElem?_append_left l2,List.getElem?_append_left l3,h1,h2,h3]
   exact ⟨rfl,rfl,rfl⟩
theorem OwnT.same {h' : Zh} (ho:OwnT e h v ts) (hb : ∀ b,Ye v=some b→h'[b]? = h[b]?):OwnT e h' v ts:=by
 rcases ho with ho | ⟨b,ys,rfl,hb'⟩
 · exact .inl ho
 · exact .inr ⟨b,ys,rfl,by rw [hb b rfl]; exact hb'⟩
theorem OwnT.lt (ho:OwnT e h v ts) {b:Nat} (hb:Ye v=some b):b<h.length:=ho.trip.lt hb
theorem OwnT.ext {h' : Zh} (ho:OwnT e h v ts) (he:Ext (fun _=>False) h h'):OwnT e h' v ts:=ho.same fun b hb=>he.2 b (ho.lt hb) id
theorem OwnT.one (ho:OwnT e h v ts):one v=true:=by
 rcases ho with ⟨rfl,_⟩ | ⟨b,ys,rfl,_⟩ <;> rfl
theorem OwnT.ints (ho:OwnT e h v ts) {b:Nat} (hb:Ye v=some b) : ∃ ys,h[b]? = some (.ints ys e false):=by
 rcases ho with ⟨rfl,rfl⟩ | ⟨b',ys,rfl,hb'⟩
 · cases hb
 · cases hb; exact ⟨_,hb'⟩
theorem OwnT.append {x y z:Int} {t t2:TypeId} {b2 c2:Nat} {c:Bool} (ho:OwnT e h v ts) (hT:appT P t t2=some (e,3,24)) (hn:ts.length<1099511627776) (hb2:h[b2]? = some (.ints [x,y,z] e c)) {K:Value→Zh→Prop}
  (hk : ∀ v' h',OwnT e h' v' (ts++[(x,y,z)])→Ext (fun i=>Ye v=some i) h h'→(Ye v' = Ye v∨∃ b,Ye v' = some b∧h.length≤b)→K v' h') :
  Ys P h t t2 v (.slice (some ⟨b2,0,none⟩) 1 c2) K:=by
 simp only [Ys,hT,elemsK,Xo,hb2]
 refine ⟨fun h=>by omega,fun _=>⟨by simp,?_⟩⟩
 have hi:Xa (List.map Zd (List.take (1*3) (List.drop 0 [x,y,z])))=some [x,y,z]:=rfl
 have hf:Xy (ts++[(x,y,z)])=Xy ts++[x,y,z]:=by rw [flatT_app]; rfl
 rcases ho with ⟨rfl,rfl⟩ | ⟨b,ys,rfl,hb⟩
 · simp only [putK]
   refine ⟨fun h=>by omega,fun _=>⟨by omega,hk _ _ (.inr ⟨h.length,[],rfl,?_⟩) (Ext.app _ _ _) (.inr ⟨_,rfl,Nat.le_refl _⟩)⟩⟩
   rw [List.getElem?_append_right (Nat.le_refl _)]
   simp [mkb,Xa,Xy]
 · simp only [putK,hb,hi]
   refine ⟨fun hroom=>⟨fun h=>by omega,fun _=>⟨rfl,?_,?_⟩⟩,fun hroom=>⟨by omega,trivial,rfl,by simp [view,hb,Blk.view],?_⟩⟩
   · have h1:=flatT_len ts
     have h2:=flatT_len ys
     simp only [List.length_append,List.length_cons,List.length_nil]; omega
   · cases ys with
     | nil=>simp only [List.length_nil] at hroom; omega
     | cons p ys =>
       refine hk _ _ (.inr ⟨b,ys,by simp; omega,?_⟩) (Ext.set _ rfl) (.inl rfl)
       rw [List.getElem?_set_self (List.getElem?_eq_some_iff.1 hb).1,hf]
       have h1:=flatT_len ts
       have e1:Xy (p::ys)=p.1::p.2.1::p.2.2::Xy ys:=rfl
       have e2:Yh (Xy ts++Xy (p::ys)) (0+ts.length*3) [x,y,z]=Xy ts++[x,y,z]++Xy ys:=by
        rw [e1,Nat.zero_add,← h1]
        simp [Yh]
       rw [e2]
   · obtain rfl:ys=[]:=by cases ys with | nil=>rfl | cons y ys=>simp at hroom
     simp only [Xo,hb]
     have h1:=flatT_len ts
     have e0:Xy ([]:List T3)=[]:=rfl
     refine ⟨by simp [h1],hk _ _ (.inr ⟨h.length,[],by simp,?_⟩) ?_ (.inr ⟨_,rfl,Nat.le_refl _⟩)⟩
     · rw [List.getElem?_append_right (by simp)]
       have:Xa (List.map Zd (List.take (ts.length*3) (List.drop 0 (Xy ts++Xy [])))++List.map Zd (List.take (1*3) (List.drop 0 [x,y,z])))=some (Xy ts++[x,y,z]):=by
        rw [← List.map_append,e0]; simp only [List.drop_zero,List.append_nil,← h1,List.take_length]; exact intsOf_map' _
       rw [e0,List.append_nil] at this
       simp only [mkb,e0,List.append_nil,this,List.length_set,Nat.sub_self,List.getElem?_cons_zero,hf]
     · exact (Ext.set (S:=fun i=>Ye (.slice (some ⟨b,0,some 0⟩) ts.length (ts.length+([]:List T3).length))=some i) .dead rfl).trans (Ext.app _ _ _)
theorem OwnT.cut {x:T3} {t:TypeId} (ho:OwnT e h v (ts++[x])) (he:elemOf' P t=some e) (hs:esz P e=some 3) {K:Value→Prop} (hk : ∀ v',OwnT e h v' ts→Ye v' = Ye v→K v'):Xb P t v none (some (Zd ts.length)) none K:=by
 rcases ho with ⟨rfl,h2⟩ | ⟨b,ys,rfl,hb⟩
 · simp at h2
 · simp only [Xb,he,hs,bnd,List.length_append,List.length_singleton]
   refine ⟨by omega,by omega,by omega,fun h=>(by cases h),fun _=>.inl ⟨rfl,hk _ (.inr ⟨b,x::ys,by simp; omega,?_⟩) rfl⟩⟩
   rw [hb,flatT_app,show Xy (x::ys)=Xy [x]++Xy ys from flatT_app [x] ys,List.append_assoc]
theorem TripSl.pre {t:TypeId} {m:Nat} (hv:TripSl h v ts) (he:elemOf' P t=some e) (hs:esz P e=some 3) (hm:m≤ts.length) {K:Value→Prop} (hk : ∀ v',TripSl h v' (ts.take m)→K v'):Xb P t v none (some (Zd m)) none K:=by
 have hl:(ts.take m).length=m:=by simp; omega
 rcases hv with ⟨rfl,rfl⟩ | ⟨b,o,sp,cap,c,e',ro,rfl,hc,hb,hx⟩
 · simp only [List.length_nil,Nat.le_zero_eq] at hm
   subst hm
   simp only [Xb,he,hs,bnd,Option.bind_some,Option.isSome_some]
   exact ⟨trivial,rfl,rfl,rfl,hk _ (.inl ⟨rfl,rfl⟩)⟩
 · simp only [Xb,he,hs,bnd]
   have hg : ∀ i,i<m→(ts.take m).getD i t0=ts.getD i t0:=fun i hi=>by simp [List.getD,hi]
   have hx' : ∀ i,i<(ts.take m).length→c[o+i*3]? = some (Zd ((ts.take m).getD i t0).1)∧c[o+i*3+1]? = some (Zd ((ts.take m).getD i t0).2.1)∧c[o+i*3+2]? = some (Zd ((ts.take m).getD i t0).2.2):=fun i hi=>by
    rw [hl] at hi
    rw [hg i hi]; exact hx i (by omega)
   refine ⟨by omega,by omega,by omega,fun _=>hk _ (.inr ⟨b,o,none,cap,c,e',ro,?_,by rw [hl]; omega,hb,hx'⟩),fun _=>.inl ⟨rfl,hk _ (.inr ⟨b,o,some 0,cap,c,e',ro,?_,by rw [hl]; omega,hb,hx'⟩)⟩⟩
   · rw [hl]; simp
   · rw [hl]; simp
def RdT (h:Zh) (v:Value) (ts:List T3):Prop:=TripSl h v ts∨(v=void∧ts=[])
theorem RdT.len (hv:RdT h v ts) (K:Value→Prop):lenK v K=K (Zd ts.length):=by
 rcases hv with hv | ⟨rfl,rfl⟩
 · exact hv.len K
 · rfl
theorem RdT.trip (hv:RdT h v ts) (hn:ts≠[]):TripSl h v ts:=by
 rcases hv with hv | ⟨_,h⟩
 · exact hv
 · exact absurd h hn
theorem RdT.ext {h' : Zh} (hv:RdT h v ts) (he:Ext (fun _=>False) h h'):RdT h' v ts:=hv.imp (fun hv=>hv.ext he) id
theorem TripSl.cells (hv:TripSl h v ts) (hn:ts≠[]) {b o:Nat} {sp:Option Nat} {l cap:Nat} (he:v = .slice (some ⟨b,o,sp⟩) l cap) {K:List Value→Prop} (hk:K ((Xy ts).map Zd)):Xo h b o (ts.length*3) K:=by
 rcases hv with ⟨rfl,rfl⟩ | ⟨b',o',sp',cap',c,e',ro,rfl,hc,hb,hx⟩
 · exact absurd rfl hn
 · cases he
   have hpos:0<ts.length:=List.length_pos_iff.2 hn
   have hlen:o+ts.length*3≤c.length:=by
    have:=(List.getElem?_eq_some_iff.1 (hx (ts.length-1) (by omega)).2.2).1
    omega
   rw [Vf hb (.inr (by omega))]
   refine ⟨hlen,?_⟩
   have hc:(c.drop o).take (ts.length*3)=(Xy ts).map Zd:=by
    apply List.ext_getElem?
    intro k
    by_cases hk:k<ts.length*3
    · rw [List.getElem?_take_of_lt hk,List.getElem?_drop,List.getElem?_map]
      obtain ⟨i,j,hj,rfl⟩ : ∃ i j,j<3∧k=i*3+j:=⟨k / 3,k % 3,Nat.mod_lt _ (by decide),by omega⟩
      obtain ⟨h1,h2,h3⟩:=hx i (by omega)
      obtain ⟨g1,g2,g3⟩:=flatT_get ts i (by omega)
      rcases (show j=0∨j=1∨j=2 by omega) with rfl | rfl | rfl
      · rw [Nat.add_zero,h1,g1]; rfl
      · rw [← Nat.add_assoc,h2,g2]; rfl
      · rw [← Nat.add_assoc,h3,g3]; rfl
    · have:=flatT_len ts
      rw [List.getElem?_eq_none (by simp; omega),List.getElem?_eq_none (by simp; omega)]
   rw [hc]; exact hk
theorem TripSl.copyOwn {t t2:TypeId} {b0:Nat} (hv:TripSl h v ts) (hx:ts≠[]) (hT:appT P t t2=some (e,3,24)) (hn:ts.length<1099511627776) (hb0:h[b0]? = some (.ints [] e false)) {K:Value→Zh→Prop}
  (hk:K (.slice (some ⟨h.length,0,some 0⟩) ts.length ts.length) (h++[.ints (Xy ts) e false])):Ys P h t t2 (.slice (some ⟨b0,0,none⟩) 0 0) v K:=by
 have hpos:0<ts.length:=List.length_pos_iff.2 hx
 have hgo:putK h e 3 24 (.slice (some ⟨b0,0,none⟩) 0 0) ts.length ((Xy ts).map Zd) K:=by
  simp only [putK]
  refine ⟨fun h=>by omega,fun _=>⟨by omega,?_⟩⟩
  simp only [Xo,hb0]
  refine ⟨by simp,?_⟩
  have e1:mkb (List.map Zd (List.take (0*3) (List.drop 0 []))++(Xy ts).map Zd) e = .ints (Xy ts) e false:=by
   have:Xa ((Xy ts).map Zd)=some (Xy ts):=intsOf_map' _
   simp [mkb,this]
  simp only [e1]
  simpa using hk
 simp only [Ys,hT]
 have hv':=hv
 rcases hv with ⟨_,h1⟩ | ⟨b,o,sp,cap,c,e',ro,rfl,hc,hb,_⟩
 · exact absurd h1 hx
 · exact ⟨fun h=>absurd (List.length_eq_zero_iff.1 h) hx,fun _=>hv'.cells hx rfl hgo⟩
theorem OwnT.new (h:Zh) (ts:List T3) (hn:ts≠[]):OwnT e (h++[.ints (Xy ts) e false]) (.slice (some ⟨h.length,0,some 0⟩) ts.length ts.length) ts :=
 .inr ⟨h.length,[],by simp,by rw [List.getElem?_append_right (Nat.le_refl _)]; simp [Xy]⟩
end
end Go.Am
namespace Go.Am
abbrev vu (n:Nat):Value:=.int .u64 (n:Int)
theorem wrapU_id {x:Int} (h1:0≤x) (h2:x<18446744073709551616):IntKind.u64.wrap x=x:=by
 simp [IntKind.wrap,IntKind.signed,IntKind.bits]; omega
theorem ofNatU {a:Nat} (ha:a<18446744073709551616):(BitVec.ofInt 64 (a:Int)).toNat=a:=by
 rw [BitVec.ofInt_natCast,BitVec.toNat_ofNat]; exact Nat.mod_eq_of_lt (by omega)
theorem addU {a b:Nat} (h:a+b<18446744073709551616):addV .u64 (a:Int) (b:Int)=((a+b:Nat):Int):=by
 rw [show ((a+b:Nat):Int)=(a:Int)+b by omega]; exact wrapU_id (by omega) (by omega)
theorem subU {a b:Nat} (hb:b≤a) (ha:a<18446744073709551616):subV .u64 (a:Int) (b:Int)=((a-b:Nat):Int):=by
 rw [show ((a-b:Nat):Int)=(a:Int)-b by omega]; exact wrapU_id (by omega) (by omega)
theorem subU1 {a:Nat} (hb:1≤a) (ha:a<18446744073709551616):subV .u64 (a:Int) 1=((a-1:Nat):Int):=subU (b:=1) hb ha
theorem andU {a b:Nat} (ha:a<18446744073709551616) (hb:b<18446744073709551616):Wj .and .u64 a b=((a &&& b:Nat):Int):=by
 have hx:a &&& b<2 ^ 64:=Nat.and_lt_two_pow _ (by omega)
 show IntKind.u64.wrap ((BitVec.ofInt 64 (a:Int) &&& BitVec.ofInt 64 (b:Int)).toNat:Int)=_
 rw [BitVec.toNat_and,ofNatU ha,ofNatU hb]; exact wrapU_id (by omega) (by omega)
theorem orU {a b:Nat} (ha:a<18446744073709551616) (hb:b<18446744073709551616):Wj .or .u64 a b=((a ||| b:Nat):Int):=by
 have hx:a ||| b<2 ^ 64:=Nat.or_lt_two_pow (by omega) (by omega)
 show IntKind.u64.wrap ((BitVec.ofInt 64 (a:Int) ||| BitVec.ofInt 64 (b:Int)).toNat:Int)=_
 rw [BitVec.toNat_or,ofNatU ha,ofNatU hb]; exact wrapU_id (by omega) (by omega)
theorem lessU {a b:Nat} (ha:a<18446744073709551616) (hb:b<18446744073709551616):Wj .andNot .u64 a b=((less a b:Nat):Int):=by
 have hx:less a b<2 ^ 64:=less_lt (by omega)
 show IntKind.u64.wrap ((BitVec.ofInt 64 (a:Int) &&& ~~~ (BitVec.ofInt 64 (b:Int))).toNat:Int)=_
 have e:(BitVec.ofInt 64 (a:Int) &&& ~~~ (BitVec.ofInt 64 (b:Int))).toNat=less a b:=by
  apply Nat.eq_of_testBit_eq
  intro i
  rw [Yj,BitVec.testBit_toNat,BitVec.getLsbD_and,BitVec.getLsbD_not,← BitVec.testBit_toNat,← BitVec.testBit_toNat,ofNatU ha,ofNatU hb]
  by_cases hi:i<64
  · simp [hi]
  · have:a.testBit i=false:=Nat.testBit_lt_two_pow (Nat.lt_of_lt_of_le ha (by have:=Nat.pow_le_pow_right (n:=2) (by decide) (show 64≤i by omega); omega))
    simp [this]
 rw [e]; exact wrapU_id (by omega) (by omega)
theorem shrU {a y:Nat} (ha:a<18446744073709551616):shrV .u64 a y=((a >>> y:Nat):Int):=by
 simp only [shrV,Int.toNat_natCast,IntKind.bits]
 rw [Nat.shiftRight_eq_div_pow]
 by_cases hy:y≤64
 · rw [Nat.min_eq_left hy,Int.fdiv_eq_ediv_of_nonneg _ (by exact Int.le_of_lt (Int.pow_pos (by decide)))]
   simp
 · rw [Nat.min_eq_right (by omega)]
   have h1:a / 2 ^ y=0:=Nat.div_eq_of_lt (Nat.lt_of_lt_of_le ha (by have:=Nat.pow_le_pow_right (n:=2) (by decide) (show 64≤y by omega); omega))
   rw [h1,Int.fdiv_eq_ediv_of_nonneg _ (by decide)]
   omega
theorem shlU {a y:Nat} (h:a*2 ^ y<18446744073709551616) (hy:y≤64):shlV .u64 a y=((a*2 ^ y:Nat):Int):=by
 simp only [shlV,Int.toNat_natCast,IntKind.bits]
 rw [Nat.min_eq_left hy]
 have e:(a:Int)*2 ^ y=((a*2 ^ y:Nat):Int):=by simp
 rw [e]; exact wrapU_id (by omega) (by omega)
theorem shlU1 {y:Nat} (hy:y<64):shlV .u64 1 y=((2 ^ y:Nat):Int):=by
 have h2:=Nat.pow_lt_pow_right (a:=2) (by decide) hy
 have h:=shlU (a:=1) (y:=y) (by rw [Nat.one_mul]; exact h2) (by omega)
 rw [Nat.one_mul] at h; exact h
theorem testU {a y:Nat} (ha:a<18446744073709551616):Wj .and .u64 (shrV .u64 a y) 1=if a.testBit y then 1 else 0:=by
 rw [shrU ha]
 have:=andU (a:=a >>> y) (b:=1) (Nat.lt_of_le_of_lt (by rw [Nat.shiftRight_eq_div_pow]; exact Nat.div_le_self _ _) ha) (by decide)
 rw [show ((1:Nat):Int)=1 from rfl] at this
 rw [this,Nat.and_one_is_mod,Nat.testBit_eq_decide_div_mod_eq,Nat.shiftRight_eq_div_pow]
 rcases Nat.mod_two_eq_zero_or_one (a / 2 ^ y) with h | h <;> simp [h]
theorem bits_stepU (t:Nat) (ht:t<18446744073709551616) (h0:t≠0):bits t=Lib.ctz 64 t::bits (t &&& (t-1)):=by
 obtain ⟨m,hm,hk⟩:=Lib.ctzFrom_spec 64 t (by omega) (by omega)
 have hc:Lib.ctz 64 t=Lib.ctzFrom 64 t:=by simp [Lib.ctz,h0]
 rw [hc]
 generalize Lib.ctzFrom 64 t=k at hm hk
 have hp:0<2 ^ k:=Nat.two_pow_pos k
 have e1:t=2 ^ k*(2*m+1)+0:=by omega
 have e2:t-1=2 ^ k*(2*m)+(2 ^ k-1):=by
  rw [hm,Nat.mul_add]; omega
 have b1 : ∀ i,t.testBit i=if i<k then false else (2*m+1).testBit (i-k):=fun i=>by
  rw [e1,Nat.testBit_two_pow_mul_add _ hp]; simp
 have b2 : ∀ i,(t-1).testBit i=if i<k then true else (2*m).testBit (i-k):=fun i=>by
  rw [e2,Nat.testBit_two_pow_mul_add _ (by omega)]
  by_cases hi:i<k <;> simp [hi]
 have bk:t.testBit k=true:=by rw [b1]; simp
 refine (filter_first bk (fun i hi=>by rw [b1]; simp [hi]) (fun i=>?_) 64).1 (by omega)
 rw [Nat.testBit_and,b1,b2]
 by_cases hi:i<k
 · simp [hi]
 · simp only [hi,if_false]
   by_cases he:i=k
   · subst he; simp
   · obtain ⟨j,rfl⟩ : ∃ j,i=k+(j+1):=⟨i-k-1,by omega⟩
     have e3:k+(j+1)-k=j+1:=by omega
     rw [e3,Nat.testBit_succ,Nat.testBit_succ]
     have d1:(2*m+1) / 2=m:=by omega
     have d2:2*m / 2=m:=by omega
     rw [d1,d2]; simp
end Go.Am
namespace Go
section
variable {F:Fence} {n:Nat} {P:Program} {b:Frame} {a:Act} {k:List Item} {cs:List Frame} {w:World} {Q:Exit→Act→World→Prop}
end
end Go
namespace Go.Am
section
variable {P:Program} [Tabs P] {sz:Nat} {Q:Exit→Env→Zh→Prop} {e:Env} {h:Zh}
end
end Go.Am
namespace Go.Am
/-! A slice of ints that a run has made and writes into. -/
section
variable {P:Program} {h:Zh} {b o:Nat} {e t:TypeId} {xs:List Int}
theorem storeBI {K:Zh→Prop} {x:Int} (hb:h[b]? = some (.ints xs e false)) (hs:shp P t=some none) (ho:o<xs.length):Xh P h t (.pointer (some ⟨b,o,none⟩)) (Zd x) K=K (h.set b (.ints (xs.set o x) e false)):=by
 simp only [Xh,hs,hb,ho,true_and]
theorem elemP_new (b n c i:Nat):Wb (.slice (some ⟨b,0,none⟩) n c) 1 i = .pointer (some ⟨b,i,none⟩):=by simp [Wb]
theorem intSl_blk (hb:h[b]? = some (.ints xs e false)):IntSl h (.slice (some ⟨b,0,none⟩) xs.length xs.length) xs :=
 .inr ⟨b,0,none,xs.length,xs.map Zd,e,false,rfl,Nat.le_refl _,by simp [view,hb,Blk.view],fun i hi=>by rw [Nat.zero_add,List.getElem?_map,List.getD,List.getElem?_eq_getElem hi]; rfl⟩
theorem Ext.set_ge {S:Nat→Prop} {h h' : Zh} (hE:Ext S h h') {b:Nat} (hb:h.length≤b) (B:Blk):Ext S h (h'.set b B) :=
 ⟨by rw [List.length_set]; exact hE.1,fun i hi hs=>by rw [List.getElem?_set_ne (by omega)]; exact hE.2 i hi hs⟩
end
end Go.Am
namespace Go.Am
set_option maxRecDepth 100000
section
variable {P:Program} {e:TypeId} {h:Zh} {v:Value} {ws:List Value}
def SrcV (h:Zh) (w:Value) (zs:List Value):Prop:=ValSl h w zs∨(w=void∧zs=[])
theorem SrcV.elems {w:Value} {zs:List Value} (hw:SrcV h w zs) {K:Nat→List Value→Prop} (hk:K zs.length zs):elemsK h 1 w K:=by
 rcases hw with hw | ⟨rfl,rfl⟩
 · exact hw.elems hk
 · exact hk
theorem SrcV.ext {h' : Zh} {w:Value} {zs:List Value} (hw:SrcV h w zs) (hE:Ext (fun _=>False) h h'):SrcV h' w zs:=hw.imp (fun g=>g.ext hE) id
theorem SrcV.same {h' : Zh} {w:Value} {zs:List Value} (hw:SrcV h w zs) (hb : ∀ b,Ye w=some b→h'[b]? = h[b]?):SrcV h' w zs:=hw.imp (fun g=>g.same hb) id
theorem ValSl.pre {t:TypeId} {m:Nat} (hv:ValSl h v ws) (he:elemOf' P t=some e) (hs:esz P e=some 1) (hm:m≤ws.length) {K:Value→Prop} (hk : ∀ v',ValSl h v' (ws.take m)→(Ye v' = Ye v)→K v'):Xb P t v none (some (Zd m)) none K:=by
 have hl:(ws.take m).length=m:=by simp; omega
 rcases hv with ⟨rfl,rfl⟩ | ⟨b,o,sp,cap,c,e',ro,rfl,hc,hb,hx⟩
 · simp only [List.length_nil,Nat.le_zero_eq] at hm
   subst hm
   simp only [Xb,he,hs,bnd,Option.bind_some,Option.isSome_some]
   exact ⟨trivial,rfl,rfl,rfl,hk _ (.inl ⟨rfl,rfl⟩) rfl⟩
 · simp only [Xb,he,hs,bnd]
   have hx' : (c.drop o).take (ws.take m).length=ws.take m:=by
    rw [hl]
    conv=>rhs; rw [← hx]
    rw [List.take_take,Nat.min_eq_left hm]
   refine ⟨by omega,by omega,by omega,fun _=>hk _ (.inr ⟨b,o,none,cap,c,e',ro,?_,by rw [hl]; omega,hb,hx'⟩) rfl,fun _=>.inl ⟨rfl,hk _ (.inr ⟨b,o,some 0,cap,c,e',ro,?_,by rw [hl]; omega,hb,hx'⟩) rfl⟩⟩
   · rw [hl]; simp
   · rw [hl]; simp
theorem ValSl.suf {t:TypeId} {m:Nat} (hv:ValSl h v ws) (he:elemOf' P t=some e) (hs:esz P e=some 1) (hm:m≤ws.length) {K:Value→Prop} (hk : ∀ v',SrcV h v' (ws.drop m)→(∀ b,Ye v' = some b→Ye v=some b)→K v'):Xb P t v (some (Zd m)) none none K:=by
 have hl:(ws.drop m).length=ws.length-m:=List.length_drop
 rcases hv with ⟨rfl,rfl⟩ | ⟨b,o,sp,cap,c,e',ro,rfl,hc,hb,hx⟩
 · simp only [List.length_nil,Nat.le_zero_eq] at hm
   subst hm
   show _∧_∧_∧_∧_
   exact ⟨by simp [he,hs],rfl,rfl,rfl,hk _ (.inl (.inl ⟨rfl,rfl⟩)) fun _ h=>h⟩
 · have hx' : (c.drop (o+m)).take (ws.drop m).length=ws.drop m:=by
    conv=>rhs; rw [← hx]
    rw [hl,List.drop_take,List.drop_drop]
   simp only [Xb,he,hs,bnd]
   refine ⟨by omega,by omega,by omega,fun _=>?_,fun _=>?_⟩
   · by_cases h0:(cap:Int)=((m:Nat):Int)
     · have hz:ws.drop m=[]:=List.drop_eq_nil_of_le (by omega)
       rw [if_pos h0]
       refine hk _ (.inl (.inr ⟨b,o,none,cap-m,c,e',ro,?_,by rw [hl]; omega,hb,?_⟩)) fun b h=>h
       · rw [hl]; simp <;> omega
       · rw [hz]; simp
     · rw [if_neg h0]
       refine hk _ (.inl (.inr ⟨b,o+m,none,cap-m,c,e',ro,?_,by rw [hl]; omega,hb,hx'⟩)) fun b h=>h
       rw [hl]; simp <;> omega
   · by_cases h0:m=0
     · subst h0
       refine .inl ⟨rfl,hk _ (.inl (.inr ⟨b,o,some 0,cap,c,e',ro,?_,by rw [hl]; omega,hb,hx'⟩)) fun b h=>h⟩
       rw [hl]; simp
     · refine .inr ⟨by omega,?_⟩
       by_cases hlt:m<ws.length
       · refine .inl ⟨by omega,by omega,hk _ (.inl (.inr ⟨b,o+m,some 0,cap-m,c,e',ro,?_,by rw [hl]; omega,hb,hx'⟩)) fun b h=>h⟩
         rw [hl]; simp <;> omega
       · exact .inr ⟨by omega,hk _ (.inr ⟨rfl,List.drop_eq_nil_of_le (by omega)⟩) fun b h=>by cases h⟩
theorem OwnV.appS {t t2:TypeId} {bytes:Nat} {x:Value} {us:List Value} (ho:OwnV e h v ws) (hT:appT P t t2=some (e,1,bytes)) (hx:SrcV h x us) (hw : ∀ w∈ws++us,notI w=true∧one w=true) (hn:(ws.length+us.length)*bytes≤140737488355328)
  {K:Value→Zh→Prop} (hk : ∀ v' h',OwnV e h' v' (ws++us)→Ext (fun i=>Ye v=some i) h h'→(Ye v' = Ye v∨∃ b,Ye v' = some b∧h.length≤b)→K v' h') :
  Ys P h t t2 v x K:=by
 rcases hx with hx | ⟨rfl,rfl⟩
 · exact ho.app hT hx hw hn hk
 · have h1:OwnV e h v (ws++[]):=by rw [List.append_nil]; exact ho
   have hgo:=hk v h h1 (Ext.refl _ _) (.inl rfl)
   simp only [Ys,hT]
   show putK h e 1 bytes v 0 [] K
   rcases ho with ⟨rfl,rfl⟩ | ⟨b,ys,rfl,hne,hb⟩
   · simp only [putK]
     exact ⟨fun _=>hgo,fun h=>absurd rfl h⟩
   · simp only [putK]
     exact ⟨fun _=>⟨fun _=>hgo,fun h=>absurd rfl h⟩,fun h=>by omega⟩
def CapV (e:TypeId) (h:Zh) (v:Value) (ws:List Value):Prop:=(v = .slice none 0 0∧ws=[])∨(∃ (b:Nat) (ys:List Value),v = .slice (some ⟨b,0,none⟩) ws.length ws.length∧ws≠[]∧h[b]? = some (.cells (ws++ys) e false))
theorem OwnV.cap {t:TypeId} (ho:OwnV e h v ws) (he:elemOf' P t=some e) (hs:esz P e=some 1) {K:Value→Prop} (hk : ∀ v',CapV e h v' ws→K v') :
  Xb P t v none (some (Zd ws.length)) (some (Zd ws.length)) K:=by
 rcases ho with ⟨rfl,rfl⟩ | ⟨b,ys,rfl,hne,hb⟩
 · simp only [Xb,he,hs,bnd,Option.bind_some,Option.isSome_some]
   exact ⟨trivial,rfl,rfl,rfl,hk _ (.inl ⟨rfl,rfl⟩)⟩
 · simp only [Xb,he,hs,bnd]
   refine ⟨Int.le_refl _,by omega,by omega,by omega,rfl,?_⟩
   have h1:(if (ws.length:Int)=((0:Nat):Int) then 0 else 0+(((0:Nat):Int)).toNat*1)=0:=by split <;> rfl
   have h2:((ws.length:Int)-((0:Nat):Int)).toNat=ws.length:=by omega
   have h3:(ws.length:Int).toNat-((0:Nat):Int).toNat=ws.length:=by simp
   rw [h1,h2,h3]
   exact hk _ (.inr ⟨b,ys,rfl,hne,hb⟩)
theorem CapV.ext {h' : Zh} (c:CapV e h v ws) (hE:Ext (fun _=>False) h h'):CapV e h' v ws :=
 c.imp id fun ⟨b,ys,h1,h2,h3⟩=>⟨b,ys,h1,h2,(hE.2 b (Zz h3) id).trans h3⟩
theorem CapV.app {t t2:TypeId} {bytes:Nat} {x:Value} {us:List Value} (ho:CapV e h v ws) (hT:appT P t t2=some (e,1,bytes)) (hx:ValSl h x us) (hu0:us≠[]) (hw : ∀ w∈ws++us,notI w=true∧one w=true) (hn:(ws.length+us.length)*bytes≤140737488355328)
  {K:Value→Zh→Prop} (hk : ∀ v',OwnV e (h++[.cells (ws++us) e false]) v' (ws++us)→K v' (h++[.cells (ws++us) e false])):Ys P h t t2 v x K:=by
 have hul:us.length≠0:=fun h=>hu0 (List.length_eq_zero_iff.1 h)
 simp only [Ys,hT]
 refine hx.elems ?_
 rcases ho with ⟨rfl,rfl⟩ | ⟨b,ys,rfl,hne,hb⟩
 · simp only [putK]
   refine ⟨fun h0=>absurd h0 hul,fun h0=>⟨by simpa using hn,?_⟩⟩
   rw [mkb_no hu0 (fun w h=>(hw w (by simp [h])).1)]
   refine hk _ (.inr ⟨h.length,[],by simp,by simpa using hu0,?_⟩)
   rw [List.getElem?_append_right (Nat.le_refl _)]
   simp
 · simp only [putK,hb]
   refine ⟨fun hroom=>by omega,fun _=>⟨hn,?_⟩⟩
   rw [Vf (c:=ws++ys) (e:=e) (ro:=false) (by simp [view,hb,Blk.view]) (.inl (by rw [Wz hb]; rfl))]
   have e1:List.take (ws.length*1) (List.drop 0 (ws++ys))=ws:=by simp
   refine ⟨by simp,?_⟩
   rw [e1,mkb_no (by simp [hne]) (fun w h=>(hw w h).1)]
   refine hk _ (.inr ⟨h.length,[],by simp,by simp [hne],?_⟩)
   rw [List.getElem?_append_right (Nat.le_refl _)]
   simp
end
end Go.Am
namespace Go.Am
section
variable {P:Program} [Tabs P] {R:Zh→Prop} {qs:List (Nat×Nat)} {ops:Array Oper} {af:List (List Nat)} {tr:List (Value×Zh)} {e0:Env} {h0 hb:Zh} {ρ0:Nat→Loc} {w0:World} {r:Option Nat} {m sz:Nat}
structure PendB (P:Program) [Tabs P] (qs:List (Nat×Nat)) (ops:Array Oper) (af:List (List Nat)) (tr:List (Value×Zh)) (e0:Env) (h0:Zh) (ρ0:Nat→Loc) (w0:World) (r:Option Nat) (m sz:Nat) (z d:Nat) (t:TypeId) (c:List Value) (X:List Nat) (listed:Array Bool) (a:Act) (w:World):Prop where
 size:listed.size=ops.size
 lz:listed.getD z false=true
 ez : ∀ e∈af.getD z [],listed.getD e false=true
 st : ∃ (listed' : Array Bool) (hb:Zh) (ρb:Nat→Loc) (wb:World) (l:Loc) (c' : Array Value),listed'.size=listed.size∧listed'.getD z false=false∧(∀ j,j≠z→listed'.getD j false=listed.getD j false)∧Evo h0 ρ0 w0 hb ρb wb ∧
  MidB P qs ops (extE af z X) tr e0 h0 hb ρb wb r m sz listed' a w∧wb.heap[l.blk]? = some (.cells c' t (0,0))∧c'.size=l.sz∧c.length≤c'.size∧(∀ k,k<c.length→VRel hb.length ρb (c.getD k undef) (c'.getD k undef)) ∧
  (P.info? t).map (·.size)=some l.es∧¬ Live hb ρb l.blk∧w0.heap.size≤l.blk∧a.tmps.getD d undef = .slice (some ⟨l.blk,0,none⟩) 1 1
variable {z d x:Nat} {ts t:TypeId} {c:List Value} {X:List Nat}
end
end Go.Am
namespace Go.Am
theorem flatP_set : ∀ (ps:List (Int×Int)) (i:Nat) (x y:Int),i<ps.length→Yv (ps.set i (x,y))=Yh (Yv ps) (i*2) [x,y]
 | [],i,_,_,h=>by simp at h
 | p::ps,0,x,y,_=>by simp [Yv,Yh]
 | p::ps,i+1,x,y,h=>by
   have ih:=flatP_set ps i x y (by simpa using h)
   rw [List.set_cons_succ]
   have e1 : ∀ l:List (Int×Int),Yv (p::l)=p.1::p.2::Yv l:=fun l=>rfl
   rw [e1,e1,ih]
   simp only [Yh,Nat.add_mul,Nat.one_mul]
   rw [show i*2+2=(i*2)+1+1 by omega,List.take_succ_cons,List.take_succ_cons]
   simp only [List.length_cons,List.length_nil]
   rw [show i*2+1+1+(0+1+1)=(i*2+(0+1+1))+1+1 by omega,List.drop_succ_cons,List.drop_succ_cons]
   rfl
section
variable {P:Program} {h:Zh} {b:Nat} {e t:TypeId} {ps:List (Int×Int)} {x y:Int}
theorem storePC {K:Zh→Prop} {i:Nat} (hb:h[b]? = some (.cells ((Yv ps).map Zd) e false)) (hs:shp P t=some (some 2)) (hi:i<ps.length) :
  Xh P h t (.pointer (some ⟨b,i*2,none⟩)) (.agg #[Zd x,Zd y]) K=K (h.set b (.cells ((Yv (ps.set i (x,y))).map Zd) e false)):=by
 have hl:=Xx ps
 have e1:Yh ((Yv ps).map Zd) (i*2) [Zd x,Zd y]=(Yv (ps.set i (x,y))).map Zd:=by
  rw [flatP_set ps i x y hi,splice_map]; rfl
 simp only [Xh,hs,hb]
 simp only [e1,List.length_map,hl]
 refine propext ⟨fun h=>h.2.2.2,fun h=>⟨rfl,rfl,by omega,h⟩⟩
theorem pairSl_cells {ro:Bool} (hb:h[b]? = some (.cells ((Yv ps).map Zd) e ro)):PairSl h (.slice (some ⟨b,0,none⟩) ps.length ps.length) ps:=by
 refine .inr ⟨b,0,none,ps.length,(Yv ps).map Zd,e,ro,rfl,Nat.le_refl _,by simp [view,hb,Blk.view],fun i hi=>?_⟩
 obtain ⟨h1,h2⟩:=flatP_get ps i hi
 simp only [Nat.zero_add,List.getElem?_map,h1,h2]
 exact ⟨rfl,rfl⟩
theorem elemP_pair (b n c i:Nat) (s:Option Nat):Wb (.slice (some ⟨b,0,s⟩) n c) 2 i = .pointer (some ⟨b,i*2,none⟩):=by
 simp [Wb]
theorem reps_pairs (n:Nat):reps [.int .i64 0,.int .i64 0] n=(Yv (List.replicate n (0,0))).map Zd:=by
 induction n with
 | zero=>rfl
 | succ n ih =>
   have e1:Yv (List.replicate (n+1) ((0:Int),(0:Int)))=0::0::Yv (List.replicate n (0,0)):=rfl
   rw [reps,ih,e1]; rfl
theorem makeP {l:Int} {n:Nat} {K:Value→Zh→Prop} (he:elemOf' P t=some e) (hz:Xs P e=some [.int .i64 0,.int .i64 0]) (hi:(P.info? e).map (fun i=>(i.size,i.bytes))=some (2,16)) (hl:l=n) (h1:n≤1099511627776) :
  makeK P h t (.int .i64 l) (.int .i64 l) K=K (.slice (some ⟨h.length,0,none⟩) n n) (h++[.cells ((Yv (List.replicate n (0,0))).map Zd) e false]):=by
 subst hl
 obtain ⟨i,h2,h3⟩:=Option.map_eq_some_iff.1 hi
 simp only [Prod.mk.injEq] at h3
 obtain ⟨h4,h5⟩:=h3
 simp only [makeK,he,hz,h2,h4,h5,Int.toNat_natCast]
 rw [show zblk [Value.int IntKind.i64 0,Value.int IntKind.i64 0] n e = .cells ((Yv (List.replicate n (0,0))).map Zd) e false by rw [← reps_pairs]; rfl]
 refine propext ⟨fun h=>h.2.2.2.2.2.2,fun h=>⟨rfl,by decide,by omega,Int.le_refl _,by push_cast; omega,by omega,h⟩⟩
end
end Go.Am
namespace Go.Am
section read
variable {H:Type} {enc:TypeId×Value→H} {P:Program} {w:World} {base:Nat} {r:Reach}
end read
end Go.Am
namespace Go.Am
end Go.Am
namespace Go.Am
section
variable {P:Program} {e:TypeId} {h:Zh} {v w:Value} {ps zs:List (Int×Int)}
theorem OwnP.app {t t2:TypeId} (ho:OwnP e h v ps) (hw:PairSl h w zs) (hz:zs≠[]) (hT:appT P t t2=some (e,2,16)) (hn:ps.length+zs.length<1099511627776) {K:Value→Zh→Prop}
  (hk : ∀ v' h',OwnP e h' v' (ps++zs)→Ext (fun i=>Ye v=some i) h h'→K v' h'):Ys P h t t2 v w K:=by
 have hpos:0<zs.length:=List.length_pos_iff.2 hz
 have hone:((Yv zs).map Zd).all one=true:=by rw [List.all_eq_true]; intro x hx; obtain ⟨y,_,rfl⟩:=List.mem_map.1 hx; rfl
 have l1:=Xx ps
 have l2:=Xx zs
 have hgo:putK h e 2 16 v zs.length ((Yv zs).map Zd) K:=by
  rcases ho with ⟨rfl,rfl⟩ | ⟨b,ys,rfl,hb⟩
  · simp only [putK]
    refine ⟨fun h=>by omega,fun _=>⟨by simp at hn; omega,hk _ _ (.inr ⟨h.length,[],by simp,?_⟩) (Ext.app _ _ _)⟩⟩
    rw [Yp,mkb,intsOf_map']; simp [Yv]
  · have l3:=Xx ys
    simp only [putK,hb,intsOf_map']
    refine ⟨fun hroom=>⟨fun h=>by omega,fun _=>⟨hone,by simp only [List.length_append]; omega,?_⟩⟩,fun hroom=>⟨by omega,trivial,hone,by simp [view,hb,Blk.view],?_⟩⟩
    · refine hk _ _ (.inr ⟨b,ys.drop zs.length,by simp; omega,?_⟩) (Ext.set _ rfl)
      have e1:Yh (Yv ps++Yv ys) (0+ps.length*2) (Yv zs)=Yv ps++Yv zs++(Yv ys).drop (zs.length*2):=by
       rw [Yh,Nat.zero_add,show ps.length*2=(Yv ps).length by omega,List.take_left,List.drop_append,List.drop_eq_nil_of_le (by omega),List.nil_append,Nat.add_sub_cancel_left,show (Yv zs).length=zs.length*2 by omega]
      have e2 : ∀ (l:List (Int×Int)) (k:Nat),Yv (l.drop k)=(Yv l).drop (k*2):=by
       intro l
       induction l with
       | nil=>intro k; simp [Yv]
       | cons p l ih =>
         intro k
         cases k with
         | zero=>rfl
         | succ k =>
           have:Yv (p::l)=p.1::p.2::Yv l:=rfl
           rw [List.drop_succ_cons,ih,this,show (k+1)*2=k*2+1+1 by omega]; rfl
      rw [Xj (Zz hb),e1,flatP_app,e2]
    · simp only [Xo,hb]
      refine ⟨by simp only [List.length_append]; omega,hk _ _ (.inr ⟨h.length,[],by simp,?_⟩) ((Ext.set (S:=fun i=>Ye (.slice (some ⟨b,0,some 0⟩) ps.length (ps.length+ys.length))=some i) .dead rfl).trans (Ext.app _ _ _))⟩
      rw [List.getElem?_append_right (by simp)]
      have:Xa (List.map Zd (List.take (ps.length*2) (List.drop 0 (Yv ps++Yv ys)))++List.map Zd (Yv zs))=some (Yv ps++Yv zs):=by
       rw [← List.map_append,List.drop_zero,show ps.length*2=(Yv ps).length by omega,List.take_left]; exact intsOf_map' _
      simp only [mkb,List.length_set,Nat.sub_self,List.getElem?_cons_zero,this,flatP_app]
      simp [Yv]
 simp only [Ys,hT]
 have hw':=hw
 rcases hw with ⟨_,h1⟩ | ⟨b,o,sp,cap,c,e',ro,rfl,hc,hb,_⟩
 · exact absurd h1 hz
 · exact ⟨fun h=>absurd (List.length_eq_zero_iff.1 h) hz,fun _=>hw'.cells hz rfl hgo⟩
end
end Go.Am
