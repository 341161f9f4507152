/-
  Plain theory: lines that show an order, by keys; their number is at most that of the chains, and at most three for six elements.
  Plain theory: the first of the shortest realizers; a search with repetitions finds the same.
  Printed by gen.py: the code of some functions, without what no step looks at; held against the program's own by the kernel.
  order: what stands behind each element of a line.
  order: the search for a realizer.
-/
import Derived.Test.YtnjacpfahhjpiaaDoorPk7
import Derived.Test.YtnjacpfahhjpiaaDoorPk3
import Derived.Test.YtnjacpfahhjpiaaDoorProg
import Derived.KernelRfl
import Derived.Shelf.Abstract
import Derived.Test.YtnjacpfahhjpiaaDoorPk4
set_option linter.all false
namespace Ord
theorem filter_lt' {α:Type} {p q:α→Bool} : ∀ {l:List α},(∀ x∈l,p x=true→q x=true)→(∃ x∈l,q x=true∧p x=false)→(l.filter p).length<(l.filter q).length
 | [],_,h=>by obtain ⟨x,hx,_⟩:=h; cases hx
 | a::l,h1,h2=>by
   have hle : ∀ {l:List α},(∀ x∈l,p x=true→q x=true)→(l.filter p).length≤(l.filter q).length:=fun {l}=>by
    induction l with
    | nil=>intro _; exact Nat.le_refl _
    | cons b l ih =>
      intro h
      have:=ih fun x hx=>h x (by simp [hx])
      have hb:=h b (by simp)
      simp only [List.filter_cons]
      cases hp:p b <;> cases hq:q b <;> simp_all <;> omega
   have ht:=h1 a (by simp)
   have hl:=hle (l:=l) fun x hx=>h1 x (by simp [hx])
   obtain ⟨x,hx,hq,hp⟩:=h2
   simp only [List.filter_cons]
   rcases List.mem_cons.1 hx with rfl | hx
   · simp [hq,hp]; omega
   · have:=filter_lt' (fun x hx=>h1 x (by simp [hx])) ⟨x,hx,hq,hp⟩
     cases hpa:p a <;> cases hqa:q a <;> simp_all <;> omega
theorem filter_le' {α:Type} {p q:α→Bool} : ∀ {l:List α},(∀ x∈l,p x=true→q x=true)→(l.filter p).length≤(l.filter q).length
 | [],_=>Nat.le_refl _
 | b::l,h=>by
   have:=filter_le' (l:=l) fun x hx=>h x (by simp [hx])
   have hb:=h b (by simp)
   simp only [List.filter_cons]
   cases hp:p b <;> cases hq:q b <;> simp_all <;> omega
structure Key (r:Nat→Nat→Bool) (S:List Nat) (K:Nat→Nat):Prop where
 inj : ∀ i∈S,∀ j∈S,K i=K j→i=j
 mono : ∀ i∈S,∀ j∈S,r i j=true→K i<K j
structure Rlz (r:Nat→Nat→Bool) (S:List Nat) (Ks:List (Nat→Nat)):Prop where
 key : ∀ K∈Ks,Key r S K
 rev : ∀ i∈S,∀ j∈S,i≠j→r i j=false→∃ K∈Ks,K j<K i
theorem Rlz.sub {r:Nat→Nat→Bool} {S T:List Nat} {Ks:List (Nat→Nat)} (h:Rlz r S Ks) (hs : ∀ i∈T,i∈S):Rlz r T Ks :=
 ⟨fun K hK=>⟨fun i hi j hj=>(h.key K hK).inj i (hs i hi) j (hs j hj),fun i hi j hj=>(h.key K hK).mono i (hs i hi) j (hs j hj)⟩,fun i hi j hj=>h.rev i (hs i hi) j (hs j hj)⟩
theorem bound_of (K:Nat→Nat) : ∀ S:List Nat,∃ N,∀ u∈S,K u<N
 | []=>⟨0,fun _ h=>by cases h⟩
 | a::S=>by
   obtain ⟨N,hN⟩:=bound_of K S
   refine ⟨max N (K a+1),fun u hu=>?_⟩
   rcases List.mem_cons.1 hu with rfl | hu
   · omega
   · have:=hN u hu; omega
theorem base_key {r:Nat→Nat→Bool} (h:Po r) {S:List Nat} (hS:S.Nodup) : ∃ K,Key r S K:=by
 have hp:=cnt_pos h (k:=S.length) (S:=S) rfl
 rw [← cnt_len] at hp
 obtain ⟨l,hl⟩:=List.exists_mem_of_ne_nil _ (List.ne_nil_of_length_pos hp)
 obtain ⟨h1,h2⟩:=(Wz h.irr rfl l).1 hl
 have hn:=h1.nodup_iff.2 hS
 refine ⟨fun i=>l.idxOf i,⟨fun i hi j hj he=>idx_inj (h1.mem_iff.2 hi) (h1.mem_iff.2 hj) he,fun i hi j hj hij=>?_⟩⟩
 rcases Nat.lt_or_ge (l.idxOf i) (l.idxOf j) with h3 | h3
 · exact h3
 · rcases Nat.lt_or_ge (l.idxOf j) (l.idxOf i) with h4 | h4
   · have:=(bef_pw hn).1 h2 j (h1.mem_iff.2 hj) i (h1.mem_iff.2 hi) (by rw [bef]; exact decide_eq_true h4)
     rw [hij] at this; cases this
   · have:=idx_inj (h1.mem_iff.2 hi) (h1.mem_iff.2 hj) (by omega)
     subst this
     rw [h.irr] at hij; cases hij
theorem rlz_chains {r:Nat→Nat→Bool} (h:Po r) {S:List Nat} (hS:S.Nodup) {k:Nat} {f:Nat→Nat} (hf:Chn r S k f) : ∃ Ks,Rlz r S Ks∧Ks.length=k:=by
 obtain ⟨B,hB⟩:=base_key h hS
 obtain ⟨N,hN⟩:=bound_of B S
 obtain ⟨lev,hlev⟩ : ∃ lev:Nat→Nat→Nat,lev=fun c u=>(S.filter fun z=>decide (f z=c)&&(decide (z=u) || r z u)).length:=⟨_,rfl⟩
 have hm : ∀ c,∀ u v,r u v=true→lev c u≤lev c v:=fun c u v huv=>by
  rw [hlev]
  refine filter_le' fun z _ hz=>?_
  simp only [Bool.and_eq_true,Bool.or_eq_true,decide_eq_true_eq] at hz ⊢
  refine ⟨hz.1,.inr ?_⟩
  rcases hz.2 with rfl | h2
  · exact huv
  · exact h.tr _ _ _ h2 huv
 have hmul : ∀ {a b x y:Nat},a<b→x<N→a*N+x<b*N+y:=fun {a b x y} hab hx=>by
  have:(a+1)*N≤b*N:=Nat.mul_le_mul_right _ hab
  rw [Nat.succ_mul] at this
  omega
 refine ⟨(List.range k).map fun c u=>lev c u*N+B u,⟨fun K hK=>?_,fun i hi j hj hne hij=>?_⟩,by simp⟩
 · obtain ⟨c,_,rfl⟩:=List.mem_map.1 hK
   refine ⟨fun i hi j hj he=>?_,fun i hi j hj hij=>?_⟩
   · rcases Nat.lt_trichotomy (lev c i) (lev c j) with h1 | h1 | h1
     · have:=hmul (y:=B j) h1 (hN i hi); omega
     · rw [h1] at he; exact hB.inj i hi j hj (by omega)
     · have:=hmul (y:=B i) h1 (hN j hj); omega
   · have h1:=hm c i j hij
     have h2:=hB.mono i hi j hj hij
     rcases Nat.lt_or_ge (lev c i) (lev c j) with h3 | h3
     · exact hmul h3 (hN i hi)
     · have:lev c i=lev c j:=by omega
       simp only [this]; omega
 · refine ⟨_,List.mem_map.2 ⟨f i,List.mem_range.2 (hf.lt i hi),rfl⟩,?_⟩
   cases hji:r j i with
   | true =>
     have h1:=hm (f i) j i hji
     have h2:=hB.mono j hj i hi hji
     rcases Nat.lt_or_ge (lev (f i) j) (lev (f i) i) with h3 | h3
     · exact hmul h3 (hN j hj)
     · have:lev (f i) j=lev (f i) i:=by omega
       simp only [this]; omega
   | false =>
     refine hmul ?_ (hN j hj)
     rw [hlev]
     refine filter_lt' (fun z hz hp=>?_) ⟨i,hi,by simp,by simp [hne,hij]⟩
     simp only [Bool.and_eq_true,Bool.or_eq_true,decide_eq_true_eq] at hp ⊢
     refine ⟨hp.1,?_⟩
     rcases hf.ch z hz i hi hp.1 with h1 | h1 | h1
     · exact .inl h1
     · exact .inr h1
     · exfalso
       rcases hp.2 with rfl | h2
       · rw [hij] at h1; cases h1
       · rw [h.tr _ _ _ h1 h2] at hij; cases hij
theorem rlz_insert {r:Nat→Nat→Bool} (h:Po r) {S:List Nat} {x:Nat} (hx:x ∉ S) {K:Nat→Nat} {Ks:List (Nat→Nat)} (hr:Rlz r S (K::Ks)) : ∃ Ks',Rlz r (x::S) Ks'∧Ks'.length=Ks.length+2:=by
 obtain ⟨N,hN⟩:=bound_of K S
 have hK:=hr.key K (by simp)
 have hne : ∀ u∈S,u≠x:=fun u hu he=>hx (he▸hu)
 obtain ⟨M1,hM1⟩ : ∃ M:Nat→Nat,M=fun u=>if u=x then N else if r x u then N+1+K u else K u:=⟨_,rfl⟩
 obtain ⟨M2,hM2⟩ : ∃ M:Nat→Nat,M=fun u=>if u=x then N else if r u x then K u else N+1+K u:=⟨_,rfl⟩
 have m1x:M1 x=N:=by rw [hM1]; simp
 have m2x:M2 x=N:=by rw [hM2]; simp
 have m1 : ∀ u∈S,M1 u=if r x u then N+1+K u else K u:=fun u hu=>by rw [hM1]; exact if_neg (hne u hu)
 have m2 : ∀ u∈S,M2 u=if r u x then K u else N+1+K u:=fun u hu=>by rw [hM2]; exact if_neg (hne u hu)
 obtain ⟨mx,hmx⟩ : ∃ mx:(Nat→Nat)→Nat,∀ L,(∀ d∈S,r d x=true→L d+1≤mx L)∧(mx L=0∨∃ d∈S,r d x=true∧mx L=L d+1):=by
  suffices hh : ∀ L:Nat→Nat,∃ m,(∀ d∈S,r d x=true→L d+1≤m)∧(m=0∨∃ d∈S,r d x=true∧m=L d+1) from ⟨fun L=>Classical.choose (hh L),fun L=>Classical.choose_spec (hh L)⟩
  intro L
  have : ∀ T:List Nat,∃ m,(∀ d∈T,r d x=true→L d+1≤m)∧(m=0∨∃ d∈T,r d x=true∧m=L d+1):=fun T=>by
   induction T with
   | nil=>exact ⟨0,fun _ h=>(by cases h),.inl rfl⟩
   | cons a T ih =>
     obtain ⟨m,h1,h2⟩:=ih
     by_cases ha:r a x=true∧m<L a+1
     · refine ⟨L a+1,fun d hd hdx=>?_,.inr ⟨a,by simp,ha.1,rfl⟩⟩
       rcases List.mem_cons.1 hd with rfl | hd
       · exact Nat.le_refl _
       · have:=h1 d hd hdx; omega
     · refine ⟨m,fun d hd hdx=>?_,?_⟩
       · rcases List.mem_cons.1 hd with rfl | hd
         · rcases Nat.lt_or_ge m (L d+1) with h3 | h3
           · exact absurd ⟨hdx,h3⟩ ha
           · exact h3
         · exact h1 d hd hdx
       · rcases h2 with h2 | ⟨d,h2,h3⟩
         · exact .inl h2
         · exact .inr ⟨d,by simp [h2],h3⟩
  exact this S
 obtain ⟨ex,hex⟩ : ∃ ex:(Nat→Nat)→Nat→Nat,ex=fun L u=>if u=x then 2*mx L+1 else 2*(L u+1):=⟨_,rfl⟩
 have exx : ∀ L,ex L x=2*mx L+1:=fun L=>by rw [hex]; simp
 have exu : ∀ L,∀ u∈S,ex L u=2*(L u+1):=fun L u hu=>by rw [hex]; exact if_neg (hne u hu)
 have keyOf : ∀ M:Nat→Nat,(∀ u∈S,M u≠M x)→(∀ i∈S,∀ j∈S,M i=M j→i=j)→(∀ i∈S,∀ j∈S,r i j=true→M i<M j)→(∀ u∈S,r x u=true→M x<M u)→(∀ u∈S,r u x=true→M u<M x)→Key r (x::S) M:=fun M a1 a2 a3 a4 a5=>by
  refine ⟨fun i hi j hj he=>?_,fun i hi j hj hij=>?_⟩
  · rw [List.mem_cons] at hi
    rcases hi with rfl | hi
    · rw [List.mem_cons] at hj
      rcases hj with rfl | hj
      · rfl
      · exact absurd he.symm (a1 j hj)
    · rw [List.mem_cons] at hj
      rcases hj with rfl | hj
      · exact absurd he (a1 i hi)
      · exact a2 i hi j hj he
  · rw [List.mem_cons] at hi
    rcases hi with rfl | hi
    · rw [List.mem_cons] at hj
      rcases hj with rfl | hj
      · rw [h.irr] at hij; cases hij
      · exact a4 j hj hij
    · rw [List.mem_cons] at hj
      rcases hj with rfl | hj
      · exact a5 i hi hij
      · exact a3 i hi j hj hij
 refine ⟨M1::M2::Ks.map ex,⟨fun M hM=>?_,fun i hi j hj hij hn=>?_⟩,by simp⟩
 · rcases List.mem_cons.1 hM with rfl | hM
   · refine keyOf M (fun u hu=>?_) (fun i hi j hj he=>?_) (fun i hi j hj hij=>?_) (fun u hu hxu=>?_) fun u hu hux=>?_
     · rw [m1 u hu,m1x]; have:=hN u hu; split <;> omega
     · rw [m1 i hi,m1 j hj] at he
       have:=hN i hi; have:=hN j hj
       refine hK.inj i hi j hj ?_
       split at he <;> split at he <;> omega
     · rw [m1 i hi,m1 j hj]
       have:=hN i hi; have:=hN j hj
       have h1:=hK.mono i hi j hj hij
       split
       · rename_i h2
         rw [if_pos (h.tr _ _ _ h2 hij)]; omega
       · split <;> omega
     · rw [m1x,m1 u hu,if_pos hxu]; omega
     · have h2:r x u=false:=h.asym hux
       rw [m1x,m1 u hu,if_neg (by simp [h2])]; exact hN u hu
   · rcases List.mem_cons.1 hM with rfl | hM
     · refine keyOf M (fun u hu=>?_) (fun i hi j hj he=>?_) (fun i hi j hj hij=>?_) (fun u hu hxu=>?_) fun u hu hux=>?_
       · rw [m2 u hu,m2x]; have:=hN u hu; split <;> omega
       · rw [m2 i hi,m2 j hj] at he
         have:=hN i hi; have:=hN j hj
         refine hK.inj i hi j hj ?_
         split at he <;> split at he <;> omega
       · rw [m2 i hi,m2 j hj]
         have:=hN i hi; have:=hN j hj
         have h1:=hK.mono i hi j hj hij
         by_cases h2:r j x=true
         · rw [if_pos h2,if_pos (h.tr _ _ _ hij h2)]; omega
         · rw [if_neg h2]; split <;> omega
       · have h2:r u x=false:=h.asym hxu
         rw [m2x,m2 u hu,if_neg (by simp [h2])]; omega
       · rw [m2x,m2 u hu,if_pos hux]; exact hN u hu
     · obtain ⟨L,hL,rfl⟩:=List.mem_map.1 hM
       have kL:=hr.key L (by simp [hL])
       obtain ⟨x1,x2⟩:=hmx L
       refine keyOf _ (fun u hu=>?_) (fun i hi j hj he=>?_) (fun i hi j hj hij=>?_) (fun u hu hxu=>?_) fun u hu hux=>?_
       · rw [exx,exu L u hu]; omega
       · rw [exu L i hi,exu L j hj] at he; exact kL.inj i hi j hj (by omega)
       · rw [exu L i hi,exu L j hj]; have:=kL.mono i hi j hj hij; omega
       · rw [exx,exu L u hu]
         rcases x2 with x2 | ⟨d,h1,h2,h3⟩
         · omega
         · have:=kL.mono d h1 u hu (h.tr _ _ _ h2 hxu); omega
       · rw [exx,exu L u hu]; have:=x1 u hu hux; omega
 · rw [List.mem_cons] at hi
   rcases hi with rfl | hi
   · rw [List.mem_cons] at hj
     rcases hj with rfl | hj
     · exact absurd rfl hij
     · refine ⟨M1,by simp,?_⟩
       rw [m1x,m1 j hj,if_neg (by simp [hn])]; exact hN j hj
   · rw [List.mem_cons] at hj
     rcases hj with rfl | hj
     · refine ⟨M2,by simp,?_⟩
       rw [m2x,m2 i hi,if_neg (by simp [hn])]; omega
     · obtain ⟨L,hL,hlt⟩:=hr.rev i hi j hj hij hn
       rcases List.mem_cons.1 hL with rfl | hL
       · by_cases hb:r x j=true∧r x i=false
         · refine ⟨M2,by simp,?_⟩
           have h1:r i x=false:=by
            cases hc:r i x with
            | false=>rfl
            | true=>rw [h.tr _ _ _ hc hb.1] at hn; cases hn
           rw [m2 i hi,m2 j hj,if_neg (by simp [h.asym hb.1]),if_neg (by simp [h1])]
           omega
         · refine ⟨M1,by simp,?_⟩
           rw [m1 i hi,m1 j hj]
           have:=hN i hi; have:=hN j hj
           by_cases h1:r x j=true
           · have h2:r x i=true:=by
              cases hc:r x i with
              | true=>rfl
              | false=>exact absurd ⟨h1,hc⟩ hb
             rw [if_pos h1,if_pos h2]; omega
           · rw [if_neg h1]; split <;> omega
       · refine ⟨ex L,by simp only [List.mem_cons,List.mem_map]; exact .inr (.inr ⟨L,hL,rfl⟩),?_⟩
         rw [exu L i hi,exu L j hj]; omega
theorem rlz_anti {r:Nat→Nat→Bool} (h:Po r) {A:List Nat} {x:Nat} (hx:x ∉ A) (hn:A.Nodup) (ha : ∀ a∈A,∀ b∈A,r a b=false) : ∃ K1 K2,Rlz r (x::A) [K1,K2]:=by
 obtain ⟨N,hN⟩ : ∃ N,N=A.length:=⟨_,rfl⟩
 have hi : ∀ u∈A,A.idxOf u<N:=fun u hu=>by rw [hN]; exact List.idxOf_lt_length_iff.2 hu
 have hne : ∀ u∈A,u≠x:=fun u hu he=>hx (he▸hu)
 have fin : ∀ M1 M2:Nat→Nat,(∀ i∈x::A,∀ j∈x::A,M1 i=M1 j→i=j)→(∀ i∈x::A,∀ j∈x::A,M2 i=M2 j→i=j)→(∀ u∈A,r x u=true→M1 x<M1 u∧M2 x<M2 u)→(∀ u∈A,r u x=true→M1 u<M1 x∧M2 u<M2 x) →
   (∀ u∈A,r x u=false→M1 u<M1 x∨M2 u<M2 x)→(∀ u∈A,r u x=false→M1 x<M1 u∨M2 x<M2 u)→(∀ i∈A,∀ j∈A,i≠j→M1 j<M1 i∨M2 j<M2 i)→∃ K1 K2,Rlz r (x::A) [K1,K2]:=fun M1 M2 a1 a2 a3 a4 a5 a6 a7=>by
  have mono : ∀ M:Nat→Nat,(∀ u∈A,r x u=true→M x<M u)→(∀ u∈A,r u x=true→M u<M x)→∀ i∈x::A,∀ j∈x::A,r i j=true→M i<M j:=fun M b1 b2 i hi j hj hij=>by
   rw [List.mem_cons] at hi
   rcases hi with rfl | hi
   · rw [List.mem_cons] at hj
     rcases hj with rfl | hj
     · rw [h.irr] at hij; cases hij
     · exact b1 j hj hij
   · rw [List.mem_cons] at hj
     rcases hj with rfl | hj
     · exact b2 i hi hij
     · rw [ha i hi j hj] at hij; cases hij
  refine ⟨M1,M2,⟨fun K hK=>?_,fun i hi j hj hij hn=>?_⟩⟩
  · rcases List.mem_cons.1 hK with rfl | hK
    · exact ⟨a1,mono K (fun u hu hr=>(a3 u hu hr).1) fun u hu hr=>(a4 u hu hr).1⟩
    · obtain rfl:=List.mem_singleton.1 hK
      exact ⟨a2,mono K (fun u hu hr=>(a3 u hu hr).2) fun u hu hr=>(a4 u hu hr).2⟩
  · have:M1 j<M1 i∨M2 j<M2 i:=by
     rw [List.mem_cons] at hi
     rcases hi with rfl | hi
     · rw [List.mem_cons] at hj
       rcases hj with rfl | hj
       · exact absurd rfl hij
       · exact a5 j hj hn
     · rw [List.mem_cons] at hj
       rcases hj with rfl | hj
       · exact a6 i hi hn
       · exact a7 i hi j hj hij
    rcases this with h1 | h1
    · exact ⟨M1,by simp,h1⟩
    · exact ⟨M2,by simp,h1⟩
 have hidx : ∀ i∈A,∀ j∈A,A.idxOf i=A.idxOf j→i=j:=fun i hi j hj he=>idx_inj hi hj he
 by_cases hD : ∃ d∈A,r d x=true
 · obtain ⟨d,hd,hdx⟩:=hD
   have hU : ∀ u∈A,r x u=false:=fun u hu=>by
    cases hc:r x u with
    | false=>rfl
    | true=>have:=h.tr _ _ _ hdx hc; rw [ha d hd u hu] at this; cases this
   obtain ⟨M,hM⟩ : ∃ M:Nat→Nat,M=fun u=>if u=x then N else if r u x then A.idxOf u else N+1+A.idxOf u:=⟨_,rfl⟩
   obtain ⟨M',hM'⟩ : ∃ M' : Nat→Nat,M' = fun u=>if u=x then 3*N+9 else 3*N+8-M u:=⟨_,rfl⟩
   have mx:M x=N:=by rw [hM]; simp
   have mx' : M' x=3*N+9:=by rw [hM']; simp
   have mu : ∀ u∈A,M u=if r u x then A.idxOf u else N+1+A.idxOf u:=fun u hu=>by rw [hM]; exact if_neg (hne u hu)
   have mu' : ∀ u∈A,M' u=3*N+8-M u:=fun u hu=>by rw [hM']; exact if_neg (hne u hu)
   have ml : ∀ u∈A,M u≤2*N+1:=fun u hu=>by rw [mu u hu]; have:=hi u hu; split <;> omega
   have inj : ∀ i∈A,∀ j∈A,M i=M j→i=j:=fun i hi1 j hj1 he=>by
    rw [mu i hi1,mu j hj1] at he
    have:=hi i hi1; have:=hi j hj1
    refine hidx i hi1 j hj1 ?_
    split at he <;> split at he <;> omega
   have nx : ∀ u∈A,M u≠N:=fun u hu=>by rw [mu u hu]; have:=hi u hu; split <;> omega
   refine fin M M' (fun i hi1 j hj1 he=>?_) (fun i hi1 j hj1 he=>?_) (fun u hu hr=>?_) (fun u hu hr=>?_) (fun u hu hr=>.inr ?_) (fun u hu hr=>.inl ?_) fun i hi1 j hj1 hij=>?_
   · rw [List.mem_cons] at hi1
     rcases hi1 with rfl | hi1
     · rw [List.mem_cons] at hj1
       rcases hj1 with rfl | hj1
       · rfl
       · rw [mx] at he; exact absurd he.symm (nx j hj1)
     · rw [List.mem_cons] at hj1
       rcases hj1 with rfl | hj1
       · rw [mx] at he; exact absurd he (nx i hi1)
       · exact inj i hi1 j hj1 he
   · rw [List.mem_cons] at hi1
     rcases hi1 with rfl | hi1
     · rw [List.mem_cons] at hj1
       rcases hj1 with rfl | hj1
       · rfl
       · rw [mx',mu' j hj1] at he; omega
     · rw [List.mem_cons] at hj1
       rcases hj1 with rfl | hj1
       · rw [mx',mu' i hi1] at he; omega
       · rw [mu' i hi1,mu' j hj1] at he
         have:=ml i hi1; have:=ml j hj1
         exact inj i hi1 j hj1 (by omega)
   · rw [hU u hu] at hr; cases hr
   · rw [mx,mx',mu' u hu,mu u hu,if_pos hr]; exact ⟨hi u hu,by omega⟩
   · rw [mx',mu' u hu]; omega
   · rw [mx,mu u hu,if_neg (by simp [hr])]; omega
   · rw [mu' i hi1,mu' j hj1]
     have:=ml i hi1; have:=ml j hj1
     have:M i≠M j:=fun he=>hij (inj i hi1 j hj1 he)
     omega
 · have hD' : ∀ u∈A,r u x=false:=fun u hu=>by
    cases hc:r u x with
    | false=>rfl
    | true=>exact absurd ⟨u,hu,hc⟩ hD
   obtain ⟨M,hM⟩ : ∃ M:Nat→Nat,M=fun u=>if u=x then N else if r x u then N+1+A.idxOf u else A.idxOf u:=⟨_,rfl⟩
   obtain ⟨M',hM'⟩ : ∃ M' : Nat→Nat,M' = fun u=>if u=x then 0 else 3*N+8-M u:=⟨_,rfl⟩
   have mx:M x=N:=by rw [hM]; simp
   have mx' : M' x=0:=by rw [hM']; simp
   have mu : ∀ u∈A,M u=if r x u then N+1+A.idxOf u else A.idxOf u:=fun u hu=>by rw [hM]; exact if_neg (hne u hu)
   have mu' : ∀ u∈A,M' u=3*N+8-M u:=fun u hu=>by rw [hM']; exact if_neg (hne u hu)
   have ml : ∀ u∈A,M u≤2*N+1:=fun u hu=>by rw [mu u hu]; have:=hi u hu; split <;> omega
   have inj : ∀ i∈A,∀ j∈A,M i=M j→i=j:=fun i hi1 j hj1 he=>by
    rw [mu i hi1,mu j hj1] at he
    have:=hi i hi1; have:=hi j hj1
    refine hidx i hi1 j hj1 ?_
    split at he <;> split at he <;> omega
   have nx : ∀ u∈A,M u≠N:=fun u hu=>by rw [mu u hu]; have:=hi u hu; split <;> omega
   refine fin M M' (fun i hi1 j hj1 he=>?_) (fun i hi1 j hj1 he=>?_) (fun u hu hr=>?_) (fun u hu hr=>?_) (fun u hu hr=>.inl ?_) (fun u hu hr=>.inr ?_) fun i hi1 j hj1 hij=>?_
   · rw [List.mem_cons] at hi1
     rcases hi1 with rfl | hi1
     · rw [List.mem_cons] at hj1
       rcases hj1 with rfl | hj1
       · rfl
       · rw [mx] at he; exact absurd he.symm (nx j hj1)
     · rw [List.mem_cons] at hj1
       rcases hj1 with rfl | hj1
       · rw [mx] at he; exact absurd he (nx i hi1)
       · exact inj i hi1 j hj1 he
   · rw [List.mem_cons] at hi1
     rcases hi1 with rfl | hi1
     · rw [List.mem_cons] at hj1
       rcases hj1 with rfl | hj1
       · rfl
       · rw [mx',mu' j hj1] at he; have:=ml j hj1; omega
     · rw [List.mem_cons] at hj1
       rcases hj1 with rfl | hj1
       · rw [mx',mu' i hi1] at he; have:=ml i hi1; omega
       · rw [mu' i hi1,mu' j hj1] at he
         have:=ml i hi1; have:=ml j hj1
         exact inj i hi1 j hj1 (by omega)
   · rw [mx,mx',mu' u hu,mu u hu,if_pos hr]; have:=hi u hu; exact ⟨by omega,by omega⟩
   · rw [hD' u hu] at hr; cases hr
   · rw [mx,mu u hu,if_neg (by simp [hr])]; exact hi u hu
   · rw [mx',mu' u hu]; have:=ml u hu; omega
   · rw [mu' i hi1,mu' j hj1]
     have:=ml i hi1; have:=ml j hj1
     have:M i≠M j:=fun he=>hij (inj i hi1 j hj1 he)
     omega
theorem dim_le {r:Nat→Nat→Bool} (h:Po r) {S:List Nat} (hS:S.Nodup) (hl:S.length≤6) (h0:S≠[]) : ∃ A Ks,Ant r S A∧Rlz r S Ks∧1≤Ks.length∧Ks.length≤3∧Ks.length≤A.length:=by
 obtain ⟨A,f,ha,hf⟩:=dilworth h _ S (Nat.le_refl _) hS
 have hA1:1≤A.length:=by
  obtain ⟨x,hx⟩:=List.exists_mem_of_ne_nil _ h0
  have:=hf.lt x hx; omega
 by_cases h3:A.length≤3
 · obtain ⟨Ks,hk,hkl⟩:=rlz_chains h hS hf
   exact ⟨A,Ks,ha,hk,by omega,by omega,by omega⟩
 · obtain ⟨R,hR⟩ : ∃ R,R=S.filter fun z=>!A.contains z:=⟨_,rfl⟩
   have hRm : ∀ z,z∈R↔z∈S∧z ∉ A:=fun z=>by rw [hR,List.mem_filter]; simp
   have hRn:R.Nodup:=by rw [hR]; exact hS.filter _
   have hlen:A.length+R.length≤S.length:=by
    rw [← List.length_append]
    refine sub_len (List.nodup_append.2 ⟨ha.nd,hRn,fun a h1 b h2 he=>?_⟩) fun z hz=>?_
    · subst he; exact ((hRm _).1 h2).2 h1
    · rcases List.mem_append.1 hz with hz | hz
      · exact ha.sub z hz
      · exact ((hRm _).1 hz).1
   have split : ∀ z,z∈S→z∈A∨z∈R:=fun z hz=>by
    by_cases hc:z∈A
    · exact .inl hc
    · exact .inr ((hRm _).2 ⟨hz,hc⟩)
   clear hR
   rcases R with _ | ⟨x,_ | ⟨y,_ | ⟨c,R'⟩⟩⟩
   · obtain ⟨x,A',rfl⟩:=List.exists_cons_of_ne_nil (List.ne_nil_of_length_pos hA1)
     obtain ⟨h1,h2⟩:=List.nodup_cons.1 ha.nd
     obtain ⟨K1,K2,hk⟩:=rlz_anti h h1 h2 fun a h3 b h4=>ha.an a (by simp [h3]) b (by simp [h4])
     exact ⟨_,_,ha,hk.sub fun z hz=>(split z hz).elim id fun h=>(by cases h),by simp,by simp,by simp at h3 ⊢; omega⟩
   · obtain ⟨K1,K2,hk⟩:=rlz_anti h ((hRm x).1 (List.mem_singleton.2 rfl)).2 ha.nd ha.an
     exact ⟨_,_,ha,hk.sub fun z hz=>(split z hz).elim (fun h=>by simp [h]) fun h=>(by rw [List.mem_singleton.1 h]; simp),by simp,by simp,by simp; omega⟩
   · obtain ⟨K1,K2,hk⟩:=rlz_anti h ((hRm x).1 (by simp)).2 ha.nd ha.an
     have hy:y ∉ x::A:=fun hc=>by
      rcases List.mem_cons.1 hc with hc | hc
      · simp [hc] at hRn
      · exact ((hRm y).1 (by simp)).2 hc
     obtain ⟨Ks,hk3,hl3⟩:=rlz_insert h hy hk
     refine ⟨_,Ks,ha,hk3.sub fun z hz=>?_,by simp [hl3],by simp [hl3],by simp at hl3; omega⟩
     rcases split z hz with h4 | h4
     · simp [h4]
     · rcases List.mem_cons.1 h4 with rfl | h4
       · simp
       · rw [List.mem_singleton.1 h4]; simp
   · simp only [List.length_cons] at hlen; omega
end Ord
namespace Ord
open Go.Am
def srch (P:List Nat→Bool) (N d:Nat):Nat→Nat→List Nat→Option (List Nat)
 | 0,_,pre=>if P pre=true then some pre else none
 | s+1,fr,pre=>(List.range' fr (N-fr)).findSome? fun k=>srch P N d s (k+d) (pre++[k])
def Cmp (N d:Nat):Nat→List Nat→Prop
 | _,[]=>True
 | fr,k::t=>fr≤k∧k<N∧Cmp N d (k+d) t
theorem Cmp.low {N d:Nat} : ∀ {t:List Nat} {a b:Nat},a≤b→Cmp N d b t→Cmp N d a t
 | [],_,_,_,_=>trivial
 | k::t,a,b,hab,h=>⟨Nat.le_trans hab h.1,h.2⟩
theorem Cmp.lt {N d:Nat} : ∀ {t:List Nat} {a:Nat},Cmp N d a t→∀ k∈t,a≤k∧k<N
 | [],_,_,_,h=>by cases h
 | m::t,a,h,k,hk=>by
   rcases List.mem_cons.1 hk with rfl | hk
   · exact ⟨h.1,h.2.1⟩
   · have:=Cmp.lt h.2.2 k hk; have:=h.1; omega
section
variable {P:List Nat→Bool} {N d:Nat}
theorem srch_some : ∀ {s fr:Nat} {pre q:List Nat},srch P N d s fr pre=some q→∃ t,q=pre++t∧t.length=s∧Cmp N d fr t∧P q=true
 | 0,fr,pre,q,h=>by
   rw [srch] at h
   split at h
   · rename_i hp
     cases h
     exact ⟨[],by simp,rfl,trivial,hp⟩
   · cases h
 | s+1,fr,pre,q,h=>by
   rw [srch] at h
   obtain ⟨k,hk,h2⟩:=List.exists_of_findSome?_eq_some h
   obtain ⟨t,h3,h4,h5,h6⟩:=srch_some h2
   have hk2:=List.mem_range'_1.1 hk
   exact ⟨k::t,by rw [h3]; simp,by simp [h4],⟨hk2.1,by omega,h5⟩,h6⟩
theorem srch_none : ∀ {s fr:Nat} {pre:List Nat},srch P N d s fr pre=none→∀ t,t.length=s→Cmp N d fr t→P (pre++t)=false
 | 0,fr,pre,h,t,ht,_=>by
   obtain rfl:=List.length_eq_zero_iff.1 ht
   rw [srch] at h
   split at h
   · cases h
   · rename_i hp
     simpa using hp
 | s+1,fr,pre,h,t,ht,hc=>by
   match t,ht,hc with
   | k::t,ht,hc =>
     rw [srch,List.findSome?_eq_none_iff] at h
     have:=srch_none (h k (List.mem_range'_1.2 ⟨hc.1,by have:=hc.1; have:=hc.2.1; omega⟩)) t (by simpa using ht) hc.2.2
     rw [← this]; simp
end
theorem cmp_filter {N:Nat} (p:Nat→Bool) : ∀ (n fr:Nat),fr+n≤N→Cmp N 1 fr ((List.range' fr n).filter p)
 | 0,_,_=>trivial
 | n+1,fr,h=>by
   rw [List.range'_succ,List.filter_cons]
   have:=cmp_filter (N:=N) p n (fr+1) (by omega)
   split
   · exact ⟨Nat.le_refl _,by omega,this⟩
   · exact this.low (Nat.le_succ fr)
theorem sorted_of {N:Nat} {ks:List Nat} (h : ∀ k∈ks,k<N) : ∃ t,Cmp N 1 0 t∧(∀ x,x∈t↔x∈ks)∧t.length≤ks.length:=by
 have hm : ∀ x,x∈(List.range' 0 N).filter (fun x=>ks.contains x)↔x∈ks:=fun x=>by
  rw [List.mem_filter,List.mem_range'_1,List.contains_iff_mem]
  exact ⟨fun h=>h.2,fun hx=>⟨⟨Nat.zero_le _,by have:=h x hx; omega⟩,hx⟩⟩
 exact ⟨_,cmp_filter (N:=N) _ N 0 (by omega),hm,sub_len ((List.nodup_range' (step:=1)).filter _) fun a ha=>(hm a).1 ha⟩
def Xl (P:List Nat→Bool) (N d:Nat):Nat→Option (List Nat)
 | 0=>none
 | s+1=>(Xl P N d s).or (srch P N d (s+1) 0 [])
def Mem (P:List Nat→Bool):Prop:=∀ a b:List Nat,(∀ x,x∈a↔x∈b)→P a=P b
theorem Vp {P:List Nat→Bool} {N d:Nat} : ∀ {s:Nat},Xl P N d s=none→∀ t,1≤t.length→t.length≤s→Cmp N d 0 t→P t=false
 | 0,_,t,h1,h2,_=>by omega
 | s+1,h,t,h1,h2,hc=>by
   rw [Xl,Option.or_eq_none_iff] at h
   by_cases hl:t.length=s+1
   · have:=srch_none h.2 t hl hc
     simpa using this
   · exact Vp h.1 t h1 (by omega) hc
/-! ### Realizers -/
/-- All that is not above stands ahead somewhere. -/
def sepB (o:List Int) (pre:List Nat):Bool:=(List.range o.length).all fun i=>(List.range o.length).all fun j=>decide (i=j) || ab o i j || pre.any fun k=>bef ((Yq o).getD k []) j i
theorem sepB_iff {o:List Int} {pre:List Nat}:sepB o pre=true↔∀ i j,i<o.length→j<o.length→i≠j→ab o i j=false→∃ k∈pre,bef ((Yq o).getD k []) j i=true:=by
 simp only [sepB,List.all_eq_true,List.mem_range,Bool.or_eq_true,decide_eq_true_eq,List.any_eq_true]
 constructor
 · intro h i j hi hj hne hab
   rcases h i hi j hj with (h1 | h1) | h1
   · exact absurd h1 hne
   · rw [hab] at h1; cases h1
   · exact h1
 · intro h i hi j hj
   by_cases h1:i=j
   · exact .inl (.inl h1)
   · cases h2:ab o i j with
     | true=>exact .inl (.inr rfl)
     | false=>exact .inr (h i j hi hj h1 h2)
theorem sepB_mem (o:List Int):Mem (sepB o):=fun a b h=>by
 rw [Bool.eq_iff_iff,sepB_iff,sepB_iff]
 simp only [h]
def Ve (o:List Int):List Nat:=((Xl (sepB o) (cn o) 1 3).getD [])
theorem key_line {o:List Int} (ho:ord o=true) {K:Nat→Nat} (hK:Key (ab o) (List.range o.length) K) : ∃ k,k<cn o∧∀ i j,i<o.length→j<o.length→K i<K j→bef ((Yq o).getD k []) i j=true:=by
 obtain ⟨rK,hrK⟩ : ∃ rK:Nat→Nat→Bool,rK=fun i j=>decide (K i<K j):=⟨_,rfl⟩
 have hr : ∀ i j,rK i j=true↔K i<K j:=fun i j=>by rw [hrK]; exact decide_eq_true_iff
 have hpo:Po rK:=⟨fun i=>by rw [← Bool.not_eq_true,hr]; omega,fun i j k h1 h2=>by rw [hr] at h1 h2 ⊢; omega⟩
 have hp:=cnt_pos hpo (k:=o.length) (S:=List.range o.length) (by simp)
 rw [← cnt_len] at hp
 obtain ⟨l,hl⟩:=List.exists_mem_of_ne_nil _ (List.ne_nil_of_length_pos hp)
 obtain ⟨h1,h2⟩:=(Wz hpo.irr (by simp) l).1 hl
 have hla:l∈Yq o:=(mem_all ho).2 ⟨h1,h2.imp_of_mem fun {a b} ha hb hab=>by
  cases hc:ab o b a with
  | false=>rfl
  | true =>
    have:=hK.mono b (h1.mem_iff.1 hb) a (h1.mem_iff.1 ha) hc
    rw [(hr b a).2 this] at hab; cases hab⟩
 obtain ⟨k,hk,he⟩:=List.mem_iff_getElem.1 hla
 rw [Xj] at hk
 refine ⟨k,hk,fun i j hi hj hij=>?_⟩
 have hg:(Yq o).getD k []=l:=by rw [List.getD,List.getElem?_eq_getElem (by rw [Xj]; exact hk),he]; rfl
 rw [hg]
 have hn:l.Nodup:=h1.nodup_iff.2 List.nodup_range
 have hil:i∈l:=h1.mem_iff.2 (List.mem_range.2 hi)
 have hjl:j∈l:=h1.mem_iff.2 (List.mem_range.2 hj)
 cases hc:bef l i j with
 | true=>rfl
 | false =>
   have hne:i≠j:=by rintro rfl; omega
   rw [bef_not hjl hil hne.symm] at hc
   have:=(bef_pw hn).1 h2 j hjl i hil (by simpa using hc)
   rw [(hr i j).2 hij] at this; cases this
theorem real_ex {o:List Int} (ho:ord o=true) : ∃ A t,Ant (ab o) (List.range o.length) A∧Cmp (cn o) 1 0 t∧1≤t.length∧t.length≤3∧t.length≤max 1 A.length∧sepB o t=true:=by
 have hl:=Yu ho
 obtain ⟨A,Ks,ha,hk,h1,h3,hA⟩:=dim_le (ord_po ho) (S:=List.range o.length) List.nodup_range (by simp; omega) (List.ne_nil_of_length_pos (by simp; omega))
 have hks : ∀ Ks' : List (Nat→Nat),(∀ K∈Ks',Key (ab o) (List.range o.length) K)→∃ ks:List Nat,ks.length=Ks'.length∧(∀ k∈ks,k<cn o)∧∀ K∈Ks',∃ k∈ks,∀ i j,i<o.length→j<o.length→K i<K j→bef ((Yq o).getD k []) i j=true:=fun Ks'=>by
  induction Ks' with
  | nil=>intro _; exact ⟨[],rfl,fun _ h=>(by cases h),fun _ h=>by cases h⟩
  | cons K Ks' ih =>
    intro h
    obtain ⟨ks,g1,g2,g3⟩:=ih fun K hK=>h K (by simp [hK])
    obtain ⟨k,g4,g5⟩:=key_line ho (h K (by simp))
    refine ⟨k::ks,by simp [g1],fun x hx=>?_,fun K' hK'=>?_⟩
    · rcases List.mem_cons.1 hx with rfl | hx
      · exact g4
      · exact g2 x hx
    · rcases List.mem_cons.1 hK' with rfl | hK'
      · exact ⟨k,by simp,g5⟩
      · obtain ⟨k',g6,g7⟩:=g3 K' hK'
        exact ⟨k',by simp [g6],g7⟩
 obtain ⟨ks,g1,g2,g3⟩:=hks Ks hk.key
 obtain ⟨t,t1,t2,t3⟩:=sorted_of g2
 have hne:1≤t.length:=by
  obtain ⟨x,hx⟩:=List.exists_mem_of_ne_nil ks (List.ne_nil_of_length_pos (by omega))
  exact List.length_pos_of_mem ((t2 x).2 hx)
 refine ⟨A,t,ha,t1,hne,by omega,by omega,?_⟩
 rw [sepB_mem o t ks t2,sepB_iff]
 intro i j hi hj hne hab
 obtain ⟨K,hK,hlt⟩:=hk.rev i (List.mem_range.2 hi) j (List.mem_range.2 hj) hne hab
 obtain ⟨k,g4,g5⟩:=g3 K hK
 exact ⟨k,g4,g5 j i hj hi hlt⟩
end Ord
namespace Go.Proofs.Tryd.Am
open Go.Am
set_option maxRecDepth 100000
/-! 43: planchet order.Real -/
@[reducible] def q43_0:SCode:=.region [⟨some 2,.assign (.const (.slice none 0 0)),none⟩,
  ⟨some 3,.assign (.const (.int .i64 0)),none⟩]
@[reducible] def q43_1:SCode:=.region [⟨some 7,.move (.tmp 0),none⟩,
  ⟨some 8,.call { callee:=.value (.func 64),args:=#[.tmp 7],argTypes:=#[22] },none⟩,
  ⟨some 6,.move (.tmp 8),none⟩,
  ⟨some 9,.extract (.tmp 6) 0,none⟩,
  ⟨some 10,.extract (.tmp 6) 1,none⟩,
  ⟨some 4,.alloc 77,none⟩,
  ⟨none,.store 77 (.tmp 4) (.tmp 9),none⟩,
  ⟨some 5,.assign (.tmp 10),none⟩]
@[reducible] def q43_2:SCode:=.region [⟨some 11,.move (.tmp 5),none⟩,
  ⟨some 12,.unOp .not 4 (.tmp 11),none⟩]
@[reducible] def q43_3:SCode:=.region [⟨some 2,.assign (.const (.slice none 0 0)),none⟩,
  ⟨some 3,.assign (.const (.int .i64 2)),none⟩]
@[reducible] def q43_4:SCode:=.region [⟨some 13,.load 77 (.tmp 4),none⟩,
  ⟨some 14,.call { callee:=.value (.func 80),args:=#[.tmp 13],argTypes:=#[77] },none⟩,
  ⟨some 2,.assign (.tmp 14),none⟩,
  ⟨some 3,.assign (.const (.int .i64 0)),none⟩]
def s43:SCode:=(.seq q43_0 (.seq q43_1 (.seq (.seq q43_2 (.cond (.tmp 12) (.seq q43_3 .ret) .skip)) (.seq q43_4 .ret))))
theorem s43_strip:Yg (Yf Tryd.f43)=s43:=by kernel_rfl
theorem s43_ok:Yz 15 (Yf Tryd.f43)=true:=by kernel_rfl
theorem s43_call [Tabs Tryd.prog] {args:List Value} {h:Yb} {Q:Value→Yb→Prop} (hsz:args.length≤15) (hk:aw Tryd.prog 15 s43 (Zu Tryd.prog [.tmp 2,.tmp 3] Q) (Zp 0 args) h):ACall Tryd.prog 43 args h Q :=
 Wg Tryd.func43 rfl (enters_of Tryd.func43 (by kernel_rfl) rfl) rfl rfl (by decide) s43_strip s43_ok hsz hk
/-! 44: planchet order.Dim -/
@[reducible] def q44_0:SCode:=.region [⟨some 2,.assign (.const (.int .i64 0)),none⟩,
  ⟨some 3,.assign (.const (.int .i64 0)),none⟩]
@[reducible] def q44_1:SCode:=.region [⟨some 7,.move (.tmp 0),none⟩,
  ⟨some 8,.call { callee:=.value (.func 43),args:=#[.tmp 7],argTypes:=#[22] },none⟩,
  ⟨some 6,.move (.tmp 8),none⟩,
  ⟨some 9,.extract (.tmp 6) 0,none⟩,
  ⟨some 10,.extract (.tmp 6) 1,none⟩,
  ⟨some 4,.assign (.tmp 9),none⟩,
  ⟨some 5,.assign (.tmp 10),none⟩]
@[reducible] def q44_2:SCode:=.region [⟨some 11,.move (.tmp 4),none⟩,
  ⟨some 12,.call { callee:=.builtin .len,args:=#[.tmp 11],argTypes:=#[45] },none⟩,
  ⟨some 13,.move (.tmp 5),none⟩,
  ⟨some 2,.assign (.tmp 12),none⟩,
  ⟨some 3,.assign (.tmp 13),none⟩]
def s44:SCode:=(.seq q44_0 (.seq q44_1 (.seq q44_2 .ret)))
theorem s44_strip:Yg (Yf Tryd.f44)=s44:=by kernel_rfl
theorem s44_ok:Yz 14 (Yf Tryd.f44)=true:=by kernel_rfl
theorem s44_call [Tabs Tryd.prog] {args:List Value} {h:Yb} {Q:Value→Yb→Prop} (hsz:args.length≤14) (hk:aw Tryd.prog 14 s44 (Zu Tryd.prog [.tmp 2,.tmp 3] Q) (Zp 0 args) h):ACall Tryd.prog 44 args h Q :=
 Wg Tryd.func44 rfl (enters_of Tryd.func44 (by kernel_rfl) rfl) rfl rfl (by decide) s44_strip s44_ok hsz hk
/-! 80: (planchet order.order).realizer -/
@[reducible] def q80_0:SCode:=.region [⟨some 1,.box 77 (.tmp 0),none⟩,
  ⟨some 2,.assign (.const (.slice none 0 0)),none⟩]
@[reducible] def q80_1:SCode:=.region [⟨some 15,.load 77 (.tmp 1),none⟩,
  ⟨some 16,.call { callee:=.value (.func 75),args:=#[.tmp 15],argTypes:=#[77] },none⟩,
  ⟨some 3,.alloc 45,none⟩,
  ⟨none,.store 45 (.tmp 3) (.tmp 16),none⟩]
@[reducible] def q80_2:SCode:=.region [⟨some 4,.alloc 120,none⟩]
@[reducible] def q80_3:SCode:=.region [⟨some 17,.load 45 (.tmp 3),none⟩,
  ⟨some 18,.call { callee:=.builtin .len,args:=#[.tmp 17],argTypes:=#[45] },none⟩,
  ⟨some 19,.move (.const (.int .i64 0)),none⟩]
@[reducible] def q80_4:SCode:=.region [⟨some 20,.binOp .lss 3 (.tmp 19) (.tmp 18) 3,none⟩]
@[reducible] def q80_5:SCode:=.region [⟨some 21,.indexAddr 45 (.tmp 17) (.tmp 19),none⟩,
  ⟨some 22,.load 22 (.tmp 21),none⟩,
  ⟨some 6,.assign (.tmp 22),none⟩]
def q80_6:SCode:=.draw [⟨some 23,.load 120 (.tmp 4),none⟩,
    ⟨some 24,.move (.tmp 6),none⟩,
    ⟨some 25,.call { callee:=.value (.func 105),args:=#[.tmp 24],argTypes:=#[22] },none⟩,
    ⟨some 26,.buildSlice 120 1 #[(0,.tmp 25)],none⟩,
    ⟨some 27,.call { callee:=.builtin .append,args:=#[.tmp 23,.tmp 26],argTypes:=#[120,120] },none⟩,
    ⟨none,.store 120 (.tmp 4) (.tmp 27),none⟩]
  [[],[],[1],[2],[0,3,2],[4,4,0,1,2,3,4]]
@[reducible] def q80_7:SCode:=.region [⟨some 28,.binOp .add 3 (.tmp 19) (.const (.int .i64 1)) 3,none⟩,
  ⟨some 19,.move (.tmp 28),none⟩]
def l80_0:SCode:=(.seq q80_4 (.seq (.cond (.tmp 20) .skip (.exit 0)) (.seq (.block 1 (.seq q80_5 q80_6)) q80_7)))
@[reducible] def q80_8:SCode:=.region [⟨some 7,.alloc 22,none⟩]
@[reducible] def q80_9:SCode:=.region [⟨some 8,.alloc 123,none⟩]
@[reducible] def q80_10:SCode:=.region [⟨some 29,.makeFunc (.func 106) #[] #[.tmp 1,.tmp 3,.tmp 4,.tmp 7,.tmp 8],none⟩,
  ⟨none,.store 123 (.tmp 8) (.tmp 29),none⟩]
@[reducible] def q80_11:SCode:=.region [⟨some 9,.alloc 121,none⟩]
@[reducible] def q80_12:SCode:=.region [⟨some 30,.fieldAddr 77 (.tmp 1) 0,none⟩,
  ⟨some 31,.load 3 (.tmp 30),none⟩,
  ⟨some 32,.move (.const (.int .i64 0)),none⟩]
@[reducible] def q80_13:SCode:=.region [⟨some 33,.binOp .lss 3 (.tmp 32) (.tmp 31) 3,none⟩]
@[reducible] def q80_14:SCode:=.region [⟨some 34,.move (.tmp 32),none⟩,
  ⟨some 10,.assign (.tmp 34),none⟩]
@[reducible] def q80_15:SCode:=.region [⟨some 35,.move (.tmp 10),none⟩,
  ⟨some 36,.load 77 (.tmp 1),none⟩,
  ⟨some 37,.call { callee:=.value (.func 98),args:=#[.tmp 36],argTypes:=#[77] },none⟩,
  ⟨some 38,.indexAddr 121 (.tmp 9) (.tmp 35),none⟩,
  ⟨none,.store 3 (.tmp 38) (.tmp 37),none⟩]
@[reducible] def q80_16:SCode:=.region [⟨some 39,.binOp .add 3 (.tmp 32) (.const (.int .i64 1)) 3,none⟩,
  ⟨some 32,.move (.tmp 39),none⟩]
def l80_1:SCode:=(.seq q80_13 (.seq (.cond (.tmp 33) .skip (.exit 2)) (.seq (.block 3 (.seq q80_14 q80_15)) q80_16)))
@[reducible] def q80_17:SCode:=.region [⟨some 11,.assign (.const (.int .i64 1)),none⟩]
@[reducible] def q80_18:SCode:=.region [⟨some 40,.load 123 (.tmp 8),none⟩,
  ⟨some 41,.move (.tmp 11),none⟩,
  ⟨some 42,.load 121 (.tmp 9),none⟩,
  ⟨some 43,.call { callee:=.value (.tmp 40),args:=#[.const (.int .i64 0),.tmp 41,.tmp 42],argTypes:=#[3,3,121] },none⟩,
  ⟨some 44,.unOp .not 4 (.tmp 43),none⟩]
@[reducible] def q80_20:SCode:=.region [⟨none,.store 22 (.tmp 7) (.const (.slice none 0 0)),none⟩]
@[reducible] def q80_19:SCode:=.region [⟨some 45,.move (.tmp 11),none⟩,
  ⟨some 46,.binOp .add 3 (.tmp 45) (.const (.int .i64 1)) 3,none⟩,
  ⟨some 11,.assign (.tmp 46),none⟩]
def l80_2:SCode:=(.seq (.seq q80_18 (.cond (.tmp 44) .skip (.exit 4))) (.seq (.block 5 q80_20) q80_19))
@[reducible] def q80_21:SCode:=.region [⟨some 12,.assign (.const (.slice none 0 0)),none⟩]
@[reducible] def q80_22:SCode:=.region [⟨some 47,.load 22 (.tmp 7),none⟩,
  ⟨some 48,.call { callee:=.builtin .len,args:=#[.tmp 47],argTypes:=#[22] },none⟩,
  ⟨some 49,.move (.const (.int .i64 0)),none⟩]
@[reducible] def q80_23:SCode:=.region [⟨some 50,.binOp .lss 3 (.tmp 49) (.tmp 48) 3,none⟩]
@[reducible] def q80_24:SCode:=.region [⟨some 51,.indexAddr 22 (.tmp 47) (.tmp 49),none⟩,
  ⟨some 52,.load 3 (.tmp 51),none⟩,
  ⟨some 14,.assign (.tmp 52),none⟩]
@[reducible] def q80_25:SCode:=.region [⟨some 53,.move (.tmp 12),none⟩,
  ⟨some 54,.load 45 (.tmp 3),none⟩,
  ⟨some 55,.move (.tmp 14),none⟩,
  ⟨some 56,.indexAddr 45 (.tmp 54) (.tmp 55),none⟩,
  ⟨some 57,.load 22 (.tmp 56),none⟩,
  ⟨some 58,.buildSlice 45 1 #[(0,.tmp 57)],none⟩,
  ⟨some 59,.call { callee:=.builtin .append,args:=#[.tmp 53,.tmp 58],argTypes:=#[45,45] },none⟩,
  ⟨some 12,.assign (.tmp 59),none⟩]
@[reducible] def q80_26:SCode:=.region [⟨some 60,.binOp .add 3 (.tmp 49) (.const (.int .i64 1)) 3,none⟩,
  ⟨some 49,.move (.tmp 60),none⟩]
def l80_3:SCode:=(.seq q80_23 (.seq (.cond (.tmp 50) .skip (.exit 6)) (.seq (.block 7 (.seq q80_24 q80_25)) q80_26)))
@[reducible] def q80_27:SCode:=.region [⟨some 61,.move (.tmp 12),none⟩,
  ⟨some 2,.assign (.tmp 61),none⟩]
def s80:SCode:=(.seq q80_0 (.seq q80_1 (.seq q80_2 (.seq (.seq q80_3 (.block 0 (.loop l80_0))) (.seq q80_8 (.seq q80_9 (.seq q80_10 (.seq q80_11 (.seq (.seq q80_12 (.block 2 (.loop l80_1))) (.seq (.seq q80_17 (.block 4 (.loop l80_2))) (.seq q80_21 (.seq (.seq q80_22 (.block 6 (.loop l80_3))) (.seq q80_27 .ret)))))))))))))
theorem s80_strip:Yg (Yf Tryd.f80)=s80:=by kernel_rfl
theorem s80_ok:Yz 62 (Yf Tryd.f80)=true:=by kernel_rfl
/-! 105: planchet order.behind -/
@[reducible] def q105_0:SCode:=.region [⟨some 2,.alloc 121,none⟩]
@[reducible] def q105_1:SCode:=.region [⟨some 3,.alloc 121,none⟩]
@[reducible] def q105_2:SCode:=.region [⟨some 8,.move (.tmp 0),none⟩,
  ⟨some 9,.call { callee:=.builtin .len,args:=#[.tmp 8],argTypes:=#[22] },none⟩,
  ⟨some 10,.move (.const (.int .i64 0)),none⟩]
@[reducible] def q105_3:SCode:=.region [⟨some 11,.binOp .lss 3 (.tmp 10) (.tmp 9) 3,none⟩]
@[reducible] def q105_4:SCode:=.region [⟨some 12,.move (.tmp 10),none⟩,
  ⟨some 13,.indexAddr 22 (.tmp 8) (.tmp 10),none⟩,
  ⟨some 14,.load 3 (.tmp 13),none⟩,
  ⟨some 4,.assign (.tmp 12),none⟩,
  ⟨some 5,.assign (.tmp 14),none⟩]
@[reducible] def q105_5:SCode:=.region [⟨some 15,.move (.tmp 0),none⟩,
  ⟨some 16,.move (.tmp 4),none⟩,
  ⟨some 17,.binOp .add 3 (.tmp 16) (.const (.int .i64 1)) 3,none⟩,
  ⟨some 18,.slice 22 (.tmp 15) (some (.tmp 17)) none none,none⟩,
  ⟨some 19,.call { callee:=.builtin .len,args:=#[.tmp 18],argTypes:=#[22] },none⟩,
  ⟨some 20,.move (.const (.int .i64 0)),none⟩]
@[reducible] def q105_6:SCode:=.region [⟨some 21,.binOp .lss 3 (.tmp 20) (.tmp 19) 3,none⟩]
@[reducible] def q105_7:SCode:=.region [⟨some 22,.indexAddr 22 (.tmp 18) (.tmp 20),none⟩,
  ⟨some 23,.load 3 (.tmp 22),none⟩,
  ⟨some 7,.assign (.tmp 23),none⟩]
def q105_8:SCode:=.draw [⟨some 24,.move (.tmp 5),none⟩,
    ⟨some 25,.indexAddr 121 (.tmp 3) (.tmp 24),none⟩,
    ⟨some 26,.load 3 (.tmp 25),none⟩,
    ⟨some 27,.move (.tmp 7),none⟩,
    ⟨some 28,.binOp .shl 3 (.const (.int .i64 1)) (.tmp 27) 3,none⟩,
    ⟨some 29,.binOp .or 3 (.tmp 26) (.tmp 28) 3,none⟩,
    ⟨some 30,.indexAddr 121 (.tmp 3) (.tmp 24),none⟩,
    ⟨none,.store 3 (.tmp 30) (.tmp 29),none⟩]
  [[],[0],[1],[],[3],[2,4],[0,0,1,2,3,4,5],[6,5,0,1,2,3,4,5]]
@[reducible] def q105_9:SCode:=.region [⟨some 31,.binOp .add 3 (.tmp 20) (.const (.int .i64 1)) 3,none⟩,
  ⟨some 20,.move (.tmp 31),none⟩]
def l105_0:SCode:=(.seq q105_6 (.seq (.cond (.tmp 21) .skip (.exit 2)) (.seq (.block 3 (.seq q105_7 q105_8)) q105_9)))
@[reducible] def q105_10:SCode:=.region [⟨some 32,.binOp .add 3 (.tmp 10) (.const (.int .i64 1)) 3,none⟩,
  ⟨some 10,.move (.tmp 32),none⟩]
def l105_1:SCode:=(.seq q105_3 (.seq (.cond (.tmp 11) .skip (.exit 0)) (.seq (.block 1 (.seq q105_4 (.seq q105_5 (.block 2 (.loop l105_0))))) q105_10)))
@[reducible] def q105_11:SCode:=.region [⟨some 33,.load 121 (.tmp 3),none⟩,
  ⟨none,.store 121 (.tmp 2) (.tmp 33),none⟩]
def s105:SCode:=(.seq q105_0 (.seq q105_1 (.seq (.seq q105_2 (.block 0 (.loop l105_1))) (.seq q105_11 .ret))))
theorem s105_strip:Yg (Yf Tryd.f105)=s105:=by kernel_rfl
theorem s105_ok:Yz 34 (Yf Tryd.f105)=true:=by kernel_rfl
/-! 106: (planchet order.order).realizer$1 -/
@[reducible] def q106_0:SCode:=.region [⟨some 10,.box 121 (.tmp 2),none⟩,
  ⟨some 11,.assign (.const (.bool false)),none⟩]
@[reducible] def q106_1:SCode:=.region [⟨some 15,.move (.tmp 1),none⟩,
  ⟨some 16,.binOp .eql 3 (.tmp 15) (.const (.int .i64 0)) 3,none⟩]
@[reducible] def q106_2:SCode:=.region [⟨some 17,.load 121 (.tmp 10),none⟩,
  ⟨some 18,.fieldAddr 77 (.tmp 3) 1,none⟩,
  ⟨some 19,.load 75 (.tmp 18),none⟩,
  ⟨some 20,.binOp .eql 121 (.tmp 17) (.tmp 19) 121,none⟩,
  ⟨some 11,.assign (.tmp 20),none⟩]
@[reducible] def q106_3:SCode:=.region [⟨some 21,.move (.tmp 0),none⟩,
  ⟨some 12,.assign (.tmp 21),none⟩]
@[reducible] def q106_4:SCode:=.region [⟨some 22,.move (.tmp 12),none⟩,
  ⟨some 23,.load 45 (.tmp 4),none⟩,
  ⟨some 24,.call { callee:=.builtin .len,args:=#[.tmp 23],argTypes:=#[45] },none⟩,
  ⟨some 25,.binOp .lss 3 (.tmp 22) (.tmp 24) 3,none⟩]
@[reducible] def q106_6:SCode:=.region [⟨some 28,.load 121 (.tmp 10),none⟩,
  ⟨some 13,.alloc 121,none⟩,
  ⟨none,.store 121 (.tmp 13) (.tmp 28),none⟩]
@[reducible] def q106_7:SCode:=.region [⟨some 29,.move (.const (.int .i64 0)),none⟩]
@[reducible] def q106_8:SCode:=.region [⟨some 30,.binOp .lss 3 (.tmp 29) (.const (.int .i64 6)) 3,none⟩]
@[reducible] def q106_9:SCode:=.region [⟨some 31,.move (.tmp 29),none⟩,
  ⟨some 14,.assign (.tmp 31),none⟩]
def q106_10:SCode:=.draw [⟨some 32,.move (.tmp 14),none⟩,
    ⟨some 33,.indexAddr 121 (.tmp 13) (.tmp 32),none⟩,
    ⟨some 34,.load 3 (.tmp 33),none⟩,
    ⟨some 35,.load 120 (.tmp 5),none⟩,
    ⟨some 36,.move (.tmp 12),none⟩,
    ⟨some 37,.move (.tmp 14),none⟩,
    ⟨some 38,.indexAddr 120 (.tmp 35) (.tmp 36),none⟩,
    ⟨some 39,.indexAddr 121 (.tmp 38) (.tmp 37),none⟩,
    ⟨some 40,.load 3 (.tmp 39),none⟩,
    ⟨some 41,.binOp .and 3 (.tmp 34) (.tmp 40) 3,none⟩,
    ⟨some 42,.indexAddr 121 (.tmp 13) (.tmp 32),none⟩,
    ⟨none,.store 3 (.tmp 42) (.tmp 41),none⟩]
  [[],[0],[1],[],[],[],[3,4],[6,5],[7],[2,8],[0,0,1,2,3,4,5,6,7,8,9],[10,9,0,1,2,3,4,5,6,7,8,9]]
@[reducible] def q106_11:SCode:=.region [⟨some 43,.binOp .add 3 (.tmp 29) (.const (.int .i64 1)) 3,none⟩,
  ⟨some 29,.move (.tmp 43),none⟩]
def l106_0:SCode:=(.seq q106_8 (.seq (.cond (.tmp 30) .skip (.exit 2)) (.seq (.block 3 (.seq q106_9 q106_10)) q106_11)))
@[reducible] def q106_12:SCode:=.region [⟨some 44,.move (.tmp 1),none⟩,
  ⟨some 45,.binOp .eql 3 (.tmp 44) (.const (.int .i64 1)) 3,none⟩,
  ⟨some 46,.move (.tmp 45),none⟩,
  ⟨some 47,.load 121 (.tmp 13),some (46,true)⟩,
  ⟨some 48,.fieldAddr 77 (.tmp 3) 1,some (46,true)⟩,
  ⟨some 49,.load 75 (.tmp 48),some (46,true)⟩,
  ⟨some 50,.binOp .neq 121 (.tmp 47) (.tmp 49) 121,some (46,true)⟩,
  ⟨some 51,.pick (.tmp 46) (.tmp 50) (.const (.bool false)),none⟩]
@[reducible] def q106_13:SCode:=.region [⟨some 52,.load 22 (.tmp 6),none⟩,
  ⟨some 53,.move (.tmp 12),none⟩,
  ⟨some 54,.buildSlice 22 1 #[(0,.tmp 53)],none⟩,
  ⟨some 55,.call { callee:=.builtin .append,args:=#[.tmp 52,.tmp 54],argTypes:=#[22,22] },none⟩,
  ⟨none,.store 22 (.tmp 6) (.tmp 55),none⟩]
@[reducible] def q106_14:SCode:=.region [⟨some 56,.load 123 (.tmp 7),none⟩,
  ⟨some 57,.move (.tmp 12),none⟩,
  ⟨some 58,.binOp .add 3 (.tmp 57) (.const (.int .i64 1)) 3,none⟩,
  ⟨some 59,.move (.tmp 1),none⟩,
  ⟨some 60,.binOp .sub 3 (.tmp 59) (.const (.int .i64 1)) 3,none⟩,
  ⟨some 61,.load 121 (.tmp 13),none⟩,
  ⟨some 62,.call { callee:=.value (.tmp 56),args:=#[.tmp 58,.tmp 60,.tmp 61],argTypes:=#[3,3,121] },none⟩]
@[reducible] def q106_15:SCode:=.region [⟨some 11,.assign (.const (.bool true)),none⟩]
@[reducible] def q106_16:SCode:=.region [⟨some 63,.load 22 (.tmp 6),none⟩,
  ⟨some 64,.load 22 (.tmp 6),none⟩,
  ⟨some 65,.call { callee:=.builtin .len,args:=#[.tmp 64],argTypes:=#[22] },none⟩,
  ⟨some 66,.binOp .sub 3 (.tmp 65) (.const (.int .i64 1)) 3,none⟩,
  ⟨some 67,.slice 22 (.tmp 63) none (some (.tmp 66)) none,none⟩,
  ⟨none,.store 22 (.tmp 6) (.tmp 67),none⟩]
@[reducible] def q106_5:SCode:=.region [⟨some 26,.move (.tmp 12),none⟩,
  ⟨some 27,.binOp .add 3 (.tmp 26) (.const (.int .i64 1)) 3,none⟩,
  ⟨some 12,.assign (.tmp 27),none⟩]
def l106_1:SCode:=(.seq (.seq q106_4 (.cond (.tmp 25) .skip (.exit 0))) (.seq (.block 1 (.seq q106_6 (.seq (.seq q106_7 (.block 2 (.loop l106_0))) (.seq (.seq q106_12 (.cond (.tmp 51) (.exit 1) .skip)) (.seq q106_13 (.seq (.seq q106_14 (.cond (.tmp 62) (.seq q106_15 .ret) .skip)) q106_16)))))) q106_5))
@[reducible] def q106_17:SCode:=.region [⟨some 11,.assign (.const (.bool false)),none⟩]
def s106:SCode:=(.seq q106_0 (.seq (.seq q106_1 (.cond (.tmp 16) (.seq q106_2 .ret) .skip)) (.seq (.seq q106_3 (.block 0 (.loop l106_1))) (.seq q106_17 .ret))))
theorem s106_strip:Yg (Yf Tryd.f106)=s106:=by kernel_rfl
theorem s106_ok:Yz 68 (Yf Tryd.f106)=true:=by kernel_rfl
end Go.Proofs.Tryd.Am
namespace Go.Proofs.Tryd.Am
open Go.Am Ord
set_option maxRecDepth 100000
set_option maxHeartbeats 2000000
theorem getD_at {L:List Nat} {i:Nat} (hi:i<L.length):L.getD i 0=L[i]:=by rw [List.getD,List.getElem?_eq_getElem hi]; rfl
def bhF (l:List Nat):F6:=fun i=>msk (l.drop (l.idxOf i+1))
def stB (l:List Nat) (k m:Nat):F6:=fun i=>if l.idxOf i<k then msk (l.drop (l.idxOf i+1)) else if l.idxOf i=k then msk ((l.drop (k+1)).take m) else 0
theorem stB_zero (l:List Nat) (i:Nat):stB l 0 0 i=0:=by
 rw [stB,if_neg (Nat.not_lt_zero _)]
 split
 · rfl
 · rfl
theorem stB_next (l:List Nat) (k:Nat):stB l k (l.length-(k+1))=stB l (k+1) 0:=by
 funext i
 simp only [stB]
 rw [List.take_of_length_le (l:=l.drop (k+1)) (by rw [List.length_drop]; omega)]
 by_cases h1:l.idxOf i<k
 · rw [if_pos h1,if_pos (by omega)]
 · rw [if_neg h1]
   by_cases h2:l.idxOf i=k
   · rw [if_pos h2,if_pos (by omega),h2]
   · rw [if_neg h2,if_neg (by omega)]
     split
     · rfl
     · rfl
theorem stB_all (l:List Nat):stB l l.length 0=bhF l:=by
 funext i
 simp only [stB,bhF]
 split
 · rfl
 · rename_i h
   rw [List.drop_eq_nil_of_le (show l.length≤l.idxOf i+1 by omega)]
   split
   · rfl
   · rfl
theorem idx_at {l:List Nat} (hn:l.Nodup) {k:Nat} (hk:k<l.length):l.idxOf (l.getD k 0)=k:=by
 rw [getD_at hk]
 have h1:=List.idxOf_lt_length_of_mem (List.getElem_mem hk)
 have h2:=List.getElem_idxOf h1
 exact (List.nodup_iff_pairwise_ne.1 hn |> fun hp=>by
  rcases Nat.lt_trichotomy (l.idxOf l[k]) k with h3 | h3 | h3
  · exact absurd h2 (List.pairwise_iff_getElem.1 hp _ _ h1 hk h3)
  · exact h3
  · exact absurd h2.symm (List.pairwise_iff_getElem.1 hp _ _ hk h1 h3))
theorem msk_take {L:List Nat} {m:Nat} (hm:m<L.length):msk (L.take (m+1))=msk (L.take m) ||| 2 ^ L.getD m 0:=by
 rw [msk,List.take_succ,List.getElem?_eq_getElem hm,Option.toList_some,List.foldl_append,getD_at hm]; rfl
theorem stB_set {l:List Nat} (hn:l.Nodup) {k m:Nat} (hk:k<l.length) (hm:m<l.length-(k+1)):upd6 (stB l k m) (l.getD k 0) (stB l k m (l.getD k 0) ||| 2 ^ (l.drop (k+1)).getD m 0)=stB l k (m+1):=by
 funext i
 have hi:=idx_at hn hk
 simp only [upd6]
 by_cases h1:i=l.getD k 0
 · rw [if_pos h1]
   subst h1
   simp only [stB,hi,if_neg (Nat.lt_irrefl k),if_true]
   rw [msk_take (by rw [List.length_drop]; exact hm)]
 · rw [if_neg h1]
   simp only [stB]
   by_cases h2:l.idxOf i<k
   · rw [if_pos h2,if_pos h2]
   · rw [if_neg h2,if_neg h2]
     by_cases h3:l.idxOf i=k
     · exfalso
       have h4:l.idxOf i<l.length:=by omega
       have:=List.getElem_idxOf h4
       apply h1
       rw [← this,getD_at hk]
       congr 1
     · rw [if_neg h3,if_neg h3]
theorem castN_get (l:List Nat) (i:Nat):(castN l).getD i 0=((l.getD i 0:Nat):Int):=by
 rw [castN,List.getD,List.getElem?_map,List.getD]; cases l[i]? <;> rfl
theorem castN_drop (l:List Nat) (k:Nat):(castN l).drop k=castN (l.drop k):=by rw [castN,castN,List.map_drop]
theorem msk_lt6 {L:List Nat} (h : ∀ x∈L,x<6):msk L<64:=msk_lt (n:=6) h
theorem stB_lt {l:List Nat} (h6 : ∀ x∈l,x<6) (k m i:Nat):stB l k m i<64:=by
 simp only [stB]
 split
 · exact msk_lt6 fun x hx=>h6 x (List.mem_of_mem_drop hx)
 · split
   · exact msk_lt6 fun x hx=>h6 x (List.mem_of_mem_drop (List.mem_of_mem_take hx))
   · decide
theorem s105_callW [Tabs Tryd.prog] {args:List Value} {h:Yb} {Q:Value→Yb→Prop} (hsz:args.length≤34) (hk:AWS Tryd.prog 34 s105 (Zu Tryd.prog [.cell 2 121] Q) (Zp 0 args) h):ACall Tryd.prog 105 args h Q :=
 Wx Tryd.func105 rfl (enters_of Tryd.func105 (by kernel_rfl) rfl) rfl rfl (by decide) s105_strip s105_ok hsz hk
theorem behind_call [Tabs prog] {h:Yb} {v:Value} {l:List Nat} (hv:OwnSl 3 h v (castN l)) (hn:l.Nodup) (h6 : ∀ x∈l,x<6) (hl:l.length≤6):APure prog 105 [v] h (sixV (bhF l)):=by
 refine ACall.forget (Low.six _) ?_
 obtain ⟨X,hX⟩ : ∃ X:F6→Yb,X=fun f=>h++[Blk.cells (sixC z6) 121 false]++[Blk.cells (sixC f) 121 false]:=⟨_,rfl⟩
 have x2 : ∀ f,(X f)[h.length]? = some (.cells (sixC z6) 121 false):=fun f=>by rw [hX]; simp
 have x3 : ∀ f,(X f)[h.length+1]? = some (.cells (sixC f) 121 false):=fun f=>by rw [hX]; simp
 have xE : ∀ f,Ext (fun _=>False) h (X f):=fun f=>by rw [hX]; simp only [List.append_assoc]; exact Ext.app _ _ _
 have xset : ∀ f g,(X f).set (h.length+1) (.cells (sixC g) 121 false)=X g:=fun f g=>by
  rw [hX]; simp only [List.append_assoc]
  rw [List.set_append_right _ _ (by omega),show h.length+1-h.length=1 by omega]; rfl
 have hvX : ∀ f,OwnSl 3 (X f) v (castN l):=fun f=>hv.ext (S:=fun _=>False) (xE f) (fun _ _=>id)
 refine s105_callW (by simp) ?_
 simp only [s105]
 refine Yc fun N1 hN1=>?_
 simp (maxSteps:=2000000) only [s105,↓Za,↓Zi,↓Zr,↓Ze,↓Zo,↓Zs,↓Zg,↓Zm,↓Zf,↓Zb,↓Zc,↓vdn,vup,Zk,Zn,Zl,Zh,Zj,List.map_cons,List.map_nil,cond_true,cond_false,aop,Zv,Zq,Zp,ev,sput,Zt,Zy,Ya,unK,Zd,Zw,Nat.reduceBEq,Nat.reduceAdd,Int.reduceBEq,Int.reduceBNe,Int.reduceLT,Zu,Zz,tup,tyf,Xr,Ys,zero_121]
 refine hN1 [(0,v),(2,.pointer (some ⟨h.length,0,none⟩))] _ _ ?_ (by simp (maxSteps:=2000000) only [↓Za,↓Zi,↓Zr,↓Ze,↓Zo,↓Zs,↓Zg,↓Zm,↓Zf,↓Zb,↓Zc,↓vdn,vup,Zk,Zn,Zl,Zh,Zj,List.map_cons,List.map_nil,cond_true,cond_false,aop,Zv,Zq,Zp,ev,sput,Zt,Zy,Ya,unK,Zd,Zw,Nat.reduceBEq,Nat.reduceAdd,Int.reduceBEq,Int.reduceBNe,Int.reduceLT,Zu,Zz,tup,tyf])
 clear hN1
 try clear N1
 refine Yc fun N2 hN2=>?_
 simp (maxSteps:=2000000) only [s105,↓Za,↓Zi,↓Zr,↓Ze,↓Zo,↓Zs,↓Zg,↓Zm,↓Zf,↓Zb,↓Zc,↓vdn,vup,Zk,Zn,Zl,Zh,Zj,List.map_cons,List.map_nil,cond_true,cond_false,aop,Zv,Zq,Zp,ev,sput,Zt,Zy,Ya,unK,Zd,Zw,Nat.reduceBEq,Nat.reduceAdd,Int.reduceBEq,Int.reduceBNe,Int.reduceLT,Zu,Zz,tup,tyf,Xr,Ys,zero_121,List.length_append,List.length_singleton]
 have hX0:h++[Blk.cells [.int .i64 0,.int .i64 0,.int .i64 0,.int .i64 0,.int .i64 0,.int .i64 0] 121 false]++[Blk.cells [.int .i64 0,.int .i64 0,.int .i64 0,.int .i64 0,.int .i64 0,.int .i64 0] 121 false]=X (stB l 0 0):=by
  rw [hX]
  show _=h++[Blk.cells (sixC z6) 121 false]++[Blk.cells (sixC (stB l 0 0)) 121 false]
  rw [sixC_congr (g:=z6) fun i _=>stB_zero l i]; rfl
 rw [hX0]
 refine hN2 [(0,v),(2,.pointer (some ⟨h.length,0,none⟩)),(3,.pointer (some ⟨h.length+1,0,none⟩))] _ _ ?_ (by simp (maxSteps:=2000000) only [↓Za,↓Zi,↓Zr,↓Ze,↓Zo,↓Zs,↓Zg,↓Zm,↓Zf,↓Zb,↓Zc,↓vdn,vup,Zk,Zn,Zl,Zh,Zj,List.map_cons,List.map_nil,cond_true,cond_false,aop,Zv,Zq,Zp,ev,sput,Zt,Zy,Ya,unK,Zd,Zw,Nat.reduceBEq,Nat.reduceAdd,Int.reduceBEq,Int.reduceBNe,Int.reduceLT,Zu,Zz,tup,tyf])
 clear hN2
 try clear N2
 refine Yi fun Z hZ=>?_
 refine Yc fun N3 hN3=>?_
 simp (maxSteps:=2000000) only [s105,↓Za,↓Zi,↓Zr,↓Ze,↓Zo,↓Zs,↓Zg,↓Zm,↓Zf,↓Zb,↓Zc,↓vdn,vup,Zk,Zn,Zl,Zh,Zj,List.map_cons,List.map_nil,cond_true,cond_false,aop,Zv,Zq,Zp,ev,sput,Zt,Zy,Ya,unK,Zd,Zw,Nat.reduceBEq,Nat.reduceAdd,Int.reduceBEq,Int.reduceBNe,Int.reduceLT,Zu,Zz,tup,tyf,(hvX (stB l 0 0)).int.len,castN_len]
 refine hN3 [(0,v),(2,.pointer (some ⟨h.length,0,none⟩)),(3,.pointer (some ⟨h.length+1,0,none⟩)),(8,v),(9,Zx l.length),(10,.int .i64 0)] _ _ ?_ (by simp (maxSteps:=2000000) only [↓Za,↓Zi,↓Zr,↓Ze,↓Zo,↓Zs,↓Zg,↓Zm,↓Zf,↓Zb,↓Zc,↓vdn,vup,Zk,Zn,Zl,Zh,Zj,List.map_cons,List.map_nil,cond_true,cond_false,aop,Zv,Zq,Zp,ev,sput,Zt,Zy,Ya,unK,Zd,Zw,Nat.reduceBEq,Nat.reduceAdd,Int.reduceBEq,Int.reduceBNe,Int.reduceLT,Zu,Zz,tup,tyf])
 clear hN3
 try clear N3
 refine Yr ?_
 refine Yn fun Q hQ=>?_
 refine We (γ:=Nat) (fun k=>k≤l.length) (fun k=>([(0,v),(2,.pointer (some ⟨h.length,0,none⟩)),(3,.pointer (some ⟨h.length+1,0,none⟩)),(8,v),(9,Zx l.length),(10,Zx (k:Nat))],X (stB l k 0))) (fun k=>l.length-k) 0 (Nat.zero_le _) (by simp (maxSteps:=2000000) only [↓Za,↓Zi,↓Zr,↓Ze,↓Zo,↓Zs,↓Zg,↓Zm,↓Zf,↓Zb,↓Zc,↓vdn,vup,Zk,Zn,Zl,Zh,Zj,List.map_cons,List.map_nil,cond_true,cond_false,aop,Zv,Zq,Zp,ev,sput,Zt,Zy,Ya,unK,Zd,Zw,Nat.reduceBEq,Nat.reduceAdd,Int.reduceBEq,Int.reduceBNe,Int.reduceLT,Zu,Zz,tup,tyf,Int.natCast_zero]) rfl ?_
 rintro k hk
 refine Yn fun Q2 hQ2=>?_
 simp only [l105_1]
 by_cases hin:(k:Int)<l.length
 · have hk' : k<l.length:=by omega
   have hk2:k<(castN l).length:=by rw [castN_len]; exact hk'
   obtain ⟨i,hi⟩ : ∃ i,l.getD k 0=i:=⟨_,rfl⟩
   have hi6:i<6:=hi▸h6 _ (getD_memN hk')
   refine Yc fun N4 hN4=>?_
   simp (maxSteps:=2000000) only [s105,↓Za,↓Zi,↓Zr,↓Ze,↓Zo,↓Zs,↓Zg,↓Zm,↓Zf,↓Zb,↓Zc,↓vdn,vup,Zk,Zn,Zl,Zh,Zj,List.map_cons,List.map_nil,cond_true,cond_false,aop,Zv,Zq,Zp,ev,sput,Zt,Zy,Ya,unK,Zd,Zw,Nat.reduceBEq,Nat.reduceAdd,Int.reduceBEq,Int.reduceBNe,Int.reduceLT,Zu,Zz,tup,tyf,hin]
   refine hN4 [(0,v),(2,.pointer (some ⟨h.length,0,none⟩)),(3,.pointer (some ⟨h.length+1,0,none⟩)),(8,v),(9,Zx l.length),(10,Zx (k:Nat)),(11,.bool true)] _ _ ?_ (by simp (maxSteps:=2000000) only [↓Za,↓Zi,↓Zr,↓Ze,↓Zo,↓Zs,↓Zg,↓Zm,↓Zf,↓Zb,↓Zc,↓vdn,vup,Zk,Zn,Zl,Zh,Zj,List.map_cons,List.map_nil,cond_true,cond_false,aop,Zv,Zq,Zp,ev,sput,Zt,Zy,Ya,unK,Zd,Zw,Nat.reduceBEq,Nat.reduceAdd,Int.reduceBEq,Int.reduceBNe,Int.reduceLT,Zu,Zz,tup,tyf])
   clear hN4
   try clear N4
   refine Yc fun N5 hN5=>?_
   simp (maxSteps:=2000000) only [s105,↓Za,↓Zi,↓Zr,↓Ze,↓Zo,↓Zs,↓Zg,↓Zm,↓Zf,↓Zb,↓Zc,↓vdn,vup,Zk,Zn,Zl,Zh,Zj,List.map_cons,List.map_nil,cond_true,cond_false,aop,Zv,Zq,Zp,ev,sput,Zt,Zy,Ya,unK,Zd,Zw,Nat.reduceBEq,Nat.reduceAdd,Int.reduceBEq,Int.reduceBNe,Int.reduceLT,Zu,Zz,tup,tyf]
   refine hN5 [(0,v),(2,.pointer (some ⟨h.length,0,none⟩)),(3,.pointer (some ⟨h.length+1,0,none⟩)),(8,v),(9,Zx l.length),(10,Zx (k:Nat))] _ _ ?_ (by simp (maxSteps:=2000000) only [↓Za,↓Zi,↓Zr,↓Ze,↓Zo,↓Zs,↓Zg,↓Zm,↓Zf,↓Zb,↓Zc,↓vdn,vup,Zk,Zn,Zl,Zh,Zj,List.map_cons,List.map_nil,cond_true,cond_false,aop,Zv,Zq,Zp,ev,sput,Zt,Zy,Ya,unK,Zd,Zw,Nat.reduceBEq,Nat.reduceAdd,Int.reduceBEq,Int.reduceBNe,Int.reduceLT,Zu,Zz,tup,tyf])
   clear hN5
   try clear N5
   refine Yi fun B hB=>?_
   refine Yr ?_
   refine Yc fun N6 hN6=>?_
   simp (maxSteps:=2000000) only [s105,↓Za,↓Zi,↓Zr,↓Ze,↓Zo,↓Zs,↓Zg,↓Zm,↓Zf,↓Zb,↓Zc,↓vdn,vup,Zk,Zn,Zl,Zh,Zj,List.map_cons,List.map_nil,cond_true,cond_false,aop,Zv,Zq,Zp,ev,sput,Zt,Zy,Ya,unK,Zd,Zw,Nat.reduceBEq,Nat.reduceAdd,Int.reduceBEq,Int.reduceBNe,Int.reduceLT,Zu,Zz,tup,tyf,(hvX (stB l k 0)).int.idx Uh Xt hk2,(hvX (stB l k 0)).int.load Xf hk2,castN_get,hi]
   refine hN6 [(0,v),(2,.pointer (some ⟨h.length,0,none⟩)),(3,.pointer (some ⟨h.length+1,0,none⟩)),(4,Zx (k:Nat)),(5,Zx (i:Nat)),(8,v),(9,Zx l.length),(10,Zx (k:Nat))] _ _ ?_ (by simp (maxSteps:=2000000) only [↓Za,↓Zi,↓Zr,↓Ze,↓Zo,↓Zs,↓Zg,↓Zm,↓Zf,↓Zb,↓Zc,↓vdn,vup,Zk,Zn,Zl,Zh,Zj,List.map_cons,List.map_nil,cond_true,cond_false,aop,Zv,Zq,Zp,ev,sput,Zt,Zy,Ya,unK,Zd,Zw,Nat.reduceBEq,Nat.reduceAdd,Int.reduceBEq,Int.reduceBNe,Int.reduceLT,Zu,Zz,tup,tyf])
   clear hN6
   try clear N6
   refine Yc fun N7 hN7=>?_
   simp (maxSteps:=2000000) only [s105,↓Za,↓Zi,↓Zr,↓Ze,↓Zo,↓Zs,↓Zg,↓Zm,↓Zf,↓Zb,↓Zc,↓vdn,vup,Zk,Zn,Zl,Zh,Zj,List.map_cons,List.map_nil,cond_true,cond_false,aop,Zv,Zq,Zp,ev,sput,Zt,Zy,Ya,unK,Zd,Zw,Nat.reduceBEq,Nat.reduceAdd,Int.reduceBEq,Int.reduceBNe,Int.reduceLT,Zu,Zz,tup,tyf,add1 (show k<9223372036854775807 by omega)]
   refine OwnSl.suf (m:=k+1) hv Uh Xt (by rw [castN_len]; omega) fun w hw=>?_
   rw [castN_drop] at hw
   have hwl:=hw.len
   rw [castN_len,List.length_drop] at hwl
   have hw6 : ∀ g,Src (X g) w (castN (l.drop (k+1))):=fun g=>by
    rcases hw with hw | hw
    · exact .inl (Wb hw (xE g))
    · exact .inr hw
   simp (maxSteps:=2000000) only [s105,↓Za,↓Zi,↓Zr,↓Ze,↓Zo,↓Zs,↓Zg,↓Zm,↓Zf,↓Zb,↓Zc,↓vdn,vup,Zk,Zn,Zl,Zh,Zj,List.map_cons,List.map_nil,cond_true,cond_false,aop,Zv,Zq,Zp,ev,sput,Zt,Zy,Ya,unK,Zd,Zw,Nat.reduceBEq,Nat.reduceAdd,Int.reduceBEq,Int.reduceBNe,Int.reduceLT,Zu,Zz,tup,tyf,hwl]
   refine hN7 [(0,v),(2,.pointer (some ⟨h.length,0,none⟩)),(3,.pointer (some ⟨h.length+1,0,none⟩)),(4,Zx (k:Nat)),(5,Zx (i:Nat)),(8,v),(9,Zx l.length),(10,Zx (k:Nat)),(18,w),(19,Zx (l.length-(k+1):Nat)),(20,.int .i64 0)] _ _ ?_ (by simp (maxSteps:=2000000) only [↓Za,↓Zi,↓Zr,↓Ze,↓Zo,↓Zs,↓Zg,↓Zm,↓Zf,↓Zb,↓Zc,↓vdn,vup,Zk,Zn,Zl,Zh,Zj,List.map_cons,List.map_nil,cond_true,cond_false,aop,Zv,Zq,Zp,ev,sput,Zt,Zy,Ya,unK,Zd,Zw,Nat.reduceBEq,Nat.reduceAdd,Int.reduceBEq,Int.reduceBNe,Int.reduceLT,Zu,Zz,tup,tyf])
   clear hN7
   try clear N7
   refine Yr ?_
   refine Yn fun Qa hQa=>?_
   refine We (γ:=Nat) (fun m=>m≤l.length-(k+1)) (fun m=>([(0,v),(2,.pointer (some ⟨h.length,0,none⟩)),(3,.pointer (some ⟨h.length+1,0,none⟩)),(4,Zx (k:Nat)),(5,Zx (i:Nat)),(8,v),(9,Zx l.length),(10,Zx (k:Nat)),(18,w),(19,Zx (l.length-(k+1):Nat)),(20,Zx (m:Nat))],X (stB l k m))) (fun m=>l.length-(k+1)-m) 0 (Nat.zero_le _) (by simp (maxSteps:=2000000) only [↓Za,↓Zi,↓Zr,↓Ze,↓Zo,↓Zs,↓Zg,↓Zm,↓Zf,↓Zb,↓Zc,↓vdn,vup,Zk,Zn,Zl,Zh,Zj,List.map_cons,List.map_nil,cond_true,cond_false,aop,Zv,Zq,Zp,ev,sput,Zt,Zy,Ya,unK,Zd,Zw,Nat.reduceBEq,Nat.reduceAdd,Int.reduceBEq,Int.reduceBNe,Int.reduceLT,Zu,Zz,tup,tyf,Int.natCast_zero]) rfl ?_
   rintro m hm
   refine Yn fun Qb hQb=>?_
   simp only [l105_0]
   by_cases hjin:(m:Int)<((l.length-(k+1):Nat):Int)
   · have hm' : m<l.length-(k+1):=by omega
     have hmd:m<(l.drop (k+1)).length:=by rw [List.length_drop]; exact hm'
     have hm2:m<(castN (l.drop (k+1))).length:=by rw [castN_len]; exact hmd
     obtain ⟨j,hj⟩ : ∃ j,(l.drop (k+1)).getD m 0=j:=⟨_,rfl⟩
     have hj6:j<6:=hj▸h6 _ (List.mem_of_mem_drop (getD_memN hmd))
     have hwi:=(hw6 (stB l k m)).int (by intro h; rw [h] at hm2; simp at hm2)
     have hset:=stB_set hn hk' hm'
     rw [hi,hj] at hset
     have hor:Vf .or .i64 ((stB l k m i:Nat):Int) (2 ^ j)=((stB l k m i ||| 2 ^ j:Nat):Int):=by
      have h1:=stB_lt h6 k m i
      have h2:(2:Nat) ^ j≤2 ^ 6:=Nat.pow_le_pow_right (by decide) (by omega)
      have:=bitsV_or (a:=stB l k m i) (b:=2 ^ j) (by omega) (by omega)
      rw [Vn] at this; exact this
     refine Yc fun N8 hN8=>?_
     simp (maxSteps:=2000000) only [s105,↓Za,↓Zi,↓Zr,↓Ze,↓Zo,↓Zs,↓Zg,↓Zm,↓Zf,↓Zb,↓Zc,↓vdn,vup,Zk,Zn,Zl,Zh,Zj,List.map_cons,List.map_nil,cond_true,cond_false,aop,Zv,Zq,Zp,ev,sput,Zt,Zy,Ya,unK,Zd,Zw,Nat.reduceBEq,Nat.reduceAdd,Int.reduceBEq,Int.reduceBNe,Int.reduceLT,Zu,Zz,tup,tyf,hjin]
     refine hN8 [(0,v),(2,.pointer (some ⟨h.length,0,none⟩)),(3,.pointer (some ⟨h.length+1,0,none⟩)),(4,Zx (k:Nat)),(5,Zx (i:Nat)),(8,v),(9,Zx l.length),(10,Zx (k:Nat)),(18,w),(19,Zx (l.length-(k+1):Nat)),(20,Zx (m:Nat)),(21,.bool true)] _ _ ?_ (by simp (maxSteps:=2000000) only [↓Za,↓Zi,↓Zr,↓Ze,↓Zo,↓Zs,↓Zg,↓Zm,↓Zf,↓Zb,↓Zc,↓vdn,vup,Zk,Zn,Zl,Zh,Zj,List.map_cons,List.map_nil,cond_true,cond_false,aop,Zv,Zq,Zp,ev,sput,Zt,Zy,Ya,unK,Zd,Zw,Nat.reduceBEq,Nat.reduceAdd,Int.reduceBEq,Int.reduceBNe,Int.reduceLT,Zu,Zz,tup,tyf])
     clear hN8
     try clear N8
     refine Yc fun N9 hN9=>?_
     simp (maxSteps:=2000000) only [s105,↓Za,↓Zi,↓Zr,↓Ze,↓Zo,↓Zs,↓Zg,↓Zm,↓Zf,↓Zb,↓Zc,↓vdn,vup,Zk,Zn,Zl,Zh,Zj,List.map_cons,List.map_nil,cond_true,cond_false,aop,Zv,Zq,Zp,ev,sput,Zt,Zy,Ya,unK,Zd,Zw,Nat.reduceBEq,Nat.reduceAdd,Int.reduceBEq,Int.reduceBNe,Int.reduceLT,Zu,Zz,tup,tyf]
     refine hN9 [(0,v),(2,.pointer (some ⟨h.length,0,none⟩)),(3,.pointer (some ⟨h.length+1,0,none⟩)),(4,Zx (k:Nat)),(5,Zx (i:Nat)),(8,v),(9,Zx l.length),(10,Zx (k:Nat)),(18,w),(19,Zx (l.length-(k+1):Nat)),(20,Zx (m:Nat))] _ _ ?_ (by simp (maxSteps:=2000000) only [↓Za,↓Zi,↓Zr,↓Ze,↓Zo,↓Zs,↓Zg,↓Zm,↓Zf,↓Zb,↓Zc,↓vdn,vup,Zk,Zn,Zl,Zh,Zj,List.map_cons,List.map_nil,cond_true,cond_false,aop,Zv,Zq,Zp,ev,sput,Zt,Zy,Ya,unK,Zd,Zw,Nat.reduceBEq,Nat.reduceAdd,Int.reduceBEq,Int.reduceBNe,Int.reduceLT,Zu,Zz,tup,tyf])
     clear hN9
     try clear N9
     refine Yi fun D hD=>?_
     refine Yr ?_
     refine Yc fun N10 hN10=>?_
     simp (maxSteps:=2000000) only [s105,↓Za,↓Zi,↓Zr,↓Ze,↓Zo,↓Zs,↓Zg,↓Zm,↓Zf,↓Zb,↓Zc,↓vdn,vup,Zk,Zn,Zl,Zh,Zj,List.map_cons,List.map_nil,cond_true,cond_false,aop,Zv,Zq,Zp,ev,sput,Zt,Zy,Ya,unK,Zd,Zw,Nat.reduceBEq,Nat.reduceAdd,Int.reduceBEq,Int.reduceBNe,Int.reduceLT,Zu,Zz,tup,tyf,hwi.idx Uh Xt hm2,hwi.load Xf hm2,castN_get,hj]
     refine hN10 [(0,v),(2,.pointer (some ⟨h.length,0,none⟩)),(3,.pointer (some ⟨h.length+1,0,none⟩)),(4,Zx (k:Nat)),(5,Zx (i:Nat)),(7,Zx (j:Nat)),(8,v),(9,Zx l.length),(10,Zx (k:Nat)),(18,w),(19,Zx (l.length-(k+1):Nat)),(20,Zx (m:Nat))] _ _ ?_ (by simp (maxSteps:=2000000) only [↓Za,↓Zi,↓Zr,↓Ze,↓Zo,↓Zs,↓Zg,↓Zm,↓Zf,↓Zb,↓Zc,↓vdn,vup,Zk,Zn,Zl,Zh,Zj,List.map_cons,List.map_nil,cond_true,cond_false,aop,Zv,Zq,Zp,ev,sput,Zt,Zy,Ya,unK,Zd,Zw,Nat.reduceBEq,Nat.reduceAdd,Int.reduceBEq,Int.reduceBNe,Int.reduceLT,Zu,Zz,tup,tyf])
     clear hN10
     try clear N10
     refine Yk ?_
     simp only [q105_8]
     refine Xp [] (by kernel_rfl) (by kernel_rfl) (by kernel_rfl) (by kernel_rfl) ?_
     simp (maxSteps:=2000000) only [s105,↓Za,↓Zi,↓Zr,↓Ze,↓Zo,↓Zs,↓Zg,↓Zm,↓Zf,↓Zb,↓Zc,↓vdn,vup,Zk,Zn,Zl,Zh,Zj,List.map_cons,List.map_nil,cond_true,cond_false,aop,Zv,Zq,Zp,ev,sput,Zt,Zy,Ya,unK,Zd,Zw,Nat.reduceBEq,Nat.reduceAdd,Int.reduceBEq,Int.reduceBNe,Int.reduceLT,Zu,Zz,tup,tyf,six_idx und_121 Xt hi6,Nat.zero_add,six_load1 (x3 (stB l k m)) Xf hi6,shl1 (show j≤62 by omega),hor,Int.natCast_nonneg,six_store1 (x3 (stB l k m)) Xf hi6,hset,xset]
     refine hD [(0,v),(2,.pointer (some ⟨h.length,0,none⟩)),(3,.pointer (some ⟨h.length+1,0,none⟩)),(4,Zx (k:Nat)),(5,Zx (i:Nat)),(8,v),(9,Zx l.length),(10,Zx (k:Nat)),(18,w),(19,Zx (l.length-(k+1):Nat)),(20,Zx (m:Nat))] _ _ ?_ (by simp (maxSteps:=2000000) only [↓Za,↓Zi,↓Zr,↓Ze,↓Zo,↓Zs,↓Zg,↓Zm,↓Zf,↓Zb,↓Zc,↓vdn,vup,Zk,Zn,Zl,Zh,Zj,List.map_cons,List.map_nil,cond_true,cond_false,aop,Zv,Zq,Zp,ev,sput,Zt,Zy,Ya,unK,Zd,Zw,Nat.reduceBEq,Nat.reduceAdd,Int.reduceBEq,Int.reduceBNe,Int.reduceLT,Zu,Zz,tup,tyf])
     clear hD
     try clear D
     refine Yk ?_
     simp (maxSteps:=2000000) only [s105,↓Za,↓Zi,↓Zr,↓Ze,↓Zo,↓Zs,↓Zg,↓Zm,↓Zf,↓Zb,↓Zc,↓vdn,vup,Zk,Zn,Zl,Zh,Zj,List.map_cons,List.map_nil,cond_true,cond_false,aop,Zv,Zq,Zp,ev,sput,Zt,Zy,Ya,unK,Zd,Zw,Nat.reduceBEq,Nat.reduceAdd,Int.reduceBEq,Int.reduceBNe,Int.reduceLT,Zu,Zz,tup,tyf,add1 (show m<9223372036854775807 by omega)]
     exact hQb _ _ _ ⟨m+1,hm',by omega,by simp (maxSteps:=2000000) only [↓Za,↓Zi,↓Zr,↓Ze,↓Zo,↓Zs,↓Zg,↓Zm,↓Zf,↓Zb,↓Zc,↓vdn,vup,Zk,Zn,Zl,Zh,Zj,List.map_cons,List.map_nil,cond_true,cond_false,aop,Zv,Zq,Zp,ev,sput,Zt,Zy,Ya,unK,Zd,Zw,Nat.reduceBEq,Nat.reduceAdd,Int.reduceBEq,Int.reduceBNe,Int.reduceLT,Zu,Zz,tup,tyf],rfl⟩
   · obtain rfl:m=l.length-(k+1):=by omega
     refine Yc fun N11 hN11=>?_
     simp (maxSteps:=2000000) only [s105,↓Za,↓Zi,↓Zr,↓Ze,↓Zo,↓Zs,↓Zg,↓Zm,↓Zf,↓Zb,↓Zc,↓vdn,vup,Zk,Zn,Zl,Zh,Zj,List.map_cons,List.map_nil,cond_true,cond_false,aop,Zv,Zq,Zp,ev,sput,Zt,Zy,Ya,unK,Zd,Zw,Nat.reduceBEq,Nat.reduceAdd,Int.reduceBEq,Int.reduceBNe,Int.reduceLT,Zu,Zz,tup,tyf,hjin]
     refine hN11 [(0,v),(2,.pointer (some ⟨h.length,0,none⟩)),(3,.pointer (some ⟨h.length+1,0,none⟩)),(4,Zx (k:Nat)),(5,Zx (i:Nat)),(8,v),(9,Zx l.length),(10,Zx (k:Nat)),(18,w),(19,Zx (l.length-(k+1):Nat)),(20,Zx (l.length-(k+1):Nat)),(21,.bool false)] _ _ ?_ (by simp (maxSteps:=2000000) only [↓Za,↓Zi,↓Zr,↓Ze,↓Zo,↓Zs,↓Zg,↓Zm,↓Zf,↓Zb,↓Zc,↓vdn,vup,Zk,Zn,Zl,Zh,Zj,List.map_cons,List.map_nil,cond_true,cond_false,aop,Zv,Zq,Zp,ev,sput,Zt,Zy,Ya,unK,Zd,Zw,Nat.reduceBEq,Nat.reduceAdd,Int.reduceBEq,Int.reduceBNe,Int.reduceLT,Zu,Zz,tup,tyf])
     clear hN11
     try clear N11
     refine Yc fun N12 hN12=>?_
     simp (maxSteps:=2000000) only [s105,↓Za,↓Zi,↓Zr,↓Ze,↓Zo,↓Zs,↓Zg,↓Zm,↓Zf,↓Zb,↓Zc,↓vdn,vup,Zk,Zn,Zl,Zh,Zj,List.map_cons,List.map_nil,cond_true,cond_false,aop,Zv,Zq,Zp,ev,sput,Zt,Zy,Ya,unK,Zd,Zw,Nat.reduceBEq,Nat.reduceAdd,Int.reduceBEq,Int.reduceBNe,Int.reduceLT,Zu,Zz,tup,tyf]
     refine hQb _ _ _ (hQa _ _ _ ?_)
     simp (maxSteps:=2000000) only [s105,↓Za,↓Zi,↓Zr,↓Ze,↓Zo,↓Zs,↓Zg,↓Zm,↓Zf,↓Zb,↓Zc,↓vdn,vup,Zk,Zn,Zl,Zh,Zj,List.map_cons,List.map_nil,cond_true,cond_false,aop,Zv,Zq,Zp,ev,sput,Zt,Zy,Ya,unK,Zd,Zw,Nat.reduceBEq,Nat.reduceAdd,Int.reduceBEq,Int.reduceBNe,Int.reduceLT,Zu,Zz,tup,tyf,if_true]
     rw [stB_next]
     refine hB [(0,v),(2,.pointer (some ⟨h.length,0,none⟩)),(3,.pointer (some ⟨h.length+1,0,none⟩)),(8,v),(9,Zx l.length),(10,Zx (k:Nat))] _ _ ?_ (by simp (maxSteps:=2000000) only [↓Za,↓Zi,↓Zr,↓Ze,↓Zo,↓Zs,↓Zg,↓Zm,↓Zf,↓Zb,↓Zc,↓vdn,vup,Zk,Zn,Zl,Zh,Zj,List.map_cons,List.map_nil,cond_true,cond_false,aop,Zv,Zq,Zp,ev,sput,Zt,Zy,Ya,unK,Zd,Zw,Nat.reduceBEq,Nat.reduceAdd,Int.reduceBEq,Int.reduceBNe,Int.reduceLT,Zu,Zz,tup,tyf])
     clear hB
     try clear B
     refine Yk ?_
     simp (maxSteps:=2000000) only [s105,↓Za,↓Zi,↓Zr,↓Ze,↓Zo,↓Zs,↓Zg,↓Zm,↓Zf,↓Zb,↓Zc,↓vdn,vup,Zk,Zn,Zl,Zh,Zj,List.map_cons,List.map_nil,cond_true,cond_false,aop,Zv,Zq,Zp,ev,sput,Zt,Zy,Ya,unK,Zd,Zw,Nat.reduceBEq,Nat.reduceAdd,Int.reduceBEq,Int.reduceBNe,Int.reduceLT,Zu,Zz,tup,tyf,add1 (show k<9223372036854775807 by omega)]
     exact hQ2 _ _ _ ⟨k+1,hk',by omega,by simp (maxSteps:=2000000) only [↓Za,↓Zi,↓Zr,↓Ze,↓Zo,↓Zs,↓Zg,↓Zm,↓Zf,↓Zb,↓Zc,↓vdn,vup,Zk,Zn,Zl,Zh,Zj,List.map_cons,List.map_nil,cond_true,cond_false,aop,Zv,Zq,Zp,ev,sput,Zt,Zy,Ya,unK,Zd,Zw,Nat.reduceBEq,Nat.reduceAdd,Int.reduceBEq,Int.reduceBNe,Int.reduceLT,Zu,Zz,tup,tyf],rfl⟩
 · obtain rfl:k=l.length:=by omega
   refine Yc fun N13 hN13=>?_
   simp (maxSteps:=2000000) only [s105,↓Za,↓Zi,↓Zr,↓Ze,↓Zo,↓Zs,↓Zg,↓Zm,↓Zf,↓Zb,↓Zc,↓vdn,vup,Zk,Zn,Zl,Zh,Zj,List.map_cons,List.map_nil,cond_true,cond_false,aop,Zv,Zq,Zp,ev,sput,Zt,Zy,Ya,unK,Zd,Zw,Nat.reduceBEq,Nat.reduceAdd,Int.reduceBEq,Int.reduceBNe,Int.reduceLT,Zu,Zz,tup,tyf,hin]
   refine hN13 [(0,v),(2,.pointer (some ⟨h.length,0,none⟩)),(3,.pointer (some ⟨h.length+1,0,none⟩)),(8,v),(9,Zx l.length),(10,Zx l.length),(11,.bool false)] _ _ ?_ (by simp (maxSteps:=2000000) only [↓Za,↓Zi,↓Zr,↓Ze,↓Zo,↓Zs,↓Zg,↓Zm,↓Zf,↓Zb,↓Zc,↓vdn,vup,Zk,Zn,Zl,Zh,Zj,List.map_cons,List.map_nil,cond_true,cond_false,aop,Zv,Zq,Zp,ev,sput,Zt,Zy,Ya,unK,Zd,Zw,Nat.reduceBEq,Nat.reduceAdd,Int.reduceBEq,Int.reduceBNe,Int.reduceLT,Zu,Zz,tup,tyf])
   clear hN13
   try clear N13
   refine Yc fun N14 hN14=>?_
   simp (maxSteps:=2000000) only [s105,↓Za,↓Zi,↓Zr,↓Ze,↓Zo,↓Zs,↓Zg,↓Zm,↓Zf,↓Zb,↓Zc,↓vdn,vup,Zk,Zn,Zl,Zh,Zj,List.map_cons,List.map_nil,cond_true,cond_false,aop,Zv,Zq,Zp,ev,sput,Zt,Zy,Ya,unK,Zd,Zw,Nat.reduceBEq,Nat.reduceAdd,Int.reduceBEq,Int.reduceBNe,Int.reduceLT,Zu,Zz,tup,tyf]
   refine hQ2 _ _ _ (hQ _ _ _ ?_)
   simp (maxSteps:=2000000) only [s105,↓Za,↓Zi,↓Zr,↓Ze,↓Zo,↓Zs,↓Zg,↓Zm,↓Zf,↓Zb,↓Zc,↓vdn,vup,Zk,Zn,Zl,Zh,Zj,List.map_cons,List.map_nil,cond_true,cond_false,aop,Zv,Zq,Zp,ev,sput,Zt,Zy,Ya,unK,Zd,Zw,Nat.reduceBEq,Nat.reduceAdd,Int.reduceBEq,Int.reduceBNe,Int.reduceLT,Zu,Zz,tup,tyf,if_true]
   rw [stB_all]
   refine hZ [(0,v),(2,.pointer (some ⟨h.length,0,none⟩)),(3,.pointer (some ⟨h.length+1,0,none⟩))] _ _ ?_ (by simp (maxSteps:=2000000) only [↓Za,↓Zi,↓Zr,↓Ze,↓Zo,↓Zs,↓Zg,↓Zm,↓Zf,↓Zb,↓Zc,↓vdn,vup,Zk,Zn,Zl,Zh,Zj,List.map_cons,List.map_nil,cond_true,cond_false,aop,Zv,Zq,Zp,ev,sput,Zt,Zy,Ya,unK,Zd,Zw,Nat.reduceBEq,Nat.reduceAdd,Int.reduceBEq,Int.reduceBNe,Int.reduceLT,Zu,Zz,tup,tyf])
   clear hZ
   try clear Z
   have sh:shp prog 121=some (some 6):=shp_121
   refine Yk ?_
   simp (maxSteps:=2000000) only [s105,↓Za,↓Zi,↓Zr,↓Ze,↓Zo,↓Zs,↓Zg,↓Zm,↓Zf,↓Zb,↓Zc,↓vdn,vup,Zk,Zn,Zl,Zh,Zj,List.map_cons,List.map_nil,cond_true,cond_false,aop,Zv,Zq,Zp,ev,sput,Zt,Zy,Ya,unK,Zd,Zw,Nat.reduceBEq,Nat.reduceAdd,Int.reduceBEq,Int.reduceBNe,Int.reduceLT,Zu,Zz,tup,tyf,six_load (x3 (bhF l)) sh,six_store (x2 (bhF l)) rfl sh]
   simp (maxSteps:=2000000) only [s105,↓Za,↓Zi,↓Zr,↓Ze,↓Zo,↓Zs,↓Zg,↓Zm,↓Zf,↓Zb,↓Zc,↓vdn,vup,Zk,Zn,Zl,Zh,Zj,List.map_cons,List.map_nil,cond_true,cond_false,aop,Zv,Zq,Zp,ev,sput,Zt,Zy,Ya,unK,Zd,Zw,Nat.reduceBEq,Nat.reduceAdd,Int.reduceBEq,Int.reduceBNe,Int.reduceLT,Zu,Zz,tup,tyf,six_load (Xc (Yd (x2 (bhF l))) _) sh]
   exact (xE _).set_ge (Nat.le_refl _) _
end Go.Proofs.Tryd.Am
namespace Go.Proofs.Tryd.Am
open Go.Am Ord
set_option maxRecDepth 100000
set_option maxHeartbeats 4000000
/-! ### Plain -/
abbrev lin (o:List Int) (k:Nat):List Nat:=(Yq o).getD k []
theorem lin_mem {o:List Int} {k:Nat} (hk:k<cn o):lin o k∈Yq o:=by
 have hk' : k<(Yq o).length:=by rw [Xj]; exact hk
 rw [lin,List.getD,List.getElem?_eq_getElem hk']; exact List.getElem_mem hk'
structure LinF (o:List Int) (l:List Nat):Prop where
 pm:l.Perm (List.range o.length)
 nd:l.Nodup
 ab : ∀ i j,ab o i j=true→bef l i j=true
theorem lin_facts {o:List Int} (ho:ord o=true) {k:Nat} (hk:k<cn o):LinF o (lin o k):=by
 obtain ⟨h1,h2⟩:=(mem_all ho).1 (lin_mem hk)
 have hn:(lin o k).Nodup:=h1.nodup_iff.2 List.nodup_range
 refine ⟨h1,hn,fun i j hij=>?_⟩
 obtain ⟨hi,hj⟩:=ab_lt ho hij
 have hil:i∈lin o k:=h1.mem_iff.2 (List.mem_range.2 hi)
 have hjl:j∈lin o k:=h1.mem_iff.2 (List.mem_range.2 hj)
 have hne:i≠j:=by rintro rfl; rw [(ord_po ho).irr] at hij; cases hij
 cases hb:bef (lin o k) i j with
 | true=>rfl
 | false =>
   rw [bef_not hjl hil hne.symm] at hb
   have:=(bef_pw hn).1 h2 j hjl i hil (by simpa using hb)
   rw [hij] at this; cases this
theorem mem_drop_idx {l:List Nat} (hn:l.Nodup) {m j:Nat}:j∈l.drop m↔j∈l∧m≤l.idxOf j:=by
 constructor
 · intro h
   have hjl:=List.mem_of_mem_drop h
   refine ⟨hjl,?_⟩
   obtain ⟨a,ha,he⟩:=List.mem_iff_getElem.1 h
   rw [List.getElem_drop] at he
   rw [List.length_drop] at ha
   have:=idx_at hn (k:=m+a) (by omega)
   rw [getD_at (by omega),he] at this
   omega
 · rintro ⟨h1,h2⟩
   have h3:=List.idxOf_lt_length_of_mem h1
   have h4:=List.getElem_idxOf h3
   rw [List.mem_iff_getElem]
   refine ⟨l.idxOf j-m,by rw [List.length_drop]; omega,?_⟩
   rw [List.getElem_drop]
   have:m+(l.idxOf j-m)=l.idxOf j:=by omega
   simp only [this]; exact h4
theorem bhF_bit {l:List Nat} (hn:l.Nodup) {i j:Nat}:(bhF l i).testBit j=true↔j∈l∧bef l i j=true:=by
 rw [bhF,msk_bit,mem_drop_idx hn,bef,decide_eq_true_eq]
 exact and_congr_right fun _=>Nat.succ_le_iff
def cmF (o:List Int) (pre:List Nat):F6:=fun i=>pre.foldl (fun c k=>c &&& bhF (lin o k) i) (if i<o.length then 2 ^ o.length-1 else 0)
theorem cmF_snoc (o:List Int) (pre:List Nat) (k i:Nat):cmF o (pre++[k]) i=cmF o pre i &&& bhF (lin o k) i:=by
 rw [cmF,List.foldl_append]; rfl
theorem cmF_bit (o:List Int) (i j:Nat) : ∀ pre:List Nat,(cmF o pre i).testBit j=true↔(i<o.length∧j<o.length)∧∀ k∈pre,(bhF (lin o k) i).testBit j=true:=fun pre=>by
 have : ∀ (pre:List Nat) (c:Nat),(pre.foldl (fun c k=>c &&& bhF (lin o k) i) c).testBit j=true↔c.testBit j=true∧∀ k∈pre,(bhF (lin o k) i).testBit j=true:=fun pre=>by
  induction pre with
  | nil=>intro c; simp
  | cons k pre ih =>
    intro c
    rw [List.foldl_cons,ih,Nat.testBit_and,Bool.and_eq_true]
    simp only [List.mem_cons,forall_eq_or_imp,and_assoc]
 rw [cmF,this]
 refine and_congr_left fun _=>?_
 split
 · rename_i h; rw [all_bit,decide_eq_true_eq]; exact ⟨fun h2=>⟨h,h2⟩,fun h2=>h2.2⟩
 · rename_i h; rw [Nat.zero_testBit]; exact ⟨fun h2=>(by cases h2),fun h2=>absurd h2.1 h⟩
theorem cmF_lt (o:List Int) (hl:o.length≤6) (pre:List Nat) (i:Nat):cmF o pre i<64:=by
 have:=lt_of_bits (s:=cmF o pre i) (n:=o.length) fun j hj=>by
  rw [← Bool.not_eq_true]
  intro h
  have:=((cmF_bit o i j pre).1 h).1.2; omega
 have:=pow6 hl; omega
theorem cmF_sep {o:List Int} (ho:ord o=true) {pre:List Nat} (h0:pre≠[]) (hk : ∀ k∈pre,k<cn o):(∀ i,i<6→cmF o pre i=bt o i)↔sepB o pre=true:=by
 have hl:=Yu ho
 rw [sepB_iff]
 constructor
 · intro h i j hi hj hne hab
   refine Classical.byContradiction fun hc=>?_
   have h1:(cmF o pre i).testBit j=true:=(cmF_bit o i j pre).2 ⟨⟨hi,hj⟩,fun k hkp=>by
    have lf:=lin_facts ho (hk k hkp)
    have hil:i∈lin o k:=lf.pm.mem_iff.2 (List.mem_range.2 hi)
    have hjl:j∈lin o k:=lf.pm.mem_iff.2 (List.mem_range.2 hj)
    refine (bhF_bit lf.nd).2 ⟨hjl,?_⟩
    cases hb:bef (lin o k) i j with
    | true=>rfl
    | false=>exact absurd ⟨k,hkp,by rw [bef_not hil hjl hne,hb]; rfl⟩ hc⟩
   rw [h i (by omega)] at h1
   rw [ab] at hab
   rw [hab] at h1; cases h1
 · intro h i hi
   refine Nat.eq_of_testBit_eq fun j=>?_
   rw [Bool.eq_iff_iff,cmF_bit]
   constructor
   · rintro ⟨⟨hi,hj⟩,hall⟩
     cases hab:ab o i j with
     | true=>exact hab
     | false =>
       exfalso
       by_cases hne:i=j
       · obtain ⟨k,hkp⟩:=List.exists_mem_of_ne_nil _ h0
         have lf:=lin_facts ho (hk k hkp)
         have:=((bhF_bit lf.nd).1 (hall k hkp)).2
         rw [hne,bef] at this; simp at this
       · obtain ⟨k,hkp,hb⟩:=h i j hi hj hne hab
         have lf:=lin_facts ho (hk k hkp)
         have hil:i∈lin o k:=lf.pm.mem_iff.2 (List.mem_range.2 hi)
         have hjl:j∈lin o k:=lf.pm.mem_iff.2 (List.mem_range.2 hj)
         have h2:=((bhF_bit lf.nd).1 (hall k hkp)).2
         have h3:bef (lin o k) j i=true:=hb
         rw [bef_not hil hjl hne,h2] at h3; cases h3
   · intro hab
     have hab' : ab o i j=true:=hab
     obtain ⟨hi,hj⟩:=ab_lt ho hab'
     refine ⟨⟨hi,hj⟩,fun k hkp=>?_⟩
     have lf:=lin_facts ho (hk k hkp)
     exact (bhF_bit lf.nd).2 ⟨lf.pm.mem_iff.2 (List.mem_range.2 hj),lf.ab i j hab'⟩
theorem find_hit {G:Nat→Option (List Nat)} {fr N k:Nat} {q:List Nat} (h : ∀ j,fr≤j→j<k→G j=none) (h1:fr≤k) (h2:k<N) (hk:G k=some q):(List.range' fr (N-fr)).findSome? G=some q:=by
 have e:List.range' fr (N-fr)=List.range' fr (k-fr)++k::List.range' (k+1) (N-(k+1)):=by
  rw [← List.range'_succ,show N-(k+1)+1=N-k by omega]
  have:=List.range'_append_1 (s:=fr) (m:=k-fr) (n:=N-k)
  rw [show fr+(k-fr)=k by omega,show k-fr+(N-k)=N-fr by omega] at this
  exact this.symm
 rw [e,List.findSome?_append,List.findSome?_eq_none_iff.2 fun j hj=>by
  have:=List.mem_range'_1.1 hj
  exact h j this.1 (by omega),List.findSome?_cons,hk]; rfl
theorem find_none {G:Nat→Option (List Nat)} {fr N:Nat} (h : ∀ j,fr≤j→j<N→G j=none):(List.range' fr (N-fr)).findSome? G=none :=
 List.findSome?_eq_none_iff.2 fun j hj=>by
  have:=List.mem_range'_1.1 hj
  exact h j this.1 (by omega)
theorem and_six {a b:Nat} (ha:a<64) (hb:b<64):Vf .and .i64 ((a:Nat):Int) ((b:Nat):Int)=((a &&& b:Nat):Int):=bitsV_and (by omega) (by omega)
/-! ### The walk -/
/-- Six numbers are the same. -/
def eq6 (f g:F6):Bool:=(List.range 6).all fun i=>f i==g i
theorem eq6_iff {f g:F6}:eq6 f g=true↔∀ i,i<6→f i=g i:=by
 simp only [eq6,List.all_eq_true,List.mem_range,beq_iff_eq]
theorem bin6 [Tabs prog] {f g:F6} {K:Value→Prop}:Zy prog .eql 121 (sixV f) (sixV g) K=K (.bool (eq6 f g)):=by
 have hq:EqT prog 121 6:=eqT_array und_121 und_3 Xt (by kernel_rfl)
 have e:((six f==six g):Bool)=eq6 f g:=by
  rw [Bool.eq_iff_iff,beq_iff_eq,eq6_iff]
  constructor
  · intro h i hi
    have:=congrArg (fun l=>l[i]?) h
    simp only [six_get _ hi,Option.some.injEq,Int.ofNat_inj] at this
    exact this
  · intro h
    simp only [six,h 0 (by omega),h 1 (by omega),h 2 (by omega),h 3 (by omega),h 4 (by omega),h 5 (by omega)]
 rw [← e]
 exact propext ⟨fun h=>h.2.2,fun h=>⟨hq,rfl,h⟩⟩
theorem bin6n [Tabs prog] {f g:F6} {K:Value→Prop}:Zy prog .neq 121 (sixV f) (sixV g) K=K (.bool (!eq6 f g)):=by
 have hq:EqT prog 121 6:=eqT_array und_121 und_3 Xt (by kernel_rfl)
 have e:((six f==six g):Bool)=eq6 f g:=by
  rw [Bool.eq_iff_iff,beq_iff_eq,eq6_iff]
  constructor
  · intro h i hi
    have:=congrArg (fun l=>l[i]?) h
    simp only [six_get _ hi,Option.some.injEq,Int.ofNat_inj] at this
    exact this
  · intro h
    simp only [six,h 0 (by omega),h 1 (by omega),h 2 (by omega),h 3 (by omega),h 4 (by omega),h 5 (by omega)]
 rw [← e]
 exact propext ⟨fun h=>h.2.2,fun h=>⟨hq,rfl,h⟩⟩
theorem six_bt {o:List Int} (ho:ord o=true):(sixs o).map Zx=sixC (bt o):=by
 have hl:=Yu ho
 refine List.ext_getElem? fun i=>?_
 by_cases hi:i<6
 · rw [sixC_get _ hi]
   have:=ordC_get (o:=o) hl.2 hi
   rw [Wa,Nat.add_comm,List.getElem?_cons_succ] at this
   rw [this]
   by_cases hio:i<o.length
   · rw [(Vv ho hio).1]
   · rw [bt_out (by omega),List.getD,List.getElem?_eq_none (by omega)]; rfl
 · rw [List.getElem?_eq_none (by rw [List.length_map,sixs_len hl.2]; omega),List.getElem?_eq_none (by simp; omega)]
theorem load75 {h:Yb} {b:Nat} {o:List Int} (ho:ord o=true) {e:TypeId} {ro:Bool} (hb:h[b]? = some (.cells (Wa o) e ro)) {K:Value→Prop}:Xw prog h 75 (.pointer (some ⟨b,1,none⟩)) K=K (sixV (bt o)):=by
 have hl:=Yu ho
 have e1:((Wa o).drop 1).take 6=sixC (bt o):=by
  rw [Wa,List.drop_succ_cons,List.drop_zero,six_bt ho]; rfl
 simp only [Xw,shp_75,Xy,hb,e1,Xo hl.2]
 exact propext ⟨fun h=>h.2,fun h=>⟨by omega,h⟩⟩
structure RE (o:List Int) (h0:Yb) (po pa ps pf pg:Nat) (av sv:Value):Prop where
 ob:h0[po]? = some (.cells (Wa o) 77 false)
 ab_:h0[pa]? = some (.cells [av] 45 false)
 sb:h0[ps]? = some (.cells [sv] 120 false)
 gb:h0[pg]? = some (.cells [.func (.func 106) #[] #[.pointer (some ⟨po,0,none⟩),.pointer (some ⟨pa,0,none⟩),.pointer (some ⟨ps,0,none⟩),.pointer (some ⟨pf,0,none⟩),.pointer (some ⟨pg,0,none⟩)]] 123 false)
 fo:po≠pf
 fa:pa≠pf
 fs:ps≠pf
 fg:pg≠pf
 f:pf<h0.length
 al : ∀ K:Value→Prop,lenK av K=K (Zx (cn o:Nat))
 sl:Own6 121 h0 sv ((Yq o).map bhF)
 sf:Ye sv≠some pf
def KH (h0:Yb) (pf:Nat) (h:Yb):Prop:=Ext (fun b=>b=pf) h0 h
structure FD (h0:Yb) (pf:Nat) (h:Yb) (fv:Value) (pre:List Nat):Prop where
 bx:h[pf]? = some (.cells [fv] 22 false)
 own:OwnSl 3 h fv (iL pre)
 fr : ∀ b,Ye fv=some b→h0.length≤b
section
variable {o:List Int} {h0 h h' : Yb} {po pa ps pf pg:Nat} {av sv fv:Value} {pre:List Nat}
theorem KH.at_ {b:Nat} {B:Blk} (k:KH h0 pf h) (hb:h0[b]? = some B) (hn:b≠pf):h[b]? = some B:=(k.2 b (Yd hb) hn).trans hb
theorem FD.ext (f:FD h0 pf h fv pre) (hE:Ext (fun _=>False) h h'):FD h0 pf h' fv pre:=⟨(hE.2 _ (Yd f.bx) id).trans f.bx,f.own.ext (S:=fun _=>False) hE (fun _ _=>id),f.fr⟩
theorem KH.ext (k:KH h0 pf h) (hE:Ext (fun _=>False) h h'):KH h0 pf h':=k.trans (hE.mono fun _ h=>h.elim)
theorem RE.sets (r:RE o h0 po pa ps pf pg av sv) (k:KH h0 pf h):Own6 121 h sv ((Yq o).map bhF):=r.sl.same fun b hb=>k.2 b (r.sl.lt hb) fun he=>r.sf (he▸hb)
end
def gS2 (pf:Nat) (fv:Value) (b:Nat):Prop:=b=pf∨Ye fv=some b
def gB2 (h:Yb) (fv fv' : Value):Prop:=Ye fv' = Ye fv∨∃ b,Ye fv' = some b∧h.length≤b
theorem gB2.trans {h G:Yb} {a b c:Value} (h1:gB2 h a b) (hl:h.length≤G.length) (h2:gB2 G b c):gB2 h a c:=by
 rcases h2 with h2 | ⟨x,h2,h3⟩
 · rcases h1 with h1 | ⟨y,h1,h4⟩
   · exact .inl (h2.trans h1)
   · exact .inr ⟨y,h2.trans h1,h4⟩
 · exact .inr ⟨x,h2,by omega⟩
theorem extS {h G G' : Yb} {pf:Nat} {fv fv1:Value} (h1:Ext (gS2 pf fv) h G) (hf:gB2 h fv fv1) (h2:Ext (gS2 pf fv1) G G'):Ext (gS2 pf fv) h G' :=
 ⟨Nat.le_trans h1.1 h2.1,fun i hi hn=>by
  refine (h2.2 i (Nat.lt_of_lt_of_le hi h1.1) fun hc=>?_).trans (h1.2 i hi hn)
  rcases hc with hc | hc
  · exact hn (.inl hc)
  · rcases hf with hf | ⟨b,hf,hb⟩
    · exact hn (.inr (hf▸hc))
    · rw [hf] at hc; cases hc; omega⟩
theorem KH.go {h0 h h' : Yb} {pf:Nat} {fv:Value} (k:KH h0 pf h) (hfr : ∀ b,Ye fv=some b→h0.length≤b) (hE:Ext (gS2 pf fv) h h'):KH h0 pf h' :=
 ⟨Nat.le_trans k.1 hE.1,fun i hi hn=>(hE.2 i (Nat.lt_of_lt_of_le hi k.1) fun hc=>by
  rcases hc with hc | hc
  · exact hn hc
  · have:=hfr i hc; omega).trans (k.2 i hi hn)⟩
def andTo (c f:F6) (m:Nat):F6:=fun i=>if i<m then c i &&& f i else c i
theorem andTo_upd (c f:F6) (m:Nat):upd6 (andTo c f m) m (andTo c f m m &&& f m)=andTo c f (m+1):=by
 funext i
 simp only [upd6,andTo,Nat.lt_irrefl,if_false]
 by_cases h1:i=m
 · rw [if_pos h1,h1,if_pos (by omega)]
 · rw [if_neg h1]
   by_cases h2:i<m
   · rw [if_pos h2,if_pos (by omega)]
   · rw [if_neg h2,if_neg (by omega)]
theorem s106_callW [Tabs Tryd.prog] {args:List Value} {h:Yb} {Q:Value→Yb→Prop} (hsz:args.length≤68) (hk:AWS Tryd.prog 68 s106 (Zu Tryd.prog [.tmp 11] Q) (Zp 0 args) h):ACall Tryd.prog 106 args h Q :=
 Wx Tryd.func106 rfl (enters_of Tryd.func106 (by kernel_rfl) rfl) rfl rfl (by decide) s106_strip s106_ok hsz hk
theorem real_grow [Tabs prog] {o:List Int} (ho:ord o=true) {h0:Yb} {po pa ps pf pg:Nat} {av sv:Value} (re:RE o h0 po pa ps pf pg av sv) : ∀ (s fr:Nat) (pre:List Nat) (h:Yb) (fv:Value),(s=0→pre≠[])→pre.length+s≤3→(∀ k∈pre,k<cn o)→fr≤cn o→KH h0 pf h→FD h0 pf h fv pre →
  ACall prog 106 [Zx (fr:Nat),Zx (s:Nat),sixV (cmF o pre),.pointer (some ⟨po,0,none⟩),.pointer (some ⟨pa,0,none⟩),.pointer (some ⟨ps,0,none⟩),.pointer (some ⟨pf,0,none⟩),.pointer (some ⟨pg,0,none⟩)] h
   fun r h'=>Ext (gS2 pf fv) h h'∧∃ fv',gB2 h fv fv'∧match srch (sepB o) (cn o) 1 s fr pre with
    | some q=>r = .bool true∧FD h0 pf h' fv' q
    | none=>r = .bool false∧FD h0 pf h' fv' pre:=by
 have hln:=Yu ho
 have hcn:=cn_le ho
 have sh:shp prog 121=some (some 6):=shp_121
 have f1 : ∀ {K:Value→Prop},Xs prog 77 (.pointer (some ⟨po,0,none⟩)) 1 K=K (.pointer (some ⟨po,1,none⟩)):=fun {K}=>by
  simp [Xs,Vg,esz_75]
 intro s
 induction s with
 | zero =>
   intro fr pre h fv hs0 hpl hpk hfr kh fd
   obtain ⟨H,hH⟩ : ∃ H,H=h++[Blk.cells (sixC (cmF o pre)) 121 false]:=⟨_,rfl⟩
   have hE:Ext (fun _=>False) h H:=by rw [hH]; exact Ext.app _ _ _
   have b10:H[h.length]? = some (.cells (sixC (cmF o pre)) 121 false):=by rw [hH]; exact Yl _ _
   have hbx : ∀ {K:Value→Yb→Prop},boxK prog h 121 (sixV (cmF o pre)) K=K (Ys h) H:=fun {K}=>by
    rw [hH]; simp [boxK,esz_121,Ys,cellsOf,sixV]
   have khH:=kh.ext hE
   have hz:(((0:Nat):Int)==0)=true:=rfl
   have hdec:eq6 (cmF o pre) (bt o)=sepB o pre:=by
    rw [Bool.eq_iff_iff,eq6_iff]; exact cmF_sep ho (hs0 rfl) hpk
   refine s106_callW (by simp) ?_
   simp only [s106]
   refine Yc fun N1 hN1=>?_
   simp (maxSteps:=2000000) only [s106,↓Za,↓Zi,↓Zr,↓Ze,↓Zo,↓Zs,↓Zg,↓Zm,↓Zf,↓Zb,↓Zc,↓vdn,vup,Zk,Zn,Zl,Zh,Zj,List.map_cons,List.map_nil,cond_true,cond_false,aop,Zv,Zq,Zp,ev,sput,Zt,Zy,Ya,unK,Zd,Zw,Nat.reduceBEq,Nat.reduceAdd,Int.reduceBEq,Int.reduceBNe,Int.reduceLT,Zu,Zz,tup,tyf,hbx,Ys]
   refine hN1 [(0,Zx (fr:Nat)),(1,Zx (0:Nat)),(3,.pointer (some ⟨po,0,none⟩)),(4,.pointer (some ⟨pa,0,none⟩)),(5,.pointer (some ⟨ps,0,none⟩)),(6,.pointer (some ⟨pf,0,none⟩)),(7,.pointer (some ⟨pg,0,none⟩)),(10,.pointer (some ⟨h.length,0,none⟩)),(11,.bool false)] _ _ ?_ (by simp (maxSteps:=2000000) only [↓Za,↓Zi,↓Zr,↓Ze,↓Zo,↓Zs,↓Zg,↓Zm,↓Zf,↓Zb,↓Zc,↓vdn,vup,Zk,Zn,Zl,Zh,Zj,List.map_cons,List.map_nil,cond_true,cond_false,aop,Zv,Zq,Zp,ev,sput,Zt,Zy,Ya,unK,Zd,Zw,Nat.reduceBEq,Nat.reduceAdd,Int.reduceBEq,Int.reduceBNe,Int.reduceLT,Zu,Zz,tup,tyf])
   clear hN1
   try clear N1
   refine Yi fun M hM=>?_
   refine Yc fun N2 hN2=>?_
   simp (maxSteps:=2000000) only [s106,↓Za,↓Zi,↓Zr,↓Ze,↓Zo,↓Zs,↓Zg,↓Zm,↓Zf,↓Zb,↓Zc,↓vdn,vup,Zk,Zn,Zl,Zh,Zj,List.map_cons,List.map_nil,cond_true,cond_false,aop,Zv,Zq,Zp,ev,sput,Zt,Zy,Ya,unK,Zd,Zw,Nat.reduceBEq,Nat.reduceAdd,Int.reduceBEq,Int.reduceBNe,Int.reduceLT,Zu,Zz,tup,tyf,hz]
   refine hN2 [(0,Zx (fr:Nat)),(1,Zx (0:Nat)),(3,.pointer (some ⟨po,0,none⟩)),(4,.pointer (some ⟨pa,0,none⟩)),(5,.pointer (some ⟨ps,0,none⟩)),(6,.pointer (some ⟨pf,0,none⟩)),(7,.pointer (some ⟨pg,0,none⟩)),(10,.pointer (some ⟨h.length,0,none⟩)),(11,.bool false),(16,.bool true)] _ _ ?_ (by simp (maxSteps:=2000000) only [↓Za,↓Zi,↓Zr,↓Ze,↓Zo,↓Zs,↓Zg,↓Zm,↓Zf,↓Zb,↓Zc,↓vdn,vup,Zk,Zn,Zl,Zh,Zj,List.map_cons,List.map_nil,cond_true,cond_false,aop,Zv,Zq,Zp,ev,sput,Zt,Zy,Ya,unK,Zd,Zw,Nat.reduceBEq,Nat.reduceAdd,Int.reduceBEq,Int.reduceBNe,Int.reduceLT,Zu,Zz,tup,tyf])
   clear hN2
   try clear N2
   refine Wh rfl ?_
   refine Yk ?_
   simp (maxSteps:=2000000) only [s106,↓Za,↓Zi,↓Zr,↓Ze,↓Zo,↓Zs,↓Zg,↓Zm,↓Zf,↓Zb,↓Zc,↓vdn,vup,Zk,Zn,Zl,Zh,Zj,List.map_cons,List.map_nil,cond_true,cond_false,aop,Zv,Zq,Zp,ev,sput,Zt,Zd,Nat.reduceBEq,Nat.reduceAdd,Int.reduceBEq,Int.reduceBNe,Int.reduceLT,Zu,Zz,tup,tyf,six_load b10 sh,f1,load75 ho (khH.at_ re.ob re.fo),bin6,hdec]
   refine ⟨hE.mono fun _ h=>h.elim,fv,.inl rfl,?_⟩
   rw [srch]
   cases hsp:sepB o pre with
   | true=>exact ⟨rfl,fd.ext hE⟩
   | false=>exact ⟨rfl,fd.ext hE⟩
 | succ s ih =>
   intro fr pre h fv hs0 hpl hpk hfr kh fd
   obtain ⟨H,hH⟩ : ∃ H,H=h++[Blk.cells (sixC (cmF o pre)) 121 false]:=⟨_,rfl⟩
   have hE:Ext (fun _=>False) h H:=by rw [hH]; exact Ext.app _ _ _
   have b10:H[h.length]? = some (.cells (sixC (cmF o pre)) 121 false):=by rw [hH]; exact Yl _ _
   have hbx : ∀ {K:Value→Yb→Prop},boxK prog h 121 (sixV (cmF o pre)) K=K (Ys h) H:=fun {K}=>by
    rw [hH]; simp [boxK,esz_121,Ys,cellsOf,sixV]
   have khH:=kh.ext hE
   have hhl:=kh.1
   have hz:(((s+1:Nat):Int)==0)=false:=by rw [beq_eq_false_iff_ne]; omega
   refine s106_callW (by simp) ?_
   simp only [s106]
   refine Yc fun N3 hN3=>?_
   simp (maxSteps:=2000000) only [s106,↓Za,↓Zi,↓Zr,↓Ze,↓Zo,↓Zs,↓Zg,↓Zm,↓Zf,↓Zb,↓Zc,↓vdn,vup,Zk,Zn,Zl,Zh,Zj,List.map_cons,List.map_nil,cond_true,cond_false,aop,Zv,Zq,Zp,ev,sput,Zt,Zy,Ya,unK,Zd,Zw,Nat.reduceBEq,Nat.reduceAdd,Int.reduceBEq,Int.reduceBNe,Int.reduceLT,Zu,Zz,tup,tyf,hbx,Ys]
   refine hN3 [(0,Zx (fr:Nat)),(1,Zx (s+1:Nat)),(3,.pointer (some ⟨po,0,none⟩)),(4,.pointer (some ⟨pa,0,none⟩)),(5,.pointer (some ⟨ps,0,none⟩)),(6,.pointer (some ⟨pf,0,none⟩)),(7,.pointer (some ⟨pg,0,none⟩)),(10,.pointer (some ⟨h.length,0,none⟩)),(11,.bool false)] _ _ ?_ (by simp (maxSteps:=2000000) only [↓Za,↓Zi,↓Zr,↓Ze,↓Zo,↓Zs,↓Zg,↓Zm,↓Zf,↓Zb,↓Zc,↓vdn,vup,Zk,Zn,Zl,Zh,Zj,List.map_cons,List.map_nil,cond_true,cond_false,aop,Zv,Zq,Zp,ev,sput,Zt,Zy,Ya,unK,Zd,Zw,Nat.reduceBEq,Nat.reduceAdd,Int.reduceBEq,Int.reduceBNe,Int.reduceLT,Zu,Zz,tup,tyf])
   clear hN3
   try clear N3
   refine Yi fun M hM=>?_
   refine Yc fun N4 hN4=>?_
   simp (maxSteps:=2000000) only [s106,↓Za,↓Zi,↓Zr,↓Ze,↓Zo,↓Zs,↓Zg,↓Zm,↓Zf,↓Zb,↓Zc,↓vdn,vup,Zk,Zn,Zl,Zh,Zj,List.map_cons,List.map_nil,cond_true,cond_false,aop,Zv,Zq,Zp,ev,sput,Zt,Zy,Ya,unK,Zd,Zw,Nat.reduceBEq,Nat.reduceAdd,Int.reduceBEq,Int.reduceBNe,Int.reduceLT,Zu,Zz,tup,tyf,hz]
   refine hN4 [(0,Zx (fr:Nat)),(1,Zx (s+1:Nat)),(3,.pointer (some ⟨po,0,none⟩)),(4,.pointer (some ⟨pa,0,none⟩)),(5,.pointer (some ⟨ps,0,none⟩)),(6,.pointer (some ⟨pf,0,none⟩)),(7,.pointer (some ⟨pg,0,none⟩)),(10,.pointer (some ⟨h.length,0,none⟩)),(11,.bool false),(16,.bool false)] _ _ ?_ (by simp (maxSteps:=2000000) only [↓Za,↓Zi,↓Zr,↓Ze,↓Zo,↓Zs,↓Zg,↓Zm,↓Zf,↓Zb,↓Zc,↓vdn,vup,Zk,Zn,Zl,Zh,Zj,List.map_cons,List.map_nil,cond_true,cond_false,aop,Zv,Zq,Zp,ev,sput,Zt,Zy,Ya,unK,Zd,Zw,Nat.reduceBEq,Nat.reduceAdd,Int.reduceBEq,Int.reduceBNe,Int.reduceLT,Zu,Zz,tup,tyf])
   clear hN4
   try clear N4
   refine Xx rfl ?_
   refine Yk ?_
   simp (maxSteps:=2000000) only [s106,↓Za,↓Zi,↓Zr,↓Ze,↓Zo,↓Zs,↓Zg,↓Zm,↓Zf,↓Zb,↓Zc,↓vdn,vup,Zk,Zn,Zl,Zh,Zj,List.map_cons,List.map_nil,cond_true,cond_false,aop,Zv,Zq,Zp,ev,sput,Zt,Zy,Ya,unK,Zd,Zw,Nat.reduceBEq,Nat.reduceAdd,Int.reduceBEq,Int.reduceBNe,Int.reduceLT,Zu,Zz,tup,tyf]
   refine hM [(0,Zx (fr:Nat)),(1,Zx (s+1:Nat)),(3,.pointer (some ⟨po,0,none⟩)),(4,.pointer (some ⟨pa,0,none⟩)),(5,.pointer (some ⟨ps,0,none⟩)),(6,.pointer (some ⟨pf,0,none⟩)),(7,.pointer (some ⟨pg,0,none⟩)),(10,.pointer (some ⟨h.length,0,none⟩)),(11,.bool false)] _ _ ?_ (by simp (maxSteps:=2000000) only [↓Za,↓Zi,↓Zr,↓Ze,↓Zo,↓Zs,↓Zg,↓Zm,↓Zf,↓Zb,↓Zc,↓vdn,vup,Zk,Zn,Zl,Zh,Zj,List.map_cons,List.map_nil,cond_true,cond_false,aop,Zv,Zq,Zp,ev,sput,Zt,Zy,Ya,unK,Zd,Zw,Nat.reduceBEq,Nat.reduceAdd,Int.reduceBEq,Int.reduceBNe,Int.reduceLT,Zu,Zz,tup,tyf])
   clear hM
   try clear M
   refine Yi fun Z hZ=>?_
   refine Yc fun N5 hN5=>?_
   simp (maxSteps:=2000000) only [s106,↓Za,↓Zi,↓Zr,↓Ze,↓Zo,↓Zs,↓Zg,↓Zm,↓Zf,↓Zb,↓Zc,↓vdn,vup,Zk,Zn,Zl,Zh,Zj,List.map_cons,List.map_nil,cond_true,cond_false,aop,Zv,Zq,Zp,ev,sput,Zt,Zy,Ya,unK,Zd,Zw,Nat.reduceBEq,Nat.reduceAdd,Int.reduceBEq,Int.reduceBNe,Int.reduceLT,Zu,Zz,tup,tyf]
   refine hN5 [(1,Zx (s+1:Nat)),(3,.pointer (some ⟨po,0,none⟩)),(4,.pointer (some ⟨pa,0,none⟩)),(5,.pointer (some ⟨ps,0,none⟩)),(6,.pointer (some ⟨pf,0,none⟩)),(7,.pointer (some ⟨pg,0,none⟩)),(10,.pointer (some ⟨h.length,0,none⟩)),(11,.bool false),(12,Zx (fr:Nat))] _ _ ?_ (by simp (maxSteps:=2000000) only [↓Za,↓Zi,↓Zr,↓Ze,↓Zo,↓Zs,↓Zg,↓Zm,↓Zf,↓Zb,↓Zc,↓vdn,vup,Zk,Zn,Zl,Zh,Zj,List.map_cons,List.map_nil,cond_true,cond_false,aop,Zv,Zq,Zp,ev,sput,Zt,Zy,Ya,unK,Zd,Zw,Nat.reduceBEq,Nat.reduceAdd,Int.reduceBEq,Int.reduceBNe,Int.reduceLT,Zu,Zz,tup,tyf])
   clear hN5
   try clear N5
   refine Yr ?_
   refine Yn fun Q hQ=>?_
   refine We (γ:=Nat×Value×Yb) (fun g=>fr≤g.1∧g.1≤cn o∧Ext (gS2 pf fv) h g.2.2∧gB2 h fv g.2.1∧FD h0 pf g.2.2 g.2.1 pre∧g.2.2[h.length]? = some (.cells (sixC (cmF o pre)) 121 false)∧∀ j,fr≤j→j<g.1→srch (sepB o) (cn o) 1 s (j+1) (pre++[j])=none)
    (fun g=>([(1,Zx (s+1:Nat)),(3,.pointer (some ⟨po,0,none⟩)),(4,.pointer (some ⟨pa,0,none⟩)),(5,.pointer (some ⟨ps,0,none⟩)),(6,.pointer (some ⟨pf,0,none⟩)),(7,.pointer (some ⟨pg,0,none⟩)),(10,.pointer (some ⟨h.length,0,none⟩)),(11,.bool false),(12,Zx (g.1:Nat))],g.2.2)) (fun g=>cn o-g.1) (fr,fv,H) ⟨Nat.le_refl _,hfr,hE.mono fun _ h=>h.elim,.inl rfl,fd.ext hE,b10,fun j h1 h2=>absurd h2 (Nat.not_lt_of_le h1)⟩ (by simp (maxSteps:=2000000) only [↓Za,↓Zi,↓Zr,↓Ze,↓Zo,↓Zs,↓Zg,↓Zm,↓Zf,↓Zb,↓Zc,↓vdn,vup,Zk,Zn,Zl,Zh,Zj,List.map_cons,List.map_nil,cond_true,cond_false,aop,Zv,Zq,Zp,ev,sput,Zt,Zy,Ya,unK,Zd,Zw,Nat.reduceBEq,Nat.reduceAdd,Int.reduceBEq,Int.reduceBNe,Int.reduceLT,Zu,Zz,tup,tyf]) rfl ?_
   rintro ⟨k,fv1,G⟩ ⟨hk1,hk2,eG,gG,fG,bG,hno⟩
   simp only at hk1 hk2 eG gG fG bG hno
   have kG:=kh.go fd.fr eG
   refine Yn fun Q2 hQ2=>?_
   simp only [l106_1]
   have aG:=kG.at_ re.ab_ re.fa
   by_cases hin:(k:Int)<((cn o:Nat):Int)
   · have hk' : k<cn o:=by omega
     obtain ⟨G1,hG1⟩ : ∃ G1,G1=G++[Blk.cells (sixC (cmF o pre)) 121 false]:=⟨_,rfl⟩
     have hEG1:Ext (fun _=>False) G G1:=by rw [hG1]; exact Ext.app _ _ _
     have b13:G1[G.length]? = some (.cells (sixC (cmF o pre)) 121 false):=by rw [hG1]; exact Yl _ _
     refine Yi fun C hC=>?_
     refine Yc fun N6 hN6=>?_
     simp (maxSteps:=2000000) only [s106,↓Za,↓Zi,↓Zr,↓Ze,↓Zo,↓Zs,↓Zg,↓Zm,↓Zf,↓Zb,↓Zc,↓vdn,vup,Zk,Zn,Zl,Zh,Zj,List.map_cons,List.map_nil,cond_true,cond_false,aop,Zv,Zq,Zp,ev,sput,Zt,Zy,Ya,unK,Zd,Zw,Nat.reduceBEq,Nat.reduceAdd,Int.reduceBEq,Int.reduceBNe,Int.reduceLT,Zu,Zz,tup,tyf,Xh aG shp_45,re.al,hin]
     refine hN6 [(1,Zx (s+1:Nat)),(3,.pointer (some ⟨po,0,none⟩)),(4,.pointer (some ⟨pa,0,none⟩)),(5,.pointer (some ⟨ps,0,none⟩)),(6,.pointer (some ⟨pf,0,none⟩)),(7,.pointer (some ⟨pg,0,none⟩)),(10,.pointer (some ⟨h.length,0,none⟩)),(11,.bool false),(12,Zx (k:Nat)),(25,.bool true)] _ _ ?_ (by simp (maxSteps:=2000000) only [↓Za,↓Zi,↓Zr,↓Ze,↓Zo,↓Zs,↓Zg,↓Zm,↓Zf,↓Zb,↓Zc,↓vdn,vup,Zk,Zn,Zl,Zh,Zj,List.map_cons,List.map_nil,cond_true,cond_false,aop,Zv,Zq,Zp,ev,sput,Zt,Zy,Ya,unK,Zd,Zw,Nat.reduceBEq,Nat.reduceAdd,Int.reduceBEq,Int.reduceBNe,Int.reduceLT,Zu,Zz,tup,tyf])
     clear hN6
     try clear N6
     refine Wh rfl ?_
     refine Yk ?_
     simp (maxSteps:=2000000) only [s106,↓Za,↓Zi,↓Zr,↓Ze,↓Zo,↓Zs,↓Zg,↓Zm,↓Zf,↓Zb,↓Zc,↓vdn,vup,Zk,Zn,Zl,Zh,Zj,List.map_cons,List.map_nil,cond_true,cond_false,aop,Zv,Zq,Zp,ev,sput,Zt,Zy,Ya,unK,Zd,Zw,Nat.reduceBEq,Nat.reduceAdd,Int.reduceBEq,Int.reduceBNe,Int.reduceLT,Zu,Zz,tup,tyf]
     refine hC [(1,Zx (s+1:Nat)),(3,.pointer (some ⟨po,0,none⟩)),(4,.pointer (some ⟨pa,0,none⟩)),(5,.pointer (some ⟨ps,0,none⟩)),(6,.pointer (some ⟨pf,0,none⟩)),(7,.pointer (some ⟨pg,0,none⟩)),(10,.pointer (some ⟨h.length,0,none⟩)),(11,.bool false),(12,Zx (k:Nat))] _ _ ?_ (by simp (maxSteps:=2000000) only [↓Za,↓Zi,↓Zr,↓Ze,↓Zo,↓Zs,↓Zg,↓Zm,↓Zf,↓Zb,↓Zc,↓vdn,vup,Zk,Zn,Zl,Zh,Zj,List.map_cons,List.map_nil,cond_true,cond_false,aop,Zv,Zq,Zp,ev,sput,Zt,Zy,Ya,unK,Zd,Zw,Nat.reduceBEq,Nat.reduceAdd,Int.reduceBEq,Int.reduceBNe,Int.reduceLT,Zu,Zz,tup,tyf])
     clear hC
     try clear C
     refine Yi fun B hB=>?_
     refine Yr ?_
     refine Yc fun N7 hN7=>?_
     simp (maxSteps:=2000000) only [s106,↓Za,↓Zi,↓Zr,↓Ze,↓Zo,↓Zs,↓Zg,↓Zm,↓Zf,↓Zb,↓Zc,↓vdn,vup,Zk,Zn,Zl,Zh,Zj,List.map_cons,List.map_nil,cond_true,cond_false,aop,Zv,Zq,Zp,ev,sput,Zt,Zy,Ya,unK,Zd,Zw,Nat.reduceBEq,Nat.reduceAdd,Int.reduceBEq,Int.reduceBNe,Int.reduceLT,Zu,Zz,tup,tyf,six_load bG sh,Xr,Ys,zero_121,six_store (Yl G (.cells [.int .i64 0,.int .i64 0,.int .i64 0,.int .i64 0,.int .i64 0,.int .i64 0] 121 false)) rfl sh,List.set_append_right,Nat.le_refl,Nat.sub_self,List.set_cons_zero]
     rw [← hG1]
     refine hN7 [(1,Zx (s+1:Nat)),(3,.pointer (some ⟨po,0,none⟩)),(4,.pointer (some ⟨pa,0,none⟩)),(5,.pointer (some ⟨ps,0,none⟩)),(6,.pointer (some ⟨pf,0,none⟩)),(7,.pointer (some ⟨pg,0,none⟩)),(10,.pointer (some ⟨h.length,0,none⟩)),(11,.bool false),(12,Zx (k:Nat)),(13,.pointer (some ⟨G.length,0,none⟩))] _ _ ?_ (by simp (maxSteps:=2000000) only [↓Za,↓Zi,↓Zr,↓Ze,↓Zo,↓Zs,↓Zg,↓Zm,↓Zf,↓Zb,↓Zc,↓vdn,vup,Zk,Zn,Zl,Zh,Zj,List.map_cons,List.map_nil,cond_true,cond_false,aop,Zv,Zq,Zp,ev,sput,Zt,Zy,Ya,unK,Zd,Zw,Nat.reduceBEq,Nat.reduceAdd,Int.reduceBEq,Int.reduceBNe,Int.reduceLT,Zu,Zz,tup,tyf])
     clear hN7
     try clear N7
     obtain ⟨X,hX⟩ : ∃ X:F6→Yb,X=fun f=>G1.set G.length (.cells (sixC f) 121 false):=⟨_,rfl⟩
     have hGl1:=Yd b13
     have xX : ∀ f,(X f)[G.length]? = some (.cells (sixC f) 121 false):=fun f=>by rw [hX]; exact Xc hGl1 _
     have xset : ∀ f g,(X f).set G.length (.cells (sixC g) 121 false)=X g:=fun f g=>by rw [hX]; simp only [List.set_set]
     have xE : ∀ f,Ext (fun _=>False) G (X f):=fun f=>by rw [hX]; exact hEG1.set_ge (Nat.le_refl _) _
     have hX0:G1=X (andTo (cmF o pre) (bhF (lin o k)) 0):=by
      rw [hX]
      refine List.ext_getElem? fun i=>?_
      by_cases hi:G.length=i
      · subst hi
        rw [Xc hGl1,b13,sixC_congr (f:=cmF o pre) (g:=andTo (cmF o pre) (bhF (lin o k)) 0) fun i _=>by simp [andTo]]
      · rw [List.getElem?_set_ne hi]
     rw [hX0]
     have hrow:k<((Yq o).map bhF).length:=by rw [List.length_map,Xj]; exact hk'
     have hrg:((Yq o).map bhF).getD k z6=bhF (lin o k):=by
      have hk3:k<(Yq o).length:=by rw [Xj]; exact hk'
      rw [List.getD,List.getElem?_map,List.getElem?_eq_getElem hk3,lin,List.getD,List.getElem?_eq_getElem hk3]; rfl
     have hb64 : ∀ i,bhF (lin o k) i<64:=fun i=>by
      have lf:=lin_facts ho hk'
      exact msk_lt6 fun x hx=>by
       have:=List.mem_range.1 (lf.pm.mem_iff.1 (List.mem_of_mem_drop hx)); omega
     refine Yi fun Y hY=>?_
     refine Yc fun N8 hN8=>?_
     simp (maxSteps:=2000000) only [s106,↓Za,↓Zi,↓Zr,↓Ze,↓Zo,↓Zs,↓Zg,↓Zm,↓Zf,↓Zb,↓Zc,↓vdn,vup,Zk,Zn,Zl,Zh,Zj,List.map_cons,List.map_nil,cond_true,cond_false,aop,Zv,Zq,Zp,ev,sput,Zt,Zy,Ya,unK,Zd,Zw,Nat.reduceBEq,Nat.reduceAdd,Int.reduceBEq,Int.reduceBNe,Int.reduceLT,Zu,Zz,tup,tyf]
     refine hN8 [(1,Zx (s+1:Nat)),(3,.pointer (some ⟨po,0,none⟩)),(4,.pointer (some ⟨pa,0,none⟩)),(5,.pointer (some ⟨ps,0,none⟩)),(6,.pointer (some ⟨pf,0,none⟩)),(7,.pointer (some ⟨pg,0,none⟩)),(10,.pointer (some ⟨h.length,0,none⟩)),(11,.bool false),(12,Zx (k:Nat)),(13,.pointer (some ⟨G.length,0,none⟩)),(29,.int .i64 0)] _ _ ?_ (by simp (maxSteps:=2000000) only [↓Za,↓Zi,↓Zr,↓Ze,↓Zo,↓Zs,↓Zg,↓Zm,↓Zf,↓Zb,↓Zc,↓vdn,vup,Zk,Zn,Zl,Zh,Zj,List.map_cons,List.map_nil,cond_true,cond_false,aop,Zv,Zq,Zp,ev,sput,Zt,Zy,Ya,unK,Zd,Zw,Nat.reduceBEq,Nat.reduceAdd,Int.reduceBEq,Int.reduceBNe,Int.reduceLT,Zu,Zz,tup,tyf])
     clear hN8
     try clear N8
     refine Yr ?_
     refine Yn fun Qa hQa=>?_
     refine We (γ:=Nat) (fun i=>i≤6) (fun i=>([(1,Zx (s+1:Nat)),(3,.pointer (some ⟨po,0,none⟩)),(4,.pointer (some ⟨pa,0,none⟩)),(5,.pointer (some ⟨ps,0,none⟩)),(6,.pointer (some ⟨pf,0,none⟩)),(7,.pointer (some ⟨pg,0,none⟩)),(10,.pointer (some ⟨h.length,0,none⟩)),(11,.bool false),(12,Zx (k:Nat)),(13,.pointer (some ⟨G.length,0,none⟩)),(29,Zx (i:Nat))],X (andTo (cmF o pre) (bhF (lin o k)) i))) (fun i=>6-i) 0 (Nat.zero_le _) (by simp (maxSteps:=2000000) only [↓Za,↓Zi,↓Zr,↓Ze,↓Zo,↓Zs,↓Zg,↓Zm,↓Zf,↓Zb,↓Zc,↓vdn,vup,Zk,Zn,Zl,Zh,Zj,List.map_cons,List.map_nil,cond_true,cond_false,aop,Zv,Zq,Zp,ev,sput,Zt,Zy,Ya,unK,Zd,Zw,Nat.reduceBEq,Nat.reduceAdd,Int.reduceBEq,Int.reduceBNe,Int.reduceLT,Zu,Zz,tup,tyf,Int.natCast_zero]) rfl ?_
     rintro i hi
     refine Yn fun Qb hQb=>?_
     simp only [l106_0]
     by_cases hjin:(i:Int)<6
     · have hi6:i<6:=by omega
       obtain ⟨D,hD⟩ : ∃ D,D=andTo (cmF o pre) (bhF (lin o k)) i:=⟨_,rfl⟩
       have kX:=kG.ext (xE D)
       have oX:=re.sets kX
       have sX:=kX.at_ re.sb re.fs
       obtain ⟨b6,q1,q2,q3⟩:=oX.at_ (P:=prog) (t:=120) (ta:=121) (ti:=3) (ea:=3) el_120 esz_121 und_121 Xt Xf hrow hi6
       rw [hrg] at q3
       have hup:=andTo_upd (cmF o pre) (bhF (lin o k)) i
       rw [← hD] at hup ⊢
       have hD64:D i<64:=by
        rw [hD,andTo,if_neg (Nat.lt_irrefl i)]; exact cmF_lt o hln.2 pre i
       have hand:=and_six (a:=D i) (b:=bhF (lin o k) i) hD64 (hb64 i)
       refine Yc fun N9 hN9=>?_
       simp (maxSteps:=2000000) only [s106,↓Za,↓Zi,↓Zr,↓Ze,↓Zo,↓Zs,↓Zg,↓Zm,↓Zf,↓Zb,↓Zc,↓vdn,vup,Zk,Zn,Zl,Zh,Zj,List.map_cons,List.map_nil,cond_true,cond_false,aop,Zv,Zq,Zp,ev,sput,Zt,Zy,Ya,unK,Zd,Zw,Nat.reduceBEq,Nat.reduceAdd,Int.reduceBEq,Int.reduceBNe,Int.reduceLT,Zu,Zz,tup,tyf,hjin]
       refine hN9 [(1,Zx (s+1:Nat)),(3,.pointer (some ⟨po,0,none⟩)),(4,.pointer (some ⟨pa,0,none⟩)),(5,.pointer (some ⟨ps,0,none⟩)),(6,.pointer (some ⟨pf,0,none⟩)),(7,.pointer (some ⟨pg,0,none⟩)),(10,.pointer (some ⟨h.length,0,none⟩)),(11,.bool false),(12,Zx (k:Nat)),(13,.pointer (some ⟨G.length,0,none⟩)),(29,Zx (i:Nat)),(30,.bool true)] _ _ ?_ (by simp (maxSteps:=2000000) only [↓Za,↓Zi,↓Zr,↓Ze,↓Zo,↓Zs,↓Zg,↓Zm,↓Zf,↓Zb,↓Zc,↓vdn,vup,Zk,Zn,Zl,Zh,Zj,List.map_cons,List.map_nil,cond_true,cond_false,aop,Zv,Zq,Zp,ev,sput,Zt,Zy,Ya,unK,Zd,Zw,Nat.reduceBEq,Nat.reduceAdd,Int.reduceBEq,Int.reduceBNe,Int.reduceLT,Zu,Zz,tup,tyf])
       clear hN9
       try clear N9
       refine Yc fun N10 hN10=>?_
       simp (maxSteps:=2000000) only [s106,↓Za,↓Zi,↓Zr,↓Ze,↓Zo,↓Zs,↓Zg,↓Zm,↓Zf,↓Zb,↓Zc,↓vdn,vup,Zk,Zn,Zl,Zh,Zj,List.map_cons,List.map_nil,cond_true,cond_false,aop,Zv,Zq,Zp,ev,sput,Zt,Zy,Ya,unK,Zd,Zw,Nat.reduceBEq,Nat.reduceAdd,Int.reduceBEq,Int.reduceBNe,Int.reduceLT,Zu,Zz,tup,tyf]
       refine hN10 [(1,Zx (s+1:Nat)),(3,.pointer (some ⟨po,0,none⟩)),(4,.pointer (some ⟨pa,0,none⟩)),(5,.pointer (some ⟨ps,0,none⟩)),(6,.pointer (some ⟨pf,0,none⟩)),(7,.pointer (some ⟨pg,0,none⟩)),(10,.pointer (some ⟨h.length,0,none⟩)),(11,.bool false),(12,Zx (k:Nat)),(13,.pointer (some ⟨G.length,0,none⟩)),(29,Zx (i:Nat))] _ _ ?_ (by simp (maxSteps:=2000000) only [↓Za,↓Zi,↓Zr,↓Ze,↓Zo,↓Zs,↓Zg,↓Zm,↓Zf,↓Zb,↓Zc,↓vdn,vup,Zk,Zn,Zl,Zh,Zj,List.map_cons,List.map_nil,cond_true,cond_false,aop,Zv,Zq,Zp,ev,sput,Zt,Zy,Ya,unK,Zd,Zw,Nat.reduceBEq,Nat.reduceAdd,Int.reduceBEq,Int.reduceBNe,Int.reduceLT,Zu,Zz,tup,tyf])
       clear hN10
       try clear N10
       refine Yi fun E hE=>?_
       refine Yr ?_
       refine Yc fun N11 hN11=>?_
       simp (maxSteps:=2000000) only [s106,↓Za,↓Zi,↓Zr,↓Ze,↓Zo,↓Zs,↓Zg,↓Zm,↓Zf,↓Zb,↓Zc,↓vdn,vup,Zk,Zn,Zl,Zh,Zj,List.map_cons,List.map_nil,cond_true,cond_false,aop,Zv,Zq,Zp,ev,sput,Zt,Zy,Ya,unK,Zd,Zw,Nat.reduceBEq,Nat.reduceAdd,Int.reduceBEq,Int.reduceBNe,Int.reduceLT,Zu,Zz,tup,tyf]
       refine hN11 [(1,Zx (s+1:Nat)),(3,.pointer (some ⟨po,0,none⟩)),(4,.pointer (some ⟨pa,0,none⟩)),(5,.pointer (some ⟨ps,0,none⟩)),(6,.pointer (some ⟨pf,0,none⟩)),(7,.pointer (some ⟨pg,0,none⟩)),(10,.pointer (some ⟨h.length,0,none⟩)),(11,.bool false),(12,Zx (k:Nat)),(13,.pointer (some ⟨G.length,0,none⟩)),(14,Zx (i:Nat)),(29,Zx (i:Nat))] _ _ ?_ (by simp (maxSteps:=2000000) only [↓Za,↓Zi,↓Zr,↓Ze,↓Zo,↓Zs,↓Zg,↓Zm,↓Zf,↓Zb,↓Zc,↓vdn,vup,Zk,Zn,Zl,Zh,Zj,List.map_cons,List.map_nil,cond_true,cond_false,aop,Zv,Zq,Zp,ev,sput,Zt,Zy,Ya,unK,Zd,Zw,Nat.reduceBEq,Nat.reduceAdd,Int.reduceBEq,Int.reduceBNe,Int.reduceLT,Zu,Zz,tup,tyf])
       clear hN11
       try clear N11
       refine Yk ?_
       simp only [q106_10]
       refine Xp [] (by kernel_rfl) (by kernel_rfl) (by kernel_rfl) (by kernel_rfl) ?_
       simp (maxSteps:=2000000) only [s106,↓Za,↓Zi,↓Zr,↓Ze,↓Zo,↓Zs,↓Zg,↓Zm,↓Zf,↓Zb,↓Zc,↓vdn,vup,Zk,Zn,Zl,Zh,Zj,List.map_cons,List.map_nil,cond_true,cond_false,aop,Zv,Zq,Zp,ev,sput,Zt,Zy,Ya,unK,Zd,Zw,Nat.reduceBEq,Nat.reduceAdd,Int.reduceBEq,Int.reduceBNe,Int.reduceLT,Zu,Zz,tup,tyf,six_idx und_121 Xt hi6,Nat.zero_add,six_load1 (xX D) Xf hi6,Xh sX shp_120,q1,q2,q3,hand,six_store1 (xX D) Xf hi6,hup,xset]
       refine hE [(1,Zx (s+1:Nat)),(3,.pointer (some ⟨po,0,none⟩)),(4,.pointer (some ⟨pa,0,none⟩)),(5,.pointer (some ⟨ps,0,none⟩)),(6,.pointer (some ⟨pf,0,none⟩)),(7,.pointer (some ⟨pg,0,none⟩)),(10,.pointer (some ⟨h.length,0,none⟩)),(11,.bool false),(12,Zx (k:Nat)),(13,.pointer (some ⟨G.length,0,none⟩)),(29,Zx (i:Nat))] _ _ ?_ (by simp (maxSteps:=2000000) only [↓Za,↓Zi,↓Zr,↓Ze,↓Zo,↓Zs,↓Zg,↓Zm,↓Zf,↓Zb,↓Zc,↓vdn,vup,Zk,Zn,Zl,Zh,Zj,List.map_cons,List.map_nil,cond_true,cond_false,aop,Zv,Zq,Zp,ev,sput,Zt,Zy,Ya,unK,Zd,Zw,Nat.reduceBEq,Nat.reduceAdd,Int.reduceBEq,Int.reduceBNe,Int.reduceLT,Zu,Zz,tup,tyf])
       clear hE
       try clear E
       refine Yk ?_
       simp (maxSteps:=2000000) only [s106,↓Za,↓Zi,↓Zr,↓Ze,↓Zo,↓Zs,↓Zg,↓Zm,↓Zf,↓Zb,↓Zc,↓vdn,vup,Zk,Zn,Zl,Zh,Zj,List.map_cons,List.map_nil,cond_true,cond_false,aop,Zv,Zq,Zp,ev,sput,Zt,Zy,Ya,unK,Zd,Zw,Nat.reduceBEq,Nat.reduceAdd,Int.reduceBEq,Int.reduceBNe,Int.reduceLT,Zu,Zz,tup,tyf,add1 (show i<9223372036854775807 by omega)]
       exact hQb _ _ _ ⟨i+1,hi6,by omega,by simp (maxSteps:=2000000) only [↓Za,↓Zi,↓Zr,↓Ze,↓Zo,↓Zs,↓Zg,↓Zm,↓Zf,↓Zb,↓Zc,↓vdn,vup,Zk,Zn,Zl,Zh,Zj,List.map_cons,List.map_nil,cond_true,cond_false,aop,Zv,Zq,Zp,ev,sput,Zt,Zy,Ya,unK,Zd,Zw,Nat.reduceBEq,Nat.reduceAdd,Int.reduceBEq,Int.reduceBNe,Int.reduceLT,Zu,Zz,tup,tyf],rfl⟩
     · obtain rfl:i=6:=by omega
       refine Yc fun N12 hN12=>?_
       simp (maxSteps:=2000000) only [s106,↓Za,↓Zi,↓Zr,↓Ze,↓Zo,↓Zs,↓Zg,↓Zm,↓Zf,↓Zb,↓Zc,↓vdn,vup,Zk,Zn,Zl,Zh,Zj,List.map_cons,List.map_nil,cond_true,cond_false,aop,Zv,Zq,Zp,ev,sput,Zt,Zy,Ya,unK,Zd,Zw,Nat.reduceBEq,Nat.reduceAdd,Int.reduceBEq,Int.reduceBNe,Int.reduceLT,Zu,Zz,tup,tyf,hjin]
       refine hN12 [(1,Zx (s+1:Nat)),(3,.pointer (some ⟨po,0,none⟩)),(4,.pointer (some ⟨pa,0,none⟩)),(5,.pointer (some ⟨ps,0,none⟩)),(6,.pointer (some ⟨pf,0,none⟩)),(7,.pointer (some ⟨pg,0,none⟩)),(10,.pointer (some ⟨h.length,0,none⟩)),(11,.bool false),(12,Zx (k:Nat)),(13,.pointer (some ⟨G.length,0,none⟩)),(29,Zx (6:Nat)),(30,.bool false)] _ _ ?_ (by simp (maxSteps:=2000000) only [↓Za,↓Zi,↓Zr,↓Ze,↓Zo,↓Zs,↓Zg,↓Zm,↓Zf,↓Zb,↓Zc,↓vdn,vup,Zk,Zn,Zl,Zh,Zj,List.map_cons,List.map_nil,cond_true,cond_false,aop,Zv,Zq,Zp,ev,sput,Zt,Zy,Ya,unK,Zd,Zw,Nat.reduceBEq,Nat.reduceAdd,Int.reduceBEq,Int.reduceBNe,Int.reduceLT,Zu,Zz,tup,tyf])
       clear hN12
       try clear N12
       refine Yc fun N13 hN13=>?_
       simp (maxSteps:=2000000) only [s106,↓Za,↓Zi,↓Zr,↓Ze,↓Zo,↓Zs,↓Zg,↓Zm,↓Zf,↓Zb,↓Zc,↓vdn,vup,Zk,Zn,Zl,Zh,Zj,List.map_cons,List.map_nil,cond_true,cond_false,aop,Zv,Zq,Zp,ev,sput,Zt,Zy,Ya,unK,Zd,Zw,Nat.reduceBEq,Nat.reduceAdd,Int.reduceBEq,Int.reduceBNe,Int.reduceLT,Zu,Zz,tup,tyf]
       refine hQb _ _ _ (hQa _ _ _ ?_)
       simp (maxSteps:=2000000) only [s106,↓Za,↓Zi,↓Zr,↓Ze,↓Zo,↓Zs,↓Zg,↓Zm,↓Zf,↓Zb,↓Zc,↓vdn,vup,Zk,Zn,Zl,Zh,Zj,List.map_cons,List.map_nil,cond_true,cond_false,aop,Zv,Zq,Zp,ev,sput,Zt,Zy,Ya,unK,Zd,Zw,Nat.reduceBEq,Nat.reduceAdd,Int.reduceBEq,Int.reduceBNe,Int.reduceLT,Zu,Zz,tup,tyf,if_true]
       have hXc:X (andTo (cmF o pre) (bhF (lin o k)) 6)=X (cmF o (pre++[k])):=by
        rw [hX]
        simp only
        rw [sixC_congr (f:=andTo (cmF o pre) (bhF (lin o k)) 6) (g:=cmF o (pre++[k])) fun i hi=>by rw [andTo,if_pos hi,cmF_snoc]]
       rw [hXc]
       refine hY [(1,Zx (s+1:Nat)),(3,.pointer (some ⟨po,0,none⟩)),(4,.pointer (some ⟨pa,0,none⟩)),(5,.pointer (some ⟨ps,0,none⟩)),(6,.pointer (some ⟨pf,0,none⟩)),(7,.pointer (some ⟨pg,0,none⟩)),(10,.pointer (some ⟨h.length,0,none⟩)),(11,.bool false),(12,Zx (k:Nat)),(13,.pointer (some ⟨G.length,0,none⟩)),(30,.bool false)] _ _ ?_ (by simp (maxSteps:=2000000) only [↓Za,↓Zi,↓Zr,↓Ze,↓Zo,↓Zs,↓Zg,↓Zm,↓Zf,↓Zb,↓Zc,↓vdn,vup,Zk,Zn,Zl,Zh,Zj,List.map_cons,List.map_nil,cond_true,cond_false,aop,Zv,Zq,Zp,ev,sput,Zt,Zy,Ya,unK,Zd,Zw,Nat.reduceBEq,Nat.reduceAdd,Int.reduceBEq,Int.reduceBNe,Int.reduceLT,Zu,Zz,tup,tyf])
       clear hY
       try clear Y
       obtain ⟨C,hC⟩ : ∃ C,C=cmF o (pre++[k]):=⟨_,rfl⟩
       obtain ⟨G3,hG3⟩ : ∃ z,z=X C:=⟨_,rfl⟩
       rw [← hC,← hG3]
       have e3:Ext (fun _=>False) G G3:=hG3▸xE C
       have g13:G3[G.length]? = some (.cells (sixC C) 121 false):=hG3▸xX C
       have k3:=kG.ext e3
       have f3:=fG.ext e3
       have b3:=(e3.2 _ (Yd bG) id).trans bG
       have hpk' : ∀ j∈pre++[k],j<cn o:=fun j hj=>by
        rcases List.mem_append.1 hj with h1 | h1
        · exact hpk j h1
        · rw [List.mem_singleton.1 h1]; exact hk'
       have hpne:pre++[k]≠[]:=by simp
       have hnext : ∀ (fv' : Value) (G' : Yb),Ext (gS2 pf fv1) G G'→gB2 G fv1 fv'→FD h0 pf G' fv' pre→G'[h.length]? = some (.cells (sixC (cmF o pre)) 121 false)→srch (sepB o) (cn o) 1 s (k+1) (pre++[k])=none→∀ e,ELe e [(1,Zx (s+1:Nat)),(3,.pointer (some ⟨po,0,none⟩)),(4,.pointer (some ⟨pa,0,none⟩)),(5,.pointer (some ⟨ps,0,none⟩)),(6,.pointer (some ⟨pf,0,none⟩)),(7,.pointer (some ⟨pg,0,none⟩)),(10,.pointer (some ⟨h.length,0,none⟩)),(11,.bool false),(12,Zx (k:Nat)),(30,.bool false)]→B e G':=by
        intro fv' G' q1 q2 q3 q4 q5 e he
        refine hB _ _ _ ?_ he
        refine Yk ?_
        simp (maxSteps:=2000000) only [s106,↓Za,↓Zi,↓Zr,↓Ze,↓Zo,↓Zs,↓Zg,↓Zm,↓Zf,↓Zb,↓Zc,↓vdn,vup,Zk,Zn,Zl,Zh,Zj,List.map_cons,List.map_nil,cond_true,cond_false,aop,Zv,Zq,Zp,ev,sput,Zt,Zy,Ya,unK,Zd,Zw,Nat.reduceBEq,Nat.reduceAdd,Int.reduceBEq,Int.reduceBNe,Int.reduceLT,Zu,Zz,tup,tyf,add1 (show k<9223372036854775807 by omega)]
        refine hQ2 _ _ _ ⟨(k+1,fv',G'),⟨by simp only; omega,hk',extS eG gG q1,gG.trans eG.1 q2,q3,q4,fun j h1 h2=>?_⟩,by simp only; omega,by simp (maxSteps:=2000000) only [↓Za,↓Zi,↓Zr,↓Ze,↓Zo,↓Zs,↓Zg,↓Zm,↓Zf,↓Zb,↓Zc,↓vdn,vup,Zk,Zn,Zl,Zh,Zj,List.map_cons,List.map_nil,cond_true,cond_false,aop,Zv,Zq,Zp,ev,sput,Zt,Zy,Ya,unK,Zd,Zw,Nat.reduceBEq,Nat.reduceAdd,Int.reduceBEq,Int.reduceBNe,Int.reduceLT,Zu,Zz,tup,tyf],rfl⟩
        by_cases he:j=k
        · rw [he]; exact q5
        · exact hno j h1 (by simp only at h2; omega)
       refine Yi fun R hR=>?_
       have rest:(s=0→sepB o (pre++[k])=true)→∀ e,ELe e [(1,Zx (s+1:Nat)),(3,.pointer (some ⟨po,0,none⟩)),(4,.pointer (some ⟨pa,0,none⟩)),(5,.pointer (some ⟨ps,0,none⟩)),(6,.pointer (some ⟨pf,0,none⟩)),(7,.pointer (some ⟨pg,0,none⟩)),(10,.pointer (some ⟨h.length,0,none⟩)),(11,.bool false),(12,Zx (k:Nat)),(13,.pointer (some ⟨G.length,0,none⟩)),(30,.bool false)]→R e G3:=by
        intro hsep e he
        refine hR _ _ _ ?_ he
        -- the list grows
        refine Yc fun N14 hN14=>?_
        simp (maxSteps:=2000000) only [s106,↓Za,↓Zi,↓Zr,↓Ze,↓Zo,↓Zs,↓Zg,↓Zm,↓Zf,↓Zb,↓Zc,↓vdn,vup,Zk,Zn,Zl,Zh,Zj,List.map_cons,List.map_nil,cond_true,cond_false,aop,Zv,Zq,Zp,ev,sput,Zt,Zy,Ya,unK,Zd,Zw,Nat.reduceBEq,Nat.reduceAdd,Int.reduceBEq,Int.reduceBNe,Int.reduceLT,Zu,Zz,tup,tyf,Xh f3.bx Wd,litI1]
        refine OwnSl.append (x:=(k:Int)) (f3.own.ext (S:=fun _=>False) (Ext.app _ _ _) (fun _ _=>id)) app_22_22 (by rw [iL_len]; omega) (Yl _ _) ?_
        intro fv2 G4 ho' hE' hb'
        rw [iL_snoc] at ho'
        have hE4:Ext (fun i=>Ye fv1=some i) G3 G4:=((Ext.app (fun _=>False) G3 _).mono fun _ h=>h.elim).trans hE'
        have hb4:gB2 G3 fv1 fv2:=by
         rcases hb' with h1 | ⟨b,h1,h2⟩
         · exact .inl h1
         · exact .inr ⟨b,h1,by rw [List.length_append] at h2; omega⟩
        have hpf4:G4[pf]? = some (.cells [fv1] 22 false):=(hE4.2 pf (Yd f3.bx) (f3.own.notCells f3.bx)).trans f3.bx
        simp (maxSteps:=2000000) only [s106,↓Za,↓Zi,↓Zr,↓Ze,↓Zo,↓Zs,↓Zg,↓Zm,↓Zf,↓Zb,↓Zc,↓vdn,vup,Zk,Zn,Zl,Zh,Zj,List.map_cons,List.map_nil,cond_true,cond_false,aop,Zv,Zq,Zp,ev,sput,Zt,Zy,Ya,unK,Zd,Zw,Nat.reduceBEq,Nat.reduceAdd,Int.reduceBEq,Int.reduceBNe,Int.reduceLT,Zu,Zz,tup,tyf,store1 hpf4 Wd ho'.one]
        obtain ⟨G5,hG5⟩ : ∃ z,z=G4.set pf (.cells [fv2] 22 false):=⟨_,rfl⟩
        rw [← hG5]
        have hE5:Ext (gS2 pf fv1) G3 G5:=by
         rw [hG5]
         exact (hE4.mono fun _ h=>.inr h).trans (Ext.set _ (.inl rfl))
        have e35:Ext (gS2 pf fv1) G G5:=(e3.mono fun _ h=>h.elim).trans hE5
        have hfr2 : ∀ b,Ye fv2=some b→h0.length≤b:=fun b hb=>by
         rcases hb4 with h1 | ⟨b',h1,h2⟩
         · exact f3.fr b (h1▸hb)
         · rw [h1] at hb; cases hb
           have:=k3.1; omega
        have f5:FD h0 pf G5 fv2 (pre++[k]):=⟨by rw [hG5]; exact Xc (Yd hpf4) _,ho'.same fun b hb=>by
         rw [hG5,List.getElem?_set_ne]
         have:=hfr2 b hb; have:=re.f; omega,hfr2⟩
        have k5:KH h0 pf G5:=kG.go fG.fr e35
        have keep5 : ∀ {b:Nat} {c:List Value} {e:TypeId},G3[b]? = some (.cells c e false)→b≠pf→G5[b]? = some (.cells c e false):=fun {b c e} hb hn=>by
         rw [hE5.2 b (Yd hb) fun hc=>by
          rcases hc with hc | hc
          · exact hn hc
          · exact f3.own.notCells hb hc]
         exact hb
        have hph:pf<h0.length:=re.f
        have hGl:h.length≤G.length:=eG.1
        have b5:=keep5 b3 (by omega)
        have g5:=keep5 g13 (by omega)
        have gg5:=k5.at_ re.gb re.fg
        have hs1:subV .i64 ((s+1:Nat):Int) 1=((s:Nat):Int):=by rw [subV_id (by omega) (by omega)]; omega
        refine hN14 [(1,Zx (s+1:Nat)),(3,.pointer (some ⟨po,0,none⟩)),(4,.pointer (some ⟨pa,0,none⟩)),(5,.pointer (some ⟨ps,0,none⟩)),(6,.pointer (some ⟨pf,0,none⟩)),(7,.pointer (some ⟨pg,0,none⟩)),(10,.pointer (some ⟨h.length,0,none⟩)),(11,.bool false),(12,Zx (k:Nat)),(13,.pointer (some ⟨G.length,0,none⟩)),(30,.bool false)] _ _ ?_ (by simp (maxSteps:=2000000) only [↓Za,↓Zi,↓Zr,↓Ze,↓Zo,↓Zs,↓Zg,↓Zm,↓Zf,↓Zb,↓Zc,↓vdn,vup,Zk,Zn,Zl,Zh,Zj,List.map_cons,List.map_nil,cond_true,cond_false,aop,Zv,Zq,Zp,ev,sput,Zt,Zy,Ya,unK,Zd,Zw,Nat.reduceBEq,Nat.reduceAdd,Int.reduceBEq,Int.reduceBNe,Int.reduceLT,Zu,Zz,tup,tyf])
        clear hN14
        try clear N14
        have ihc:=ih (k+1) (pre++[k]) G5 fv2 (fun _=>hpne) (by rw [List.length_append,List.length_singleton]; omega) hpk' hk' k5 f5
        rw [← hC] at ihc
        refine Yi fun V hV=>?_
        refine Yc fun N15 hN15=>?_
        simp (maxSteps:=2000000) only [s106,↓Za,↓Zi,↓Zr,↓Ze,↓Zo,↓Zs,↓Zg,↓Zm,↓Zf,↓Zb,↓Zc,↓vdn,vup,Zk,Zn,Zl,Zh,Zj,List.map_cons,List.map_nil,cond_true,cond_false,aop,Zv,Zq,Zp,ev,sput,Zt,Zy,Ya,unK,Zd,Zw,Nat.reduceBEq,Nat.reduceAdd,Int.reduceBEq,Int.reduceBNe,Int.reduceLT,Zu,Zz,tup,tyf,Xh gg5 shp_123,add1 (show k<9223372036854775807 by omega),hs1,six_load g5 sh,Yx,List.nil_append,List.append_nil,List.toList_toArray,List.cons_append]
        refine ihc.mono ?_
        rintro r G6 ⟨e6,fv3,b6,hres⟩
        have e56:Ext (gS2 pf fv1) G G6:=extS e35 (by
         rcases hb4 with h1 | ⟨b',h1,h2⟩
         · exact .inl h1
         · exact .inr ⟨b',h1,by have:=e3.1; omega⟩) e6
        have gb2:gB2 G fv1 fv2:=by
         rcases hb4 with h1 | ⟨b',h1,h2⟩
         · exact .inl h1
         · exact .inr ⟨b',h1,by have:=e3.1; omega⟩
        have gb3:gB2 G fv1 fv3:=gb2.trans e35.1 b6
        have keep6 : ∀ {b:Nat} {c:List Value} {e:TypeId},G5[b]? = some (.cells c e false)→b≠pf→G6[b]? = some (.cells c e false):=fun {b c e} hb hn=>by
         rw [e6.2 b (Yd hb) fun hc=>by
          rcases hc with hc | hc
          · exact hn hc
          · exact f5.own.notCells hb hc]
         exact hb
        have b6c:=keep6 b5 (by omega)
        cases hsr:srch (sepB o) (cn o) 1 s (k+1) (pre++[k]) with
        | some q =>
          rw [hsr] at hres
          obtain ⟨rfl,f6⟩:=hres
          refine hN15 [(1,Zx (s+1:Nat)),(3,.pointer (some ⟨po,0,none⟩)),(4,.pointer (some ⟨pa,0,none⟩)),(5,.pointer (some ⟨ps,0,none⟩)),(6,.pointer (some ⟨pf,0,none⟩)),(7,.pointer (some ⟨pg,0,none⟩)),(10,.pointer (some ⟨h.length,0,none⟩)),(11,.bool false),(12,Zx (k:Nat)),(13,.pointer (some ⟨G.length,0,none⟩)),(30,.bool false),(62,.bool true)] _ _ ?_ (by simp (maxSteps:=2000000) only [↓Za,↓Zi,↓Zr,↓Ze,↓Zo,↓Zs,↓Zg,↓Zm,↓Zf,↓Zb,↓Zc,↓vdn,vup,Zk,Zn,Zl,Zh,Zj,List.map_cons,List.map_nil,cond_true,cond_false,aop,Zv,Zq,Zp,ev,sput,Zt,Zy,Ya,unK,Zd,Zw,Nat.reduceBEq,Nat.reduceAdd,Int.reduceBEq,Int.reduceBNe,Int.reduceLT,Zu,Zz,tup,tyf])
          clear hN15
          try clear N15
          refine Wh rfl ?_
          refine Yk ?_
          simp (maxSteps:=2000000) only [s106,↓Za,↓Zi,↓Zr,↓Ze,↓Zo,↓Zs,↓Zg,↓Zm,↓Zf,↓Zb,↓Zc,↓vdn,vup,Zk,Zn,Zl,Zh,Zj,List.map_cons,List.map_nil,cond_true,cond_false,aop,Zv,Zq,Zp,ev,sput,Zt,Zy,Ya,unK,Zd,Zw,Nat.reduceBEq,Nat.reduceAdd,Int.reduceBEq,Int.reduceBNe,Int.reduceLT,Zu,Zz,tup,tyf]
          refine hQ2 _ _ _ (hQ _ _ _ ?_)
          have hfind:srch (sepB o) (cn o) 1 (s+1) fr pre=some q:=by rw [srch]; exact find_hit hno hk1 hk' hsr
          simp (maxSteps:=2000000) only [s106,↓Za,↓Zi,↓Zr,↓Ze,↓Zo,↓Zs,↓Zg,↓Zm,↓Zf,↓Zb,↓Zc,↓vdn,vup,Zk,Zn,Zl,Zh,Zj,List.map_cons,List.map_nil,cond_true,cond_false,aop,Zv,Zq,Zp,ev,sput,Zt,Zy,Ya,unK,Zd,Zw,Nat.reduceBEq,Nat.reduceAdd,Int.reduceBEq,Int.reduceBNe,Int.reduceLT,Zu,Zz,tup,tyf,hfind]
          exact ⟨extS eG gG e56,fv3,gG.trans eG.1 gb3,f6⟩
        | none =>
          rw [hsr] at hres
          obtain ⟨rfl,f6⟩:=hres
          refine hN15 [(1,Zx (s+1:Nat)),(3,.pointer (some ⟨po,0,none⟩)),(4,.pointer (some ⟨pa,0,none⟩)),(5,.pointer (some ⟨ps,0,none⟩)),(6,.pointer (some ⟨pf,0,none⟩)),(7,.pointer (some ⟨pg,0,none⟩)),(10,.pointer (some ⟨h.length,0,none⟩)),(11,.bool false),(12,Zx (k:Nat)),(13,.pointer (some ⟨G.length,0,none⟩)),(30,.bool false),(62,.bool false)] _ _ ?_ (by simp (maxSteps:=2000000) only [↓Za,↓Zi,↓Zr,↓Ze,↓Zo,↓Zs,↓Zg,↓Zm,↓Zf,↓Zb,↓Zc,↓vdn,vup,Zk,Zn,Zl,Zh,Zj,List.map_cons,List.map_nil,cond_true,cond_false,aop,Zv,Zq,Zp,ev,sput,Zt,Zy,Ya,unK,Zd,Zw,Nat.reduceBEq,Nat.reduceAdd,Int.reduceBEq,Int.reduceBNe,Int.reduceLT,Zu,Zz,tup,tyf])
          clear hN15
          try clear N15
          refine Xx rfl ?_
          refine Yk ?_
          simp (maxSteps:=2000000) only [s106,↓Za,↓Zi,↓Zr,↓Ze,↓Zo,↓Zs,↓Zg,↓Zm,↓Zf,↓Zb,↓Zc,↓vdn,vup,Zk,Zn,Zl,Zh,Zj,List.map_cons,List.map_nil,cond_true,cond_false,aop,Zv,Zq,Zp,ev,sput,Zt,Zy,Ya,unK,Zd,Zw,Nat.reduceBEq,Nat.reduceAdd,Int.reduceBEq,Int.reduceBNe,Int.reduceLT,Zu,Zz,tup,tyf]
          refine hV [(1,Zx (s+1:Nat)),(3,.pointer (some ⟨po,0,none⟩)),(4,.pointer (some ⟨pa,0,none⟩)),(5,.pointer (some ⟨ps,0,none⟩)),(6,.pointer (some ⟨pf,0,none⟩)),(7,.pointer (some ⟨pg,0,none⟩)),(10,.pointer (some ⟨h.length,0,none⟩)),(11,.bool false),(12,Zx (k:Nat)),(13,.pointer (some ⟨G.length,0,none⟩)),(30,.bool false)] _ _ ?_ (by simp (maxSteps:=2000000) only [↓Za,↓Zi,↓Zr,↓Ze,↓Zo,↓Zs,↓Zg,↓Zm,↓Zf,↓Zb,↓Zc,↓vdn,vup,Zk,Zn,Zl,Zh,Zj,List.map_cons,List.map_nil,cond_true,cond_false,aop,Zv,Zq,Zp,ev,sput,Zt,Zy,Ya,unK,Zd,Zw,Nat.reduceBEq,Nat.reduceAdd,Int.reduceBEq,Int.reduceBNe,Int.reduceLT,Zu,Zz,tup,tyf])
          clear hV
          try clear V
          have hl6:(iL (pre++[k])).length=pre.length+1:=by rw [iL_len]; simp
          have hsub:subV .i64 ((pre.length+1:Nat):Int) 1=((pre.length:Nat):Int):=by rw [subV_id (by omega) (by omega)]; omega
          have ho6:OwnSl 3 G6 fv3 (iL pre++[((k:Nat):Int)]):=by rw [iL_snoc]; exact f6.own
          refine Yk ?_
          simp (maxSteps:=2000000) only [s106,↓Za,↓Zi,↓Zr,↓Ze,↓Zo,↓Zs,↓Zg,↓Zm,↓Zf,↓Zb,↓Zc,↓vdn,vup,Zk,Zn,Zl,Zh,Zj,List.map_cons,List.map_nil,cond_true,cond_false,aop,Zv,Zq,Zp,ev,sput,Zt,Zy,Ya,unK,Zd,Zw,Nat.reduceBEq,Nat.reduceAdd,Int.reduceBEq,Int.reduceBNe,Int.reduceLT,Zu,Zz,tup,tyf,Xh f6.bx Wd,f6.own.int.len,hl6,hsub]
          rw [← iL_len pre]
          refine ho6.cut Uh Xt ?_
          intro fv4 ho4 hb7
          simp (maxSteps:=2000000) only [s106,↓Za,↓Zi,↓Zr,↓Ze,↓Zo,↓Zs,↓Zg,↓Zm,↓Zf,↓Zb,↓Zc,↓vdn,vup,Zk,Zn,Zl,Zh,Zj,List.map_cons,List.map_nil,cond_true,cond_false,aop,Zv,Zq,Zp,ev,sput,Zt,Zy,Ya,unK,Zd,Zw,Nat.reduceBEq,Nat.reduceAdd,Int.reduceBEq,Int.reduceBNe,Int.reduceLT,Zu,Zz,tup,tyf,store1 f6.bx Wd ho4.one]
          have hne4 : ∀ b,Ye fv4=some b→b≠pf:=fun b hb=>by
           have:=f6.fr b (hb7▸hb); omega
          refine hnext fv4 _ (e56.trans (Ext.set _ (.inl rfl))) ?_ ⟨Xc (Yd f6.bx) _,ho4.same fun b hb=>List.getElem?_set_ne (Ne.symm (hne4 b hb)),fun b hb=>f6.fr b (hb7▸hb)⟩ ?_ hsr _ (by simp (maxSteps:=2000000) only [↓Za,↓Zi,↓Zr,↓Ze,↓Zo,↓Zs,↓Zg,↓Zm,↓Zf,↓Zb,↓Zc,↓vdn,vup,Zk,Zn,Zl,Zh,Zj,List.map_cons,List.map_nil,cond_true,cond_false,aop,Zv,Zq,Zp,ev,sput,Zt,Zy,Ya,unK,Zd,Zw,Nat.reduceBEq,Nat.reduceAdd,Int.reduceBEq,Int.reduceBNe,Int.reduceLT,Zu,Zz,tup,tyf])
          · rcases gb3 with h1 | ⟨b',h1,h2⟩
            · exact .inl (hb7.trans h1)
            · exact .inr ⟨b',hb7.trans h1,h2⟩
          · rw [List.getElem?_set_ne (by omega)]; exact b6c
       have k3o:=k3.at_ re.ob re.fo
       have hdec:eq6 C (bt o)=sepB o (pre++[k]):=by
        rw [hC,Bool.eq_iff_iff,eq6_iff]; exact cmF_sep ho hpne hpk'
       by_cases h0s:s=0
       · have e1:(((s+1:Nat):Int)==1)=true:=by rw [h0s]; rfl
         refine Yc fun N16 hN16=>?_
         simp only [q106_12]
         refine aw_regcut 6 fun N1 hN1=>?_
         simp (maxSteps:=2000000) only [s106,↓Za,↓Zi,↓Zr,↓Ze,↓Zo,↓Zs,↓Zg,↓Zm,↓Zf,↓Zb,↓Zc,↓vdn,vup,Zk,Zn,Zl,Zh,Zj,List.map_cons,List.map_nil,cond_true,cond_false,aop,Zv,Zq,Zp,ev,sput,Zt,Zy,Ya,unK,Zd,Zw,Nat.reduceBEq,Nat.reduceAdd,Int.reduceBEq,Int.reduceBNe,Int.reduceLT,Zu,Zz,tup,tyf,List.take_succ_cons,List.take_zero,e1,six_load g13 sh,f1,load75 ho k3o]
         refine hN1 _ _ ?_
         clear hN1 N1
         simp only [List.drop_succ_cons,List.drop_zero]
         refine aw_regcut 1 fun N1 hN1=>?_
         simp (maxSteps:=2000000) only [s106,↓Za,↓Zi,↓Zr,↓Ze,↓Zo,↓Zs,↓Zg,↓Zm,↓Zf,↓Zb,↓Zc,↓vdn,vup,Zk,Zn,Zl,Zh,Zj,List.map_cons,List.map_nil,cond_true,cond_false,aop,Zv,Zq,Zp,ev,sput,Zt,Zd,Nat.reduceBEq,Nat.reduceAdd,Int.reduceBEq,Int.reduceBNe,Int.reduceLT,Zu,Zz,tup,tyf,List.take_succ_cons,List.take_zero,bin6n,hdec]
         refine hN1 _ _ ?_
         clear hN1 N1
         simp only [List.drop_succ_cons,List.drop_zero]
         cases hsp:sepB o (pre++[k]) with
         | true =>
           simp (maxSteps:=2000000) only [s106,↓Za,↓Zi,↓Zr,↓Ze,↓Zo,↓Zs,↓Zg,↓Zm,↓Zf,↓Zb,↓Zc,↓vdn,vup,Zk,Zn,Zl,Zh,Zj,List.map_cons,List.map_nil,cond_true,cond_false,aop,Zv,Zq,Zp,ev,sput,Zt,Zy,Ya,unK,Zd,Zw,Nat.reduceBEq,Nat.reduceAdd,Int.reduceBEq,Int.reduceBNe,Int.reduceLT,Zu,Zz,tup,tyf,Bool.not_true]
           refine hN16 [(1,Zx (s+1:Nat)),(3,.pointer (some ⟨po,0,none⟩)),(4,.pointer (some ⟨pa,0,none⟩)),(5,.pointer (some ⟨ps,0,none⟩)),(6,.pointer (some ⟨pf,0,none⟩)),(7,.pointer (some ⟨pg,0,none⟩)),(10,.pointer (some ⟨h.length,0,none⟩)),(11,.bool false),(12,Zx (k:Nat)),(13,.pointer (some ⟨G.length,0,none⟩)),(30,.bool false),(51,.bool false)] _ _ ?_ (by simp (maxSteps:=2000000) only [↓Za,↓Zi,↓Zr,↓Ze,↓Zo,↓Zs,↓Zg,↓Zm,↓Zf,↓Zb,↓Zc,↓vdn,vup,Zk,Zn,Zl,Zh,Zj,List.map_cons,List.map_nil,cond_true,cond_false,aop,Zv,Zq,Zp,ev,sput,Zt,Zy,Ya,unK,Zd,Zw,Nat.reduceBEq,Nat.reduceAdd,Int.reduceBEq,Int.reduceBNe,Int.reduceLT,Zu,Zz,tup,tyf])
           clear hN16
           try clear N16
           refine Xx rfl ?_
           refine Yk ?_
           simp (maxSteps:=2000000) only [s106,↓Za,↓Zi,↓Zr,↓Ze,↓Zo,↓Zs,↓Zg,↓Zm,↓Zf,↓Zb,↓Zc,↓vdn,vup,Zk,Zn,Zl,Zh,Zj,List.map_cons,List.map_nil,cond_true,cond_false,aop,Zv,Zq,Zp,ev,sput,Zt,Zy,Ya,unK,Zd,Zw,Nat.reduceBEq,Nat.reduceAdd,Int.reduceBEq,Int.reduceBNe,Int.reduceLT,Zu,Zz,tup,tyf]
           exact rest (fun _=>hsp) _ (by simp (maxSteps:=2000000) only [↓Za,↓Zi,↓Zr,↓Ze,↓Zo,↓Zs,↓Zg,↓Zm,↓Zf,↓Zb,↓Zc,↓vdn,vup,Zk,Zn,Zl,Zh,Zj,List.map_cons,List.map_nil,cond_true,cond_false,aop,Zv,Zq,Zp,ev,sput,Zt,Zy,Ya,unK,Zd,Zw,Nat.reduceBEq,Nat.reduceAdd,Int.reduceBEq,Int.reduceBNe,Int.reduceLT,Zu,Zz,tup,tyf])
         | false =>
           simp (maxSteps:=2000000) only [s106,↓Za,↓Zi,↓Zr,↓Ze,↓Zo,↓Zs,↓Zg,↓Zm,↓Zf,↓Zb,↓Zc,↓vdn,vup,Zk,Zn,Zl,Zh,Zj,List.map_cons,List.map_nil,cond_true,cond_false,aop,Zv,Zq,Zp,ev,sput,Zt,Zy,Ya,unK,Zd,Zw,Nat.reduceBEq,Nat.reduceAdd,Int.reduceBEq,Int.reduceBNe,Int.reduceLT,Zu,Zz,tup,tyf,Bool.not_false]
           refine hN16 [(1,Zx (s+1:Nat)),(3,.pointer (some ⟨po,0,none⟩)),(4,.pointer (some ⟨pa,0,none⟩)),(5,.pointer (some ⟨ps,0,none⟩)),(6,.pointer (some ⟨pf,0,none⟩)),(7,.pointer (some ⟨pg,0,none⟩)),(10,.pointer (some ⟨h.length,0,none⟩)),(11,.bool false),(12,Zx (k:Nat)),(13,.pointer (some ⟨G.length,0,none⟩)),(30,.bool false),(51,.bool true)] _ _ ?_ (by simp (maxSteps:=2000000) only [↓Za,↓Zi,↓Zr,↓Ze,↓Zo,↓Zs,↓Zg,↓Zm,↓Zf,↓Zb,↓Zc,↓vdn,vup,Zk,Zn,Zl,Zh,Zj,List.map_cons,List.map_nil,cond_true,cond_false,aop,Zv,Zq,Zp,ev,sput,Zt,Zy,Ya,unK,Zd,Zw,Nat.reduceBEq,Nat.reduceAdd,Int.reduceBEq,Int.reduceBNe,Int.reduceLT,Zu,Zz,tup,tyf])
           clear hN16
           try clear N16
           refine Wh rfl ?_
           refine Yk ?_
           simp (maxSteps:=2000000) only [s106,↓Za,↓Zi,↓Zr,↓Ze,↓Zo,↓Zs,↓Zg,↓Zm,↓Zf,↓Zb,↓Zc,↓vdn,vup,Zk,Zn,Zl,Zh,Zj,List.map_cons,List.map_nil,cond_true,cond_false,aop,Zv,Zq,Zp,ev,sput,Zt,Zy,Ya,unK,Zd,Zw,Nat.reduceBEq,Nat.reduceAdd,Int.reduceBEq,Int.reduceBNe,Int.reduceLT,Zu,Zz,tup,tyf]
           refine hnext fv1 G3 (e3.mono fun _ h=>h.elim) (.inl rfl) f3 b3 ?_ _ (by simp (maxSteps:=2000000) only [↓Za,↓Zi,↓Zr,↓Ze,↓Zo,↓Zs,↓Zg,↓Zm,↓Zf,↓Zb,↓Zc,↓vdn,vup,Zk,Zn,Zl,Zh,Zj,List.map_cons,List.map_nil,cond_true,cond_false,aop,Zv,Zq,Zp,ev,sput,Zt,Zy,Ya,unK,Zd,Zw,Nat.reduceBEq,Nat.reduceAdd,Int.reduceBEq,Int.reduceBNe,Int.reduceLT,Zu,Zz,tup,tyf])
           rw [h0s,srch,hsp]; rfl
       · have e1:(((s+1:Nat):Int)==1)=false:=by rw [beq_eq_false_iff_ne]; omega
         refine Yc fun N17 hN17=>?_
         simp (maxSteps:=2000000) only [s106,↓Za,↓Zi,↓Zr,↓Ze,↓Zo,↓Zs,↓Zg,↓Zm,↓Zf,↓Zb,↓Zc,↓vdn,vup,Zk,Zn,Zl,Zh,Zj,List.map_cons,List.map_nil,cond_true,cond_false,aop,Zv,Zq,Zp,ev,sput,Zt,Zy,Ya,unK,Zd,Zw,Nat.reduceBEq,Nat.reduceAdd,Int.reduceBEq,Int.reduceBNe,Int.reduceLT,Zu,Zz,tup,tyf,e1]
         refine hN17 [(1,Zx (s+1:Nat)),(3,.pointer (some ⟨po,0,none⟩)),(4,.pointer (some ⟨pa,0,none⟩)),(5,.pointer (some ⟨ps,0,none⟩)),(6,.pointer (some ⟨pf,0,none⟩)),(7,.pointer (some ⟨pg,0,none⟩)),(10,.pointer (some ⟨h.length,0,none⟩)),(11,.bool false),(12,Zx (k:Nat)),(13,.pointer (some ⟨G.length,0,none⟩)),(30,.bool false),(51,.bool false)] _ _ ?_ (by simp (maxSteps:=2000000) only [↓Za,↓Zi,↓Zr,↓Ze,↓Zo,↓Zs,↓Zg,↓Zm,↓Zf,↓Zb,↓Zc,↓vdn,vup,Zk,Zn,Zl,Zh,Zj,List.map_cons,List.map_nil,cond_true,cond_false,aop,Zv,Zq,Zp,ev,sput,Zt,Zy,Ya,unK,Zd,Zw,Nat.reduceBEq,Nat.reduceAdd,Int.reduceBEq,Int.reduceBNe,Int.reduceLT,Zu,Zz,tup,tyf])
         clear hN17
         try clear N17
         refine Xx rfl ?_
         refine Yk ?_
         simp (maxSteps:=2000000) only [s106,↓Za,↓Zi,↓Zr,↓Ze,↓Zo,↓Zs,↓Zg,↓Zm,↓Zf,↓Zb,↓Zc,↓vdn,vup,Zk,Zn,Zl,Zh,Zj,List.map_cons,List.map_nil,cond_true,cond_false,aop,Zv,Zq,Zp,ev,sput,Zt,Zy,Ya,unK,Zd,Zw,Nat.reduceBEq,Nat.reduceAdd,Int.reduceBEq,Int.reduceBNe,Int.reduceLT,Zu,Zz,tup,tyf]
         exact rest (fun h=>absurd h h0s) _ (by simp (maxSteps:=2000000) only [↓Za,↓Zi,↓Zr,↓Ze,↓Zo,↓Zs,↓Zg,↓Zm,↓Zf,↓Zb,↓Zc,↓vdn,vup,Zk,Zn,Zl,Zh,Zj,List.map_cons,List.map_nil,cond_true,cond_false,aop,Zv,Zq,Zp,ev,sput,Zt,Zy,Ya,unK,Zd,Zw,Nat.reduceBEq,Nat.reduceAdd,Int.reduceBEq,Int.reduceBNe,Int.reduceLT,Zu,Zz,tup,tyf])
   · obtain rfl:k=cn o:=by omega
     refine Yi fun C hC=>?_
     refine Yc fun N18 hN18=>?_
     simp (maxSteps:=2000000) only [s106,↓Za,↓Zi,↓Zr,↓Ze,↓Zo,↓Zs,↓Zg,↓Zm,↓Zf,↓Zb,↓Zc,↓vdn,vup,Zk,Zn,Zl,Zh,Zj,List.map_cons,List.map_nil,cond_true,cond_false,aop,Zv,Zq,Zp,ev,sput,Zt,Zy,Ya,unK,Zd,Zw,Nat.reduceBEq,Nat.reduceAdd,Int.reduceBEq,Int.reduceBNe,Int.reduceLT,Zu,Zz,tup,tyf,Xh aG shp_45,re.al,hin]
     refine hN18 [(1,Zx (s+1:Nat)),(3,.pointer (some ⟨po,0,none⟩)),(4,.pointer (some ⟨pa,0,none⟩)),(5,.pointer (some ⟨ps,0,none⟩)),(6,.pointer (some ⟨pf,0,none⟩)),(7,.pointer (some ⟨pg,0,none⟩)),(10,.pointer (some ⟨h.length,0,none⟩)),(11,.bool false),(12,Zx (cn o:Nat)),(25,.bool false)] _ _ ?_ (by simp (maxSteps:=2000000) only [↓Za,↓Zi,↓Zr,↓Ze,↓Zo,↓Zs,↓Zg,↓Zm,↓Zf,↓Zb,↓Zc,↓vdn,vup,Zk,Zn,Zl,Zh,Zj,List.map_cons,List.map_nil,cond_true,cond_false,aop,Zv,Zq,Zp,ev,sput,Zt,Zy,Ya,unK,Zd,Zw,Nat.reduceBEq,Nat.reduceAdd,Int.reduceBEq,Int.reduceBNe,Int.reduceLT,Zu,Zz,tup,tyf])
     clear hN18
     try clear N18
     refine Xx rfl ?_
     refine Yk ?_
     simp (maxSteps:=2000000) only [s106,↓Za,↓Zi,↓Zr,↓Ze,↓Zo,↓Zs,↓Zg,↓Zm,↓Zf,↓Zb,↓Zc,↓vdn,vup,Zk,Zn,Zl,Zh,Zj,List.map_cons,List.map_nil,cond_true,cond_false,aop,Zv,Zq,Zp,ev,sput,Zt,Zy,Ya,unK,Zd,Zw,Nat.reduceBEq,Nat.reduceAdd,Int.reduceBEq,Int.reduceBNe,Int.reduceLT,Zu,Zz,tup,tyf]
     refine hQ2 _ _ _ (hQ _ _ _ ?_)
     simp (maxSteps:=2000000) only [s106,↓Za,↓Zi,↓Zr,↓Ze,↓Zo,↓Zs,↓Zg,↓Zm,↓Zf,↓Zb,↓Zc,↓vdn,vup,Zk,Zn,Zl,Zh,Zj,List.map_cons,List.map_nil,cond_true,cond_false,aop,Zv,Zq,Zp,ev,sput,Zt,Zy,Ya,unK,Zd,Zw,Nat.reduceBEq,Nat.reduceAdd,Int.reduceBEq,Int.reduceBNe,Int.reduceLT,Zu,Zz,tup,tyf,if_true]
     refine hZ [(1,Zx (s+1:Nat)),(3,.pointer (some ⟨po,0,none⟩)),(4,.pointer (some ⟨pa,0,none⟩)),(5,.pointer (some ⟨ps,0,none⟩)),(6,.pointer (some ⟨pf,0,none⟩)),(7,.pointer (some ⟨pg,0,none⟩)),(10,.pointer (some ⟨h.length,0,none⟩)),(11,.bool false),(25,.bool false)] _ _ ?_ (by simp (maxSteps:=2000000) only [↓Za,↓Zi,↓Zr,↓Ze,↓Zo,↓Zs,↓Zg,↓Zm,↓Zf,↓Zb,↓Zc,↓vdn,vup,Zk,Zn,Zl,Zh,Zj,List.map_cons,List.map_nil,cond_true,cond_false,aop,Zv,Zq,Zp,ev,sput,Zt,Zy,Ya,unK,Zd,Zw,Nat.reduceBEq,Nat.reduceAdd,Int.reduceBEq,Int.reduceBNe,Int.reduceLT,Zu,Zz,tup,tyf])
     clear hZ
     try clear Z
     have hfind:srch (sepB o) (cn o) 1 (s+1) fr pre=none:=by rw [srch]; exact find_none hno
     refine Yk ?_
     simp (maxSteps:=2000000) only [s106,↓Za,↓Zi,↓Zr,↓Ze,↓Zo,↓Zs,↓Zg,↓Zm,↓Zf,↓Zb,↓Zc,↓vdn,vup,Zk,Zn,Zl,Zh,Zj,List.map_cons,List.map_nil,cond_true,cond_false,aop,Zv,Zq,Zp,ev,sput,Zt,Zy,Ya,unK,Zd,Zw,Nat.reduceBEq,Nat.reduceAdd,Int.reduceBEq,Int.reduceBNe,Int.reduceLT,Zu,Zz,tup,tyf,hfind]
     exact ⟨eG,fv1,gG,fG⟩
end Go.Proofs.Tryd.Am
