/-
  Plain theory: of an order of at most six elements that is no chain some pair stands in one order in a third to two thirds of the lines: decided, with the elements in the order of how many are below them.
  Plain theory: an order that is no chain has a pair whose chance is from a third to two thirds: the elements are renamed, those with fewer below them first.
  Plain theory: what OrderSums asks: chances that sum to one, heights that sum to half of n (n - 1), the most even pair.
  order, plain: what the order turned over has in common with it.
  order: the most even pair, of the code and of the reference.
  Printed by gen.py: the code of some functions, without what no step looks at; held against the program's own by the kernel.
  order: the library's stable sort of a short slice of pairs, by any function: it keeps the pairs.
  order: what a sorter knows; the comparison of pairs by their unevenness.
  order: the trial of a pair; all free pairs.
-/
import Derived.Test.YtnjacpfahhjpiaaDoorPk7
import Derived.KernelRfl
import Derived.Test.YtnjacpfahhjpiaaDoorPk9
import Derived.Test.YtnjacpfahhjpiaaDoorPk3
import Derived.Test.YtnjacpfahhjpiaaDoorProg
import Derived.Shelf.Abstract
import Derived.Test.YtnjacpfahhjpiaaDoorPk4
import Derived.Test.YtnjacpfahhjpiaaDoorPk5
set_option linter.all false
namespace Ord
open Go.Am
noncomputable def force (n:Nat) (f:Nat→Nat):Nat:=Nat.rec (f 0) (fun k _=>f (Nat.succ k)) n
noncomputable def ex (L:List (Nat×Nat)) (k:Nat):Nat→Nat :=
 Nat.rec (fun _=>1) (fun _ f s=>force s fun s=>List.rec 0 (fun p _ r=>Bool.rec r (f (Nat.xor s p.2)+r) (Nat.beq (Nat.land s p.1) p.2)) L) (k-1)
noncomputable def putL (L:List (Nat×Nat)) (a b:Nat):List (Nat×Nat) :=
 List.rec [] (fun p _ r=>(bif Nat.beq p.2 b then Nat.lor p.1 a else p.1,p.2)::r) L
noncomputable def anyL (p:Nat×Nat→Bool) (L:List (Nat×Nat)):Bool:=List.rec false (fun x _ r=>bif p x then true else r) L
noncomputable def allL (p:Nat×Nat→Bool) (L:List (Nat×Nat)):Bool:=List.rec true (fun x _ r=>bif p x then r else false) L
noncomputable def pcL (d:Nat) (L:List (Nat×Nat)):Nat:=List.rec 0 (fun x _ r=>bif Nat.beq (Nat.land d x.2) 0 then r else r+1) L
noncomputable def allN (p:Nat→Bool) (n:Nat):Bool:=Nat.rec true (fun k r=>bif p k then r else false) n
noncomputable def goodC (L:List (Nat×Nat)) (n c:Nat):Bool :=
 bif Nat.ble c 1 then true else anyL (fun y=>anyL (fun x=>bif Nat.ble y.2 x.2 then false else
  (bif Nat.ble c (3*ex (putL L x.2 y.2) n (2 ^ n-1)) then Nat.ble (3*ex (putL L x.2 y.2) n (2 ^ n-1)) (2*c) else false)) L) L
noncomputable def good (L:List (Nat×Nat)) (n:Nat):Bool:=goodC L n (ex L n (2 ^ n-1))
noncomputable def closed (d:Nat) (L:List (Nat×Nat)):Bool:=allL (fun p=>bif Nat.beq (Nat.land d p.2) 0 then true else Nat.beq (Nat.land d p.1) p.1) L
noncomputable def tree (f:Nat):Nat→List (Nat×Nat)→Nat→Bool :=
 Nat.rec (fun n L _=>good L n) (fun _ t n L p=>bif good L n then
  allN (fun d=>bif closed d L then (bif Nat.ble p (pcL d L) then t (n+1) ((Nat.lor d (2 ^ n),2 ^ n)::L) (pcL d L) else true) else true) (2 ^ n) else false) f
theorem force_eq (n:Nat) (f:Nat→Nat):force n f=f n:=by cases n <;> rfl
theorem pow2_inj {a b:Nat} (h:2 ^ a=2 ^ b):a=b:=by
 rcases Nat.lt_trichotomy a b with h1 | h1 | h1
 · have:=Nat.pow_lt_pow_right (a:=2) (by decide) h1; omega
 · exact h1
 · have:=Nat.pow_lt_pow_right (a:=2) (by decide) h1; omega
def exS (f:Nat→Nat) (s:Nat):List (Nat×Nat)→Nat
 | []=>0
 | p::L=>if s &&& p.1=p.2 then f (s ^^^ p.2)+exS f s L else exS f s L
theorem rec_exS (f:Nat→Nat) (s:Nat) : ∀ L:List (Nat×Nat),(List.rec (motive:=fun _=>Nat) 0 (fun p _ r=>Bool.rec (motive:=fun _=>Nat) r (f (Nat.xor s p.2)+r) (Nat.beq (Nat.land s p.1) p.2)) L:Nat)=exS f s L
 | []=>rfl
 | p::L=>by
   have ih:=rec_exS f s L
   rw [exS]
   cases h:Nat.beq (Nat.land s p.1) p.2 with
   | true =>
     rw [if_pos (show s &&& p.1=p.2 from Nat.eq_of_beq_eq_true h),← ih]
     simp only [h]; rfl
   | false =>
     rw [if_neg (show ¬ s &&& p.1=p.2 from Nat.ne_of_beq_eq_false h),← ih]
     simp only [h]
theorem ex_succ (L:List (Nat×Nat)) (k s:Nat):ex L (k+2) s=exS (ex L (k+1)) s L:=by
 rw [← rec_exS]
 unfold ex
 rw [show k+2-1=(k+1-1)+1 by omega]
 exact force_eq s _
def rel (m:Nat→Nat) (a b:Nat):Bool:=(m b).testBit a&&(a != b)
theorem exS_map {f:Nat→Nat} {s:Nat} {m:Nat→Nat} : ∀ K:List Nat,exS f s (K.map fun i=>(m i,2 ^ i))=((K.filter fun i=>decide (s &&& m i=2 ^ i)).map fun i=>f (s ^^^ 2 ^ i)).sum
 | []=>rfl
 | i::K=>by
   rw [List.map_cons,exS,exS_map K,List.filter_cons]
   by_cases h:s &&& m i=2 ^ i
   · rw [if_pos h,if_pos (by simpa using h),List.map_cons,List.sum_cons]
   · rw [if_neg h,if_neg (by simpa using h)]
theorem ex_cnt {J:List Nat} (hJ:J.Nodup) {m:Nat→Nat} (hm : ∀ i∈J,(m i).testBit i=true) : ∀ k s,(J.filter fun i=>s.testBit i).length=k+1→(∀ i,s.testBit i=true→i∈J) →
  ex (J.map fun i=>(m i,2 ^ i)) (k+1) s=cnt (rel m) (k+1) (J.filter fun i=>s.testBit i)
 | 0,s,hk,hs=>by
   obtain ⟨x,hx⟩:=List.length_eq_one_iff.1 hk
   rw [hx]
   show 1=_
   simp [cnt,Wm,rel]
 | k+1,s,hk,hs=>by
   rw [ex_succ,exS_map,cnt]
   have e1:Wm (rel m) (J.filter fun i=>s.testBit i)=J.filter fun i=>decide (s &&& m i=2 ^ i):=by
    rw [Wm,List.filter_filter]
    refine List.filter_congr fun i hi=>?_
    rw [Bool.eq_iff_iff,Bool.and_eq_true,decide_eq_true_eq,List.all_eq_true]
    constructor
    · rintro ⟨h1,h2⟩
      apply Nat.eq_of_testBit_eq
      intro j
      rw [Nat.testBit_and,Nat.testBit_two_pow]
      by_cases hij:i=j
      · subst hij; rw [h2,hm i hi]; simp
      · rw [decide_eq_false hij]
        cases hj:s.testBit j with
        | false=>rfl
        | true =>
          have:=h1 j (List.mem_filter.2 ⟨hs j hj,hj⟩)
          rw [rel] at this
          cases hb:(m i).testBit j with
          | false=>rfl
          | true=>rw [hb] at this; simp [Ne.symm hij] at this
    · intro h
      have hb : ∀ j,(s.testBit j&&(m i).testBit j)=decide (i=j):=fun j=>by
       rw [← Nat.testBit_and,h,Nat.testBit_two_pow]
      refine ⟨fun j hj=>?_,?_⟩
      · have hj':=(List.mem_filter.1 hj).2
        have:=hb j
        rw [hj',Bool.true_and] at this
        rw [rel,this]
        by_cases hij:i=j
        · subst hij; simp
        · rw [decide_eq_false hij]; rfl
      · have:=hb i
        rw [hm i hi,Bool.and_true,decide_eq_true rfl] at this
        exact this
   rw [e1]
   congr 1
   refine List.map_congr_left fun i hi=>?_
   obtain ⟨hiJ,hib⟩:=List.mem_filter.1 hi
   simp only [decide_eq_true_eq] at hib
   have hsi:s.testBit i=true:=by
    have:(s &&& m i).testBit i=true:=by rw [hib]; simp
    rw [Nat.testBit_and,hm i hiJ,Bool.and_true] at this
    exact this
   have hx : ∀ j,(s ^^^ 2 ^ i).testBit j=(s.testBit j&&(j != i)):=fun j=>by
    rw [Nat.testBit_xor,Nat.testBit_two_pow]
    by_cases hij:i=j
    · subst hij; rw [hsi]; simp
    · rw [decide_eq_false hij]; simp [Ne.symm hij]
   have e2:(J.filter fun j=>(s ^^^ 2 ^ i).testBit j)=(J.filter fun j=>s.testBit j).erase i:=by
    rw [List.Nodup.erase_eq_filter (hJ.filter _),List.filter_filter]
    refine List.filter_congr fun j _=>?_
    rw [hx,Bool.and_comm]
   have hmem:i∈J.filter fun j=>s.testBit j:=List.mem_filter.2 ⟨hiJ,hsi⟩
   rw [ex_cnt hJ hm k (s ^^^ 2 ^ i) (by rw [e2,List.length_erase_of_mem hmem,hk]; rfl) fun j hj=>by
    rw [hx,Bool.and_eq_true] at hj
    exact hs j hj.1]
   rw [e2]
theorem putL_map {m:Nat→Nat} {a b:Nat} : ∀ K:List Nat,putL (K.map fun i=>(m i,2 ^ i)) (2 ^ a) (2 ^ b)=K.map fun i=>(if i=b then m i ||| 2 ^ a else m i,2 ^ i)
 | []=>rfl
 | i::K=>by
   have ih:=putL_map (m:=m) (a:=a) (b:=b) K
   rw [List.map_cons,List.map_cons,← ih]
   show ((bif Nat.beq (2 ^ i) (2 ^ b) then Nat.lor (m i) (2 ^ a) else m i),2 ^ i)::_=_
   by_cases h:i=b
   · subst h; rw [if_pos rfl,show Nat.beq (2 ^ i) (2 ^ i)=true from Nat.beq_refl _]; rfl
   · have:Nat.beq (2 ^ i) (2 ^ b)=false:=by
      cases hb:Nat.beq (2 ^ i) (2 ^ b) with
      | false=>rfl
      | true=>exact absurd (pow2_inj (Nat.eq_of_beq_eq_true hb)) h
     rw [if_neg h,this]; rfl
theorem anyL_mem {p:Nat×Nat→Bool} : ∀ {L:List (Nat×Nat)},anyL p L=true→∃ x∈L,p x=true
 | [],h=>by cases h
 | x::L,h=>by
   have h' : (bif p x then true else anyL p L)=true:=h
   cases hp:p x with
   | true=>exact ⟨x,by simp,hp⟩
   | false =>
     rw [hp] at h'
     obtain ⟨y,hy,h2⟩:=anyL_mem (L:=L) h'
     exact ⟨y,by simp [hy],h2⟩
theorem allN_all {p:Nat→Bool} : ∀ {n:Nat},allN p n=true→∀ k,k<n→p k=true
 | 0,_,k,hk=>by omega
 | n+1,h,k,hk=>by
   have h' : (bif p n then allN p n else false)=true:=h
   cases hp:p n with
   | false=>rw [hp] at h'; cases h'
   | true =>
     rw [hp] at h'
     by_cases hkn:k=n
     · rw [hkn]; exact hp
     · exact allN_all (n:=n) h' k (by omega)
theorem good_of {L:List (Nat×Nat)} {n:Nat} (h:good L n=true):ex L n (2 ^ n-1)≤1∨∃ x∈L,∃ y∈L,x.2≠y.2∧ex L n (2 ^ n-1)≤3*ex (putL L x.2 y.2) n (2 ^ n-1)∧3*ex (putL L x.2 y.2) n (2 ^ n-1)≤2*ex L n (2 ^ n-1):=by
 rw [good] at h
 generalize ex L n (2 ^ n-1)=c at h ⊢
 rw [goodC] at h
 cases h1:Nat.ble c 1 with
 | true=>exact .inl (Nat.le_of_ble_eq_true h1)
 | false =>
   rw [h1] at h
   obtain ⟨y,hy,h2⟩:=anyL_mem h
   obtain ⟨x,hx,h3⟩:=anyL_mem h2
   cases h4:Nat.ble y.2 x.2 with
   | true=>rw [h4] at h3; cases h3
   | false =>
     rw [h4] at h3
     cases h5:Nat.ble c (3*ex (putL L x.2 y.2) n (2 ^ n-1)) with
     | false=>simp only [h5] at h3; cases h3
     | true =>
       simp only [h5] at h3
       refine .inr ⟨x,hx,y,hy,fun he=>?_,Nat.le_of_ble_eq_true h5,Nat.le_of_ble_eq_true h3⟩
       rw [he,Nat.ble_self_eq_true] at h4; cases h4
def Lof (m:Nat→Nat):Nat→List (Nat×Nat)
 | 0=>[]
 | k+1=>(m k,2 ^ k)::Lof m k
theorem Lof_eq (m:Nat→Nat) : ∀ k,Lof m k=((List.range k).reverse).map fun i=>(m i,2 ^ i)
 | 0=>rfl
 | k+1=>by rw [Lof,Lof_eq m k,List.range_succ,List.reverse_append]; rfl
theorem closed_of {m:Nat→Nat} {d:Nat} : ∀ k,(∀ i,i<k→d.testBit i=true→∀ j,(m i).testBit j=true→d.testBit j=true)→closed d (Lof m k)=true
 | 0,_=>rfl
 | k+1,h=>by
   have ih:=closed_of k fun i hi=>h i (by omega)
   show (bif (bif Nat.beq (Nat.land d (2 ^ k)) 0 then true else Nat.beq (Nat.land d (m k)) (m k)) then closed d (Lof m k) else false)=true
   rw [ih]
   cases hb:d.testBit k with
   | false =>
     have:d &&& 2 ^ k=0:=by
      apply Nat.eq_of_testBit_eq
      intro j
      rw [Nat.testBit_and,Nat.testBit_two_pow,Nat.zero_testBit]
      by_cases hkj:k=j
      · subst hkj; rw [hb]; rfl
      · rw [decide_eq_false hkj,Bool.and_false]
     rw [show Nat.land d (2 ^ k)=0 from this]; rfl
   | true =>
     have:d &&& m k=m k:=by
      apply Nat.eq_of_testBit_eq
      intro j
      rw [Nat.testBit_and]
      cases hj:(m k).testBit j with
      | false=>rw [Bool.and_false]
      | true=>rw [h k (by omega) hb j hj]; rfl
     rw [show Nat.land d (m k)=m k from this,show Nat.beq (m k) (m k)=true from Nat.beq_refl _]
     cases Nat.beq (Nat.land d (2 ^ k)) 0 <;> rfl
theorem pcL_eq {m:Nat→Nat} {d:Nat} : ∀ k,pcL d (Lof m k)=((List.range k).filter fun i=>d.testBit i).length
 | 0=>rfl
 | k+1=>by
   rw [List.range_succ,List.filter_append,List.length_append,← pcL_eq (m:=m) k]
   show (bif Nat.beq (Nat.land d (2 ^ k)) 0 then pcL d (Lof m k) else pcL d (Lof m k)+1)=_
   have hz:(Nat.land d (2 ^ k)=0)↔d.testBit k=false:=by
    show (d &&& 2 ^ k=0)↔_
    constructor
    · intro h
      have:(d &&& 2 ^ k).testBit k=false:=by rw [h]; simp
      simpa using this
    · intro hb
      apply Nat.eq_of_testBit_eq
      intro j
      rw [Nat.testBit_and,Nat.testBit_two_pow,Nat.zero_testBit]
      by_cases hkj:k=j
      · subst hkj; rw [hb]; rfl
      · rw [decide_eq_false hkj,Bool.and_false]
   cases hb:d.testBit k with
   | false=>rw [hz.2 hb]; simp [hb]
   | true =>
     have:Nat.beq (Nat.land d (2 ^ k)) 0=false:=by
      cases h:Nat.beq (Nat.land d (2 ^ k)) 0 with
      | false=>rfl
      | true=>rw [hz.1 (Nat.eq_of_beq_eq_true h)] at hb; cases hb
     rw [this]; simp [hb]
theorem tree_good {m d:Nat→Nat} {N:Nat} (hm : ∀ i,m i=d i ||| 2 ^ i) (hd : ∀ i,i<N→d i<2 ^ i) (hc : ∀ i,i<N→closed (d i) (Lof m i)=true) (hp : ∀ i,i+1<N→pcL (d i) (Lof m i)≤pcL (d (i+1)) (Lof m (i+1))) :
  ∀ f k,tree f (k+1) (Lof m (k+1)) (pcL (d k) (Lof m k))=true→∀ n,k+1≤n→n≤N→n≤k+1+f→good (Lof m n) n=true
 | 0,k,h,n,h1,h2,h3=>by
   obtain rfl:n=k+1:=by omega
   exact h
 | f+1,k,h,n,h1,h2,h3=>by
   have h' : (bif good (Lof m (k+1)) (k+1) then
    allN (fun e=>bif closed e (Lof m (k+1)) then (bif Nat.ble (pcL (d k) (Lof m k)) (pcL e (Lof m (k+1))) then tree f (k+1+1) ((Nat.lor e (2 ^ (k+1)),2 ^ (k+1))::Lof m (k+1)) (pcL e (Lof m (k+1))) else true) else true) (2 ^ (k+1)) else false)=true:=h
   cases hg:good (Lof m (k+1)) (k+1) with
   | false=>rw [hg] at h'; cases h'
   | true =>
     by_cases hn:n=k+1
     · rw [hn]; exact hg
     · rw [hg] at h'
       have h4:=allN_all h' (d (k+1)) (hd (k+1) (by omega))
       simp only [hc (k+1) (by omega),Nat.ble_eq_true_of_le (hp k (by omega)),cond_true] at h4
       have e:(Nat.lor (d (k+1)) (2 ^ (k+1)),2 ^ (k+1))::Lof m (k+1)=Lof m (k+1+1):=by
        show _=(m (k+1),2 ^ (k+1))::Lof m (k+1)
        rw [hm (k+1)]; rfl
       rw [e] at h4
       exact tree_good hm hd hc hp f (k+1) h4 n (by omega) h2 (by omega)
set_option maxRecDepth 1000000 in
theorem tree5:tree 5 1 [(1,1)] 0=true:=by kernel_rfl
end Ord
namespace Ord
open Go.Am
theorem filter_lt {α:Type} {p q:α→Bool} : ∀ {l:List α},(∀ x∈l,p x=true→q x=true)→(∃ x∈l,q x=true∧p x=false)→(l.filter p).length<(l.filter q).length
 | [],_,⟨x,hx,_⟩=>by cases hx
 | x::l,h,⟨y,hy,h1,h2⟩=>by
   have hle:(l.filter p).length≤(l.filter q).length:=by
    have : ∀ l:List α,(∀ x∈l,p x=true→q x=true)→(l.filter p).length≤(l.filter q).length:=by
     intro l
     induction l with
     | nil=>intro _; exact Nat.le_refl _
     | cons a l ih =>
       intro hl
       have:=ih fun x hx=>hl x (by simp [hx])
       rw [List.filter_cons,List.filter_cons]
       cases hp:p a with
       | false=>cases hq:q a <;> simp <;> omega
       | true=>rw [hl a (by simp) hp]; simp; omega
    exact this l fun x hx=>h x (by simp [hx])
   rw [List.filter_cons,List.filter_cons]
   rcases List.mem_cons.1 hy with rfl | hy
   · rw [h1,h2]; simp; omega
   · have ih:=filter_lt (l:=l) (fun x hx=>h x (by simp [hx])) ⟨y,hy,h1,h2⟩
     cases hp:p x with
     | false=>cases hq:q x <;> simp <;> omega
     | true=>rw [h x (by simp) hp]; simp; omega
theorem befN_cnt {o:List Int} (h:ord o=true) {i j:Nat} (hi:i<o.length) (hj:j<o.length) (hn:i≠j):befN o i j=cnt (fun a b=>ab o a b || (a==i&&b==j)) o.length (List.range o.length):=by
 have hirr : ∀ a,(fun a b=>ab o a b || (a==i&&b==j)) a a=false:=fun a=>by
  simp only [(ord_po h).irr,Bool.false_or,Bool.and_eq_false_iff,beq_eq_false_iff_ne]
  by_cases ha:a=i
  · right; omega
  · exact .inl ha
 rw [befN_eq h hi hj hn,← cnt_len]
 refine List.Perm.length_eq (perm_of_nodup ((Vi List.nodup_range).filter _) (Vi List.nodup_range) fun l=>?_)
 rw [Wz (r:=fun a b=>ab o a b || (a==i&&b==j)) hirr (by simp),List.mem_filter,mem_all h]
 constructor
 · rintro ⟨⟨hp,hw⟩,hb⟩
   have hl:l.Nodup:=hp.nodup_iff.2 List.nodup_range
   refine ⟨hp,(bef_pw hl).2 fun a ha b hb2 hab=>?_⟩
   have h1:=(bef_pw hl).1 hw a ha b hb2 hab
   simp only [h1,Bool.false_or,Bool.and_eq_false_iff,beq_eq_false_iff_ne]
   by_cases hbi:b=i
   · right
     rintro rfl
     subst hbi
     rw [bef_not hb2 ha hn] at hab
     rw [hb] at hab; cases hab
   · exact .inl hbi
 · rintro ⟨hp,hw⟩
   have hl:l.Nodup:=hp.nodup_iff.2 List.nodup_range
   have hw':=(bef_pw hl).1 hw
   refine ⟨⟨hp,(bef_pw hl).2 fun a ha b hb2 hab=>?_⟩,?_⟩
   · have:=hw' a ha b hb2 hab
     simp only [Bool.or_eq_false_iff] at this
     exact this.1
   · cases hb:bef l i j with
     | true=>rfl
     | false =>
       have hil:i∈l:=hp.mem_iff.2 (List.mem_range.2 hi)
       have hjl:j∈l:=hp.mem_iff.2 (List.mem_range.2 hj)
       have:=hw' j hjl i hil (by rw [bef_not hil hjl hn,hb]; rfl)
       simp at this
theorem third {o:List Int} (ho:ord o=true) (hc:1<cn o) : ∃ i j,i<o.length∧j<o.length∧i≠j∧cn o≤3*befN o i j∧3*befN o i j≤2*cn o:=by
 have hlen:=Yu ho
 have po:=ord_po ho
 obtain ⟨n,hn⟩ : ∃ n,n=o.length:=⟨_,rfl⟩
 rw [← hn] at hlen ⊢
 -- the elements, those with fewer below them first
 let key:Nat→Nat:=fun a=>((List.range n).filter fun b=>ab o b a).length
 have hkey : ∀ a,key a=((List.range n).filter fun b=>ab o b a).length:=fun _=>rfl
 obtain ⟨l,hl,hs⟩ : ∃ l:List Nat,l.Perm (List.range n)∧l.Pairwise fun a b=>key a≤key b:=by
  refine ⟨(List.range n).mergeSort fun a b=>decide (key a≤key b),List.mergeSort_perm _ _,?_⟩
  refine (List.pairwise_mergeSort (le:=fun a b=>decide (key a≤key b)) ?_ ?_ _).imp fun h=>by simpa using h
  · intro a b c h1 h2
    simp only [decide_eq_true_eq] at h1 h2 ⊢; omega
  · intro a b
    simp only [Bool.or_eq_true,decide_eq_true_eq]; omega
 have hll:l.length=n:=by rw [hl.length_eq,List.length_range]
 have hnd:l.Nodup:=hl.nodup_iff.2 List.nodup_range
 obtain ⟨f,hf⟩ : ∃ f:Nat→Nat,∀ k (hk:k<l.length),f k=l[k]:=⟨fun k=>l.getD k 0,fun k hk=>by simp [List.getD,hk]⟩
 have hfn : ∀ k,k<n→f k<n:=fun k hk=>by
  rw [hf k (by omega)]; exact List.mem_range.1 (hl.mem_iff.1 (List.getElem_mem _))
 have hinj : ∀ a,a<n→∀ b,b<n→f a=f b→a=b:=fun a ha b hb h=>by
  rw [hf a (by omega),hf b (by omega)] at h
  exact (List.getElem_inj hnd).1 h
 have hmap:(List.range n).map f=l:=List.ext_getElem (by simp [hll]) fun k h1 h2=>by rw [List.getElem_map,List.getElem_range,hf k h2]
 have hkm : ∀ a b,a<b→b<n→key (f a)≤key (f b):=fun a b hab hb=>by
  rw [hf a (by omega),hf b (by omega)]
  exact List.pairwise_iff_getElem.1 hs a b (by omega) (by omega) hab
 have hlt : ∀ a b,a<n→b<n→ab o (f a) (f b)=true→a<b:=fun a b ha hb h=>by
  have h1:key (f a)<key (f b):=by
   rw [hkey,hkey]
   refine filter_lt (fun x _ hx=>po.tr _ _ _ hx h) ⟨f a,List.mem_range.2 (hfn a ha),h,po.irr _⟩
  rcases Nat.lt_trichotomy a b with h2 | h2 | h2
  · exact h2
  · subst h2; omega
  · have:=hkm b a h2 ha; omega
 -- the sets of what is below
 let d:Nat→Nat:=fun b=>(List.range n).foldl (fun s j=>s ||| (if ab o (f j) (f b) then 2 ^ j else 0)) 0
 have hd : ∀ a b,(d b).testBit a=(decide (a<n)&&ab o (f a) (f b)):=fun a b=>by
  show ((List.range n).foldl (fun s j=>s ||| (if ab o (f j) (f b) then 2 ^ j else 0)) 0).testBit a=_
  rw [foldl_or_bit (f:=fun j=>if ab o (f j) (f b) then 2 ^ j else 0),Nat.zero_testBit,Bool.false_or,Bool.eq_iff_iff,List.any_eq_true]
  simp only [List.mem_range,Bool.and_eq_true,decide_eq_true_eq]
  constructor
  · rintro ⟨j,hj,h⟩
    split at h
    · next h2 =>
      rw [Nat.testBit_two_pow,decide_eq_true_eq] at h
      subst h; exact ⟨hj,h2⟩
    · rw [Nat.zero_testBit] at h; cases h
  · rintro ⟨ha,h⟩
    exact ⟨a,ha,by rw [if_pos h,Nat.testBit_two_pow]; simp⟩
 have hdl : ∀ b,b<n→d b<2 ^ b:=fun b hb=>lt_of_bits fun j hj=>by
  rw [hd]
  by_cases hjn:j<n
  · cases h:ab o (f j) (f b) with
    | false=>rw [Bool.and_false]
    | true=>have:=hlt j b hjn hb h; omega
  · rw [decide_eq_false hjn]; rfl
 let m:Nat→Nat:=fun i=>d i ||| 2 ^ i
 have hm : ∀ i,m i=d i ||| 2 ^ i:=fun _=>rfl
 have hmb : ∀ a b,(m b).testBit a=((d b).testBit a || decide (b=a)):=fun a b=>by rw [hm,Nat.testBit_or,Nat.testBit_two_pow]
 have hclo : ∀ k,k<n→closed (d k) (Lof m k)=true:=fun k hk=>closed_of k fun i hi h j hj=>by
  rw [hmb,Bool.or_eq_true] at hj
  rcases hj with hj | hj
  · rw [hd,Bool.and_eq_true] at h hj ⊢
    exact ⟨hj.1,po.tr _ _ _ hj.2 h.2⟩
  · rw [decide_eq_true_eq] at hj; subst hj; exact h
 have hpc : ∀ k,k<n→pcL (d k) (Lof m k)=key (f k):=fun k hk=>by
  rw [pcL_eq,hkey]
  have e1:((List.range k).filter fun i=>(d k).testBit i)=(List.range n).filter fun i=>(d k).testBit i:=by
   obtain ⟨q,rfl⟩ : ∃ q,n=k+q:=⟨n-k,by omega⟩
   rw [List.range_add,List.filter_append]
   have:((List.map (fun x=>k+x) (List.range q)).filter fun i=>(d k).testBit i)=[]:=by
    rw [List.filter_eq_nil_iff]
    intro x hx
    obtain ⟨y,_,rfl⟩:=List.mem_map.1 hx
    have h2:=Nat.testBit_lt_two_pow (Nat.lt_of_lt_of_le (hdl k hk) (Nat.pow_le_pow_right (n:=2) (by decide) (show k≤k+y by omega)))
    rw [h2]; decide
   rw [this,List.append_nil]
  rw [e1]
  have e2:((List.range n).filter fun i=>(d k).testBit i)=(List.range n).filter ((fun b=>ab o b (f k)) ∘ f):=List.filter_congr fun i hi=>by
   rw [hd,decide_eq_true (List.mem_range.1 hi)]; rfl
  rw [e2,← List.length_map (f:=f),← List.filter_map,hmap]
  exact (hl.filter _).length_eq
 have hmon : ∀ i,i+1<n→pcL (d i) (Lof m i)≤pcL (d (i+1)) (Lof m (i+1)):=fun i hi=>by
  rw [hpc i (by omega),hpc (i+1) hi]; exact hkm i (i+1) (by omega) hi
 have hgood:good (Lof m n) n=true:=by
  refine tree_good hm hdl hclo hmon 5 0 ?_ n (by omega) (Nat.le_refl _) (by omega)
  have h0:d 0=0:=by have:=hdl 0 (by omega); simpa using this
  have e:Lof m 1=[(1,1)]:=by rw [Lof,Lof,hm,h0]; rfl
  show tree 5 1 (Lof m 1) (pcL (d 0) [])=true
  rw [e]; exact tree5
 -- what is counted
 have hJ:((List.range n).reverse).Nodup:=(List.reverse_perm _).nodup_iff.2 List.nodup_range
 have hall:((List.range n).reverse.filter fun i=>(2 ^ n-1).testBit i)=(List.range n).reverse:=List.filter_eq_self.2 fun i hi=>by
  rw [Nat.testBit_two_pow_sub_one]; simpa using hi
 have hsub : ∀ i,(2 ^ n-1).testBit i=true→i∈(List.range n).reverse:=fun i hi=>by
  rw [Nat.testBit_two_pow_sub_one] at hi; simpa using hi
 obtain ⟨n1,hn1⟩ : ∃ n1,n=n1+1:=⟨n-1,by omega⟩
 have hcount : ∀ (M:Nat→Nat) (R:Nat→Nat→Bool),(∀ i,i<n→(M i).testBit i=true)→(∀ a,a<n→∀ b,b<n→R (f a) (f b)=rel M a b)→ex ((List.range n).reverse.map fun i=>(M i,2 ^ i)) n (2 ^ n-1)=cnt R n (List.range n):=by
  intro M R h1 h2
  have:=ex_cnt hJ (m:=M) (fun i hi=>h1 i (by simpa using hi)) n1 (2 ^ n-1) (by rw [hall,List.length_reverse,List.length_range]; exact hn1) hsub
  rw [← hn1,hall] at this
  rw [this,cnt_perm (rel M) (List.reverse_perm _),← cnt_map (r:=rel M) (r':=R) f (fun i hi j hj=>hinj i (List.mem_range.1 hi) j (List.mem_range.1 hj)) (fun i hi j hj=>h2 i (List.mem_range.1 hi) j (List.mem_range.1 hj)),hmap]
  exact cnt_perm R hl
 have hmself : ∀ i,i<n→(m i).testBit i=true:=fun i _=>by rw [hmb]; simp
 have hrel : ∀ a,a<n→∀ b,b<n→ab o (f a) (f b)=rel m a b:=fun a ha b hb=>by
  rw [rel,hmb,hd,decide_eq_true ha,Bool.true_and]
  by_cases hab:a=b
  · subst hab; rw [po.irr]; simp
  · rw [decide_eq_false (Ne.symm hab),Bool.or_false]; simp [hab]
 have hcn:ex (Lof m n) n (2 ^ n-1)=cn o:=by
  rw [Lof_eq,hcount m (ab o) hmself hrel,cn,← hn]
 rcases good_of hgood with h | ⟨x,hx,y,hy,hxy,h1,h2⟩
 · rw [hcn] at h; omega
 · rw [Lof_eq] at hx hy
   obtain ⟨a,ha,rfl⟩:=List.mem_map.1 hx
   obtain ⟨b,hb,rfl⟩:=List.mem_map.1 hy
   have ha' : a<n:=by simpa using ha
   have hb' : b<n:=by simpa using hb
   have hab:a≠b:=fun h=>hxy (by rw [h])
   have hfab:f a≠f b:=fun h=>hab (hinj a ha' b hb' h)
   have hbe:ex (putL (Lof m n) (2 ^ a) (2 ^ b)) n (2 ^ n-1)=befN o (f a) (f b):=by
    rw [Lof_eq,putL_map,hcount (fun i=>if i=b then m i ||| 2 ^ a else m i) (fun u v=>ab o u v || (u==f a&&v==f b)),befN_cnt ho (by rw [← hn]; exact hfn a ha') (by rw [← hn]; exact hfn b hb') hfab,← hn]
    · intro i hi
      split
      · rw [Nat.testBit_or,hmself i hi]; rfl
      · exact hmself i hi
    · intro u hu v hv
      rw [hrel u hu v hv,rel,rel]
      have e1:(f u==f a)=(u==a):=by
       by_cases h:u=a
       · subst h; simp
       · rw [beq_eq_false_iff_ne.2 h,beq_eq_false_iff_ne.2 fun he=>h (hinj u hu a ha' he)]
      have e2:(f v==f b)=(v==b):=by
       by_cases h:v=b
       · subst h; simp
       · rw [beq_eq_false_iff_ne.2 h,beq_eq_false_iff_ne.2 fun he=>h (hinj v hv b hb' he)]
      rw [e1,e2]
      by_cases hvb:v=b
      · subst hvb
        simp only [if_true,Nat.testBit_or,Nat.testBit_two_pow,beq_self_eq_true,Bool.and_true]
        by_cases hua:u=a
        · subst hua; simp [hab]
        · simp [hua,Ne.symm hua]
      · simp [hvb]
   simp only at h1 h2
   rw [hcn,hbe] at h1 h2
   exact ⟨f a,f b,hfn a ha',hfn b hb',hfab,h1,h2⟩
end Ord
namespace Ord
open Go.Am
/-! How many lines there are at most. -/
def fac:Nat→Nat
 | 0=>1
 | n+1=>(n+1)*fac n
theorem cnt_fac (r:Nat→Nat→Bool) : ∀ k S,S.length=k→cnt r k S≤fac k
 | 0,_,_=>Nat.le_refl _
 | k+1,S,hS=>by
   rw [cnt,fac]
   have h1:(Wm r S).length≤k+1:=by rw [← hS]; exact List.length_filter_le _ _
   have h2 : ∀ F:List Nat,(∀ i∈F,i∈S)→(F.map fun i=>cnt r k (S.erase i)).sum≤F.length*fac k:=by
    intro F
    induction F with
    | nil=>intro _; simp
    | cons a F ih =>
      intro h
      have e1:=ih fun i hi=>h i (by simp [hi])
      have e2:=cnt_fac r k (S.erase a) (by rw [List.length_erase_of_mem (h a (by simp)),hS]; rfl)
      rw [List.map_cons,List.sum_cons,List.length_cons,Nat.succ_mul]; omega
   exact Nat.le_trans (h2 _ fun i hi=>(Wt.1 hi).1) (Nat.mul_le_mul_right _ h1)
theorem fac_mono : ∀ {n:Nat},n≤6→fac n≤720
 | 0,_=>by decide
 | 1,_=>by decide
 | 2,_=>by decide
 | 3,_=>by decide
 | 4,_=>by decide
 | 5,_=>by decide
 | 6,_=>by decide
 | n+7,h=>by omega
theorem cn_720 {o:List Int} (h:ord o=true):cn o≤720 :=
 Nat.le_trans (cnt_fac _ _ _ (by simp)) (fac_mono (Yu h).2)
/-! Fractions in least terms. -/
def num (a b:Nat):Nat:=a / Nat.gcd a b
def den (a b:Nat):Nat:=b / Nat.gcd a b
theorem red_eq {a b:Nat} (hb:0<b):num a b*Nat.gcd a b=a∧den a b*Nat.gcd a b=b∧0<Nat.gcd a b∧0<den a b:=by
 have hg:0<Nat.gcd a b:=Nat.gcd_pos_of_pos_right a hb
 refine ⟨Nat.div_mul_cancel (Nat.gcd_dvd_left _ _),Nat.div_mul_cancel (Nat.gcd_dvd_right _ _),hg,?_⟩
 exact Nat.div_pos (Nat.le_of_dvd hb (Nat.gcd_dvd_right _ _)) hg
theorem num_le (a b:Nat):num a b≤a:=Nat.div_le_self _ _
theorem den_le (a b:Nat):den a b≤b:=Nat.div_le_self _ _
theorem red_le {a b k:Nat} (hb:0<b) (h:a≤k*b):num a b≤k*den a b:=by
 obtain ⟨h1,h2,h3,h4⟩:=red_eq (a:=a) hb
 refine Nat.le_of_mul_le_mul_right ?_ h3
 rw [h1,Nat.mul_assoc,h2]; exact h
theorem red_cross {a b:Nat} (hb:0<b):num a b*b=a*den a b:=by
 obtain ⟨h1,h2,h3,h4⟩:=red_eq (a:=a) hb
 calc num a b*b=num a b*(den a b*Nat.gcd a b):=by rw [h2]
  _=(num a b*Nat.gcd a b)*den a b:=by rw [Nat.mul_comm (den a b),Nat.mul_assoc]
  _=a*den a b:=by rw [h1]
def hTo (o:List Int):Nat→Nat
 | 0=>0
 | k+1=>hTo o k+hsum o k
def Vc (f:Nat→Nat):Nat→Nat
 | 0=>0
 | k+1=>Vc f k+f k
theorem sumTo_range (f:Nat→Nat) : ∀ n,((List.range n).map f).sum=Vc f n
 | 0=>rfl
 | n+1=>by rw [List.range_succ,List.map_append,List.sum_append,sumTo_range f n,Vc]; simp
theorem sumTo_add (f g:Nat→Nat) : ∀ n,Vc (fun i=>f i+g i) n=Vc f n+Vc g n
 | 0=>rfl
 | n+1=>by rw [Vc,Vc,Vc,sumTo_add f g n]; omega
theorem Vk {f g:Nat→Nat} : ∀ n,(∀ i,i<n→f i=g i)→Vc f n=Vc g n
 | 0,_=>rfl
 | n+1,h=>by rw [Vc,Vc,Vk n fun i hi=>h i (by omega),h n (by omega)]
theorem sumTo_swap (F:Nat→Nat→Nat) : ∀ n m,Vc (fun i=>Vc (F i) m) n=Vc (fun j=>Vc (fun i=>F i j) n) m
 | 0,m=>by
   induction m with
   | zero=>rfl
   | succ m ih=>exact ih
 | n+1,m=>by
   rw [Vc,sumTo_swap F n m,← sumTo_add]; rfl
theorem sumTo_const (c:Nat) : ∀ n,Vc (fun _=>c) n=n*c
 | 0=>by simp [Vc]
 | n+1=>by rw [Vc,sumTo_const c n,Nat.succ_mul]
theorem hTo_sum (o:List Int) : ∀ k,hTo o k=Vc (hsum o) k
 | 0=>rfl
 | k+1=>by rw [hTo,Vc,hTo_sum o k]
theorem hsum_sumTo (o:List Int) (i:Nat):hsum o i=Vc (fun j=>if j=i then 0 else befN o j i) o.length:=by
 rw [hsum,← sumTo_range]
 generalize List.range o.length=J
 induction J with
 | nil=>rfl
 | cons j J ih =>
   rw [List.filter_cons]
   by_cases h:j=i
   · rw [if_neg (by simpa using h),ih,List.map_cons,List.sum_cons,if_pos h,Nat.zero_add]
   · rw [if_pos (by simpa using h),List.map_cons,List.sum_cons,ih,List.map_cons,List.sum_cons,if_neg h]
theorem sumTo_but (c:Nat) {i:Nat} : ∀ n,Vc (fun j=>if j=i then 0 else c) n+(if i<n then c else 0)=n*c
 | 0=>by simp [Vc]
 | n+1=>by
   have ih:=sumTo_but c (i:=i) n
   rw [Vc,Nat.succ_mul,← ih]
   by_cases h1:n=i
   · subst h1; simp
   · rw [if_neg h1]
     by_cases h2:i<n
     · rw [if_pos h2,if_pos (by omega)]
     · rw [if_neg h2,if_neg (by omega)]; omega
theorem heights {o:List Int} (ho:ord o=true):2*hTo o o.length=o.length*(o.length-1)*cn o:=by
 obtain ⟨n,hn⟩ : ∃ n,n=o.length:=⟨_,rfl⟩
 have h1:hTo o o.length=Vc (fun i=>Vc (fun j=>if j=i then 0 else befN o j i) o.length) o.length:=by
  rw [hTo_sum]; exact Vk _ fun i _=>hsum_sumTo o i
 have h2:hTo o o.length=Vc (fun i=>Vc (fun j=>if j=i then 0 else befN o i j) o.length) o.length:=by
  rw [h1,sumTo_swap]
  refine Vk _ fun i _=>Vk _ fun j _=>?_
  by_cases h:i=j
  · rw [if_pos h,if_pos h.symm]
  · rw [if_neg h,if_neg (Ne.symm h)]
 have h3:2*hTo o o.length=Vc (fun i=>Vc (fun j=>if j=i then 0 else cn o) o.length) o.length:=by
  rw [Nat.two_mul]
  conv=>lhs; lhs; rw [h1]
  conv=>lhs; rhs; rw [h2]
  rw [← sumTo_add]
  refine Vk _ fun i hi=>?_
  rw [← sumTo_add]
  refine Vk _ fun j hj=>?_
  by_cases h:j=i
  · rw [if_pos h,if_pos h,if_pos h]
  · rw [if_neg h,if_neg h,if_neg h,befN_two ho hj hi h]
 rw [h3,← hn]
 have h4 : ∀ i,i<n→Vc (fun j=>if j=i then 0 else cn o) n=(n-1)*cn o:=fun i hi=>by
  have:=sumTo_but (cn o) (i:=i) n
  rw [if_pos hi] at this
  rw [Nat.sub_mul,Nat.one_mul]; omega
 rw [Vk n h4,sumTo_const,Nat.mul_assoc]
end Ord
namespace Go.Proofs.Tryd.Am
open Go.Am Ord
set_option maxRecDepth 100000
theorem Wr (o:List Int):(Xu o).length=o.length:=by simp [Xu]
theorem turn_bt {o:List Int} {i:Nat} (hi:i<o.length):bt (Xu o) i=dn o i:=by
 rw [bt,Xu,getD_map,if_pos hi]; rfl
theorem Uj {o:List Int} (ho:ord o=true) (i j:Nat):ab (Xu o) i j=ab o j i:=by
 by_cases hi:i<o.length
 · rw [ab,turn_bt hi,dn_bit' ho]
 · rw [ab,bt_out (by rw [Wr]; omega),Nat.zero_testBit]
   cases h:ab o j i with
   | false=>rfl
   | true=>exact absurd (ab_lt ho h).2 hi
theorem turn_abF {o:List Int} (ho:ord o=true):ab (Xu o)=fun i j=>ab o j i:=funext fun i=>funext fun j=>Uj ho i j
theorem turn_sets {o:List Int}:Sets o.length (Xu o):=⟨Wr o,fun i hi=>⟨by rw [turn_bt hi,Xu,getD_map,if_pos hi],by rw [turn_bt hi]; exact dn_lt⟩⟩
theorem flip_po {r:Nat→Nat→Bool} (h:Po r):Po fun i j=>r j i:=⟨h.irr,fun i j k h1 h2=>h.tr k j i h2 h1⟩
theorem turn_ord {o:List Int} (ho:ord o=true):ord (Xu o)=true :=
 turn_sets.ord (Yu ho) (by rw [turn_abF ho]; exact flip_po (ord_po ho))
theorem turn_turn {o:List Int} (ho:ord o=true):Xu (Xu o)=o :=
 Sets.ext (n:=o.length) (by have:=turn_sets (o:=Xu o); rwa [Wr] at this) (ord_sets ho) fun i j=>by rw [Uj (turn_ord ho),Uj ho]
theorem turn_cn {o:List Int} (ho:ord o=true):cn (Xu o)=cn o:=by
 rw [cn,cn,turn_abF ho,Wr]
 have:=cnt_flip (r:=ab o) (fun i=>(ord_po ho).irr i) (S:=List.range o.length) List.nodup_range
 rwa [List.length_range] at this
theorem turn_fr {o:List Int} (ho:ord o=true) (i j:Nat):fr (Xu o) i j=fr o i j:=by
 rw [fr,fr,Uj ho,Uj ho,Bool.and_assoc,Bool.and_assoc,Bool.and_comm (!ab o j i)]
theorem turn_add {o:List Int} (ho:ord o=true) {i j:Nat} (hi:i<o.length) (hj:j<o.length) (hf:fr o i j=true):addL (Xu o) i j=Xu (addL o j i):=by
 obtain ⟨f1,f2,f3⟩:=fr_out hf
 have o2:=Vx ho hj hi (Ne.symm f1) f2
 have o1:ord (addL (Xu o) i j)=true:=Vx (turn_ord ho) (by rw [Wr]; exact hi) (by rw [Wr]; exact hj) f1 (by rw [Uj ho]; exact f2)
 refine Sets.ext (n:=o.length) (by have:=ord_sets o1; rwa [addL_len,Wr] at this) (by have:=turn_sets (o:=addL o j i); rwa [addL_len] at this) fun a b=>?_
 rw [addL_ab (by rw [Wr]; exact hi) (turn_ord ho),Uj o2,addL_ab hj ho,addR,addR,Uj ho,Uj ho,Uj ho]
 congr 1
 exact Bool.and_comm _ _
theorem turn_bef {o:List Int} (ho:ord o=true) {i j:Nat} (hi:i<o.length) (hj:j<o.length):befN (Xu o) i j=befN o j i:=by
 rw [befN,befN,Uj ho,turn_fr ho,turn_cn ho]
 by_cases h:ab o j i=true
 · rw [if_pos h,if_pos h]
 · rw [if_neg h,if_neg h,fr_comm]
   by_cases hf:fr o j i=true
   · rw [if_pos hf,if_pos hf,turn_add ho hi hj (by rw [fr_comm]; exact hf)]
     obtain ⟨f1,f2,f3⟩:=fr_out hf
     exact turn_cn (Vx ho hj hi f1 f3)
   · rw [if_neg hf,if_neg hf]
theorem turn_srtb : ∀ (n:Nat) {o:List Int},ord o=true→Vz n (Xu o)=Vz n o
 | 0,o,ho=>by rw [Vz,Vz,turn_cn ho]
 | n+1,o,ho=>by
   have key : ∀ i j:Nat,i<o.length→j<o.length→(decide (i<j)&&(fr (Xu o) i j&&(Vz n (addL (Xu o) i j)&&Vz n (addL (Xu o) j i))))=(decide (i<j)&&(fr o i j&&(Vz n (addL o i j)&&Vz n (addL o j i)))):=fun i j hi hj=>by
    rw [turn_fr ho]
    cases hf:fr o i j with
    | false=>rfl
    | true =>
      obtain ⟨f1,f2,f3⟩:=fr_out hf
      rw [turn_add ho hi hj hf,turn_add ho hj hi (by rw [fr_comm]; exact hf),turn_srtb n (Vx ho hj hi (Ne.symm f1) f2),turn_srtb n (Vx ho hi hj f1 f3),Bool.and_comm (Vz n (addL o j i))]
   rw [Vz,Vz,turn_cn ho,Wr]
   have e:((List.range o.length).any fun i=>(List.range o.length).any fun j=>decide (i<j)&&(fr (Xu o) i j&&(Vz n (addL (Xu o) i j)&&Vz n (addL (Xu o) j i))))=((List.range o.length).any fun i=>(List.range o.length).any fun j=>decide (i<j)&&(fr o i j&&(Vz n (addL o i j)&&Vz n (addL o j i)))):=by
    rw [Bool.eq_iff_iff,List.any_eq_true,List.any_eq_true]
    constructor
    · rintro ⟨i,hi,h⟩
      obtain ⟨j,hj,h2⟩:=List.any_eq_true.1 h
      rw [key i j (List.mem_range.1 hi) (List.mem_range.1 hj)] at h2
      exact ⟨i,hi,List.any_eq_true.2 ⟨j,hj,h2⟩⟩
    · rintro ⟨i,hi,h⟩
      obtain ⟨j,hj,h2⟩:=List.any_eq_true.1 h
      rw [← key i j (List.mem_range.1 hi) (List.mem_range.1 hj)] at h2
      exact ⟨i,hi,List.any_eq_true.2 ⟨j,hj,h2⟩⟩
   rw [e]
theorem hsum_add {o:List Int} (ho:ord o=true) {i:Nat} (hi:i<o.length):hsum (Xu o) i+hsum o i=(o.length-1)*cn o:=by
 rw [hsum,hsum,Wr]
 have key : ∀ l:List Nat,(∀ j∈l,j<o.length∧j≠i)→(l.map fun j=>befN (Xu o) j i).sum+(l.map fun j=>befN o j i).sum=l.length*cn o:=by
  intro l
  induction l with
  | nil=>intro _; simp
  | cons a l ih =>
    intro h
    have h1:=h a (by simp)
    have:=ih fun j hj=>h j (by simp [hj])
    have h2:=befN_two ho h1.1 hi h1.2
    rw [List.map_cons,List.map_cons,List.sum_cons,List.sum_cons,List.length_cons,Nat.succ_mul,turn_bef ho h1.1 hi]
    omega
 rw [key _ fun j hj=>⟨List.mem_range.1 (List.mem_filter.1 hj).1,of_decide_eq_true (List.mem_filter.1 hj).2⟩]
 congr 1
 have hc:((List.range o.length).filter fun j=>decide (j≠i))=(List.range o.length).erase i:=(List.nodup_range.erase_eq_filter i).symm▸by
  refine List.filter_congr fun j _=>?_
  by_cases h:j=i
  · rw [h]; simp
  · simp [h]
 rw [hc,List.length_erase_of_mem (List.mem_range.2 hi),List.length_range]
theorem turn_sep {o:List Int} (ho:ord o=true) {q:List Nat} (hq : ∀ k∈q,k<cn o) (hs:sepB o q=true) : ∃ ks:List Nat,ks.length=q.length∧(∀ k∈ks,k<cn (Xu o))∧sepB (Xu o) ks=true:=by
 have hsp:=sepB_iff.1 hs
 have each : ∀ k,k<cn o→∃ k',k' < cn (Xu o)∧∀ i j,i<o.length→j<o.length→bef ((Yq o).getD k []) j i=true→bef ((Yq (Xu o)).getD k' []) i j=true:=by
  intro k hk
  have hm:(Yq o).getD k []∈Yq o:=by
   rw [List.getD,List.getElem?_eq_getElem (by rw [Xj]; exact hk),Option.getD_some]; exact List.getElem_mem _
  generalize (Yq o).getD k []=l at hm ⊢
  obtain ⟨h1,h2⟩:=(mem_all ho).1 hm
  have hnd:l.Nodup:=h1.nodup_iff.2 List.nodup_range
  have hlen:l.length=o.length:=by rw [h1.length_eq,List.length_range]
  have hml : ∀ {i},i<o.length→i∈l:=fun hi=>h1.mem_iff.2 (List.mem_range.2 hi)
  have hlt : ∀ {i},i<o.length→l.idxOf i<o.length:=fun hi=>by rw [← hlen]; exact List.idxOf_lt_length_of_mem (hml hi)
  have hK:Key (ab (Xu o)) (List.range (Xu o).length) fun x=>o.length-l.idxOf x:=by
   rw [Wr,turn_abF ho]
   refine ⟨fun i hi j hj he=>?_,fun i hi j hj hab=>?_⟩
   · have hi:=List.mem_range.1 hi
     have hj:=List.mem_range.1 hj
     have h1:=hlt hi
     have h2:=hlt hj
     have he:o.length-l.idxOf i=o.length-l.idxOf j:=he
     exact idx_inj (hml hi) (hml hj) (by omega)
   · have hi:=List.mem_range.1 hi
     have hj:=List.mem_range.1 hj
     have h3:=hlt hi
     have h4:=hlt hj
     have hab:ab o j i=true:=hab
     have hne:i≠j:=fun hc=>by subst hc; rw [(ord_po ho).irr] at hab; cases hab
     show o.length-l.idxOf i<o.length-l.idxOf j
     cases hb:bef l i j with
     | true =>
       have:=(bef_pw hnd).1 h2 i (hml hi) j (hml hj) hb
       rw [hab] at this; cases this
     | false =>
       have h5:=of_decide_eq_false hb
       have:l.idxOf i≠l.idxOf j:=fun hc=>hne (idx_inj (hml hi) (hml hj) hc)
       omega
  obtain ⟨k',hk',hb⟩:=key_line (turn_ord ho) hK
  refine ⟨k',hk',fun i j hi hj hbe=>?_⟩
  have h3:l.idxOf j<l.idxOf i:=of_decide_eq_true hbe
  have:=hlt hi
  have:=hlt hj
  exact hb i j (by rw [Wr]; exact hi) (by rw [Wr]; exact hj) (by show o.length-l.idxOf i<o.length-l.idxOf j; omega)
 have pick : ∀ q:List Nat,(∀ k∈q,k<cn o)→∃ ks:List Nat,ks.length=q.length∧(∀ k∈ks,k<cn (Xu o))∧∀ k∈q,∃ k'∈ks,∀ i j,i<o.length→j<o.length→bef ((Yq o).getD k []) j i=true→bef ((Yq (Xu o)).getD k' []) i j=true:=by
  intro q
  induction q with
  | nil=>exact fun _=>⟨[],rfl,fun k h=>(List.not_mem_nil h).elim,fun k h=>(List.not_mem_nil h).elim⟩
  | cons a q ih =>
    intro h
    obtain ⟨ks,h1,h2,h3⟩:=ih fun k hk=>h k (by simp [hk])
    obtain ⟨k',h4,h5⟩:=each a (h a (by simp))
    refine ⟨k' :: ks,by simp [h1],fun k hk=>?_,fun k hk=>?_⟩
    · rcases List.mem_cons.1 hk with rfl | hk
      · exact h4
      · exact h2 k hk
    · rcases List.mem_cons.1 hk with rfl | hk
      · exact ⟨k',by simp,h5⟩
      · obtain ⟨k2,g1,g2⟩:=h3 k hk
        exact ⟨k2,by simp [g1],g2⟩
 obtain ⟨ks,h1,h2,h3⟩:=pick q hq
 refine ⟨ks,h1,h2,sepB_iff.2 fun i j hi hj hne hab=>?_⟩
 rw [Wr] at hi hj
 rw [Uj ho] at hab
 obtain ⟨k,hk,hb⟩:=hsp j i hj hi (Ne.symm hne) hab
 obtain ⟨k',hk',hb'⟩:=h3 k hk
 exact ⟨k',hk',hb' j i hj hi hb⟩
theorem turn_dim_le {o:List Int} (ho:ord o=true):(Ve (Xu o)).length≤(Ve o).length:=by
 have d:=dim_facts ho
 obtain ⟨ks,h1,h2,h3⟩:=turn_sep ho d.lt d.sep
 obtain ⟨t,t1,t2,t3⟩:=sorted_of h2
 have hs:sepB (Xu o) t=true:=by rw [sepB_mem (Xu o) t ks t2]; exact h3
 have ht1:1≤t.length:=by
  rcases t with _ | ⟨x,t⟩
  · have hk0:ks=[]:=by
     cases ks with
     | nil=>rfl
     | cons a l=>exact absurd ((t2 a).2 (by simp)) (by simp)
    rw [hk0] at h1
    have:=d.ge
    simp only [List.length_nil] at h1; omega
  · simp
 cases hc:Xl (sepB (Xu o)) (cn (Xu o)) 1 (Ve o).length with
 | none=>rw [Vp hc t ht1 (by omega) t1] at hs; cases hs
 | some q' =>
   obtain ⟨e1,e2,e3,_⟩:=realL_of hc d.le
   rw [e1]; exact e3
theorem turn_dim {o:List Int} (ho:ord o=true):(Ve (Xu o)).length=(Ve o).length:=by
 refine Nat.le_antisymm (turn_dim_le ho) ?_
 have:=turn_dim_le (turn_ord ho)
 rwa [turn_turn ho] at this
end Go.Proofs.Tryd.Am
namespace Go.Proofs.Tryd.Am
open Go.Am Ord
set_option maxRecDepth 100000
set_option maxHeartbeats 1000000
theorem bld2 {a b:Nat} {K:Value→Prop}:Wv prog 33 [(0,Zx (a:Nat)),(1,Zx (b:Nat))] K=K (.agg #[Zx (a:Nat),Zx (b:Nat)]):=by
 simp [Wv,zero_33,Ub,pl_33_0,pl_33_1,Wp,cellsOf,Yp]
end Go.Proofs.Tryd.Am
namespace Go.Proofs.Tryd.Am
open Go.Am
set_option maxRecDepth 100000
/-! 14: planchet planchetlaw07.OrderTurned -/
@[reducible] def q14_0:SCode:=.region [⟨some 4,.assign (.const (.bool false)),none⟩]
@[reducible] def q14_1:SCode:=.region [⟨some 23,.move (.tmp 0),none⟩,
  ⟨some 24,.call { callee:=.value (.func 18),args:=#[.tmp 23],argTypes:=#[22] },none⟩,
  ⟨some 25,.call { callee:=.value (.func 45),args:=#[.tmp 24],argTypes:=#[22] },none⟩,
  ⟨some 22,.move (.tmp 25),none⟩,
  ⟨some 26,.extract (.tmp 22) 0,none⟩,
  ⟨some 27,.extract (.tmp 22) 1,none⟩,
  ⟨some 5,.assign (.tmp 26),none⟩,
  ⟨some 6,.assign (.tmp 27),none⟩]
@[reducible] def q14_2:SCode:=.region [⟨some 28,.move (.tmp 6),none⟩,
  ⟨some 29,.binOp .neq 23 (.tmp 28) (.const (.int .i64 0)) 23,none⟩,
  ⟨some 30,.move (.tmp 29),none⟩,
  ⟨some 31,.move (.tmp 0),some (30,false)⟩,
  ⟨some 32,.call { callee:=.value (.func 19),args:=#[.tmp 31],argTypes:=#[22] },some (30,false)⟩,
  ⟨some 33,.unOp .not 4 (.tmp 32),some (30,false)⟩,
  ⟨some 34,.pick (.tmp 30) (.const (.bool true)) (.tmp 33),none⟩]
@[reducible] def q14_3:SCode:=.region [⟨some 35,.move (.tmp 6),none⟩,
  ⟨some 36,.binOp .eql 23 (.tmp 35) (.const (.int .i64 2)) 23,none⟩,
  ⟨some 37,.move (.tmp 36),none⟩,
  ⟨some 38,.call { callee:=.value (.func 20),args:=#[],argTypes:=#[] },some (37,true)⟩,
  ⟨some 39,.pick (.tmp 37) (.tmp 38) (.const (.bool false)),none⟩,
  ⟨some 4,.assign (.tmp 39),none⟩]
@[reducible] def q14_4:SCode:=.region [⟨some 40,.move (.tmp 5),none⟩,
  ⟨some 41,.call { callee:=.value (.func 19),args:=#[.tmp 40],argTypes:=#[22] },none⟩,
  ⟨some 42,.unOp .not 4 (.tmp 41),none⟩,
  ⟨some 43,.move (.tmp 42),none⟩,
  ⟨some 44,.move (.tmp 5),some (43,false)⟩,
  ⟨some 45,.call { callee:=.builtin .len,args:=#[.tmp 44],argTypes:=#[22] },some (43,false)⟩,
  ⟨some 46,.move (.tmp 0),some (43,false)⟩,
  ⟨some 47,.call { callee:=.builtin .len,args:=#[.tmp 46],argTypes:=#[22] },some (43,false)⟩,
  ⟨some 48,.binOp .neq 3 (.tmp 45) (.tmp 47) 3,some (43,false)⟩,
  ⟨some 49,.pick (.tmp 43) (.const (.bool true)) (.tmp 48),none⟩]
@[reducible] def q14_5:SCode:=.region [⟨some 4,.assign (.const (.bool false)),none⟩]
@[reducible] def q14_6:SCode:=.region [⟨some 50,.move (.tmp 1),none⟩,
  ⟨some 51,.convert 3 29 (.tmp 50),none⟩,
  ⟨some 52,.move (.tmp 0),none⟩,
  ⟨some 53,.call { callee:=.builtin .len,args:=#[.tmp 52],argTypes:=#[22] },none⟩,
  ⟨some 54,.convert 3 29 (.tmp 53),none⟩,
  ⟨some 55,.binOp .rem 29 (.tmp 51) (.tmp 54) 29,none⟩,
  ⟨some 56,.convert 29 3 (.tmp 55),none⟩,
  ⟨some 1,.assign (.tmp 56),none⟩]
@[reducible] def q14_7:SCode:=.region [⟨some 7,.alloc 74,none⟩,
  ⟨some 8,.alloc 74,none⟩]
@[reducible] def q14_8:SCode:=.region [⟨some 9,.alloc 37,none⟩,
  ⟨some 10,.alloc 37,none⟩]
@[reducible] def q14_9:SCode:=.region [⟨some 57,.move (.tmp 0),none⟩,
  ⟨some 58,.move (.tmp 5),none⟩,
  ⟨some 59,.buildSlice 45 2 #[(0,.tmp 57),(1,.tmp 58)],none⟩,
  ⟨some 60,.call { callee:=.builtin .len,args:=#[.tmp 59],argTypes:=#[45] },none⟩,
  ⟨some 61,.move (.const (.int .i64 0)),none⟩]
@[reducible] def q14_10:SCode:=.region [⟨some 62,.binOp .lss 3 (.tmp 61) (.tmp 60) 3,none⟩]
@[reducible] def q14_11:SCode:=.region [⟨some 63,.indexAddr 45 (.tmp 59) (.tmp 61),none⟩,
  ⟨some 64,.load 22 (.tmp 63),none⟩,
  ⟨some 12,.assign (.tmp 64),none⟩]
@[reducible] def q14_12:SCode:=.region [⟨some 66,.move (.tmp 12),none⟩,
  ⟨some 67,.call { callee:=.value (.func 18),args:=#[.tmp 66],argTypes:=#[22] },none⟩,
  ⟨some 68,.call { callee:=.value (.func 17),args:=#[.tmp 67],argTypes:=#[22] },none⟩,
  ⟨some 65,.move (.tmp 68),none⟩,
  ⟨some 69,.extract (.tmp 65) 0,none⟩,
  ⟨some 70,.extract (.tmp 65) 1,none⟩,
  ⟨some 13,.assign (.tmp 69),none⟩,
  ⟨some 14,.assign (.tmp 70),none⟩]
@[reducible] def q14_13:SCode:=.region [⟨some 72,.move (.tmp 12),none⟩,
  ⟨some 73,.call { callee:=.value (.func 18),args:=#[.tmp 72],argTypes:=#[22] },none⟩,
  ⟨some 74,.call { callee:=.value (.func 50),args:=#[.tmp 73],argTypes:=#[22] },none⟩,
  ⟨some 71,.move (.tmp 74),none⟩,
  ⟨some 75,.extract (.tmp 71) 0,none⟩,
  ⟨some 76,.extract (.tmp 71) 1,none⟩,
  ⟨some 15,.assign (.tmp 75),none⟩,
  ⟨some 16,.assign (.tmp 76),none⟩]
@[reducible] def q14_14:SCode:=.region [⟨some 78,.move (.tmp 12),none⟩,
  ⟨some 79,.call { callee:=.value (.func 18),args:=#[.tmp 78],argTypes:=#[22] },none⟩,
  ⟨some 80,.call { callee:=.value (.func 44),args:=#[.tmp 79],argTypes:=#[22] },none⟩,
  ⟨some 77,.move (.tmp 80),none⟩,
  ⟨some 81,.extract (.tmp 77) 0,none⟩,
  ⟨some 82,.extract (.tmp 77) 1,none⟩,
  ⟨some 17,.assign (.tmp 81),none⟩,
  ⟨some 18,.assign (.tmp 82),none⟩]
@[reducible] def q14_15:SCode:=.region [⟨some 84,.move (.tmp 12),none⟩,
  ⟨some 85,.call { callee:=.value (.func 18),args:=#[.tmp 84],argTypes:=#[22] },none⟩,
  ⟨some 86,.move (.tmp 1),none⟩,
  ⟨some 87,.call { callee:=.value (.func 26),args:=#[.tmp 85,.tmp 86],argTypes:=#[22,3] },none⟩,
  ⟨some 83,.move (.tmp 87),none⟩,
  ⟨some 88,.extract (.tmp 83) 0,none⟩,
  ⟨some 89,.extract (.tmp 83) 1,none⟩,
  ⟨some 19,.alloc 37,none⟩,
  ⟨none,.store 37 (.tmp 19) (.tmp 88),none⟩,
  ⟨some 20,.assign (.tmp 89),none⟩]
@[reducible] def q14_16:SCode:=.region [⟨some 90,.move (.tmp 14),none⟩,
  ⟨some 91,.binOp .neq 23 (.tmp 90) (.const (.int .i64 0)) 23,none⟩,
  ⟨some 92,.move (.tmp 91),none⟩,
  ⟨some 93,.move (.tmp 16),some (92,false)⟩,
  ⟨some 94,.binOp .neq 23 (.tmp 93) (.const (.int .i64 0)) 23,some (92,false)⟩,
  ⟨some 95,.pick (.tmp 92) (.const (.bool true)) (.tmp 94),none⟩,
  ⟨some 96,.move (.tmp 95),none⟩,
  ⟨some 97,.move (.tmp 18),some (96,false)⟩,
  ⟨some 98,.binOp .neq 23 (.tmp 97) (.const (.int .i64 0)) 23,some (96,false)⟩,
  ⟨some 99,.pick (.tmp 96) (.const (.bool true)) (.tmp 98),none⟩,
  ⟨some 100,.move (.tmp 99),none⟩,
  ⟨some 101,.move (.tmp 20),some (100,false)⟩,
  ⟨some 102,.binOp .neq 23 (.tmp 101) (.const (.int .i64 0)) 23,some (100,false)⟩,
  ⟨some 103,.pick (.tmp 100) (.const (.bool true)) (.tmp 102),none⟩,
  ⟨some 104,.move (.tmp 103),none⟩,
  ⟨some 105,.load 37 (.tmp 19),some (104,false)⟩,
  ⟨some 106,.call { callee:=.value (.func 42),args:=#[.tmp 105,.const (.int .i64 6)],argTypes:=#[37,3] },some (104,false)⟩,
  ⟨some 107,.unOp .not 4 (.tmp 106),some (104,false)⟩,
  ⟨some 108,.pick (.tmp 104) (.const (.bool true)) (.tmp 107),none⟩]
@[reducible] def q14_17:SCode:=.region [⟨some 4,.assign (.const (.bool false)),none⟩]
def q14_18:SCode:=.draw [⟨some 109,.load 74 (.tmp 7),none⟩,
    ⟨some 110,.load 37 (.tmp 9),none⟩,
    ⟨none,.store 74 (.tmp 8) (.tmp 109),none⟩,
    ⟨none,.store 37 (.tmp 10) (.tmp 110),none⟩]
  [[],[],[0,0],[1,2,0,1,2]]
def q14_19:SCode:=.draw [⟨some 111,.move (.tmp 13),none⟩,
    ⟨some 112,.move (.tmp 15),none⟩,
    ⟨some 113,.move (.tmp 17),none⟩,
    ⟨some 114,.build 74 #[(0,.tmp 111),(1,.tmp 112),(2,.tmp 113)],none⟩,
    ⟨some 115,.load 37 (.tmp 19),none⟩,
    ⟨none,.store 74 (.tmp 7) (.tmp 114),none⟩,
    ⟨none,.store 37 (.tmp 9) (.tmp 115),none⟩]
  [[],[],[],[0,1,2],[],[3,0,1,2,3],[4,5,0,1,2,3,4,5]]
@[reducible] def q14_20:SCode:=.region [⟨some 116,.binOp .add 3 (.tmp 61) (.const (.int .i64 1)) 3,none⟩,
  ⟨some 61,.move (.tmp 116),none⟩]
def l14_0:SCode:=(.seq q14_10 (.seq (.cond (.tmp 62) .skip (.exit 0)) (.seq (.block 1 (.seq q14_11 (.seq q14_12 (.seq q14_13 (.seq q14_14 (.seq q14_15 (.seq (.seq q14_16 (.cond (.tmp 108) (.seq q14_17 .ret) .skip)) (.seq q14_18 q14_19)))))))) q14_20)))
@[reducible] def q14_21:SCode:=.region [⟨some 118,.move (.tmp 5),none⟩,
  ⟨some 119,.call { callee:=.value (.func 45),args:=#[.tmp 118],argTypes:=#[22] },none⟩,
  ⟨some 117,.move (.tmp 119),none⟩,
  ⟨some 120,.extract (.tmp 117) 0,none⟩,
  ⟨some 121,.extract (.tmp 117) 1,none⟩,
  ⟨some 21,.assign (.tmp 120),none⟩,
  ⟨some 6,.assign (.tmp 121),none⟩]
@[reducible] def q14_22:SCode:=.region [⟨some 122,.move (.tmp 6),none⟩,
  ⟨some 123,.binOp .eql 23 (.tmp 122) (.const (.int .i64 0)) 23,none⟩,
  ⟨some 124,.move (.tmp 123),none⟩,
  ⟨some 125,.move (.tmp 21),some (124,true)⟩,
  ⟨some 126,.move (.tmp 0),some (124,true)⟩,
  ⟨some 127,.call { callee:=.value (.func 34),args:=#[.tmp 125,.tmp 126],argTypes:=#[22,22] },some (124,true)⟩,
  ⟨some 128,.pick (.tmp 124) (.tmp 127) (.const (.bool false)),none⟩,
  ⟨some 129,.move (.tmp 128),none⟩,
  ⟨some 130,.load 74 (.tmp 7),some (129,true)⟩,
  ⟨some 131,.load 74 (.tmp 8),some (129,true)⟩,
  ⟨some 132,.binOp .eql 74 (.tmp 130) (.tmp 131) 74,some (129,true)⟩,
  ⟨some 133,.pick (.tmp 129) (.tmp 132) (.const (.bool false)),none⟩,
  ⟨some 134,.move (.tmp 133),none⟩,
  ⟨some 135,.fieldAddr 37 (.tmp 9) 0,some (134,true)⟩,
  ⟨some 136,.load 3 (.tmp 135),some (134,true)⟩,
  ⟨some 137,.fieldAddr 37 (.tmp 10) 1,some (134,true)⟩,
  ⟨some 138,.load 3 (.tmp 137),some (134,true)⟩,
  ⟨some 139,.binOp .mul 3 (.tmp 136) (.tmp 138) 3,some (134,true)⟩,
  ⟨some 140,.fieldAddr 37 (.tmp 10) 0,some (134,true)⟩,
  ⟨some 141,.load 3 (.tmp 140),some (134,true)⟩,
  ⟨some 142,.fieldAddr 37 (.tmp 9) 1,some (134,true)⟩,
  ⟨some 143,.load 3 (.tmp 142),some (134,true)⟩,
  ⟨some 144,.binOp .mul 3 (.tmp 141) (.tmp 143) 3,some (134,true)⟩,
  ⟨some 145,.binOp .add 3 (.tmp 139) (.tmp 144) 3,some (134,true)⟩,
  ⟨some 146,.move (.tmp 0),some (134,true)⟩,
  ⟨some 147,.call { callee:=.builtin .len,args:=#[.tmp 146],argTypes:=#[22] },some (134,true)⟩,
  ⟨some 148,.binOp .sub 3 (.tmp 147) (.const (.int .i64 1)) 3,some (134,true)⟩,
  ⟨some 149,.fieldAddr 37 (.tmp 9) 1,some (134,true)⟩,
  ⟨some 150,.load 3 (.tmp 149),some (134,true)⟩,
  ⟨some 151,.binOp .mul 3 (.tmp 148) (.tmp 150) 3,some (134,true)⟩,
  ⟨some 152,.fieldAddr 37 (.tmp 10) 1,some (134,true)⟩,
  ⟨some 153,.load 3 (.tmp 152),some (134,true)⟩,
  ⟨some 154,.binOp .mul 3 (.tmp 151) (.tmp 153) 3,some (134,true)⟩,
  ⟨some 155,.binOp .eql 3 (.tmp 145) (.tmp 154) 3,some (134,true)⟩,
  ⟨some 156,.pick (.tmp 134) (.tmp 155) (.const (.bool false)),none⟩,
  ⟨some 157,.move (.tmp 156),none⟩,
  ⟨some 158,.call { callee:=.value (.func 20),args:=#[],argTypes:=#[] },some (157,true)⟩,
  ⟨some 159,.pick (.tmp 157) (.tmp 158) (.const (.bool false)),none⟩,
  ⟨some 4,.assign (.tmp 159),none⟩]
def s14:SCode:=(.seq q14_0 (.seq q14_1 (.seq (.seq q14_2 (.cond (.tmp 34) (.seq q14_3 .ret) .skip)) (.seq (.seq q14_4 (.cond (.tmp 49) (.seq q14_5 .ret) .skip)) (.seq q14_6 (.seq q14_7 (.seq q14_8 (.seq (.seq q14_9 (.block 0 (.loop l14_0))) (.seq q14_21 (.seq q14_22 .ret))))))))))
theorem s14_strip:Yg (Yf Tryd.f14)=s14:=by kernel_rfl
theorem s14_ok:Yz 160 (Yf Tryd.f14)=true:=by kernel_rfl
/-! 50: planchet order.Need -/
@[reducible] def q50_0:SCode:=.region [⟨some 2,.assign (.const (.int .i64 0)),none⟩,
  ⟨some 3,.assign (.const (.int .i64 0)),none⟩]
@[reducible] def q50_1:SCode:=.region [⟨some 7,.move (.tmp 0),none⟩,
  ⟨some 8,.call { callee:=.value (.func 64),args:=#[.tmp 7],argTypes:=#[22] },none⟩,
  ⟨some 6,.move (.tmp 8),none⟩,
  ⟨some 9,.extract (.tmp 6) 0,none⟩,
  ⟨some 10,.extract (.tmp 6) 1,none⟩,
  ⟨some 4,.alloc 77,none⟩,
  ⟨none,.store 77 (.tmp 4) (.tmp 9),none⟩,
  ⟨some 5,.assign (.tmp 10),none⟩]
@[reducible] def q50_2:SCode:=.region [⟨some 11,.move (.tmp 5),none⟩,
  ⟨some 12,.unOp .not 4 (.tmp 11),none⟩]
@[reducible] def q50_3:SCode:=.region [⟨some 2,.assign (.const (.int .i64 0)),none⟩,
  ⟨some 3,.assign (.const (.int .i64 2)),none⟩]
@[reducible] def q50_4:SCode:=.region [⟨some 13,.makeMap 98 none,none⟩,
  ⟨some 14,.build 100 #[(0,.tmp 13)],none⟩,
  ⟨some 15,.box 100 (.tmp 14),none⟩,
  ⟨some 16,.load 77 (.tmp 4),none⟩,
  ⟨some 17,.call { callee:=.value (.func 90),args:=#[.tmp 15,.tmp 16],argTypes:=#[97,77] },none⟩,
  ⟨some 2,.assign (.tmp 17),none⟩,
  ⟨some 3,.assign (.const (.int .i64 0)),none⟩]
def s50:SCode:=(.seq q50_0 (.seq q50_1 (.seq (.seq q50_2 (.cond (.tmp 12) (.seq q50_3 .ret) .skip)) (.seq q50_4 .ret))))
theorem s50_strip:Yg (Yf Tryd.f50)=s50:=by kernel_rfl
theorem s50_ok:Yz 18 (Yf Tryd.f50)=true:=by kernel_rfl
/-! 90: (planchet order.sorter).need -/
@[reducible] def q90_0:SCode:=.region [⟨some 3,.box 77 (.tmp 1),none⟩,
  ⟨some 4,.assign (.const (.int .i64 0)),none⟩]
@[reducible] def q90_1:SCode:=.region [⟨some 6,.load 77 (.tmp 3),none⟩,
  ⟨some 7,.call { callee:=.value (.func 65),args:=#[.tmp 6],argTypes:=#[77] },none⟩,
  ⟨some 8,.binOp .sub 3 (.tmp 7) (.const (.int .i64 1)) 3,none⟩,
  ⟨some 9,.convert 3 29 (.tmp 8),none⟩,
  ⟨some 10,.call { callee:=.value (.func 108),args:=#[.tmp 9],argTypes:=#[29] },none⟩,
  ⟨some 5,.assign (.tmp 10),none⟩]
@[reducible] def q90_2:SCode:=.region [⟨some 11,.move (.tmp 0),none⟩,
  ⟨some 12,.load 77 (.tmp 3),none⟩,
  ⟨some 13,.move (.tmp 5),none⟩,
  ⟨some 14,.call { callee:=.value (.func 109),args:=#[.tmp 11,.tmp 12,.tmp 13],argTypes:=#[97,77,3] },none⟩,
  ⟨some 15,.unOp .not 4 (.tmp 14),none⟩]
@[reducible] def q90_3:SCode:=.region [⟨some 16,.move (.tmp 5),none⟩,
  ⟨some 17,.binOp .add 3 (.tmp 16) (.const (.int .i64 1)) 3,none⟩,
  ⟨some 5,.assign (.tmp 17),none⟩]
def l90_0:SCode:=(.seq (.seq q90_2 (.cond (.tmp 15) .skip (.exit 0))) (.block 1 q90_3))
@[reducible] def q90_4:SCode:=.region [⟨some 18,.move (.tmp 5),none⟩,
  ⟨some 4,.assign (.tmp 18),none⟩]
def s90:SCode:=(.seq q90_0 (.seq q90_1 (.seq (.block 0 (.loop l90_0)) (.seq q90_4 .ret))))
theorem s90_strip:Yg (Yf Tryd.f90)=s90:=by kernel_rfl
theorem s90_ok:Yz 19 (Yf Tryd.f90)=true:=by kernel_rfl
/-! 109: (planchet order.sorter).sorts -/
@[reducible] def q109_0:SCode:=.region [⟨some 4,.box 77 (.tmp 1),none⟩,
  ⟨some 6,.assign (.const (.bool false)),none⟩]
@[reducible] def q109_1:SCode:=.region [⟨some 10,.load 77 (.tmp 4),none⟩,
  ⟨some 11,.call { callee:=.value (.func 65),args:=#[.tmp 10],argTypes:=#[77] },none⟩,
  ⟨some 7,.assign (.tmp 11),none⟩]
@[reducible] def q109_2:SCode:=.region [⟨some 12,.move (.tmp 7),none⟩,
  ⟨some 13,.binOp .eql 3 (.tmp 12) (.const (.int .i64 1)) 3,none⟩,
  ⟨some 14,.move (.tmp 13),none⟩,
  ⟨some 15,.move (.tmp 2),some (14,false)⟩,
  ⟨some 16,.binOp .eql 3 (.tmp 15) (.const (.int .i64 0)) 3,some (14,false)⟩,
  ⟨some 17,.pick (.tmp 14) (.const (.bool true)) (.tmp 16),none⟩,
  ⟨some 18,.move (.tmp 17),none⟩,
  ⟨some 19,.move (.tmp 7),some (18,false)⟩,
  ⟨some 20,.move (.tmp 2),some (18,false)⟩,
  ⟨some 21,.binOp .shl 3 (.const (.int .i64 1)) (.tmp 20) 3,some (18,false)⟩,
  ⟨some 22,.binOp .gtr 3 (.tmp 19) (.tmp 21) 3,some (18,false)⟩,
  ⟨some 23,.pick (.tmp 18) (.const (.bool true)) (.tmp 22),none⟩]
@[reducible] def q109_3:SCode:=.region [⟨some 24,.move (.tmp 7),none⟩,
  ⟨some 25,.binOp .eql 3 (.tmp 24) (.const (.int .i64 1)) 3,none⟩,
  ⟨some 6,.assign (.tmp 25),none⟩]
def q109_4:SCode:=.draw [⟨some 27,.move (.tmp 0),none⟩,
    ⟨some 28,.nilCheck (.tmp 27),none⟩,
    ⟨some 29,.fieldAddr 100 (.tmp 28) 0,none⟩,
    ⟨some 30,.load 98 (.tmp 29),none⟩,
    ⟨some 31,.load 77 (.tmp 4),none⟩,
    ⟨some 32,.move (.tmp 2),none⟩,
    ⟨some 33,.build 136 #[(0,.tmp 31),(1,.tmp 32)],none⟩,
    ⟨some 34,.lookup 98 (.tmp 30) (.tmp 33) true,none⟩,
    ⟨some 26,.move (.tmp 34),none⟩,
    ⟨some 35,.extract (.tmp 26) 0,none⟩,
    ⟨some 36,.extract (.tmp 26) 1,none⟩,
    ⟨some 8,.assign (.tmp 35),none⟩,
    ⟨some 9,.assign (.tmp 36),none⟩]
  [[],[0],[1],[2],[],[],[4,5],[3,6],[7],[8],[8],[9,0,1,2,3,4,5,6,7,8,9],[10,11,0,1,2,3,4,5,6,7,8,9,10,11]]
@[reducible] def q109_5:SCode:=.region [⟨some 37,.move (.tmp 9),none⟩,
  ⟨some 38,.unOp .not 4 (.tmp 37),none⟩]
@[reducible] def q109_6:SCode:=.region [⟨some 40,.move (.tmp 0),none⟩,
  ⟨some 41,.load 77 (.tmp 4),none⟩,
  ⟨some 42,.move (.tmp 2),none⟩,
  ⟨some 43,.call { callee:=.value (.func 110),args:=#[.tmp 40,.tmp 41,.tmp 42],argTypes:=#[97,77,3] },none⟩,
  ⟨some 39,.move (.tmp 43),none⟩,
  ⟨some 44,.extract (.tmp 39) 0,none⟩,
  ⟨some 45,.extract (.tmp 39) 1,none⟩,
  ⟨some 8,.assign (.tmp 45),none⟩]
def q109_7:SCode:=.draw [⟨some 46,.move (.tmp 0),none⟩,
    ⟨some 47,.nilCheck (.tmp 46),none⟩,
    ⟨some 48,.fieldAddr 100 (.tmp 47) 0,none⟩,
    ⟨some 49,.load 98 (.tmp 48),none⟩,
    ⟨some 50,.load 77 (.tmp 4),none⟩,
    ⟨some 51,.move (.tmp 2),none⟩,
    ⟨some 52,.build 136 #[(0,.tmp 50),(1,.tmp 51)],none⟩,
    ⟨some 53,.move (.tmp 8),none⟩,
    ⟨none,.mapUpdate 98 (.tmp 49) (.tmp 52) (.tmp 53),none⟩]
  [[],[0],[1],[2],[],[],[4,5],[],[3,6,7,0,1,2,3,4,5,6,7]]
@[reducible] def q109_8:SCode:=.region [⟨some 54,.move (.tmp 8),none⟩,
  ⟨some 6,.assign (.tmp 54),none⟩]
def s109:SCode:=(.seq q109_0 (.seq q109_1 (.seq (.seq q109_2 (.cond (.tmp 23) (.seq q109_3 .ret) .skip)) (.seq q109_4 (.seq (.seq q109_5 (.cond (.tmp 38) (.seq q109_6 q109_7) .skip)) (.seq q109_8 .ret))))))
theorem s109_strip:Yg (Yf Tryd.f109)=s109:=by kernel_rfl
theorem s109_ok:Yz 55 (Yf Tryd.f109)=true:=by kernel_rfl
/-! 110: (planchet order.sorter).pair -/
@[reducible] def q110_0:SCode:=.region [⟨some 3,.box 97 (.tmp 0),none⟩,
  ⟨some 4,.box 77 (.tmp 1),none⟩,
  ⟨some 5,.box 3 (.tmp 2),none⟩,
  ⟨some 6,.alloc 33,none⟩,
  ⟨some 7,.assign (.const (.bool false)),none⟩]
@[reducible] def q110_1:SCode:=.region [⟨some 8,.assign (.const (.slice none 0 0)),none⟩]
@[reducible] def q110_2:SCode:=.region [⟨some 16,.load 77 (.tmp 4),none⟩,
  ⟨some 17,.call { callee:=.value (.func 65),args:=#[.tmp 16],argTypes:=#[77] },none⟩,
  ⟨some 9,.assign (.tmp 17),none⟩]
@[reducible] def q110_3:SCode:=.region [⟨some 18,.makeMap 137 none,none⟩,
  ⟨some 10,.alloc 137,none⟩,
  ⟨none,.store 137 (.tmp 10) (.tmp 18),none⟩]
@[reducible] def q110_4:SCode:=.region [⟨some 19,.fieldAddr 77 (.tmp 4) 0,none⟩,
  ⟨some 20,.load 3 (.tmp 19),none⟩,
  ⟨some 21,.move (.const (.int .i64 0)),none⟩]
@[reducible] def q110_5:SCode:=.region [⟨some 22,.binOp .lss 3 (.tmp 21) (.tmp 20) 3,none⟩]
@[reducible] def q110_6:SCode:=.region [⟨some 23,.move (.tmp 21),none⟩,
  ⟨some 11,.assign (.tmp 23),none⟩]
@[reducible] def q110_7:SCode:=.region [⟨some 24,.move (.tmp 11),none⟩,
  ⟨some 25,.binOp .add 3 (.tmp 24) (.const (.int .i64 1)) 3,none⟩,
  ⟨some 12,.assign (.tmp 25),none⟩]
@[reducible] def q110_8:SCode:=.region [⟨some 26,.move (.tmp 12),none⟩,
  ⟨some 27,.fieldAddr 77 (.tmp 4) 0,none⟩,
  ⟨some 28,.load 3 (.tmp 27),none⟩,
  ⟨some 29,.binOp .lss 3 (.tmp 26) (.tmp 28) 3,none⟩]
@[reducible] def q110_10:SCode:=.region [⟨some 32,.load 77 (.tmp 4),none⟩,
  ⟨some 33,.move (.tmp 11),none⟩,
  ⟨some 34,.move (.tmp 12),none⟩,
  ⟨some 35,.call { callee:=.value (.func 68),args:=#[.tmp 32,.tmp 33,.tmp 34],argTypes:=#[77,3,3] },none⟩]
@[reducible] def q110_11:SCode:=.region [⟨some 36,.move (.tmp 11),none⟩,
  ⟨some 37,.move (.tmp 12),none⟩,
  ⟨some 38,.build 33 #[(0,.tmp 36),(1,.tmp 37)],none⟩,
  ⟨some 13,.alloc 33,none⟩,
  ⟨none,.store 33 (.tmp 13) (.tmp 38),none⟩]
@[reducible] def q110_12:SCode:=.region [⟨some 39,.load 77 (.tmp 4),none⟩,
  ⟨some 40,.move (.tmp 11),none⟩,
  ⟨some 41,.move (.tmp 12),none⟩,
  ⟨some 42,.call { callee:=.value (.func 72),args:=#[.tmp 39,.tmp 40,.tmp 41],argTypes:=#[77,3,3] },none⟩,
  ⟨some 43,.binOp .mul 3 (.const (.int .i64 2)) (.tmp 42) 3,none⟩,
  ⟨some 44,.move (.tmp 9),none⟩,
  ⟨some 45,.binOp .sub 3 (.tmp 43) (.tmp 44) 3,none⟩,
  ⟨some 14,.assign (.tmp 45),none⟩]
def q110_13:SCode:=.draw [⟨some 46,.load 137 (.tmp 10),none⟩,
    ⟨some 47,.load 33 (.tmp 13),none⟩,
    ⟨some 48,.move (.tmp 8),none⟩,
    ⟨some 49,.load 33 (.tmp 13),none⟩,
    ⟨some 50,.buildSlice 52 1 #[(0,.tmp 49)],none⟩,
    ⟨some 51,.call { callee:=.builtin .append,args:=#[.tmp 48,.tmp 50],argTypes:=#[52,52] },none⟩,
    ⟨some 52,.move (.tmp 14),none⟩,
    ⟨some 53,.move (.tmp 14),none⟩,
    ⟨some 54,.unOp .neg 3 (.tmp 53),none⟩,
    ⟨some 55,.call { callee:=.builtin .max,args:=#[.tmp 52,.tmp 54],argTypes:=#[3,3] },none⟩,
    ⟨some 8,.assign (.tmp 51),none⟩,
    ⟨none,.mapUpdate 137 (.tmp 46) (.tmp 47) (.tmp 55),none⟩]
  [[],[],[],[],[3],[2,4],[],[],[7],[6,8],[5,5,2,3,4,5],[0,1,9,10,0,1,2,3,4,5,6,7,8,9,10]]
@[reducible] def q110_9:SCode:=.region [⟨some 30,.move (.tmp 12),none⟩,
  ⟨some 31,.binOp .add 3 (.tmp 30) (.const (.int .i64 1)) 3,none⟩,
  ⟨some 12,.assign (.tmp 31),none⟩]
def l110_0:SCode:=(.seq (.seq q110_8 (.cond (.tmp 29) .skip (.exit 2))) (.seq (.block 3 (.seq q110_10 (.cond (.tmp 35) (.seq q110_11 (.seq q110_12 q110_13)) .skip))) q110_9))
@[reducible] def q110_14:SCode:=.region [⟨some 56,.binOp .add 3 (.tmp 21) (.const (.int .i64 1)) 3,none⟩,
  ⟨some 21,.move (.tmp 56),none⟩]
def l110_1:SCode:=(.seq q110_5 (.seq (.cond (.tmp 22) .skip (.exit 0)) (.seq (.block 1 (.seq q110_6 (.seq q110_7 (.block 2 (.loop l110_0))))) q110_14)))
@[reducible] def q110_15:SCode:=.region [⟨some 57,.move (.tmp 8),none⟩,
  ⟨some 58,.makeFunc (.func 121) #[] #[.tmp 10],none⟩,
  ⟨some 59,.call { callee:=.value (.func 120),args:=#[.tmp 57,.tmp 58],argTypes:=#[52,139] },none⟩]
@[reducible] def q110_16:SCode:=.region [⟨some 60,.move (.tmp 8),none⟩,
  ⟨some 61,.makeFunc (.func 122) #[] #[.tmp 3,.tmp 4,.tmp 5],none⟩,
  ⟨some 62,.call { callee:=.value (.func 104),args:=#[.tmp 60,.tmp 61],argTypes:=#[52,91] },none⟩,
  ⟨some 15,.assign (.tmp 62),none⟩]
@[reducible] def q110_17:SCode:=.region [⟨some 63,.move (.tmp 15),none⟩,
  ⟨some 64,.binOp .lss 3 (.tmp 63) (.const (.int .i64 0)) 3,none⟩]
@[reducible] def q110_18:SCode:=.region [⟨some 65,.build 33 #[],none⟩,
  ⟨none,.store 33 (.tmp 6) (.tmp 65),none⟩,
  ⟨some 7,.assign (.const (.bool false)),none⟩]
@[reducible] def q110_19:SCode:=.region [⟨some 66,.move (.tmp 8),none⟩,
  ⟨some 67,.move (.tmp 15),none⟩,
  ⟨some 68,.indexAddr 52 (.tmp 66) (.tmp 67),none⟩,
  ⟨some 69,.load 33 (.tmp 68),none⟩,
  ⟨none,.store 33 (.tmp 6) (.tmp 69),none⟩,
  ⟨some 7,.assign (.const (.bool true)),none⟩]
def s110:SCode:=(.seq q110_0 (.seq q110_1 (.seq q110_2 (.seq q110_3 (.seq (.seq q110_4 (.block 0 (.loop l110_1))) (.seq q110_15 (.seq q110_16 (.seq (.seq q110_17 (.cond (.tmp 64) (.seq q110_18 .ret) .skip)) (.seq q110_19 .ret)))))))))
theorem s110_strip:Yg (Yf Tryd.f110)=s110:=by kernel_rfl
theorem s110_ok:Yz 70 (Yf Tryd.f110)=true:=by kernel_rfl
/-! 120: slices.SortStableFunc[[][2]int,[2]int] -/
@[reducible] def q120_0:SCode:=.region [⟨some 4,.move (.tmp 0),none⟩,
  ⟨some 5,.move (.tmp 0),none⟩,
  ⟨some 6,.call { callee:=.builtin .len,args:=#[.tmp 5],argTypes:=#[52] },none⟩,
  ⟨some 7,.move (.tmp 1),none⟩,
  ⟨some 8,.call { callee:=.value (.func 134),args:=#[.tmp 4,.tmp 6,.tmp 7],argTypes:=#[52,3,139] },none⟩]
def s120:SCode:=q120_0
theorem s120_strip:Yg (Yf Tryd.f120)=s120:=by kernel_rfl
theorem s120_ok:Yz 9 (Yf Tryd.f120)=true:=by kernel_rfl
/-! 121: (planchet order.sorter).pair$1 -/
@[reducible] def q121_0:SCode:=.region [⟨some 3,.box 33 (.tmp 0),none⟩,
  ⟨some 4,.box 33 (.tmp 1),none⟩,
  ⟨some 5,.assign (.const (.int .i64 0)),none⟩]
def q121_1:SCode:=.draw [⟨some 6,.load 137 (.tmp 2),none⟩,
    ⟨some 7,.load 33 (.tmp 3),none⟩,
    ⟨some 8,.lookup 137 (.tmp 6) (.tmp 7) false,none⟩,
    ⟨some 9,.load 137 (.tmp 2),none⟩,
    ⟨some 10,.load 33 (.tmp 4),none⟩,
    ⟨some 11,.lookup 137 (.tmp 9) (.tmp 10) false,none⟩,
    ⟨some 12,.binOp .sub 3 (.tmp 8) (.tmp 11) 3,none⟩,
    ⟨some 5,.assign (.tmp 12),none⟩]
  [[],[],[0,1],[],[],[3,4],[2,5],[6,0,1,2,3,4,5,6]]
def s121:SCode:=(.seq q121_0 (.seq q121_1 .ret))
theorem s121_strip:Yg (Yf Tryd.f121)=s121:=by kernel_rfl
theorem s121_ok:Yz 13 (Yf Tryd.f121)=true:=by kernel_rfl
/-! 122: (planchet order.sorter).pair$2 -/
@[reducible] def q122_0:SCode:=.region [⟨some 4,.box 33 (.tmp 0),none⟩,
  ⟨some 5,.assign (.const (.bool false)),none⟩]
def q122_1:SCode:=.draw [⟨some 6,.load 97 (.tmp 1),none⟩,
    ⟨some 7,.load 77 (.tmp 2),none⟩,
    ⟨some 8,.indexAddr 33 (.tmp 4) (.const (.int .i64 0)),none⟩,
    ⟨some 9,.load 3 (.tmp 8),none⟩,
    ⟨some 10,.indexAddr 33 (.tmp 4) (.const (.int .i64 1)),none⟩,
    ⟨some 11,.load 3 (.tmp 10),none⟩,
    ⟨some 12,.call { callee:=.value (.func 69),args:=#[.tmp 7,.tmp 9,.tmp 11],argTypes:=#[77,3,3] },none⟩,
    ⟨some 13,.load 3 (.tmp 3),none⟩,
    ⟨some 14,.binOp .sub 3 (.tmp 13) (.const (.int .i64 1)) 3,none⟩,
    ⟨some 15,.call { callee:=.value (.func 109),args:=#[.tmp 6,.tmp 12,.tmp 14],argTypes:=#[97,77,3] },none⟩,
    ⟨some 16,.move (.tmp 15),none⟩,
    ⟨some 17,.load 97 (.tmp 1),some (16,true)⟩,
    ⟨some 18,.load 77 (.tmp 2),some (16,true)⟩,
    ⟨some 19,.indexAddr 33 (.tmp 4) (.const (.int .i64 1)),some (16,true)⟩,
    ⟨some 20,.load 3 (.tmp 19),some (16,true)⟩,
    ⟨some 21,.indexAddr 33 (.tmp 4) (.const (.int .i64 0)),some (16,true)⟩,
    ⟨some 22,.load 3 (.tmp 21),some (16,true)⟩,
    ⟨some 23,.call { callee:=.value (.func 69),args:=#[.tmp 18,.tmp 20,.tmp 22],argTypes:=#[77,3,3] },some (16,true)⟩,
    ⟨some 24,.load 3 (.tmp 3),some (16,true)⟩,
    ⟨some 25,.binOp .sub 3 (.tmp 24) (.const (.int .i64 1)) 3,some (16,true)⟩,
    ⟨some 26,.call { callee:=.value (.func 109),args:=#[.tmp 17,.tmp 23,.tmp 25],argTypes:=#[97,77,3] },some (16,true)⟩,
    ⟨some 27,.pick (.tmp 16) (.tmp 26) (.const (.bool false)),none⟩,
    ⟨some 5,.assign (.tmp 27),none⟩]
  [[],[],[],[2],[],[4],[1,3,5],[],[7],[0,6,8,6],[9,9],[10],[10],[10],[13,10],[10],[15,10],[12,14,16,10,10],[10],[18,10],[11,17,19,17,10],[10,20],[21,20,0,1,2,3,4,5,6,7,8,9,10,11,12,13,14,15,16,17,18,19,20,21]]
def s122:SCode:=(.seq q122_0 (.seq q122_1 .ret))
theorem s122_strip:Yg (Yf Tryd.f122)=s122:=by kernel_rfl
theorem s122_ok:Yz 28 (Yf Tryd.f122)=true:=by kernel_rfl
/-! 134: slices.stableCmpFunc[[2]int] -/
@[reducible] def q134_0:SCode:=.region [⟨some 6,.assign (.const (.int .i64 20)),none⟩]
@[reducible] def q134_1:SCode:=.region [⟨some 10,.move (.tmp 6),none⟩,
  ⟨some 7,.assign (.const (.int .i64 0)),none⟩,
  ⟨some 8,.assign (.tmp 10),none⟩]
@[reducible] def q134_2:SCode:=.region [⟨some 11,.move (.tmp 8),none⟩,
  ⟨some 12,.move (.tmp 1),none⟩,
  ⟨some 13,.binOp .leq 3 (.tmp 11) (.tmp 12) 3,none⟩]
@[reducible] def q134_3:SCode:=.region [⟨some 14,.move (.tmp 0),none⟩,
  ⟨some 15,.move (.tmp 7),none⟩,
  ⟨some 16,.move (.tmp 8),none⟩,
  ⟨some 17,.move (.tmp 2),none⟩,
  ⟨some 18,.call { callee:=.value (.func 141),args:=#[.tmp 14,.tmp 15,.tmp 16,.tmp 17],argTypes:=#[52,3,3,139] },none⟩]
@[reducible] def q134_4:SCode:=.region [⟨some 19,.move (.tmp 8),none⟩,
  ⟨some 7,.assign (.tmp 19),none⟩]
@[reducible] def q134_5:SCode:=.region [⟨some 20,.move (.tmp 8),none⟩,
  ⟨some 21,.move (.tmp 6),none⟩,
  ⟨some 22,.binOp .add 3 (.tmp 20) (.tmp 21) 3,none⟩,
  ⟨some 8,.assign (.tmp 22),none⟩]
def l134_0:SCode:=(.seq (.seq q134_2 (.cond (.tmp 13) .skip (.exit 0))) (.block 1 (.seq q134_3 (.seq q134_4 q134_5))))
@[reducible] def q134_6:SCode:=.region [⟨some 23,.move (.tmp 0),none⟩,
  ⟨some 24,.move (.tmp 7),none⟩,
  ⟨some 25,.move (.tmp 1),none⟩,
  ⟨some 26,.move (.tmp 2),none⟩,
  ⟨some 27,.call { callee:=.value (.func 141),args:=#[.tmp 23,.tmp 24,.tmp 25,.tmp 26],argTypes:=#[52,3,3,139] },none⟩]
@[reducible] def q134_7:SCode:=.region [⟨some 28,.move (.tmp 6),none⟩,
  ⟨some 29,.move (.tmp 1),none⟩,
  ⟨some 30,.binOp .lss 3 (.tmp 28) (.tmp 29) 3,none⟩]
@[reducible] def q134_8:SCode:=.region [⟨some 31,.move (.tmp 6),none⟩,
  ⟨some 32,.binOp .mul 3 (.const (.int .i64 2)) (.tmp 31) 3,none⟩,
  ⟨some 7,.assign (.const (.int .i64 0)),none⟩,
  ⟨some 8,.assign (.tmp 32),none⟩]
@[reducible] def q134_9:SCode:=.region [⟨some 33,.move (.tmp 8),none⟩,
  ⟨some 34,.move (.tmp 1),none⟩,
  ⟨some 35,.binOp .leq 3 (.tmp 33) (.tmp 34) 3,none⟩]
@[reducible] def q134_10:SCode:=.region [⟨some 36,.move (.tmp 0),none⟩,
  ⟨some 37,.move (.tmp 7),none⟩,
  ⟨some 38,.move (.tmp 7),none⟩,
  ⟨some 39,.move (.tmp 6),none⟩,
  ⟨some 40,.binOp .add 3 (.tmp 38) (.tmp 39) 3,none⟩,
  ⟨some 41,.move (.tmp 8),none⟩,
  ⟨some 42,.move (.tmp 2),none⟩,
  ⟨some 43,.call { callee:=.value (.func 142),args:=#[.tmp 36,.tmp 37,.tmp 40,.tmp 41,.tmp 42],argTypes:=#[52,3,3,3,139] },none⟩]
@[reducible] def q134_11:SCode:=.region [⟨some 44,.move (.tmp 8),none⟩,
  ⟨some 7,.assign (.tmp 44),none⟩]
@[reducible] def q134_12:SCode:=.region [⟨some 45,.move (.tmp 8),none⟩,
  ⟨some 46,.move (.tmp 6),none⟩,
  ⟨some 47,.binOp .mul 3 (.const (.int .i64 2)) (.tmp 46) 3,none⟩,
  ⟨some 48,.binOp .add 3 (.tmp 45) (.tmp 47) 3,none⟩,
  ⟨some 8,.assign (.tmp 48),none⟩]
def l134_1:SCode:=(.seq (.seq q134_9 (.cond (.tmp 35) .skip (.exit 4))) (.block 5 (.seq q134_10 (.seq q134_11 q134_12))))
@[reducible] def q134_13:SCode:=.region [⟨some 49,.move (.tmp 7),none⟩,
  ⟨some 50,.move (.tmp 6),none⟩,
  ⟨some 51,.binOp .add 3 (.tmp 49) (.tmp 50) 3,none⟩,
  ⟨some 9,.assign (.tmp 51),none⟩]
@[reducible] def q134_14:SCode:=.region [⟨some 52,.move (.tmp 9),none⟩,
  ⟨some 53,.move (.tmp 1),none⟩,
  ⟨some 54,.binOp .lss 3 (.tmp 52) (.tmp 53) 3,none⟩]
@[reducible] def q134_15:SCode:=.region [⟨some 55,.move (.tmp 0),none⟩,
  ⟨some 56,.move (.tmp 7),none⟩,
  ⟨some 57,.move (.tmp 9),none⟩,
  ⟨some 58,.move (.tmp 1),none⟩,
  ⟨some 59,.move (.tmp 2),none⟩,
  ⟨some 60,.call { callee:=.value (.func 142),args:=#[.tmp 55,.tmp 56,.tmp 57,.tmp 58,.tmp 59],argTypes:=#[52,3,3,3,139] },none⟩]
@[reducible] def q134_16:SCode:=.region [⟨some 61,.move (.tmp 6),none⟩,
  ⟨some 62,.binOp .mul 3 (.tmp 61) (.const (.int .i64 2)) 3,none⟩,
  ⟨some 6,.assign (.tmp 62),none⟩]
def l134_2:SCode:=(.seq (.seq q134_7 (.cond (.tmp 30) .skip (.exit 2))) (.block 3 (.seq q134_8 (.seq (.block 4 (.loop l134_1)) (.seq (.seq q134_13 (.seq q134_14 (.cond (.tmp 54) q134_15 .skip))) q134_16)))))
def s134:SCode:=(.seq q134_0 (.seq q134_1 (.seq (.block 0 (.loop l134_0)) (.seq q134_6 (.block 2 (.loop l134_2))))))
theorem s134_strip:Yg (Yf Tryd.f134)=s134:=by kernel_rfl
theorem s134_ok:Yz 63 (Yf Tryd.f134)=true:=by kernel_rfl
/-! 141: slices.insertionSortCmpFunc[[2]int] -/
@[reducible] def q141_0:SCode:=.region [⟨some 10,.move (.tmp 1),none⟩,
  ⟨some 11,.binOp .add 3 (.tmp 10) (.const (.int .i64 1)) 3,none⟩,
  ⟨some 8,.assign (.tmp 11),none⟩]
@[reducible] def q141_1:SCode:=.region [⟨some 12,.move (.tmp 8),none⟩,
  ⟨some 13,.move (.tmp 2),none⟩,
  ⟨some 14,.binOp .lss 3 (.tmp 12) (.tmp 13) 3,none⟩]
@[reducible] def q141_3:SCode:=.region [⟨some 17,.move (.tmp 8),none⟩,
  ⟨some 9,.assign (.tmp 17),none⟩]
def q141_4:SCode:=.draw [⟨some 18,.move (.tmp 9),none⟩,
    ⟨some 19,.move (.tmp 1),none⟩,
    ⟨some 20,.binOp .gtr 3 (.tmp 18) (.tmp 19) 3,none⟩,
    ⟨some 21,.move (.tmp 20),none⟩,
    ⟨some 22,.move (.tmp 3),some (21,true)⟩,
    ⟨some 23,.move (.tmp 0),some (21,true)⟩,
    ⟨some 24,.move (.tmp 9),some (21,true)⟩,
    ⟨some 25,.indexAddr 52 (.tmp 23) (.tmp 24),some (21,true)⟩,
    ⟨some 26,.load 33 (.tmp 25),some (21,true)⟩,
    ⟨some 27,.move (.tmp 0),some (21,true)⟩,
    ⟨some 28,.move (.tmp 9),some (21,true)⟩,
    ⟨some 29,.binOp .sub 3 (.tmp 28) (.const (.int .i64 1)) 3,some (21,true)⟩,
    ⟨some 30,.indexAddr 52 (.tmp 27) (.tmp 29),some (21,true)⟩,
    ⟨some 31,.load 33 (.tmp 30),some (21,true)⟩,
    ⟨some 32,.call { callee:=.value (.tmp 22),args:=#[.tmp 26,.tmp 31],argTypes:=#[33,33] },some (21,true)⟩,
    ⟨some 33,.binOp .lss 3 (.tmp 32) (.const (.int .i64 0)) 3,some (21,true)⟩,
    ⟨some 34,.pick (.tmp 21) (.tmp 33) (.const (.bool false)),none⟩]
  [[],[],[0,1],[2],[3],[3],[3],[5,6,3],[7,3],[3],[3],[10,3],[9,11,3],[12,3],[4,8,13,3,3],[14,3],[3,15]]
def q141_6:SCode:=.draw [⟨some 37,.move (.tmp 0),none⟩,
    ⟨some 38,.move (.tmp 9),none⟩,
    ⟨some 39,.move (.tmp 0),none⟩,
    ⟨some 40,.move (.tmp 9),none⟩,
    ⟨some 41,.binOp .sub 3 (.tmp 40) (.const (.int .i64 1)) 3,none⟩,
    ⟨some 42,.move (.tmp 0),none⟩,
    ⟨some 43,.move (.tmp 9),none⟩,
    ⟨some 44,.binOp .sub 3 (.tmp 43) (.const (.int .i64 1)) 3,none⟩,
    ⟨some 45,.indexAddr 52 (.tmp 42) (.tmp 44),none⟩,
    ⟨some 46,.load 33 (.tmp 45),none⟩,
    ⟨some 47,.move (.tmp 0),none⟩,
    ⟨some 48,.move (.tmp 9),none⟩,
    ⟨some 49,.indexAddr 52 (.tmp 47) (.tmp 48),none⟩,
    ⟨some 50,.load 33 (.tmp 49),none⟩,
    ⟨some 51,.indexAddr 52 (.tmp 37) (.tmp 38),none⟩,
    ⟨none,.store 33 (.tmp 51) (.tmp 46),none⟩,
    ⟨some 52,.indexAddr 52 (.tmp 39) (.tmp 41),none⟩,
    ⟨none,.store 33 (.tmp 52) (.tmp 50),none⟩]
  [[],[],[],[],[3],[],[],[6],[5,7],[8],[],[],[10,11],[12],[0,1,0,1,5,6,7,8,9,13],[14,9,0,1,5,6,7,8,9,13],[2,4,0,1,2,3,4,5,6,7,8,9,10,11,12,13,14,15],[16,13,15,0,1,2,3,4,5,6,7,8,9,10,11,12,13,14,15]]
@[reducible] def q141_5:SCode:=.region [⟨some 35,.move (.tmp 9),none⟩,
  ⟨some 36,.binOp .sub 3 (.tmp 35) (.const (.int .i64 1)) 3,none⟩,
  ⟨some 9,.assign (.tmp 36),none⟩]
def l141_0:SCode:=(.seq (.seq q141_4 (.cond (.tmp 34) .skip (.exit 2))) (.seq (.block 3 q141_6) q141_5))
@[reducible] def q141_2:SCode:=.region [⟨some 15,.move (.tmp 8),none⟩,
  ⟨some 16,.binOp .add 3 (.tmp 15) (.const (.int .i64 1)) 3,none⟩,
  ⟨some 8,.assign (.tmp 16),none⟩]
def l141_1:SCode:=(.seq (.seq q141_1 (.cond (.tmp 14) .skip (.exit 0))) (.seq (.block 1 (.seq q141_3 (.block 2 (.loop l141_0)))) q141_2))
def s141:SCode:=(.seq q141_0 (.block 0 (.loop l141_1)))
theorem s141_strip:Yg (Yf Tryd.f141)=s141:=by kernel_rfl
theorem s141_ok:Yz 53 (Yf Tryd.f141)=true:=by kernel_rfl
end Go.Proofs.Tryd.Am
namespace Go.Proofs.Tryd.Am
open Go.Am Ord
set_option maxRecDepth 100000
set_option maxHeartbeats 1000000
abbrev pV (p:Int×Int):Value:=.agg #[Zx p.1,Zx p.2]
def swP (L:List (Int×Int)) (j:Nat):List (Int×Int):=(L.set j (L.getD (j-1) (0,0))).set (j-1) (L.getD j (0,0))
theorem swP_perm {L:List (Int×Int)} {j:Nat} (h1:1≤j) (h2:j<L.length):(swP L j).Perm L:=by
 have:=Array.swap_perm (xs:=L.toArray) (i:=j) (j:=j-1) (by simpa using h2) (by simp; omega)
 rw [Array.perm_iff_toList_perm,Array.toList_swap] at this
 simpa [swP,List.getD,List.getElem?_eq_getElem h2,List.getElem?_eq_getElem (show j-1<L.length by omega)] using this
abbrev ovP (b n m:Nat):Value:=.slice (some ⟨b,0,some 0⟩) n (n+m)
theorem ovP_own {h:Yb} {b n:Nat} {L ys:List (Int×Int)} (hb:b<h.length) (hn:L.length=n):OwnP 33 (h.set b (.ints (Xe L++Xe ys) 33 false)) (ovP b n ys.length) L :=
 .inr ⟨b,ys,by rw [hn],Xc hb _⟩
theorem elemP_ovP (b n m i:Nat):elemP (ovP b n m) 2 i = .pointer (some ⟨b,i*2,none⟩):=by simp [elemP]
theorem ovP_load {h:Yb} {b n:Nat} {L ys:List (Int×Int)} {i:Nat} (hb:b<h.length) (hn:L.length=n) (hi:i<n) {K:Value→Prop} :
  Xw prog (h.set b (.ints (Xe L++Xe ys) 33 false)) 33 (.pointer (some ⟨b,i*2,none⟩)) K=K (pV (L.getD i (0,0))):=by
 have:=(ovP_own (h:=h) (b:=b) (n:=n) (L:=L) (ys:=ys) hb hn).pair.load shp_33 (i:=i) (by omega) K
 rw [elemP_ovP] at this
 exact this
theorem ovP_store {h:Yb} {b:Nat} {L ys:List (Int×Int)} {i:Nat} {p:Int×Int} (hb:b<h.length) (hi:i<L.length) {K:Yb→Prop} :
  Xv prog (h.set b (.ints (Xe L++Xe ys) 33 false)) 33 (.pointer (some ⟨b,i*2,none⟩)) (pV p) K=K (h.set b (.ints (Xe (L.set i p)++Xe ys) 33 false)):=by
 have:=storePI (P:=prog) (t:=33) (e:=33) (ps:=L) (x:=p.1) (y:=p.2) (i:=i) (ys:=Xe ys) (K:=K) (Xc hb _) shp_33 hi
 rw [List.set_set] at this
 exact this
theorem ovP_idx {b n m i:Nat} (hi:i<n) {K:Value→Prop}:Yt prog 52 (ovP b n m) (Zx (i:Nat)) K=K (.pointer (some ⟨b,i*2,none⟩)):=by
 simp only [Yt,el_52,esz_33,Int.natCast_nonneg,Int.toNat_natCast,Nat.zero_add,true_and,Int.ofNat_lt.2 hi]
theorem s141_callW [Tabs Tryd.prog] {args:List Value} {h:Yb} {Q:Value→Yb→Prop} (hsz:args.length≤53) (hk:AWS Tryd.prog 53 s141 (Zu Tryd.prog [] Q) (Zp 0 args) h):ACall Tryd.prog 141 args h Q :=
 Wx Tryd.func141 rfl (enters_of Tryd.func141 (by kernel_rfl) rfl) rfl rfl (by decide) s141_strip s141_ok hsz hk
theorem isortP_call [Tabs prog] {h:Yb} {b:Nat} {L0 ys:List (Int×Int)} {g:FuncId} {cap:Array Value} (hc : ∀ L x y,x∈L0→y∈L0→∃ r:Int,APure prog g ([pV x,pV y]++cap.toList) (h.set b (.ints (Xe L++Xe ys) 33 false)) (Zx r)) (hb:h[b]? = some (.ints (Xe L0++Xe ys) 33 false)) (hl:L0.length≤15) :
  ACall prog 141 [ovP b L0.length ys.length,.int .i64 0,Zx L0.length,.func (.func g) #[] cap] h fun _ h'=>∃ L:List (Int×Int),L.Perm L0∧h' = h.set b (.ints (Xe L++Xe ys) 33 false):=by
 have hlt:=Yd hb
 have h0:h=h.set b (.ints (Xe L0++Xe ys) 33 false):=by
  apply List.ext_getElem?
  intro i
  by_cases hi:b=i
  · subst hi; rw [Xc hlt,hb]
  · rw [List.getElem?_set_ne hi]
 obtain ⟨n,hn⟩ : ∃ n,L0.length=n:=⟨_,rfl⟩
 rw [hn] at hl ⊢
 refine s141_callW (by simp) ?_
 simp only [s141]
 have e01:addV .i64 0 1=1:=rfl
 refine Yc fun N1 hN1=>?_
 simp (maxSteps:=2000000) only [s141,↓Za,↓Zi,↓Zr,↓Ze,↓Zo,↓Zs,↓Zg,↓Zm,↓Zf,↓Zb,↓Zc,↓vdn,vup,Zk,Zn,Zl,Zh,Zj,List.map_cons,List.map_nil,cond_true,cond_false,aop,Zv,Zq,Zp,ev,sput,Zt,Zy,Ya,unK,Zd,Zw,Nat.reduceBEq,Nat.reduceAdd,Int.reduceBEq,Int.reduceBNe,Int.reduceLT,Zu,Zz,tup,tyf,e01]
 refine hN1 [(0,ovP b n ys.length),(1,.int .i64 0),(2,Zx n),(3,.func (.func g) #[] cap),(8,.int .i64 1)] _ _ ?_ (by simp (maxSteps:=2000000) only [↓Za,↓Zi,↓Zr,↓Ze,↓Zo,↓Zs,↓Zg,↓Zm,↓Zf,↓Zb,↓Zc,↓vdn,vup,Zk,Zn,Zl,Zh,Zj,List.map_cons,List.map_nil,cond_true,cond_false,aop,Zv,Zq,Zp,ev,sput,Zt,Zy,Ya,unK,Zd,Zw,Nat.reduceBEq,Nat.reduceAdd,Int.reduceBEq,Int.reduceBNe,Int.reduceLT,Zu,Zz,tup,tyf])
 clear hN1
 try clear N1
 refine Yr ?_
 refine Yn fun Q hQ=>?_
 refine We (γ:=Nat×List (Int×Int)) (fun s=>1≤s.1∧(s.1≤n∨s.1=1)∧s.2.Perm L0)
  (fun s=>([(0,ovP b n ys.length),(1,.int .i64 0),(2,Zx n),(3,.func (.func g) #[] cap),(8,Zx s.1)],h.set b (.ints (Xe s.2++Xe ys) 33 false))) (fun s=>n-s.1) (1,L0) ⟨Nat.le_refl _,.inr rfl,.refl _⟩ (by simp (maxSteps:=2000000) only [↓Za,↓Zi,↓Zr,↓Ze,↓Zo,↓Zs,↓Zg,↓Zm,↓Zf,↓Zb,↓Zc,↓vdn,vup,Zk,Zn,Zl,Zh,Zj,List.map_cons,List.map_nil,cond_true,cond_false,aop,Zv,Zq,Zp,ev,sput,Zt,Zy,Ya,unK,Zd,Zw,Nat.reduceBEq,Nat.reduceAdd,Int.reduceBEq,Int.reduceBNe,Int.reduceLT,Zu,Zz,tup,tyf,Int.natCast_one]) h0 ?_
 rintro ⟨i,L⟩ ⟨hi1,hi,hp⟩
 simp only at hi1 hi hp
 refine Yn fun Q2 hQ2=>?_
 simp only [l141_1]
 by_cases hin:(i:Int)<n
 · have hi' : i<n:=by omega
   refine Yc fun N2 hN2=>?_
   simp (maxSteps:=2000000) only [s141,↓Za,↓Zi,↓Zr,↓Ze,↓Zo,↓Zs,↓Zg,↓Zm,↓Zf,↓Zb,↓Zc,↓vdn,vup,Zk,Zn,Zl,Zh,Zj,List.map_cons,List.map_nil,cond_true,cond_false,aop,Zv,Zq,Zp,ev,sput,Zt,Zy,Ya,unK,Zd,Zw,Nat.reduceBEq,Nat.reduceAdd,Int.reduceBEq,Int.reduceBNe,Int.reduceLT,Zu,Zz,tup,tyf,hin]
   refine hN2 [(0,ovP b n ys.length),(1,.int .i64 0),(2,Zx n),(3,.func (.func g) #[] cap),(8,Zx i)] _ _ ?_ (by simp (maxSteps:=2000000) only [↓Za,↓Zi,↓Zr,↓Ze,↓Zo,↓Zs,↓Zg,↓Zm,↓Zf,↓Zb,↓Zc,↓vdn,vup,Zk,Zn,Zl,Zh,Zj,List.map_cons,List.map_nil,cond_true,cond_false,aop,Zv,Zq,Zp,ev,sput,Zt,Zy,Ya,unK,Zd,Zw,Nat.reduceBEq,Nat.reduceAdd,Int.reduceBEq,Int.reduceBNe,Int.reduceLT,Zu,Zz,tup,tyf])
   clear hN2
   try clear N2
   refine Yi fun M hM=>?_
   refine Yr ?_
   refine Yc fun N3 hN3=>?_
   simp (maxSteps:=2000000) only [s141,↓Za,↓Zi,↓Zr,↓Ze,↓Zo,↓Zs,↓Zg,↓Zm,↓Zf,↓Zb,↓Zc,↓vdn,vup,Zk,Zn,Zl,Zh,Zj,List.map_cons,List.map_nil,cond_true,cond_false,aop,Zv,Zq,Zp,ev,sput,Zt,Zy,Ya,unK,Zd,Zw,Nat.reduceBEq,Nat.reduceAdd,Int.reduceBEq,Int.reduceBNe,Int.reduceLT,Zu,Zz,tup,tyf]
   refine hN3 [(0,ovP b n ys.length),(1,.int .i64 0),(2,Zx n),(3,.func (.func g) #[] cap),(8,Zx i),(9,Zx i)] _ _ ?_ (by simp (maxSteps:=2000000) only [↓Za,↓Zi,↓Zr,↓Ze,↓Zo,↓Zs,↓Zg,↓Zm,↓Zf,↓Zb,↓Zc,↓vdn,vup,Zk,Zn,Zl,Zh,Zj,List.map_cons,List.map_nil,cond_true,cond_false,aop,Zv,Zq,Zp,ev,sput,Zt,Zy,Ya,unK,Zd,Zw,Nat.reduceBEq,Nat.reduceAdd,Int.reduceBEq,Int.reduceBNe,Int.reduceLT,Zu,Zz,tup,tyf])
   clear hN3
   try clear N3
   refine Yr ?_
   refine Yn fun Q3 hQ3=>?_
   refine We (γ:=Nat×List (Int×Int)) (fun s=>s.1≤i∧s.2.Perm L0)
    (fun s=>([(0,ovP b n ys.length),(1,.int .i64 0),(2,Zx n),(3,.func (.func g) #[] cap),(8,Zx i),(9,Zx s.1)],h.set b (.ints (Xe s.2++Xe ys) 33 false))) (fun s=>s.1) (i,L) ⟨Nat.le_refl _,hp⟩ (by simp (maxSteps:=2000000) only [↓Za,↓Zi,↓Zr,↓Ze,↓Zo,↓Zs,↓Zg,↓Zm,↓Zf,↓Zb,↓Zc,↓vdn,vup,Zk,Zn,Zl,Zh,Zj,List.map_cons,List.map_nil,cond_true,cond_false,aop,Zv,Zq,Zp,ev,sput,Zt,Zy,Ya,unK,Zd,Zw,Nat.reduceBEq,Nat.reduceAdd,Int.reduceBEq,Int.reduceBNe,Int.reduceLT,Zu,Zz,tup,tyf]) rfl ?_
   clear hp
   rintro ⟨j,L⟩ ⟨hj,hp⟩
   simp only at hj hp
   have hLn:L.length=n:=hp.length_eq.trans hn
   refine Yn fun Q4 hQ4=>?_
   simp only [l141_0]
   have fin : ∀ e,ELe e [(0,ovP b n ys.length),(1,.int .i64 0),(2,Zx n),(3,.func (.func g) #[] cap),(8,Zx i)]→M e (h.set b (.ints (Xe L++Xe ys) 33 false)):=by
    intro e he
    refine hM [(0,ovP b n ys.length),(1,.int .i64 0),(2,Zx n),(3,.func (.func g) #[] cap),(8,Zx i)] _ _ ?_ he
    refine Yk ?_
    simp (maxSteps:=2000000) only [s141,↓Za,↓Zi,↓Zr,↓Ze,↓Zo,↓Zs,↓Zg,↓Zm,↓Zf,↓Zb,↓Zc,↓vdn,vup,Zk,Zn,Zl,Zh,Zj,List.map_cons,List.map_nil,cond_true,cond_false,aop,Zv,Zq,Zp,ev,sput,Zt,Zy,Ya,unK,Zd,Zw,Nat.reduceBEq,Nat.reduceAdd,Int.reduceBEq,Int.reduceBNe,Int.reduceLT,Zu,Zz,tup,tyf,add1 (show i<9223372036854775807 by omega)]
    exact hQ2 _ _ _ ⟨(i+1,L),⟨by simp only; omega,.inl (by simp only; omega),hp⟩,by simp only; omega,by simp (maxSteps:=2000000) only [↓Za,↓Zi,↓Zr,↓Ze,↓Zo,↓Zs,↓Zg,↓Zm,↓Zf,↓Zb,↓Zc,↓vdn,vup,Zk,Zn,Zl,Zh,Zj,List.map_cons,List.map_nil,cond_true,cond_false,aop,Zv,Zq,Zp,ev,sput,Zt,Zy,Ya,unK,Zd,Zw,Nat.reduceBEq,Nat.reduceAdd,Int.reduceBEq,Int.reduceBNe,Int.reduceLT,Zu,Zz,tup,tyf],rfl⟩
   by_cases hj0:j=0
   · subst hj0
     refine Yc fun N4 hN4=>?_
     simp (maxSteps:=2000000) only [s141,↓Za,↓Zi,↓Zr,↓Ze,↓Zo,↓Zs,↓Zg,↓Zm,↓Zf,↓Zb,↓Zc,↓vdn,vup,Zk,Zn,Zl,Zh,Zj,List.map_cons,List.map_nil,cond_true,cond_false,aop,Zv,Zq,Zp,ev,sput,Zt,Zy,Ya,unK,Zd,Zw,Nat.reduceBEq,Nat.reduceAdd,Int.reduceBEq,Int.reduceBNe,Int.reduceLT,Zu,Zz,tup,tyf]
     refine Xp [(14,1)] (by kernel_rfl) (by kernel_rfl) (by kernel_rfl) (by kernel_rfl) ?_
     simp (maxSteps:=2000000) only [s141,↓Za,↓Zi,↓Zr,↓Ze,↓Zo,↓Zs,↓Zg,↓Zm,↓Zf,↓Zb,↓Zc,↓vdn,vup,Zk,Zn,Zl,Zh,Zj,List.map_cons,List.map_nil,cond_true,cond_false,aop,Zv,Zq,Zp,ev,sput,Zt,Zy,Ya,unK,Zd,Zw,Nat.reduceBEq,Nat.reduceAdd,Int.reduceBEq,Int.reduceBNe,Int.reduceLT,Zu,Zz,tup,tyf,gt_iff_lt,Int.natCast_zero,Int.lt_irrefl]
     refine hQ4 _ _ _ (hQ3 _ _ _ ?_)
     simp (maxSteps:=2000000) only [s141,↓Za,↓Zi,↓Zr,↓Ze,↓Zo,↓Zs,↓Zg,↓Zm,↓Zf,↓Zb,↓Zc,↓vdn,vup,Zk,Zn,Zl,Zh,Zj,List.map_cons,List.map_nil,cond_true,cond_false,aop,Zv,Zq,Zp,ev,sput,Zt,Zy,Ya,unK,Zd,Zw,Nat.reduceBEq,Nat.reduceAdd,Int.reduceBEq,Int.reduceBNe,Int.reduceLT,Zu,Zz,tup,tyf,if_true]
     exact fin _ (by simp (maxSteps:=2000000) only [↓Za,↓Zi,↓Zr,↓Ze,↓Zo,↓Zs,↓Zg,↓Zm,↓Zf,↓Zb,↓Zc,↓vdn,vup,Zk,Zn,Zl,Zh,Zj,List.map_cons,List.map_nil,cond_true,cond_false,aop,Zv,Zq,Zp,ev,sput,Zt,Zy,Ya,unK,Zd,Zw,Nat.reduceBEq,Nat.reduceAdd,Int.reduceBEq,Int.reduceBNe,Int.reduceLT,Zu,Zz,tup,tyf])
   · have hjp:(0:Int)<(j:Int):=by omega
     have hin1 : ∀ i,i<n→L.getD i (0,0)∈L0:=fun i hi=>hp.mem_iff.1 (by rw [List.getD,List.getElem?_eq_getElem (by omega),Option.getD_some]; exact List.getElem_mem _)
     obtain ⟨r,c1⟩:=hc L _ _ (hin1 j (by omega)) (hin1 (j-1) (by omega))
     have hsub:subV .i64 (j:Int) 1=((j-1:Nat):Int):=by rw [subV_id (by omega) (by omega)]; omega
     by_cases hneg:r<0
     · refine Yc fun N5 hN5=>?_
       simp (maxSteps:=2000000) only [s141,↓Za,↓Zi,↓Zr,↓Ze,↓Zo,↓Zs,↓Zg,↓Zm,↓Zf,↓Zb,↓Zc,↓vdn,vup,Zk,Zn,Zl,Zh,Zj,List.map_cons,List.map_nil,cond_true,cond_false,aop,Zv,Zq,Zp,ev,sput,Zt,Zy,Ya,unK,Zd,Zw,Nat.reduceBEq,Nat.reduceAdd,Int.reduceBEq,Int.reduceBNe,Int.reduceLT,Zu,Zz,tup,tyf]
       refine Xp [(14,1)] (by kernel_rfl) (by kernel_rfl) (by kernel_rfl) (by kernel_rfl) ?_
       simp (maxSteps:=2000000) only [s141,↓Za,↓Zi,↓Zr,↓Ze,↓Zo,↓Zs,↓Zg,↓Zm,↓Zf,↓Zb,↓Zc,↓vdn,vup,Zk,Zn,Zl,Zh,Zj,List.map_cons,List.map_nil,cond_true,cond_false,aop,Zv,Zq,Zp,ev,sput,Zt,Zy,Ya,unK,Zd,Zw,Nat.reduceBEq,Nat.reduceAdd,Int.reduceBEq,Int.reduceBNe,Int.reduceLT,Zu,Zz,tup,tyf,gt_iff_lt,hjp,hsub,ovP_idx (show j<n by omega),ovP_idx (show j-1<n by omega),ovP_load hlt hLn (show j<n by omega),ovP_load hlt hLn (show j-1<n by omega),Yx,List.nil_append,List.append_nil,List.toList_toArray,List.cons_append]
       refine ⟨_,_,c1,rfl,?_⟩
       simp (maxSteps:=2000000) only [s141,↓Za,↓Zi,↓Zr,↓Ze,↓Zo,↓Zs,↓Zg,↓Zm,↓Zf,↓Zb,↓Zc,↓vdn,vup,Zk,Zn,Zl,Zh,Zj,List.map_cons,List.map_nil,cond_true,cond_false,aop,Zv,Zq,Zp,ev,sput,Zt,Zy,Ya,unK,Zd,Zw,Nat.reduceBEq,Nat.reduceAdd,Int.reduceBEq,Int.reduceBNe,Int.reduceLT,Zu,Zz,tup,tyf,hneg,decide_true,decide_false]
       refine hN5 [(0,ovP b n ys.length),(1,.int .i64 0),(2,Zx n),(3,.func (.func g) #[] cap),(8,Zx i),(9,Zx j)] _ _ ?_ (by simp (maxSteps:=2000000) only [↓Za,↓Zi,↓Zr,↓Ze,↓Zo,↓Zs,↓Zg,↓Zm,↓Zf,↓Zb,↓Zc,↓vdn,vup,Zk,Zn,Zl,Zh,Zj,List.map_cons,List.map_nil,cond_true,cond_false,aop,Zv,Zq,Zp,ev,sput,Zt,Zy,Ya,unK,Zd,Zw,Nat.reduceBEq,Nat.reduceAdd,Int.reduceBEq,Int.reduceBNe,Int.reduceLT,Zu,Zz,tup,tyf])
       clear hN5
       try clear N5
       refine Yk ?_
       simp (maxSteps:=2000000) only [s141,↓Za,↓Zi,↓Zr,↓Ze,↓Zo,↓Zs,↓Zg,↓Zm,↓Zf,↓Zb,↓Zc,↓vdn,vup,Zk,Zn,Zl,Zh,Zj,List.map_cons,List.map_nil,cond_true,cond_false,aop,Zv,Zq,Zp,ev,sput,Zt,Zy,Ya,unK,Zd,Zw,Nat.reduceBEq,Nat.reduceAdd,Int.reduceBEq,Int.reduceBNe,Int.reduceLT,Zu,Zz,tup,tyf]
       refine Xp [] (by kernel_rfl) (by kernel_rfl) (by kernel_rfl) (by kernel_rfl) ?_
       have hjL:j<L.length:=by omega
       simp (maxSteps:=2000000) only [s141,↓Za,↓Zi,↓Zr,↓Ze,↓Zo,↓Zs,↓Zg,↓Zm,↓Zf,↓Zb,↓Zc,↓vdn,vup,Zk,Zn,Zl,Zh,Zj,List.map_cons,List.map_nil,cond_true,cond_false,aop,Zv,Zq,Zp,ev,sput,Zt,Zy,Ya,unK,Zd,Zw,Nat.reduceBEq,Nat.reduceAdd,Int.reduceBEq,Int.reduceBNe,Int.reduceLT,Zu,Zz,tup,tyf,hsub,ovP_idx (show j<n by omega),ovP_idx (show j-1<n by omega),ovP_load hlt hLn (show j<n by omega),ovP_load hlt hLn (show j-1<n by omega),ovP_store hlt hjL,ovP_store hlt (show j-1<(L.set j (L.getD (j-1) (0,0))).length by rw [List.length_set]; omega)]
       refine hQ4 _ _ _ ⟨(j-1,swP L j),⟨by simp only; omega,(swP_perm (by omega) hjL).trans hp⟩,by simp only; omega,by simp (maxSteps:=2000000) only [↓Za,↓Zi,↓Zr,↓Ze,↓Zo,↓Zs,↓Zg,↓Zm,↓Zf,↓Zb,↓Zc,↓vdn,vup,Zk,Zn,Zl,Zh,Zj,List.map_cons,List.map_nil,cond_true,cond_false,aop,Zv,Zq,Zp,ev,sput,Zt,Zy,Ya,unK,Zd,Zw,Nat.reduceBEq,Nat.reduceAdd,Int.reduceBEq,Int.reduceBNe,Int.reduceLT,Zu,Zz,tup,tyf],rfl⟩
     · refine Yc fun N6 hN6=>?_
       simp (maxSteps:=2000000) only [s141,↓Za,↓Zi,↓Zr,↓Ze,↓Zo,↓Zs,↓Zg,↓Zm,↓Zf,↓Zb,↓Zc,↓vdn,vup,Zk,Zn,Zl,Zh,Zj,List.map_cons,List.map_nil,cond_true,cond_false,aop,Zv,Zq,Zp,ev,sput,Zt,Zy,Ya,unK,Zd,Zw,Nat.reduceBEq,Nat.reduceAdd,Int.reduceBEq,Int.reduceBNe,Int.reduceLT,Zu,Zz,tup,tyf]
       refine Xp [(14,1)] (by kernel_rfl) (by kernel_rfl) (by kernel_rfl) (by kernel_rfl) ?_
       simp (maxSteps:=2000000) only [s141,↓Za,↓Zi,↓Zr,↓Ze,↓Zo,↓Zs,↓Zg,↓Zm,↓Zf,↓Zb,↓Zc,↓vdn,vup,Zk,Zn,Zl,Zh,Zj,List.map_cons,List.map_nil,cond_true,cond_false,aop,Zv,Zq,Zp,ev,sput,Zt,Zy,Ya,unK,Zd,Zw,Nat.reduceBEq,Nat.reduceAdd,Int.reduceBEq,Int.reduceBNe,Int.reduceLT,Zu,Zz,tup,tyf,gt_iff_lt,hjp,hsub,ovP_idx (show j<n by omega),ovP_idx (show j-1<n by omega),ovP_load hlt hLn (show j<n by omega),ovP_load hlt hLn (show j-1<n by omega),Yx,List.nil_append,List.append_nil,List.toList_toArray,List.cons_append]
       refine ⟨_,_,c1,rfl,?_⟩
       simp (maxSteps:=2000000) only [s141,↓Za,↓Zi,↓Zr,↓Ze,↓Zo,↓Zs,↓Zg,↓Zm,↓Zf,↓Zb,↓Zc,↓vdn,vup,Zk,Zn,Zl,Zh,Zj,List.map_cons,List.map_nil,cond_true,cond_false,aop,Zv,Zq,Zp,ev,sput,Zt,Zy,Ya,unK,Zd,Zw,Nat.reduceBEq,Nat.reduceAdd,Int.reduceBEq,Int.reduceBNe,Int.reduceLT,Zu,Zz,tup,tyf,hneg,decide_true,decide_false]
       refine hQ4 _ _ _ (hQ3 _ _ _ ?_)
       simp (maxSteps:=2000000) only [s141,↓Za,↓Zi,↓Zr,↓Ze,↓Zo,↓Zs,↓Zg,↓Zm,↓Zf,↓Zb,↓Zc,↓vdn,vup,Zk,Zn,Zl,Zh,Zj,List.map_cons,List.map_nil,cond_true,cond_false,aop,Zv,Zq,Zp,ev,sput,Zt,Zy,Ya,unK,Zd,Zw,Nat.reduceBEq,Nat.reduceAdd,Int.reduceBEq,Int.reduceBNe,Int.reduceLT,Zu,Zz,tup,tyf,if_true]
       exact fin _ (by simp (maxSteps:=2000000) only [↓Za,↓Zi,↓Zr,↓Ze,↓Zo,↓Zs,↓Zg,↓Zm,↓Zf,↓Zb,↓Zc,↓vdn,vup,Zk,Zn,Zl,Zh,Zj,List.map_cons,List.map_nil,cond_true,cond_false,aop,Zv,Zq,Zp,ev,sput,Zt,Zy,Ya,unK,Zd,Zw,Nat.reduceBEq,Nat.reduceAdd,Int.reduceBEq,Int.reduceBNe,Int.reduceLT,Zu,Zz,tup,tyf])
 · refine Yc fun M hM=>?_
   simp (maxSteps:=2000000) only [s141,↓Za,↓Zi,↓Zr,↓Ze,↓Zo,↓Zs,↓Zg,↓Zm,↓Zf,↓Zb,↓Zc,↓vdn,vup,Zk,Zn,Zl,Zh,Zj,List.map_cons,List.map_nil,cond_true,cond_false,aop,Zv,Zq,Zp,ev,sput,Zt,Zy,Ya,unK,Zd,Zw,Nat.reduceBEq,Nat.reduceAdd,Int.reduceBEq,Int.reduceBNe,Int.reduceLT,Zu,Zz,tup,tyf,hin]
   refine hQ2 _ _ _ (hQ _ _ _ ?_)
   simp (maxSteps:=2000000) only [s141,↓Za,↓Zi,↓Zr,↓Ze,↓Zo,↓Zs,↓Zg,↓Zm,↓Zf,↓Zb,↓Zc,↓vdn,vup,Zk,Zn,Zl,Zh,Zj,List.map_cons,List.map_nil,cond_true,cond_false,aop,Zv,Zq,Zp,ev,sput,Zt,Zy,Ya,unK,Zd,Zw,Nat.reduceBEq,Nat.reduceAdd,Int.reduceBEq,Int.reduceBNe,Int.reduceLT,Zu,Zz,tup,tyf,if_true]
   exact ⟨L,hp,rfl⟩
theorem s134_callW [Tabs Tryd.prog] {args:List Value} {h:Yb} {Q:Value→Yb→Prop} (hsz:args.length≤63) (hk:AWS Tryd.prog 63 s134 (Zu Tryd.prog [] Q) (Zp 0 args) h):ACall Tryd.prog 134 args h Q :=
 Wx Tryd.func134 rfl (enters_of Tryd.func134 (by kernel_rfl) rfl) rfl rfl (by decide) s134_strip s134_ok hsz hk
theorem stableP_call [Tabs prog] {h:Yb} {b:Nat} {L0 ys:List (Int×Int)} {g:FuncId} {cap:Array Value} (hc : ∀ L x y,x∈L0→y∈L0→∃ r:Int,APure prog g ([pV x,pV y]++cap.toList) (h.set b (.ints (Xe L++Xe ys) 33 false)) (Zx r)) (hb:h[b]? = some (.ints (Xe L0++Xe ys) 33 false)) (hl:L0.length≤15) :
  ACall prog 134 [ovP b L0.length ys.length,Zx L0.length,.func (.func g) #[] cap] h fun _ h'=>∃ L:List (Int×Int),L.Perm L0∧h' = h.set b (.ints (Xe L++Xe ys) 33 false):=by
 have n20 : ¬ (20:Int)≤(L0.length:Int):=by omega
 have n20' : ¬ (20:Int)<(L0.length:Int):=by omega
 refine s134_callW (by simp) ?_
 simp only [s134]
 refine Yc fun N7 hN7=>?_
 simp (maxSteps:=2000000) only [s134,↓Za,↓Zi,↓Zr,↓Ze,↓Zo,↓Zs,↓Zg,↓Zm,↓Zf,↓Zb,↓Zc,↓vdn,vup,Zk,Zn,Zl,Zh,Zj,List.map_cons,List.map_nil,cond_true,cond_false,aop,Zv,Zq,Zp,ev,sput,Zt,Zy,Ya,unK,Zd,Zw,Nat.reduceBEq,Nat.reduceAdd,Int.reduceBEq,Int.reduceBNe,Int.reduceLT,Zu,Zz,tup,tyf]
 refine hN7 [(0,ovP b L0.length ys.length),(1,Zx L0.length),(2,.func (.func g) #[] cap),(6,.int .i64 20)] _ _ ?_ (by simp (maxSteps:=2000000) only [↓Za,↓Zi,↓Zr,↓Ze,↓Zo,↓Zs,↓Zg,↓Zm,↓Zf,↓Zb,↓Zc,↓vdn,vup,Zk,Zn,Zl,Zh,Zj,List.map_cons,List.map_nil,cond_true,cond_false,aop,Zv,Zq,Zp,ev,sput,Zt,Zy,Ya,unK,Zd,Zw,Nat.reduceBEq,Nat.reduceAdd,Int.reduceBEq,Int.reduceBNe,Int.reduceLT,Zu,Zz,tup,tyf])
 clear hN7
 try clear N7
 refine Yc fun N8 hN8=>?_
 simp (maxSteps:=2000000) only [s134,↓Za,↓Zi,↓Zr,↓Ze,↓Zo,↓Zs,↓Zg,↓Zm,↓Zf,↓Zb,↓Zc,↓vdn,vup,Zk,Zn,Zl,Zh,Zj,List.map_cons,List.map_nil,cond_true,cond_false,aop,Zv,Zq,Zp,ev,sput,Zt,Zy,Ya,unK,Zd,Zw,Nat.reduceBEq,Nat.reduceAdd,Int.reduceBEq,Int.reduceBNe,Int.reduceLT,Zu,Zz,tup,tyf]
 refine hN8 [(0,ovP b L0.length ys.length),(1,Zx L0.length),(2,.func (.func g) #[] cap),(6,.int .i64 20),(7,.int .i64 0),(8,.int .i64 20)] _ _ ?_ (by simp (maxSteps:=2000000) only [↓Za,↓Zi,↓Zr,↓Ze,↓Zo,↓Zs,↓Zg,↓Zm,↓Zf,↓Zb,↓Zc,↓vdn,vup,Zk,Zn,Zl,Zh,Zj,List.map_cons,List.map_nil,cond_true,cond_false,aop,Zv,Zq,Zp,ev,sput,Zt,Zy,Ya,unK,Zd,Zw,Nat.reduceBEq,Nat.reduceAdd,Int.reduceBEq,Int.reduceBNe,Int.reduceLT,Zu,Zz,tup,tyf])
 clear hN8
 try clear N8
 refine Yi fun M hM=>?_
 refine Yr ?_
 refine Yn fun Q hQ=>?_
 refine We (γ:=Unit) (fun _=>True) (fun _=>([(0,ovP b L0.length ys.length),(1,Zx L0.length),(2,.func (.func g) #[] cap),(6,.int .i64 20),(7,.int .i64 0),(8,.int .i64 20)],h)) (fun _=>0) () trivial (by simp (maxSteps:=2000000) only [↓Za,↓Zi,↓Zr,↓Ze,↓Zo,↓Zs,↓Zg,↓Zm,↓Zf,↓Zb,↓Zc,↓vdn,vup,Zk,Zn,Zl,Zh,Zj,List.map_cons,List.map_nil,cond_true,cond_false,aop,Zv,Zq,Zp,ev,sput,Zt,Zy,Ya,unK,Zd,Zw,Nat.reduceBEq,Nat.reduceAdd,Int.reduceBEq,Int.reduceBNe,Int.reduceLT,Zu,Zz,tup,tyf]) rfl ?_
 rintro _ _
 refine Yn fun Q2 hQ2=>?_
 simp only [l134_0]
 refine Yc fun N9 hN9=>?_
 simp (maxSteps:=2000000) only [s134,↓Za,↓Zi,↓Zr,↓Ze,↓Zo,↓Zs,↓Zg,↓Zm,↓Zf,↓Zb,↓Zc,↓vdn,vup,Zk,Zn,Zl,Zh,Zj,List.map_cons,List.map_nil,cond_true,cond_false,aop,Zv,Zq,Zp,ev,sput,Zt,Zy,Ya,unK,Zd,Zw,Nat.reduceBEq,Nat.reduceAdd,Int.reduceBEq,Int.reduceBNe,Int.reduceLT,Zu,Zz,tup,tyf,n20]
 refine hQ2 _ _ _ (hQ _ _ _ ?_)
 simp (maxSteps:=2000000) only [s134,↓Za,↓Zi,↓Zr,↓Ze,↓Zo,↓Zs,↓Zg,↓Zm,↓Zf,↓Zb,↓Zc,↓vdn,vup,Zk,Zn,Zl,Zh,Zj,List.map_cons,List.map_nil,cond_true,cond_false,aop,Zv,Zq,Zp,ev,sput,Zt,Zy,Ya,unK,Zd,Zw,Nat.reduceBEq,Nat.reduceAdd,Int.reduceBEq,Int.reduceBNe,Int.reduceLT,Zu,Zz,tup,tyf,if_true]
 refine hM [(0,ovP b L0.length ys.length),(1,Zx L0.length),(2,.func (.func g) #[] cap),(6,.int .i64 20),(7,.int .i64 0),(8,.int .i64 20)] _ _ ?_ (by simp (maxSteps:=2000000) only [↓Za,↓Zi,↓Zr,↓Ze,↓Zo,↓Zs,↓Zg,↓Zm,↓Zf,↓Zb,↓Zc,↓vdn,vup,Zk,Zn,Zl,Zh,Zj,List.map_cons,List.map_nil,cond_true,cond_false,aop,Zv,Zq,Zp,ev,sput,Zt,Zy,Ya,unK,Zd,Zw,Nat.reduceBEq,Nat.reduceAdd,Int.reduceBEq,Int.reduceBNe,Int.reduceLT,Zu,Zz,tup,tyf])
 clear hM
 try clear M
 refine Yc fun N10 hN10=>?_
 simp (maxSteps:=2000000) only [s134,↓Za,↓Zi,↓Zr,↓Ze,↓Zo,↓Zs,↓Zg,↓Zm,↓Zf,↓Zb,↓Zc,↓vdn,vup,Zk,Zn,Zl,Zh,Zj,List.map_cons,List.map_nil,cond_true,cond_false,aop,Zv,Zq,Zp,ev,sput,Zt,Zy,Ya,unK,Zd,Zw,Nat.reduceBEq,Nat.reduceAdd,Int.reduceBEq,Int.reduceBNe,Int.reduceLT,Zu,Zz,tup,tyf,Yx,List.nil_append,List.append_nil,List.toList_toArray,List.cons_append]
 refine (isortP_call hc hb hl).mono ?_
 rintro r h' hr
 refine hN10 [(0,ovP b L0.length ys.length),(1,Zx L0.length),(2,.func (.func g) #[] cap),(6,.int .i64 20),(7,.int .i64 0),(8,.int .i64 20)] _ _ ?_ (by simp (maxSteps:=2000000) only [↓Za,↓Zi,↓Zr,↓Ze,↓Zo,↓Zs,↓Zg,↓Zm,↓Zf,↓Zb,↓Zc,↓vdn,vup,Zk,Zn,Zl,Zh,Zj,List.map_cons,List.map_nil,cond_true,cond_false,aop,Zv,Zq,Zp,ev,sput,Zt,Zy,Ya,unK,Zd,Zw,Nat.reduceBEq,Nat.reduceAdd,Int.reduceBEq,Int.reduceBNe,Int.reduceLT,Zu,Zz,tup,tyf])
 clear hN10
 try clear N10
 refine Yr ?_
 refine Yn fun Q hQ=>?_
 refine We (γ:=Unit) (fun _=>True) (fun _=>([(0,ovP b L0.length ys.length),(1,Zx L0.length),(2,.func (.func g) #[] cap),(6,.int .i64 20),(7,.int .i64 0),(8,.int .i64 20)],h')) (fun _=>0) () trivial (by simp (maxSteps:=2000000) only [↓Za,↓Zi,↓Zr,↓Ze,↓Zo,↓Zs,↓Zg,↓Zm,↓Zf,↓Zb,↓Zc,↓vdn,vup,Zk,Zn,Zl,Zh,Zj,List.map_cons,List.map_nil,cond_true,cond_false,aop,Zv,Zq,Zp,ev,sput,Zt,Zy,Ya,unK,Zd,Zw,Nat.reduceBEq,Nat.reduceAdd,Int.reduceBEq,Int.reduceBNe,Int.reduceLT,Zu,Zz,tup,tyf]) rfl ?_
 rintro _ _
 refine Yn fun Q2 hQ2=>?_
 simp only [l134_2]
 refine Yc fun N11 hN11=>?_
 simp (maxSteps:=2000000) only [s134,↓Za,↓Zi,↓Zr,↓Ze,↓Zo,↓Zs,↓Zg,↓Zm,↓Zf,↓Zb,↓Zc,↓vdn,vup,Zk,Zn,Zl,Zh,Zj,List.map_cons,List.map_nil,cond_true,cond_false,aop,Zv,Zq,Zp,ev,sput,Zt,Zy,Ya,unK,Zd,Zw,Nat.reduceBEq,Nat.reduceAdd,Int.reduceBEq,Int.reduceBNe,Int.reduceLT,Zu,Zz,tup,tyf,n20']
 refine hQ2 _ _ _ (hQ _ _ _ ?_)
 simp (maxSteps:=2000000) only [s134,↓Za,↓Zi,↓Zr,↓Ze,↓Zo,↓Zs,↓Zg,↓Zm,↓Zf,↓Zb,↓Zc,↓vdn,vup,Zk,Zn,Zl,Zh,Zj,List.map_cons,List.map_nil,cond_true,cond_false,aop,Zv,Zq,Zp,ev,sput,Zt,Zy,Ya,unK,Zd,Zw,Nat.reduceBEq,Nat.reduceAdd,Int.reduceBEq,Int.reduceBNe,Int.reduceLT,Zu,Zz,tup,tyf,if_true]
 exact hr
theorem s120_callW [Tabs Tryd.prog] {args:List Value} {h:Yb} {Q:Value→Yb→Prop} (hsz:args.length≤9) (hk:AWS Tryd.prog 9 s120 (Zu Tryd.prog [] Q) (Zp 0 args) h):ACall Tryd.prog 120 args h Q :=
 Wx Tryd.func120 rfl (enters_of Tryd.func120 (by kernel_rfl) rfl) rfl rfl (by decide) s120_strip s120_ok hsz hk
theorem sortP_call [Tabs prog] {h:Yb} {b:Nat} {L0 ys:List (Int×Int)} {g:FuncId} {cap:Array Value} (hc : ∀ L x y,x∈L0→y∈L0→∃ r:Int,APure prog g ([pV x,pV y]++cap.toList) (h.set b (.ints (Xe L++Xe ys) 33 false)) (Zx r)) (hb:h[b]? = some (.ints (Xe L0++Xe ys) 33 false)) (hl:L0.length≤15) :
  ACall prog 120 [ovP b L0.length ys.length,.func (.func g) #[] cap] h fun _ h'=>∃ L:List (Int×Int),L.Perm L0∧h' = h.set b (.ints (Xe L++Xe ys) 33 false):=by
 refine s120_callW (by simp) ?_
 refine Yk ?_
 simp (maxSteps:=2000000) only [s120,↓Za,↓Zi,↓Zr,↓Ze,↓Zo,↓Zs,↓Zg,↓Zm,↓Zf,↓Zb,↓Zc,↓vdn,vup,Zk,Zn,Zl,Zh,Zj,List.map_cons,List.map_nil,cond_true,cond_false,aop,Zv,Zq,Zp,ev,sput,Zt,Zy,Ya,unK,Zd,Zw,Nat.reduceBEq,Nat.reduceAdd,Int.reduceBEq,Int.reduceBNe,Int.reduceLT,Zu,Zz,tup,tyf,Yx,List.nil_append,List.append_nil,List.toList_toArray,List.cons_append,lenK]
 refine (stableP_call hc hb hl).mono ?_
 rintro r h' hr
 exact hr
end Go.Proofs.Tryd.Am
namespace Go.Proofs.Tryd.Am
open Go.Am Ord
set_option maxRecDepth 100000
set_option maxHeartbeats 1000000
theorem keyT_33:KeyT Tryd.prog 33 2:=keyT_ints (d:=3) (m:=3) (by kernel_rfl) (by kernel_rfl) (by have:3≤Tryd.prog.types.size+1:=of_decide_eq_true (by kernel_rfl); exact this) (by decide) (by kernel_rfl) (by kernel_rfl) (by kernel_rfl) (by kernel_rfl)
theorem keyT_136:KeyT Tryd.prog 136 8:=keyT_ints (d:=5) (m:=5) (by kernel_rfl) (by kernel_rfl) (by have:5≤Tryd.prog.types.size+1:=of_decide_eq_true (by kernel_rfl); exact this) (by decide) (by kernel_rfl) (by kernel_rfl) (by kernel_rfl) (by kernel_rfl)
theorem zvB:zeroV Tryd.prog 4=some (.bool false):=by kernel_rfl
theorem zvI:zeroV Tryd.prog 3=some (.int .i64 0):=by kernel_rfl
abbrev ptB (b:Nat):Value:=.pointer (some ⟨b,0,none⟩)
def encN (o:List Int) (n:Nat):List Int:=(o.length:Int)::(sixs o++[(n:Int)])
theorem encN_len {o:List Int} (h:o.length≤6) (n:Nat):(encN o n).length=8:=by simp [encN,sixs_len h]
theorem encN_inj {o o' : List Int} {n n' : Nat} (h:o.length≤6) (h' : o'.length≤6) (e:encN o n=encN o' n'):o=o'∧n=n':=by
 simp only [encN,List.cons.injEq] at e
 obtain ⟨e1,e2⟩:=e
 have hl:o.length=o'.length:=by omega
 obtain ⟨e3,e4⟩:=List.append_inj e2 (by rw [sixs_len h,sixs_len h'])
 refine ⟨?_,by have:=(List.cons.inj e4).1; omega⟩
 rw [sixs,sixs] at e3
 exact (List.append_inj e3 hl).1
theorem encN_in {o:List Int} (ho:ord o=true) {n:Nat} (hn:n≤62):inR64 (encN o n):=by
 have hl:=Yu ho
 intro x hx
 rcases List.mem_cons.1 hx with rfl | hx
 · omega
 rcases List.mem_append.1 hx with hx | hx
 · rw [sixs] at hx
   rcases List.mem_append.1 hx with hx | hx
   · obtain ⟨i,hi,rfl⟩:=List.mem_iff_getElem.1 hx
     obtain ⟨h1,h2⟩:=Vv ho hi
     have:=pow6 hl.2
     rw [List.getD,List.getElem?_eq_getElem hi,Option.getD_some] at h1
     rw [h1]; omega
   · rw [(List.mem_replicate.1 hx).2]; omega
 · rw [List.mem_singleton.1 hx]; omega
theorem bldT {o:List Int} (h:o.length≤6) {n:Nat} {K:Value→Prop}:Wv prog 136 [(0,ordV o),(1,Zx (n:Nat))] K=K (.agg ((encN o n).map Zx).toArray):=by
 have h7:=Xo h
 have e1:cellsOf (ordV o)=Wa o:=rfl
 have e2:Yp (Yp [Value.int .i64 0,.int .i64 0,.int .i64 0,.int .i64 0,.int .i64 0,.int .i64 0,.int .i64 0,.int .i64 0] 0 (Wa o)) 7 [Zx (n:Nat)]=(encN o n).map Zx:=by
  have e3:(encN o n).map Zx=Wa o++[Zx (n:Nat)]:=by simp [encN,Wa]
  rw [e3]
  generalize Wa o=c at h7 ⊢
  match c,h7 with
  | [a,b,c,d,e,f,g],_=>rfl
 have e4:(Yp [Value.int .i64 0,Value.int .i64 0,Value.int .i64 0,Value.int .i64 0,Value.int .i64 0,Value.int .i64 0,Value.int .i64 0,Value.int .i64 0] 0 (Wa o)).length=8:=by
  clear e1 e2
  generalize Wa o=c at h7 ⊢
  match c,h7 with
  | [a,b,c,d,e,f,g],_=>rfl
 simp only [Wv,zero_136,Ub,pl_136_0,pl_136_1,e1,h7]
 simp [Wp,cellsOf,ordV,e2,e4]
def SK (bs bm:Nat) (h:Yb):Prop:=h[bs]? = some (.cells [.map (some bm)] 100 false)∧∃ l:List (List Int×Bool),h[bm]? = some (.map (mA Value.bool l))∧KeysN 8 l∧∀ o n v,ord o=true→aget (encN o n) l=some v→v=Vz n o
theorem SK.ext {bs bm:Nat} {h h' : Yb} (hs:SK bs bm h) (he:Ext (fun _=>False) h h'):SK bs bm h':=by
 obtain ⟨h1,l,h2,h3⟩:=hs
 exact ⟨(he.2 _ (Yd h1) id).trans h1,l,(he.2 _ (Yd h2) id).trans h2,h3⟩
theorem SK.ne {bs bm b:Nat} {h:Yb} (hs:SK bs bm h) {c:List Value} {t:TypeId} {ro:Bool} (hb:h[b]? = some (.cells c t ro)):b≠bm:=by
 obtain ⟨_,l,h2,_⟩:=hs
 rintro rfl
 rw [h2] at hb; cases hb
theorem boxPr {h:Yb} {p:Int×Int} {K:Value→Yb→Prop}:boxK prog h 33 (pV p) K=K (Ys h) (h++[.cells [Zx p.1,Zx p.2] 33 false]):=by
 simp only [boxK,pV,esz_33,Option.isSome_some,true_and,cellsOf]
theorem loadPr {h:Yb} {b:Nat} {ro:Bool} {x y:Int} {K:Value→Prop} (hb:h[b]? = some (.cells [Zx x,Zx y] 33 ro)):Xw prog h 33 (ptB b) K=K (pV (x,y)) :=
 loadA hb (by rw [shp_33]; rfl)
def inR2 (p:Int×Int):Prop:=inR64 [p.1,p.2]
theorem pV_ints (p:Int×Int):Xa (#[Zx p.1,Zx p.2]:Array Value).toList=some [p.1,p.2]:=Ws [p.1,p.2]
theorem s121_callW [Tabs Tryd.prog] {args:List Value} {h:Yb} {Q:Value→Yb→Prop} (hsz:args.length≤13) (hk:AWS Tryd.prog 13 s121 (Zu Tryd.prog [.tmp 5] Q) (Zp 0 args) h):ACall Tryd.prog 121 args h Q :=
 Wx Tryd.func121 rfl (enters_of Tryd.func121 (by kernel_rfl) rfl) rfl rfl (by decide) s121_strip s121_ok hsz hk
theorem uneven_call [Tabs prog] {h:Yb} {bu bm:Nat} {l:List (List Int×Int)} {p q:Int×Int} (hb:h[bu]? = some (.cells [.map (some bm)] 137 false)) (hm:h[bm]? = some (.map (mA Zx l))) (hl:KeysN 2 l) (hp:inR2 p) (hq:inR2 q) :
  ∃ r:Int,APure prog 121 ([pV p,pV q]++[ptB bu]) h (Zx r):=by
 refine ⟨subV .i64 ((aget [p.1,p.2] l).getD 0) ((aget [q.1,q.2] l).getD 0),?_⟩
 have hg : ∀ k:List Int,((aget k l).map Zx).getD (.int .i64 0)=Zx ((aget k l).getD 0):=fun k=>by cases aget k l <;> rfl
 refine ACall.forget (Low.int _ _) ?_
 refine s121_callW (by simp) ?_
 simp only [s121]
 refine Yc fun N1 hN1=>?_
 simp (maxSteps:=2000000) only [s121,↓Za,↓Zi,↓Zr,↓Ze,↓Zo,↓Zs,↓Zg,↓Zm,↓Zf,↓Zb,↓Zc,↓vdn,vup,Zk,Zn,Zl,Zh,Zj,List.map_cons,List.map_nil,cond_true,cond_false,aop,Zv,Zq,Zp,ev,sput,Zt,Zy,Ya,unK,Zd,Zw,Nat.reduceBEq,Nat.reduceAdd,Int.reduceBEq,Int.reduceBNe,Int.reduceLT,Zu,Zz,tup,tyf,Yx,List.nil_append,List.append_nil,List.toList_toArray,List.cons_append,boxPr,Ys]
 have c0:(h++[Blk.cells [Zx p.1,Zx p.2] 33 false]++[Blk.cells [Zx q.1,Zx q.2] 33 false])[h.length]? = some (.cells [Zx p.1,Zx p.2] 33 false):=Yh (Yl _ _) _
 have c1:=Yl (h++[Blk.cells [Zx p.1,Zx p.2] 33 false]) (Blk.cells [Zx q.1,Zx q.2] 33 false)
 have d0:(h++[Blk.cells [Zx p.1,Zx p.2] 33 false]++[Blk.cells [Zx q.1,Zx q.2] 33 false])[bu]? = some (.cells [.map (some bm)] 137 false):=Yh (Yh hb _) _
 have d1:(h++[Blk.cells [Zx p.1,Zx p.2] 33 false]++[Blk.cells [Zx q.1,Zx q.2] 33 false])[bm]? = some (.map (mA Zx l)):=Yh (Yh hm _) _
 have hE:Ext (fun _=>False) h (h++[Blk.cells [Zx p.1,Zx p.2] 33 false]++[Blk.cells [Zx q.1,Zx q.2] 33 false]):=by rw [List.append_assoc]; exact Ext.app _ _ _
 generalize h++[Blk.cells [Zx p.1,Zx p.2] 33 false]++[Blk.cells [Zx q.1,Zx q.2] 33 false]=G at c0 c1 d0 d1 hE ⊢
 generalize (h++[Blk.cells [Zx p.1,Zx p.2] 33 false]).length=b1 at c1 ⊢
 generalize h.length=b0 at c0 ⊢
 refine hN1 [(0,pV p),(1,pV q),(2,ptB bu),(3,ptB b0),(4,ptB b1),(5,.int .i64 0)] _ _ ?_ (by simp (maxSteps:=2000000) only [↓Za,↓Zi,↓Zr,↓Ze,↓Zo,↓Zs,↓Zg,↓Zm,↓Zf,↓Zb,↓Zc,↓vdn,vup,Zk,Zn,Zl,Zh,Zj,List.map_cons,List.map_nil,cond_true,cond_false,aop,Zv,Zq,Zp,ev,sput,Zt,Zy,Ya,unK,Zd,Zw,Nat.reduceBEq,Nat.reduceAdd,Int.reduceBEq,Int.reduceBNe,Int.reduceLT,Zu,Zz,tup,tyf])
 clear hN1
 try clear N1
 refine Yk ?_
 simp (maxSteps:=2000000) only [s121,↓Za,↓Zi,↓Zr,↓Ze,↓Zo,↓Zs,↓Zg,↓Zm,↓Zf,↓Zb,↓Zc,↓vdn,vup,Zk,Zn,Zl,Zh,Zj,List.map_cons,List.map_nil,cond_true,cond_false,aop,Zv,Zq,Zp,ev,sput,Zt,Zy,Ya,unK,Zd,Zw,Nat.reduceBEq,Nat.reduceAdd,Int.reduceBEq,Int.reduceBNe,Int.reduceLT,Zu,Zz,tup,tyf]
 simp only [q121_1]
 refine Xp [] (by kernel_rfl) (by kernel_rfl) (by kernel_rfl) (by kernel_rfl) ?_
 simp (maxSteps:=2000000) only [s121,↓Za,↓Zi,↓Zr,↓Ze,↓Zo,↓Zs,↓Zg,↓Zm,↓Zf,↓Zb,↓Zc,↓vdn,vup,Zk,Zn,Zl,Zh,Zj,List.map_cons,List.map_nil,cond_true,cond_false,aop,Zv,Zq,Zp,ev,sput,Zt,Zy,Ya,unK,Zd,Zw,Nat.reduceBEq,Nat.reduceAdd,Int.reduceBEq,Int.reduceBNe,Int.reduceLT,Zu,Zz,tup,tyf,↓dopsX_lookup,↓Vo,Xh d0 shp_137,loadPr c0,loadPr c1]
 refine lookupA d1 und_137 keyT_33 zvI hl (pV_ints p) rfl hp ?_
 simp (maxSteps:=2000000) only [s121,↓Za,↓Zi,↓Zr,↓Ze,↓Zo,↓Zs,↓Zg,↓Zm,↓Zf,↓Zb,↓Zc,↓vdn,vup,Zk,Zn,Zl,Zh,Zj,List.map_cons,List.map_nil,cond_true,cond_false,aop,Zv,Zq,Zp,ev,sput,Zt,Zy,Ya,unK,Zd,Zw,Nat.reduceBEq,Nat.reduceAdd,Int.reduceBEq,Int.reduceBNe,Int.reduceLT,Zu,Zz,tup,tyf,↓dopsX_lookup,↓Vo,Xh d0 shp_137,loadPr c0,loadPr c1]
 refine lookupA d1 und_137 keyT_33 zvI hl (pV_ints q) rfl hq ?_
 simp (maxSteps:=2000000) only [s121,↓Za,↓Zi,↓Zr,↓Ze,↓Zo,↓Zs,↓Zg,↓Zm,↓Zf,↓Zb,↓Zc,↓vdn,vup,Zk,Zn,Zl,Zh,Zj,List.map_cons,List.map_nil,cond_true,cond_false,aop,Zv,Zq,Zp,ev,sput,Zt,Zy,Ya,unK,Zd,Zw,Nat.reduceBEq,Nat.reduceAdd,Int.reduceBEq,Int.reduceBNe,Int.reduceLT,Zu,Zz,tup,tyf,hg]
 exact hE
theorem s104_callW [Tabs Tryd.prog] {args:List Value} {h:Yb} {Q:Value→Yb→Prop} (hsz:args.length≤19) (hk:AWS Tryd.prog 19 s104 (Zu Tryd.prog [.tmp 4] Q) (Zp 0 args) h):ACall Tryd.prog 104 args h Q :=
 Wx Tryd.func104 rfl (enters_of Tryd.func104 (by kernel_rfl) rfl) rfl rfl (by decide) s104_strip s104_ok hsz hk
theorem indexP_call [Tabs prog] {h:Yb} {v:Value} {ps:List (Int×Int)} {fn:FuncId} {cap:Array Value} (hl:ps.length<9223372036854775808) (I J:Nat→Yb→Prop) (hI : ∀ k hp,I k hp→PairSl hp v ps)
  (step : ∀ k,k<ps.length→∀ hp,I k hp→ACall prog fn (([]:List Value)++[pV (ps.getD k (0,0))]++cap.toList) hp fun r h2=>∃ b,r = .bool b∧(b=true→J k h2)∧(b=false→I (k+1) h2)) (h0:I 0 h) :
  ACall prog 104 [v,.func (.func fn) #[] cap] h fun r h'=>(∃ k,k<ps.length∧r=Zx (k:Nat)∧J k h')∨(r = .int .i64 (-1)∧I ps.length h'):=by
 refine s104_callW (by simp) ?_
 simp only [s104]
 refine Yc fun N2 hN2=>?_
 simp (maxSteps:=2000000) only [s104,↓Za,↓Zi,↓Zr,↓Ze,↓Zo,↓Zs,↓Zg,↓Zm,↓Zf,↓Zb,↓Zc,↓vdn,vup,Zk,Zn,Zl,Zh,Zj,List.map_cons,List.map_nil,cond_true,cond_false,aop,Zv,Zq,Zp,ev,sput,Zt,Zy,Ya,unK,Zd,Zw,Nat.reduceBEq,Nat.reduceAdd,Int.reduceBEq,Int.reduceBNe,Int.reduceLT,Zu,Zz,tup,tyf]
 refine hN2 [(0,v),(1,.func (.func fn) #[] cap),(4,.int .i64 0)] _ _ ?_ (by simp (maxSteps:=2000000) only [↓Za,↓Zi,↓Zr,↓Ze,↓Zo,↓Zs,↓Zg,↓Zm,↓Zf,↓Zb,↓Zc,↓vdn,vup,Zk,Zn,Zl,Zh,Zj,List.map_cons,List.map_nil,cond_true,cond_false,aop,Zv,Zq,Zp,ev,sput,Zt,Zy,Ya,unK,Zd,Zw,Nat.reduceBEq,Nat.reduceAdd,Int.reduceBEq,Int.reduceBNe,Int.reduceLT,Zu,Zz,tup,tyf])
 clear hN2
 try clear N2
 refine Yi fun M hM=>?_
 refine Yc fun N3 hN3=>?_
 simp (maxSteps:=2000000) only [s104,↓Za,↓Zi,↓Zr,↓Ze,↓Zo,↓Zs,↓Zg,↓Zm,↓Zf,↓Zb,↓Zc,↓vdn,vup,Zk,Zn,Zl,Zh,Zj,List.map_cons,List.map_nil,cond_true,cond_false,aop,Zv,Zq,Zp,ev,sput,Zt,Zy,Ya,unK,Zd,Zw,Nat.reduceBEq,Nat.reduceAdd,Int.reduceBEq,Int.reduceBNe,Int.reduceLT,Zu,Zz,tup,tyf,(hI _ _ h0).len]
 refine hN3 [(0,v),(1,.func (.func fn) #[] cap),(4,.int .i64 0),(7,Zx ps.length),(8,.int .i64 0)] _ _ ?_ (by simp (maxSteps:=2000000) only [↓Za,↓Zi,↓Zr,↓Ze,↓Zo,↓Zs,↓Zg,↓Zm,↓Zf,↓Zb,↓Zc,↓vdn,vup,Zk,Zn,Zl,Zh,Zj,List.map_cons,List.map_nil,cond_true,cond_false,aop,Zv,Zq,Zp,ev,sput,Zt,Zy,Ya,unK,Zd,Zw,Nat.reduceBEq,Nat.reduceAdd,Int.reduceBEq,Int.reduceBNe,Int.reduceLT,Zu,Zz,tup,tyf])
 clear hN3
 try clear N3
 refine Yr ?_
 refine Yn fun Q hQ=>?_
 refine We (γ:=Nat×Yb) (fun s=>s.1≤ps.length∧I s.1 s.2)
  (fun s=>([(0,v),(1,.func (.func fn) #[] cap),(4,.int .i64 0),(7,Zx ps.length),(8,Zx (s.1:Nat))],s.2)) (fun s=>ps.length-s.1) (0,h) ⟨Nat.zero_le _,h0⟩ (by simp (maxSteps:=2000000) only [↓Za,↓Zi,↓Zr,↓Ze,↓Zo,↓Zs,↓Zg,↓Zm,↓Zf,↓Zb,↓Zc,↓vdn,vup,Zk,Zn,Zl,Zh,Zj,List.map_cons,List.map_nil,cond_true,cond_false,aop,Zv,Zq,Zp,ev,sput,Zt,Zy,Ya,unK,Zd,Zw,Nat.reduceBEq,Nat.reduceAdd,Int.reduceBEq,Int.reduceBNe,Int.reduceLT,Zu,Zz,tup,tyf,Int.natCast_zero]) rfl ?_
 rintro ⟨k,hp⟩ ⟨hk,hik⟩
 simp only at hk hik
 refine Yn fun Q2 hQ2=>?_
 simp only [l104_0]
 have hv:=hI _ _ hik
 by_cases hin:(k:Int)<ps.length
 · have hk' : k<ps.length:=by omega
   refine Yc fun N4 hN4=>?_
   simp (maxSteps:=2000000) only [s104,↓Za,↓Zi,↓Zr,↓Ze,↓Zo,↓Zs,↓Zg,↓Zm,↓Zf,↓Zb,↓Zc,↓vdn,vup,Zk,Zn,Zl,Zh,Zj,List.map_cons,List.map_nil,cond_true,cond_false,aop,Zv,Zq,Zp,ev,sput,Zt,Zy,Ya,unK,Zd,Zw,Nat.reduceBEq,Nat.reduceAdd,Int.reduceBEq,Int.reduceBNe,Int.reduceLT,Zu,Zz,tup,tyf,hin]
   refine hN4 [(0,v),(1,.func (.func fn) #[] cap),(4,.int .i64 0),(7,Zx ps.length),(8,Zx (k:Nat)),(9,.bool true)] _ _ ?_ (by simp (maxSteps:=2000000) only [↓Za,↓Zi,↓Zr,↓Ze,↓Zo,↓Zs,↓Zg,↓Zm,↓Zf,↓Zb,↓Zc,↓vdn,vup,Zk,Zn,Zl,Zh,Zj,List.map_cons,List.map_nil,cond_true,cond_false,aop,Zv,Zq,Zp,ev,sput,Zt,Zy,Ya,unK,Zd,Zw,Nat.reduceBEq,Nat.reduceAdd,Int.reduceBEq,Int.reduceBNe,Int.reduceLT,Zu,Zz,tup,tyf])
   clear hN4
   try clear N4
   refine Yc fun N5 hN5=>?_
   simp (maxSteps:=2000000) only [s104,↓Za,↓Zi,↓Zr,↓Ze,↓Zo,↓Zs,↓Zg,↓Zm,↓Zf,↓Zb,↓Zc,↓vdn,vup,Zk,Zn,Zl,Zh,Zj,List.map_cons,List.map_nil,cond_true,cond_false,aop,Zv,Zq,Zp,ev,sput,Zt,Zy,Ya,unK,Zd,Zw,Nat.reduceBEq,Nat.reduceAdd,Int.reduceBEq,Int.reduceBNe,Int.reduceLT,Zu,Zz,tup,tyf]
   refine hN5 [(0,v),(1,.func (.func fn) #[] cap),(4,.int .i64 0),(7,Zx ps.length),(8,Zx (k:Nat))] _ _ ?_ (by simp (maxSteps:=2000000) only [↓Za,↓Zi,↓Zr,↓Ze,↓Zo,↓Zs,↓Zg,↓Zm,↓Zf,↓Zb,↓Zc,↓vdn,vup,Zk,Zn,Zl,Zh,Zj,List.map_cons,List.map_nil,cond_true,cond_false,aop,Zv,Zq,Zp,ev,sput,Zt,Zy,Ya,unK,Zd,Zw,Nat.reduceBEq,Nat.reduceAdd,Int.reduceBEq,Int.reduceBNe,Int.reduceLT,Zu,Zz,tup,tyf])
   clear hN5
   try clear N5
   refine Yi fun B hB=>?_
   refine Yr ?_
   refine Yc fun N6 hN6=>?_
   simp (maxSteps:=2000000) only [s104,↓Za,↓Zi,↓Zr,↓Ze,↓Zo,↓Zs,↓Zg,↓Zm,↓Zf,↓Zb,↓Zc,↓vdn,vup,Zk,Zn,Zl,Zh,Zj,List.map_cons,List.map_nil,cond_true,cond_false,aop,Zv,Zq,Zp,ev,sput,Zt,Zy,Ya,unK,Zd,Zw,Nat.reduceBEq,Nat.reduceAdd,Int.reduceBEq,Int.reduceBNe,Int.reduceLT,Zu,Zz,tup,tyf]
   refine hN6 [(0,v),(1,.func (.func fn) #[] cap),(4,.int .i64 0),(5,Zx (k:Nat)),(7,Zx ps.length),(8,Zx (k:Nat))] _ _ ?_ (by simp (maxSteps:=2000000) only [↓Za,↓Zi,↓Zr,↓Ze,↓Zo,↓Zs,↓Zg,↓Zm,↓Zf,↓Zb,↓Zc,↓vdn,vup,Zk,Zn,Zl,Zh,Zj,List.map_cons,List.map_nil,cond_true,cond_false,aop,Zv,Zq,Zp,ev,sput,Zt,Zy,Ya,unK,Zd,Zw,Nat.reduceBEq,Nat.reduceAdd,Int.reduceBEq,Int.reduceBNe,Int.reduceLT,Zu,Zz,tup,tyf])
   clear hN6
   try clear N6
   refine Yc fun N7 hN7=>?_
   simp (maxSteps:=2000000) only [s104,↓Za,↓Zi,↓Zr,↓Ze,↓Zo,↓Zs,↓Zg,↓Zm,↓Zf,↓Zb,↓Zc,↓vdn,vup,Zk,Zn,Zl,Zh,Zj,List.map_cons,List.map_nil,cond_true,cond_false,aop,Zv,Zq,Zp,ev,sput,Zt,Zy,Ya,unK,Zd,Zw,Nat.reduceBEq,Nat.reduceAdd,Int.reduceBEq,Int.reduceBNe,Int.reduceLT,Zu,Zz,tup,tyf,Yx,List.nil_append,List.append_nil,List.toList_toArray,List.cons_append,hv.idx el_52 esz_33 hk',hv.load shp_33 hk']
   refine (step k hk' hp hik).mono ?_
   rintro _ h2 ⟨b,rfl,hJ,hI2⟩
   cases b with
   | true =>
     refine hN7 [(0,v),(1,.func (.func fn) #[] cap),(4,.int .i64 0),(5,Zx (k:Nat)),(7,Zx ps.length),(8,Zx (k:Nat)),(16,.bool true)] _ _ ?_ (by simp (maxSteps:=2000000) only [↓Za,↓Zi,↓Zr,↓Ze,↓Zo,↓Zs,↓Zg,↓Zm,↓Zf,↓Zb,↓Zc,↓vdn,vup,Zk,Zn,Zl,Zh,Zj,List.map_cons,List.map_nil,cond_true,cond_false,aop,Zv,Zq,Zp,ev,sput,Zt,Zy,Ya,unK,Zd,Zw,Nat.reduceBEq,Nat.reduceAdd,Int.reduceBEq,Int.reduceBNe,Int.reduceLT,Zu,Zz,tup,tyf])
     clear hN7
     try clear N7
     refine Wh rfl ?_
     refine Yk ?_
     simp (maxSteps:=2000000) only [s104,↓Za,↓Zi,↓Zr,↓Ze,↓Zo,↓Zs,↓Zg,↓Zm,↓Zf,↓Zb,↓Zc,↓vdn,vup,Zk,Zn,Zl,Zh,Zj,List.map_cons,List.map_nil,cond_true,cond_false,aop,Zv,Zq,Zp,ev,sput,Zt,Zy,Ya,unK,Zd,Zw,Nat.reduceBEq,Nat.reduceAdd,Int.reduceBEq,Int.reduceBNe,Int.reduceLT,Zu,Zz,tup,tyf]
     refine hQ2 _ _ _ (hQ _ _ _ ?_)
     simp (maxSteps:=2000000) only [s104,↓Za,↓Zi,↓Zr,↓Ze,↓Zo,↓Zs,↓Zg,↓Zm,↓Zf,↓Zb,↓Zc,↓vdn,vup,Zk,Zn,Zl,Zh,Zj,List.map_cons,List.map_nil,cond_true,cond_false,aop,Zv,Zq,Zp,ev,sput,Zt,Zy,Ya,unK,Zd,Zw,Nat.reduceBEq,Nat.reduceAdd,Int.reduceBEq,Int.reduceBNe,Int.reduceLT,Zu,Zz,tup,tyf]
     exact .inl ⟨k,hk',rfl,hJ rfl⟩
   | false =>
     refine hN7 [(0,v),(1,.func (.func fn) #[] cap),(4,.int .i64 0),(5,Zx (k:Nat)),(7,Zx ps.length),(8,Zx (k:Nat)),(16,.bool false)] _ _ ?_ (by simp (maxSteps:=2000000) only [↓Za,↓Zi,↓Zr,↓Ze,↓Zo,↓Zs,↓Zg,↓Zm,↓Zf,↓Zb,↓Zc,↓vdn,vup,Zk,Zn,Zl,Zh,Zj,List.map_cons,List.map_nil,cond_true,cond_false,aop,Zv,Zq,Zp,ev,sput,Zt,Zy,Ya,unK,Zd,Zw,Nat.reduceBEq,Nat.reduceAdd,Int.reduceBEq,Int.reduceBNe,Int.reduceLT,Zu,Zz,tup,tyf])
     clear hN7
     try clear N7
     refine Xx rfl ?_
     refine Yk ?_
     simp (maxSteps:=2000000) only [s104,↓Za,↓Zi,↓Zr,↓Ze,↓Zo,↓Zs,↓Zg,↓Zm,↓Zf,↓Zb,↓Zc,↓vdn,vup,Zk,Zn,Zl,Zh,Zj,List.map_cons,List.map_nil,cond_true,cond_false,aop,Zv,Zq,Zp,ev,sput,Zt,Zy,Ya,unK,Zd,Zw,Nat.reduceBEq,Nat.reduceAdd,Int.reduceBEq,Int.reduceBNe,Int.reduceLT,Zu,Zz,tup,tyf]
     refine hB [(0,v),(1,.func (.func fn) #[] cap),(4,.int .i64 0),(7,Zx ps.length),(8,Zx (k:Nat))] _ _ ?_ (by simp (maxSteps:=2000000) only [↓Za,↓Zi,↓Zr,↓Ze,↓Zo,↓Zs,↓Zg,↓Zm,↓Zf,↓Zb,↓Zc,↓vdn,vup,Zk,Zn,Zl,Zh,Zj,List.map_cons,List.map_nil,cond_true,cond_false,aop,Zv,Zq,Zp,ev,sput,Zt,Zy,Ya,unK,Zd,Zw,Nat.reduceBEq,Nat.reduceAdd,Int.reduceBEq,Int.reduceBNe,Int.reduceLT,Zu,Zz,tup,tyf])
     clear hB
     try clear B
     refine Yk ?_
     simp (maxSteps:=2000000) only [s104,↓Za,↓Zi,↓Zr,↓Ze,↓Zo,↓Zs,↓Zg,↓Zm,↓Zf,↓Zb,↓Zc,↓vdn,vup,Zk,Zn,Zl,Zh,Zj,List.map_cons,List.map_nil,cond_true,cond_false,aop,Zv,Zq,Zp,ev,sput,Zt,Zy,Ya,unK,Zd,Zw,Nat.reduceBEq,Nat.reduceAdd,Int.reduceBEq,Int.reduceBNe,Int.reduceLT,Zu,Zz,tup,tyf,add1 (show k<9223372036854775807 by omega)]
     exact hQ2 _ _ _ ⟨(k+1,h2),⟨hk',hI2 rfl⟩,by simp only; omega,by simp (maxSteps:=2000000) only [↓Za,↓Zi,↓Zr,↓Ze,↓Zo,↓Zs,↓Zg,↓Zm,↓Zf,↓Zb,↓Zc,↓vdn,vup,Zk,Zn,Zl,Zh,Zj,List.map_cons,List.map_nil,cond_true,cond_false,aop,Zv,Zq,Zp,ev,sput,Zt,Zy,Ya,unK,Zd,Zw,Nat.reduceBEq,Nat.reduceAdd,Int.reduceBEq,Int.reduceBNe,Int.reduceLT,Zu,Zz,tup,tyf],rfl⟩
 · obtain rfl:k=ps.length:=by omega
   refine Yc fun N8 hN8=>?_
   simp (maxSteps:=2000000) only [s104,↓Za,↓Zi,↓Zr,↓Ze,↓Zo,↓Zs,↓Zg,↓Zm,↓Zf,↓Zb,↓Zc,↓vdn,vup,Zk,Zn,Zl,Zh,Zj,List.map_cons,List.map_nil,cond_true,cond_false,aop,Zv,Zq,Zp,ev,sput,Zt,Zy,Ya,unK,Zd,Zw,Nat.reduceBEq,Nat.reduceAdd,Int.reduceBEq,Int.reduceBNe,Int.reduceLT,Zu,Zz,tup,tyf,hin]
   refine hN8 [(0,v),(1,.func (.func fn) #[] cap),(4,.int .i64 0),(7,Zx ps.length),(8,Zx (ps.length:Nat)),(9,.bool false)] _ _ ?_ (by simp (maxSteps:=2000000) only [↓Za,↓Zi,↓Zr,↓Ze,↓Zo,↓Zs,↓Zg,↓Zm,↓Zf,↓Zb,↓Zc,↓vdn,vup,Zk,Zn,Zl,Zh,Zj,List.map_cons,List.map_nil,cond_true,cond_false,aop,Zv,Zq,Zp,ev,sput,Zt,Zy,Ya,unK,Zd,Zw,Nat.reduceBEq,Nat.reduceAdd,Int.reduceBEq,Int.reduceBNe,Int.reduceLT,Zu,Zz,tup,tyf])
   clear hN8
   try clear N8
   refine Yc fun N9 hN9=>?_
   simp (maxSteps:=2000000) only [s104,↓Za,↓Zi,↓Zr,↓Ze,↓Zo,↓Zs,↓Zg,↓Zm,↓Zf,↓Zb,↓Zc,↓vdn,vup,Zk,Zn,Zl,Zh,Zj,List.map_cons,List.map_nil,cond_true,cond_false,aop,Zv,Zq,Zp,ev,sput,Zt,Zy,Ya,unK,Zd,Zw,Nat.reduceBEq,Nat.reduceAdd,Int.reduceBEq,Int.reduceBNe,Int.reduceLT,Zu,Zz,tup,tyf]
   refine hQ2 _ _ _ (hQ _ _ _ ?_)
   simp (maxSteps:=2000000) only [s104,↓Za,↓Zi,↓Zr,↓Ze,↓Zo,↓Zs,↓Zg,↓Zm,↓Zf,↓Zb,↓Zc,↓vdn,vup,Zk,Zn,Zl,Zh,Zj,List.map_cons,List.map_nil,cond_true,cond_false,aop,Zv,Zq,Zp,ev,sput,Zt,Zy,Ya,unK,Zd,Zw,Nat.reduceBEq,Nat.reduceAdd,Int.reduceBEq,Int.reduceBNe,Int.reduceLT,Zu,Zz,tup,tyf,if_true]
   refine hM [(0,v),(1,.func (.func fn) #[] cap),(4,.int .i64 0),(7,Zx ps.length),(8,Zx (ps.length:Nat)),(9,.bool false)] _ _ ?_ (by simp (maxSteps:=2000000) only [↓Za,↓Zi,↓Zr,↓Ze,↓Zo,↓Zs,↓Zg,↓Zm,↓Zf,↓Zb,↓Zc,↓vdn,vup,Zk,Zn,Zl,Zh,Zj,List.map_cons,List.map_nil,cond_true,cond_false,aop,Zv,Zq,Zp,ev,sput,Zt,Zy,Ya,unK,Zd,Zw,Nat.reduceBEq,Nat.reduceAdd,Int.reduceBEq,Int.reduceBNe,Int.reduceLT,Zu,Zz,tup,tyf])
   clear hM
   try clear M
   refine Yk ?_
   simp (maxSteps:=2000000) only [s104,↓Za,↓Zi,↓Zr,↓Ze,↓Zo,↓Zs,↓Zg,↓Zm,↓Zf,↓Zb,↓Zc,↓vdn,vup,Zk,Zn,Zl,Zh,Zj,List.map_cons,List.map_nil,cond_true,cond_false,aop,Zv,Zq,Zp,ev,sput,Zt,Zy,Ya,unK,Zd,Zw,Nat.reduceBEq,Nat.reduceAdd,Int.reduceBEq,Int.reduceBNe,Int.reduceLT,Zu,Zz,tup,tyf]
   exact .inr hik
end Go.Proofs.Tryd.Am
namespace Go.Proofs.Tryd.Am
open Go.Am Ord
set_option maxRecDepth 100000
set_option maxHeartbeats 2000000
def SortsOK [BitTab prog 1] (bs bm m:Nat):Prop:=∀ (h:Yb) (o:List Int),ord o=true→SK bs bm h →
 ACall prog 109 [ptB bs,ordV o,Zx (m:Nat)] h fun r h'=>r = .bool (Vz m o)∧SK bs bm h'∧Ext (fun b=>b=bm) h h'
def bothB (m:Nat) (o:List Int) (i j:Nat):Bool:=Vz m (addL o i j)&&Vz m (addL o j i)
theorem s122_callW [Tabs Tryd.prog] {args:List Value} {h:Yb} {Q:Value→Yb→Prop} (hsz:args.length≤28) (hk:AWS Tryd.prog 28 s122 (Zu Tryd.prog [.tmp 5] Q) (Zp 0 args) h):ACall Tryd.prog 122 args h Q :=
 Wx Tryd.func122 rfl (enters_of Tryd.func122 (by kernel_rfl) rfl) rfl rfl (by decide) s122_strip s122_ok hsz hk
theorem try_call [BitTab prog 1] {bs bm m:Nat} (ih:SortsOK bs bm m) (hm:m≤60) {h:Yb} {o:List Int} (ho:ord o=true) (hs:SK bs bm h) {i j:Nat} (hi:i<o.length) (hj:j<o.length) (hf:fr o i j=true) {b3 b4 b5:Nat}
  (h3:h[b3]? = some (.cells [ptB bs] 97 false)) (h4:h[b4]? = some (.cells (Wa o) 77 false)) (h5:h[b5]? = some (.cells [Zx ((m+1:Nat):Int)] 3 false)) :
  ACall prog 122 (([]:List Value)++[pV ((i:Int),(j:Int))]++[ptB b3,ptB b4,ptB b5]) h fun r h'=>r = .bool (bothB m o i j)∧SK bs bm h'∧Ext (fun b=>b=bm) h h':=by
 have hl:=Yu ho
 obtain ⟨f1,f2,f3⟩:=fr_out hf
 have o1:=Vx ho hi hj f1 f3
 have o2:=Vx ho hj hi (Ne.symm f1) f2
 have hsub:subV .i64 ((m+1:Nat):Int) 1=(m:Int):=by rw [subV_id (by omega) (by omega)]; omega
 refine s122_callW (by simp) ?_
 simp only [s122]
 refine Yc fun N1 hN1=>?_
 simp (maxSteps:=2000000) only [s122,↓Za,↓Zi,↓Zr,↓Ze,↓Zo,↓Zs,↓Zg,↓Zm,↓Zf,↓Zb,↓Zc,↓vdn,vup,Zk,Zn,Zl,Zh,Zj,List.map_cons,List.map_nil,cond_true,cond_false,aop,Zv,Zq,Zp,ev,sput,Zt,Zy,Ya,unK,Zd,Zw,Nat.reduceBEq,Nat.reduceAdd,Int.reduceBEq,Int.reduceBNe,Int.reduceLT,Zu,Zz,tup,tyf,Yx,List.nil_append,List.append_nil,List.toList_toArray,List.cons_append,boxPr,Ys]
 have c0:=Yl h (Blk.cells [Zx ((i:Nat):Int),Zx ((j:Nat):Int)] 33 false)
 have hE0:Ext (fun _=>False) h (h++[Blk.cells [Zx ((i:Nat):Int),Zx ((j:Nat):Int)] 33 false]):=Ext.app _ _ _
 have g3:=Yh h3 [Blk.cells [Zx ((i:Nat):Int),Zx ((j:Nat):Int)] 33 false]
 have g4:=Yh h4 [Blk.cells [Zx ((i:Nat):Int),Zx ((j:Nat):Int)] 33 false]
 have g5:=Yh h5 [Blk.cells [Zx ((i:Nat):Int),Zx ((j:Nat):Int)] 33 false]
 have hsG:=hs.ext hE0
 generalize h++[Blk.cells [Zx ((i:Nat):Int),Zx ((j:Nat):Int)] 33 false]=G at c0 hE0 g3 g4 g5 hsG ⊢
 generalize h.length=b0 at c0 ⊢
 refine hN1 [(0,pV ((i:Int),(j:Int))),(1,ptB b3),(2,ptB b4),(3,ptB b5),(4,ptB b0),(5,.bool false)] _ _ ?_ (by simp (maxSteps:=2000000) only [↓Za,↓Zi,↓Zr,↓Ze,↓Zo,↓Zs,↓Zg,↓Zm,↓Zf,↓Zb,↓Zc,↓vdn,vup,Zk,Zn,Zl,Zh,Zj,List.map_cons,List.map_nil,cond_true,cond_false,aop,Zv,Zq,Zp,ev,sput,Zt,Zy,Ya,unK,Zd,Zw,Nat.reduceBEq,Nat.reduceAdd,Int.reduceBEq,Int.reduceBNe,Int.reduceLT,Zu,Zz,tup,tyf])
 clear hN1
 try clear N1
 refine Yk ?_
 simp (maxSteps:=2000000) only [s122,↓Za,↓Zi,↓Zr,↓Ze,↓Zo,↓Zs,↓Zg,↓Zm,↓Zf,↓Zb,↓Zc,↓vdn,vup,Zk,Zn,Zl,Zh,Zj,List.map_cons,List.map_nil,cond_true,cond_false,aop,Zv,Zq,Zp,ev,sput,Zt,Zy,Ya,unK,Zd,Zw,Nat.reduceBEq,Nat.reduceAdd,Int.reduceBEq,Int.reduceBNe,Int.reduceLT,Zu,Zz,tup,tyf]
 refine Xp [(6,1),(9,4),(17,1),(20,4)] (by kernel_rfl) (by kernel_rfl) (by kernel_rfl) (by kernel_rfl) ?_
 simp (maxSteps:=2000000) only [s122,↓Za,↓Zi,↓Zr,↓Ze,↓Zo,↓Zs,↓Zg,↓Zm,↓Zf,↓Zb,↓Zc,↓vdn,vup,Zk,Zn,Zl,Zh,Zj,List.map_cons,List.map_nil,cond_true,cond_false,aop,Zv,Zq,Zp,ev,sput,Zt,Zy,Ya,unK,Zd,Zw,Nat.reduceBEq,Nat.reduceAdd,Int.reduceBEq,Int.reduceBNe,Int.reduceLT,Zu,Zz,tup,tyf,Xh g3 shp_97,Vd g4 Xb hl.2,pidx0,pidx1,pl0 c0,pl1 c0,Yx,List.nil_append,List.append_nil,List.toList_toArray,List.cons_append]
 refine ⟨_,_,add_call ho hi hj,rfl,?_⟩
 simp (maxSteps:=2000000) only [s122,↓Za,↓Zi,↓Zr,↓Ze,↓Zo,↓Zs,↓Zg,↓Zm,↓Zf,↓Zb,↓Zc,↓vdn,vup,Zk,Zn,Zl,Zh,Zj,List.map_cons,List.map_nil,cond_true,cond_false,aop,Zv,Zq,Zp,ev,sput,Zt,Zy,Ya,unK,Zd,Zw,Nat.reduceBEq,Nat.reduceAdd,Int.reduceBEq,Int.reduceBNe,Int.reduceLT,Zu,Zz,tup,tyf,Xh g5 Xf,hsub,Yx,List.nil_append,List.append_nil,List.toList_toArray,List.cons_append]
 refine (ih G _ o1 hsG).mono ?_
 rintro _ G2 ⟨rfl,hs2,hE2⟩
 have k0:=(hE2.2 _ (Yd c0) (hsG.ne c0)).trans c0
 have k3:=(hE2.2 _ (Yd g3) (hsG.ne g3)).trans g3
 have k4:=(hE2.2 _ (Yd g4) (hsG.ne g4)).trans g4
 have k5:=(hE2.2 _ (Yd g5) (hsG.ne g5)).trans g5
 have hE3:Ext (fun b=>b=bm) h G2:=(hE0.mono fun _ h=>h.elim).trans hE2
 cases hb:Vz m (addL o i j) with
 | false =>
   simp (maxSteps:=2000000) only [s122,↓Za,↓Zi,↓Zr,↓Ze,↓Zo,↓Zs,↓Zg,↓Zm,↓Zf,↓Zb,↓Zc,↓vdn,vup,Zk,Zn,Zl,Zh,Zj,List.map_cons,List.map_nil,cond_true,cond_false,aop,Zv,Zq,Zp,ev,sput,Zt,Zy,Ya,unK,Zd,Zw,Nat.reduceBEq,Nat.reduceAdd,Int.reduceBEq,Int.reduceBNe,Int.reduceLT,Zu,Zz,tup,tyf,hb]
   exact ⟨by rw [bothB,hb]; rfl,hs2,hE3⟩
 | true =>
   simp (maxSteps:=2000000) only [s122,↓Za,↓Zi,↓Zr,↓Ze,↓Zo,↓Zs,↓Zg,↓Zm,↓Zf,↓Zb,↓Zc,↓vdn,vup,Zk,Zn,Zl,Zh,Zj,List.map_cons,List.map_nil,cond_true,cond_false,aop,Zv,Zq,Zp,ev,sput,Zt,Zy,Ya,unK,Zd,Zw,Nat.reduceBEq,Nat.reduceAdd,Int.reduceBEq,Int.reduceBNe,Int.reduceLT,Zu,Zz,tup,tyf,hb,Xh k3 shp_97,Vd k4 Xb hl.2,pidx0,pidx1,pl0 k0,pl1 k0,Yx,List.nil_append,List.append_nil,List.toList_toArray,List.cons_append]
   refine ⟨_,_,add_call ho hj hi,rfl,?_⟩
   simp (maxSteps:=2000000) only [s122,↓Za,↓Zi,↓Zr,↓Ze,↓Zo,↓Zs,↓Zg,↓Zm,↓Zf,↓Zb,↓Zc,↓vdn,vup,Zk,Zn,Zl,Zh,Zj,List.map_cons,List.map_nil,cond_true,cond_false,aop,Zv,Zq,Zp,ev,sput,Zt,Zy,Ya,unK,Zd,Zw,Nat.reduceBEq,Nat.reduceAdd,Int.reduceBEq,Int.reduceBNe,Int.reduceLT,Zu,Zz,tup,tyf,Xh k5 Xf,hsub,Yx,List.nil_append,List.append_nil,List.toList_toArray,List.cons_append]
   refine (ih G2 _ o2 hs2).mono ?_
   rintro _ G4 ⟨rfl,hs4,hE4⟩
   try simp (maxSteps:=2000000) only [s122,↓Za,↓Zi,↓Zr,↓Ze,↓Zo,↓Zs,↓Zg,↓Zm,↓Zf,↓Zb,↓Zc,↓vdn,vup,Zk,Zn,Zl,Zh,Zj,List.map_cons,List.map_nil,cond_true,cond_false,aop,Zv,Zq,Zp,ev,sput,Zt,Zy,Ya,unK,Zd,Zw,Nat.reduceBEq,Nat.reduceAdd,Int.reduceBEq,Int.reduceBNe,Int.reduceLT,Zu,Zz,tup,tyf]
   exact ⟨by rw [bothB,hb]; rfl,hs4,hE3.trans hE4⟩
def rowF (o:List Int) (i j:Nat):List (Nat×Nat):=(((List.range j).filter fun b=>decide (i<b)).filter fun b=>fr o i b).map fun b=>(i,b)
def allF (o:List Int):Nat→List (Nat×Nat)
 | 0=>[]
 | i+1=>allF o i++rowF o i o.length
theorem rowF_le (o:List Int) (i:Nat):(rowF o i (i+1))=[]:=by
 rw [rowF]
 have:(List.range (i+1)).filter (fun b=>decide (i<b))=[]:=by
  rw [List.filter_eq_nil_iff]
  intro b hb
  have:=List.mem_range.1 hb
  simp; omega
 rw [this]; rfl
theorem rowF_succ (o:List Int) {i j:Nat} (h:i<j):rowF o i (j+1)=rowF o i j++if fr o i j=true then [(i,j)] else []:=by
 rw [rowF,List.range_succ,List.filter_append,List.filter_append,List.map_append,rowF]
 simp [h,List.filter_cons]
 split <;> simp
theorem row_len (i:Nat) : ∀ j,((List.range j).filter fun b=>decide (i<b)).length≤j-1-i
 | 0=>by simp
 | j+1=>by
   have:=row_len i j
   rw [List.range_succ,List.filter_append,List.length_append,List.filter_cons]
   by_cases h:i<j
   · rw [if_pos (by simpa using h)]; simp; omega
   · rw [if_neg (by simpa using h)]; simp; omega
theorem rowF_len (o:List Int) (i j:Nat):(rowF o i j).length≤j-1-i:=by
 rw [rowF,List.length_map]
 exact Nat.le_trans (List.length_filter_le _ _) (row_len i j)
def triN (n:Nat):Nat→Nat
 | 0=>0
 | i+1=>triN n i+(n-1-i)
theorem allF_len (o:List Int) : ∀ i,(allF o i).length≤triN o.length i
 | 0=>Nat.le_refl _
 | i+1=>by
   have h1:=allF_len o i
   have h2:=rowF_len o i o.length
   rw [allF,List.length_append,triN]; omega
theorem tri_le : ∀ n,n<7→triN n n≤15:=by decide
theorem allF_15 {o:List Int} (h:o.length≤6):(allF o o.length).length≤15:=Nat.le_trans (allF_len o _) (tri_le _ (by omega))
theorem mem_rowF {o:List Int} {i j:Nat} {p:Nat×Nat}:p∈rowF o i j↔p.1=i∧i<p.2∧p.2<j∧fr o i p.2=true:=by
 simp only [rowF,List.mem_map,List.mem_filter,List.mem_range,decide_eq_true_eq]
 constructor
 · rintro ⟨b,⟨⟨h1,h2⟩,h3⟩,rfl⟩; exact ⟨rfl,h2,h1,h3⟩
 · rintro ⟨rfl,h2,h1,h3⟩; exact ⟨p.2,⟨⟨h1,h2⟩,h3⟩,rfl⟩
theorem mem_allF {o:List Int} {p:Nat×Nat} : ∀ {i},p∈allF o i↔p.1<i∧p.1<p.2∧p.2<o.length∧fr o p.1 p.2=true
 | 0=>by simp [allF]
 | i+1=>by
   rw [allF,List.mem_append,mem_allF,mem_rowF]
   constructor
   · rintro (⟨h1,h2⟩ | ⟨rfl,h2⟩)
     · exact ⟨by omega,h2⟩
     · exact ⟨by omega,h2⟩
   · rintro ⟨h1,h2,h3,h4⟩
     by_cases hp:p.1=i
     · exact .inr ⟨hp,by omega,h3,by rw [← hp]; exact h4⟩
     · exact .inl ⟨by omega,h2,h3,h4⟩
def pairB (m:Nat) (o:List Int):Bool:=(List.range o.length).any fun i=>(List.range o.length).any fun j=>decide (i<j)&&(fr o i j&&(Vz m (addL o i j)&&Vz m (addL o j i)))
theorem pairB_true {m:Nat} {o:List Int} {i j:Nat} (hij:i<j) (hj:j<o.length) (hf:fr o i j=true) (hb:bothB m o i j=true):pairB m o=true:=by
 refine List.any_eq_true.2 ⟨i,List.mem_range.2 (by omega),List.any_eq_true.2 ⟨j,List.mem_range.2 hj,?_⟩⟩
 rw [show decide (i<j)=true from decide_eq_true hij,hf]; exact hb
theorem pairB_false {m:Nat} {o:List Int} (h : ∀ i j,i<j→j<o.length→fr o i j=true→bothB m o i j=false):pairB m o=false:=by
 cases hb:pairB m o with
 | false=>rfl
 | true =>
   obtain ⟨i,hi,h1⟩:=List.any_eq_true.1 hb
   obtain ⟨j,hj,h2⟩:=List.any_eq_true.1 h1
   rw [Bool.and_eq_true,Bool.and_eq_true,decide_eq_true_eq] at h2
   have:=h i j h2.1 (List.mem_range.1 hj) h2.2.1
   rw [bothB,h2.2.2] at this; cases this
theorem srtb_succ (m:Nat) (o:List Int):Vz (m+1) o=(cn o==1 || (decide (cn o≤2 ^ (m+1))&&pairB m o)):=rfl
def iPP (l:List (Nat×Nat)):List (Int×Int):=l.map fun p=>((p.1:Int),(p.2:Int))
theorem iPP_len (l:List (Nat×Nat)):(iPP l).length=l.length:=List.length_map _
theorem iPP_app (a b:List (Nat×Nat)):iPP (a++b)=iPP a++iPP b:=List.map_append
theorem mem_iPP {l:List (Nat×Nat)} {p:Int×Int} (h:p∈iPP l) : ∃ a b:Nat,p=((a:Int),(b:Int))∧(a,b)∈l:=by
 obtain ⟨q,hq,rfl⟩:=List.mem_map.1 h
 exact ⟨q.1,q.2,rfl,hq⟩
end Go.Proofs.Tryd.Am
