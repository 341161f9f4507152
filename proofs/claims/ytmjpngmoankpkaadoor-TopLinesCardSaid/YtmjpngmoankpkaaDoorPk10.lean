/-
  bets: elimination: what it keeps, how great its numbers are, what it tells. Plain Lean, no program.
  bets: what a solution is; what it means that there is none. Plain Lean, no program.
  bets: beliefs that agree; the least of a sum is at a corner. Plain Lean, no program.
  bets: the systems of bets are tame, all of them; the reference's rows. Plain Lean, no program.
  bets: the reference's equations as they lie in memory.
  bets: the reference's corner.
  bets, plain: either weights of some rows come to nothing, or one can be had that all rows gain from (Gordan); a gain that stands on few columns and rows.
  bets, plain: bets that are not sound are beaten by stakes that a square system of gains gives; sound ones by none.
  bets: least and greatest.
  bets: what a ticket gains; whether stakes beat bets.
-/
import Derived.Test.YtmjpngmoankpkaaDoorPk7
import Derived.Test.YtmjpngmoankpkaaDoorPk9
import Derived.Test.YtmjpngmoankpkaaDoorPk8
import Derived.Test.YtmjpngmoankpkaaDoorPk6
import Derived.Test.YtmjpngmoankpkaaDoorPk5
set_option linter.all false
namespace Bq
/-! Sums. -/
theorem sumTo_pick {n t:Nat} (g:Nat→Rat) (h:t<n):Zv (fun c=>if c=t then g c else 0) n=g t:=by
 induction n with
 | zero=>omega
 | succ n ih =>
   rw [Zv]
   by_cases h1:t=n
   · subst h1
     rw [Wd fun i hi=>by rw [if_neg (by omega)],if_pos rfl,Rat.zero_add]
   · rw [ih (by omega),if_neg (by omega),Rat.add_zero]
theorem sumTo_swap (f:Nat→Nat→Rat) (m:Nat) : ∀ n,Zv (fun i=>Zv (fun j=>f i j) m) n=Zv (fun j=>Zv (fun i=>f i j) n) m
 | 0=>(Wd fun i hi=>rfl).symm
 | n+1=>by
   rw [Zv,sumTo_swap f m n,← Xw]; rfl
theorem det_comb {n:Nat} (a:Nat→Nat→Rat) (s:Nat→Rat) (e:Nat→Rat) : ∀ (J:Nat) {M:Nat→Nat→Rat},(∀ r,r<n+1→M 0 r=Zv (fun t=>s t*a t r) J+e r) →
  (∀ t,t<J→s t=0∨det (n+1) (fun c=>if c=0 then a t else M c)=0)→det (n+1) M=det (n+1) (fun c=>if c=0 then e else M c)
 | 0,M,h,_=>Vt _ fun c r hc hr=>by
   by_cases h0:c=0
   · subst h0; rw [if_pos rfl,h r hr,Zv,Rat.zero_add]
   · rw [if_neg h0]
 | J+1,M,h,hz=>by
   have h1:=det_lin (M:=M) (fun r=>Zv (fun t=>s t*a t r) J+e r) (a J) (s J) fun r hr=>by rw [h r hr,Zv]; grind
   have h2:s J*det (n+1) (fun c=>if c=0 then a J else M c)=0:=by
    rcases hz J (by omega) with h3 | h3 <;> rw [h3] <;> grind
   rw [h2,Rat.add_zero] at h1
   rw [h1]
   have h4 : ∀ v:Nat→Rat,(fun c=>if c=0 then v else (fun c=>if c=0 then (fun r=>Zv (fun t=>s t*a t r) J+e r) else M c) c)=fun c=>if c=0 then v else M c:=fun v=>by
    funext c
    by_cases h0:c=0 <;> simp [h0]
   have ih:=det_comb a s e J (M:=fun c=>if c=0 then (fun r=>Zv (fun t=>s t*a t r) J+e r) else M c) (fun r hr=>by simp) fun t ht=>by
    rcases hz t (by omega) with h3 | h3
    · exact .inl h3
    · refine .inr ?_
      rw [h4]; exact h3
   rw [ih,h4]
theorem det_scale {n:Nat} (M:Nat→Nat→Rat) (a:Nat→Rat) (s:Rat):det (n+1) (fun c=>if c=0 then (fun r=>s*a r) else M c)=s*det (n+1) (fun c=>if c=0 then a else M c):=by
 have h:=det_lin (n:=n) (M:=fun c=>if c=0 then (fun r=>s*a r) else M c) (fun _=>0) a s fun r hr=>by simp [Rat.zero_add]
 have e1 : ∀ v:Nat→Rat,(fun c=>if c=0 then v else (fun c=>if c=0 then (fun r=>s*a r) else M c) c)=fun c=>if c=0 then v else M c:=fun v=>by
  funext c
  by_cases h0:c=0 <;> simp [h0]
 rw [e1,e1] at h
 rw [h,det_zero (fun r hr=>rfl),Rat.zero_add]
structure GI (m:Nat) (T0:Wp) (j:Nat) (S:Wp) (π:Nat→Nat):Prop where
 lt : ∀ i,i<m→π i<m
 jm:j≤m
 row : ∀ i c,i<m→T0 (π i) c=Zv (fun t=>T0 (π i) t*S t c) j+(if j≤i then S i c else 0)
 unit : ∀ i t,i<m→t<j→S i t=if i=t then 1 else 0
 dt:det j (fun c r=>T0 (π r) c)≠0
theorem GI.init (m:Nat) (T0:Wp):GI m T0 0 T0 id where
 lt i hi:=hi
 jm:=Nat.zero_le _
 row i c hi:=by rw [Zv,if_pos (Nat.zero_le _),Rat.zero_add]; rfl
 unit i t hi ht:=by omega
 dt:=by rw [det]; decide
section
variable {m j:Nat} {T0 S:Wp} {π:Nat→Nat} (g:GI m T0 j S π)
include g
theorem GI.minor {i c:Nat} (hi:i<m) (hj:j≤i):det (j+1) (fun c' r=>T0 (if r<j then π r else π i) (if c' = 0 then c else c' - 1))=sgn j*S i c*det j (fun c r=>T0 (π r) c):=by
 have h:=det_comb (n:=j) (fun t r=>T0 (if r<j then π r else π i) t) (fun t=>S t c) (fun r=>if r<j then 0 else S i c) j (M:=fun c' r=>T0 (if r<j then π r else π i) (if c' = 0 then c else c' - 1)) (fun r hr=>by
  simp only [if_true]
  by_cases h1:r<j
  · simp only [h1,if_true]
    rw [g.row r c (by have:=g.jm; omega),if_neg (by omega)]
    congr 1
    exact Zk fun t ht=>Rat.mul_comm _ _
  · simp only [h1,if_false]
    rw [g.row i c hi,if_pos hj]
    congr 1
    exact Zk fun t ht=>Rat.mul_comm _ _) fun t ht=>.inr (by
  refine det_same _ t _ (by omega) fun r hr=>?_
  simp)
 rw [h,det_last (fun r hr=>by simp only [if_true,hr])]
 simp only [if_true,Nat.lt_irrefl,if_false]
 congr 1
 refine Vt _ fun c' r hc hr=>?_
 simp [hr]
theorem GI.cramer {t c:Nat} (ht:t<j):det j (fun c' r=>T0 (π r) (if c' = 0 then c else bring t c'))=S t c*(sgn t*det j (fun c r=>T0 (π r) c)):=by
 have hb:=det_bring t j (fun c r=>T0 (π r) c) ht
 obtain ⟨n,rfl⟩ : ∃ n,j=n+1:=⟨j-1,by omega⟩
 have hbr : ∀ s,s<n+1→s≠t→∃ c',c' + 1<n+1∧bring t (c' + 1)=s:=fun s hs hst=>by
  by_cases h1:s<t
  · exact ⟨s,by omega,by simp [bring,show s+1≤t by omega]⟩
  · exact ⟨s-1,by omega,by simp only [bring]; rw [if_neg (by omega),if_neg (by omega)]; omega⟩
 have h:=det_comb (n:=n) (fun s r=>T0 (π r) s) (fun s=>if s=t then 0 else S s c) (fun r=>S t c*T0 (π r) t) (n+1) (M:=fun c' r=>T0 (π r) (if c' = 0 then c else bring t c')) (fun r hr=>by
  simp only [if_true]
  rw [g.row r c (by have:=g.jm; omega),if_neg (by omega),Rat.add_zero]
  have e:Zv (fun s=>T0 (π r) s*S s c) (n+1)=Zv (fun s=>(if s=t then 0 else S s c)*T0 (π r) s) (n+1)+Zv (fun s=>if s=t then S s c*T0 (π r) s else 0) (n+1):=by
   rw [← Xw]
   refine Zk fun s hs=>?_
   by_cases h1:s=t
   · simp only [h1,if_true]; grind
   · simp only [h1,if_false]; grind
  rw [e,sumTo_pick _ ht]) fun s hs=>by
  by_cases h1:s=t
  · exact .inl (by simp [h1])
  · refine .inr ?_
    obtain ⟨c',h2,h3⟩:=hbr s hs h1
    refine det_same _ c' _ h2 fun r hr=>?_
    simp [h3]
 rw [h,det_scale]
 congr 1
end
theorem swapT_at (a p:Nat) (T:Wp):Vz a p T a=T p:=by simp [Vz]
theorem GI.step {m j p:Nat} {T0 S:Wp} {π:Nat→Nat} (g:GI m T0 j S π) (hp:p<m) (hjp:j≤p) (h0:S p j≠0) :
  ∃ π',GI m T0 (j+1) (elimT j (normT j (Vz j p S))) π':=by
 have hj:j<m:=by omega
 -- the rows changed
 obtain ⟨π',hπ⟩ : ∃ π' : Nat→Nat,π' = fun i=>if i=j then π p else if i=p then π j else π i:=⟨_,rfl⟩
 obtain ⟨S',hS⟩ : ∃ S',S' = Vz j p S:=⟨_,rfl⟩
 have hS1:S' j=S p:=by rw [hS,swapT_at]
 have hS2 : ∀ t,t<j→S' t=S t:=fun t ht=>by rw [hS,Vz]; simp only [show t≠j by omega,show t≠p by omega,if_false]
 have hπ2 : ∀ t,t<j→π' t=π t:=fun t ht=>by rw [hπ]; simp only [show t≠j by omega,show t≠p by omega,if_false]
 have hsel : ∀ i,i<m→∃ i',i' < m∧π' i=π i'∧S' i=S i'∧(j≤i↔j≤i')∧(i<j→i' = i):=fun i hi=>by
  by_cases h1:i=j
  · exact ⟨p,hp,by rw [hπ]; simp [h1],by rw [h1,hS1],by omega,by omega⟩
  · by_cases h2:i=p
    · refine ⟨j,hj,by rw [hπ]; simp only [h2,if_true]; rw [if_neg (by omega)],?_,by omega,by omega⟩
      rw [hS,Vz]; simp only [h1,if_false]; rw [if_pos h2]
    · refine ⟨i,hi,by rw [hπ]; simp [h1,h2],?_,Iff.rfl,fun _=>rfl⟩
      rw [hS,Vz]; simp [h1,h2]
 have g' : GI m T0 j S' π':=by
  refine ⟨fun i hi=>?_,g.jm,fun i c hi=>?_,fun i t hi ht=>?_,?_⟩
  · obtain ⟨i',h1,h2,-⟩:=hsel i hi
    rw [h2]; exact g.lt i' h1
  · obtain ⟨i',h1,h2,h3,h4,-⟩:=hsel i hi
    rw [h2,h3,g.row i' c h1]
    congr 1
    · exact Zk fun t ht=>by rw [hS2 t ht]
    · by_cases h5:j≤i
      · rw [if_pos h5,if_pos (h4.1 h5)]
      · rw [if_neg h5,if_neg fun h=>h5 (h4.2 h)]
  · obtain ⟨i',h1,h2,h3,h4,h5⟩:=hsel i hi
    rw [h3,g.unit i' t h1 ht]
    by_cases h6:i<j
    · rw [h5 h6]
    · have:=h4.1 (by omega)
      rw [if_neg (by omega),if_neg (by omega)]
  · have:det j (fun c r=>T0 (π' r) c)=det j (fun c r=>T0 (π r) c):=Vt _ fun c r hc hr=>by rw [hπ2 r hr]
    rw [this]; exact g.dt
 have hv:S' j j≠0:=by rw [hS1]; exact h0
 rw [← hS]
 clear hsel hπ2 hS2 hS1 hS hπ g h0
 refine ⟨π',g'.lt,by omega,fun i c hi=>?_,fun i t hi ht=>?_,?_⟩
 · -- rows
   have r1:=g'.row i c hi
   have r2:=g'.row i j hi
   obtain ⟨v,hvv⟩ : ∃ v,S' j j=v:=⟨_,rfl⟩
   rw [hvv] at hv
   obtain ⟨q,hq⟩ : ∃ q,S' j c / v=q:=⟨_,rfl⟩
   have hqv:S' j c=q*v:=by rw [← hq]; exact (Rat.div_mul_cancel hv).symm
   have e1 : ∀ i',elimT j (normT j S') i' c=if i' = j then q else S' i' c-S' i' j*q:=fun i'=>by
    simp only [elimT,normT,if_true,hvv,hq]
    by_cases h1:i' = j
    · simp only [h1,if_true]
    · simp only [h1,if_false]
   rw [Zv]
   have e2:Zv (fun t=>T0 (π' i) t*elimT j (normT j S') t c) j=Zv (fun t=>T0 (π' i) t*S' t c) j+(-q)*Zv (fun t=>T0 (π' i) t*S' t j) j:=by
    rw [← Yw,← Xw]
    refine Zk fun t ht=>?_
    rw [e1,if_neg (by omega)]; grind
   rw [e2,e1 j,if_pos rfl,e1 i]
   generalize Zv (fun t=>T0 (π' i) t*S' t c) j=A at *
   generalize Zv (fun t=>T0 (π' i) t*S' t j) j=B at *
   rcases Nat.lt_trichotomy i j with h1 | h1 | h1
   · rw [if_neg (by omega)] at r1 r2
     rw [if_neg (by omega)]
     rw [r1,r2]; grind
   · subst h1
     rw [if_pos (Nat.le_refl _)] at r1 r2
     rw [if_neg (by omega)]
     rw [hvv] at r2
     rw [r1,r2,hqv]; grind
   · rw [if_pos (by omega)] at r1 r2
     rw [if_pos (by omega),if_neg (by omega)]
     rw [r1,r2]; grind
 · -- unit
   simp only [elimT,normT,if_true]
   by_cases h1:t=j
   · subst h1
     by_cases h2:i=t
     · subst h2
       rw [if_pos rfl,if_pos rfl,Rat.div_def,Rat.mul_inv_cancel _ hv]
     · rw [if_neg h2,if_neg h2,if_neg h2,Rat.div_def,Rat.mul_inv_cancel _ hv]; grind
   · have u1:=g'.unit j t hj (by omega)
     rw [if_neg (by omega)] at u1
     have u2:=g'.unit i t hi (by omega)
     by_cases h2:i=j
     · subst h2
       rw [if_pos rfl,u1,if_neg (by omega),Rat.div_def,Rat.zero_mul]
     · rw [if_neg h2,if_neg h2,if_neg h2,u1,u2,Rat.div_def,Rat.zero_mul,Rat.mul_zero]; grind
 · -- the determinant
   have hm:=g'.minor (i:=j) (c:=j) hj (Nat.le_refl _)
   have hb:=det_bring j (j+1) (fun c r=>T0 (π' r) c) (by omega)
   have e:det (j+1) (fun c' r=>T0 (if r<j then π' r else π' j) (if c' = 0 then j else c' - 1))=det (j+1) (fun c r=>T0 (π' r) (bring j c)):=Vt _ fun c r hc hr=>by
    have h1:(if r<j then π' r else π' j)=π' r:=by
     by_cases h2:r<j
     · rw [if_pos h2]
     · rw [if_neg h2,show r=j by omega]
    have h3:(if c=0 then j else c-1)=bring j c:=by
     simp only [bring]
     by_cases h0:c=0
     · rw [if_pos h0,if_pos h0]
     · rw [if_neg h0,if_neg h0,if_pos (by omega)]
    rw [h1,h3]
   rw [e,hb] at hm
   intro hc
   rw [hc,Rat.mul_zero] at hm
   rcases Rat.mul_eq_zero.1 hm.symm with h1 | h1
   · rcases Rat.mul_eq_zero.1 h1 with h2 | h2
     · have:=sgn_sq j; rw [h2] at this; exact absurd this (by decide +kernel)
     · exact hv h2
   · exact g'.dt h1
theorem elim_gi {m:Nat} {T0:Wp} : ∀ {j:Nat} {S:Wp},Xp m T0 j=some S→∃ π,GI m T0 j S π
 | 0,S,h=>by cases h; exact ⟨id,GI.init m _⟩
 | j+1,S,h=>by
   rw [Xp] at h
   cases hr:Xp m T0 j with
   | none=>rw [hr] at h; cases h
   | some S1 =>
     rw [hr] at h
     simp only [Option.bind_some,Vg] at h
     obtain ⟨π,g⟩:=elim_gi hr
     cases hf:findP m j S1 with
     | none=>rw [hf] at h; cases h
     | some p =>
       rw [hf] at h
       cases h
       obtain ⟨h1,h2,h3,_⟩:=findP_some hf
       exact g.step h1 h2 h3
/-! How great. -/
theorem Zq.rp {b:Nat} {D z:Int} {q:Rat} {s:Rat} (hD:D≠0) {N:Nat} (hN:0<N) (hs:Zq 1 s) (hq:Zq b (q*D*N*s)) (hss:s*s=1) : ∃ x:Int,Rp (D.natAbs*N) x q∧x.natAbs≤b:=by
 obtain ⟨y,hy,hyb⟩:=hq
 obtain ⟨u,hu,hub⟩:=hs
 have hD0:0<D.natAbs:=by omega
 have h1:q*(D:Rat)*(N:Rat)=(y:Rat)*s:=by
  rw [← hy]
  generalize q*(D:Rat)*(N:Rat)=A
  have:A*s*s=A*(s*s):=by grind
  rw [this,hss,Rat.mul_one]
 rcases Int.lt_or_le D 0 with h | h
 · refine ⟨-(y*u),⟨Nat.mul_pos hD0 hN,?_⟩,?_⟩
   · have e:((D.natAbs:Nat):Rat) = -(D:Rat):=by
      rw [← Rat.intCast_natCast,← Rat.intCast_neg]; congr 1; omega
     rw [Rat.natCast_mul,e,Rat.intCast_neg,Rat.intCast_mul,← hu,← h1]; grind
   · rw [Int.natAbs_neg,Int.natAbs_mul]
     exact Nat.le_trans (Nat.mul_le_mul hyb hub) (by omega)
 · refine ⟨y*u,⟨Nat.mul_pos hD0 hN,?_⟩,?_⟩
   · have e:((D.natAbs:Nat):Rat)=(D:Rat):=by
      rw [← Rat.intCast_natCast]; congr 1; omega
     rw [Rat.natCast_mul,e,Rat.intCast_mul,← hu,← h1]; grind
   · rw [Int.natAbs_mul]
     exact Nat.le_trans (Nat.mul_le_mul hyb hub) (by omega)
theorem GI.parts {P:Rat→Prop} {F:Nat→Nat} (hF : ∀ n M,(∀ c r,c<n→r<n→P (M c r))→Zq (F n) (det n M)) {m k j N B X:Nat} {T0 S:Wp} {π:Nat→Nat} (g:GI m T0 j S π) (hjk:j≤k) (hN:0<N)
  (hP : ∀ i c,i<m→c<k→P (T0 i c)) (hR : ∀ i,i<m→Zq B (T0 i k*N)) (hX1 : ∀ n,n≤k→F n*N≤X) (hX2 : ∀ n,n≤k→(n+1)*(B*F n)≤X) :
  ∃ D,0<D∧D≤F j*N∧∀ i c,i<m→c≤k→∃ x:Int,Rp D x (S i c)∧x.natAbs≤X:=by
 have hj:=g.jm
 obtain ⟨d,hd,hdb⟩:=hF j (fun c r=>T0 (π r) c) fun c r hc hr=>hP _ _ (g.lt r (by omega)) (by omega)
 have hd0:d≠0:=fun h=>g.dt (by rw [hd,h]; rfl)
 refine ⟨d.natAbs*N,Nat.mul_pos (by omega) hN,Nat.mul_le_mul_right _ hdb,fun i c hi hc=>?_⟩
 by_cases hcj:c<j
 · -- a column that is done
   rw [g.unit i c hi hcj]
   have hX:=hX1 j hjk
   have hdX:d.natAbs*N≤X:=Nat.le_trans (Nat.mul_le_mul_right _ hdb) hX
   by_cases h1:i=c
   · refine ⟨((d.natAbs*N:Nat):Int),⟨Nat.mul_pos (by omega) hN,?_⟩,by rw [Int.natAbs_natCast]; exact hdX⟩
     rw [if_pos h1,Rat.one_mul,Rat.intCast_natCast]
   · refine ⟨0,⟨Nat.mul_pos (by omega) hN,?_⟩,by simp⟩
     rw [if_neg h1,Rat.zero_mul]; rfl
 by_cases hij:i<j
 · -- a pivot's row
   have hcr:=g.cramer (c:=c) hij
   rw [hd] at hcr
   obtain ⟨n,rfl⟩ : ∃ n,j=n+1:=⟨j-1,by omega⟩
   have hbl : ∀ c',c' + 1<n+1→bring i (c' + 1)<n+1:=fun c' hc'=>by
    simp only [bring]; split
    · omega
    · split <;> omega
   have key:Zq X (S i c*(d:Rat)*(N:Rat)*sgn i):=by
    have e:S i c*(d:Rat)*(N:Rat)*sgn i=(N:Rat)*det (n+1) (fun c' r=>T0 (π r) (if c' = 0 then c else bring i c')):=by rw [hcr]; grind
    rw [e]
    by_cases hck:c=k
    · subst hck
      have e2:(N:Rat)*det (n+1) (fun c' r=>T0 (π r) (if c' = 0 then c else bring i c'))=det (n+1) (fun c'=>if c' = 0 then (fun r=>(N:Rat)*T0 (π r) c) else fun r=>T0 (π r) (bring i c')):=by
       rw [det_scale (fun c' r=>T0 (π r) (bring i c')) (fun r=>T0 (π r) c) (N:Rat)]
       congr 1
      rw [e2]
      refine (det_Zq (b0:=B) (F:=F n) (fun r hr=>?_) fun i' hi'=>hF n _ fun c' r hc' hr=>?_).mono (hX2 n (by omega))
      · simp only [if_true]; rw [Rat.mul_comm]; exact hR _ (g.lt r (by omega))
      · simp only [show ¬ (c' + 1=0) by omega,if_false]
        exact hP _ _ (g.lt _ (by have:=skp_lt (i:=i') hr; omega)) (by have:=hbl c' (by omega); omega)
    · refine Zq.mono (Zq.mul ⟨(N:Int),(Rat.intCast_natCast N).symm,Nat.le_refl _⟩ (hF (n+1) _ fun c' r hc' hr=>?_)) (by rw [Int.natAbs_natCast,Nat.mul_comm]; exact hX1 (n+1) hjk)
      refine hP _ _ (g.lt r (by omega)) ?_
      by_cases h0:c' = 0
      · rw [if_pos h0]; omega
      · rw [if_neg h0]
        obtain ⟨c',rfl⟩ : ∃ t,c' = t+1:=⟨c' - 1,by omega⟩
        have:=hbl c' hc'; omega
   exact Zq.rp (z:=0) hd0 hN (Zq.sgn i) key (sgn_sq i)
 · -- a row below
   have hmn:=g.minor (c:=c) hi (by omega)
   rw [hd] at hmn
   have key:Zq X (S i c*(d:Rat)*(N:Rat)*sgn j):=by
    have e:S i c*(d:Rat)*(N:Rat)*sgn j=(N:Rat)*det (j+1) (fun c' r=>T0 (if r<j then π r else π i) (if c' = 0 then c else c' - 1)):=by rw [hmn]; grind
    rw [e]
    have hρ : ∀ r,(if r<j then π r else π i)<m:=fun r=>by
     split
     · exact g.lt r (by omega)
     · exact g.lt i hi
    by_cases hck:c=k
    · subst hck
      have e2:(N:Rat)*det (j+1) (fun c' r=>T0 (if r<j then π r else π i) (if c' = 0 then c else c' - 1))=det (j+1) (fun c'=>if c' = 0 then (fun r=>(N:Rat)*T0 (if r<j then π r else π i) c) else fun r=>T0 (if r<j then π r else π i) (c' - 1)):=by
       rw [det_scale (fun c' r=>T0 (if r<j then π r else π i) (c' - 1)) (fun r=>T0 (if r<j then π r else π i) c) (N:Rat)]
       congr 1
      rw [e2]
      refine (det_Zq (b0:=B) (F:=F j) (fun r hr=>?_) fun i' hi'=>hF j _ fun c' r hc' hr=>?_).mono (hX2 j hjk)
      · simp only [if_true]; rw [Rat.mul_comm]; exact hR _ (hρ r)
      · simp only [show ¬ (c' + 1=0) by omega,if_false]
        exact hP _ _ (hρ _) (by omega)
    · refine Zq.mono (Zq.mul ⟨(N:Int),(Rat.intCast_natCast N).symm,Nat.le_refl _⟩ (hF (j+1) _ fun c' r hc' hr=>?_)) (by rw [Int.natAbs_natCast,Nat.mul_comm]; exact hX1 (j+1) (by omega))
      refine hP _ _ (hρ r) ?_
      by_cases h0:c' = 0
      · rw [if_pos h0]; omega
      · rw [if_neg h0]; omega
   exact Zq.rp (z:=0) hd0 hN (Zq.sgn j) key (sgn_sq j)
end Bq
namespace Bq
def Nul (m K:Nat) (T:Wp) (y:Nat→Rat):Prop:=∀ i,i<m→Zv (fun c=>T i c*y c) K=0
theorem nul_swap {m K a p:Nat} {T:Wp} {y:Nat→Rat} (ha:a<m) (hp:p<m):Nul m K (Vz a p T) y↔Nul m K T y:=by
 have key : ∀ T:Wp,Nul m K T y→Nul m K (Vz a p T) y:=fun T h i hi=>by
  by_cases h1:i=a
  · subst h1; rw [swapT_at]; exact h p hp
  · by_cases h2:i=p
    · have:Vz a p T i=T a:=by simp only [Vz,h1,if_false]; rw [if_pos h2]
      rw [this]; exact h a ha
    · have:Vz a p T i=T i:=by simp only [Vz,h1,h2,if_false]
      rw [this]; exact h i hi
 refine ⟨fun h=>?_,key T⟩
 have h2:=key _ h
 have e:Vz a p (Vz a p T)=T:=by
  funext i
  simp only [Vz]
  by_cases h1:i=a
  · subst h1
    simp only [if_true]
    by_cases h3:p=i
    · rw [if_pos h3,h3]
    · rw [if_neg h3]
  · simp only [h1,if_false]
    by_cases h3:i=p
    · subst h3; simp
    · simp [h3]
 rwa [e] at h2
theorem nul_norm {m K a:Nat} {T:Wp} {y:Nat→Rat} (ha:a<m) (h0:T a a≠0):Nul m K (normT a T) y↔Nul m K T y:=by
 have e:Zv (fun c=>normT a T a c*y c) K=(T a a)⁻¹*Zv (fun c=>T a c*y c) K:=by
  rw [← Yw]
  refine Zk fun c hc=>?_
  simp only [normT,if_true,Rat.div_def]; grind
 have e2 : ∀ i,i≠a→Zv (fun c=>normT a T i c*y c) K=Zv (fun c=>T i c*y c) K:=fun i hi=>Zk fun c hc=>by simp only [normT,hi,if_false]
 constructor
 · intro h i hi
   by_cases h1:i=a
   · subst h1
     have:=h i hi
     rw [e] at this
     rcases Rat.mul_eq_zero.1 this with h2 | h2
     · have h3:=Rat.mul_inv_cancel _ h0
       rw [h2,Rat.mul_zero] at h3; exact absurd h3 (by decide +kernel)
     · exact h2
   · rw [← e2 i h1]; exact h i hi
 · intro h i hi
   by_cases h1:i=a
   · subst h1; rw [e,h i hi,Rat.mul_zero]
   · rw [e2 i h1]; exact h i hi
theorem nul_elim {m K a:Nat} {T:Wp} {y:Nat→Rat} (ha:a<m):Nul m K (elimT a T) y↔Nul m K T y:=by
 have e : ∀ i,i≠a→Zv (fun c=>elimT a T i c*y c) K=Zv (fun c=>T i c*y c) K+(-(T i a))*Zv (fun c=>T a c*y c) K:=fun i hi=>by
  rw [← Yw,← Xw]
  refine Zk fun c hc=>?_
  simp only [elimT,hi,if_false]; grind
 have e2:Zv (fun c=>elimT a T a c*y c) K=Zv (fun c=>T a c*y c) K:=Zk fun c hc=>by simp only [elimT,if_true]
 constructor
 · intro h i hi
   have h2:=h a ha
   rw [e2] at h2
   by_cases h1:i=a
   · subst h1; exact h2
   · have:=h i hi
     rw [e i h1,h2,Rat.mul_zero,Rat.add_zero] at this; exact this
 · intro h i hi
   by_cases h1:i=a
   · subst h1; rw [e2]; exact h i hi
   · rw [e i h1,h i hi,h a ha,Rat.mul_zero,Rat.add_zero]
theorem nul_run {m K:Nat} {T:Wp} {y:Nat→Rat} : ∀ {j:Nat} {S:Wp},Xp m T j=some S→(Nul m K S y↔Nul m K T y)
 | 0,S,h=>by cases h; exact Iff.rfl
 | j+1,S,h=>by
   rw [Xp] at h
   cases hr:Xp m T j with
   | none=>rw [hr] at h; cases h
   | some S1 =>
     rw [hr] at h
     simp only [Option.bind_some,Vg] at h
     cases hf:findP m j S1 with
     | none=>rw [hf] at h; cases h
     | some p =>
       rw [hf] at h
       cases h
       obtain ⟨h1,h2,h3,_⟩:=findP_some hf
       have hj:j<m:=by omega
       rw [nul_elim hj,nul_norm hj (by rw [swapT_at]; exact h3),nul_swap hj h1]
       exact nul_run hr
def Sol (m k:Nat) (T:Wp) (x:Nat→Rat):Prop:=∀ i,i<m→Zv (fun c=>T i c*x c) k=T i k
def Ker (m k:Nat) (T:Wp) (x:Nat→Rat):Prop:=∀ i,i<m→Zv (fun c=>T i c*x c) k=0
def ext1 (k:Nat) (x:Nat→Rat) (s:Rat):Nat→Rat:=fun c=>if c<k then x c else s
theorem sum_ext1 (T:Wp) (i k:Nat) (x:Nat→Rat) (s:Rat):Zv (fun c=>T i c*ext1 k x s c) (k+1)=Zv (fun c=>T i c*x c) k+T i k*s:=by
 rw [Zv]
 have e:ext1 k x s k=s:=by simp [ext1]
 simp only [e]
 congr 1
 exact Zk fun c hc=>by simp only [ext1,hc,if_true]
theorem sol_nul {m k:Nat} {T:Wp} {x:Nat→Rat}:Sol m k T x↔Nul m (k+1) T (ext1 k x (-1)):=by
 constructor
 · intro h i hi
   rw [sum_ext1,h i hi]; grind
 · intro h i hi
   have:=h i hi
   rw [sum_ext1] at this
   generalize Zv (fun c=>T i c*x c) k=A at *
   grind
theorem ker_nul {m k:Nat} {T:Wp} {x:Nat→Rat}:Ker m k T x↔Nul m (k+1) T (ext1 k x 0):=by
 constructor
 · intro h i hi
   rw [sum_ext1,h i hi]; grind
 · intro h i hi
   have:=h i hi
   rw [sum_ext1] at this
   generalize Zv (fun c=>T i c*x c) k=A at *
   grind
theorem sum_unit {n t:Nat} (x:Nat→Rat) (h:t<n):Zv (fun c=>(if t=c then 1 else 0)*x c) n=x t:=by
 rw [← sumTo_pick x h]
 refine Zk fun c hc=>?_
 by_cases h1:t=c
 · rw [if_pos h1,if_pos h1.symm,Rat.one_mul]
 · rw [if_neg h1,if_neg (Ne.symm h1),Rat.zero_mul]
theorem solve_some {m k:Nat} {T:Wp} {xs:List Rat} (h:Wu m k T=some xs):xs.length=k∧∀ y,Sol m k T y↔∀ t,t<k→y t=xs.getD t 0:=by
 refine ⟨solveT_len h,fun y=>?_⟩
 rw [Wu] at h
 cases hr:Xp m T k with
 | none=>rw [hr] at h; cases h
 | some S =>
   rw [hr] at h
   simp only [Option.bind_some] at h
   split at h
   · cases h
   · next hrest =>
     cases h
     obtain ⟨π,g⟩:=elim_gi hr
     rw [sol_nul,← nul_run hr,← sol_nul]
     have hu : ∀ i,i<m→Zv (fun c=>S i c*y c) k=if i<k then y i else 0:=fun i hi=>by
      rw [Zk (g:=fun c=>(if i=c then 1 else 0)*y c) fun c hc=>by rw [g.unit i c hi hc]]
      by_cases h1:i<k
      · rw [if_pos h1,sum_unit y h1]
      · rw [if_neg h1]
        exact Wd fun c hc=>by rw [if_neg (by omega),Rat.zero_mul]
     have hget : ∀ t,t<k→((List.range k).map fun i=>S i k).getD t 0=S t k:=fun t ht=>by simp [List.getD,ht]
     constructor
     · intro h t ht
       rw [hget t ht]
       have:=h t (by have:=g.jm; omega)
       rw [hu t (by have:=g.jm; omega),if_pos ht] at this
       exact this
     · intro h i hi
       rw [hu i hi]
       by_cases h1:i<k
       · rw [if_pos h1,h i h1,hget i h1]
       · rw [if_neg h1]
         have : ¬ restT m k S=true:=hrest
         rw [restT,List.any_eq_true] at this
         rcases Decidable.em (S i k=0) with h2 | h2
         · exact h2.symm
         · exact absurd ⟨i,List.mem_range.2 hi,by simp [h2]; omega⟩ this
theorem run_none {m k:Nat} {T:Wp} : ∀ {j:Nat},j≤k→Xp m T j=none→∃ δ,Ker m k T δ∧∃ c,c<k∧δ c≠0
 | 0,_,h=>by cases h
 | j+1,hj,h=>by
   rw [Xp] at h
   cases hr:Xp m T j with
   | none=>exact run_none (by omega) hr
   | some S =>
     rw [hr] at h
     simp only [Option.bind_some,Vg] at h
     cases hf:findP m j S with
     | some p=>rw [hf] at h; cases h
     | none =>
       obtain ⟨π,g⟩:=elim_gi hr
       have h0 : ∀ i,i<m→j≤i→S i j=0:=fun i hi hji=>by
        rw [findP,List.find?_eq_none] at hf
        have:=hf i (List.mem_range.2 hi)
        simpa [hji] using this
       refine ⟨fun c=>if c<j then-S c j else if c=j then 1 else 0,?_,j,by omega,by simp⟩
       rw [ker_nul,← nul_run hr,← ker_nul]
       intro i hi
       have e : ∀ K,K≤k→Zv (fun c=>S i c*(if c<j then-S c j else if c=j then 1 else 0)) K=if j<K then Zv (fun c=>S i c*(- S c j)) j+S i j else Zv (fun c=>S i c*(- S c j)) K:=by
        intro K
        induction K with
        | zero=>intro _; rw [if_neg (by omega)]; rfl
        | succ K ih =>
          intro hK
          rw [Zv,ih (by omega)]
          rcases Nat.lt_trichotomy K j with h1 | h1 | h1
          · rw [if_neg (show ¬ j<K by omega),if_pos h1,if_neg (show ¬ j<K+1 by omega)]; rfl
          · subst h1
            rw [if_neg (show ¬ K<K by omega),if_pos (show K<K+1 by omega),if_neg (show ¬ K<K by omega),if_pos rfl,Rat.mul_one]
          · rw [if_pos (show j<K by omega),if_pos (show j<K+1 by omega),if_neg (show ¬ K<j by omega),if_neg (show ¬ K=j by omega),Rat.mul_zero,Rat.add_zero]
       rw [e k (Nat.le_refl _),if_pos (by omega)]
       rw [Zk (g:=fun c=>(if i=c then 1 else 0)*(- S c j)) fun c hc=>by rw [g.unit i c hi hc]]
       by_cases h1:i<j
       · rw [sum_unit (fun c=>- S c j) h1]; grind
       · rw [Wd fun c hc=>by rw [if_neg (by omega),Rat.zero_mul],h0 i hi (by omega),Rat.zero_add]
theorem solve_none {m k:Nat} {T:Wp} (h:Wu m k T=none):(∀ y,¬ Sol m k T y)∨∃ δ,Ker m k T δ∧∃ c,c<k∧δ c≠0:=by
 rw [Wu] at h
 cases hr:Xp m T k with
 | none=>exact .inr (run_none (Nat.le_refl _) hr)
 | some S =>
   rw [hr] at h
   simp only [Option.bind_some] at h
   split at h
   · next hrest =>
     refine .inl fun y hy=>?_
     obtain ⟨π,g⟩:=elim_gi hr
     rw [sol_nul,← nul_run hr,← sol_nul] at hy
     rw [restT,List.any_eq_true] at hrest
     obtain ⟨i,hi,h1⟩:=hrest
     simp only [Bool.and_eq_true,decide_eq_true_eq] at h1
     have:=hy i (List.mem_range.1 hi)
     rw [Wd fun c hc=>by rw [g.unit i c (List.mem_range.1 hi) hc,if_neg (by omega),Rat.zero_mul]] at this
     exact h1.2 this.symm
   · cases h
theorem Sol.add {m k:Nat} {T:Wp} {x δ:Nat→Rat} (h:Sol m k T x) (hd:Ker m k T δ) (s:Rat):Sol m k T (fun c=>x c+s*δ c):=fun i hi=>by
 rw [Zk (g:=fun c=>T i c*x c+s*(T i c*δ c)) fun c hc=>by grind,Xw,Yw,h i hi,hd i hi,Rat.mul_zero,Rat.add_zero]
theorem solve_wide {m k:Nat} {T:Wp} (h:m<k):Wu m k T=none:=by
 have key : ∀ j,m<j→Xp m T j=none:=by
  intro j
  induction j with
  | zero=>intro h; omega
  | succ j ih =>
    intro hj
    rw [Xp]
    by_cases h1:m<j
    · rw [ih h1]; rfl
    · obtain rfl:j=m:=by omega
      cases hr:Xp j T j with
      | none=>rfl
      | some S =>
        simp only [Option.bind_some,Vg]
        have:findP j j S=none:=find_none fun i hi=>by simp; omega
        rw [this]; rfl
 rw [Wu,key k h]; rfl
end Bq
namespace Bq
theorem bitQ_01 (e w:Nat):is01 (bitQ e w):=by rw [bitQ]; split; exact .inr rfl; exact .inl rfl
theorem bitQ_all {n w:Nat} (h:w<n):bitQ (2 ^ n-1) w=1:=by rw [bitQ,Nat.testBit_two_pow_sub_one]; simp [h]
theorem Xk {set w k:Nat} (hw:w<k) (hb:set.testBit w=true):(Zj set w).length<(Zj set k).length:=by
 induction k with
 | zero=>omega
 | succ k ih =>
   rw [Ws,List.length_append]
   by_cases h1:w=k
   · subst h1; rw [hb]; simp
   · have:=ih (by omega)
     omega
theorem Wz {set w k:Nat} (hw:w<k) (hb:set.testBit w=true):(Zj set k).getD (Zj set w).length 0=w:=by
 induction k with
 | zero=>omega
 | succ k ih =>
   rw [Ws,List.getD]
   by_cases h1:w=k
   · subst h1; rw [hb,List.getElem?_append_right (Nat.le_refl _)]; simp
   · have:=Xk (show w<k by omega) hb
     rw [List.getElem?_append_left this]
     exact ih (by omega)
theorem Xo {set k:Nat} : ∀ {c:Nat},c<(Zj set k).length→(Zj set ((Zj set k).getD c 0)).length=c∧(Zj set k).getD c 0<k∧set.testBit ((Zj set k).getD c 0)=true:=by
 induction k with
 | zero=>intro c h; simp [Zj] at h
 | succ k ih =>
   intro c h
   rw [Ws] at h ⊢
   rw [List.getD]
   by_cases h1:c<(Zj set k).length
   · rw [List.getElem?_append_left h1]
     obtain ⟨a,b,d⟩:=ih h1
     rw [List.getD] at a b d
     exact ⟨a,by omega,d⟩
   · rw [List.length_append] at h
     cases hb:set.testBit k with
     | false=>rw [hb] at h; simp at h; omega
     | true =>
       rw [hb] at h
       simp at h
       obtain rfl:c=(Zj set k).length:=by omega
       rw [List.getElem?_append_right (Nat.le_refl _)]
       simp [hb]
def spr (set:Nat) (x:Nat→Rat) (w:Nat):Rat:=if set.testBit w then x (Zj set w).length else 0
theorem ws_sum (set:Nat) (g:Nat→Nat→Rat) : ∀ k,Zv (fun c=>g c ((Zj set k).getD c 0)) (Zj set k).length=Zv (fun w=>if set.testBit w then g (Zj set w).length w else 0) k
 | 0=>rfl
 | k+1=>by
   have ih:=ws_sum set g k
   rw [Zv,← ih]
   cases hb:set.testBit k with
   | false =>
     have e:Zj set (k+1)=Zj set k:=by rw [Ws,hb]; simp
     rw [e,if_neg (by simp),Rat.add_zero]
   | true =>
     have e:(Zj set (k+1)).length=(Zj set k).length+1:=by rw [Ws,hb]; simp
     rw [e,Zv,if_pos rfl,Wz (Nat.lt_succ_self k) hb]
     congr 1
     refine Zk fun c hc=>?_
     rw [Ws,List.getD,List.getD,List.getElem?_append_left hc]
theorem spreadTo_get {n set:Nat} {x:List Rat} {w:Nat} (hw:w<n) : ∀ k,k≤(Zj set n).length→(Wr n (Zj set n) x k).getD w 0=if set.testBit w=true∧(Zj set w).length<k then x.getD (Zj set w).length 0 else 0
 | 0,_=>by rw [Wr,if_neg (by omega)]; simp [List.getD,hw]
 | k+1,hk=>by
   have ih:=spreadTo_get (set:=set) (x:=x) hw k (by omega)
   obtain ⟨a,b,d⟩:=Xo (set:=set) (k:=n) (c:=k) (by omega)
   rw [Wr,List.getD,List.getElem?_set]
   by_cases h1:(Zj set n).getD k 0=w
   · rw [if_pos h1,h1,Uw,if_pos hw]
     rw [h1] at a d
     rw [if_pos ⟨d,by omega⟩,a]; rfl
   · rw [if_neg h1]
     rw [List.getD] at ih
     rw [ih]
     by_cases h2:set.testBit w=true∧(Zj set w).length<k
     · rw [if_pos h2,if_pos ⟨h2.1,by omega⟩]
     · rw [if_neg h2,if_neg]
       rintro ⟨h3,h4⟩
       have h5:(Zj set w).length=k:=by
        rcases Nat.lt_or_ge (Zj set w).length k with h | h
        · exact absurd ⟨h3,h⟩ h2
        · omega
       have:=Wz hw h3
       rw [h5] at this
       exact h1 this
theorem spread_spr {n set:Nat} {x:List Rat} {w:Nat} (hw:w<n):(Wr n (Xd n set) x (Xd n set).length).getD w 0=spr set (fun c=>x.getD c 0) w:=by
 rw [Xd,spreadTo_get hw _ (Nat.le_refl _),spr]
 by_cases hb:set.testBit w=true
 · rw [if_pos ⟨hb,Xk hw hb⟩,if_pos hb]
 · rw [if_neg (fun h=>hb h.1),if_neg hb]
def evq (n:Nat) (p:Nat→Rat) (e:Nat):Rat:=Zv (fun w=>bitQ e w*p w) n
structure Feas (n:Nat) (l:List (Int×Int)) (p:Nat→Rat):Prop where
 nn : ∀ w,w<n→0≤p w
 one:Zv p n=1
 bet : ∀ i,i<l.length→evq n p (l.getD i (0,0)).1.toNat=Rat.divInt (l.getD i (0,0)).2 12
theorem sys_row0 (n:Nat) (l:List (Int×Int)) (set:Nat) (x:Nat→Rat):Zv (fun c=>sysB n l (Xd n set) 0 c*x c) (Xd n set).length=Zv (spr set x) n:=by
 have h:=ws_sum set (fun c w=>bitQ (2 ^ n-1) w*x c) n
 rw [Xd]
 rw [← show Zv (fun c=>bitQ (2 ^ n-1) ((Zj set n).getD c 0)*x c) (Zj set n).length=_ from Zk fun c hc=>by simp only [sysB,if_true,hc],h]
 refine Zk fun w hw=>?_
 rw [spr,bitQ_all hw,Rat.one_mul]
theorem sys_row (n:Nat) (l:List (Int×Int)) (set:Nat) (x:Nat→Rat) (i:Nat):Zv (fun c=>sysB n l (Xd n set) (i+1) c*x c) (Xd n set).length=evq n (spr set x) (l.getD i (0,0)).1.toNat:=by
 have h:=ws_sum set (fun c w=>bitQ (l.getD i (0,0)).1.toNat w*x c) n
 rw [Xd]
 rw [← show Zv (fun c=>bitQ (l.getD i (0,0)).1.toNat ((Zj set n).getD c 0)*x c) (Zj set n).length=_ from Zk fun c hc=>by simp only [sysB,show ¬ (i+1=0) by omega,if_false,hc,if_true,Nat.add_sub_cancel],h,evq]
 refine Zk fun w hw=>?_
 rw [spr]
 split
 · rfl
 · rw [Rat.mul_zero]
theorem sys_right (n:Nat) (l:List (Int×Int)) (ws:List Nat):sysB n l ws 0 ws.length=1∧∀ i,sysB n l ws (i+1) ws.length=Rat.divInt (l.getD i (0,0)).2 12 :=
 ⟨by simp [sysB],fun i=>by simp [sysB]⟩
theorem sol_iff {n:Nat} {l:List (Int×Int)} {set:Nat} {x:Nat→Rat}:Sol (l.length+1) (Xd n set).length (sysB n l (Xd n set)) x↔Zv (spr set x) n=1∧∀ i,i<l.length→evq n (spr set x) (l.getD i (0,0)).1.toNat=Rat.divInt (l.getD i (0,0)).2 12:=by
 obtain ⟨r0,r1⟩:=sys_right n l (Xd n set)
 constructor
 · intro h
   refine ⟨by rw [← sys_row0 n l,h 0 (by omega),r0],fun i hi=>by rw [← sys_row n l,h (i+1) (by omega),r1]⟩
 · rintro ⟨h1,h2⟩ i hi
   cases i with
   | zero=>rw [sys_row0,h1,r0]
   | succ i=>rw [sys_row,h2 i (by omega),r1]
theorem ker_iff {n:Nat} {l:List (Int×Int)} {set:Nat} {x:Nat→Rat} (h:Ker (l.length+1) (Xd n set).length (sysB n l (Xd n set)) x):Zv (spr set x) n=0∧∀ i,i<l.length→evq n (spr set x) (l.getD i (0,0)).1.toNat=0 :=
 ⟨by rw [← sys_row0 n l,h 0 (by omega)],fun i hi=>by rw [← sys_row n l,h (i+1) (by omega)]⟩
theorem mem_cornersTo {n:Nat} {l:List (Int×Int)} {b:List Rat} : ∀ {s:Nat},b∈Ve n l s↔∃ set,1≤set∧set≤s∧Jb n l set=some b
 | 0=>by
   rw [Ve]
   constructor
   · intro h; cases h
   · rintro ⟨set,h1,h2,_⟩; omega
 | s+1=>by
   rw [Ve,List.mem_append,mem_cornersTo]
   constructor
   · rintro (⟨set,h1,h2,h3⟩ | h)
     · exact ⟨set,h1,by omega,h3⟩
     · exact ⟨s+1,by omega,Nat.le_refl _,by simpa using h⟩
   · rintro ⟨set,h1,h2,h3⟩
     by_cases h4:set=s+1
     · subst h4; exact .inr (by simp [h3])
     · exact .inl ⟨set,h1,by omega,h3⟩
theorem mem_corners {n:Nat} {l:List (Int×Int)} {b:List Rat}:b∈Wl n l↔∃ set,1≤set∧set<2 ^ n∧Jb n l set=some b:=by
 rw [Wl,mem_cornersTo]
 have:=Nat.two_pow_pos n
 constructor
 · rintro ⟨set,h1,h2,h3⟩; exact ⟨set,h1,by omega,h3⟩
 · rintro ⟨set,h1,h2,h3⟩; exact ⟨set,h1,by omega,h3⟩
theorem corner_feas {n:Nat} {l:List (Int×Int)} {set:Nat} {b:List Rat} (h:Jb n l set=some b):b.length=n∧Feas n l (fun w=>b.getD w 0):=by
 rw [Jb] at h
 cases hs:Wu (l.length+1) (Xd n set).length (sysB n l (Xd n set)) with
 | none=>rw [hs] at h; cases h
 | some xs =>
   rw [hs] at h
   simp only [Option.bind_some] at h
   split at h
   · cases h
   · next hneg =>
     cases h
     obtain ⟨hl,hx⟩:=solve_some hs
     have hsol:=sol_iff.1 ((hx (fun t=>xs.getD t 0)).2 fun t ht=>rfl)
     have e : ∀ w,w<n→(Wr n (Xd n set) xs (Xd n set).length).getD w 0=spr set (fun c=>xs.getD c 0) w:=fun w hw=>spread_spr hw
     refine ⟨Uw _ _ _ _,fun w hw=>?_,?_,fun i hi=>?_⟩
     · rw [e w hw,spr]
       split
       · next hb =>
         have hlt:=Xk hw hb
         have hlt2:(Zj set w).length<xs.length:=by rw [hl]; exact hlt
         rw [List.any_eq_true] at hneg
         rw [List.getD,List.getElem?_eq_getElem hlt2,Option.getD_some,← Rat.not_lt]
         intro hc
         exact hneg ⟨_,List.getElem_mem hlt2,by simpa using hc⟩
       · exact Rat.le_refl
     · rw [Zk fun w hw=>e w hw]; exact hsol.1
     · rw [evq,Zk (g:=fun w=>bitQ (l.getD i (0,0)).1.toNat w*spr set (fun c=>xs.getD c 0) w) fun w hw=>by rw [e w hw]]
       exact hsol.2 i hi
def msk (p:Nat→Rat):Nat→Nat
 | 0=>0
 | k+1=>msk p k ||| if p k=0 then 0 else 2 ^ k
theorem msk_bit (p:Nat→Rat) (w:Nat) : ∀ k,(msk p k).testBit w=true↔w<k∧p w≠0
 | 0=>by simp [msk]
 | k+1=>by
   rw [msk,Nat.testBit_or,Bool.or_eq_true,msk_bit p w k]
   by_cases h:p k=0
   · rw [if_pos h,Nat.zero_testBit]
     constructor
     · rintro (⟨h1,h2⟩ | h1)
       · exact ⟨by omega,h2⟩
       · cases h1
     · rintro ⟨h1,h2⟩
       refine .inl ⟨?_,h2⟩
       rcases Nat.lt_or_ge w k with h3 | h3
       · exact h3
       · rw [show w=k by omega] at h2; exact absurd h h2
   · rw [if_neg h,Nat.testBit_two_pow,decide_eq_true_eq]
     constructor
     · rintro (⟨h1,h2⟩ | h1)
       · exact ⟨by omega,h2⟩
       · subst h1; exact ⟨by omega,h⟩
     · rintro ⟨h1,h2⟩
       by_cases h3:k=w
       · exact .inr h3
       · exact .inl ⟨by omega,h2⟩
theorem msk_lt (p:Nat→Rat) (n:Nat):msk p n<2 ^ n:=Nat.lt_pow_two_of_testBit _ fun i hi=>by
 rw [← Bool.not_eq_true,msk_bit]; omega
def cntN (p:Nat→Rat):Nat→Nat
 | 0=>0
 | k+1=>cntN p k+if p k=0 then 0 else 1
theorem cntN_lt {p q:Nat→Rat} {w:Nat} : ∀ n,(∀ v,v<n→q v≠0→p v≠0)→(w<n→q w=0∧p w≠0→cntN q n<cntN p n)∧cntN q n≤cntN p n
 | 0,_=>⟨fun h=>by omega,Nat.le_refl _⟩
 | n+1,h=>by
   obtain ⟨h1,h2⟩:=cntN_lt (w:=w) n fun v hv=>h v (by omega)
   have h3:=h n (by omega)
   simp only [cntN]
   refine ⟨fun hw hq=>?_,?_⟩
   · by_cases hwn:w=n
     · subst hwn
       rw [if_pos hq.1,if_neg hq.2]; omega
     · have:=h1 (by omega) hq
       by_cases h4:q n=0
       · rw [if_pos h4]; split <;> omega
       · rw [if_neg h4,if_neg (h3 h4)]; omega
   · by_cases h4:q n=0
     · rw [if_pos h4]; split <;> omega
     · rw [if_neg h4,if_neg (h3 h4)]; omega
theorem least_of (P:Nat→Prop) (r:Nat→Rat) : ∀ n,(∃ w,w<n∧P w)→∃ w,w<n∧P w∧∀ v,v<n→P v→r w≤r v
 | 0,⟨w,h,_⟩=>by omega
 | n+1,⟨w,h,hp⟩=>by
   by_cases hex : ∃ w,w<n∧P w
   · obtain ⟨u,h1,h2,h3⟩:=least_of P r n hex
     by_cases hn:P n∧r n<r u
     · refine ⟨n,by omega,hn.1,fun v hv hpv=>?_⟩
       by_cases hvn:v=n
       · subst hvn; exact Rat.le_refl
       · exact Rat.le_trans (Rat.le_of_lt hn.2) (h3 v (by omega) hpv)
     · refine ⟨u,by omega,h2,fun v hv hpv=>?_⟩
       by_cases hvn:v=n
       · subst hvn
         rw [← Rat.not_lt]
         exact fun hc=>hn ⟨hpv,hc⟩
       · exact h3 v (by omega) hpv
   · have hwn:w=n:=by
      rcases Nat.lt_or_ge w n with h1 | h1
      · exact absurd ⟨w,h1,hp⟩ hex
      · omega
     subst hwn
     refine ⟨w,by omega,hp,fun v hv hpv=>?_⟩
     by_cases hvn:v=w
     · subst hvn; exact Rat.le_refl
     · exact absurd ⟨v,by omega,hpv⟩ hex
theorem neg_of_sum {n:Nat} {d:Nat→Rat} (hs:Zv d n=0) (hne : ∃ w,w<n∧d w≠0) : ∃ w,w<n∧d w<0:=by
 by_cases h : ∃ w,w<n∧d w<0
 · exact h
 · exfalso
   have h0 : ∀ w,w<n→0≤d w:=fun w hw=>by
    rw [← Rat.not_lt]; exact fun hc=>h ⟨w,hw,hc⟩
   obtain ⟨w,hw,hd⟩:=hne
   have:=sumTo_one hw h0
   rw [hs] at this
   exact hd (Rat.le_antisymm this (h0 w hw))
theorem vertex {n:Nat} {l:List (Int×Int)} (f:Nat→Rat) : ∀ (N:Nat) (p:Nat→Rat),cntN p n≤N→Feas n l p→∃ b,b∈Wl n l∧Zv (fun w=>f w*b.getD w 0) n≤Zv (fun w=>f w*p w) n:=by
 intro N
 induction N with
 | zero =>
   intro p hc hp
   exfalso
   have : ∀ k,cntN p k=0→Zv p k=0:=by
    intro k
    induction k with
    | zero=>intro _; rfl
    | succ k ih =>
      intro h
      rw [cntN] at h
      rw [Zv,ih (by omega)]
      by_cases h1:p k=0
      · rw [h1,Rat.zero_add]
      · rw [if_neg h1] at h; omega
   have h1:=hp.one
   rw [this n (by omega)] at h1
   exact absurd h1 (by decide)
 | succ N ih =>
   intro p hc hp
   obtain ⟨set,hset⟩ : ∃ s,msk p n=s:=⟨_,rfl⟩
   have hbit : ∀ w,set.testBit w=true↔w<n∧p w≠0:=fun w=>by rw [← hset]; exact msk_bit p w n
   have hlt:set<2 ^ n:=by rw [← hset]; exact msk_lt p n
   have hpos:1≤set:=by
    rcases Nat.eq_zero_or_pos set with h | h
    · exfalso
      have hz:Zv p n=0:=Wd fun i hi=>by
       rcases Decidable.em (p i=0) with h1 | h1
       · exact h1
       · have:=(hbit i).2 ⟨hi,h1⟩
         rw [h,Nat.zero_testBit] at this; cases this
      rw [hp.one] at hz
      exact absurd hz (by decide)
    · exact h
   have hspr : ∀ w,w<n→spr set (fun c=>p ((Xd n set).getD c 0)) w=p w:=fun w hw=>by
    rw [spr]
    by_cases hb:set.testBit w=true
    · rw [if_pos hb,Xd,Wz hw hb]
    · rw [if_neg hb]
      rcases Decidable.em (p w=0) with h1 | h1
      · exact h1.symm
      · exact absurd ((hbit w).2 ⟨hw,h1⟩) hb
   have hsol:Sol (l.length+1) (Xd n set).length (sysB n l (Xd n set)) (fun c=>p ((Xd n set).getD c 0)):=by
    rw [sol_iff]
    refine ⟨by rw [Zk hspr]; exact hp.one,fun i hi=>?_⟩
    rw [evq,Zk (g:=fun w=>bitQ (l.getD i (0,0)).1.toNat w*p w) fun w hw=>by rw [hspr w hw]]
    exact hp.bet i hi
   cases hs:Wu (l.length+1) (Xd n set).length (sysB n l (Xd n set)) with
   | some xs =>
     obtain ⟨hl,hx⟩:=solve_some hs
     have hxp:=(hx _).1 hsol
     have hcor:Jb n l set=some (Wr n (Xd n set) xs (Xd n set).length):=by
      rw [Jb,hs]
      simp only [Option.bind_some]
      rw [if_neg]
      rw [List.any_eq_true]
      rintro ⟨q,hq,hneg⟩
      obtain ⟨t,ht,rfl⟩:=List.getElem_of_mem hq
      have h1:=hxp t (by omega)
      have h1' : xs.getD t 0=xs[t]:=by rw [List.getD,List.getElem?_eq_getElem ht]; rfl
      rw [h1'] at h1
      simp only [decide_eq_true_eq] at hneg
      rw [← h1] at hneg
      have h2:=Xo (set:=set) (k:=n) (c:=t) (by rw [hl] at ht; exact ht)
      exact absurd (hp.nn _ h2.2.1) (Rat.not_le.2 hneg)
     refine ⟨_,mem_corners.2 ⟨set,hpos,hlt,hcor⟩,?_⟩
     rw [Zk (g:=fun w=>f w*p w) fun w hw=>by
      rw [spread_spr hw,← hspr w hw,spr,spr]
      by_cases hb:set.testBit w=true
      · rw [if_pos hb,if_pos hb,hxp _ (Xk hw hb)]
      · rw [if_neg hb,if_neg hb]]
     exact Rat.le_refl
   | none =>
     rcases solve_none hs with h1 | ⟨δ,hk,c,hcl,hd⟩
     · exact absurd hsol (h1 _)
     · obtain ⟨k1,k2⟩:=ker_iff hk
       obtain ⟨i1,i2,i3⟩:=Xo (set:=set) (k:=n) (c:=c) hcl
       -- the side to which it does not grow
       obtain ⟨d,hd1,hd2,hd3,hd4,hd5⟩ : ∃ d:Nat→Rat,Zv d n=0∧(∀ i,i<l.length→evq n d (l.getD i (0,0)).1.toNat=0)∧(∀ w,w<n→p w=0→d w=0)∧(∃ w,w<n∧d w≠0)∧Zv (fun w=>f w*d w) n≤0:=by
        have z0 : ∀ w,w<n→p w=0→spr set δ w=0:=fun w hw h0=>by
         rw [spr,if_neg]
         intro hb
         exact ((hbit w).1 hb).2 h0
        have n0:spr set δ ((Zj set n).getD c 0)≠0:=by rw [spr,if_pos i3,i1]; exact hd
        by_cases hsg:Zv (fun w=>f w*spr set δ w) n≤0
        · exact ⟨spr set δ,k1,k2,z0,⟨_,i2,n0⟩,hsg⟩
        · refine ⟨fun w=>-1*spr set δ w,by rw [Yw,k1,Rat.mul_zero],fun i hi=>?_,fun w hw h0=>by simp only [z0 w hw h0,Rat.mul_zero],⟨_,i2,fun h=>n0 (by grind)⟩,?_⟩
          · rw [evq,Zk (g:=fun w=>-1*(bitQ (l.getD i (0,0)).1.toNat w*spr set δ w)) fun w hw=>by grind,Yw]
            have:=k2 i hi
            rw [evq] at this
            rw [this,Rat.mul_zero]
          · rw [Zk (g:=fun w=>-1*(f w*spr set δ w)) fun w hw=>by grind,Yw]
            have:=Rat.not_le.1 hsg
            generalize Zv (fun w=>f w*spr set δ w) n=A at *
            grind
       obtain ⟨w0,hw0,hneg,hleast⟩:=least_of (fun w=>d w<0) (fun w=>p w / (-(d w))) n (neg_of_sum hd1 hd4)
       obtain ⟨t,ht⟩ : ∃ t,p w0 / (-(d w0))=t:=⟨_,rfl⟩
       have hdp:0 < -(d w0):=by grind
       have hte:t*(-(d w0))=p w0:=by rw [← ht]; exact Rat.div_mul_cancel (fun h=>by rw [h] at hdp; exact absurd hdp (by decide))
       have ht0:0≤t:=by
        rw [← Rat.not_lt]
        intro hc
        have:=(Rat.mul_lt_mul_right hdp).2 hc
        rw [Rat.zero_mul,hte] at this
        exact absurd (hp.nn w0 hw0) (Rat.not_le.2 this)
       have hpt:p w0+t*d w0=0:=by
        have:t*(-(d w0))=p w0:=by rw [← ht]; exact Rat.div_mul_cancel (fun h=>by rw [h] at hdp; exact absurd hdp (by decide))
        grind
       have hq:Feas n l (fun w=>p w+t*d w):=by
        refine ⟨fun w hw=>?_,by rw [Xw,Yw,hd1,hp.one,Rat.mul_zero,Rat.add_zero],fun i hi=>?_⟩
        · by_cases h1:d w<0
          · have h2:=hleast w hw h1
            rw [ht] at h2
            have h3:0 < -(d w):=by grind
            have h4:t*(-(d w))≤p w:=by
             have h5:=Rat.mul_le_mul_of_nonneg_right h2 (Rat.le_of_lt h3)
             rwa [Rat.div_mul_cancel (fun h=>by rw [h] at h3; exact absurd h3 (by decide))] at h5
            grind
          · exact Rat.add_nonneg (hp.nn w hw) (Rat.mul_nonneg ht0 (Rat.not_lt.1 h1))
        · have h1:=hp.bet i hi
          have h2:=hd2 i hi
          rw [evq] at h1 h2 ⊢
          rw [Zk (g:=fun w=>bitQ (l.getD i (0,0)).1.toNat w*p w+t*(bitQ (l.getD i (0,0)).1.toNat w*d w)) fun w hw=>by grind,Xw,Yw,h1,h2,Rat.mul_zero,Rat.add_zero]
       have hcnt:cntN (fun w=>p w+t*d w) n<cntN p n:=(cntN_lt (w:=w0) n fun v hv hne h0=>hne (by rw [h0,hd3 v hv h0]; grind)).1 hw0 ⟨hpt,fun h0=>by rw [hd3 w0 hw0 h0] at hneg; exact absurd hneg (by decide)⟩
       obtain ⟨b,hb1,hb2⟩:=ih _ (by omega) hq
       refine ⟨b,hb1,Rat.le_trans hb2 ?_⟩
       rw [Zk (g:=fun w=>f w*p w+t*(f w*d w)) fun w hw=>by grind,Xw,Yw]
       have:t*Zv (fun w=>f w*d w) n≤t*0:=Rat.mul_le_mul_of_nonneg_left hd5 ht0
       rw [Rat.mul_zero] at this
       generalize Zv (fun w=>f w*p w) n=A at *
       generalize t*Zv (fun w=>f w*d w) n=B at *
       grind
end Bq
namespace Bq
structure Sy (m k:Nat) (T:Wp):Prop where
 bit : ∀ i c,i<m→c<k→is01 (T i c)
 right : ∀ i,i<m→Zq 12 (T i k*((12:Nat):Rat))
theorem fac01_le : ∀ n,n≤5→fac01 n≤60:=by decide
theorem fac_bounds : ∀ n,n≤5→fac01 n*12≤8640∧(n+1)*(12*fac01 n)≤8640:=by decide
theorem Sy.parts {m k:Nat} {T S:Wp} (s:Sy m k T) (hk:k≤5) {j:Nat} (hj:j≤k) (hr:Xp m T j=some S) :
  ∃ D,0<D∧D≤720∧∀ i c,i<m→c≤k→∃ x:Int,Rp D x (S i c)∧x.natAbs≤8640:=by
 obtain ⟨π,g⟩:=elim_gi hr
 obtain ⟨D,h1,h2,h3⟩:=g.parts (P:=is01) (F:=fac01) (fun n M h=>det_01 n h) (k:=k) (N:=12) (B:=12) (X:=8640) hj (by decide) s.bit s.right (fun n hn=>(fac_bounds n (by omega)).1) (fun n hn=>(fac_bounds n (by omega)).2)
 refine ⟨D,h1,?_,h3⟩
 have:=Nat.mul_le_mul_right 12 (fac01_le j (by omega))
 omega
theorem Sy.tame {m k:Nat} {T S:Wp} (s:Sy m k T) (hk:k≤5) {j:Nat} (hj:j≤k) (hr:Xp m T j=some S):Tame m k S:=by
 obtain ⟨D,h1,h2,h3⟩:=s.parts hk hj hr
 refine ⟨D,h1,by omega,fun i c hi hc=>?_⟩
 obtain ⟨x,h4,h5⟩:=h3 i c hi hc
 exact ⟨x,h4,by omega⟩
def Cts (l:List (Int×Int)):Prop:=∀ i,i<l.length→0≤(l.getD i (0,0)).2∧(l.getD i (0,0)).2≤12
theorem sysB_sy {n:Nat} {l:List (Int×Int)} (hl:Cts l) (ws:List Nat):Sy (l.length+1) ws.length (sysB n l ws):=by
 obtain ⟨r0,r1⟩:=sys_right n l ws
 refine ⟨fun i c hi hc=>?_,fun i hi=>?_⟩
 · simp only [sysB,hc,if_true]
   split
   · exact bitQ_01 _ _
   · exact bitQ_01 _ _
 · cases i with
   | zero=>rw [r0]; exact ⟨12,by decide +kernel,by decide⟩
   | succ i =>
     rw [r1]
     obtain ⟨h1,h2⟩:=hl i (by omega)
     refine ⟨_,divInt_mul (y:=12) (by decide),by omega⟩
theorem tame_all {n:Nat} {l:List (Int×Int)} (hn:n≤5) (hl:Cts l):TameAll n l:=fun set h1 h2 j S hj hS =>
 (sysB_sy hl _).tame (Nat.le_trans (Uf set n) hn) hj hS
theorem sound_iff {n:Nat} {l:List (Int×Int)}:Wl n l≠[]↔∃ p,Feas n l p:=by
 constructor
 · intro h
   obtain ⟨b,hb⟩:=List.exists_mem_of_ne_nil _ h
   obtain ⟨set,h1,h2,h3⟩:=mem_corners.1 hb
   exact ⟨_,(corner_feas h3).2⟩
 · rintro ⟨p,hp⟩ h
   obtain ⟨b,hb,_⟩:=vertex (fun _=>0) _ p (Nat.le_refl _) hp
   rw [h] at hb; cases hb
end Bq
namespace Go.Proofs.Tryd.Am.Be
open Go.Proofs.Tryd.Am
open Go.Am Bq
set_option maxRecDepth 100000
set_option maxHeartbeats 1000000
section
variable {h h' : Zh} {B m k C:Nat} {w:Nat→Value} {bk:Nat→Nat} {T T' : Wp}
end
def RowsN (hp0:Nat) (G:Zh) (q:Value) (ws:List Value) (k:Nat) (T:Wp):Prop:=(ws=[]∧q = .slice none 0 0)∨(Rows hp0 G q ws k T∧OwnV 43 G q ws)
theorem Rows.moreN [Tabs prog] {hp0:Nat} {G G2:Zh} {q rv:Value} {ws:List Value} {k b2:Nat} {T:Wp} (R:Rows hp0 G q ws k T) (hl:ws.length≤1000) (h0:hp0≤G.length) (hE:Ext (fun _=>False) G G2) (hr:OwnP 45 G2 rv (rowC T k ws.length)) (hrb : ∀ b,Yc rv=some b→G.length≤b) (hb2:G2[b2]? = some (.cells [rv] 43 false))
  {K:Value→Zh→Prop} (hk : ∀ q' h',OwnV 43 h' q' (ws++[rv])→Rows hp0 h' q' (ws++[rv]) k T→Ext (fun b=>hp0≤b) G2 h'→Ext (fun i=>Yc q=some i) G2 h'→K q' h'):Ys prog G2 125 125 q (.slice (some ⟨b2,0,none⟩) 1 1) K:=by
 have R2:=R.ext hE
 obtain ⟨bq,cq,hbq,hq1,hq2⟩:=R.sl.blk R.ne
 obtain ⟨br,yr,hr1,hr2⟩:=Wo hr Uk
 have hbr:Yc rv=some br:=by rw [hr1]; rfl
 have hbrl:=hrb br hbr
 have hw : ∀ w∈ws++[rv],notI w=true∧one w=true:=fun w hw=>by
  rcases List.mem_append.1 hw with h1 | h1
  · obtain ⟨i,hi,rfl⟩:=List.mem_iff_getElem.1 h1
    obtain ⟨b,ys,e1,_⟩:=Wo (R.row i hi) Uk
    rw [List.getD,List.getElem?_eq_getElem hi,Option.getD_some] at e1
    rw [e1]; exact ⟨rfl,rfl⟩
  · rw [List.mem_singleton.1 h1,hr1]; exact ⟨rfl,rfl⟩
 refine R2.sl.app R.ne app_125_125 hb2 hw hl fun q' h' ho hE' hb'=>?_
 have rowb : ∀ i,i<ws.length→∃ b,Yc (ws.getD i undef)=some b∧b<G.length:=fun i hi=>by
  obtain ⟨b,ys,e1,e2⟩:=Wo (R.row i hi) Uk
  exact ⟨b,by rw [e1]; rfl,Yb e2⟩
 have g1 : ∀ i,i<ws.length→(ws++[rv]).getD i undef=ws.getD i undef:=fun i hi=>by
  rw [List.getD,List.getElem?_append_left hi]; rfl
 have g2:(ws++[rv]).getD ws.length undef=rv:=by simp [List.getD]
 have hq'b : ∀ b,Yc q' = some b→b=bq∨G2.length≤b:=fun b hb=>by
  rcases hb' with h1 | ⟨b',h1,h2⟩
  · rw [h1,hbq] at hb; cases hb; exact .inl rfl
  · rw [h1] at hb; cases hb; exact .inr h2
 have keep : ∀ b,b≠bq→b<G2.length→h'[b]? = G2[b]?:=fun b hb hl=>hE'.2 b hl fun hc=>hb (by rw [hbq] at hc; cases hc; rfl)
 refine hk q' h' ho ⟨.inr ho,by simp,fun i hi=>?_,fun i j hi hj he=>?_,fun i hi=>?_,⟨fun b hb=>?_,fun i b hi hb=>?_⟩⟩ (hE'.mono fun b hb=>R.old.1 b hb) hE'
 · rw [List.length_append,List.length_singleton] at hi
   rcases Nat.lt_or_ge i ws.length with h1 | h1
   · rw [g1 i h1]
     refine (R2.row i h1).same fun b hb=>?_
     obtain ⟨b',e1,e2⟩:=rowb i h1
     rw [e1] at hb; cases hb
     exact keep _ (fun hc=>R.sep i h1 (by rw [e1,hbq,hc])) (by have:=hE.1; omega)
   · rw [show i=ws.length by omega,g2]
     refine hr.same fun b hb=>?_
     rw [hbr] at hb; cases hb
     exact keep _ (by omega) (Yb hr2)
 · rw [List.length_append,List.length_singleton] at hi hj
   rcases Nat.lt_or_ge i ws.length with h1 | h1 <;> rcases Nat.lt_or_ge j ws.length with h2 | h2
   · rw [g1 i h1,g1 j h2] at he; exact R.inj i j h1 h2 he
   · rw [g1 i h1,show j=ws.length by omega,g2,hbr] at he
     obtain ⟨b',e1,e2⟩:=rowb i h1
     rw [e1] at he; cases he; omega
   · rw [g1 j h2,show i=ws.length by omega,g2,hbr] at he
     obtain ⟨b',e1,e2⟩:=rowb j h2
     rw [e1] at he; cases he; omega
   · omega
 · rw [List.length_append,List.length_singleton] at hi
   intro hc
   rcases Nat.lt_or_ge i ws.length with h1 | h1
   · rw [g1 i h1] at hc
     obtain ⟨b',e1,e2⟩:=rowb i h1
     rw [e1] at hc
     rcases hq'b b' hc.symm with h3 | h3
     · exact R.sep i h1 (by rw [e1,hbq,h3])
     · have:=hE.1; omega
   · rw [show i=ws.length by omega,g2,hbr] at hc
     rcases hq'b br hc.symm with h3 | h3
     · omega
     · have:=Yb hr2; omega
 · rcases hq'b b hb with h3 | h3
   · rw [h3]; exact R.old.1 _ hbq
   · have:=hE.1; omega
 · rw [List.length_append,List.length_singleton] at hi
   rcases Nat.lt_or_ge i ws.length with h1 | h1
   · rw [g1 i h1] at hb; exact R.old.2 i b h1 hb
   · rw [show i=ws.length by omega,g2] at hb
     have:=hrb b hb; omega
theorem RowsN.more [Tabs prog] {hp0:Nat} {G G2:Zh} {q rv:Value} {ws:List Value} {k b2:Nat} {T:Wp} (R:RowsN hp0 G q ws k T) (hl:ws.length≤1000) (h0:hp0≤G.length) (hE:Ext (fun _=>False) G G2) (hr:OwnP 45 G2 rv (rowC T k ws.length)) (hrb : ∀ b,Yc rv=some b→G.length≤b) (hb2:G2[b2]? = some (.cells [rv] 43 false))
  {K:Value→Zh→Prop} (hk : ∀ q' h',RowsN hp0 h' q' (ws++[rv]) k T→Ext (fun b=>hp0≤b) G2 h'→Ext (fun i=>Yc q=some i) G2 h'→K q' h'):Ys prog G2 125 125 q (.slice (some ⟨b2,0,none⟩) 1 1) K:=by
 rcases R with ⟨rfl,rfl⟩ | ⟨R,_⟩
 · obtain ⟨br,yr,hr1,hr2⟩:=Wo hr Uk
   have hbr:Yc rv=some br:=by rw [hr1]; rfl
   have hbrl:=hrb br hbr
   refine OwnV.app (e:=43) (h:=G2) (v:=.slice none 0 0) (ws:=[]) (us:=[rv]) (.inl ⟨rfl,rfl⟩) app_125_125 (.inr ⟨b2,0,none,1,[rv],43,false,rfl,Nat.le_refl _,by simp [view,hb2,Blk.view],rfl⟩) (fun w hw=>?_) (by simp) fun q' h' ho hE' hb'=>?_
   · rw [List.nil_append,List.mem_singleton] at hw
     rw [hw,hr1]; exact ⟨rfl,rfl⟩
   · have hE2:Ext (fun _=>False) G2 h':=hE'.mono fun b hb=>by cases hb
     refine hk q' h' (.inr ⟨⟨.inr ho,by simp,fun i hi=>?_,fun i j hi hj _=>?_,fun i hi hc=>?_,⟨fun b hb=>?_,fun i b hi hb=>?_⟩⟩,ho⟩) (hE2.mono fun _ h=>h.elim) hE'
     · obtain rfl:i=0:=by simpa using hi
       exact hr.ext hE2
     · simp at hi hj; omega
     · obtain rfl:i=0:=by simpa using hi
       simp only [List.nil_append,List.getD,List.getElem?_cons_zero,Option.getD_some,hbr] at hc
       rcases hb' with h1 | ⟨b',h1,h2⟩
       · rw [h1] at hc; cases hc
       · rw [h1] at hc; cases hc
         have:=Yb hr2; omega
     · rcases hb' with h1 | ⟨b',h1,h2⟩
       · rw [h1] at hb; cases hb
       · rw [h1] at hb; cases hb
         have:=hE.1; omega
     · obtain rfl:i=0:=by simpa using hi
       simp only [List.nil_append,List.getD,List.getElem?_cons_zero,Option.getD_some,hbr] at hb
       cases hb; omega
 · exact R.moreN hl h0 hE hr hrb hb2 fun q' h' ho R' e1 e2=>hk q' h' (.inr ⟨R',ho⟩) e1 e2
theorem iExt {h h' : Zh} {v:Value} {xs:List Int} (hv:IntSl h v xs) (hE:Ext (fun _=>False) h h'):IntSl h' v xs:=hv.same fun b hb=>hE.2 b (hv.lt hb) id
theorem oExt {h0 H H' h' : Zh} {v v' : Value} (hE:Ext (fun _=>False) h0 H) (hb : ∀ b,Yc v=some b→h0.length≤b) (g:List Blk) (hE' : Ext (fun i=>Yc v=some i) (H++g) h') (hb' : Yc v' = Yc v∨∃ b,Yc v' = some b∧(H++g).length≤b):Ext (fun _=>False) h0 h'∧∀ b,Yc v' = some b→h0.length≤b:=by
 have hl':=hE'.1
 have l1:=hE.1
 rw [List.length_append] at hl'
 refine ⟨⟨by omega,fun q hq _=>?_⟩,fun b hb0=>?_⟩
 · rw [hE'.2 q (by rw [List.length_append]; omega) (fun hb0=>by have:=hb q hb0; omega),List.getElem?_append_left (by omega)]
   exact hE.2 q hq id
 · rcases hb' with hb' | ⟨b',hb1,hb2⟩
   · exact hb b (hb'▸hb0)
   · rw [hb1] at hb0; cases hb0
     rw [List.length_append] at hb2
     omega
end Go.Proofs.Tryd.Am.Be
namespace Go.Proofs.Tryd.Am.Be
open Go.Proofs.Tryd.Am
open Go.Am Bq
set_option maxRecDepth 100000
set_option maxHeartbeats 4000000
theorem cts_of {n:Nat} {l:List (Int×Int)} (h:validB n l=true):Cts l:=fun i hi=>by
 have:=(Vp h).2.2.2.2 i hi
 simp only [okB,Bool.and_eq_true,decide_eq_true_eq] at this
 exact this.2.2
end Go.Proofs.Tryd.Am.Be
namespace Bq
theorem sum_gt {n w:Nat} {g:Nat→Rat} (hw:w<n) (h : ∀ i,i<n→0≤g i) (hp:0<g w):0<Zv g n:=by
 have:=sumTo_one hw h
 grind
theorem pos_of_sum {n:Nat} {p:Nat→Rat} (h : ∀ w,w<n→0≤p w) (h1:Zv p n=1) : ∃ w,w<n∧0<p w:=by
 refine Classical.byContradiction fun hc=>?_
 have h2:Zv p n=0:=Wd fun i hi=>by
  refine Rat.le_antisymm ?_ (h i hi)
  rw [← Rat.not_lt]
  exact fun hp=>hc ⟨i,hi,hp⟩
 rw [h1] at h2
 exact absurd h2 (by decide +kernel)
theorem step_ex {n:Nat} (hn:0<n) {x a:Nat→Rat} {b c:Rat} (ha : ∀ w,w<n→0<a w) (hb:0≤b) (h : ∀ w,w<n→0<b*x w+a w*c) : ∃ t:Rat,(∀ w,w<n→0<x w+t*a w)∧0<c-t*b:=by
 obtain ⟨w,hw,_,hmin⟩:=least_of (fun _=>True) (fun w=>x w / a w) n ⟨0,hn,trivial⟩
 obtain ⟨ρ,hρ⟩ : ∃ ρ,x w / a w=ρ:=⟨_,rfl⟩
 have hx : ∀ v,v<n→ρ*a v≤x v:=fun v hv=>by
  have h1:=hmin v hv trivial
  rw [hρ] at h1
  have h2:=Rat.mul_le_mul_of_nonneg_right h1 (Rat.le_of_lt (ha v hv))
  rwa [Rat.div_mul_cancel (by have:=ha v hv; grind)] at h2
 have hxw:x w=ρ*a w:=by
  rw [← hρ,Rat.div_mul_cancel (by have:=ha w hw; grind)]
 have hk:0<a w*(b*ρ+c):=by
  have:=h w hw
  rw [hxw] at this
  have e:b*(ρ*a w)+a w*c=a w*(b*ρ+c):=by grind
  rwa [e] at this
 have hk2:0<b*ρ+c:=by
  rw [← Rat.not_le]
  intro hc
  have:=Rat.mul_nonneg (Rat.le_of_lt (ha w hw)) (show 0≤-(b*ρ+c) by grind)
  grind
 rcases Decidable.em (b=0) with rfl | hb0
 · refine ⟨1-ρ,fun v hv=>?_,by grind⟩
   have h1:=hx v hv
   have h2:=ha v hv
   grind
 · have hbp:0<b:=by grind
   -- t = -ρ + (bρ + c) / (2b)
   obtain ⟨z,hz⟩ : ∃ z,(b*ρ+c) / (2*b)=z:=⟨_,rfl⟩
   have hz2:z*(2*b)=b*ρ+c:=by rw [← hz]; exact Rat.div_mul_cancel (by grind)
   have hz0:0<z:=by
    rw [← Rat.not_le]
    intro hc
    have:=Rat.mul_nonneg (show 0≤-z by grind) (show 0≤2*b by grind)
    grind
   refine ⟨z-ρ,fun v hv=>?_,?_⟩
   · have h1:=hx v hv
     have h2:=Rat.mul_pos hz0 (ha v hv)
     grind
   · have h2:=Rat.mul_pos hz0 hbp
     grind
def Wx (m:Nat) (G:Nat→Nat→Rat) (s:Nat→Rat) (w:Nat):Rat:=Zv (fun i=>G w i*s i) m
theorem dotG_add (m:Nat) (G:Nat→Nat→Rat) (s d:Nat→Rat) (t:Rat) (w:Nat):Wx m G (fun i=>s i+t*d i) w=Wx m G s w+t*Wx m G d w:=by
 rw [Wx,Zk (g:=fun i=>G w i*s i+t*(G w i*d i)) fun i hi=>by grind,Xw,Yw,Wx,Wx]
theorem gordan (m:Nat) : ∀ (n:Nat) (G:Nat→Nat→Rat),(∃ s,∀ w,w<n→0<Wx m G s w)∨∃ p,(∀ w,w<n→0≤p w)∧Zv p n=1∧∀ i,i<m→Zv (fun w=>p w*G w i) n=0
 | 0,G=>.inl ⟨fun _=>0,fun w hw=>by omega⟩
 | 1,G=>by
   by_cases hz : ∀ i,i<m→G 0 i=0
   · refine .inr ⟨fun _=>1,fun _ _=>by show (0:Rat)≤1; decide +kernel,by rw [Zv,Zv]; decide +kernel,fun i hi=>?_⟩
     rw [Zv,Zv,hz i hi]; decide +kernel
   · obtain ⟨i,hi⟩:=Classical.not_forall.1 hz
     simp only [Classical.not_imp] at hi
     refine .inl ⟨G 0,fun w hw=>?_⟩
     obtain rfl:w=0:=by omega
     have hsq : ∀ x:Rat,0≤x*x:=fun x=>by
      rcases Rat.le_total (a:=0) (b:=x) with h | h
      · exact Rat.mul_nonneg h h
      · have:=Rat.mul_nonneg (show 0≤-x by grind) (show 0≤-x by grind)
        grind
     refine sum_gt hi.1 (fun j _=>hsq _) ?_
     have h1:=hsq (G 0 i)
     have h2:G 0 i*G 0 i≠0:=fun hc=>by
      rcases Rat.mul_eq_zero.1 hc with h | h <;> exact hi.2 h
     grind
 | n+2,G=>by
   rcases gordan m (n+1) G with ⟨s0,hs0⟩ | ⟨p,hp0,hp1,hpG⟩
   · by_cases hb:0<Wx m G s0 (n+1)
     · refine .inl ⟨s0,fun w hw=>?_⟩
       rcases Nat.lt_or_ge w (n+1) with h | h
       · exact hs0 w h
       · obtain rfl:w=n+1:=by omega
         exact hb
     · have hb0:0≤-Wx m G s0 (n+1):=by grind
       obtain ⟨b,hbe⟩ : ∃ b,-Wx m G s0 (n+1)=b:=⟨_,rfl⟩
       rw [hbe] at hb0
       rcases gordan m (n+1) (fun w i=>b*G w i+Wx m G s0 w*G (n+1) i) with ⟨s1,hs1⟩ | ⟨p,hp0,hp1,hpG⟩
       · have hU : ∀ w,w<n+1→0<b*Wx m G s1 w+Wx m G s0 w*Wx m G s1 (n+1):=fun w hw=>by
          have:=hs1 w hw
          rw [Wx,Zk (g:=fun i=>b*(G w i*s1 i)+Wx m G s0 w*(G (n+1) i*s1 i)) fun i hi=>by grind,Xw,Yw,Yw] at this
          exact this
         obtain ⟨t,h1,h2⟩:=step_ex (show 0<n+1 by omega) hs0 hb0 hU
         refine .inl ⟨fun i=>s1 i+t*s0 i,fun w hw=>?_⟩
         rw [dotG_add]
         rcases Nat.lt_or_ge w (n+1) with h | h
         · exact h1 w h
         · obtain rfl:w=n+1:=by omega
           rw [← hbe] at h2
           grind
       · right
         have hA:0<Zv (fun w=>p w*Wx m G s0 w) (n+1):=by
          obtain ⟨w,hw,hpw⟩:=pos_of_sum hp0 hp1
          exact sum_gt hw (fun i hi=>Rat.mul_nonneg (hp0 i hi) (Rat.le_of_lt (hs0 i hi))) (Rat.mul_pos hpw (hs0 w hw))
         obtain ⟨A,hAe⟩ : ∃ A,Zv (fun w=>p w*Wx m G s0 w) (n+1)=A:=⟨_,rfl⟩
         rw [hAe] at hA
         have hT:0<b+A:=by grind
         have hTi:(b+A)⁻¹*(b+A)=1:=Rat.inv_mul_cancel _ (by grind)
         have hTp:0<(b+A)⁻¹:=Rat.inv_pos.2 hT
         obtain ⟨r,hr⟩ : ∃ r,(b+A)⁻¹=r:=⟨_,rfl⟩
         rw [hr] at hTi hTp
         have key : ∀ (f:Nat→Rat),Zv (fun w=>(if w<n+1 then r*(b*p w) else r*A)*f w) (n+2)=r*(b*Zv (fun w=>p w*f w) (n+1)+A*f (n+1)):=fun f=>by
          rw [Zv,Zk (g:=fun w=>(r*b)*(p w*f w)) fun w hw=>by rw [if_pos hw]; grind,Yw,if_neg (by omega)]
          grind
         refine ⟨fun w=>if w<n+1 then r*(b*p w) else r*A,fun w hw=>?_,?_,fun i hi=>?_⟩
         · simp only
           split
           · exact Rat.mul_nonneg (Rat.le_of_lt hTp) (Rat.mul_nonneg hb0 (hp0 w (by assumption)))
           · exact Rat.mul_nonneg (Rat.le_of_lt hTp) (Rat.le_of_lt hA)
         · have:=key fun _=>1
           rw [Zk (g:=fun w=>if w<n+1 then r*(b*p w) else r*A) fun w hw=>by rw [Rat.mul_one],Zk (f:=fun w=>p w*1) (g:=p) fun w hw=>by rw [Rat.mul_one],hp1] at this
           rw [this]; grind
         · rw [key fun w=>G w i]
           have:=hpG i hi
           rw [Zk (g:=fun w=>b*(p w*G w i)+G (n+1) i*(p w*Wx m G s0 w)) fun w hw=>by grind,Xw,Yw,Yw,hAe] at this
           rw [show A*G (n+1) i=G (n+1) i*A from Rat.mul_comm ..,this,Rat.mul_zero]
   · right
     have key : ∀ (f:Nat→Rat),Zv (fun w=>(if w<n+1 then p w else 0)*f w) (n+2)=Zv (fun w=>p w*f w) (n+1):=fun f=>by
      rw [Zv,Zk (g:=fun w=>p w*f w) fun w hw=>by rw [if_pos hw],if_neg (by omega),Rat.zero_mul,Rat.add_zero]
     refine ⟨fun w=>if w<n+1 then p w else 0,fun w hw=>?_,?_,fun i hi=>?_⟩
     · simp only
       split
       · exact hp0 w (by assumption)
       · exact Rat.le_refl
     · have:=key fun _=>1
       rw [Zk (g:=fun w=>if w<n+1 then p w else 0) fun w hw=>by rw [Rat.mul_one],Zk (f:=fun w=>p w*1) (g:=p) fun w hw=>by rw [Rat.mul_one]] at this
       rw [this,hp1]
     · rw [key fun w=>G w i,hpG i hi]
def Stuck (m n:Nat) (G:Nat→Nat→Rat) (s:Nat→Rat):Prop:=∀ d,(∀ i,i<m→d i≠0→s i≠0)→(∀ w,w<n→Wx m G s w=1→Wx m G d w=0)→∀ i,i<m→d i=0
theorem sq_le_one {u:Rat} (h:u*u≤1):u≤1:=by
 rw [← Rat.not_lt]
 intro hc
 have:=Rat.mul_pos (show 0<u-1 by grind) (show 0<u+1 by grind)
 grind
theorem stuck_ex {m n:Nat} {G:Nat→Nat→Rat} : ∀ (N:Nat) (s:Nat→Rat),cntN s m+cntN (fun w=>Wx m G s w-1) n≤N→(∀ w,w<n→1≤Wx m G s w)→∃ s,(∀ w,w<n→1≤Wx m G s w)∧Stuck m n G s:=by
 intro N
 induction N with
 | zero =>
   intro s hN hs
   refine ⟨s,hs,fun d hd _ i hi=>Classical.byContradiction fun hdi=>?_⟩
   have h0:cntN s m=0:=by omega
   have:=(cntN_lt (p:=s) (q:=fun _=>0) (w:=i) m fun v _ h=>absurd rfl h).1 hi ⟨rfl,hd i hi hdi⟩
   omega
 | succ N ih =>
   intro s hN hs
   by_cases hst:Stuck m n G s
   · exact ⟨s,hs,hst⟩
   · obtain ⟨d,hst⟩:=Classical.not_forall.1 hst
     simp only [Classical.not_imp,Classical.not_forall] at hst
     obtain ⟨hd,hz,i0,hi0,hdi0⟩:=hst
     -- the events
     obtain ⟨t,ht⟩ : ∃ t:Nat→Rat,∀ j,t j=if j<m then -(s j / d j) else (1-Wx m G s (j-m)) / Wx m G d (j-m):=⟨_,fun j=>rfl⟩
     obtain ⟨P,hP⟩ : ∃ P:Nat→Prop,∀ j,P j↔if j<m then d j≠0 else Wx m G d (j-m)≠0:=⟨_,fun j=>Iff.rfl⟩
     obtain ⟨j,hj,hPj,hmin⟩:=least_of P (fun j=>t j*t j) (m+n) ⟨i0,by omega,(hP i0).2 (by rw [if_pos hi0]; exact hdi0)⟩
     have hfe : ∀ w,w<n→1≤Wx m G (fun i=>s i+t j*d i) w:=fun w hw=>by
      rw [dotG_add]
      rcases Decidable.em (Wx m G d w=0) with h0 | h0
      · rw [h0,Rat.mul_zero,Rat.add_zero]; exact hs w hw
      · have h1:=hmin (m+w) (by omega) ((hP _).2 (by rw [if_neg (by omega),Nat.add_sub_cancel_left]; exact h0))
        have h2:=ht (m+w)
        rw [if_neg (by omega),Nat.add_sub_cancel_left] at h2
        have hy:Wx m G s w≠1:=fun h=>h0 (hz w hw h)
        have hy1:=hs w hw
        obtain ⟨y,hye⟩ : ∃ y,Wx m G s w=y:=⟨_,rfl⟩
        obtain ⟨z,hze⟩ : ∃ z,Wx m G d w=z:=⟨_,rfl⟩
        rw [hye] at h2 hy hy1
        rw [hze] at h2 h0
        rw [hye,hze]
        obtain ⟨tw,htw⟩ : ∃ tw,t (m+w)=tw:=⟨_,rfl⟩
        rw [htw] at h1 h2
        have h3:tw*z=1-y:=by rw [h2]; exact Rat.div_mul_cancel h0
        have h4:tw≠0:=fun h=>by rw [h,Rat.zero_mul] at h3; grind
        have hq:0<tw*tw:=by
         rcases Rat.le_total (a:=0) (b:=tw) with h | h
         · exact Rat.mul_pos (by grind) (by grind)
         · have:=Rat.mul_pos (show 0 < -tw by grind) (show 0 < -tw by grind); grind
        obtain ⟨u,hu⟩ : ∃ u,t j / tw=u:=⟨_,rfl⟩
        have h5:t j=u*tw:=by rw [← hu]; exact (Rat.div_mul_cancel h4).symm
        rw [h5] at h1 ⊢
        have h6:u*u≤1:=by
         refine Rat.le_of_mul_le_mul_right (c:=tw*tw) ?_ hq
         have e:u*u*(tw*tw)=u*tw*(u*tw):=by grind
         rw [e]; grind
        have h7:=Rat.mul_nonneg (show 0≤y-1 by grind) (show 0≤1-u by have:=sq_le_one h6; grind)
        have e:y+u*tw*z=1+(y-1)*(1-u):=by
         have:u*tw*z=u*(tw*z):=by grind
         rw [this,h3]; grind
        rw [e]; grind
     refine ih (fun i=>s i+t j*d i) ?_ hfe
     have hsup : ∀ v,v<m→s v+t j*d v≠0→s v≠0:=fun v hv h hc=>by
      have:d v=0:=Classical.byContradiction fun h1=>hd v hv h1 hc
      rw [hc,this] at h
      exact h (by grind)
     have htight : ∀ w,w<n→Wx m G (fun i=>s i+t j*d i) w-1≠0→Wx m G s w-1≠0:=fun w hw h hc=>by
      have h1:Wx m G s w=1:=by grind
      rw [dotG_add,h1,hz w hw h1] at h
      exact h (by grind)
     have c1:=cntN_lt (p:=s) (q:=fun i=>s i+t j*d i) (w:=j) m hsup
     have c2:=cntN_lt (p:=fun w=>Wx m G s w-1) (q:=fun w=>Wx m G (fun i=>s i+t j*d i) w-1) (w:=j-m) n htight
     have htj:=ht j
     have hPj':=(hP j).1 hPj
     rcases Nat.lt_or_ge j m with hjm | hjm
     · rw [if_pos hjm] at htj hPj'
       have:=c1.1 hjm ⟨by
        have h1:s j / d j*d j=s j:=Rat.div_mul_cancel hPj'
        show s j+t j*d j=0
        rw [htj]; grind,hd j hjm hPj'⟩
       have:=c2.2
       omega
     · rw [if_neg (by omega)] at htj hPj'
       have hjn:j-m<n:=by omega
       have:=c2.1 hjn ⟨by
        show Wx m G (fun i=>s i+t j*d i) (j-m)-1=0
        have h1:t j*Wx m G d (j-m)=1-Wx m G s (j-m):=by rw [htj]; exact Rat.div_mul_cancel hPj'
        rw [dotG_add,h1]; grind,fun hc=>hPj' (hz _ hjn (by grind))⟩
       have:=c1.2
       omega
theorem dot_spr (m:Nat) (G:Nat→Nat→Rat) (set:Nat) (δ:Nat→Rat) (w:Nat):Wx m G (spr set δ) w=Zv (fun c=>G w ((Zj set m).getD c 0)*δ c) (Zj set m).length:=by
 rw [ws_sum set (fun c i=>G w i*δ c) m,Wx]
 refine Zk fun i hi=>?_
 rw [spr]
 split
 · rfl
 · rw [Rat.mul_zero]
theorem spr_get {set n c:Nat} (δ:Nat→Rat) (hc:c<(Zj set n).length):spr set δ ((Zj set n).getD c 0)=δ c:=by
 obtain ⟨h1,h2,h3⟩:=Xo hc
 rw [spr,if_pos h3,h1]
theorem ker_wide {m k:Nat} (h:m<k) (A:Nat→Nat→Rat) : ∃ δ:Nat→Rat,(∀ r,r<m→Zv (fun c=>A r c*δ c) k=0)∧∃ c,c<k∧δ c≠0:=by
 have h1:=solve_wide (T:=fun r c=>if c<k then A r c else 0) h
 have hA : ∀ (y:Nat→Rat) r,Zv (fun c=>(if c<k then A r c else 0)*y c) k=Zv (fun c=>A r c*y c) k:=fun y r=>Zk fun c hc=>by rw [if_pos hc]
 rcases solve_none h1 with h2 | ⟨δ,hδ,hc⟩
 · refine absurd ?_ (h2 fun _=>0)
   intro i hi
   rw [hA]
   show _=if k<k then A i k else 0
   rw [if_neg (by omega)]
   exact Wd fun c _=>Rat.mul_zero _
 · refine ⟨δ,fun r hr=>?_,hc⟩
   rw [← hA]
   exact hδ r hr
def Inj (m n:Nat) (G:Nat→Nat→Rat) (s:Nat→Rat) (χ:Nat→Rat):Prop:=∀ d,(∀ i,i<m→d i≠0→s i≠0)→(∀ w,w<n→χ w≠0→Wx m G d w=0)→∀ i,i<m→d i=0
theorem inj_min {m n:Nat} {G:Nat→Nat→Rat} {s:Nat→Rat} : ∀ (N:Nat) (χ:Nat→Rat),cntN χ n≤N→Inj m n G s χ→∃ χ',(∀ w,w<n→χ' w≠0→χ w≠0)∧Inj m n G s χ'∧∀ w0,w0<n→χ' w0≠0→¬ Inj m n G s fun w=>if w=w0 then 0 else χ' w:=by
 intro N
 induction N with
 | zero =>
   intro χ hN hI
   refine ⟨χ,fun _ _ h=>h,hI,fun w0 hw0 h0=>?_⟩
   have:=(cntN_lt (p:=χ) (q:=fun _=>0) (w:=w0) n fun v _ h=>absurd rfl h).1 hw0 ⟨rfl,h0⟩
   omega
 | succ N ih =>
   intro χ hN hI
   by_cases hex : ∃ w0,w0<n∧χ w0≠0∧Inj m n G s fun w=>if w=w0 then 0 else χ w
   · obtain ⟨w0,hw0,h0,h1⟩:=hex
     have hsub : ∀ v,v<n→(if v=w0 then (0:Rat) else χ v)≠0→χ v≠0:=fun v _ h=>by
      split at h
      · exact absurd rfl h
      · exact h
     have hlt:=(cntN_lt (p:=χ) (q:=fun w=>if w=w0 then 0 else χ w) (w:=w0) n hsub).1 hw0 ⟨by simp,h0⟩
     obtain ⟨χ',g1,g2,g3⟩:=ih _ (by omega) h1
     exact ⟨χ',fun w hw h=>hsub w hw (g1 w hw h),g2,g3⟩
   · exact ⟨χ,fun _ _ h=>h,hI,fun w0 hw0 h0 h1=>hex ⟨w0,hw0,h0,h1⟩⟩
theorem rows_ex {m n:Nat} {G:Nat→Nat→Rat} {s:Nat→Rat} (hst:Stuck m n G s) : ∃ set,set<2 ^ n∧(∀ w,set.testBit w=true→w<n∧Wx m G s w=1)∧(Zj set n).length=(Zj (msk s m) m).length ∧
  ∀ d,(∀ i,i<m→d i≠0→s i≠0)→(∀ w,set.testBit w=true→Wx m G d w=0)→∀ i,i<m→d i=0:=by
 have h0:Inj m n G s fun w=>if Wx m G s w=1 then 1 else 0:=fun d hd hw=>hst d hd fun w hwn h1=>hw w hwn (by show (if Wx m G s w=1 then (1:Rat) else 0)≠0; rw [if_pos h1]; decide +kernel)
 obtain ⟨χ,c1,c2,c3⟩:=inj_min _ _ (Nat.le_refl _) h0
 obtain ⟨set,hset⟩ : ∃ x,msk χ n=x:=⟨_,rfl⟩
 obtain ⟨on,hon⟩ : ∃ x,msk s m=x:=⟨_,rfl⟩
 have hb : ∀ w,set.testBit w=true↔w<n∧χ w≠0:=fun w=>by rw [← hset]; exact msk_bit χ w n
 have hbi : ∀ i,on.testBit i=true↔i<m∧s i≠0:=fun i=>by rw [← hon]; exact msk_bit s i m
 have hinj : ∀ d,(∀ i,i<m→d i≠0→s i≠0)→(∀ w,set.testBit w=true→Wx m G d w=0)→∀ i,i<m→d i=0:=fun d hd hw=>c2 d hd fun w hwn h=>hw w ((hb w).2 ⟨hwn,h⟩)
 have hsup : ∀ (δ:Nat→Rat) i,i<m→spr on δ i≠0→s i≠0:=fun δ i hi h=>by
  rw [spr] at h
  split at h
  · exact ((hbi i).1 (by assumption)).2
  · exact absurd rfl h
 refine ⟨set,by rw [← hset]; exact msk_lt χ n,fun w hw=>?_,?_,hinj⟩
 · obtain ⟨h1,h2⟩:=(hb w).1 hw
   refine ⟨h1,?_⟩
   have:=c1 w h1 h2
   split at this
   · assumption
   · exact absurd rfl this
 rw [hon]
 rcases Nat.lt_trichotomy (Zj set n).length (Zj on m).length with h | h | h
 · -- too few rows
   exfalso
   obtain ⟨δ,hδ,c,hc,hne⟩:=ker_wide h fun r c=>G ((Zj set n).getD r 0) ((Zj on m).getD c 0)
   have hz:=hinj (spr on δ) (hsup δ) fun w hw=>by
    have hw1:=((hb w).1 hw).1
    have hr:=Xk hw1 hw
    have:=hδ _ hr
    rw [Wz hw1 hw] at this
    rw [dot_spr]; exact this
   obtain ⟨g1,g2,g3⟩:=Xo hc
   have:=hz _ g2
   rw [spr_get δ hc] at this
   exact hne this
 · exact h
 · -- too many
   exfalso
   have hex : ∀ w,∃ d:Nat→Rat,set.testBit w=true→(∀ i,i<m→d i≠0→s i≠0)∧(∀ v,set.testBit v=true→v≠w→Wx m G d v=0)∧Wx m G d w≠0:=fun w=>by
    by_cases hw:set.testBit w=true
    · obtain ⟨hwn,hχ⟩:=(hb w).1 hw
      have:=c3 w hwn hχ
      obtain ⟨d,hd⟩:=Classical.not_forall.1 this
      simp only [Classical.not_imp,Classical.not_forall] at hd
      obtain ⟨d1,d2,i,hi,hdi⟩:=hd
      have hoth : ∀ v,set.testBit v=true→v≠w→Wx m G d v=0:=fun v hv hvw=>by
       obtain ⟨h1,h2⟩:=(hb v).1 hv
       exact d2 v h1 (by simpa [hvw] using h2)
      refine ⟨d,fun _=>⟨d1,hoth,fun hz=>hdi (hinj d d1 (fun v hv=>?_) i hi)⟩⟩
      by_cases hvw:v=w
      · rw [hvw]; exact hz
      · exact hoth v hv hvw
    · exact ⟨fun _=>0,fun h=>absurd h hw⟩
   obtain ⟨D,hD⟩:=Classical.skolem.1 hex
   obtain ⟨α,hα,c,hc,hne⟩:=ker_wide h fun r c=>D ((Zj set n).getD c 0) ((Zj on m).getD r 0)
   obtain ⟨g1,g2,g3⟩:=Xo hc
   obtain ⟨w0,hw0⟩ : ∃ x,(Zj set n).getD c 0=x:=⟨_,rfl⟩
   rw [hw0] at g1 g2 g3
   have hall : ∀ i,i<m→Zv (fun c=>D ((Zj set n).getD c 0) i*α c) (Zj set n).length=0:=fun i hi=>by
    by_cases hbit:on.testBit i=true
    · have hr:=Xk hi hbit
      have:=hα _ hr
      rw [Wz hi hbit] at this
      exact this
    · refine Wd fun c' hc'=>?_
      obtain ⟨_,_,q3⟩:=Xo hc'
      have hz:D ((Zj set n).getD c' 0) i=0:=Classical.byContradiction fun hnz=>hbit ((hbi i).2 ⟨hi,(hD _ q3).1 i hi hnz⟩)
      rw [hz,Rat.zero_mul]
   have hsum:Zv (fun i=>G w0 i*Zv (fun c=>D ((Zj set n).getD c 0) i*α c) (Zj set n).length) m=Zv (fun c=>α c*Wx m G (D ((Zj set n).getD c 0)) w0) (Zj set n).length:=by
    rw [Zk (g:=fun i=>Zv (fun c=>G w0 i*(D ((Zj set n).getD c 0) i*α c)) (Zj set n).length) fun i hi=>(Yw _ _ _).symm,sumTo_swap]
    refine Zk fun c' _=>?_
    rw [Wx,← Yw]
    exact Zk fun i _=>by grind
   rw [Wd fun i hi=>by rw [hall i hi,Rat.mul_zero]] at hsum
   have hpick:Zv (fun c'=>α c' * Wx m G (D ((Zj set n).getD c' 0)) w0) (Zj set n).length=α c*Wx m G (D w0) w0:=by
    rw [← hw0,← sumTo_pick (fun c'=>α c' * Wx m G (D ((Zj set n).getD c' 0)) ((Zj set n).getD c 0)) hc,hw0]
    refine Zk fun c' hc'=>?_
    split
    · rfl
    · rename_i hcc
      obtain ⟨q1,q2,q3⟩:=Xo hc'
      have hne2:w0≠(Zj set n).getD c' 0:=fun he=>hcc (by rw [← q1,← he,g1])
      rw [(hD _ q3).2.1 w0 g3 hne2,Rat.mul_zero]
   rw [hpick] at hsum
   rcases Rat.mul_eq_zero.1 hsum.symm with h1 | h1
   · exact hne h1
   · exact (hD w0 g3).2.2 h1
end Bq
namespace Bq
def gnI (l:List (Int×Int)) (w i:Nat):Int:=(if (l.getD i (0,0)).1.toNat.testBit w then 12 else 0)-(l.getD i (0,0)).2
def gnQ (l:List (Int×Int)) (w i:Nat):Rat:=(gnI l w i:Rat)
def sysG (l:List (Int×Int)) (ws is:List Nat):Wp:=fun r c=>if c<is.length then gnQ l (ws.getD r 0) (is.getD c 0) else 1
def gnTo (l:List (Int×Int)) (ss:List Int) (w:Nat):Nat→Int
 | 0=>0
 | k+1=>gnTo l ss w k+ss.getD k 0*gnI l w k
def Uu (n:Nat) (l:List (Int×Int)) (ss:List Int):Bool:=(List.range n).all fun w=>decide (0<gnTo l ss w l.length)
theorem beatsB_iff {n:Nat} {l:List (Int×Int)} {ss:List Int}:Uu n l ss=true↔∀ w,w<n→0<gnTo l ss w l.length:=by
 simp only [Uu,List.all_eq_true,List.mem_range,decide_eq_true_eq]
theorem gnTo_rat (l:List (Int×Int)) (ss:List Int) (w:Nat) : ∀ k,((gnTo l ss w k:Int):Rat)=Wx k (gnQ l) (fun i=>((ss.getD i 0:Int):Rat)) w
 | 0=>rfl
 | k+1=>by
   rw [gnTo,Rat.intCast_add,Rat.intCast_mul,gnTo_rat l ss w k,Wx,Wx,Zv,gnQ,Rat.mul_comm (ss.getD k 0:Rat)]
theorem gnQ_eq (l:List (Int×Int)) (w i:Nat):gnQ l w i=12*(if (l.getD i (0,0)).1.toNat.testBit w then (1:Rat) else 0)-((l.getD i (0,0)).2:Rat):=by
 rw [gnQ,gnI,Rat.intCast_sub]
 split
 · rw [Rat.mul_one]; rfl
 · rw [Rat.mul_zero]; rfl
theorem gain_mean {n:Nat} {l:List (Int×Int)} {p:Nat→Rat} {i:Nat} (he:(l.getD i (0,0)).1.toNat<2 ^ n):Zv (fun w=>p w*gnQ l w i) n=12*evq n p (l.getD i (0,0)).1.toNat-((l.getD i (0,0)).2:Rat)*Zv p n:=by
 rw [Zk (g:=fun w=>12*(bitQ (l.getD i (0,0)).1.toNat w*p w) + -((l.getD i (0,0)).2:Rat)*p w) fun w hw=>?_,Xw,Yw,Yw,evq]
 · grind
 · rw [gnQ_eq,bitQ]
   split <;> grind
def Evs (n:Nat) (l:List (Int×Int)):Prop:=∀ i,i<l.length→(l.getD i (0,0)).1.toNat<2 ^ n
theorem cents_eq {q:Rat} {c:Int}:q=Rat.divInt c 12↔12*q-(c:Rat)=0:=by
 have h:=divInt_mul (x:=c) (y:=12) (by decide)
 have e:((12:Int):Rat)=12:=rfl
 rw [e] at h
 constructor
 · rintro rfl; grind
 · intro h2; grind
theorem beats_unsound {n:Nat} {l:List (Int×Int)} {ss:List Int} (he:Evs n l) (hb:Uu n l ss=true):Wl n l=[]:=by
 refine Classical.byContradiction fun hne=>?_
 obtain ⟨p,hp⟩:=sound_iff.1 hne
 have hg:=beatsB_iff.1 hb
 have h1:0<Zv (fun w=>p w*Wx l.length (gnQ l) (fun i=>((ss.getD i 0:Int):Rat)) w) n:=by
  obtain ⟨w,hw,hpw⟩:=pos_of_sum hp.nn hp.one
  have hpos : ∀ v,v<n→0<Wx l.length (gnQ l) (fun i=>((ss.getD i 0:Int):Rat)) v:=fun v hv=>by
   rw [← gnTo_rat]
   exact_mod_cast hg v hv
  exact sum_gt hw (fun i hi=>Rat.mul_nonneg (hp.nn i hi) (Rat.le_of_lt (hpos i hi))) (Rat.mul_pos hpw (hpos w hw))
 have h2:Zv (fun w=>p w*Wx l.length (gnQ l) (fun i=>((ss.getD i 0:Int):Rat)) w) n=0:=by
  rw [Zk (g:=fun w=>Zv (fun i=>((ss.getD i 0:Int):Rat)*(p w*gnQ l w i)) l.length) fun w hw=>by
   rw [Wx,← Yw]; exact Zk fun i hi=>by grind,sumTo_swap]
  refine Wd fun i hi=>?_
  rw [Yw,gain_mean (he i hi),hp.one,hp.bet i hi]
  have:=cents_eq.1 (rfl:Rat.divInt (l.getD i (0,0)).2 12=_)
  rw [Rat.mul_one,this,Rat.mul_zero]
 rw [h2] at h1
 exact absurd h1 (by decide +kernel)
/-! ### Stakes out of a solution -/
def Uy (xs:List Rat):Nat→Nat
 | 0=>1
 | k+1=>Uy xs k / Nat.gcd (Uy xs k) (xs.getD k 0).den*(xs.getD k 0).den
theorem byTo_lcm (xs:List Rat) (k:Nat):Uy xs (k+1)=Nat.lcm (Uy xs k) (xs.getD k 0).den:=by
 rw [Uy,Nat.lcm,Nat.mul_comm,Nat.mul_div_assoc _ (Nat.gcd_dvd_left _ _) |>.symm,Nat.mul_comm]
theorem byTo_pos (xs:List Rat) : ∀ k,0<Uy xs k
 | 0=>Nat.one_pos
 | k+1=>by rw [byTo_lcm]; exact Nat.lcm_pos (byTo_pos xs k) (xs.getD k 0).den_pos
theorem byTo_dvd (xs:List Rat) : ∀ {k i:Nat},i<k→(xs.getD i 0).den∣Uy xs k
 | k+1,i,h=>by
   rw [byTo_lcm]
   by_cases hi:i=k
   · subst hi; exact Nat.dvd_lcm_right _ _
   · exact Nat.dvd_trans (byTo_dvd xs (show i<k by omega)) (Nat.dvd_lcm_left _ _)
theorem byTo_le (xs:List Rat) {D:Nat} : ∀ k,(∀ i,i<k→(xs.getD i 0).den∣D)→Uy xs k∣D
 | 0,_=>Nat.one_dvd _
 | k+1,h=>by
   rw [byTo_lcm]
   exact Nat.lcm_dvd (byTo_le xs k fun i hi=>h i (by omega)) (h k (by omega))
def stkI (on:Nat) (xs:List Rat) (i:Nat):Int:=if on.testBit i then (xs.getD (Zj on i).length 0).num*((Uy xs xs.length / (xs.getD (Zj on i).length 0).den:Nat):Int) else 0
theorem num_up (q:Rat) {N:Nat} (h:q.den∣N) (hN:0<N):((q.num*((N / q.den:Nat):Int):Int):Rat)=q*(N:Rat):=by
 exact ((Rp.own q).up' h hN).2.symm
theorem stk_rat {on m:Nat} {xs:List Rat} (hx:xs.length=(Zj on m).length) {i:Nat} (hi:i<m):((stkI on xs i:Int):Rat)=spr on (fun c=>xs.getD c 0) i*((Uy xs xs.length:Nat):Rat):=by
 rw [stkI,spr]
 split
 · rename_i hb
   have:=Xk hi hb
   exact num_up _ (byTo_dvd xs (by omega)) (byTo_pos _ _)
 · rw [Rat.zero_mul]; rfl
def stkL (on:Nat) (xs:List Rat) (m:Nat):List Int:=(List.range m).map (stkI on xs)
theorem stkL_get {on m:Nat} {xs:List Rat} {i:Nat} (hi:i<m):(stkL on xs m).getD i 0=stkI on xs i:=by
 rw [stkL,List.getD,List.getElem?_map,List.getElem?_eq_getElem (by simpa using hi)]; simp
theorem stk_gain {n:Nat} {l:List (Int×Int)} {on:Nat} {xs:List Rat} (hx:xs.length=(Zj on l.length).length):Uu n l (stkL on xs l.length)=true↔∀ w,w<n→0<Wx l.length (gnQ l) (spr on fun c=>xs.getD c 0) w:=by
 rw [beatsB_iff]
 have h0:(0:Rat)<((Uy xs xs.length:Nat):Rat):=by exact_mod_cast byTo_pos _ _
 have key : ∀ w,((gnTo l (stkL on xs l.length) w l.length:Int):Rat)=((Uy xs xs.length:Nat):Rat)*Wx l.length (gnQ l) (spr on fun c=>xs.getD c 0) w:=fun w=>by
  rw [gnTo_rat,Wx,Wx,← Yw]
  refine Zk fun i hi=>?_
  rw [stkL_get hi,stk_rat hx hi]; grind
 constructor
 · intro h w hw
   have h1:(0:Rat)<((gnTo l (stkL on xs l.length) w l.length:Int):Rat):=by exact_mod_cast h w hw
   rw [key] at h1
   rw [← Rat.not_le]
   intro hc
   have:=Rat.mul_nonneg (Rat.le_of_lt h0) (show 0≤-Wx l.length (gnQ l) (spr on fun c=>xs.getD c 0) w by grind)
   grind
 · intro h w hw
   have h1:=Rat.mul_pos h0 (h w hw)
   rw [← key] at h1
   exact_mod_cast h1
theorem beat_ex {n:Nat} {l:List (Int×Int)} (hn:0<n) (he:Evs n l) (h:Wl n l=[]) : ∃ on set xs,1≤on∧on<2 ^ l.length∧1≤set∧set<2 ^ n∧(Zj set n).length=(Zj on l.length).length ∧
  Wu (Zj set n).length (Zj on l.length).length (sysG l (Zj set n) (Zj on l.length))=some xs∧Uu n l (stkL on xs l.length)=true:=by
 have hg : ∃ s,∀ w,w<n→1≤Wx l.length (gnQ l) s w:=by
  rcases gordan l.length n (gnQ l) with ⟨s,hs⟩ | ⟨p,hp0,hp1,hpG⟩
  · obtain ⟨w,hw,_,hmin⟩:=least_of (fun _=>True) (Wx l.length (gnQ l) s) n ⟨0,hn,trivial⟩
    obtain ⟨μ,hμ⟩ : ∃ μ,Wx l.length (gnQ l) s w=μ:=⟨_,rfl⟩
    have hμp:=hs w hw
    rw [hμ] at hμp hmin
    have hi:μ⁻¹*μ=1:=Rat.inv_mul_cancel _ (by grind)
    have hip:0<μ⁻¹:=Rat.inv_pos.2 hμp
    refine ⟨fun i=>μ⁻¹*s i,fun v hv=>?_⟩
    have h1:Wx l.length (gnQ l) (fun i=>μ⁻¹*s i) v=μ⁻¹*Wx l.length (gnQ l) s v:=by
     rw [Wx,Wx,← Yw]; exact Zk fun i _=>by grind
    rw [h1,← hi]
    exact Rat.mul_le_mul_of_nonneg_left (hmin v hv trivial) (Rat.le_of_lt hip)
  · exfalso
    refine (sound_iff (n:=n) (l:=l)).2 ⟨p,hp0,hp1,fun i hi=>?_⟩ h
    have:=hpG i hi
    rw [gain_mean (he i hi),hp1,Rat.mul_one] at this
    exact cents_eq.2 this
 obtain ⟨s0,hs0⟩:=hg
 obtain ⟨s,hs,hst⟩:=stuck_ex _ s0 (Nat.le_refl _) hs0
 obtain ⟨set,hsn,hset,hlen,hinj⟩:=rows_ex hst
 obtain ⟨on,hon⟩ : ∃ x,msk s l.length=x:=⟨_,rfl⟩
 have hbi : ∀ i,on.testBit i=true↔i<l.length∧s i≠0:=fun i=>by rw [← hon]; exact msk_bit s i l.length
 rw [hon] at hlen
 have hK:0<(Zj on l.length).length:=by
  rcases Nat.eq_zero_or_pos (Zj on l.length).length with hz | hp
  · exfalso
    have h0 : ∀ i,i<l.length→s i=0:=fun i hi=>Classical.byContradiction fun hne=>by
     have:=Xk hi ((hbi i).2 ⟨hi,hne⟩)
     omega
    have h1:=hs 0 hn
    rw [Wx,Wd fun i hi=>by rw [h0 i hi,Rat.mul_zero]] at h1
    exact absurd h1 (by decide +kernel)
  · exact hp
 have nz : ∀ {a k:Nat},0<(Zj a k).length→1≤a:=fun {a k} hk=>by
  rcases Nat.eq_zero_or_pos a with rfl | h
  · obtain ⟨_,_,h3⟩:=Xo hk
    rw [Nat.zero_testBit] at h3; cases h3
  · exact h
 -- rows of the system
 have hrow : ∀ (δ:Nat→Rat) r,Zv (fun c=>sysG l (Zj set n) (Zj on l.length) r c*δ c) (Zj on l.length).length=Wx l.length (gnQ l) (spr on δ) ((Zj set n).getD r 0):=fun δ r=>by
  rw [dot_spr]
  refine Zk fun c hc=>?_
  rw [sysG,if_pos hc]
 have hright : ∀ r,sysG l (Zj set n) (Zj on l.length) r (Zj on l.length).length=1:=fun r=>by
  rw [sysG,if_neg (by omega)]
 have hspr : ∀ w,Wx l.length (gnQ l) (spr on fun c=>s ((Zj on l.length).getD c 0)) w=Wx l.length (gnQ l) s w:=fun w=>by
  refine Zk fun i hi=>?_
  rw [spr]
  split
  · rename_i hb
    rw [Wz hi hb]
  · rename_i hb
    have:s i=0:=Classical.byContradiction fun hne=>hb ((hbi i).2 ⟨hi,hne⟩)
    rw [this]
 have hsol:Sol (Zj set n).length (Zj on l.length).length (sysG l (Zj set n) (Zj on l.length)) fun c=>s ((Zj on l.length).getD c 0):=fun r hr=>by
  rw [hrow,hspr,hright]
  exact (hset _ (Xo hr).2.2).2
 cases hx:Wu (Zj set n).length (Zj on l.length).length (sysG l (Zj set n) (Zj on l.length)) with
 | none =>
   exfalso
   rcases solve_none hx with h1 | ⟨δ,hδ,c,hc,hne⟩
   · exact h1 _ hsol
   · have hz:=hinj (spr on δ) (fun i hi hd=>by
      rw [spr] at hd
      split at hd
      · exact ((hbi i).1 (by assumption)).2
      · exact absurd rfl hd) fun w hw=>by
        have hw1:=(hset w hw).1
        have hr:=Xk hw1 hw
        have:=hδ _ hr
        rw [hrow,Wz hw1 hw] at this
        exact this
     have:=hz _ (Xo hc).2.1
     rw [spr_get δ hc] at this
     exact hne this
 | some xs =>
   obtain ⟨hxl,hxy⟩:=solve_some hx
   have heq:=(hxy _).1 hsol
   refine ⟨on,set,xs,nz hK,by rw [← hon]; exact msk_lt s _,nz (a:=set) (k:=n) (by omega),hsn,hlen,hx,(stk_gain hxl).2 fun w hw=>?_⟩
   have:Wx l.length (gnQ l) (spr on fun c=>xs.getD c 0) w=Wx l.length (gnQ l) s w:=by
    rw [← hspr]
    refine Zk fun i hi=>?_
    rw [spr,spr]
    split
    · rename_i hb
      rw [heq _ (Xk hi hb)]
    · rfl
   rw [this]
   have:=hs w hw
   have e1:(0:Rat)<1:=by decide +kernel
   grind
/-! ### Sizes -/
theorem gnI_le {l:List (Int×Int)} (hl:Cts l) {w i:Nat} (hi:i<l.length):(gnI l w i).natAbs≤12:=by
 have:=hl i hi
 rw [gnI]
 split <;> omega
theorem fac12 : ∀ n,n≤5→facB 12 n*1≤179159040∧(n+1)*(1*facB 12 n)≤179159040∧facB 12 n≤29859840:=by decide
theorem sysG_parts {l:List (Int×Int)} (hl:Cts l) {ws is:List Nat} (his:is.length≤5) (hin : ∀ c,c<is.length→is.getD c 0<l.length) {j:Nat} {S:Wp} (hj:j≤is.length) (hr:Xp ws.length (sysG l ws is) j=some S) :
  ∃ D,0<D∧D≤29859840∧∀ i c,i<ws.length→c≤is.length→∃ x:Int,Rp D x (S i c)∧x.natAbs≤179159040:=by
 obtain ⟨π,g⟩:=elim_gi hr
 obtain ⟨D,h1,h2,h3⟩:=g.parts (P:=Zq 12) (F:=facB 12) (fun n M h=>det_fac n h) (k:=is.length) (N:=1) (B:=1) (X:=179159040) hj (by decide)
  (fun i c hi hc=>by rw [sysG,if_pos hc]; exact ⟨_,rfl,gnI_le hl (hin c hc)⟩) (fun i hi=>by rw [sysG,if_neg (by omega)]; exact ⟨1,by decide +kernel,by decide⟩)
  (fun n hn=>(fac12 n (by omega)).1) (fun n hn=>(fac12 n (by omega)).2.1)
 refine ⟨D,h1,?_,h3⟩
 have:=(fac12 j (by omega)).2.2
 omega
theorem sysG_tame {l:List (Int×Int)} (hl:Cts l) {ws is:List Nat} (his:is.length≤5) (hin : ∀ c,c<is.length→is.getD c 0<l.length) {j:Nat} {S:Wp} (hj:j≤is.length) (hr:Xp ws.length (sysG l ws is) j=some S):Tame ws.length is.length S:=by
 obtain ⟨D,h1,h2,h3⟩:=sysG_parts hl his hin hj hr
 refine ⟨D,h1,by omega,fun i c hi hc=>?_⟩
 obtain ⟨x,h4,h5⟩:=h3 i c hi hc
 exact ⟨x,h4,by omega⟩
theorem sol_small {l:List (Int×Int)} (hl:Cts l) {ws is:List Nat} (his:is.length≤5) (hin : ∀ c,c<is.length→is.getD c 0<l.length) (hle:is.length≤ws.length) {xs:List Rat} (h:Wu ws.length is.length (sysG l ws is)=some xs) :
  xs.length=is.length∧(∀ k,k≤is.length→Uy xs k≤29859840)∧∀ i,i<is.length→((xs.getD i 0).num*((Uy xs xs.length / (xs.getD i 0).den:Nat):Int)).natAbs≤179159040:=by
 have hxl:=(solve_some h).1
 rw [Wu] at h
 cases hr:Xp ws.length (sysG l ws is) is.length with
 | none=>rw [hr] at h; cases h
 | some S =>
   rw [hr] at h
   simp only [Option.bind_some] at h
   split at h
   · cases h
   · cases h
     obtain ⟨D,h1,h2,h3⟩:=sysG_parts hl his hin (Nat.le_refl _) hr
     have hget : ∀ i,i<is.length→((List.range is.length).map fun i=>S i is.length).getD i 0=S i is.length:=fun i hi=>by
      rw [List.getD,List.getElem?_map,List.getElem?_eq_getElem (by simpa using hi)]; simp
     have hd : ∀ k,k≤is.length→∀ i,i<k→(((List.range is.length).map fun i=>S i is.length).getD i 0).den∣D:=fun k hk i hi=>by
      rw [hget i (by omega)]
      obtain ⟨x,h4,_⟩:=h3 i is.length (by omega) (Nat.le_refl _)
      exact h4.dvd
     refine ⟨hxl,fun k hk=>Nat.le_trans (Nat.le_of_dvd h1 (byTo_le _ k (hd k hk))) h2,fun i hi=>?_⟩
     rw [hxl]
     obtain ⟨x,h4,h5⟩:=h3 i is.length (by omega) (Nat.le_refl _)
     have hby:=byTo_dvd ((List.range is.length).map fun i=>S i is.length) hi
     obtain ⟨t,ht⟩:=byTo_le _ is.length (hd _ (Nat.le_refl _))
     obtain ⟨Y,hY⟩ : ∃ Y,Uy ((List.range is.length).map fun i=>S i is.length) is.length=Y:=⟨_,rfl⟩
     have hYp:=byTo_pos ((List.range is.length).map fun i=>S i is.length) is.length
     rw [hget i hi] at hby ⊢
     rw [hY] at hby ht hYp ⊢
     have htp:0<t:=Nat.pos_of_mul_pos_left (ht▸h1)
     have r:=((Rp.own (S i is.length)).up' hby hYp).up t htp
     rw [← ht] at r
     have e:=Rat.intCast_inj.1 (r.2.symm.trans h4.2)
     have h6:((S i is.length).num*((Y / (S i is.length).den:Nat):Int)).natAbs*t=x.natAbs:=by
      have h7:=Int.natAbs_mul ((S i is.length).num*((Y / (S i is.length).den:Nat):Int)) ((t:Nat):Int)
      rw [Int.natAbs_natCast] at h7
      rw [← e]; exact h7.symm
     have:=Nat.le_mul_of_pos_right ((S i is.length).num*((Y / (S i is.length).den:Nat):Int)).natAbs htp
     omega
/-! ### The stakes as they are written -/
def stkP (on:Nat) (xs:List Rat) (m k:Nat):List Int:=(List.range m).map fun i=>if (Zj on i).length<k then stkI on xs i else 0
theorem stkP_len (on:Nat) (xs:List Rat) (m k:Nat):(stkP on xs m k).length=m:=by simp [stkP]
theorem stkP_zero (on:Nat) (xs:List Rat) (m:Nat):stkP on xs m 0=List.replicate m 0:=by
 refine List.ext_getElem (by simp [stkP]) fun i h1 h2=>?_
 simp [stkP]
theorem stkP_full (on:Nat) (xs:List Rat) (m:Nat):stkP on xs m (Zj on m).length=stkL on xs m:=by
 refine List.map_congr_left fun i hi=>?_
 by_cases hb:on.testBit i=true
 · rw [if_pos (Xk (List.mem_range.1 hi) hb)]
 · rw [stkI,if_neg hb]; simp
theorem stkP_step {on m:Nat} (xs:List Rat) {k:Nat} (hk:k<(Zj on m).length):(stkP on xs m k).set ((Zj on m).getD k 0) (stkI on xs ((Zj on m).getD k 0))=stkP on xs m (k+1):=by
 obtain ⟨g1,g2,g3⟩:=Xo hk
 refine List.ext_getElem (by simp [stkP]) fun j h1 h2=>?_
 rw [List.getElem_set]
 by_cases hj:(Zj on m).getD k 0=j
 · rw [if_pos hj]
   subst hj
   simp only [stkP,List.getElem_map,List.getElem_range]
   rw [if_pos (by omega)]
 · rw [if_neg hj]
   simp only [stkP,List.getElem_map,List.getElem_range]
   have hjm:j<m:=by simpa [stkP] using h2
   by_cases hlt:(Zj on j).length<k
   · rw [if_pos hlt,if_pos (by omega)]
   · rw [if_neg hlt]
     by_cases hlt2:(Zj on j).length<k+1
     · rw [if_pos hlt2]
       have hjk:(Zj on j).length=k:=by omega
       by_cases hb:on.testBit j=true
       · have:=Wz hjm hb
         rw [hjk] at this
         exact absurd this hj
       · rw [stkI,if_neg hb]
     · rw [if_neg hlt2]
theorem stkI_at {on m:Nat} (xs:List Rat) {k:Nat} (hk:k<(Zj on m).length):stkI on xs ((Zj on m).getD k 0)=(xs.getD k 0).num*((Uy xs xs.length / (xs.getD k 0).den:Nat):Int):=by
 obtain ⟨g1,g2,g3⟩:=Xo hk
 rw [stkI,if_pos g3,g1]
end Bq
namespace Go.Proofs.Tryd.Am.Be
open Go.Proofs.Tryd.Am
open Go.Am
set_option maxRecDepth 100000
set_option maxHeartbeats 4000000
def minTo (xs:List Int):Nat→Int
 | 0=>xs.getD 0 0
 | k+1=>if xs.getD (k+1) 0<minTo xs k then xs.getD (k+1) 0 else minTo xs k
theorem minTo_spec (xs:List Int) : ∀ k,(∀ i,i≤k→minTo xs k≤xs.getD i 0)∧∃ i,i≤k∧minTo xs k=xs.getD i 0
 | 0=>⟨fun i hi=>by obtain rfl:i=0:=by omega
                    rw [minTo]; exact Int.le_refl _,0,Nat.le_refl _,rfl⟩
 | k+1=>by
   obtain ⟨h1,j,hj,h2⟩:=minTo_spec xs k
   rw [minTo]
   by_cases h:xs.getD (k+1) 0<minTo xs k
   · rw [if_pos h]
     refine ⟨fun i hi=>?_,k+1,Nat.le_refl _,rfl⟩
     by_cases hik:i=k+1
     · subst hik; exact Int.le_refl _
     · have:=h1 i (by omega); omega
   · rw [if_neg h]
     refine ⟨fun i hi=>?_,j,by omega,h2⟩
     by_cases hik:i=k+1
     · subst hik; omega
     · exact h1 i (by omega)
theorem s77_callW [Tabs Tryd.prog] {args:List Value} {h:Zh} {Q:Value→Zh→Prop} (hsz:args.length≤25) (hk:AWS Tryd.prog 25 s77 (Zs Tryd.prog [.tmp 2] Q) (Zp 0 args) h):ACall Tryd.prog 77 args h Q :=
 Yz Tryd.func77 rfl (enters_of Tryd.func77 (by kernel_rfl) rfl) rfl rfl (by decide) s77_strip s77_ok hsz hk
theorem min_call [Tabs prog] {h:Zh} {u:Value} {xs:List Int} (hu:IntSl h u xs) (h0:0<xs.length) (hl:xs.length<9223372036854775808):Xj prog 77 [u] h (Zd (minTo xs (xs.length-1))):=by
 refine s77_callW (by simp) ?_
 simp only [s77]
 refine Zg fun N1 hN1=>?_
 simp (maxSteps:=2000000) only [↓Za,↓Zb,↓Zc,vup,cond_false,aop,Zf,Zp,ev,sput,Ze,Nat.reduceBEq]
 refine hN1 [(0,u),(2,.int .i64 0)] _ _ ?_ (by simp (maxSteps:=2000000) only [vup,cond_true,cond_false,Nat.reduceBEq])
 clear hN1
 try clear N1
 have h1 : ¬ (xs.length:Int)<1:=by omega
 refine Zt fun M hM=>?_
 refine Zg fun N2 hN2=>?_
 simp (maxSteps:=2000000) only [↓Za,↓Zb,↓Zc,vup,List.map_cons,List.map_nil,cond_true,cond_false,aop,Zf,ev,sput,Ze,Yf,Yi,Zi,Nat.reduceBEq,tyf,hu.len,h1]
 refine hN2 [(0,u),(2,.int .i64 0),(7,.bool false)] _ _ ?_ (by simp (maxSteps:=2000000) only [vup,cond_true,cond_false,Nat.reduceBEq])
 clear hN2
 try clear N2
 refine Xh rfl ?_
 refine Zm ?_
 simp (maxSteps:=2000000) only [↓Zn,Zf]
 refine hM [(0,u),(2,.int .i64 0)] _ _ ?_ (by simp (maxSteps:=2000000) only [vup,cond_true,cond_false,Nat.reduceBEq])
 clear hM
 try clear M
 have hi0:=fun K=>hu.idx Vy Wm (k:=.i64) h0 K
 rw [Int.natCast_zero] at hi0
 refine Zg fun N3 hN3=>?_
 simp (maxSteps:=2000000) only [↓Za,↓Zb,↓Zc,vup,cond_true,cond_false,aop,Zf,ev,sput,Ze,Nat.reduceBEq,hi0,hu.load Yy h0]
 refine hN3 [(0,u),(2,.int .i64 0),(3,Zd (xs.getD 0 0))] _ _ ?_ (by simp (maxSteps:=2000000) only [vup,cond_true,cond_false,Nat.reduceBEq])
 clear hN3
 try clear N3
 refine Zt fun Z hZ=>?_
 refine Zg fun N4 hN4=>?_
 simp (maxSteps:=2000000) only [↓Za,↓Zb,↓Zc,vup,cond_false,aop,Zf,ev,sput,Ze,Nat.reduceBEq]
 refine hN4 [(0,u),(2,.int .i64 0),(3,Zd (xs.getD 0 0)),(4,.int .i64 1)] _ _ ?_ (by simp (maxSteps:=2000000) only [vup,cond_true,cond_false,Nat.reduceBEq])
 clear hN4
 try clear N4
 refine Zx ?_
 refine Zy fun Q hQ=>?_
 refine Xa (γ:=Nat) (fun k=>k<xs.length)
  (fun k=>([(0,u),(2,.int .i64 0),(3,Zd (minTo xs k)),(4,Zd ((k+1:Nat):Int))],h)) (fun k=>xs.length-k) 0 h0 (by simp (maxSteps:=2000000) only [vup,cond_true,cond_false,Nat.reduceBEq,minTo,Nat.zero_add,Int.natCast_one]) rfl ?_
 rintro k hk
 refine Zy fun Q2 hQ2=>?_
 simp only [l77_0]
 obtain ⟨j,hj⟩ : ∃ j,k+1=j:=⟨_,rfl⟩
 rw [hj]
 by_cases hin:(j:Int)<xs.length
 · have hk' : j<xs.length:=by omega
   refine Zt fun C hC=>?_
   refine Zg fun N5 hN5=>?_
   simp (maxSteps:=2000000) only [↓Za,↓Zb,↓Zc,vup,List.map_cons,List.map_nil,cond_true,cond_false,aop,Zf,ev,sput,Ze,Yf,Yi,Zi,Nat.reduceBEq,tyf,hu.len,hin]
   refine hN5 [(0,u),(2,.int .i64 0),(3,Zd (minTo xs k)),(4,Zd (j:Nat)),(15,.bool true)] _ _ ?_ (by simp (maxSteps:=2000000) only [vup,cond_true,cond_false,Nat.reduceBEq])
   clear hN5
   try clear N5
   refine Zm ?_
   simp (maxSteps:=2000000) only [↓Zn,↓vdn,vup,cond_true,cond_false,Zf,ev,Nat.reduceBEq]
   refine hC [(0,u),(2,.int .i64 0),(3,Zd (minTo xs k)),(4,Zd (j:Nat))] _ _ ?_ (by simp (maxSteps:=2000000) only [vup,cond_true,cond_false,Nat.reduceBEq])
   clear hC
   try clear C
   refine Zt fun B hB=>?_
   refine Zx ?_
   refine Zm ?_
   have hm:(if xs.getD j 0<minTo xs k then xs.getD j 0 else minTo xs k)=minTo xs j:=by
    rw [← hj,minTo]
   simp (maxSteps:=2000000) only [↓Za,↓Zb,↓Zc,vup,List.map_cons,List.map_nil,cond_true,cond_false,aop,Zf,Zo,ev,sput,Ze,Zi,Nat.reduceBEq,hu.idx Vy Wm hk',hu.load Yy hk',mmK,Bool.false_eq_true,if_false,gt_iff_lt,hm]
   refine hB [(0,u),(2,.int .i64 0),(3,Zd (minTo xs j)),(4,Zd (j:Nat))] _ _ ?_ (by simp (maxSteps:=2000000) only [vup,cond_true,cond_false,Nat.reduceBEq])
   clear hB
   try clear B
   refine Zm ?_
   simp (maxSteps:=2000000) only [↓Za,↓Zb,↓Zc,vup,cond_true,cond_false,aop,ev,sput,Ze,Yf,Yi,Nat.reduceBEq,add1 (show j<9223372036854775807 by omega)]
   exact hQ2 _ _ _ ⟨j,hk',by omega,by simp (maxSteps:=2000000) only [vup,cond_true,cond_false,Nat.reduceBEq],rfl⟩
 · refine Zg fun N6 hN6=>?_
   simp (maxSteps:=2000000) only [↓Za,↓Zl,↓Yo,↓Zb,↓Zc,↓vdn,vup,List.map_cons,List.map_nil,cond_true,cond_false,aop,Zf,ev,sput,Ze,Yf,Yi,Zi,Nat.reduceBEq,tyf,hu.len,hin]
   refine hQ2 _ _ _ (hQ _ _ _ ?_)
   simp (maxSteps:=2000000) only [Zf,Zo,Zs,if_true]
   refine hZ [(0,u),(2,.int .i64 0),(3,Zd (minTo xs k))] _ _ ?_ (by simp (maxSteps:=2000000) only [vup,cond_true,cond_false,Nat.reduceBEq])
   clear hZ
   try clear Z
   have hn:xs.length-1=k:=by omega
   rw [hn]
   refine Zm ?_
   simp (maxSteps:=2000000) only [↓Za,↓Zl,↓Zu,↓Zb,↓Zc,vup,cond_true,cond_false,aop,Zf,ev,sput,Ze,Nat.reduceBEq,Zs,Xn,tup]
def maxTo (xs:List Int):Nat→Int
 | 0=>xs.getD 0 0
 | k+1=>if xs.getD (k+1) 0 > maxTo xs k then xs.getD (k+1) 0 else maxTo xs k
theorem maxTo_spec (xs:List Int) : ∀ k,(∀ i,i≤k→xs.getD i 0≤maxTo xs k)∧∃ i,i≤k∧maxTo xs k=xs.getD i 0
 | 0=>⟨fun i hi=>by obtain rfl:i=0:=by omega
                    rw [maxTo]; exact Int.le_refl _,0,Nat.le_refl _,rfl⟩
 | k+1=>by
   obtain ⟨h1,j,hj,h2⟩:=maxTo_spec xs k
   rw [maxTo]
   by_cases h:xs.getD (k+1) 0 > maxTo xs k
   · rw [if_pos h]
     refine ⟨fun i hi=>?_,k+1,Nat.le_refl _,rfl⟩
     by_cases hik:i=k+1
     · subst hik; exact Int.le_refl _
     · have:=h1 i (by omega); omega
   · rw [if_neg h]
     refine ⟨fun i hi=>?_,j,by omega,h2⟩
     by_cases hik:i=k+1
     · subst hik; omega
     · exact h1 i (by omega)
theorem s78_callW [Tabs Tryd.prog] {args:List Value} {h:Zh} {Q:Value→Zh→Prop} (hsz:args.length≤25) (hk:AWS Tryd.prog 25 s78 (Zs Tryd.prog [.tmp 2] Q) (Zp 0 args) h):ACall Tryd.prog 78 args h Q :=
 Yz Tryd.func78 rfl (enters_of Tryd.func78 (by kernel_rfl) rfl) rfl rfl (by decide) s78_strip s78_ok hsz hk
theorem max_call [Tabs prog] {h:Zh} {u:Value} {xs:List Int} (hu:IntSl h u xs) (h0:0<xs.length) (hl:xs.length<9223372036854775808):Xj prog 78 [u] h (Zd (maxTo xs (xs.length-1))):=by
 refine s78_callW (by simp) ?_
 simp only [s78]
 refine Zg fun N7 hN7=>?_
 simp (maxSteps:=2000000) only [↓Za,↓Zb,↓Zc,vup,cond_false,aop,Zf,Zp,ev,sput,Ze,Nat.reduceBEq]
 refine hN7 [(0,u),(2,.int .i64 0)] _ _ ?_ (by simp (maxSteps:=2000000) only [vup,cond_true,cond_false,Nat.reduceBEq])
 clear hN7
 try clear N7
 have h1 : ¬ (xs.length:Int)<1:=by omega
 refine Zt fun M hM=>?_
 refine Zg fun N8 hN8=>?_
 simp (maxSteps:=2000000) only [↓Za,↓Zb,↓Zc,vup,List.map_cons,List.map_nil,cond_true,cond_false,aop,Zf,ev,sput,Ze,Yf,Yi,Zi,Nat.reduceBEq,tyf,hu.len,h1]
 refine hN8 [(0,u),(2,.int .i64 0),(7,.bool false)] _ _ ?_ (by simp (maxSteps:=2000000) only [vup,cond_true,cond_false,Nat.reduceBEq])
 clear hN8
 try clear N8
 refine Xh rfl ?_
 refine Zm ?_
 simp (maxSteps:=2000000) only [↓Zn,Zf]
 refine hM [(0,u),(2,.int .i64 0)] _ _ ?_ (by simp (maxSteps:=2000000) only [vup,cond_true,cond_false,Nat.reduceBEq])
 clear hM
 try clear M
 have hi0:=fun K=>hu.idx Vy Wm (k:=.i64) h0 K
 rw [Int.natCast_zero] at hi0
 refine Zg fun N9 hN9=>?_
 simp (maxSteps:=2000000) only [↓Za,↓Zb,↓Zc,vup,cond_true,cond_false,aop,Zf,ev,sput,Ze,Nat.reduceBEq,hi0,hu.load Yy h0]
 refine hN9 [(0,u),(2,.int .i64 0),(3,Zd (xs.getD 0 0))] _ _ ?_ (by simp (maxSteps:=2000000) only [vup,cond_true,cond_false,Nat.reduceBEq])
 clear hN9
 try clear N9
 refine Zt fun Z hZ=>?_
 refine Zg fun N10 hN10=>?_
 simp (maxSteps:=2000000) only [↓Za,↓Zb,↓Zc,vup,cond_false,aop,Zf,ev,sput,Ze,Nat.reduceBEq]
 refine hN10 [(0,u),(2,.int .i64 0),(3,Zd (xs.getD 0 0)),(4,.int .i64 1)] _ _ ?_ (by simp (maxSteps:=2000000) only [vup,cond_true,cond_false,Nat.reduceBEq])
 clear hN10
 try clear N10
 refine Zx ?_
 refine Zy fun Q hQ=>?_
 refine Xa (γ:=Nat) (fun k=>k<xs.length)
  (fun k=>([(0,u),(2,.int .i64 0),(3,Zd (maxTo xs k)),(4,Zd ((k+1:Nat):Int))],h)) (fun k=>xs.length-k) 0 h0 (by simp (maxSteps:=2000000) only [vup,cond_true,cond_false,Nat.reduceBEq,maxTo,Nat.zero_add,Int.natCast_one]) rfl ?_
 rintro k hk
 refine Zy fun Q2 hQ2=>?_
 simp only [l78_0]
 obtain ⟨j,hj⟩ : ∃ j,k+1=j:=⟨_,rfl⟩
 rw [hj]
 by_cases hin:(j:Int)<xs.length
 · have hk' : j<xs.length:=by omega
   refine Zt fun C hC=>?_
   refine Zg fun N11 hN11=>?_
   simp (maxSteps:=2000000) only [↓Za,↓Zb,↓Zc,vup,List.map_cons,List.map_nil,cond_true,cond_false,aop,Zf,ev,sput,Ze,Yf,Yi,Zi,Nat.reduceBEq,tyf,hu.len,hin]
   refine hN11 [(0,u),(2,.int .i64 0),(3,Zd (maxTo xs k)),(4,Zd (j:Nat)),(15,.bool true)] _ _ ?_ (by simp (maxSteps:=2000000) only [vup,cond_true,cond_false,Nat.reduceBEq])
   clear hN11
   try clear N11
   refine Zm ?_
   simp (maxSteps:=2000000) only [↓Zn,↓vdn,vup,cond_true,cond_false,Zf,ev,Nat.reduceBEq]
   refine hC [(0,u),(2,.int .i64 0),(3,Zd (maxTo xs k)),(4,Zd (j:Nat))] _ _ ?_ (by simp (maxSteps:=2000000) only [vup,cond_true,cond_false,Nat.reduceBEq])
   clear hC
   try clear C
   refine Zt fun B hB=>?_
   refine Zx ?_
   refine Zm ?_
   have hm:(if xs.getD j 0 > maxTo xs k then xs.getD j 0 else maxTo xs k)=maxTo xs j:=by
    rw [← hj,maxTo]
   simp (maxSteps:=2000000) only [↓Za,↓Zb,↓Zc,vup,List.map_cons,List.map_nil,cond_true,cond_false,aop,Zf,Zo,ev,sput,Ze,Zi,Nat.reduceBEq,hu.idx Vy Wm hk',hu.load Yy hk',mmK,if_true,gt_iff_lt,hm]
   refine hB [(0,u),(2,.int .i64 0),(3,Zd (maxTo xs j)),(4,Zd (j:Nat))] _ _ ?_ (by simp (maxSteps:=2000000) only [vup,cond_true,cond_false,Nat.reduceBEq])
   clear hB
   try clear B
   refine Zm ?_
   simp (maxSteps:=2000000) only [↓Za,↓Zb,↓Zc,vup,cond_true,cond_false,aop,ev,sput,Ze,Yf,Yi,Nat.reduceBEq,add1 (show j<9223372036854775807 by omega)]
   exact hQ2 _ _ _ ⟨j,hk',by omega,by simp (maxSteps:=2000000) only [vup,cond_true,cond_false,Nat.reduceBEq],rfl⟩
 · refine Zg fun N12 hN12=>?_
   simp (maxSteps:=2000000) only [↓Za,↓Zl,↓Yo,↓Zb,↓Zc,↓vdn,vup,List.map_cons,List.map_nil,cond_true,cond_false,aop,Zf,ev,sput,Ze,Yf,Yi,Zi,Nat.reduceBEq,tyf,hu.len,hin]
   refine hQ2 _ _ _ (hQ _ _ _ ?_)
   simp (maxSteps:=2000000) only [Zf,Zo,Zs,if_true]
   refine hZ [(0,u),(2,.int .i64 0),(3,Zd (maxTo xs k))] _ _ ?_ (by simp (maxSteps:=2000000) only [vup,cond_true,cond_false,Nat.reduceBEq])
   clear hZ
   try clear Z
   have hn:xs.length-1=k:=by omega
   rw [hn]
   refine Zm ?_
   simp (maxSteps:=2000000) only [↓Za,↓Zl,↓Zu,↓Zb,↓Zc,vup,cond_true,cond_false,aop,Zf,ev,sput,Ze,Nat.reduceBEq,Zs,Xn,tup]
end Go.Proofs.Tryd.Am.Be
namespace Go.Proofs.Tryd.Am.Be
open Go.Proofs.Tryd.Am
open Go.Am Bq
set_option maxRecDepth 100000
set_option maxHeartbeats 4000000
theorem s73_callW [Tabs Tryd.prog] {args:List Value} {h:Zh} {Q:Value→Zh→Prop} (hsz:args.length≤14) (hk:AWS Tryd.prog 14 s73 (Zs Tryd.prog [.tmp 4] Q) (Zp 0 args) h):ACall Tryd.prog 73 args h Q :=
 Yz Tryd.func73 rfl (enters_of Tryd.func73 (by kernel_rfl) rfl) rfl rfl (by decide) s73_strip s73_ok hsz hk
theorem gain_call [Tabs prog] {h:Zh} {x w:Nat} {y:Int} (hx:x<4294967296) (hy:0≤y∧y≤12):Xj prog 73 [.agg #[Zd (x:Nat),Zd y],Zd (w:Nat)] h (Zd ((if x.testBit w then 12 else 0)-y)):=by
 refine ACall.forget (Low.int _ _) ?_
 obtain ⟨H,hH⟩ : ∃ H,H=h++[bB (x:Nat) y]:=⟨_,rfl⟩
 have hE:Ext (fun _=>False) h H:=by rw [hH]; exact Ext.app _ _ _
 have b2:H[h.length]? = some (bB (x:Nat) y):=by rw [hH]; exact Zr _ _
 have hbx : ∀ {K:Value→Zh→Prop},boxK prog h 51 (.agg #[Zd (x:Nat),Zd y]) K=K (Yg h) H:=fun {K}=>by
  rw [hH]; simp [boxK,esz_51,Yg,cellsOf]
 have l0 : ∀ {K:Value→Prop},Xs prog H 3 (.pointer (some ⟨h.length,0,none⟩)) K=K (Zd (x:Nat)):=fun {K}=>loadC b2 Yy rfl
 have l1 : ∀ {K:Value→Prop},Xs prog H 3 (.pointer (some ⟨h.length,1,none⟩)) K=K (Zd y):=fun {K}=>loadC b2 Yy rfl
 have ht:=testV (a:=x) (y:=w) (by omega)
 have m1:mulV .i64 (if x.testBit w=true then 1 else 0) 12=if x.testBit w=true then 12 else 0:=by cases x.testBit w <;> rfl
 have m2:subV .i64 (if x.testBit w=true then 12 else 0) y=(if x.testBit w=true then 12 else 0)-y:=by
  rw [subV_id]
  · split <;> omega
  · split <;> omega
 refine s73_callW (by simp) ?_
 simp only [s73]
 refine Zg fun N1 hN1=>?_
 simp (maxSteps:=2000000) only [↓Za,↓Zb,↓Zc,vup,cond_true,cond_false,aop,Zf,Zp,ev,sput,Ze,Nat.reduceBEq,Nat.reduceAdd,hbx,Yg]
 refine hN1 [(0,.agg #[Zd (x:Nat),Zd y]),(1,Zd (w:Nat)),(2,.pointer (some ⟨h.length,0,none⟩)),(4,.int .i64 0)] _ _ ?_ (by simp (maxSteps:=2000000) only [vup,cond_true,cond_false,Nat.reduceBEq])
 clear hN1
 try clear N1
 refine Zg fun N2 hN2=>?_
 simp only [q73_1]
 refine Yx [] (by kernel_rfl) (by kernel_rfl) (by kernel_rfl) (by kernel_rfl) ?_
 simp (maxSteps:=2000000) only [↓Zz,↓vdn,vup,cond_true,cond_false,aop,Zf,ev,sput,Ze,Yf,Yi,Nat.reduceBEq,Nat.reduceAdd,tyf,bA0,bA1,l0,l1,ht,m1,m2]
 refine hN2 [(0,.agg #[Zd (x:Nat),Zd y]),(1,Zd (w:Nat)),(2,.pointer (some ⟨h.length,0,none⟩)),(4,Zd ((if x.testBit w=true then 12 else 0)-y))] _ _ ?_ (by simp (maxSteps:=2000000) only [vup,cond_true,cond_false,Nat.reduceBEq])
 clear hN2
 try clear N2
 refine Zm ?_
 simp (maxSteps:=2000000) only [↓Zu,vup,cond_true,cond_false,Nat.reduceBEq,Zs,Xn,tup]
 exact hE
def SmS (ss:List Int):Prop:=∀ i,(ss.getD i 0).natAbs≤1000000000
theorem gnTo_le {l:List (Int×Int)} {ss:List Int} (hl:Cts l) (hs:SmS ss) (w:Nat) : ∀ k,k≤l.length→(gnTo l ss w k).natAbs≤k*12000000000∧(∀ i,i<k→(ss.getD i 0*gnI l w i).natAbs≤12000000000)
 | 0,_=>⟨by rw [gnTo]; decide,fun i hi=>by omega⟩
 | k+1,hk=>by
   obtain ⟨h1,h2⟩:=gnTo_le hl hs w k (by omega)
   have h3:=gnI_le hl (w:=w) (show k<l.length by omega)
   have h4:(ss.getD k 0*gnI l w k).natAbs≤12000000000:=by
    rw [Int.natAbs_mul]
    exact Nat.le_trans (Nat.mul_le_mul (hs k) h3) (by decide)
   refine ⟨by rw [gnTo]; omega,fun i hi=>?_⟩
   by_cases hik:i=k
   · rw [hik]; exact h4
   · exact h2 i (by omega)
theorem beatsTo_false {n:Nat} {l:List (Int×Int)} {ss:List Int} {w:Nat} (hw:w<n) (h : ¬ 0<gnTo l ss w l.length):Uu n l ss=false:=by
 rw [← Bool.not_eq_true,beatsB_iff]
 exact fun hc=>h (hc w hw)
theorem s76_callW [Tabs Tryd.prog] {args:List Value} {h:Zh} {Q:Value→Zh→Prop} (hsz:args.length≤36) (hk:AWS Tryd.prog 36 s76 (Zs Tryd.prog [.tmp 4] Q) (Zp 0 args) h):ACall Tryd.prog 76 args h Q :=
 Yz Tryd.func76 rfl (enters_of Tryd.func76 (by kernel_rfl) rfl) rfl rfl (by decide) s76_strip s76_ok hsz hk
theorem beats_call [Tabs prog] {h:Zh} {n:Nat} {v u:Value} {l:List (Int×Int)} {ss:List Int} (hv:PairSl h v l) (hu:IntSl h u ss) (hval:validB n l=true) (hlen:ss.length=l.length) (hs:SmS ss) :
  Xj prog 76 [.agg #[Zd (n:Nat),v],u] h (.bool (Uu n l ss)):=by
 refine ACall.forget (Low.bool _) ?_
 obtain ⟨hn2,hn5,hl1,hl6,hok⟩:=Vp hval
 have hct:=cts_of hval
 obtain ⟨p,m,c,rfl⟩:=Uq hv
 obtain ⟨H,hH⟩ : ∃ H,H=h++[Blk.cells [Zd (n:Nat),.slice p m c] 117 false]:=⟨_,rfl⟩
 have hE:Ext (fun _=>False) h H:=by rw [hH]; exact Ext.app _ _ _
 have b2:H[h.length]? = some (.cells [Zd (n:Nat),.slice p m c] 117 false):=by rw [hH]; exact Zr _ _
 have hvH:=hv.ext hE
 refine s76_callW (by simp) ?_
 simp only [s76]
 refine Zg fun N3 hN3=>?_
 simp (maxSteps:=2000000) only [↓Za,↓Zb,↓Zc,vup,cond_true,cond_false,aop,Zf,Zp,ev,sput,Ze,Nat.reduceBEq,Nat.reduceAdd,boxT,Yg]
 rw [← hH]
 refine hN3 [(0,.agg #[Zd (n:Nat),.slice p m c]),(1,u),(2,.pointer (some ⟨h.length,0,none⟩)),(4,.bool false)] _ _ ?_ (by simp (maxSteps:=2000000) only [vup,cond_true,cond_false,Nat.reduceBEq])
 clear hN3
 try clear N3
 refine Zt fun Z hZ=>?_
 refine Zg fun N4 hN4=>?_
 simp (maxSteps:=2000000) only [↓Za,↓Zb,↓Zc,vup,cond_true,cond_false,aop,Zf,ev,sput,Ze,Nat.reduceBEq,tA0,Jg b2]
 refine hN4 [(0,.agg #[Zd (n:Nat),.slice p m c]),(1,u),(2,.pointer (some ⟨h.length,0,none⟩)),(4,.bool false),(9,.pointer (some ⟨h.length,0,none⟩)),(10,Zd (n:Nat)),(11,.int .i64 0)] _ _ ?_ (by simp (maxSteps:=2000000) only [vup,cond_true,cond_false,Nat.reduceBEq])
 clear hN4
 try clear N4
 refine Zx ?_
 refine Zy fun Q hQ=>?_
 refine Xa (γ:=Nat×Zh) (fun s=>s.1≤n∧(∀ w,w<s.1→0<gnTo l ss w l.length)∧Ext (fun _=>False) H s.2)
  (fun s=>([(0,.agg #[Zd (n:Nat),.slice p m c]),(1,u),(2,.pointer (some ⟨h.length,0,none⟩)),(4,.bool false),(9,.pointer (some ⟨h.length,0,none⟩)),(10,Zd (n:Nat)),(11,Zd (s.1:Nat))],s.2)) (fun s=>n-s.1) (0,H) ⟨Nat.zero_le _,fun w hw=>absurd hw (Nat.not_lt_zero w),Ext.refl _ _⟩ (by simp (maxSteps:=2000000) only [vup,cond_true,cond_false,Nat.reduceBEq,Int.natCast_zero]) rfl ?_
 rintro ⟨w,hp⟩ ⟨hk,hall,hEp⟩
 simp only at hk hall hEp
 refine Zy fun Q2 hQ2=>?_
 simp only [l76_1]
 by_cases hin:(w:Int)<(n:Nat)
 · have hw:w<n:=by omega
   have c2:=(hEp.2 _ (Yb b2) id).trans b2
   have hvp:=hvH.ext hEp
   refine Zg fun N5 hN5=>?_
   simp (maxSteps:=2000000) only [↓Za,↓Zb,↓Zc,vup,cond_true,cond_false,aop,Zf,ev,sput,Ze,Yf,Yi,Nat.reduceBEq,hin]
   refine hN5 [(0,.agg #[Zd (n:Nat),.slice p m c]),(1,u),(2,.pointer (some ⟨h.length,0,none⟩)),(4,.bool false),(9,.pointer (some ⟨h.length,0,none⟩)),(10,Zd (n:Nat)),(11,Zd (w:Nat)),(12,.bool true)] _ _ ?_ (by simp (maxSteps:=2000000) only [vup,cond_true,cond_false,Nat.reduceBEq])
   clear hN5
   try clear N5
   refine Zg fun N6 hN6=>?_
   simp (maxSteps:=2000000) only [↓Zn,↓vdn,vup,cond_true,cond_false,Zf,ev,Nat.reduceBEq]
   refine hN6 [(0,.agg #[Zd (n:Nat),.slice p m c]),(1,u),(2,.pointer (some ⟨h.length,0,none⟩)),(4,.bool false),(9,.pointer (some ⟨h.length,0,none⟩)),(10,Zd (n:Nat)),(11,Zd (w:Nat))] _ _ ?_ (by simp (maxSteps:=2000000) only [vup,cond_true,cond_false,Nat.reduceBEq])
   clear hN6
   try clear N6
   refine Zt fun B hB=>?_
   refine Zx ?_
   refine Zg fun N7 hN7=>?_
   simp (maxSteps:=2000000) only [↓Za,↓Zb,↓Zc,vup,cond_true,cond_false,aop,Zf,ev,sput,Ze,Nat.reduceBEq]
   refine hN7 [(0,.agg #[Zd (n:Nat),.slice p m c]),(1,u),(2,.pointer (some ⟨h.length,0,none⟩)),(4,.bool false),(5,Zd (w:Nat)),(9,.pointer (some ⟨h.length,0,none⟩)),(10,Zd (n:Nat)),(11,Zd (w:Nat))] _ _ ?_ (by simp (maxSteps:=2000000) only [vup,cond_true,cond_false,Nat.reduceBEq])
   clear hN7
   try clear N7
   refine Zg fun N8 hN8=>?_
   simp (maxSteps:=2000000) only [↓Za,↓Zb,↓Zc,vup,cond_false,aop,Zf,ev,sput,Ze,Nat.reduceBEq]
   refine hN8 [(0,.agg #[Zd (n:Nat),.slice p m c]),(1,u),(2,.pointer (some ⟨h.length,0,none⟩)),(4,.bool false),(5,Zd (w:Nat)),(6,.int .i64 0),(9,.pointer (some ⟨h.length,0,none⟩)),(10,Zd (n:Nat)),(11,Zd (w:Nat))] _ _ ?_ (by simp (maxSteps:=2000000) only [vup,cond_true,cond_false,Nat.reduceBEq])
   clear hN8
   try clear N8
   refine Zt fun Y hY=>?_
   refine Zg fun N9 hN9=>?_
   simp (maxSteps:=2000000) only [↓Za,↓Zb,↓Zc,vup,List.map_cons,List.map_nil,cond_true,cond_false,aop,Zf,ev,sput,Ze,Zi,Nat.reduceBEq,tyf,tA1,loadT1 c2,hvp.len]
   refine hN9 [(0,.agg #[Zd (n:Nat),.slice p m c]),(1,u),(2,.pointer (some ⟨h.length,0,none⟩)),(4,.bool false),(5,Zd (w:Nat)),(6,.int .i64 0),(9,.pointer (some ⟨h.length,0,none⟩)),(10,Zd (n:Nat)),(11,Zd (w:Nat)),(14,.pointer (some ⟨h.length,1,none⟩)),(15,.slice p m c),(16,Zd l.length),(17,.int .i64 0)] _ _ ?_ (by simp (maxSteps:=2000000) only [vup,cond_true,cond_false,Nat.reduceBEq])
   clear hN9
   try clear N9
   refine Zx ?_
   refine Zy fun Q3 hQ3=>?_
   refine Xa (γ:=Nat×Zh) (fun s=>s.1≤l.length∧Ext (fun _=>False) H s.2)
    (fun s=>([(0,.agg #[Zd (n:Nat),.slice p m c]),(1,u),(2,.pointer (some ⟨h.length,0,none⟩)),(4,.bool false),(5,Zd (w:Nat)),(6,Zd (gnTo l ss w s.1)),(9,.pointer (some ⟨h.length,0,none⟩)),(10,Zd (n:Nat)),(11,Zd (w:Nat)),(14,.pointer (some ⟨h.length,1,none⟩)),(15,.slice p m c),(16,Zd l.length),(17,Zd (s.1:Nat))],s.2)) (fun s=>l.length-s.1) (0,hp) ⟨Nat.zero_le _,hEp⟩ (by simp (maxSteps:=2000000) only [vup,cond_true,cond_false,Nat.reduceBEq,Int.natCast_zero,gnTo]) rfl ?_
   rintro ⟨i,hq⟩ ⟨hi,hEq⟩
   simp only at hi hEq
   refine Zy fun Q4 hQ4=>?_
   simp only [l76_0]
   by_cases hin2:(i:Int)<l.length
   · have hi' : i<l.length:=by omega
     have hi2:i<ss.length:=by omega
     have hvq:=hvH.ext hEq
     obtain ⟨⟨x,y⟩,hxy⟩ : ∃ p,l.getD i (0,0)=p:=⟨_,rfl⟩
     have hb:=hok i hi'
     rw [hxy] at hb
     simp only [okB,Bool.and_eq_true,decide_eq_true_eq] at hb
     obtain ⟨e,he⟩ : ∃ e:Nat,x=e:=⟨x.toNat,by omega⟩
     subst he
     have hpow:(2:Int) ^ n≤32:=by
      have h1:(2:Nat) ^ n≤2 ^ 5:=Nat.pow_le_pow_right (by decide) hn5
      exact_mod_cast h1
     obtain ⟨G,hG⟩ : ∃ G,G=hq++[bB e y]:=⟨_,rfl⟩
     have c8:G[hq.length]? = some (bB e y):=by rw [hG]; exact Zr _ _
     have hEG:Ext (fun _=>False) H G:=by rw [hG]; exact hEq.trans (Ext.app _ _ _)
     have huG:IntSl G u ss:=hu.same fun b hb=>(hE.trans hEG).2 b (hu.lt hb) id
     refine Zg fun N10 hN10=>?_
     simp (maxSteps:=2000000) only [↓Za,↓Zb,↓Zc,vup,cond_true,cond_false,aop,Zf,ev,sput,Ze,Yf,Yi,Nat.reduceBEq,hin2]
     refine hN10 [(0,.agg #[Zd (n:Nat),.slice p m c]),(1,u),(2,.pointer (some ⟨h.length,0,none⟩)),(4,.bool false),(5,Zd (w:Nat)),(6,Zd (gnTo l ss w i)),(9,.pointer (some ⟨h.length,0,none⟩)),(10,Zd (n:Nat)),(11,Zd (w:Nat)),(14,.pointer (some ⟨h.length,1,none⟩)),(15,.slice p m c),(16,Zd l.length),(17,Zd (i:Nat)),(18,.bool true)] _ _ ?_ (by simp (maxSteps:=2000000) only [vup,cond_true,cond_false,Nat.reduceBEq])
     clear hN10
     try clear N10
     refine Zg fun N11 hN11=>?_
     simp (maxSteps:=2000000) only [↓Zn,↓vdn,vup,cond_true,cond_false,Zf,ev,Nat.reduceBEq]
     refine hN11 [(0,.agg #[Zd (n:Nat),.slice p m c]),(1,u),(2,.pointer (some ⟨h.length,0,none⟩)),(4,.bool false),(5,Zd (w:Nat)),(6,Zd (gnTo l ss w i)),(9,.pointer (some ⟨h.length,0,none⟩)),(10,Zd (n:Nat)),(11,Zd (w:Nat)),(14,.pointer (some ⟨h.length,1,none⟩)),(15,.slice p m c),(16,Zd l.length),(17,Zd (i:Nat))] _ _ ?_ (by simp (maxSteps:=2000000) only [vup,cond_true,cond_false,Nat.reduceBEq])
     clear hN11
     try clear N11
     refine Zt fun C hC=>?_
     refine Zx ?_
     refine Zg fun N12 hN12=>?_
     simp (maxSteps:=2000000) only [↓Za,↓Zb,↓Zc,vup,cond_true,cond_false,aop,Zf,ev,sput,Ze,Nat.reduceBEq,tyf,hvq.idx el_46 esz_51 hi',hvq.load shp_51 hi',hxy,Xg,Yg,storeBt (Zr hq zB) rfl,set_new]
     rw [← hG]
     refine hN12 [(0,.agg #[Zd (n:Nat),.slice p m c]),(1,u),(2,.pointer (some ⟨h.length,0,none⟩)),(4,.bool false),(5,Zd (w:Nat)),(6,Zd (gnTo l ss w i)),(7,Zd (i:Nat)),(8,.pointer (some ⟨hq.length,0,none⟩)),(9,.pointer (some ⟨h.length,0,none⟩)),(10,Zd (n:Nat)),(11,Zd (w:Nat)),(14,.pointer (some ⟨h.length,1,none⟩)),(15,.slice p m c),(16,Zd l.length),(17,Zd (i:Nat))] _ _ ?_ (by simp (maxSteps:=2000000) only [vup,cond_true,cond_false,Nat.reduceBEq])
     clear hN12
     try clear N12
     refine Zm ?_
     obtain ⟨g1,g2⟩:=gnTo_le hct hs w (i+1) (by omega)
     have g3:=(gnTo_le hct hs w i (by omega)).1
     have g4:=g2 i (by omega)
     have hgn:gnI l w i=(if e.testBit w then 12 else 0)-y:=by rw [gnI,hxy,Int.toNat_natCast]
     rw [hgn] at g4
     have gc:=gain_call (h:=G) (x:=e) (w:=w) (y:=y) (by omega) (by omega)
     have m1:mulV .i64 (ss.getD i 0) ((if e.testBit w=true then 12 else 0)-y)=ss.getD i 0*((if e.testBit w=true then 12 else 0)-y):=mulN (by omega)
     have a1:addV .i64 (gnTo l ss w i) (ss.getD i 0*((if e.testBit w=true then 12 else 0)-y))=gnTo l ss w (i+1):=by
      rw [addN (by omega),gnTo,hgn]
     simp only [q76_8]
     refine Yx [(7,1)] (by kernel_rfl) (by kernel_rfl) (by kernel_rfl) (by kernel_rfl) ?_
     simp (maxSteps:=2000000) only [↓Zz,↓vdn,vup,List.map_cons,List.map_nil,cond_true,cond_false,aop,Zf,Zo,ev,sput,Ze,Yf,Yi,Nat.reduceBEq,Nat.reduceAdd,tyf,huG.idx Vy Wm hi2,huG.load Yy hi2,loadBt c8,Yn,List.nil_append,List.append_nil]
     refine ⟨_,_,gc,rfl,?_⟩
     simp (maxSteps:=2000000) only [vup,m1,a1]
     refine hC [(0,.agg #[Zd (n:Nat),.slice p m c]),(1,u),(2,.pointer (some ⟨h.length,0,none⟩)),(4,.bool false),(5,Zd (w:Nat)),(6,Zd (gnTo l ss w (i+1))),(9,.pointer (some ⟨h.length,0,none⟩)),(10,Zd (n:Nat)),(11,Zd (w:Nat)),(14,.pointer (some ⟨h.length,1,none⟩)),(15,.slice p m c),(16,Zd l.length),(17,Zd (i:Nat))] _ _ ?_ (by simp (maxSteps:=2000000) only [vup,cond_true,cond_false,Nat.reduceBEq])
     clear hC
     try clear C
     refine Zm ?_
     simp (maxSteps:=2000000) only [↓Za,↓Zb,↓Zc,vup,cond_true,cond_false,aop,ev,sput,Ze,Yf,Yi,Nat.reduceBEq,add1 (show i<9223372036854775807 by omega)]
     exact hQ4 _ _ _ ⟨(i+1,G),⟨hi',hEG⟩,by simp only; omega,by simp (maxSteps:=2000000) only [vup,cond_true,cond_false,Nat.reduceBEq],rfl⟩
   · obtain rfl:i=l.length:=by omega
     refine Zg fun N13 hN13=>?_
     simp (maxSteps:=2000000) only [↓Za,↓Zb,↓Zc,vup,cond_true,cond_false,aop,Zf,ev,sput,Ze,Yf,Yi,Nat.reduceBEq,hin2]
     refine hN13 [(0,.agg #[Zd (n:Nat),.slice p m c]),(1,u),(2,.pointer (some ⟨h.length,0,none⟩)),(4,.bool false),(5,Zd (w:Nat)),(6,Zd (gnTo l ss w l.length)),(9,.pointer (some ⟨h.length,0,none⟩)),(10,Zd (n:Nat)),(11,Zd (w:Nat)),(14,.pointer (some ⟨h.length,1,none⟩)),(15,.slice p m c),(16,Zd l.length),(17,Zd l.length),(18,.bool false)] _ _ ?_ (by simp (maxSteps:=2000000) only [vup,cond_true,cond_false,Nat.reduceBEq])
     clear hN13
     try clear N13
     refine Zg fun N14 hN14=>?_
     simp (maxSteps:=2000000) only [↓Yo,↓vdn,vup,cond_true,cond_false,Zf,ev,Nat.reduceBEq]
     refine hQ4 _ _ _ (hQ3 _ _ _ ?_)
     simp (maxSteps:=2000000) only [Zf,Zo,if_true]
     refine hY [(0,.agg #[Zd (n:Nat),.slice p m c]),(1,u),(2,.pointer (some ⟨h.length,0,none⟩)),(4,.bool false),(5,Zd (w:Nat)),(6,Zd (gnTo l ss w l.length)),(9,.pointer (some ⟨h.length,0,none⟩)),(10,Zd (n:Nat)),(11,Zd (w:Nat))] _ _ ?_ (by simp (maxSteps:=2000000) only [vup,cond_true,cond_false,Nat.reduceBEq])
     clear hY
     try clear Y
     by_cases hg:gnTo l ss w l.length≤0
     · refine Zg fun N15 hN15=>?_
       simp (maxSteps:=2000000) only [↓Za,↓Zb,↓Zc,vup,cond_true,cond_false,aop,Zf,ev,sput,Ze,Yf,Yi,Nat.reduceBEq,hg]
       refine hN15 [(0,.agg #[Zd (n:Nat),.slice p m c]),(1,u),(2,.pointer (some ⟨h.length,0,none⟩)),(4,.bool false),(5,Zd (w:Nat)),(6,Zd (gnTo l ss w l.length)),(9,.pointer (some ⟨h.length,0,none⟩)),(10,Zd (n:Nat)),(11,Zd (w:Nat)),(34,.bool true)] _ _ ?_ (by simp (maxSteps:=2000000) only [vup,cond_true,cond_false,Nat.reduceBEq])
       clear hN15
       try clear N15
       refine Xu rfl ?_
       refine Zm ?_
       simp (maxSteps:=2000000) only [↓Za,↓Zl,↓Zu,↓Zb,↓Zc,vup,cond_true,cond_false,aop,Zf,Zo,ev,sput,Ze,Nat.reduceBEq]
       refine hQ2 _ _ _ (hQ _ _ _ ?_)
       simp (maxSteps:=2000000) only [vup,cond_true,cond_false,Zf,Zo,Nat.reduceBEq,Zs,Xn,tup,beatsTo_false hw (show ¬ 0<gnTo l ss w l.length by omega)]
       exact hE.trans hEq
     · refine Zg fun N16 hN16=>?_
       simp (maxSteps:=2000000) only [↓Za,↓Zb,↓Zc,vup,cond_true,cond_false,aop,Zf,ev,sput,Ze,Yf,Yi,Nat.reduceBEq,hg]
       refine hN16 [(0,.agg #[Zd (n:Nat),.slice p m c]),(1,u),(2,.pointer (some ⟨h.length,0,none⟩)),(4,.bool false),(5,Zd (w:Nat)),(6,Zd (gnTo l ss w l.length)),(9,.pointer (some ⟨h.length,0,none⟩)),(10,Zd (n:Nat)),(11,Zd (w:Nat)),(34,.bool false)] _ _ ?_ (by simp (maxSteps:=2000000) only [vup,cond_true,cond_false,Nat.reduceBEq])
       clear hN16
       try clear N16
       refine Xh rfl ?_
       refine Zm ?_
       simp (maxSteps:=2000000) only [↓Zn,Zf,Zo]
       refine hB [(0,.agg #[Zd (n:Nat),.slice p m c]),(1,u),(2,.pointer (some ⟨h.length,0,none⟩)),(4,.bool false),(9,.pointer (some ⟨h.length,0,none⟩)),(10,Zd (n:Nat)),(11,Zd (w:Nat))] _ _ ?_ (by simp (maxSteps:=2000000) only [vup,cond_true,cond_false,Nat.reduceBEq])
       clear hB
       try clear B
       refine Zm ?_
       simp (maxSteps:=2000000) only [↓Za,↓Zb,↓Zc,vup,cond_true,cond_false,aop,ev,sput,Ze,Yf,Yi,Nat.reduceBEq,add1 (show w<9223372036854775807 by omega)]
       refine hQ2 _ _ _ ⟨(w+1,hq),⟨hw,fun v hv=>?_,hEq⟩,by simp only; omega,by simp (maxSteps:=2000000) only [vup,cond_true,cond_false,Nat.reduceBEq],rfl⟩
       by_cases hvw:v=w
       · rw [hvw]; omega
       · exact hall v (by omega)
 · obtain rfl:n=w:=by omega
   refine Zg fun N17 hN17=>?_
   simp (maxSteps:=2000000) only [↓Za,↓Zb,↓Zc,vup,cond_true,cond_false,aop,Zf,ev,sput,Ze,Yf,Yi,Nat.reduceBEq,hin]
   refine hN17 [(0,.agg #[Zd (n:Nat),.slice p m c]),(1,u),(2,.pointer (some ⟨h.length,0,none⟩)),(4,.bool false),(9,.pointer (some ⟨h.length,0,none⟩)),(10,Zd (n:Nat)),(11,Zd (n:Nat)),(12,.bool false)] _ _ ?_ (by simp (maxSteps:=2000000) only [vup,cond_true,cond_false,Nat.reduceBEq])
   clear hN17
   try clear N17
   refine Zg fun N18 hN18=>?_
   simp (maxSteps:=2000000) only [↓Yo,↓vdn,vup,cond_true,cond_false,Zf,ev,Nat.reduceBEq]
   refine hQ2 _ _ _ (hQ _ _ _ ?_)
   simp (maxSteps:=2000000) only [Zf,Zo,Zs,if_true]
   refine hZ [(0,.agg #[Zd (n:Nat),.slice p m c]),(1,u),(2,.pointer (some ⟨h.length,0,none⟩)),(4,.bool false)] _ _ ?_ (by simp (maxSteps:=2000000) only [vup,cond_true,cond_false,Nat.reduceBEq])
   clear hZ
   try clear Z
   refine Zm ?_
   simp (maxSteps:=2000000) only [↓Za,↓Zl,↓Zu,↓Zb,↓Zc,vup,cond_true,cond_false,aop,Zf,ev,sput,Ze,Nat.reduceBEq,Zs,Xn,tup]
   exact ⟨by rw [beatsB_iff.2 hall],hE.trans hEp⟩
def smB (ss:List Int):Bool:=ss.all fun s=>decide (-1000000000≤s)&&decide (s≤1000000000)
def btB (n:Nat) (l:List (Int×Int)) (ss:List Int):Bool:=decide (ss.length=l.length)&&(smB ss&&Uu n l ss)
theorem smB_sms {ss:List Int} (h:smB ss=true):SmS ss:=fun i=>by
 rcases Nat.lt_or_ge i ss.length with hi | hi
 · have hm:ss.getD i 0∈ss:=by rw [List.getD,List.getElem?_eq_getElem hi]; exact List.getElem_mem hi
   have:=List.all_eq_true.1 h _ hm
   simp only [Bool.and_eq_true,decide_eq_true_eq] at this
   omega
 · rw [List.getD,List.getElem?_eq_none hi]; decide
theorem smB_mm {ss:List Int} (h0:0<ss.length):smB ss=(!decide (minTo ss (ss.length-1) < -1000000000) && !decide (1000000000<maxTo ss (ss.length-1))):=by
 obtain ⟨a1,i,hi,a2⟩:=minTo_spec ss (ss.length-1)
 obtain ⟨b1,j,hj,b2⟩:=maxTo_spec ss (ss.length-1)
 have gm : ∀ k,k<ss.length→ss.getD k 0∈ss:=fun k hk=>by rw [List.getD,List.getElem?_eq_getElem hk]; exact List.getElem_mem hk
 rw [Bool.eq_iff_iff,Bool.and_eq_true,Bool.not_eq_true',Bool.not_eq_true',decide_eq_false_iff_not,decide_eq_false_iff_not]
 constructor
 · intro h
   have c1:=List.all_eq_true.1 h _ (gm i (by omega))
   have c2:=List.all_eq_true.1 h _ (gm j (by omega))
   simp only [Bool.and_eq_true,decide_eq_true_eq] at c1 c2
   rw [a2,b2]
   omega
 · rintro ⟨h1,h2⟩
   refine List.all_eq_true.2 fun x hx=>?_
   obtain ⟨k,hk,rfl⟩:=List.mem_iff_getElem.1 hx
   have c1:=a1 k (by omega)
   have c2:=b1 k (by omega)
   rw [List.getD,List.getElem?_eq_getElem hk,Option.getD_some] at c1 c2
   simp only [Bool.and_eq_true,decide_eq_true_eq]
   omega
theorem s31_callW [Tabs Tryd.prog] {args:List Value} {h:Zh} {Q:Value→Zh→Prop} (hsz:args.length≤37) (hk:AWS Tryd.prog 37 s31 (Zs Tryd.prog [.tmp 6,.tmp 7] Q) (Zp 0 args) h):ACall Tryd.prog 31 args h Q :=
 Yz Tryd.func31 rfl (enters_of Tryd.func31 (by kernel_rfl) rfl) rfl rfl (by decide) s31_strip s31_ok hsz hk
theorem progBeats_call [Tabs prog] {h:Zh} {n:Int} {v u:Value} {l:List (Int×Int)} {ss:List Int} (hv:PairSl h v l) (hl:l.length<9223372036854775808) (hu:IntSl h u ss) (hls:ss.length<9223372036854775808) :
  ACall prog 31 [Zd n,v,.agg #[u]] h fun r h'=>Ext (fun _=>False) h h'∧r=if validB n l=true then .tuple #[.bool (btB n.toNat l ss),.int .i64 0] else .tuple #[.bool false,.int .i64 2]:=by
 obtain ⟨p,m,c,rfl⟩:=Uq hv
 obtain ⟨H,hH⟩ : ∃ H,H=h++[Blk.cells [u] 61 false]++[Blk.cells [Zd n,.slice p m c] 117 false]:=⟨_,rfl⟩
 have hE:Ext (fun _=>False) h H:=by rw [hH]; exact e2 ..
 have b5:H[h.length]? = some (Blk.cells [u] 61 false):=by rw [hH]; exact b2_0 ..
 have b8:H[h.length+1]? = some (.cells [Zd n,.slice p m c] 117 false):=by rw [hH]; exact b2_1 ..
 have hvH:=hv.ext hE
 have huH:IntSl H u ss:=hu.same fun b hb=>hE.2 b (hu.lt hb) id
 have hbx : ∀ {K:Value→Zh→Prop},boxK prog h 61 (.agg #[u]) K=K (Yg h) (h++[Blk.cells [u] 61 false]):=fun {K}=>by
  simp [boxK,esz_61,Yg,cellsOf]
 have l5 : ∀ {K:Value→Prop},Xs prog H 27 (.pointer (some ⟨h.length,0,none⟩)) K=K u:=fun {K}=>loadC b5 Xy rfl
 have f5 : ∀ {K:Value→Prop},Yt prog 61 (.pointer (some ⟨h.length,0,none⟩)) 0 K=K (.pointer (some ⟨h.length,0,none⟩)):=fun {K}=>fldA fld_61_0 esz_27
 refine s31_callW (by simp) ?_
 simp only [s31]
 refine Zg fun N19 hN19=>?_
 simp (maxSteps:=2000000) only [↓Za,↓Zb,↓Zc,vup,cond_true,cond_false,aop,Zf,Zp,ev,sput,Ze,Nat.reduceBEq,Nat.reduceAdd,hbx,Yg]
 refine hN19 [(0,Zd n),(1,.slice p m c),(2,.agg #[u]),(5,.pointer (some ⟨h.length,0,none⟩)),(6,.bool false),(7,.int .i64 0)] _ _ ?_ (by simp (maxSteps:=2000000) only [vup,cond_true,cond_false,Nat.reduceBEq])
 clear hN19
 try clear N19
 refine Zg fun N20 hN20=>?_
 simp (maxSteps:=2000000) only [↓Za,↓Zb,↓Zc,vup,List.map_cons,List.map_nil,cond_true,cond_false,aop,Zf,ev,sput,Ze,Nat.reduceBEq,tyf,bldT,Xg,Yg,storeT (Zr (h++[Blk.cells [u] 61 false]) (.cells [.int .i64 0,.slice none 0 0] 117 false)) rfl,set_new]
 rw [← hH]
 simp only [List.length_append,List.length_singleton]
 refine hN20 [(0,Zd n),(1,.slice p m c),(2,.agg #[u]),(5,.pointer (some ⟨h.length,0,none⟩)),(6,.bool false),(7,.int .i64 0),(8,.pointer (some ⟨h.length+1,0,none⟩))] _ _ ?_ (by simp (maxSteps:=2000000) only [vup,cond_true,cond_false,Nat.reduceBEq])
 clear hN20
 try clear N20
 refine Zt fun M hM=>?_
 refine Zg fun N21 hN21=>?_
 simp (maxSteps:=2000000) only [↓Za,↓Zb,↓Zc,vup,List.map_cons,List.map_nil,cond_true,cond_false,aop,Zf,ev,sput,Ze,unK,Nat.reduceBEq,Yn,List.nil_append,List.append_nil,loadT b8]
 refine (valid_call hvH hl).mono ?_
 rintro _ H ⟨rfl,rfl⟩
 refine hN21 [(0,Zd n),(1,.slice p m c),(2,.agg #[u]),(5,.pointer (some ⟨h.length,0,none⟩)),(6,.bool false),(7,.int .i64 0),(8,.pointer (some ⟨h.length+1,0,none⟩)),(14,.bool (!validB n l))] _ _ ?_ (by simp (maxSteps:=2000000) only [vup,cond_true,cond_false,Nat.reduceBEq])
 clear hN21
 try clear N21
 cases hval:validB n l with
 | false =>
   refine Xu rfl ?_
   refine Zm ?_
   simp (maxSteps:=2000000) only [↓Za,↓Zl,↓Zu,↓Zb,↓Zc,vup,cond_true,cond_false,aop,Zf,ev,sput,Ze,Nat.reduceBEq,Zs,Xn,tup]
   exact ⟨hE,by rw [if_neg (by simp)]⟩
 | true =>
 refine Xh rfl ?_
 refine Zm ?_
 simp (maxSteps:=2000000) only [↓Zn,vup,Zf]
 refine hM [(0,Zd n),(1,.slice p m c),(2,.agg #[u]),(5,.pointer (some ⟨h.length,0,none⟩)),(6,.bool false),(7,.int .i64 0),(8,.pointer (some ⟨h.length+1,0,none⟩))] _ _ ?_ (by simp (maxSteps:=2000000) only [vup,cond_true,cond_false,Nat.reduceBEq])
 clear hM
 try clear M
 obtain ⟨k,hk⟩ : ∃ k:Nat,n=k:=⟨n.toNat,by simp only [validB,Bool.and_eq_true,decide_eq_true_eq] at hval; omega⟩
 subst hk
 simp only [hval,if_true,Int.toNat_natCast]
 obtain ⟨hn2,hn5,hl1,hl6,hok⟩:=Vp hval
 refine Zt fun M hM=>?_
 refine Zg fun N22 hN22=>?_
 by_cases hlen:ss.length=l.length
 · have hne:(((ss.length:Nat):Int) != ((l.length:Nat):Int))=false:=by rw [hlen]; simp
   have h0:0<ss.length:=by omega
   have mm:=smB_mm h0
   have mnc:=fun z (hz:IntSl z u ss)=>min_call hz h0 hls
   have mxc:=fun z (hz:IntSl z u ss)=>max_call hz h0 hls
   have bad:smB ss=false→∀ e,ELe e [(0,Zd (k:Nat)),(1,.slice p m c),(2,.agg #[u]),(5,.pointer (some ⟨h.length,0,none⟩)),(6,.bool false),(7,.int .i64 0),(8,.pointer (some ⟨h.length+1,0,none⟩)),(32,.bool true)]→N22 e H:=by
    intro hf e he
    refine hN22 _ _ _ ?_ he
    refine Xu rfl ?_
    refine Zm ?_
    simp (maxSteps:=2000000) only [↓Za,↓Zl,↓Zu,↓Zb,↓Zc,vup,cond_true,cond_false,aop,Zf,ev,sput,Ze,Nat.reduceBEq,Zs,Xn,tup]
    exact ⟨hE,by rw [btB,hf]; simp⟩
   have good:smB ss=true→∀ e,ELe e [(0,Zd (k:Nat)),(1,.slice p m c),(2,.agg #[u]),(5,.pointer (some ⟨h.length,0,none⟩)),(6,.bool false),(7,.int .i64 0),(8,.pointer (some ⟨h.length+1,0,none⟩)),(32,.bool false)]→N22 e H:=by
    intro hs e he
    refine hN22 _ _ _ ?_ he
    refine Xh rfl ?_
    refine Zm ?_
    simp (maxSteps:=2000000) only [↓Zn,Zf]
    refine hM [(0,Zd (k:Nat)),(1,.slice p m c),(2,.agg #[u]),(5,.pointer (some ⟨h.length,0,none⟩)),(6,.bool false),(7,.int .i64 0),(8,.pointer (some ⟨h.length+1,0,none⟩))] _ _ ?_ (by simp (maxSteps:=2000000) only [vup,cond_true,cond_false,Nat.reduceBEq])
    clear hM
    try clear M
    refine Zg fun N23 hN23=>?_
    simp (maxSteps:=2000000) only [↓Za,↓Zb,↓Zc,vup,List.map_cons,List.map_nil,cond_true,cond_false,aop,Zf,ev,sput,Ze,Nat.reduceBEq,Yn,List.nil_append,List.append_nil,loadT b8,f5,l5]
    refine ((beats_call hvH huH hval hlen (smB_sms hs))).mono ?_
    rintro _ H ⟨rfl,rfl⟩
    refine hN23 [(0,Zd (k:Nat)),(1,.slice p m c),(2,.agg #[u]),(5,.pointer (some ⟨h.length,0,none⟩)),(6,.bool (Uu k l ss)),(7,.int .i64 0),(8,.pointer (some ⟨h.length+1,0,none⟩))] _ _ ?_ (by simp (maxSteps:=2000000) only [vup,cond_true,cond_false,Nat.reduceBEq])
    clear hN23
    try clear N23
    refine Zm ?_
    simp (maxSteps:=2000000) only [↓Zu,vup,cond_true,cond_false,Nat.reduceBEq,Zs,Xn,tup]
    exact ⟨hE,by rw [btB,hs,decide_eq_true hlen]; simp⟩
   simp only [q31_4]
   refine aw_regcut 7 fun N1 hN1=>?_
   simp (maxSteps:=2000000) only [↓Za,↓Zb,↓Zc,vup,List.map_cons,List.map_nil,cond_true,cond_false,aop,ev,sput,Ze,Yf,Yi,Zi,Nat.reduceBEq,tyf,List.take_succ_cons,List.take_zero,f5,l5,huH.len,hvH.len,hne]
   refine hN1 _ _ ?_
   clear hN1 N1
   simp only [List.drop_succ_cons,List.drop_zero]
   refine aw_regcut 5 fun N1 hN1=>?_
   simp (maxSteps:=2000000) only [↓Za,↓Zb,↓Zc,↓vdn,vup,List.map_cons,List.map_nil,cond_true,cond_false,aop,ev,sput,Ze,Yf,Yi,Nat.reduceBEq,tyf,Yn,List.nil_append,List.append_nil,List.take_succ_cons,List.take_zero,f5,l5]
   refine ((mnc H huH)).mono ?_
   rintro _ H ⟨rfl,rfl⟩
   cases hA:decide (minTo ss (ss.length-1) < -1000000000) with
   | true =>
     simp (maxSteps:=2000000) only [vup,hA]
     refine hN1 _ _ ?_
     clear hN1 N1
     simp only [List.drop_succ_cons,List.drop_zero]
     simp (maxSteps:=2000000) only [↓Za,↓Zb,↓Zc,↓vdn,vup,cond_true,cond_false,aop,Zf,ev,sput,Ze,Nat.reduceBEq]
     exact bad (by rw [mm,hA]; rfl) _ (by simp (maxSteps:=2000000) only [vup,cond_true,cond_false,Nat.reduceBEq])
   | false =>
     simp (maxSteps:=2000000) only [vup,hA]
     refine hN1 _ _ ?_
     clear hN1 N1
     simp only [List.drop_succ_cons,List.drop_zero]
     simp (maxSteps:=2000000) only [↓Za,↓Zb,↓Zc,↓vdn,vup,List.map_cons,List.map_nil,cond_true,cond_false,aop,Zf,ev,sput,Ze,Yf,Yi,Nat.reduceBEq,tyf,Yn,List.nil_append,List.append_nil,f5,l5]
     refine ((mxc H huH)).mono ?_
     rintro _ H ⟨rfl,rfl⟩
     cases hB:decide (1000000000<maxTo ss (ss.length-1)) with
     | true =>
       simp (maxSteps:=2000000) only [vup,hB]
       exact bad (by rw [mm,hA,hB]; rfl) _ (by simp (maxSteps:=2000000) only [vup,cond_true,cond_false,Nat.reduceBEq])
     | false =>
       simp (maxSteps:=2000000) only [vup,hB]
       exact good (by rw [mm,hA,hB]; rfl) _ (by simp (maxSteps:=2000000) only [vup,cond_true,cond_false,Nat.reduceBEq])
 · have hne:(((ss.length:Nat):Int) != ((l.length:Nat):Int))=true:=by simp; omega
   simp only [q31_4]
   refine aw_regcut 7 fun N1 hN1=>?_
   simp (maxSteps:=2000000) only [↓Za,↓Zb,↓Zc,vup,List.map_cons,List.map_nil,cond_true,cond_false,aop,ev,sput,Ze,Yf,Yi,Zi,Nat.reduceBEq,tyf,List.take_succ_cons,List.take_zero,f5,l5,huH.len,hvH.len,hne]
   refine hN1 _ _ ?_
   clear hN1 N1
   simp only [List.drop_succ_cons,List.drop_zero]
   simp (maxSteps:=2000000) only [↓Za,↓Zb,↓Zc,↓vdn,vup,cond_true,cond_false,aop,Zf,ev,sput,Ze,Nat.reduceBEq]
   refine hN22 [(0,Zd (k:Nat)),(1,.slice p m c),(2,.agg #[u]),(5,.pointer (some ⟨h.length,0,none⟩)),(6,.bool false),(7,.int .i64 0),(8,.pointer (some ⟨h.length+1,0,none⟩)),(32,.bool true)] _ _ ?_ (by simp (maxSteps:=2000000) only [vup,cond_true,cond_false,Nat.reduceBEq])
   clear hN22
   try clear N22
   refine Xu rfl ?_
   refine Zm ?_
   simp (maxSteps:=2000000) only [↓Za,↓Zl,↓Zu,↓Zb,↓Zc,vup,cond_true,cond_false,aop,Zf,ev,sput,Ze,Nat.reduceBEq,Zs,Xn,tup]
   exact ⟨hE,by rw [btB,decide_eq_false hlen]; simp⟩
end Go.Proofs.Tryd.Am.Be
