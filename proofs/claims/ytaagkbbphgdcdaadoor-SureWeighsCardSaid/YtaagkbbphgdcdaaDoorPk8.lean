/-
  sure: Cramer's rule, and what a determinant of 0 means. Plain Lean, no program.
  sure: corners. Plain Lean, no program.
  sure: packings. Plain Lean, no program.
  sure: the determinant.
  sure: a copy that its maker may grow.
  sure: Cramer's rule.
  sure: fractions: the program's arithmetic, and the reference's.
  sure: sets within others.
  sure: a corner as the program tries it. Plain Lean, no program.
-/
import Derived.Test.YtaagkbbphgdcdaaDoorPk7
import Derived.Test.YtaagkbbphgdcdaaDoorPk5
import Derived.Test.YtaagkbbphgdcdaaDoorPk6
set_option linter.all false
namespace Bq
theorem sgn_ne (a:Nat):sgn a≠0:=fun h=>by
 have:=sgn_sq a
 rw [h] at this; simp at this
theorem bring_ne {j c:Nat} (h:c≠0):Wo j c≠j:=by
 rw [Wo,if_neg h]
 split <;> omega
theorem bring_at {j t:Nat} (h:t≠j):Wo j ((if t<j then t else t-1)+1)=t:=by
 rw [Wo,if_neg (by omega)]
 by_cases h1:t<j
 · rw [if_pos h1,if_pos (by omega)]; omega
 · rw [if_neg h1,if_neg (by omega)]; omega
def putC (M:Nat→Nat→Rat) (j:Nat) (b:Nat→Rat):Nat→Nat→Rat:=fun c=>if c=j then b else M c
theorem cramer {n j:Nat} {M:Nat→Nat→Rat} {b x:Nat→Rat} (hj:j<n) (hx : ∀ r,r<n→sumTo (fun c=>x c*M c r) n=b r):det n (putC M j b)=x j*det n M:=by
 obtain ⟨n,rfl⟩ : ∃ k,n=k+1:=⟨n-1,by omega⟩
 have h1:=det_bring j (n+1) (putC M j b) hj
 have h2:=det_bring j (n+1) M hj
 have hs:sumTo (fun c=>if c=j then x c*(fun r=>fun c=>M c r) 0 c else 0) (n+1)=x j*M j 0:=Xy _ hj
 have hB : ∀ c,c≠0→putC M j b (Wo j c)=M (Wo j c):=fun c hc=>by rw [putC,if_neg (bring_ne hc)]
 have hB0:putC M j b (Wo j 0)=b:=by rw [Wo,if_pos rfl,putC,if_pos rfl]
 have h3:=det_comb (n:=n) (fun t=>M t) (fun t=>if t=j then 0 else x t) (fun r=>x j*M j r) (n+1) (M:=fun c=>putC M j b (Wo j c)) (fun r hr=>by
  rw [hB0,← hx r hr]
  have hp:sumTo (fun c=>if c=j then x c*M c r else 0) (n+1)=x j*M j r:=Xy _ hj
  rw [← hp,← Xs]
  refine Zh fun c _=>?_
  by_cases h:c=j
  · rw [if_pos h,if_pos h]; grind
  · rw [if_neg h,if_neg h]; grind) (fun t ht=>by
  by_cases h:t=j
  · exact .inl (if_pos h)
  · refine .inr (det_same (n+1) (if t<j then t else t-1) _ (by split <;> omega) fun r hr=>?_)
    rw [if_pos rfl,if_neg (by omega),hB _ (by omega),bring_at h])
 have h4:=det_scale (n:=n) (fun c=>putC M j b (Wo j c)) (M j) (x j)
 have h5:det (n+1) (fun c=>if c=0 then M j else putC M j b (Wo j c))=det (n+1) (fun c=>M (Wo j c)):=Xt _ fun c r hc hr=>by
  by_cases h:c=0
  · rw [if_pos h,h,Wo,if_pos rfl]
  · rw [if_neg h,hB c h]
 rw [h3,h4,h5,h2] at h1
 have hq:=sgn_sq j
 have h6:sgn j*(x j*(sgn j*det (n+1) M))=sgn j*(sgn j*det (n+1) (putC M j b)):=by rw [h1]
 have h7:sgn j*(sgn j*det (n+1) (putC M j b))=det (n+1) (putC M j b):=by rw [← Rat.mul_assoc,hq,Rat.one_mul]
 have h8:sgn j*(x j*(sgn j*det (n+1) M))=x j*det (n+1) M:=by
  have:sgn j*(x j*(sgn j*det (n+1) M))=(sgn j*sgn j)*(x j*det (n+1) M):=by grind
  rw [this,hq,Rat.one_mul]
 rw [← h7,← h6,h8]
theorem put_zero {n j:Nat} {M:Nat→Nat→Rat} (hj:j<n):det n (putC M j fun _=>0)=0:=by
 obtain ⟨n,rfl⟩ : ∃ k,n=k+1:=⟨n-1,by omega⟩
 have h1:=det_bring j (n+1) (putC M j fun _=>0) hj
 rw [det_zero (fun r _=>by rw [Wo,if_pos rfl,putC,if_pos rfl])] at h1
 have h2:sgn j*(sgn j*det (n+1) (putC M j fun _=>0))=0:=by rw [← h1]; exact Rat.mul_zero _
 rw [← Rat.mul_assoc,sgn_sq,Rat.one_mul] at h2
 exact h2
theorem ker_det {n j:Nat} {M:Nat→Nat→Rat} {x:Nat→Rat} (hj:j<n) (h0:x j≠0) (hx : ∀ r,r<n→sumTo (fun c=>x c*M c r) n=0):det n M=0:=by
 have h1:=cramer (b:=fun _=>0) hj hx
 rw [put_zero hj] at h1
 rcases Rat.mul_eq_zero.1 h1.symm with h | h
 · exact absurd h h0
 · exact h
theorem sol_ex {n:Nat} {M:Nat→Nat→Rat} (h:det n M≠0) (b:Nat→Rat) : ∃ x:Nat→Rat,∀ r,r<n→sumTo (fun c=>x c*M c r) n=b r:=by
 obtain ⟨T,hT⟩ : ∃ T:SysT,T=fun r c=>if c<n then M c r else b r:=⟨_,rfl⟩
 have hsum : ∀ (x:Nat→Rat) r,sumTo (fun c=>T r c*x c) n=sumTo (fun c=>x c*M c r) n:=fun x r=>Zh fun c hc=>by rw [hT]; simp only [if_pos hc]; exact Rat.mul_comm _ _
 cases he:Wh n T n with
 | none =>
   obtain ⟨δ,hk,c,hc,h0⟩:=run_none (Nat.le_refl n) he
   exact absurd (ker_det hc h0 fun r hr=>by rw [← hsum]; exact hk r hr) h
 | some S =>
   have hr:restT n n S=false:=by
    rw [restT,List.any_eq_false]
    intro i hi
    rw [List.mem_range] at hi
    simp; omega
   have hs:solveT n n T=some ((List.range n).map fun i=>S i n):=by
    rw [solveT,he,Option.bind_some,hr]; rfl
   obtain ⟨_,h2⟩:=solve_some hs
   have h3:=(h2 fun t=>((List.range n).map fun i=>S i n).getD t 0).2 fun t _=>rfl
   refine ⟨fun t=>((List.range n).map fun i=>S i n).getD t 0,fun r hr=>?_⟩
   have:=h3 r hr
   rw [hsum] at this
   rw [this,hT]
   simp only [Nat.lt_irrefl,if_false]
/-! ### A determinant of 0: the rows depend on each other -/
theorem sum_skp (g:Nat→Rat) {i:Nat} : ∀ {n:Nat},i≤n→sumTo g (n+1)=sumTo (fun r=>g (skp i r)) n+g i
 | 0,h=>by
   obtain rfl:i=0:=by omega
   simp only [sumTo]
 | n+1,h=>by
   rcases Nat.lt_or_ge n i with h1 | h1
   · obtain rfl:i=n+1:=by omega
     rw [sumTo]
     congr 1
     exact Zh fun r hr=>by rw [skp,if_pos hr]
   · rw [sumTo,sum_skp g h1,sumTo,show skp i n=n+1 by rw [skp,if_neg (by omega)]]
     grind
def lift (i:Nat) (u:Nat→Rat):Nat→Rat:=fun r=>if r=i then 0 else if r<i then u r else u (r-1)
theorem lift_skp (i r:Nat) (u:Nat→Rat):lift i u (skp i r)=u r:=by
 rw [lift,skp]
 by_cases h:r<i
 · rw [if_pos h,if_neg (by omega),if_pos h]
 · rw [if_neg h,if_neg (by omega),if_neg (by omega)]; rfl
theorem lift_at (i:Nat) (u:Nat→Rat):lift i u i=0:=if_pos rfl
theorem sum_lift {i n:Nat} (hi:i≤n) (u g:Nat→Rat):sumTo (fun r=>lift i u r*g r) (n+1)=sumTo (fun r=>u r*g (skp i r)) n:=by
 rw [sum_skp _ hi,lift_at,Rat.zero_mul,Rat.add_zero]
 exact Zh fun r _=>by rw [lift_skp]
theorem det_col {n:Nat} (M:Nat→Nat→Rat) (a:Nat→Rat):sumTo (fun i=>sgn i*det n (fun c r=>M (c+1) (skp i r))*a i) (n+1)=det (n+1) fun c=>if c=0 then a else M c:=by
 rw [det]
 refine Zh fun i _=>?_
 rw [if_pos rfl]
 have:det n (fun c r=>(if c+1=0 then a else M (c+1)) (skp i r))=det n (fun c r=>M (c+1) (skp i r)):=Xt _ fun c r _ _=>by rw [if_neg (by omega)]
 rw [this]; grind
theorem left_ker : ∀ (n:Nat) (M:Nat→Nat→Rat),det n M=0→∃ u:Nat→Rat,(∃ r,r<n∧u r≠0)∧∀ c,c<n→sumTo (fun r=>u r*M c r) n=0
 | 0,M,h=>by rw [det] at h; exact absurd h (by decide)
 | n+1,M,h=>by
   obtain ⟨C,hC⟩ : ∃ C:Nat→Rat,C=fun i=>det n (fun c r=>M (c+1) (skp i r)):=⟨_,rfl⟩
   have hv : ∀ c,c<n+1→sumTo (fun i=>sgn i*C i*M c i) (n+1)=0:=fun c hc=>by
    rw [hC,det_col M (M c)]
    by_cases h0:c=0
    · rw [h0,← h]
      exact Xt _ fun c' r _ _=>by
       by_cases h1:c' = 0
       · rw [if_pos h1,h1]
       · rw [if_neg h1]
    · obtain ⟨t,rfl⟩ : ∃ t,c=t+1:=⟨c-1,by omega⟩
      exact det_same (n+1) t _ hc fun r _=>by rw [if_pos rfl,if_neg (by omega)]
   by_cases hex : ∃ i,i<n+1∧C i≠0
   · obtain ⟨i,hi,h0⟩:=hex
     exact ⟨fun i=>sgn i*C i,⟨i,hi,fun hc=>by
      rcases Rat.mul_eq_zero.1 hc with h | h
      · exact sgn_ne i h
      · exact h0 h⟩,hv⟩
   · have hz : ∀ i,i<n+1→C i=0:=fun i hi=>Classical.byContradiction fun hc=>hex ⟨i,hi,hc⟩
     have hmk : ∀ i,i<n+1→∃ w:Nat→Rat,(∃ r,r<n+1∧w r≠0)∧w i=0∧∀ c,c<n→sumTo (fun r=>w r*M (c+1) r) (n+1)=0:=fun i hi=>by
      have h1:=hz i hi
      rw [hC] at h1
      obtain ⟨u,⟨r,hr,h2⟩,h3⟩:=left_ker n _ h1
      exact ⟨lift i u,⟨skp i r,skp_lt hr,by rw [lift_skp]; exact h2⟩,lift_at i u,fun c hc=>by rw [sum_lift (by omega)]; exact h3 c hc⟩
     obtain ⟨w,⟨r1,hr1,hw1⟩,_,hwc⟩:=hmk n (Nat.lt_succ_self n)
     obtain ⟨w',⟨r2,hr2,hw2⟩,hz1,hwc'⟩:=hmk r1 hr1
     obtain ⟨α,hα⟩ : ∃ α,α=sumTo (fun r=>w r*M 0 r) (n+1):=⟨_,rfl⟩
     obtain ⟨β,hβ⟩ : ∃ β,β=sumTo (fun r=>w' r*M 0 r) (n+1):=⟨_,rfl⟩
     have fin : ∀ z:Nat→Rat,sumTo (fun r=>z r*M 0 r) (n+1)=0→(∀ c,c<n→sumTo (fun r=>z r*M (c+1) r) (n+1)=0)→∀ c,c<n+1→sumTo (fun r=>z r*M c r) (n+1)=0:=fun z h0 h1 c hc=>by
      rcases Nat.eq_zero_or_pos c with rfl | h2
      · exact h0
      · obtain ⟨t,rfl⟩ : ∃ t,c=t+1:=⟨c-1,by omega⟩
        exact h1 t (by omega)
     by_cases hb:β=0
     · exact ⟨w',⟨r2,hr2,hw2⟩,fin w' (hβ▸hb) hwc'⟩
     · have hcomb : ∀ c,sumTo (fun r=>(β*w r-α*w' r)*M c r) (n+1)=β*sumTo (fun r=>w r*M c r) (n+1)+(-α)*sumTo (fun r=>w' r*M c r) (n+1):=fun c=>by
        rw [← Yc,← Yc,← Xs]
        exact Zh fun r _=>by grind
       refine ⟨fun r=>β*w r-α*w' r,⟨r1,hr1,?_⟩,fin _ ?_ fun c hc=>?_⟩
       · intro hc
         have:β*w r1=0:=by grind
         rcases Rat.mul_eq_zero.1 this with h | h
         · exact hb h
         · exact hw1 h
       · rw [hcomb,← hα,← hβ]; grind
       · rw [hcomb,hwc c hc,hwc' c hc]; grind
end Bq
namespace Bq
def cntN (p:Nat→Rat):Nat→Nat
 | 0=>0
 | k+1=>cntN p k+if p k=0 then 0 else 1
theorem cntN_lt {p q:Nat→Rat} {w:Nat} : ∀ n,(∀ v,v<n→q v≠0→p v≠0)→(w<n→q w=0∧p w≠0→cntN q n<cntN p n)∧cntN q n≤cntN p n
 | 0,_=>⟨fun h=>by omega,Nat.le_refl _⟩
 | n+1,h=>by
   obtain ⟨h1,h2⟩:=cntN_lt (w:=w) n fun v hv=>h v (by omega)
   have h3:=h n (by omega)
   simp only [cntN]
   refine ⟨fun hw hq=>?_,?_⟩
   · by_cases hwn:w=n
     · subst hwn
       rw [if_pos hq.1,if_neg hq.2]; omega
     · have:=h1 (by omega) hq
       by_cases h4:q n=0
       · rw [if_pos h4]; split <;> omega
       · rw [if_neg h4,if_neg (h3 h4)]; omega
   · by_cases h4:q n=0
     · rw [if_pos h4]; split <;> omega
     · rw [if_neg h4,if_neg (h3 h4)]; omega
theorem least_of (P:Nat→Prop) (r:Nat→Rat) : ∀ n,(∃ w,w<n∧P w)→∃ w,w<n∧P w∧∀ v,v<n→P v→r w≤r v
 | 0,⟨w,h,_⟩=>by omega
 | n+1,⟨w,h,hp⟩=>by
   by_cases hex : ∃ w,w<n∧P w
   · obtain ⟨u,h1,h2,h3⟩:=least_of P r n hex
     by_cases hn:P n∧r n<r u
     · refine ⟨n,by omega,hn.1,fun v hv hpv=>?_⟩
       by_cases hvn:v=n
       · subst hvn; exact Rat.le_refl
       · exact Rat.le_trans (Rat.le_of_lt hn.2) (h3 v (by omega) hpv)
     · refine ⟨u,by omega,h2,fun v hv hpv=>?_⟩
       by_cases hvn:v=n
       · subst hvn
         rw [← Rat.not_lt]
         exact fun hc=>hn ⟨hpv,hc⟩
       · exact h3 v (by omega) hpv
   · have hwn:w=n:=by
      rcases Nat.lt_or_ge w n with h1 | h1
      · exact absurd ⟨w,h1,hp⟩ hex
      · omega
     subst hwn
     refine ⟨w,by omega,hp,fun v hv hpv=>?_⟩
     by_cases hvn:v=w
     · subst hvn; exact Rat.le_refl
     · exact absurd ⟨v,by omega,hpv⟩ hex
def dot (a x:Nat→Rat) (n:Nat):Rat:=sumTo (fun i=>a i*x i) n
theorem dot_add (a x y:Nat→Rat) (s:Rat) (n:Nat):dot a (fun i=>x i+s*y i) n=dot a x n+s*dot a y n:=by
 rw [dot,dot,dot,← Yc,← Xs]
 exact Zh fun i _=>by grind
theorem dot_neg (a x:Nat→Rat) (n:Nat):dot a (fun i=>- x i) n = - dot a x n:=by
 have:dot a (fun i=>- x i) n=(-1)*dot a x n:=by
  rw [dot,dot,← Yc]
  exact Zh fun i _=>by grind
 rw [this]; grind
theorem vert {n m:Nat} (A:Nat→Nat→Rat) (b:Nat→Rat) (w:Nat→Rat) (hb : ∀ d:Nat→Rat,(∃ i,i<n∧d i≠0)→0≤dot w d n→∃ k,k<m∧0<dot (A k) d n) :
  ∀ (N:Nat) (x:Nat→Rat),cntN (fun k=>b k-dot (A k) x n) m≤N→(∀ k,k<m→dot (A k) x n≤b k) →
    ∃ v:Nat→Rat,(∀ k,k<m→dot (A k) v n≤b k)∧dot w x n≤dot w v n∧∀ d:Nat→Rat,(∀ k,k<m→dot (A k) v n=b k→dot (A k) d n=0)→∀ i,i<n→d i=0:=by
 intro N
 induction N with
 | zero =>
   intro x hc hx
   refine ⟨x,hx,Rat.le_refl,fun d hd i hi=>Classical.byContradiction fun h0=>?_⟩
   have key : ∀ d' : Nat→Rat,d' i≠0→0≤dot w d' n→(∀ k,k<m→dot (A k) x n=b k→dot (A k) d' n=0)→False:=fun d' h1 h2 h3=>by
    obtain ⟨k,hk,hp⟩:=hb d' ⟨i,hi,h1⟩ h2
    by_cases ht:dot (A k) x n=b k
    · have:=h3 k hk ht; grind
    · have h4:=(cntN_lt (p:=fun k=>b k-dot (A k) x n) (q:=fun _=>0) (w:=k) m fun v _ h=>absurd rfl h).1 hk ⟨rfl,fun h=>ht (by grind)⟩
      omega
   rcases Rat.le_total (a:=0) (b:=dot w d n) with h | h
   · exact key d h0 h hd
   · refine key (fun i=>- d i) (fun hc=>h0 (by grind)) (by rw [dot_neg]; grind) fun k hk ht=>by rw [dot_neg,hd k hk ht]; grind
 | succ N ih =>
   intro x hc hx
   by_cases hall : ∀ d:Nat→Rat,(∀ k,k<m→dot (A k) x n=b k→dot (A k) d n=0)→∀ i,i<n→d i=0
   · exact ⟨x,hx,Rat.le_refl,hall⟩
   have hex : ∃ d:Nat→Rat,(∀ k,k<m→dot (A k) x n=b k→dot (A k) d n=0)∧(∃ i,i<n∧d i≠0)∧0≤dot w d n:=by
    refine Classical.byContradiction fun hno=>hall fun d hd i hi=>Classical.byContradiction fun h0=>?_
    rcases Rat.le_total (a:=0) (b:=dot w d n) with h | h
    · exact hno ⟨d,hd,⟨i,hi,h0⟩,h⟩
    · exact hno ⟨fun i=>- d i,fun k hk ht=>by rw [dot_neg,hd k hk ht]; grind,⟨i,hi,fun hc=>h0 (by grind)⟩,by rw [dot_neg]; grind⟩
   obtain ⟨d,hd,hne,hw⟩:=hex
   obtain ⟨k0,hk0,hp0⟩:=hb d hne hw
   obtain ⟨k,hk,hpk,hmin⟩:=least_of (fun k=>0<dot (A k) d n) (fun k=>(b k-dot (A k) x n) / dot (A k) d n) m ⟨k0,hk0,hp0⟩
   obtain ⟨t,ht⟩ : ∃ t,t=(b k-dot (A k) x n) / dot (A k) d n:=⟨_,rfl⟩
   have hne0 : ∀ k,0<dot (A k) d n→dot (A k) d n≠0:=fun k h hc=>by rw [hc] at h; exact absurd h (by decide)
   have hdiv : ∀ k,0<dot (A k) d n→(b k-dot (A k) x n) / dot (A k) d n*dot (A k) d n=b k-dot (A k) x n:=fun k h=>by
    rw [Rat.div_def,Rat.mul_assoc,Rat.inv_mul_cancel _ (hne0 k h),Rat.mul_one]
   have htk:t*dot (A k) d n=b k-dot (A k) x n:=by rw [ht]; exact hdiv k hpk
   have htp : ∀ k',k' < m→0<dot (A k') d n→t*dot (A k') d n≤b k' - dot (A k') x n:=fun k' h1 h2=>by
    rw [← hdiv k' h2]
    exact Rat.mul_le_mul_of_nonneg_right (by rw [ht]; exact hmin k' h1 h2) (Rat.le_of_lt h2)
   have ht0:0≤t:=by
    rw [ht,Rat.div_def]
    refine Rat.mul_nonneg ?_ (Rat.le_of_lt (Rat.inv_pos.2 hpk))
    have:=hx k hk; grind
   have hx' : ∀ k',k' < m→dot (A k') (fun i=>x i+t*d i) n≤b k':=fun k' h1=>by
    rw [dot_add]
    have h2:=hx k' h1
    rcases Rat.le_total (a:=dot (A k') d n) (b:=0) with h | h
    · have:t*dot (A k') d n≤0:=by
       have:=Rat.mul_nonneg ht0 (show 0≤- dot (A k') d n by grind)
       grind
      grind
    · by_cases h3:dot (A k') d n=0
      · rw [h3]; grind
      · have:=htp k' h1 (by grind); grind
   have hnt:dot (A k) x n≠b k:=fun h=>by have:=hd k hk h; exact hne0 k hpk this
   obtain ⟨v,v1,v2,v3⟩:=ih (fun i=>x i+t*d i) (by
    have h4:=(cntN_lt (p:=fun k=>b k-dot (A k) x n) (q:=fun k'=>b k' - dot (A k') (fun i=>x i+t*d i) n) (w:=k) m fun v hv h h'=>h (by
     have h5:dot (A v) x n=b v:=by grind
     simp only [dot_add,hd v hv h5]; grind)).1 hk ⟨by simp only [dot_add,htk]; grind,fun h=>hnt (by grind)⟩
    omega) hx'
   exact ⟨v,v1,by rw [dot_add] at v2; have:=Rat.mul_nonneg ht0 hw; grind,v3⟩
/-! ### Rows that do not depend on each other -/
/-- A row of the list, by its place. -/
def Ww (A:Nat→Nat→Rat) (B:List Nat) (r:Nat):Nat→Rat:=A (B.getD r 0)
def Ind (A:Nat→Nat→Rat) (n:Nat) (B:List Nat):Prop:=∀ u:Nat→Rat,(∀ i,i<n→sumTo (fun r=>u r*Ww A B r i) B.length=0)→∀ r,r<B.length→u r=0
def Span (A:Nat→Nat→Rat) (n:Nat) (B:List Nat) (k:Nat):Prop:=∃ u:Nat→Rat,∀ i,i<n→sumTo (fun r=>u r*Ww A B r i) B.length=A k i
theorem rowOf_app {A:Nat→Nat→Rat} {B:List Nat} {k r:Nat} (h:r<B.length):Ww A (B++[k]) r=Ww A B r:=by
 rw [Ww,Ww,List.getD,List.getElem?_append_left h,List.getD]
theorem rowOf_end (A:Nat→Nat→Rat) (B:List Nat) (k:Nat):Ww A (B++[k]) B.length=A k:=by
 rw [Ww,List.getD,List.getElem?_append_right (Nat.le_refl _)]; simp
theorem sum_snoc (A:Nat→Nat→Rat) (B:List Nat) (k i:Nat) (u:Nat→Rat):sumTo (fun r=>u r*Ww A (B++[k]) r i) (B++[k]).length=sumTo (fun r=>u r*Ww A B r i) B.length+u B.length*A k i:=by
 rw [List.length_append,List.length_singleton,sumTo,rowOf_end]
 congr 1
 exact Zh fun r hr=>by rw [rowOf_app hr]
theorem sum_one {n t:Nat} (g:Nat→Rat) (h:t<n):sumTo (fun r=>(if r=t then 1 else 0)*g r) n=g t:=by
 have:=Xy (n:=n) (t:=t) g h
 rw [← this]
 exact Zh fun r _=>by split <;> grind
theorem basis (A:Nat→Nat→Rat) (n:Nat) : ∀ L:List Nat,∃ B:List Nat,B.Sublist L∧Ind A n B∧∀ k∈L,Span A n B k:=by
 suffices h : ∀ L:List Nat,∃ B:List Nat,B.Sublist L.reverse∧Ind A n B∧∀ k∈L.reverse,Span A n B k from fun L=>by
  have:=h L.reverse
  rwa [List.reverse_reverse] at this
 intro L
 induction L with
 | nil=>exact ⟨[],.slnil,fun u _ r hr=>absurd hr (Nat.not_lt_zero r),fun k hk=>by cases hk⟩
 | cons k L ih =>
   obtain ⟨B,h1,h2,h3⟩:=ih
   rw [List.reverse_cons]
   by_cases hs:Span A n B k
   · refine ⟨B,h1.trans (List.sublist_append_left _ _),h2,fun k' hk=>?_⟩
     rcases List.mem_append.1 hk with hk | hk
     · exact h3 k' hk
     · rw [List.mem_singleton.1 hk]; exact hs
   · refine ⟨B++[k],h1.append (List.Sublist.refl _),fun u hu r hr=>?_,fun k' hk=>?_⟩
     · have hk0:u B.length=0:=Classical.byContradiction fun hc=>hs ⟨fun r=>- u r / u B.length,fun i hi=>by
        have h4:=hu i hi
        rw [sum_snoc] at h4
        have h5:sumTo (fun r=>- u r / u B.length*Ww A B r i) B.length=(- 1 / u B.length)*sumTo (fun r=>u r*Ww A B r i) B.length:=by
         rw [← Yc]
         exact Zh fun r _=>by rw [Rat.div_def,Rat.div_def]; grind
        have h6:sumTo (fun r=>u r*Ww A B r i) B.length = - (u B.length*A k i):=by grind
        rw [h5,h6,Rat.div_def]
        have h7:=Rat.mul_inv_cancel _ hc
        grind⟩
       rw [List.length_append,List.length_singleton] at hr
       rcases Nat.lt_or_ge r B.length with h4 | h4
       · refine h2 u (fun i hi=>?_) r h4
         have:=hu i hi
         rw [sum_snoc,hk0] at this; grind
       · obtain rfl:r=B.length:=by omega
         exact hk0
     · rcases List.mem_append.1 hk with hk | hk
       · obtain ⟨u,hu⟩:=h3 k' hk
         refine ⟨fun r=>if r<B.length then u r else 0,fun i hi=>?_⟩
         rw [sum_snoc,if_neg (Nat.lt_irrefl _),← hu i hi]
         have:sumTo (fun r=>(if r<B.length then u r else 0)*Ww A B r i) B.length=sumTo (fun r=>u r*Ww A B r i) B.length:=Zh fun r hr=>by rw [if_pos hr]
         rw [this]; grind
       · refine ⟨fun r=>if r=B.length then 1 else 0,fun i hi=>?_⟩
         rw [List.mem_singleton.1 hk,sum_snoc,if_pos rfl]
         have:sumTo (fun r=>(if r=B.length then (1:Rat) else 0)*Ww A B r i) B.length=0:=Yr fun r hr=>by rw [if_neg (by omega)]; grind
         rw [this]; grind
theorem wide_ker {m k:Nat} (T:Nat→Nat→Rat) (h:m<k) : ∃ d:Nat→Rat,(∃ c,c<k∧d c≠0)∧∀ i,i<m→sumTo (fun c=>T i c*d c) k=0:=by
 obtain ⟨S,hS⟩ : ∃ S:SysT,S=fun i c=>if c<k then T i c else 0:=⟨_,rfl⟩
 have hsum : ∀ (d:Nat→Rat) i,sumTo (fun c=>S i c*d c) k=sumTo (fun c=>T i c*d c) k:=fun d i=>Zh fun c hc=>by rw [hS]; simp only [if_pos hc]
 rcases solve_none (solve_wide (T:=S) h) with h1 | ⟨d,h1,h2⟩
 · refine absurd (fun i _=>?_) (h1 fun _=>0)
   rw [hS]
   simp only [Nat.lt_irrefl,if_false]
   exact Yr fun c _=>Rat.mul_zero _
 · exact ⟨d,h2,fun i hi=>by rw [← hsum]; exact h1 i hi⟩
theorem pick_rows {A:Nat→Nat→Rat} {n:Nat} {L:List Nat} (h : ∀ d:Nat→Rat,(∀ k∈L,dot (A k) d n=0)→∀ i,i<n→d i=0) :
  ∃ B:List Nat,B.Sublist L∧B.length=n∧det n (fun c r=>Ww A B r c)≠0:=by
 obtain ⟨B,h1,h2,h3⟩:=basis A n L
 have hle:n≤B.length:=Classical.byContradiction fun hc=>by
  obtain ⟨d,⟨c,hc1,hc2⟩,hd⟩:=wide_ker (fun r i=>Ww A B r i) (show B.length<n by omega)
  refine hc2 (h d (fun k hk=>?_) c hc1)
  obtain ⟨u,hu⟩:=h3 k hk
  have e:dot (A k) d n=sumTo (fun i=>sumTo (fun r=>u r*Ww A B r i*d i) B.length) n:=Zh fun i hi=>by
   rw [← hu i hi,Rat.mul_comm,← Yc]
   exact Zh fun r _=>by grind
  rw [e,Wf]
  exact Yr fun r hr=>by
   have e2:sumTo (fun i=>u r*Ww A B r i*d i) n=u r*sumTo (fun i=>Ww A B r i*d i) n:=by
    rw [← Yc]; exact Zh fun i _=>by grind
   rw [e2,hd r hr]; grind
 have hge:B.length≤n:=Classical.byContradiction fun hc=>by
  obtain ⟨u,⟨r,hr,hu⟩,hd⟩:=wide_ker (fun i r=>Ww A B r i) (show n<B.length by omega)
  exact hu (h2 u (fun i hi=>by rw [← hd i hi]; exact Zh fun r _=>Rat.mul_comm _ _) r hr)
 have hl:B.length=n:=by omega
 refine ⟨B,h1,hl,fun hdet=>?_⟩
 obtain ⟨u,⟨r,hr,hu⟩,hc⟩:=left_ker n _ hdet
 exact hu (h2 u (fun i hi=>by rw [hl]; exact hc i hi) r (by omega))
end Bq
namespace Bq
def rowA (sets:List Nat) (k:Nat):Nat→Rat:=fun i=>if k<sets.length then bitQ (sets.getD k 0) i else if i=k-sets.length then 1 else 0
def rhsA (sets:List Nat) (k:Nat):Rat:=if k<sets.length then 1 else 0
structure PFeas (n:Nat) (sets:List Nat) (x:Nat→Rat):Prop where
 nn : ∀ i,i<n→0≤x i
 le : ∀ s∈sets,dot (bitQ s) x n≤1
structure Corner (n:Nat) (sets B:List Nat) (x:Nat→Rat):Prop where
 len:B.length=n
 sub:B.Sublist (List.range (sets.length+n))
 det:det n (fun c r=>Ww (rowA sets) B r c)≠0
 sol : ∀ r,r<n→sumTo (fun c=>x c*Ww (rowA sets) B r c) n=rhsA sets (B.getD r 0)
 ok:PFeas n sets x
theorem dot_unit {n t:Nat} (a:Nat→Rat) (x:Nat→Rat) (h:t<n) (ha : ∀ i,i<n→a i=if i=t then 1 else 0):dot a x n=x t:=by
 rw [← sum_one x h,dot]
 exact Zh fun i hi=>by rw [ha i hi]
theorem rowA_set {sets:List Nat} {k:Nat} (h:k<sets.length):rowA sets k=bitQ (sets.getD k 0):=by
 funext i; rw [rowA,if_pos h]
theorem rowA_unit {sets:List Nat} {t n:Nat} (x:Nat→Rat) (h:t<n):dot (rowA sets (sets.length+t)) x n=x t :=
 dot_unit _ x h fun i _=>by rw [rowA,if_neg (by omega),Nat.add_sub_cancel_left]
theorem getD_in {l:List Nat} {k:Nat} (h:k<l.length):l.getD k 0∈l:=by
 rw [List.getD,List.getElem?_eq_getElem h]; exact List.getElem_mem h
theorem bitQ_nn (s i:Nat):0≤bitQ s i:=by
 rw [bitQ]; split <;> decide
theorem corner_ex {n:Nat} {sets:List Nat} (hc : ∀ i,i<n→∃ s∈sets,s.testBit i=true) {x:Nat→Rat} (hx:PFeas n sets x) : ∃ B v,Corner n sets B v∧sumTo x n≤sumTo v n:=by
 obtain ⟨σ,hσ⟩ : ∃ σ:Nat→Rat,σ=fun k=>if k<sets.length then 1 else -1:=⟨_,rfl⟩
 obtain ⟨A,hA⟩ : ∃ A:Nat→Nat→Rat,A=fun k i=>σ k*rowA sets k i:=⟨_,rfl⟩
 obtain ⟨b,hb⟩ : ∃ b:Nat→Rat,b=rhsA sets:=⟨_,rfl⟩
 have hdA : ∀ k (y:Nat→Rat),dot (A k) y n=σ k*dot (rowA sets k) y n:=fun k y=>by
  rw [hA,dot,dot,← Yc]
  exact Zh fun i _=>by grind
 have hs1 : ∀ {k},k<sets.length→σ k=1:=fun h=>by rw [hσ]; exact if_pos h
 have hs2 : ∀ t,σ (sets.length+t) = -1:=fun t=>by rw [hσ]; exact if_neg (by omega)
 have hb1 : ∀ {k},k<sets.length→b k=1:=fun h=>by rw [hb]; exact if_pos h
 have hb2 : ∀ t,b (sets.length+t)=0:=fun t=>by rw [hb]; exact if_neg (by omega)
 have feas : ∀ y:Nat→Rat,(∀ k,k<sets.length+n→dot (A k) y n≤b k)↔PFeas n sets y:=fun y=>by
  constructor
  · intro h
    refine ⟨fun i hi=>?_,fun s hs=>?_⟩
    · have:=h (sets.length+i) (by omega)
      rw [hdA,hs2,hb2,rowA_unit y hi] at this; grind
    · obtain ⟨k,hk,rfl⟩:=List.mem_iff_getElem.1 hs
      have:=h k (by omega)
      rw [hdA,hs1 hk,hb1 hk,rowA_set hk,List.getD,List.getElem?_eq_getElem hk] at this
      simpa using this
  · intro h k hk
    rcases Nat.lt_or_ge k sets.length with h1 | h1
    · rw [hdA,hs1 h1,hb1 h1,rowA_set h1,Rat.one_mul]
      exact h.le _ (getD_in h1)
    · obtain ⟨t,rfl⟩ : ∃ t,k=sets.length+t:=⟨k-sets.length,by omega⟩
      rw [hdA,hs2,hb2,rowA_unit y (by omega)]
      have:=h.nn t (by omega); grind
 obtain ⟨v,v1,v2,v3⟩:=vert (n:=n) (m:=sets.length+n) A b (fun _=>1) (fun d hne hw=>by
  refine Classical.byContradiction fun hno=>?_
  have hle : ∀ k,k<sets.length+n→dot (A k) d n≤0:=fun k hk=>by
   rcases Rat.le_total (a:=dot (A k) d n) (b:=0) with h | h
   · exact h
   · by_cases h0:dot (A k) d n=0
     · rw [h0]; decide
     · exact absurd ⟨k,hk,by grind⟩ hno
  have hd0 : ∀ i,i<n→0≤d i:=fun i hi=>by
   have:=hle (sets.length+i) (by omega)
   rw [hdA,hs2,rowA_unit d hi] at this; grind
  obtain ⟨i,hi,h0⟩:=hne
  obtain ⟨s,hs,hbit⟩:=hc i hi
  obtain ⟨k,hk,rfl⟩:=List.mem_iff_getElem.1 hs
  have h1:=hle k (by omega)
  rw [hdA,hs1 hk,rowA_set hk,List.getD,List.getElem?_eq_getElem hk,Option.getD_some,Rat.one_mul] at h1
  have h2:=sumTo_one (g:=fun i=>bitQ sets[k] i*d i) hi fun j hj=>Rat.mul_nonneg (bitQ_nn _ _) (hd0 j hj)
  have h3:bitQ sets[k] i=1:=by rw [bitQ,if_pos hbit]
  simp only [h3,Rat.one_mul] at h2
  have h4:=hd0 i hi
  rw [dot] at h1
  grind) _ x (Nat.le_refl _) ((feas x).2 hx)
 have hvf:=(feas v).1 v1
 have h0σ : ∀ k,σ k≠0:=fun k=>by rw [hσ]; simp only; split <;> decide
 obtain ⟨B,b1,b2,b3⟩:=pick_rows (A:=rowA sets) (n:=n) (L:=(List.range (sets.length+n)).filter fun k=>decide (dot (A k) v n=b k)) fun d hd=>v3 d fun k hk ht=>by
  rw [hdA,hd k (List.mem_filter.2 ⟨List.mem_range.2 hk,by simpa using ht⟩),Rat.mul_zero]
 have hsum : ∀ y:Nat→Rat,dot (fun _=>1) y n=sumTo y n:=fun y=>by rw [dot]; exact Zh fun i _=>Rat.one_mul _
 rw [hsum,hsum] at v2
 refine ⟨B,v,⟨b2,b1.trans (List.filter_sublist),b3,fun r hr=>?_,hvf⟩,v2⟩
 have hm:B.getD r 0∈B:=getD_in (by omega)
 obtain ⟨hm1,hm2⟩:=List.mem_filter.1 (b1.subset hm)
 rw [decide_eq_true_eq,hdA] at hm2
 rw [List.mem_range] at hm1
 have h4:sumTo (fun c=>v c*Ww (rowA sets) B r c) n=dot (rowA sets (B.getD r 0)) v n:=Zh fun c _=>Rat.mul_comm _ _
 rw [h4,← hb]
 rcases Nat.lt_or_ge (B.getD r 0) sets.length with h1 | h1
 · rw [hs1 h1] at hm2; grind
 · obtain ⟨t,ht⟩ : ∃ t,B.getD r 0=sets.length+t:=⟨B.getD r 0-sets.length,by omega⟩
   rw [ht] at hm2 ⊢
   rw [hs2,hb2] at hm2
   rw [hb2]; grind
structure IsOpt (n:Nat) (sets:List Nat) (q:Rat):Prop where
 at_ : ∃ x,PFeas n sets x∧sumTo x n=q
 le : ∀ x,PFeas n sets x→sumTo x n≤q
theorem isOpt_of {n:Nat} {sets:List Nat} {q:Rat} (hc : ∀ i,i<n→∃ s∈sets,s.testBit i=true) (h1 : ∃ x,PFeas n sets x∧sumTo x n=q) (h2 : ∀ B x,Corner n sets B x→sumTo x n≤q):IsOpt n sets q :=
 ⟨h1,fun x hx=>by
  obtain ⟨B,v,hv,hl⟩:=corner_ex hc hx
  exact Rat.le_trans hl (h2 B v hv)⟩
theorem IsOpt.inj {n:Nat} {sets:List Nat} {p q:Rat} (h1:IsOpt n sets p) (h2:IsOpt n sets q):p=q:=by
 obtain ⟨x,hx,e1⟩:=h1.at_
 obtain ⟨y,hy,e2⟩:=h2.at_
 have:=h1.le y hy
 have:=h2.le x hx
 grind
/-! ### The program's determinant -/
def pdet:Nat→List (List Int)→Int
 | 0,_=>1
 | n+1,s=>isum (fun i=>(if (i+n) % 2=0 then 1 else -1)*(s.getD i []).getD n 0*pdet n (s.eraseIdx i)) s.length
where
 isum (f:Nat→Int):Nat→Int
  | 0=>0
  | n+1=>isum f n+f n
def tau:Nat→Rat
 | 0=>1
 | n+1=>sgn n*tau n
theorem tau_sq (n:Nat):tau n*tau n=1:=by
 induction n with
 | zero=>rw [tau,Rat.mul_one]
 | succ n ih =>
   rw [tau]
   have:=sgn_sq n
   have e:sgn n*tau n*(sgn n*tau n)=(sgn n*sgn n)*(tau n*tau n):=by grind
   rw [e,this,ih,Rat.mul_one]
theorem sgn_even : ∀ k,((if k % 2=0 then (1:Int) else -1:Int):Rat)=sgn k
 | 0=>rfl
 | 1=>by rw [sgn,sgn]; rfl
 | k+2=>by
   rw [sgn,sgn,← sgn_even k,show (k+2) % 2=k % 2 by omega]
   split <;> decide
theorem getD_erase {α:Type} (l:List α) (d:α) (i r:Nat):(l.eraseIdx i).getD r d=l.getD (skp i r) d:=by
 rw [List.getD,List.getD,List.getElem?_eraseIdx,skp]
 split <;> rfl
theorem isum_cast (f:Nat→Int) (n:Nat):((pdet.isum f n:Int):Rat)=sumTo (fun i=>(f i:Rat)) n:=by
 induction n with
 | zero=>rfl
 | succ n ih=>rw [pdet.isum,sumTo,Rat.intCast_add,ih]
def colsOf (n:Nat) (s:List (List Int)):Nat→Nat→Rat:=fun c r=>(((s.getD r []).getD (n-1-c) 0:Int):Rat)
theorem pdet_det : ∀ (n:Nat) (s:List (List Int)),s.length=n→((pdet n s:Int):Rat)=tau n*det n (colsOf n s)
 | 0,s,h=>by rw [pdet,tau,det,Rat.mul_one]; rfl
 | n+1,s,h=>by
   rw [pdet,isum_cast,h,tau,det,← Yc]
   refine Zh fun i hi=>?_
   have h1:=pdet_det n (s.eraseIdx i) (by rw [List.length_eraseIdx,if_pos (by omega),h]; rfl)
   have h2:det n (colsOf n (s.eraseIdx i))=det n (fun c r=>colsOf (n+1) s (c+1) (skp i r)):=Xt _ fun c r hc hr=>by
    rw [colsOf,colsOf,getD_erase,show n+1-1-(c+1)=n-1-c by omega]
   rw [Rat.intCast_mul,Rat.intCast_mul,h1,h2,sgn_even,sgn_add]
   have h3:colsOf (n+1) s 0 i=(((s.getD i []).getD n 0:Int):Rat):=rfl
   rw [h3]; grind
def putR (n j:Nat) (r:List Int):List Int:=r.set j (r.getD n 0)
theorem pdet_cram {n:Nat} {s:List (List Int)} (hl:s.length=n) (hr : ∀ r∈s,r.length=n+1) {x:Nat→Rat} (hx : ∀ r,r<n→sumTo (fun c=>x c*(((s.getD r []).getD c 0:Int):Rat)) n=(((s.getD r []).getD n 0:Int):Rat)) {j:Nat} (hj:j<n) :
  ((pdet n (s.map (putR n j)):Int):Rat)=x j*((pdet n s:Int):Rat):=by
 have hrev : ∀ g:Nat→Rat,sumTo (fun c=>g (n-1-c)) n=sumTo g n:=by
  intro g
  have key : ∀ m,m≤n→sumTo (fun c=>g (n-1-c)) m+sumTo g (n-m)=sumTo g n:=by
   intro m
   induction m with
   | zero=>intro _; rw [sumTo,Rat.zero_add]; rfl
   | succ m ih =>
     intro hm
     rw [← ih (by omega),sumTo,show n-m=(n-(m+1))+1 by omega,sumTo,show n-1-m=n-(m+1) by omega]
     grind
  have:=key n (Nat.le_refl n)
  rw [Nat.sub_self,sumTo,Rat.add_zero] at this
  exact this
 have h1:=cramer (n:=n) (j:=n-1-j) (M:=colsOf n s) (b:=fun r=>(((s.getD r []).getD n 0:Int):Rat)) (x:=fun c=>x (n-1-c)) (by omega) fun r hr'=>by
  have h2:sumTo (fun c=>x (n-1-c)*colsOf n s c r) n=sumTo (fun c=>x c*(((s.getD r []).getD c 0:Int):Rat)) n:=hrev fun c=>x c*(((s.getD r []).getD c 0:Int):Rat)
  rw [h2]; exact hx r hr'
 rw [show n-1-(n-1-j)=j by omega] at h1
 rw [pdet_det n _ (by rw [List.length_map,hl]),pdet_det n s hl]
 have h3:det n (colsOf n (s.map (putR n j)))=det n (putC (colsOf n s) (n-1-j) fun r=>(((s.getD r []).getD n 0:Int):Rat)):=Xt _ fun c r hc hr'=>by
  have hrs:r<s.length:=by omega
  have hrl:=hr _ (List.getElem_mem hrs)
  have e1:(s.map (putR n j)).getD r []=putR n j (s.getD r []):=by
   rw [List.getD,List.getElem?_map,List.getD,List.getElem?_eq_getElem hrs]; rfl
  have e2:s.getD r []=s[r]:=by rw [List.getD,List.getElem?_eq_getElem hrs]; rfl
  rw [colsOf,e1,putC]
  by_cases h:c=n-1-j
  · rw [if_pos h,putR,h,show n-1-(n-1-j)=j by omega,List.getD,List.getElem?_set_self (by rw [e2]; omega)]; rfl
  · rw [if_neg h,putR,List.getD,List.getElem?_set_ne (by omega)]; rfl
 rw [h3,h1]; grind
def fact:Nat→Nat
 | 0=>1
 | n+1=>(n+1)*fact n
theorem isum_abs {f:Nat→Int} {B:Nat} : ∀ {n:Nat},(∀ i,i<n→(f i).natAbs≤B)→(pdet.isum f n).natAbs≤n*B
 | 0,_=>by simp [pdet.isum]
 | n+1,h=>by
   have h1:=isum_abs (n:=n) fun i hi=>h i (by omega)
   have h2:=h n (by omega)
   have h3:=Int.natAbs_add_le (pdet.isum f n) (f n)
   rw [pdet.isum,Nat.succ_mul]; omega
theorem pdet_abs : ∀ (n:Nat) (s:List (List Int)),s.length=n→(∀ r∈s,∀ y∈r,y=0∨y=1)→(pdet n s).natAbs≤fact n
 | 0,s,_,_=>by rw [pdet,fact]; decide
 | n+1,s,h,h01=>by
   rw [pdet,h,fact]
   refine isum_abs fun i hi=>?_
   have h1:=pdet_abs n (s.eraseIdx i) (by rw [List.length_eraseIdx,if_pos (by omega),h]; rfl) fun r hr=>h01 r (List.mem_of_mem_eraseIdx hr)
   have hy:(s.getD i []).getD n 0=0∨(s.getD i []).getD n 0=1:=by
    have e2:s.getD i []=s[i]'(by omega):=by rw [List.getD,List.getElem?_eq_getElem]; rfl
    rw [e2]
    rcases Nat.lt_or_ge n (s[i]'(by omega)).length with h2 | h2
    · rw [List.getD,List.getElem?_eq_getElem h2]; exact h01 _ (List.getElem_mem _) _ (List.getElem_mem _)
    · left; rw [List.getD,List.getElem?_eq_none h2]; rfl
   rw [Int.natAbs_mul,Int.natAbs_mul]
   have h3:(if (i+n) % 2=0 then (1:Int) else -1).natAbs=1:=by split <;> rfl
   rw [h3,Nat.one_mul]
   rcases hy with h4 | h4 <;> rw [h4]
   · simp
   · simpa using h1
end Bq
namespace Go.Proofs.Tryd.Am
open Go.Am
set_option maxRecDepth 100000
set_option maxHeartbeats 4000000
def RowsI (h:Zi) (v:Value) (rows:List (List Int)):Prop:=∃ ws,ValSl h v ws∧Each (IntSl h) ws rows
theorem RowsI.ext {h h' : Zi} {v:Value} {rows:List (List Int)} (hr:RowsI h v rows) (hE:Ext (fun _=>False) h h'):RowsI h' v rows:=by
 obtain ⟨ws,h1,h2⟩:=hr
 exact ⟨ws,h1.ext hE,h2.imp fun w l hw=>hw.same fun b hb=>hE.2 b (hw.lt hb) id⟩
theorem intSl_notI {h:Zi} {v:Value} {xs:List Int} (hv:IntSl h v xs):notI v=true∧one v=true:=by
 rcases hv with ⟨rfl,rfl⟩ | ⟨b,o,sp,cap,c,e,ro,rfl,_⟩ <;> exact ⟨rfl,rfl⟩
theorem Each.take' {R:Value→List Int→Prop} : ∀ {us:List Value} {bs:List (List Int)} (i:Nat),Each R us bs→Each R (us.take i) (bs.take i)
 | [],[],i,_=>by simp; trivial
 | _::_,_::_,0,_=>trivial
 | _::_,_::_,i+1,h=>⟨h.1,Each.take' i h.2⟩
 | [],_::_,_,h=>h.elim
 | _::_,[],_,h=>h.elim
theorem Each.drop' {R:Value→List Int→Prop} : ∀ {us:List Value} {bs:List (List Int)} (i:Nat),Each R us bs→Each R (us.drop i) (bs.drop i)
 | [],[],i,_=>by simp; trivial
 | _::_,_::_,0,h=>h
 | _::_,_::_,i+1,h=>Each.drop' i h.2
 | [],_::_,_,h=>h.elim
 | _::_,[],_,h=>h.elim
theorem ext_own {h h1 h2:Zi} {v1:Value} (hE1:Ext (fun _=>False) h h1) (hb : ∀ b,Yf v1=some b→h.length≤b) (hE2:Ext (fun i=>Yf v1=some i) h1 h2):Ext (fun _=>False) h h2 :=
 ⟨Nat.le_trans hE1.1 hE2.1,fun i hi _=>(hE2.2 i (Nat.lt_of_lt_of_le hi hE1.1) fun hc=>by have:=hb _ hc; omega).trans (hE1.2 i hi id)⟩
theorem tmod2 (k:Nat):Int.tmod (k:Int) 2=((k % 2:Nat):Int):=rfl
theorem fact_le : ∀ {n:Nat},n≤6→Bq.fact n≤720
 | 0,_=>by decide
 | 1,_=>by decide
 | 2,_=>by decide
 | 3,_=>by decide
 | 4,_=>by decide
 | 5,_=>by decide
 | 6,_=>by decide
 | n+7,h=>by omega
def detF (n:Nat) (s:List (List Int)) (i:Nat):Int:=(if (i+n) % 2=0 then 1 else -1)*(s.getD i []).getD n 0*Bq.pdet n (s.eraseIdx i)
theorem s99_callW [Tabs Tryd.prog] {args:List Value} {h:Zi} {Q:Value→Zi→Prop} (hsz:args.length≤57) (hk:AWS Tryd.prog 57 s99 (Zt Tryd.prog [.tmp 4] Q) (Zs 0 args) h):ACall Tryd.prog 99 args h Q :=
 Xd Tryd.func99 rfl (enters_of Tryd.func99 (by kernel_rfl) rfl) rfl rfl (by decide) s99_strip s99_ok hsz hk
theorem det_call [Tabs prog] : ∀ (n:Nat) {h:Zi} {v:Value} {s:List (List Int)},n≤6→s.length=n→(∀ r∈s,n≤r.length∧∀ y∈r,y=0∨y=1)→RowsI h v s→Wi prog 99 [v,Zd n] h (Zd (Bq.pdet n s)):=by
 intro n
 induction n with
 | zero =>
   intro h v s h6 hl hr hv
   refine s99_call (by simp) ?_
   simp only [s99]
   simp (maxSteps:=2000000) only [↓Za,↓Zl,↓Zw,↓Zb,↓Zc,↓vdn,vup,cond_true,cond_false,aop,Zf,Zs,ev,sput,Ze,Zx,Ya,Nat.reduceBEq,Nat.reduceAdd,Int.reduceBEq,Zt,Xi,tup,Int.natCast_zero]
   rfl
 | succ n ih =>
   intro h v s h6 hl hr hv
   refine ACall.forget (.int _ _) ?_
   have hrow : ∀ i,i<n+1→n<(s.getD i []).length∧((s.getD i []).getD n 0=0∨(s.getD i []).getD n 0=1):=fun i hi=>by
    have e2:s.getD i []=s[i]'(by omega):=by rw [List.getD,List.getElem?_eq_getElem]; rfl
    obtain ⟨h1,h2⟩:=hr _ (List.getElem_mem (show i<s.length by omega))
    rw [e2]
    have h3:n<(s[i]'(by omega)).length:=by omega
    exact ⟨h3,by rw [List.getD,List.getElem?_eq_getElem h3]; exact h2 _ (List.getElem_mem _)⟩
   have her : ∀ i,i<n+1→(s.eraseIdx i).length=n∧∀ r∈s.eraseIdx i,n≤r.length∧∀ y∈r,y=0∨y=1:=fun i hi =>
    ⟨by rw [List.length_eraseIdx,if_pos (by omega)]; omega,fun r h=>by
     obtain ⟨h1,h2⟩:=hr r (List.mem_of_mem_eraseIdx h)
     exact ⟨by omega,h2⟩⟩
   have habs : ∀ i,i<n+1→(Bq.pdet n (s.eraseIdx i)).natAbs≤720:=fun i hi =>
    Nat.le_trans (Bq.pdet_abs n _ (her i hi).1 fun r h=>((her i hi).2 r h).2) (fact_le (by omega))
   have hF : ∀ i,i<n+1→(detF n s i).natAbs≤720:=fun i hi=>by
    rw [detF,Int.natAbs_mul,Int.natAbs_mul]
    have h3:(if (i+n) % 2=0 then (1:Int) else -1).natAbs=1:=by split <;> rfl
    have h4:=habs i hi
    rw [h3,Nat.one_mul]
    rcases (hrow i hi).2 with h5 | h5 <;> rw [h5]
    · simp
    · simpa using h4
   have hsumb : ∀ i,i≤n+1→(Bq.pdet.isum (detF n s) i).natAbs≤7*720:=fun i hi =>
    Nat.le_trans (Bq.isum_abs (f:=detF n s) (B:=720) fun j hj=>hF j (by omega)) (Nat.mul_le_mul_right _ (by omega))
   have hpd:Bq.pdet (n+1) s=Bq.pdet.isum (detF n s) (n+1):=by rw [Bq.pdet,hl]; rfl
   have hn0:(((n+1:Nat):Int)==0)=false:=by rw [beq_eq_false_iff_ne]; omega
   have hsub:subV .i64 ((n+1:Nat):Int) 1=((n:Nat):Int):=by rw [Vr (by omega) (by omega)]; omega
   obtain ⟨ws,w1,w2⟩:=hv
   have hwl:ws.length=n+1:=w2.len.trans hl
   have hnot : ∀ w∈ws,notI w=true∧one w=true:=fun w hw=>by obtain ⟨l,hl⟩:=w2.mem w hw; exact intSl_notI hl
   refine s99_callW (by simp) ?_
   simp only [s99]
   refine Zg fun N1 hN1=>?_
   simp (maxSteps:=2000000) only [↓Za,↓Zb,↓Zc,vup,cond_false,aop,Zf,Zs,ev,sput,Ze,Nat.reduceBEq,Nat.reduceAdd]
   refine hN1 [(0,v),(1,Zd (n+1:Nat)),(4,.int .i64 0)] _ _ ?_ (by simp (maxSteps:=2000000) only [vup,cond_true,cond_false,Nat.reduceBEq])
   clear hN1
   try clear N1
   refine Zo fun M hM=>?_
   refine Zg fun N2 hN2=>?_
   simp (maxSteps:=2000000) only [↓Za,↓Zb,↓Zc,vup,cond_true,cond_false,aop,Zf,ev,sput,Ze,Zx,Ya,Nat.reduceBEq,hn0]
   refine hN2 [(0,v),(1,Zd (n+1:Nat)),(4,.int .i64 0),(11,.bool false)] _ _ ?_ (by simp (maxSteps:=2000000) only [vup,cond_true,cond_false,Nat.reduceBEq])
   clear hN2
   try clear N2
   refine Yh rfl ?_
   refine Zm ?_
   simp (maxSteps:=2000000) only [↓Zn,Zf]
   refine hM [(0,v),(1,Zd (n+1:Nat)),(4,.int .i64 0)] _ _ ?_ (by simp (maxSteps:=2000000) only [vup,cond_true,cond_false,Nat.reduceBEq])
   clear hM
   try clear M
   refine Zg fun N3 hN3=>?_
   simp (maxSteps:=2000000) only [↓Za,↓Zb,↓Zc,vup,cond_false,aop,Zf,ev,sput,Ze,Nat.reduceBEq]
   refine hN3 [(0,v),(1,Zd (n+1:Nat)),(4,.int .i64 0),(5,.int .i64 0),(6,.int .i64 1)] _ _ ?_ (by simp (maxSteps:=2000000) only [vup,cond_true,cond_false,Nat.reduceBEq])
   clear hN3
   try clear N3
   refine Zo fun Z hZ=>?_
   refine Zg fun N4 hN4=>?_
   simp (maxSteps:=2000000) only [↓Za,↓Zb,↓Zc,vup,List.map_cons,List.map_nil,cond_true,cond_false,aop,Zf,ev,sput,Ze,Zj,Nat.reduceBEq,tyf,w1.len,hwl]
   refine hN4 [(0,v),(1,Zd (n+1:Nat)),(4,.int .i64 0),(5,.int .i64 0),(6,.int .i64 1),(12,v),(13,Zd (n+1:Nat)),(14,.int .i64 0)] _ _ ?_ (by simp (maxSteps:=2000000) only [vup,cond_true,cond_false,Nat.reduceBEq])
   clear hN4
   try clear N4
   refine Zr ?_
   refine Zp fun Q hQ=>?_
   refine Yu (γ:=Nat×Int×Zi) (fun g=>g.1≤n+1∧Ext (fun _=>False) h g.2.2)
    (fun g=>([(0,v),(1,Zd (n+1:Nat)),(4,.int .i64 0),(5,Zd (Bq.pdet.isum (detF n s) g.1)),(6,Zd g.2.1),(12,v),(13,Zd (n+1:Nat)),(14,Zd (g.1:Nat))],g.2.2)) (fun g=>n+1-g.1) (0,1,h) ⟨Nat.zero_le _,Ext.refl _ _⟩ (by simp (maxSteps:=2000000) only [vup,cond_true,cond_false,Nat.reduceBEq,Int.natCast_zero,show Bq.pdet.isum (detF n s) 0=0 from rfl]) rfl ?_
   rintro ⟨i,sg,H⟩ ⟨hi,hE⟩
   simp only at hi hE
   refine Zp fun Q2 hQ2=>?_
   simp only [l99_0]
   by_cases hin:(i:Int)<((n+1:Nat):Int)
   · have hi' : i<n+1:=by omega
     have hiW:i<ws.length:=by omega
     have hiS:i<s.length:=by omega
     obtain ⟨w,hwd⟩ : ∃ w,w=ws.getD i undef:=⟨_,rfl⟩
     have hw:IntSl H w (s.getD i []):=by
      have:=w2.get undef [] hiS
      rw [← hwd] at this
      exact this.same fun b hb=>hE.2 b (this.lt hb) id
     obtain ⟨hrl,hr01⟩:=hrow i hi'
     have hsn:Bq.pdet.isum (detF n s) (i+1)=Bq.pdet.isum (detF n s) i+detF n s i:=rfl
     refine Zg fun N5 hN5=>?_
     simp (maxSteps:=2000000) only [↓Za,↓Zb,↓Zc,vup,cond_true,cond_false,aop,Zf,ev,sput,Ze,Zx,Ya,Nat.reduceBEq,hin]
     refine hN5 [(0,v),(1,Zd (n+1:Nat)),(4,.int .i64 0),(5,Zd (Bq.pdet.isum (detF n s) i)),(6,Zd sg),(12,v),(13,Zd (n+1:Nat)),(14,Zd (i:Nat)),(15,.bool true)] _ _ ?_ (by simp (maxSteps:=2000000) only [vup,cond_true,cond_false,Nat.reduceBEq])
     clear hN5
     try clear N5
     refine Zg fun N6 hN6=>?_
     simp (maxSteps:=2000000) only [↓Zn,↓vdn,vup,cond_true,cond_false,Zf,ev,Nat.reduceBEq]
     refine hN6 [(0,v),(1,Zd (n+1:Nat)),(4,.int .i64 0),(5,Zd (Bq.pdet.isum (detF n s) i)),(6,Zd sg),(12,v),(13,Zd (n+1:Nat)),(14,Zd (i:Nat))] _ _ ?_ (by simp (maxSteps:=2000000) only [vup,cond_true,cond_false,Nat.reduceBEq])
     clear hN6
     try clear N6
     refine Zo fun B hB=>?_
     refine Zr ?_
     refine Zg fun N7 hN7=>?_
     simp (maxSteps:=2000000) only [↓Za,↓Zb,↓Zc,vup,cond_true,cond_false,aop,Zf,ev,sput,Ze,Nat.reduceBEq,w1.idx el_84 esz_22 hiW,(w1.ext hE).load shp_22 hiW,← hwd]
     refine hN7 [(0,v),(1,Zd (n+1:Nat)),(4,.int .i64 0),(5,Zd (Bq.pdet.isum (detF n s) i)),(6,Zd sg),(7,Zd (i:Nat)),(8,w),(12,v),(13,Zd (n+1:Nat)),(14,Zd (i:Nat))] _ _ ?_ (by simp (maxSteps:=2000000) only [vup,cond_true,cond_false,Nat.reduceBEq])
     clear hN7
     try clear N7
     refine Zg fun N8 hN8=>?_
     simp (maxSteps:=2000000) only [↓Za,↓Zb,↓Zc,vup,cond_true,cond_false,aop,Zf,ev,sput,Ze,Zx,Ya,Nat.reduceBEq,tyf,hsub,hw.idx Xv Xg hrl,hw.load Xl hrl]
     refine hN8 [(0,v),(1,Zd (n+1:Nat)),(4,.int .i64 0),(5,Zd (Bq.pdet.isum (detF n s) i)),(6,Zd sg),(7,Zd (i:Nat)),(8,w),(12,v),(13,Zd (n+1:Nat)),(14,Zd (i:Nat)),(24,.bool ((s.getD i []).getD n 0 != 0))] _ _ ?_ (by simp (maxSteps:=2000000) only [vup,cond_true,cond_false,Nat.reduceBEq])
     clear hN8
     try clear N8
     rcases hr01 with h01 | h01
     · have hz:detF n s i=0:=by rw [detF,h01,Int.mul_zero,Int.zero_mul]
       rw [hz,Int.add_zero] at hsn
       refine Yh (by rw [h01]; rfl) ?_
       refine Zm ?_
       simp (maxSteps:=2000000) only [↓Zn,Zf,Zk]
       refine hB [(0,v),(1,Zd (n+1:Nat)),(4,.int .i64 0),(5,Zd (Bq.pdet.isum (detF n s) i)),(6,Zd sg),(12,v),(13,Zd (n+1:Nat)),(14,Zd (i:Nat))] _ _ ?_ (by simp (maxSteps:=2000000) only [vup,cond_true,cond_false,Nat.reduceBEq])
       clear hB
       try clear B
       refine Zm ?_
       simp (maxSteps:=2000000) only [↓Za,↓Zb,↓Zc,vup,cond_true,cond_false,aop,ev,sput,Ze,Zx,Ya,Nat.reduceBEq,Wx (show i<9223372036854775807 by omega)]
       exact hQ2 _ _ _ ⟨(i+1,sg,H),⟨hi',hE⟩,by simp only; omega,by simp (maxSteps:=2000000) only [vup,cond_true,cond_false,Nat.reduceBEq,hsn],rfl⟩
     · have hf:detF n s i=(if (i+n) % 2=0 then 1 else -1)*Bq.pdet n (s.eraseIdx i):=by rw [detF,h01,Int.mul_one]
       refine Yp (by rw [h01]; rfl) ?_
       refine Zg fun N9 hN9=>?_
       simp (maxSteps:=2000000) only [↓Za,↓Zb,↓Zc,vup,cond_false,aop,Zf,ev,sput,Ze,Nat.reduceBEq]
       refine hN9 [(0,v),(1,Zd (n+1:Nat)),(4,.int .i64 0),(5,Zd (Bq.pdet.isum (detF n s) i)),(6,Zd sg),(7,Zd (i:Nat)),(8,w),(9,.slice none 0 0),(12,v),(13,Zd (n+1:Nat)),(14,Zd (i:Nat)),(24,.bool ((s.getD i []).getD n 0 != 0))] _ _ ?_ (by simp (maxSteps:=2000000) only [vup,cond_true,cond_false,Nat.reduceBEq])
       clear hN9
       try clear N9
       refine Zg fun N10 hN10=>?_
       refine Xo [] (by kernel_rfl) (by kernel_rfl) (by kernel_rfl) (by kernel_rfl) ?_
       simp (maxSteps:=2000000) only [↓Yn,↓vdn,vup,List.map_cons,List.map_nil,cond_true,cond_false,aop,Zf,ev,sput,Ze,Zx,Ya,Zj,Nat.reduceBEq,Option.map_some,Option.map_none]
       refine (w1.ext hE).pre el_84 esz_22 (Nat.le_of_lt hiW) fun u1 hu1 _=>?_
       refine OwnV.app (ws:=[]) (.inl ⟨rfl,rfl⟩) app_84_84 hu1 (fun w hw=>hnot w (List.take_subset _ _ (by simpa using hw))) (by simp; omega) fun v1 h1 ho1 hE1 hb1=>?_
       have hE1' : Ext (fun _=>False) H h1:=hE1.mono fun _ h=>by cases h
       have hb1' : ∀ b,Yf v1=some b→H.length≤b:=fun b hb=>by
        rcases hb1 with h2 | ⟨b',h2,h3⟩
        · rw [hb] at h2; cases h2
        · rw [hb] at h2; cases h2; exact h3
       simp (maxSteps:=2000000) only [Wx (show i<9223372036854775807 by omega)]
       refine ((w1.ext hE).ext hE1').suf el_84 esz_22 hiW fun u2 hu2 hub2=>?_
       refine ho1.appS app_84_84 hu2 (fun w hw=>by
        rw [List.nil_append] at hw
        rcases List.mem_append.1 hw with hw | hw
        · exact hnot w (List.take_subset _ _ hw)
        · exact hnot w (List.drop_subset _ _ hw)) (by rw [List.nil_append,List.length_take,List.length_drop]; omega) fun v2 h2 ho2 hE2 hb2=>?_
       rw [List.nil_append,← List.eraseIdx_eq_take_drop_succ] at ho2
       have hE2' : Ext (fun _=>False) H h2:=ext_own hE1' hb1' hE2
       have hEn:Ext (fun _=>False) h h2:=hE.trans hE2'
       refine hN10 [(0,v),(1,Zd (n+1:Nat)),(4,.int .i64 0),(5,Zd (Bq.pdet.isum (detF n s) i)),(6,Zd sg),(7,Zd (i:Nat)),(8,w),(9,v2),(12,v),(13,Zd (n+1:Nat)),(14,Zd (i:Nat)),(24,.bool ((s.getD i []).getD n 0 != 0))] _ _ ?_ (by simp (maxSteps:=2000000) only [vup,cond_true,cond_false,Nat.reduceBEq])
       clear hN10
       try clear N10
       have hrest:RowsI h2 v2 (s.eraseIdx i):=⟨_,ho2.val,by
        rw [List.eraseIdx_eq_take_drop_succ,List.eraseIdx_eq_take_drop_succ]
        exact ((Each.take' i w2).app (Each.drop' (i+1) w2)).imp fun w l hw=>hw.same fun b hb=>hEn.2 b (hw.lt hb) id⟩
       have hw2:IntSl h2 w (s.getD i []):=hw.same fun b hb=>hE2'.2 b (hw.lt hb) id
       obtain ⟨g,hg⟩ : ∃ g:Int,g=if (i+n) % 2=0 then 1 else -1:=⟨_,rfl⟩
       rw [← hg] at hf
       have hcall:=ih (h:=h2) (v:=v2) (s:=s.eraseIdx i) (by omega) (her i hi').1 (her i hi').2 hrest
       have hadd1:addV .i64 ((i:Nat):Int) ((n+1:Nat):Int)=((i+n+1:Nat):Int):=by rw [Wl (by omega) (by omega)]; omega
       have hsub2:subV .i64 ((i+n+1:Nat):Int) 1=((i+n:Nat):Int):=by rw [Vr (by omega) (by omega)]; omega
       have hpar:((((i+n) % 2:Nat):Int)==0)=decide ((i+n) % 2=0):=by
        rw [Bool.eq_iff_iff]; simp; omega
       have ha:=habs i hi'
       have hs:=hsumb i hi
       have hg1:g=1∨g = -1:=by rw [hg]; split <;> simp
       have hm1:mulV .i64 g 1=g:=by rcases hg1 with h | h <;> rw [h] <;> rfl
       have hm2:mulV .i64 g (Bq.pdet n (s.eraseIdx i))=g*Bq.pdet n (s.eraseIdx i):=by
        rcases hg1 with h | h <;> rw [h] <;> exact mulV_id (by omega) (by omega)
       have hm3:addV .i64 (Bq.pdet.isum (detF n s) i) (g*Bq.pdet n (s.eraseIdx i))=Bq.pdet.isum (detF n s) (i+1):=by
        rw [hsn,hf]
        rcases hg1 with h | h <;> rw [h] <;> exact Wl (by omega) (by omega)
       refine Zo fun A hA=>?_
       refine Zg fun N11 hN11=>?_
       simp (maxSteps:=2000000) only [↓Za,↓Zb,↓Zc,vup,cond_true,cond_false,aop,Zf,ev,sput,Ze,Zx,Ya,Nat.reduceBEq,hadd1,hsub2,tmod2,hpar,show ((2:Int)≠0)=True from by simp]
       refine hN11 [(0,v),(1,Zd (n+1:Nat)),(4,.int .i64 0),(5,Zd (Bq.pdet.isum (detF n s) i)),(6,Zd sg),(7,Zd (i:Nat)),(8,w),(9,v2),(12,v),(13,Zd (n+1:Nat)),(14,Zd (i:Nat)),(24,.bool ((s.getD i []).getD n 0 != 0)),(40,.bool (decide ((i+n) % 2=0)))] _ _ ?_ (by simp (maxSteps:=2000000) only [vup,cond_true,cond_false,Nat.reduceBEq])
       clear hN11
       try clear N11
       by_cases hp:(i+n) % 2=0
       · have hg2:g=1:=by rw [hg,if_pos hp]
         rw [decide_eq_true hp]
         refine Yp rfl ?_
         refine Zm ?_
         simp (maxSteps:=2000000) only [↓Za,↓Zb,↓Zc,vup,cond_true,cond_false,aop,Zf,ev,sput,Ze,Nat.reduceBEq,show ((1:Int))=g from hg2.symm]
         refine hA [(0,v),(1,Zd (n+1:Nat)),(4,.int .i64 0),(5,Zd (Bq.pdet.isum (detF n s) i)),(6,Zd g),(7,Zd (i:Nat)),(8,w),(9,v2),(12,v),(13,Zd (n+1:Nat)),(14,Zd (i:Nat)),(24,.bool ((s.getD i []).getD n 0 != 0))] _ _ ?_ (by simp (maxSteps:=2000000) only [vup,cond_true,cond_false,Nat.reduceBEq])
         clear hA
         try clear A
         refine Zm ?_
         simp only [q99_13]
         refine Xo [(11,1)] (by kernel_rfl) (by kernel_rfl) (by kernel_rfl) (by kernel_rfl) ?_
         simp (maxSteps:=2000000) only [↓Yn,↓vdn,vup,List.map_cons,List.map_nil,cond_true,cond_false,aop,Zf,Zk,ev,sput,Ze,Zx,Ya,Nat.reduceBEq,Nat.reduceAdd,Int.reduceBNe,tyf,hsub,hw2.idx Xv Xg hrl,hw2.load Xl hrl,h01,hm1,Yt,List.nil_append,List.append_nil]
         refine ⟨_,_,hcall,rfl,?_⟩
         simp (maxSteps:=2000000) only [vup,hm2,hm3]
         refine hB [(0,v),(1,Zd (n+1:Nat)),(4,.int .i64 0),(5,Zd (Bq.pdet.isum (detF n s) (i+1))),(6,Zd g),(12,v),(13,Zd (n+1:Nat)),(14,Zd (i:Nat))] _ _ ?_ (by simp (maxSteps:=2000000) only [vup,cond_true,cond_false,Nat.reduceBEq])
         clear hB
         try clear B
         refine Zm ?_
         simp (maxSteps:=2000000) only [↓Za,↓Zb,↓Zc,vup,cond_true,cond_false,aop,ev,sput,Ze,Zx,Ya,Nat.reduceBEq,Wx (show i<9223372036854775807 by omega)]
         exact hQ2 _ _ _ ⟨(i+1,g,h2),⟨hi',hEn⟩,by simp only; omega,by simp (maxSteps:=2000000) only [vup,cond_true,cond_false,Nat.reduceBEq],rfl⟩
       · have hg2:g = -1:=by rw [hg,if_neg hp]
         rw [decide_eq_false hp]
         refine Yh rfl ?_
         refine Zm ?_
         simp (maxSteps:=2000000) only [↓Za,↓Zb,↓Zc,vup,cond_true,cond_false,aop,Zf,ev,sput,Ze,Nat.reduceBEq,show ((-1:Int))=g from hg2.symm]
         refine hA [(0,v),(1,Zd (n+1:Nat)),(4,.int .i64 0),(5,Zd (Bq.pdet.isum (detF n s) i)),(6,Zd g),(7,Zd (i:Nat)),(8,w),(9,v2),(12,v),(13,Zd (n+1:Nat)),(14,Zd (i:Nat)),(24,.bool ((s.getD i []).getD n 0 != 0))] _ _ ?_ (by simp (maxSteps:=2000000) only [vup,cond_true,cond_false,Nat.reduceBEq])
         clear hA
         try clear A
         refine Zm ?_
         simp only [q99_13]
         refine Xo [(11,1)] (by kernel_rfl) (by kernel_rfl) (by kernel_rfl) (by kernel_rfl) ?_
         simp (maxSteps:=2000000) only [↓Yn,↓vdn,vup,List.map_cons,List.map_nil,cond_true,cond_false,aop,Zf,Zk,ev,sput,Ze,Zx,Ya,Nat.reduceBEq,Nat.reduceAdd,Int.reduceBNe,tyf,hsub,hw2.idx Xv Xg hrl,hw2.load Xl hrl,h01,hm1,Yt,List.nil_append,List.append_nil]
         refine ⟨_,_,hcall,rfl,?_⟩
         simp (maxSteps:=2000000) only [vup,hm2,hm3]
         refine hB [(0,v),(1,Zd (n+1:Nat)),(4,.int .i64 0),(5,Zd (Bq.pdet.isum (detF n s) (i+1))),(6,Zd g),(12,v),(13,Zd (n+1:Nat)),(14,Zd (i:Nat))] _ _ ?_ (by simp (maxSteps:=2000000) only [vup,cond_true,cond_false,Nat.reduceBEq])
         clear hB
         try clear B
         refine Zm ?_
         simp (maxSteps:=2000000) only [↓Za,↓Zb,↓Zc,vup,cond_true,cond_false,aop,ev,sput,Ze,Zx,Ya,Nat.reduceBEq,Wx (show i<9223372036854775807 by omega)]
         exact hQ2 _ _ _ ⟨(i+1,g,h2),⟨hi',hEn⟩,by simp only; omega,by simp (maxSteps:=2000000) only [vup,cond_true,cond_false,Nat.reduceBEq],rfl⟩
   obtain rfl:i=n+1:=by omega
   refine Zg fun N12 hN12=>?_
   simp (maxSteps:=2000000) only [↓Za,↓Zb,↓Zc,vup,cond_true,cond_false,aop,Zf,ev,sput,Ze,Zx,Ya,Nat.reduceBEq,hin]
   refine hN12 [(0,v),(1,Zd (n+1:Nat)),(4,.int .i64 0),(5,Zd (Bq.pdet.isum (detF n s) (n+1))),(6,Zd sg),(12,v),(13,Zd (n+1:Nat)),(14,Zd (n+1:Nat)),(15,.bool false)] _ _ ?_ (by simp (maxSteps:=2000000) only [vup,cond_true,cond_false,Nat.reduceBEq])
   clear hN12
   try clear N12
   refine Zg fun N13 hN13=>?_
   simp (maxSteps:=2000000) only [↓Yi,↓vdn,vup,cond_true,cond_false,Zf,ev,Nat.reduceBEq]
   refine hQ2 _ _ _ (hQ _ _ _ ?_)
   simp (maxSteps:=2000000) only [Zf,Zk,Zt,if_true]
   refine hZ [(0,v),(1,Zd (n+1:Nat)),(4,.int .i64 0),(5,Zd (Bq.pdet.isum (detF n s) (n+1))),(6,Zd sg)] _ _ ?_ (by simp (maxSteps:=2000000) only [vup,cond_true,cond_false,Nat.reduceBEq])
   clear hZ
   try clear Z
   refine Zm ?_
   simp (maxSteps:=2000000) only [↓Za,↓Zl,↓Zw,↓Zb,↓Zc,vup,cond_true,cond_false,aop,Zf,ev,sput,Ze,Nat.reduceBEq,Zt,Xi,tup]
   exact ⟨by rw [hpd],hE⟩
end Go.Proofs.Tryd.Am
namespace Go.Proofs.Tryd.Am
open Go.Am Sr
set_option maxRecDepth 100000
set_option maxHeartbeats 1000000
theorem fresh_rsi {h:Zi} {xs:List Int}:RSI h (h++[.ints [] 3 false]++[.ints xs 3 false]) (.slice (some ⟨h.length+1,0,some 0⟩) xs.length xs.length) xs :=
 ⟨.inr ⟨h.length+1,[],by simp,by
  have:=Yk (h++[.ints [] 3 false]) (.ints xs 3 false)
  rw [List.length_append,List.length_singleton] at this
  rw [List.append_nil]; exact this⟩,(Ext.app _ _ _).trans (Ext.app _ _ _),fun b hb=>by
  simp only [Yf,Option.some.injEq] at hb; omega⟩
theorem clone_rsi [Tabs prog] {h:Zi} {v:Value} {xs:List Int} (hv:IntSl h v xs) (hx:xs≠[]) (hl:xs.length<1099511627776):ACall prog 26 [v] h fun r h'=>RSI h h' r xs:=by
 refine s26_call (by simp) ?_
 have hv':=hv
 rcases hv with ⟨rfl,rfl⟩ | ⟨b,o,sp,cap,c,e,ro,rfl,hc,hb,_⟩
 · exact absurd rfl hx
 · simp (maxSteps:=2000000) only [s26,↓Za,↓Zn,↓Zl,↓Zw,↓Zb,↓Zc,↓vdn,vup,List.map_cons,List.map_nil,cond_true,cond_false,aop,Zf,Zs,ev,sput,Ze,Zx,Zj,Nat.reduceBEq,Zt,Xi,tup,tyf,Option.isSome_some]
   simp only [Yl,Xv,zero_3,Xg,reps,Vi,mkb,Xa]
   refine And.intro rfl (And.intro Nat.zero_lt_one (And.intro (Nat.zero_le _) ?_))
   refine (hv'.grow [.ints [] 3 false]).copyOwn hx app_22_22 hl (by rw [List.getElem?_append_right (Nat.le_refl _)]; simp) ?_
   have:=fresh_rsi (h:=h) (xs:=xs)
   simpa using this
end Go.Proofs.Tryd.Am
namespace Go.Proofs.Tryd.Am
open Go.Am
set_option maxRecDepth 100000
set_option maxHeartbeats 4000000
theorem ownSl_store {h:Zi} {v:Value} {xs:List Int} {j:Nat} {x:Int} (ho:OwnSl 3 h v xs) (hj:j<xs.length) {K:Zi→Prop} (hk : ∀ h',OwnSl 3 h' v (xs.set j x)→Ext (fun i=>Yf v=some i) h h'→K h'):Xp prog h 3 (Wj v 1 j) (Zd x) K:=by
 rcases ho with ⟨rfl,rfl⟩ | ⟨b,ys,rfl,hb⟩
 · simp at hj
 · have hjl:j<(xs++ys).length:=by rw [List.length_append]; omega
   simp only [Wj,Nat.zero_add,Nat.mul_one]
   rw [storeBI hb Xl hjl,List.set_append_left _ _ hj]
   exact hk _ (.inr ⟨b,ys,by rw [List.length_set],by rw [List.getElem?_set_self (Yb hb)]⟩) (Ext.set _ rfl)
theorem RSI.ext {h0 h h' : Zi} {v:Value} {xs:List Int} (o:RSI h0 h v xs) (hE:Ext (fun _=>False) h h'):RSI h0 h' v xs:=⟨o.1.ext (S:=fun _=>False) hE fun _ _=>id,o.2.1.trans hE,o.2.2⟩
theorem rowsI_of {h:Zi} {v:Value} {rows:List (List Int)} (o:OwnL 22 3 h v rows):RowsI h v rows:=by
 obtain ⟨ws,h1,h2⟩:=o
 exact ⟨ws,h1.val,h2.imp fun w l hw=>hw.int⟩
def numT (n:Nat) (s:List (List Int)) (k:Nat):List Int:=(List.range k).map fun j=>Bq.pdet n (s.map (Bq.putR n j))
def numL (n:Nat) (s:List (List Int)):List Int:=if Bq.pdet n s<0 then (numT n s n).map (- ·) else numT n s n
theorem numT_len (n:Nat) (s:List (List Int)) (k:Nat):(numT n s k).length=k:=by simp [numT]
theorem numT_succ (n:Nat) (s:List (List Int)) (k:Nat):numT n s (k+1)=numT n s k++[Bq.pdet n (s.map (Bq.putR n k))]:=by rw [numT,List.range_succ,List.map_append]; rfl
theorem numT_get {n:Nat} {s:List (List Int)} {k j:Nat} (h:j<k):(numT n s k).getD j 0=Bq.pdet n (s.map (Bq.putR n j)):=by
 rw [numT,List.getD,List.getElem?_map,List.getElem?_range h]; rfl
def ngT (xs:List Int) (k:Nat):List Int:=(xs.take k).map (- ·)++xs.drop k
theorem ngT_len (xs:List Int) (k:Nat):(ngT xs k).length=xs.length:=by simp [ngT]; omega
theorem ngT_get {xs:List Int} {k:Nat} (h:k<xs.length):(ngT xs k).getD k 0=xs.getD k 0:=by
 rw [ngT,List.getD,List.getElem?_append_right (by rw [List.length_map,List.length_take]; omega)]
 simp only [List.length_map,List.length_take,List.getElem?_drop]
 rw [show k+(k-min k xs.length)=k by omega,List.getD]
theorem ngT_set {xs:List Int} {k:Nat} (h:k<xs.length):(ngT xs k).set k (- xs.getD k 0)=ngT xs (k+1):=by
 have hd:xs.drop k=xs.getD k 0::xs.drop (k+1):=by
  rw [List.drop_eq_getElem_cons h,List.getD,List.getElem?_eq_getElem h]; rfl
 have hl:((xs.take k).map (- ·)).length=k:=by rw [List.length_map,List.length_take]; omega
 rw [ngT,hd,List.set_append_right _ _ (by omega),hl,Nat.sub_self,List.set_cons_zero,ngT,List.take_succ,List.map_append,List.getElem?_eq_getElem h,List.append_assoc]
 simp [List.getD,List.getElem?_eq_getElem h]
theorem s86_callW [Tabs Tryd.prog] {args:List Value} {h:Zi} {Q:Value→Zi→Prop} (hsz:args.length≤69) (hk:AWS Tryd.prog 69 s86 (Zt Tryd.prog [.tmp 2,.tmp 3,.tmp 4] Q) (Zs 0 args) h):ACall Tryd.prog 86 args h Q :=
 Xd Tryd.func86 rfl (enters_of Tryd.func86 (by kernel_rfl) rfl) rfl rfl (by decide) s86_strip s86_ok hsz hk
theorem solve_call [Tabs prog] {n:Nat} {h:Zi} {v:Value} {s:List (List Int)} (h6:n≤6) (hl:s.length=n) (hr : ∀ r∈s,r.length=n+1∧∀ y∈r,y=0∨y=1) (hv:RowsI h v s) :
  ACall prog 86 [v] h fun r h'=>Ext (fun _=>False) h h'∧if Bq.pdet n s=0 then r = .tuple #[.slice none 0 0,.int .i64 0,.bool false] else ∃ w,r = .tuple #[w,Zd (Bq.pdet n s).natAbs,.bool true]∧IntSl h' w (numL n s):=by
 have hr1 : ∀ r∈s,n≤r.length∧∀ y∈r,y=0∨y=1:=fun r h=>⟨by rw [(hr r h).1]; omega,(hr r h).2⟩
 have hput : ∀ j r,r∈s→j<n→(Bq.putR n j r).length=n+1∧∀ y∈Bq.putR n j r,y=0∨y=1:=fun j r hm hj=>by
  obtain ⟨e1,e2⟩:=hr r hm
  refine ⟨by rw [Bq.putR,List.length_set,e1],fun y hy=>?_⟩
  rw [Bq.putR] at hy
  rcases List.mem_or_eq_of_mem_set hy with h | h
  · exact e2 y h
  · rw [h,List.getD,List.getElem?_eq_getElem (by omega)]; exact e2 _ (List.getElem_mem _)
 have hpm : ∀ j,j<n→(s.map (Bq.putR n j)).length=n∧∀ r∈s.map (Bq.putR n j),n≤r.length∧∀ y∈r,y=0∨y=1:=fun j hj=>⟨by rw [List.length_map,hl],fun r hm=>by
  obtain ⟨r',h1,rfl⟩:=List.mem_map.1 hm
  obtain ⟨e1,e2⟩:=hput j r' h1 hj
  exact ⟨by omega,e2⟩⟩
 have habs : ∀ j,j<n→(Bq.pdet n (s.map (Bq.putR n j))).natAbs≤720:=fun j hj=>Nat.le_trans (Bq.pdet_abs n _ (hpm j hj).1 fun r h=>((hpm j hj).2 r h).2) (fact_le h6)
 have hab:(Bq.pdet n s).natAbs≤720:=Nat.le_trans (Bq.pdet_abs n _ hl fun r h=>(hr r h).2) (fact_le h6)
 obtain ⟨ws,w1,w2⟩:=id hv
 have hwl:ws.length=n:=w2.len.trans hl
 obtain ⟨d,hd⟩ : ∃ d,Bq.pdet n s=d:=⟨_,rfl⟩
 refine s86_callW (by simp) ?_
 simp only [s86]
 refine Zg fun N1 hN1=>?_
 simp (maxSteps:=2000000) only [↓Za,↓Zb,↓Zc,vup,cond_false,aop,Zf,Zs,ev,sput,Ze,Nat.reduceBEq]
 refine hN1 [(0,v),(2,.slice none 0 0),(3,.int .i64 0),(4,.bool false)] _ _ ?_ (by simp (maxSteps:=2000000) only [vup,cond_true,cond_false,Nat.reduceBEq])
 clear hN1
 try clear N1
 refine Zg fun N2 hN2=>?_
 simp (maxSteps:=2000000) only [↓Za,↓Zb,↓Zc,vup,List.map_cons,List.map_nil,cond_true,cond_false,aop,Zf,ev,sput,Ze,Zj,Nat.reduceBEq,tyf,w1.len,hwl]
 refine hN2 [(0,v),(2,.slice none 0 0),(3,.int .i64 0),(4,.bool false),(5,Zd (n:Nat))] _ _ ?_ (by simp (maxSteps:=2000000) only [vup,cond_true,cond_false,Nat.reduceBEq])
 clear hN2
 try clear N2
 refine Zg fun N3 hN3=>?_
 simp (maxSteps:=2000000) only [↓Za,↓Zb,↓Zc,vup,List.map_cons,List.map_nil,cond_true,cond_false,aop,Zf,ev,sput,Ze,Nat.reduceBEq,Yt,List.nil_append,List.append_nil]
 refine (det_call n h6 hl hr1 hv).mono ?_
 rintro _ h ⟨rfl,rfl⟩
 rw [hd]
 refine hN3 [(0,v),(2,.slice none 0 0),(3,Zd d),(4,.bool false),(5,Zd (n:Nat))] _ _ ?_ (by simp (maxSteps:=2000000) only [vup,cond_true,cond_false,Nat.reduceBEq])
 clear hN3
 try clear N3
 rw [hd] at hab
 refine Zo fun M hM=>?_
 refine Zg fun N4 hN4=>?_
 simp (maxSteps:=2000000) only [↓Za,↓Zb,↓Zc,vup,cond_true,cond_false,aop,Zf,ev,sput,Ze,Zx,Ya,Nat.reduceBEq]
 refine hN4 [(0,v),(2,.slice none 0 0),(3,Zd d),(4,.bool false),(5,Zd (n:Nat)),(17,.bool (d==0))] _ _ ?_ (by simp (maxSteps:=2000000) only [vup,cond_true,cond_false,Nat.reduceBEq])
 clear hN4
 try clear N4
 by_cases hd0:d=0
 · have hb:(d==0)=true:=by rw [hd0]; rfl
   rw [hb]
   refine Yp rfl ?_
   refine Zm ?_
   simp (maxSteps:=2000000) only [↓Za,↓Zl,↓Zw,↓Zb,↓Zc,vup,cond_true,cond_false,aop,Zf,ev,sput,Ze,Nat.reduceBEq,Zt,Xi,tup]
   refine ⟨Ext.refl _ _,by rw [if_pos (hd.trans hd0)]; trivial⟩
 have hb:(d==0)=false:=by rw [beq_eq_false_iff_ne]; exact hd0
 rw [hb]
 refine Yh rfl ?_
 refine Zm ?_
 simp (maxSteps:=2000000) only [↓Zn,Zf]
 refine hM [(0,v),(2,.slice none 0 0),(3,Zd d),(4,.bool false),(5,Zd (n:Nat))] _ _ ?_ (by simp (maxSteps:=2000000) only [vup,cond_true,cond_false,Nat.reduceBEq])
 clear hM
 try clear M
 refine Zo fun Z hZ=>?_
 refine Zg fun N5 hN5=>?_
 simp (maxSteps:=2000000) only [↓Za,↓Zb,↓Zc,vup,cond_true,cond_false,aop,Zf,ev,sput,Ze,Nat.reduceBEq]
 refine hN5 [(0,v),(2,.slice none 0 0),(3,Zd d),(4,.bool false),(5,Zd (n:Nat)),(18,Zd (n:Nat)),(19,.int .i64 0)] _ _ ?_ (by simp (maxSteps:=2000000) only [vup,cond_true,cond_false,Nat.reduceBEq])
 clear hN5
 try clear N5
 refine Zr ?_
 refine Zp fun Q hQ=>?_
 refine Yu (γ:=Nat×Value×Zi) (fun g=>g.1≤n∧RSI h g.2.2 g.2.1 (numT n s g.1))
  (fun g=>([(0,v),(2,g.2.1),(3,Zd d),(4,.bool false),(5,Zd (n:Nat)),(18,Zd (n:Nat)),(19,Zd (g.1:Nat))],g.2.2)) (fun g=>n-g.1) (0,.slice none 0 0,h) ⟨Nat.zero_le _,RSI.nil h⟩ (by simp (maxSteps:=2000000) only [vup,cond_true,cond_false,Nat.reduceBEq,Int.natCast_zero]) rfl ?_
 rintro ⟨j,nv,H⟩ ⟨hj,hnv⟩
 simp only at hj hnv
 have hE:=hnv.2.1
 refine Zp fun Q2 hQ2=>?_
 simp only [l86_1]
 by_cases hjn:(j:Int)<n
 · have hj' : j<n:=by omega
   refine Zg fun N6 hN6=>?_
   simp (maxSteps:=2000000) only [↓Za,↓Zb,↓Zc,vup,cond_true,cond_false,aop,Zf,ev,sput,Ze,Zx,Ya,Nat.reduceBEq,hjn]
   refine hN6 [(0,v),(2,nv),(3,Zd d),(4,.bool false),(5,Zd (n:Nat)),(18,Zd (n:Nat)),(19,Zd (j:Nat)),(20,.bool true)] _ _ ?_ (by simp (maxSteps:=2000000) only [vup,cond_true,cond_false,Nat.reduceBEq])
   clear hN6
   try clear N6
   refine Zg fun N7 hN7=>?_
   simp (maxSteps:=2000000) only [↓Zn,↓vdn,vup,cond_true,cond_false,Zf,ev,Nat.reduceBEq]
   refine hN7 [(0,v),(2,nv),(3,Zd d),(4,.bool false),(5,Zd (n:Nat)),(18,Zd (n:Nat)),(19,Zd (j:Nat))] _ _ ?_ (by simp (maxSteps:=2000000) only [vup,cond_true,cond_false,Nat.reduceBEq])
   clear hN7
   try clear N7
   refine Zo fun B hB=>?_
   refine Zr ?_
   refine Zg fun N8 hN8=>?_
   simp (maxSteps:=2000000) only [↓Za,↓Zb,↓Zc,vup,cond_true,cond_false,aop,Zf,ev,sput,Ze,Nat.reduceBEq]
   refine hN8 [(0,v),(2,nv),(3,Zd d),(4,.bool false),(5,Zd (n:Nat)),(6,Zd (j:Nat)),(18,Zd (n:Nat)),(19,Zd (j:Nat))] _ _ ?_ (by simp (maxSteps:=2000000) only [vup,cond_true,cond_false,Nat.reduceBEq])
   clear hN8
   try clear N8
   refine Zg fun N9 hN9=>?_
   simp (maxSteps:=2000000) only [↓Za,↓Zb,↓Zc,vup,cond_false,aop,Zf,ev,sput,Ze,Nat.reduceBEq]
   refine hN9 [(0,v),(2,nv),(3,Zd d),(4,.bool false),(5,Zd (n:Nat)),(6,Zd (j:Nat)),(7,.slice none 0 0),(18,Zd (n:Nat)),(19,Zd (j:Nat))] _ _ ?_ (by simp (maxSteps:=2000000) only [vup,cond_true,cond_false,Nat.reduceBEq])
   clear hN9
   try clear N9
   refine Zo fun A hA=>?_
   refine Zg fun N10 hN10=>?_
   simp (maxSteps:=2000000) only [↓Za,↓Zb,↓Zc,vup,List.map_cons,List.map_nil,cond_true,cond_false,aop,Zf,ev,sput,Ze,Zj,Nat.reduceBEq,tyf,w1.len,hwl]
   refine hN10 [(0,v),(2,nv),(3,Zd d),(4,.bool false),(5,Zd (n:Nat)),(6,Zd (j:Nat)),(7,.slice none 0 0),(18,Zd (n:Nat)),(19,Zd (j:Nat)),(22,v),(23,Zd (n:Nat)),(24,.int .i64 0)] _ _ ?_ (by simp (maxSteps:=2000000) only [vup,cond_true,cond_false,Nat.reduceBEq])
   clear hN10
   try clear N10
   refine Zr ?_
   refine Zp fun Qa hQa=>?_
   refine Yu (γ:=Nat×Value×Zi) (fun g=>g.1≤n∧OwnL 22 3 g.2.2 g.2.1 ((s.take g.1).map (Bq.putR n j))∧Ext (fun _=>False) H g.2.2∧∀ b,Yf g.2.1=some b→H.length≤b)
    (fun g=>([(0,v),(2,nv),(3,Zd d),(4,.bool false),(5,Zd (n:Nat)),(6,Zd (j:Nat)),(7,g.2.1),(18,Zd (n:Nat)),(19,Zd (j:Nat)),(22,v),(23,Zd (n:Nat)),(24,Zd (g.1:Nat))],g.2.2)) (fun g=>n-g.1) (0,.slice none 0 0,H) ⟨Nat.zero_le _,OwnL.nil,Ext.refl _ _,fun b hb=>by cases hb⟩ (by simp (maxSteps:=2000000) only [vup,cond_true,cond_false,Nat.reduceBEq,Int.natCast_zero]) rfl ?_
   rintro ⟨k,cv,G⟩ ⟨hk,hcv,hEG,hcb⟩
   simp only at hk hcv hEG hcb
   refine Zp fun Qb hQb=>?_
   simp only [l86_0]
   by_cases hkn:(k:Int)<n
   · have hk' : k<n:=by omega
     have hkW:k<ws.length:=by omega
     have hkS:k<s.length:=by omega
     have hEh:Ext (fun _=>False) h G:=hE.trans hEG
     obtain ⟨w,hwd⟩ : ∃ w,w=ws.getD k undef:=⟨_,rfl⟩
     have hw:IntSl G w (s.getD k []):=by
      have:=w2.get undef [] hkS
      rw [← hwd] at this
      exact this.same fun b hb=>hEh.2 b (this.lt hb) id
     have e2:s.getD k []=s[k]'hkS:=by rw [List.getD,List.getElem?_eq_getElem]; rfl
     have hrl:(s.getD k []).length=n+1:=by rw [e2]; exact (hr _ (List.getElem_mem hkS)).1
     have hjr:j<(s.getD k []).length:=by omega
     have hnr:n<(s.getD k []).length:=by omega
     have hnx:(s.take (k+1)).map (Bq.putR n j)=(s.take k).map (Bq.putR n j)++[Bq.putR n j (s.getD k [])]:=by
      rw [List.take_succ,List.getElem?_eq_getElem hkS,Option.toList_some,List.map_append,List.map_singleton,e2]
     refine Zg fun N11 hN11=>?_
     simp (maxSteps:=2000000) only [↓Za,↓Zb,↓Zc,vup,cond_true,cond_false,aop,Zf,ev,sput,Ze,Zx,Ya,Nat.reduceBEq,hkn]
     refine hN11 [(0,v),(2,nv),(3,Zd d),(4,.bool false),(5,Zd (n:Nat)),(6,Zd (j:Nat)),(7,cv),(18,Zd (n:Nat)),(19,Zd (j:Nat)),(22,v),(23,Zd (n:Nat)),(24,Zd (k:Nat)),(25,.bool true)] _ _ ?_ (by simp (maxSteps:=2000000) only [vup,cond_true,cond_false,Nat.reduceBEq])
     clear hN11
     try clear N11
     refine Zg fun N12 hN12=>?_
     simp (maxSteps:=2000000) only [↓Zn,↓vdn,vup,cond_true,cond_false,Zf,ev,Nat.reduceBEq]
     refine hN12 [(0,v),(2,nv),(3,Zd d),(4,.bool false),(5,Zd (n:Nat)),(6,Zd (j:Nat)),(7,cv),(18,Zd (n:Nat)),(19,Zd (j:Nat)),(22,v),(23,Zd (n:Nat)),(24,Zd (k:Nat))] _ _ ?_ (by simp (maxSteps:=2000000) only [vup,cond_true,cond_false,Nat.reduceBEq])
     clear hN12
     try clear N12
     refine Zo fun D hD=>?_
     refine Zr ?_
     refine Zg fun N13 hN13=>?_
     simp (maxSteps:=2000000) only [↓Za,↓Zb,↓Zc,vup,cond_true,cond_false,aop,Zf,ev,sput,Ze,Nat.reduceBEq,w1.idx el_84 esz_22 hkW,(w1.ext hEh).load shp_22 hkW,← hwd]
     refine hN13 [(0,v),(2,nv),(3,Zd d),(4,.bool false),(5,Zd (n:Nat)),(6,Zd (j:Nat)),(7,cv),(9,w),(18,Zd (n:Nat)),(19,Zd (j:Nat)),(22,v),(23,Zd (n:Nat)),(24,Zd (k:Nat))] _ _ ?_ (by simp (maxSteps:=2000000) only [vup,cond_true,cond_false,Nat.reduceBEq])
     clear hN13
     try clear N13
     refine Zg fun N14 hN14=>?_
     simp (maxSteps:=2000000) only [↓Za,↓Zb,↓Zc,vup,List.map_cons,List.map_nil,cond_true,cond_false,aop,Zf,ev,sput,Ze,Nat.reduceBEq,Yt,List.nil_append,List.append_nil]
     refine (clone_rsi hw (fun hc=>by rw [hc] at hrl; simp at hrl) (by omega)).mono ?_
     rintro r G1 hr1
     refine hN14 [(0,v),(2,nv),(3,Zd d),(4,.bool false),(5,Zd (n:Nat)),(6,Zd (j:Nat)),(7,cv),(9,r),(18,Zd (n:Nat)),(19,Zd (j:Nat)),(22,v),(23,Zd (n:Nat)),(24,Zd (k:Nat))] _ _ ?_ (by simp (maxSteps:=2000000) only [vup,cond_true,cond_false,Nat.reduceBEq])
     clear hN14
     try clear N14
     have hE1:=hr1.2.1
     refine Zg fun N15 hN15=>?_
     simp (maxSteps:=2000000) only [↓Za,↓Zb,↓Zc,vup,cond_true,cond_false,aop,Zf,ev,sput,Ze,Nat.reduceBEq,hr1.1.int.idx Xv Xg hnr,hr1.1.int.load Xl hnr,hr1.1.int.idx Xv Xg hjr]
     refine ownSl_store hr1.1 hjr fun G2 hr2 hE2=>?_
     have hEG2:Ext (fun _=>False) G G2:=ext_own hE1 hr1.2.2 hE2
     refine hN15 [(0,v),(2,nv),(3,Zd d),(4,.bool false),(5,Zd (n:Nat)),(6,Zd (j:Nat)),(7,cv),(9,r),(18,Zd (n:Nat)),(19,Zd (j:Nat)),(22,v),(23,Zd (n:Nat)),(24,Zd (k:Nat))] _ _ ?_ (by simp (maxSteps:=2000000) only [vup,cond_true,cond_false,Nat.reduceBEq])
     clear hN15
     try clear N15
     have hr2' : OwnSl 3 G2 r (Bq.putR n j (s.getD k [])):=hr2
     refine Zm ?_
     simp (maxSteps:=2000000) only [↓Za,↓Zb,↓Zc,vup,List.map_cons,List.map_nil,cond_true,cond_false,aop,Zf,Zk,ev,sput,Ze,Zj,Nat.reduceBEq,buildSl1 el_84 zero_22 esz_22 hr2']
     have hval:ValSl (G2++[Blk.cells [r] 22 false]) (.slice (some ⟨G2.length,0,none⟩) 1 1) [r]:=.inr ⟨G2.length,0,none,1,[r],22,false,rfl,Nat.le_refl _,by simp [view,Blk.view],rfl⟩
     have hEa:Ext (fun _=>False) G2 (G2++[Blk.cells [r] 22 false]):=Ext.app _ _ _
     refine OwnL.app ((hcv.ext hEG2).ext hEa) app_84_84 hval (OwnL.single hr2') (by rw [List.length_map,List.length_take,List.length_singleton]; omega) fun cv' G3 ho3 hE3 hb3=>?_
     rw [← hnx] at ho3
     have hEG3:Ext (fun _=>False) H G3:=ext_own ((hEG.trans hEG2).trans hEa) hcb hE3
     have hcb' : ∀ b,Yf cv' = some b→H.length≤b:=fun b hb=>by
      rcases hb3 with h1 | ⟨b',h1,h2⟩
      · exact hcb b (h1▸hb)
      · rw [h1] at hb; cases hb
        rw [List.length_append] at h2
        have:=(hEG.trans hEG2).1; omega
     refine hD [(0,v),(2,nv),(3,Zd d),(4,.bool false),(5,Zd (n:Nat)),(6,Zd (j:Nat)),(7,cv'),(18,Zd (n:Nat)),(19,Zd (j:Nat)),(22,v),(23,Zd (n:Nat)),(24,Zd (k:Nat))] _ _ ?_ (by simp (maxSteps:=2000000) only [vup,cond_true,cond_false,Nat.reduceBEq])
     clear hD
     try clear D
     refine Zm ?_
     simp (maxSteps:=2000000) only [↓Za,↓Zb,↓Zc,vup,cond_true,cond_false,aop,ev,sput,Ze,Zx,Ya,Nat.reduceBEq,Wx (show k<9223372036854775807 by omega)]
     exact hQb _ _ _ ⟨(k+1,cv',G3),⟨hk',ho3,hEG3,hcb'⟩,by simp only; omega,by simp (maxSteps:=2000000) only [vup,cond_true,cond_false,Nat.reduceBEq],rfl⟩
   obtain rfl:n=k:=by omega
   refine Zg fun N16 hN16=>?_
   simp (maxSteps:=2000000) only [↓Za,↓Zb,↓Zc,vup,cond_true,cond_false,aop,Zf,ev,sput,Ze,Zx,Ya,Nat.reduceBEq,hkn]
   refine hN16 [(0,v),(2,nv),(3,Zd d),(4,.bool false),(5,Zd (n:Nat)),(6,Zd (j:Nat)),(7,cv),(18,Zd (n:Nat)),(19,Zd (j:Nat)),(22,v),(23,Zd (n:Nat)),(24,Zd (n:Nat)),(25,.bool false)] _ _ ?_ (by simp (maxSteps:=2000000) only [vup,cond_true,cond_false,Nat.reduceBEq])
   clear hN16
   try clear N16
   refine Zg fun N17 hN17=>?_
   simp (maxSteps:=2000000) only [↓Yi,↓vdn,vup,cond_true,cond_false,Zf,ev,Nat.reduceBEq]
   refine hQb _ _ _ (hQa _ _ _ ?_)
   simp (maxSteps:=2000000) only [Zf,Zk,if_true]
   rw [← hl,List.take_length,hl] at hcv
   refine hA [(0,v),(2,nv),(3,Zd d),(4,.bool false),(5,Zd (n:Nat)),(6,Zd (j:Nat)),(7,cv),(18,Zd (n:Nat)),(19,Zd (j:Nat))] _ _ ?_ (by simp (maxSteps:=2000000) only [vup,cond_true,cond_false,Nat.reduceBEq])
   clear hA
   try clear A
   clear hQa hQb
   refine Zm ?_
   have hdj:=det_call n (h:=G) (v:=cv) (s:=s.map (Bq.putR n j)) h6 (hpm j hj').1 (hpm j hj').2 (rowsI_of hcv)
   simp (maxSteps:=2000000) only [↓Za,↓Zb,↓Zc,vup,List.map_cons,List.map_nil,cond_true,cond_false,aop,Zf,Zk,ev,sput,Ze,Zj,Nat.reduceBEq,Yt,List.nil_append,List.append_nil]
   refine (hdj).mono ?_
   rintro _ G ⟨rfl,rfl⟩
   simp (maxSteps:=2000000) only [litI1]
   refine (hnv.ext hEG).push (by rw [numT_len]; omega) fun nv' G' hnv'=>?_
   rw [← numT_succ] at hnv'
   refine hB [(0,v),(2,nv'),(3,Zd d),(4,.bool false),(5,Zd (n:Nat)),(18,Zd (n:Nat)),(19,Zd (j:Nat))] _ _ ?_ (by simp (maxSteps:=2000000) only [vup,cond_true,cond_false,Nat.reduceBEq])
   clear hB
   try clear B
   refine Zm ?_
   simp (maxSteps:=2000000) only [↓Za,↓Zb,↓Zc,vup,cond_true,cond_false,aop,ev,sput,Ze,Zx,Ya,Nat.reduceBEq,Wx (show j<9223372036854775807 by omega)]
   exact hQ2 _ _ _ ⟨(j+1,nv',G'),⟨hj',hnv'⟩,by simp only; omega,by simp (maxSteps:=2000000) only [vup,cond_true,cond_false,Nat.reduceBEq],rfl⟩
 obtain rfl:n=j:=by omega
 refine Zg fun N18 hN18=>?_
 simp (maxSteps:=2000000) only [↓Za,↓Zb,↓Zc,vup,cond_true,cond_false,aop,Zf,ev,sput,Ze,Zx,Ya,Nat.reduceBEq,hjn]
 refine hN18 [(0,v),(2,nv),(3,Zd d),(4,.bool false),(5,Zd (n:Nat)),(18,Zd (n:Nat)),(19,Zd (n:Nat)),(20,.bool false)] _ _ ?_ (by simp (maxSteps:=2000000) only [vup,cond_true,cond_false,Nat.reduceBEq])
 clear hN18
 try clear N18
 refine Zg fun N19 hN19=>?_
 simp (maxSteps:=2000000) only [↓Yi,↓vdn,vup,cond_true,cond_false,Zf,ev,Nat.reduceBEq]
 refine hQ2 _ _ _ (hQ _ _ _ ?_)
 simp (maxSteps:=2000000) only [Zf,Zk,Zt,if_true]
 refine hZ [(0,v),(2,nv),(3,Zd d),(4,.bool false),(5,Zd (n:Nat))] _ _ ?_ (by simp (maxSteps:=2000000) only [vup,cond_true,cond_false,Nat.reduceBEq])
 clear hZ
 try clear Z
 clear hQ hQ2
 have hEH:=hnv.2.1
 have hdne:Bq.pdet n s≠0:=fun h=>hd0 (hd▸h)
 by_cases hneg:d<0
 · have hsg:subV .i64 0 d = - d:=by rw [Vr (by omega) (by omega)]; omega
   have hnl:numL n s=(numT n s n).map (- ·):=by rw [numL,if_pos (by rw [hd]; exact hneg)]
   have hna:((d.natAbs:Nat):Int) = - d:=by omega
   refine Zo fun M hM=>?_
   refine Zg fun N20 hN20=>?_
   simp (maxSteps:=2000000) only [↓Za,↓Zb,↓Zc,vup,cond_true,cond_false,aop,Zf,ev,sput,Ze,Zx,Ya,Nat.reduceBEq,hneg]
   refine hN20 [(0,v),(2,nv),(3,Zd d),(4,.bool false),(5,Zd (n:Nat)),(50,.bool true)] _ _ ?_ (by simp (maxSteps:=2000000) only [vup,cond_true,cond_false,Nat.reduceBEq])
   clear hN20
   try clear N20
   refine Yp rfl ?_
   refine Zg fun N21 hN21=>?_
   simp (maxSteps:=2000000) only [↓Za,↓Zb,↓Zc,vup,cond_true,cond_false,aop,Zf,ev,sput,Ze,unK,Nat.reduceBEq,hsg]
   refine hN21 [(0,v),(2,nv),(3,Zd (-d)),(4,.bool false),(5,Zd (n:Nat)),(50,.bool true)] _ _ ?_ (by simp (maxSteps:=2000000) only [vup,cond_true,cond_false,Nat.reduceBEq])
   clear hN21
   try clear N21
   refine Zg fun N22 hN22=>?_
   simp (maxSteps:=2000000) only [↓Za,↓Zb,↓Zc,vup,List.map_cons,List.map_nil,cond_true,cond_false,aop,Zf,ev,sput,Ze,Zj,Nat.reduceBEq,tyf,hnv.1.int.len,numT_len]
   refine hN22 [(0,v),(2,nv),(3,Zd (-d)),(4,.bool false),(5,Zd (n:Nat)),(50,.bool true),(53,nv),(54,Zd (n:Nat)),(55,.int .i64 0)] _ _ ?_ (by simp (maxSteps:=2000000) only [vup,cond_true,cond_false,Nat.reduceBEq])
   clear hN22
   try clear N22
   refine Zr ?_
   refine Zp fun Q hQ=>?_
   refine Yu (γ:=Nat×Zi) (fun g=>g.1≤n∧OwnSl 3 g.2 nv (ngT (numT n s n) g.1)∧Ext (fun _=>False) h g.2)
    (fun g=>([(0,v),(2,nv),(3,Zd (-d)),(4,.bool false),(5,Zd (n:Nat)),(50,.bool true),(53,nv),(54,Zd (n:Nat)),(55,Zd (g.1:Nat))],g.2)) (fun g=>n-g.1) (0,H) ⟨Nat.zero_le _,by simp only [ngT,List.take_zero,List.map_nil,List.nil_append,List.drop_zero]; exact hnv.1,hEH⟩ (by simp (maxSteps:=2000000) only [vup,cond_true,cond_false,Nat.reduceBEq,Int.natCast_zero]) rfl ?_
   rintro ⟨k,G⟩ ⟨hk,ho,hEG⟩
   simp only at hk ho hEG
   refine Zp fun Q2 hQ2=>?_
   simp only [l86_2]
   by_cases hkn:(k:Int)<n
   · have hk' : k<n:=by omega
     have hkT:k<(numT n s n).length:=by rw [numT_len]; exact hk'
     have hkN:k<(ngT (numT n s n) k).length:=by rw [ngT_len]; exact hkT
     have hb1:=habs k hk'
     have hsg2:subV .i64 0 (Bq.pdet n (s.map (Bq.putR n k))) = - Bq.pdet n (s.map (Bq.putR n k)):=by rw [Vr (by omega) (by omega)]; omega
     have hset:=ngT_set hkT
     rw [numT_get hk'] at hset
     refine Zg fun N23 hN23=>?_
     simp (maxSteps:=2000000) only [↓Za,↓Zb,↓Zc,vup,cond_true,cond_false,aop,Zf,ev,sput,Ze,Zx,Ya,Nat.reduceBEq,hkn]
     refine hN23 [(0,v),(2,nv),(3,Zd (-d)),(4,.bool false),(5,Zd (n:Nat)),(50,.bool true),(53,nv),(54,Zd (n:Nat)),(55,Zd (k:Nat)),(56,.bool true)] _ _ ?_ (by simp (maxSteps:=2000000) only [vup,cond_true,cond_false,Nat.reduceBEq])
     clear hN23
     try clear N23
     refine Zg fun N24 hN24=>?_
     simp (maxSteps:=2000000) only [↓Zn,↓vdn,vup,cond_true,cond_false,Zf,ev,Nat.reduceBEq]
     refine hN24 [(0,v),(2,nv),(3,Zd (-d)),(4,.bool false),(5,Zd (n:Nat)),(50,.bool true),(53,nv),(54,Zd (n:Nat)),(55,Zd (k:Nat))] _ _ ?_ (by simp (maxSteps:=2000000) only [vup,cond_true,cond_false,Nat.reduceBEq])
     clear hN24
     try clear N24
     refine Zo fun B hB=>?_
     refine Zr ?_
     refine Zg fun N25 hN25=>?_
     simp (maxSteps:=2000000) only [↓Za,↓Zb,↓Zc,vup,cond_true,cond_false,aop,Zf,ev,sput,Ze,Nat.reduceBEq]
     refine hN25 [(0,v),(2,nv),(3,Zd (-d)),(4,.bool false),(5,Zd (n:Nat)),(10,Zd (k:Nat)),(50,.bool true),(53,nv),(54,Zd (n:Nat)),(55,Zd (k:Nat))] _ _ ?_ (by simp (maxSteps:=2000000) only [vup,cond_true,cond_false,Nat.reduceBEq])
     clear hN25
     try clear N25
     refine Zm ?_
     simp (maxSteps:=2000000) only [↓Za,↓Zb,↓Zc,vup,cond_true,cond_false,aop,Zf,Zk,ev,sput,Ze,unK,Nat.reduceBEq,ho.int.idx Xv Xg hkN,ho.int.load Xl hkN,ngT_get hkT,numT_get hk',hsg2]
     refine ownSl_store ho hkN fun G2 ho2 hE2=>?_
     rw [hset] at ho2
     refine hB [(0,v),(2,nv),(3,Zd (-d)),(4,.bool false),(5,Zd (n:Nat)),(50,.bool true),(53,nv),(54,Zd (n:Nat)),(55,Zd (k:Nat))] _ _ ?_ (by simp (maxSteps:=2000000) only [vup,cond_true,cond_false,Nat.reduceBEq])
     clear hB
     try clear B
     refine Zm ?_
     simp (maxSteps:=2000000) only [↓Za,↓Zb,↓Zc,vup,cond_true,cond_false,aop,ev,sput,Ze,Zx,Ya,Nat.reduceBEq,Wx (show k<9223372036854775807 by omega)]
     exact hQ2 _ _ _ ⟨(k+1,G2),⟨hk',ho2,ext_own hEG hnv.2.2 hE2⟩,by simp only; omega,by simp (maxSteps:=2000000) only [vup,cond_true,cond_false,Nat.reduceBEq],rfl⟩
   obtain rfl:n=k:=by omega
   refine Zg fun N26 hN26=>?_
   simp (maxSteps:=2000000) only [↓Za,↓Zb,↓Zc,vup,cond_true,cond_false,aop,Zf,ev,sput,Ze,Zx,Ya,Nat.reduceBEq,hkn]
   refine hN26 [(0,v),(2,nv),(3,Zd (-d)),(4,.bool false),(5,Zd (n:Nat)),(50,.bool true),(53,nv),(54,Zd (n:Nat)),(55,Zd (n:Nat)),(56,.bool false)] _ _ ?_ (by simp (maxSteps:=2000000) only [vup,cond_true,cond_false,Nat.reduceBEq])
   clear hN26
   try clear N26
   refine Zg fun N27 hN27=>?_
   simp (maxSteps:=2000000) only [↓Yi,↓vdn,vup,cond_true,cond_false,Zf,ev,Nat.reduceBEq]
   refine hQ2 _ _ _ (hQ _ _ _ ?_)
   simp (maxSteps:=2000000) only [Zf,Zk,Zt,if_true]
   have hall:ngT (numT n s n) n=numL n s:=by
    rw [hnl,ngT,List.take_of_length_le (by rw [numT_len]; exact Nat.le_refl _),List.drop_eq_nil_of_le (by rw [numT_len]; exact Nat.le_refl _),List.append_nil]
   rw [hall] at ho
   refine hM [(0,v),(2,nv),(3,Zd (-d)),(4,.bool false),(5,Zd (n:Nat))] _ _ ?_ (by simp (maxSteps:=2000000) only [vup,cond_true,cond_false,Nat.reduceBEq])
   clear hM
   try clear M
   refine Zm ?_
   simp (maxSteps:=2000000) only [↓Za,↓Zl,↓Zw,↓Zb,↓Zc,vup,cond_true,cond_false,aop,Zf,ev,sput,Ze,Nat.reduceBEq,Zt,Xi,tup]
   refine ⟨hEG,?_⟩
   rw [if_neg hdne,hd,hna]
   exact ⟨nv,rfl,ho.int⟩
 · have hna:((d.natAbs:Nat):Int)=d:=by omega
   refine Zo fun M hM=>?_
   refine Zg fun N28 hN28=>?_
   simp (maxSteps:=2000000) only [↓Za,↓Zb,↓Zc,vup,cond_true,cond_false,aop,Zf,ev,sput,Ze,Zx,Ya,Nat.reduceBEq,hneg]
   refine hN28 [(0,v),(2,nv),(3,Zd d),(4,.bool false),(5,Zd (n:Nat)),(50,.bool false)] _ _ ?_ (by simp (maxSteps:=2000000) only [vup,cond_true,cond_false,Nat.reduceBEq])
   clear hN28
   try clear N28
   refine Yh rfl ?_
   refine Zm ?_
   simp (maxSteps:=2000000) only [↓Zn,Zf]
   refine hM [(0,v),(2,nv),(3,Zd d),(4,.bool false),(5,Zd (n:Nat))] _ _ ?_ (by simp (maxSteps:=2000000) only [vup,cond_true,cond_false,Nat.reduceBEq])
   clear hM
   try clear M
   refine Zm ?_
   simp (maxSteps:=2000000) only [↓Za,↓Zl,↓Zw,↓Zb,↓Zc,vup,cond_true,cond_false,aop,Zf,ev,sput,Ze,Nat.reduceBEq,Zt,Xi,tup]
   refine ⟨hEH,?_⟩
   rw [if_neg hdne,hd,hna,numL,if_neg (by rw [hd]; exact hneg)]
   exact ⟨nv,rfl,hnv.1.int⟩
end Go.Proofs.Tryd.Am
namespace Go.Proofs.Tryd.Am
open Go.Am Bq
set_option maxRecDepth 100000
set_option maxHeartbeats 1000000
theorem set_new (h:Zi) (A B:Blk):(h++[A]).set h.length B=h++[B]:=by
 rw [List.set_append_right _ _ (Nat.le_refl _)]; simp
def frV (x y:Int):Value:=.agg #[Zd x,Zd y]
def qV (q:Rat):Value:=frV q.num q.den
theorem low_frV (x y:Int):Low (frV x y):=.agg fun w hw=>by
 simp at hw; rcases hw with rfl | rfl <;> exact .int _ _
theorem Wk {h:Zi} {b:Nat} {x y:Int} {e:TypeId} {ro:Bool} {K:Value→Prop} (hb:h[b]? = some (.cells [Zd x,Zd y] e ro)):Xu prog h 44 (.pointer (some ⟨b,0,none⟩)) K=K (.agg #[Zd x,Zd y]) :=
 loadA hb (by rw [shp_44]; rfl)
theorem Wv {h:Zi} {b:Nat} {x y:Int} {e:TypeId} {ro:Bool} {K:Value→Prop} (hb:h[b]? = some (.cells [Zd x,Zd y] e ro)):Xu prog h 3 (.pointer (some ⟨b,0,none⟩)) K=K (Zd x):=loadC hb Xl rfl
theorem Wa {h:Zi} {b:Nat} {x y:Int} {e:TypeId} {ro:Bool} {K:Value→Prop} (hb:h[b]? = some (.cells [Zd x,Zd y] e ro)):Xu prog h 3 (.pointer (some ⟨b,1,none⟩)) K=K (Zd y):=loadC hb Xl rfl
theorem Wq {h:Zi} {b:Nat} {x y:Int} {e:TypeId} {c:List Value} {K:Zi→Prop} (hb:h[b]? = some (.cells c e false)) (hc:c.length=2):Xp prog h 44 (.pointer (some ⟨b,0,none⟩)) (.agg #[Zd x,Zd y]) K=K (h.set b (.cells [Zd x,Zd y] e false)) :=
 storeA (vs:=[Zd x,Zd y]) hb (by rw [shp_44]; rfl) rfl (by rw [hc]; rfl)
theorem bldF {x y:Int} {K:Value→Prop}:Vc prog 44 [(0,Zd x),(1,Zd y)] K=K (.agg #[Zd x,Zd y]):=by
 simp [Vc,zero_44,Vi,pl_44_0,pl_44_1,Wm,cellsOf,Yj]
theorem bldF0 {K:Value→Prop}:Vc prog 44 [] K=K (.agg #[Zd 0,Zd 0]):=by
 simp [Vc,zero_44,Vi,pl_44_0]
theorem boxF {h:Zi} {x y:Int} {K:Value→Zi→Prop}:boxK prog h 44 (.agg #[Zd x,Zd y]) K=K (Yy h) (h++[.cells [Zd x,Zd y] 44 false]):=by
 simp [boxK,esz_44,Yy,cellsOf]
theorem fA0 {b:Nat} {K:Value→Prop}:Xq prog 44 (.pointer (some ⟨b,0,none⟩)) 0 K=K (.pointer (some ⟨b,0,none⟩)):=fldA fld_44_0 Xg
theorem fA1 {b:Nat} {K:Value→Prop}:Xq prog 44 (.pointer (some ⟨b,0,none⟩)) 1 K=K (.pointer (some ⟨b,1,none⟩)):=fldA fld_44_1 Xg
noncomputable def okF (p:Field×Nat):Bool:=p.1.name != "_" && (match prog.underlying p.1.type with | some (.int .i64)=>true | _=>false)&&p.1.offset==p.2
theorem eqF [Tabs prog]:EqT prog 44 2:=eqT_struct (by kernel_rfl) (by kernel_rfl) (by kernel_rfl) (fun j f hf=>by
 have h4:(prog.fieldsOf 44).toList.zipIdx.all okF=true:=by kernel_rfl
 have h5:=List.all_eq_true.1 h4 (f,j) (by rw [List.mem_zipIdx_iff_getElem?]; exact hf)
 simp only [okF,Bool.and_eq_true,bne_iff_ne,beq_iff_eq] at h5
 refine ⟨h5.1.1,?_,h5.2⟩
 have h6:=h5.1.2
 split at h6
 · assumption
 · cases h6) (by kernel_rfl)
theorem quo_dvd {x y:Int} (hx:x.natAbs<9223372036854775808) (hd:y∣x):quoV .i64 x y=x / y:=by
 rw [quoV,Int.tdiv_eq_ediv_of_dvd hd]
 have h1:(x / y).natAbs≤x.natAbs:=by
  obtain ⟨t,rfl⟩:=hd
  rcases Int.lt_trichotomy y 0 with h | h | h
  · rw [Int.mul_ediv_cancel_left _ (by omega),Int.natAbs_mul]; exact Nat.le_mul_of_pos_left _ (by omega)
  · subst h; simp
  · rw [Int.mul_ediv_cancel_left _ (by omega),Int.natAbs_mul]; exact Nat.le_mul_of_pos_left _ (by omega)
 exact wrap_id (by omega) (by omega)
theorem tmod_abs (x:Int) {y:Int} (hy:y≠0):(x.tmod y).natAbs<y.natAbs:=by
 rw [Int.natAbs_tmod]; exact Nat.mod_lt _ (by omega)
theorem gcd_tmod (x y:Int):Nat.gcd y.natAbs (x.tmod y).natAbs=Nat.gcd x.natAbs y.natAbs:=by
 rw [Int.natAbs_tmod,Nat.gcd_comm y.natAbs,← Nat.gcd_rec,Nat.gcd_comm]
theorem max_abs {x:Int} (hx:x.natAbs<9223372036854775808):(if subV .i64 0 x > x then subV .i64 0 x else x)=(x.natAbs:Int):=by
 rw [Vr (by omega) (by omega)]; split <;> omega
theorem gcd_call [Tabs prog] {h:Zi} {a b:Int} (ha:a.natAbs<9223372036854775808∨b≠0) (hb2:b.natAbs<9223372036854775808):Wi prog 90 [Zd a,Zd b] h (Zd (Nat.gcd a.natAbs b.natAbs:Nat)):=by
 refine s90_call (by simp) ?_
 simp only [s90]
 simp (maxSteps:=2000000) only [↓Za,↓Zl,↓Ym,↓Zb,↓Zc,vup,cond_false,aop,Zf,Zs,ev,sput,Ze,Nat.reduceBEq,Nat.reduceAdd,↓Xf]
 refine Zp fun Q hQ=>?_
 refine Ve (γ:=Int×Int) (fun s=>Nat.gcd s.1.natAbs s.2.natAbs=Nat.gcd a.natAbs b.natAbs∧(s.1.natAbs<9223372036854775808∨s.2≠0)∧s.2.natAbs<9223372036854775808)
  (fun s=>([(0,Zd s.1),(1,Zd s.2),(4,.int .i64 0)],h)) (fun s=>s.2.natAbs) (a,b) ⟨rfl,ha,hb2⟩ (by simp (maxSteps:=2000000) only [vup,cond_true,cond_false,Nat.reduceBEq]) rfl ?_
 rintro ⟨x,y⟩ ⟨hxy,hx,hy⟩
 simp only at hxy hx hy
 refine Vd fun Q2 hQ2=>?_
 by_cases hy0:y=0
 · subst hy0
   have e0:((0:Int) != 0)=false:=rfl
   rw [Int.natAbs_zero,Nat.gcd_zero_right] at hxy
   have hx' : x.natAbs<9223372036854775808:=hx.resolve_right (by simp)
   simp (maxSteps:=2000000) only [↓Za,↓Zl,↓Yi,↓Zb,↓Zc,↓vdn,vup,cond_true,cond_false,aop,Zf,ev,sput,Ze,Zx,Ya,Nat.reduceBEq,l90_0,e0]
   refine hQ2 _ _ _ (hQ _ _ _ ?_)
   simp (maxSteps:=2000000) only [↓Za,↓Zl,↓Zw,↓Zb,↓Zc,vup,List.map_cons,List.map_nil,cond_true,cond_false,aop,Zf,Zk,ev,sput,Ze,unK,Zj,Nat.reduceBEq,Zt,Xi,tup,if_true,mmK,max_abs hx',hxy]
 · have e0:(y != 0)=true:=by simpa using hy0
   simp (maxSteps:=2000000) only [↓Za,↓Zn,↓Zl,↓Ym,↓Zb,↓Zc,↓vdn,vup,cond_true,cond_false,aop,Zf,ev,sput,Ze,Zx,Ya,Nat.reduceBEq,l90_0,e0]
   refine Xo [] (by kernel_rfl) (by kernel_rfl) (by kernel_rfl) (by kernel_rfl) ?_
   simp (maxSteps:=2000000) only [↓Yn,↓vdn,vup,cond_true,cond_false,aop,Zk,ev,sput,Ze,Zx,Ya,Nat.reduceBEq,ne_eq,hy0,not_false_eq_true]
   have hlt:=tmod_abs x hy0
   exact hQ2 _ _ _ ⟨(y,x.tmod y),⟨by simp only; rw [gcd_tmod,hxy],.inl hy,by simp only; omega⟩,hlt,by simp (maxSteps:=2000000) only [vup,cond_true,cond_false,Nat.reduceBEq],rfl⟩
theorem terms {x:Int} {n:Nat} (hn:0<n):x / ((Nat.gcd x.natAbs n:Nat):Int)=(Rat.divInt x n).num∧((n / Nat.gcd x.natAbs n:Nat):Int)=(Rat.divInt x n).den:=by
 rw [Rat.divInt_ofNat,Rat.num_mkRat,Rat.den_mkRat,if_neg (by omega),if_neg (by omega),Nat.gcd_comm n]
 exact ⟨rfl,rfl⟩
theorem gcd_dvd_int (x:Int) (n:Nat):((Nat.gcd x.natAbs n:Nat):Int)∣x:=Int.dvd_natAbs.1 (Int.natCast_dvd_natCast.2 (Nat.gcd_dvd_left _ _))
theorem s88_callW [Tabs Tryd.prog] {args:List Value} {h:Zi} {Q:Value→Zi→Prop} (hsz:args.length≤22) (hk:AWS Tryd.prog 22 s88 (Zt Tryd.prog [.cell 4 44] Q) (Zs 0 args) h):ACall Tryd.prog 88 args h Q :=
 Xd Tryd.func88 rfl (enters_of Tryd.func88 (by kernel_rfl) rfl) rfl rfl (by decide) s88_strip s88_ok hsz hk
theorem frac_call [Tabs prog] {h:Zi} {a b:Int} (hb:b≠0) (ha:a.natAbs<9223372036854775808) (hb2:b.natAbs<9223372036854775808):Wi prog 88 [Zd a,Zd b] h (qV (Rat.divInt a b)):=by
 have c0:=Yk h (Blk.cells [.int .i64 0,.int .i64 0] 44 false)
 have hE0:Ext (fun _=>False) h (h++[Blk.cells [.int .i64 0,.int .i64 0] 44 false]):=Ext.app _ _ _
 obtain ⟨x,n,hn,hx,hn2,hq,hneg,hpos⟩ : ∃ (x:Int) (n:Nat),0<n∧x.natAbs<9223372036854775808∧n<9223372036854775808∧Rat.divInt x n=Rat.divInt a b∧(b<0→subV .i64 0 a=x∧subV .i64 0 b=n)∧(¬ b<0→a=x∧b=n):=by
  by_cases h0:b<0
  · refine ⟨-a,b.natAbs,by omega,by omega,hb2,?_,fun _=>⟨?_,?_⟩,fun h=>absurd h0 h⟩
    · rw [show ((b.natAbs:Nat):Int) = -b by omega]; exact Rat.neg_divInt_neg a b
    · rw [Vr (by omega) (by omega)]; omega
    · rw [Vr (by omega) (by omega)]; omega
  · exact ⟨a,b.natAbs,by omega,ha,hb2,by rw [show ((b.natAbs:Nat):Int)=b by omega],fun h=>absurd h h0,fun _=>⟨rfl,by omega⟩⟩
 refine ACall.forget (low_frV _ _) ?_
 refine s88_callW (by simp) ?_
 simp only [s88]
 refine Zg fun N1 hN1=>?_
 simp (maxSteps:=2000000) only [↓Za,↓Zb,↓Zc,vup,cond_false,aop,Zf,Zs,sput,Ze,Nat.reduceBEq,Nat.reduceAdd,tyf,Xn,Yy]
 refine hN1 [(0,Zd a),(1,Zd b),(4,.pointer (some ⟨h.length,0,none⟩))] _ _ ?_ (by simp (maxSteps:=2000000) only [vup,cond_true,cond_false,Nat.reduceBEq])
 clear hN1
 try clear N1
 refine Zg fun M hM=>?_
 have key : ∀ e,ELe e [(0,Zd x),(1,Zd (n:Int)),(4,.pointer (some ⟨h.length,0,none⟩))]→M e (h++[Blk.cells [.int .i64 0,.int .i64 0] 44 false]):=by
  intro e he
  refine hM [(0,Zd x),(1,Zd (n:Int)),(4,.pointer (some ⟨h.length,0,none⟩))] _ _ ?_ he
  refine Zg fun N2 hN2=>?_
  simp (maxSteps:=2000000) only [↓Za,↓Zb,↓Zc,vup,List.map_cons,List.map_nil,cond_true,cond_false,aop,Zf,ev,sput,Ze,Nat.reduceBEq,Yt,List.nil_append,List.append_nil]
  refine (gcd_call (.inl hx) (by omega)).mono ?_
  rintro _ _ ⟨rfl,rfl⟩
  rw [Int.natAbs_natCast]
  refine hN2 [(0,Zd x),(1,Zd (n:Int)),(4,.pointer (some ⟨h.length,0,none⟩)),(5,Zd (Nat.gcd x.natAbs n:Nat))] _ _ ?_ (by simp (maxSteps:=2000000) only [vup,cond_true,cond_false,Nat.reduceBEq])
  clear hN2
  try clear N2
  have hg : ¬ ((Nat.gcd x.natAbs n:Nat):Int)=0:=by have:=Nat.gcd_pos_of_pos_right x.natAbs hn; omega
  have q1:quoV .i64 x ((Nat.gcd x.natAbs n:Nat):Int)=(Rat.divInt a b).num:=by rw [quo_dvd hx (gcd_dvd_int _ _),(terms hn).1,hq]
  have q2:quoV .i64 (n:Int) ((Nat.gcd x.natAbs n:Nat):Int)=(Rat.divInt a b).den:=by
   rw [quo_dvd (by omega) (Int.natCast_dvd_natCast.2 (Nat.gcd_dvd_right _ _)),← hq,← (terms hn).2,Int.natCast_ediv]
  refine Zm ?_
  simp only [q88_4]
  refine aw_cut fun N hN=>?_
  refine Xo [] (by kernel_rfl) (by kernel_rfl) (by kernel_rfl) (by kernel_rfl) ?_
  simp (maxSteps:=2000000) only [↓Yn,↓vdn,vup,List.map_cons,List.map_nil,cond_true,cond_false,aop,Zf,ev,sput,Ze,Zx,Ya,Nat.reduceBEq,ne_eq,hg,not_false_eq_true,q1,q2,bldF,Wq c0 rfl]
  refine hN _ _ ?_
  simp (maxSteps:=2000000) only [↓Zw,vup,cond_true,cond_false,Nat.reduceBEq,Zt,Xi,tup,Wk (Xh (h:=h++[Blk.cells [.int .i64 0,.int .i64 0] 44 false]) (b:=h.length) (by simp) _)]
  exact ⟨rfl,hE0.set_ge (Nat.le_refl _) _⟩
 by_cases hb0:b<0
 · simp (maxSteps:=2000000) only [↓Za,↓Zl,↓Zb,↓Zc,↓vdn,vup,cond_true,cond_false,aop,Zf,ev,sput,Ze,Zx,Ya,unK,Nat.reduceBEq,hb0,(hneg hb0).1,(hneg hb0).2]
   exact key _ (by simp (maxSteps:=2000000) only [vup,cond_true,cond_false,Nat.reduceBEq])
 · simp (maxSteps:=2000000) only [↓Za,↓Zn,↓Zl,↓Zb,↓Zc,↓vdn,vup,cond_true,cond_false,aop,Zf,ev,sput,Ze,Zx,Ya,Nat.reduceBEq,hb0]
   exact key _ (by simp (maxSteps:=2000000) only [vup,cond_true,cond_false,Nat.reduceBEq,(hpos hb0).1,(hpos hb0).2])
theorem less_call [Tabs prog] {h:Zi} {a b c d:Int} (h1 : -9223372036854775808≤a*d∧a*d<9223372036854775808) (h2 : -9223372036854775808≤c*b∧c*b<9223372036854775808):Wi prog 66 [frV a b,frV c d] h (.bool (decide (a*d<c*b))):=by
 refine ACall.forget (.bool _) ?_
 have e1:=Wy (Yk h (Blk.cells [Zd a,Zd b] 44 false)) [Blk.cells [Zd c,Zd d] 44 false]
 have e2:=Yk (h++[Blk.cells [Zd a,Zd b] 44 false]) (Blk.cells [Zd c,Zd d] 44 false)
 have hE:Ext (fun _=>False) h (h++[Blk.cells [Zd a,Zd b] 44 false]++[Blk.cells [Zd c,Zd d] 44 false]):=(Ext.app _ _ _).trans (Ext.app _ _ _)
 refine s66_call (by simp) ?_
 simp only [s66,frV]
 simp (maxSteps:=2000000) only [↓Za,↓Zl,↓Zw,↓Zb,↓Zc,vup,cond_true,cond_false,aop,Zf,Zs,ev,sput,Ze,Zx,Ya,Nat.reduceBEq,Nat.reduceAdd,Zt,Xi,tup,tyf,boxF,Yy,fA0,fA1,Wv e1,Wa e1,Wv e2,Wa e2,mulV_id h1.1 h1.2,mulV_id h2.1 h2.2]
 exact hE
end Go.Proofs.Tryd.Am
namespace Go.Proofs.Tryd.Am
open Go.Am
set_option maxRecDepth 100000
set_option maxHeartbeats 4000000
def idxF (p:Int→Bool) (xs:List Int):Int:=if xs.any p then ((xs.findIdx p:Nat):Int) else -1
theorem s98_callW [Tabs Tryd.prog] {args:List Value} {h:Zi} {Q:Value→Zi→Prop} (hsz:args.length≤19) (hk:AWS Tryd.prog 19 s98 (Zt Tryd.prog [.tmp 4] Q) (Zs 0 args) h):ACall Tryd.prog 98 args h Q :=
 Xd Tryd.func98 rfl (enters_of Tryd.func98 (by kernel_rfl) rfl) rfl rfl (by decide) s98_strip s98_ok hsz hk
theorem index_call [Tabs prog] {h:Zi} {v:Value} {xs:List Int} {g:FuncId} {caps:Array Value} {p:Int→Bool} (hv:IntSl h v xs) (hl:xs.length<9223372036854775807) (hp : ∀ x∈xs,Wi prog g (Zd x::caps.toList) h (.bool (p x))) :
  Wi prog 98 [v,.func (.func g) #[] caps] h (Zd (idxF p xs)):=by
 refine s98_callW (by simp) ?_
 simp only [s98]
 refine Zg fun N1 hN1=>?_
 simp (maxSteps:=2000000) only [↓Za,↓Zb,↓Zc,vup,cond_false,aop,Zf,Zs,ev,sput,Ze,Nat.reduceBEq,Nat.reduceAdd]
 refine hN1 [(0,v),(1,.func (.func g) #[] caps),(4,.int .i64 0)] _ _ ?_ (by simp (maxSteps:=2000000) only [vup,cond_true,cond_false,Nat.reduceBEq])
 clear hN1
 try clear N1
 refine Zo fun Z hZ=>?_
 refine Zg fun N2 hN2=>?_
 simp (maxSteps:=2000000) only [↓Za,↓Zb,↓Zc,vup,List.map_cons,List.map_nil,cond_true,cond_false,aop,Zf,ev,sput,Ze,Zj,Nat.reduceBEq,tyf,hv.len]
 refine hN2 [(0,v),(1,.func (.func g) #[] caps),(4,.int .i64 0),(6,v),(7,Zd xs.length),(8,.int .i64 0)] _ _ ?_ (by simp (maxSteps:=2000000) only [vup,cond_true,cond_false,Nat.reduceBEq])
 clear hN2
 try clear N2
 refine Zr ?_
 refine Zp fun Q hQ=>?_
 refine Yu (γ:=Nat) (fun i=>i≤xs.length∧∀ j,j<i→p (xs.getD j 0)=false) (fun i=>([(0,v),(1,.func (.func g) #[] caps),(4,.int .i64 0),(6,v),(7,Zd xs.length),(8,Zd (i:Nat))],h)) (fun i=>xs.length-i) 0 ⟨Nat.zero_le _,fun j hj=>absurd hj (Nat.not_lt_zero j)⟩ (by simp (maxSteps:=2000000) only [vup,cond_true,cond_false,Nat.reduceBEq,Int.natCast_zero]) rfl ?_
 rintro i ⟨hi,hno⟩
 refine Zp fun Q2 hQ2=>?_
 simp only [l98_0]
 by_cases hin:(i:Int)<xs.length
 · have hi' : i<xs.length:=by omega
   have hx:xs.getD i 0∈xs:=by rw [List.getD,List.getElem?_eq_getElem hi']; exact List.getElem_mem hi'
   have hxe:xs.getD i 0=xs[i]:=by rw [List.getD,List.getElem?_eq_getElem hi']; rfl
   refine Zg fun N3 hN3=>?_
   simp (maxSteps:=2000000) only [↓Za,↓Zb,↓Zc,vup,cond_true,cond_false,aop,Zf,ev,sput,Ze,Zx,Ya,Nat.reduceBEq,hin]
   refine hN3 [(0,v),(1,.func (.func g) #[] caps),(4,.int .i64 0),(6,v),(7,Zd xs.length),(8,Zd (i:Nat)),(9,.bool true)] _ _ ?_ (by simp (maxSteps:=2000000) only [vup,cond_true,cond_false,Nat.reduceBEq])
   clear hN3
   try clear N3
   refine Zg fun N4 hN4=>?_
   simp (maxSteps:=2000000) only [↓Zn,↓vdn,vup,cond_true,cond_false,Zf,ev,Nat.reduceBEq]
   refine hN4 [(0,v),(1,.func (.func g) #[] caps),(4,.int .i64 0),(6,v),(7,Zd xs.length),(8,Zd (i:Nat))] _ _ ?_ (by simp (maxSteps:=2000000) only [vup,cond_true,cond_false,Nat.reduceBEq])
   clear hN4
   try clear N4
   refine Zo fun B hB=>?_
   refine Zr ?_
   refine Zg fun N5 hN5=>?_
   simp (maxSteps:=2000000) only [↓Za,↓Zb,↓Zc,vup,cond_true,cond_false,aop,Zf,ev,sput,Ze,Nat.reduceBEq]
   refine hN5 [(0,v),(1,.func (.func g) #[] caps),(4,.int .i64 0),(5,Zd (i:Nat)),(6,v),(7,Zd xs.length),(8,Zd (i:Nat))] _ _ ?_ (by simp (maxSteps:=2000000) only [vup,cond_true,cond_false,Nat.reduceBEq])
   clear hN5
   try clear N5
   refine Zg fun N6 hN6=>?_
   simp (maxSteps:=2000000) only [↓Za,↓Zb,↓Zc,vup,List.map_cons,List.map_nil,cond_true,cond_false,aop,Zf,ev,sput,Ze,Nat.reduceBEq,hv.idx Xv Xg hi',hv.load Xl hi',Yt,List.nil_append,List.cons_append]
   refine (hp _ hx).mono ?_
   rintro _ h ⟨rfl,rfl⟩
   refine hN6 [(0,v),(1,.func (.func g) #[] caps),(4,.int .i64 0),(5,Zd (i:Nat)),(6,v),(7,Zd xs.length),(8,Zd (i:Nat)),(16,.bool (p (xs.getD i 0)))] _ _ ?_ (by simp (maxSteps:=2000000) only [vup,cond_true,cond_false,Nat.reduceBEq])
   clear hN6
   try clear N6
   cases hpx:p (xs.getD i 0) with
   | false =>
     refine Yh rfl ?_
     refine Zm ?_
     simp (maxSteps:=2000000) only [↓Zn,Zf,Zk]
     refine hB [(0,v),(1,.func (.func g) #[] caps),(4,.int .i64 0),(6,v),(7,Zd xs.length),(8,Zd (i:Nat))] _ _ ?_ (by simp (maxSteps:=2000000) only [vup,cond_true,cond_false,Nat.reduceBEq])
     clear hB
     try clear B
     refine Zm ?_
     simp (maxSteps:=2000000) only [↓Za,↓Zb,↓Zc,vup,cond_true,cond_false,aop,ev,sput,Ze,Zx,Ya,Nat.reduceBEq,Wx (show i<9223372036854775807 by omega)]
     exact hQ2 _ _ _ ⟨i+1,⟨hi',fun j hj=>by
      by_cases hji:j=i
      · rw [hji]; exact hpx
      · exact hno j (by omega)⟩,by omega,by simp (maxSteps:=2000000) only [vup,cond_true,cond_false,Nat.reduceBEq],rfl⟩
   | true =>
     refine Yp rfl ?_
     refine Zm ?_
     simp (maxSteps:=2000000) only [↓Za,↓Zl,↓Zw,↓Zb,↓Zc,vup,cond_true,cond_false,aop,Zf,Zk,ev,sput,Ze,Nat.reduceBEq]
     refine hQ2 _ _ _ (hQ _ _ _ ?_)
     simp (maxSteps:=2000000) only [vup,cond_true,cond_false,Zf,Zk,Nat.reduceBEq,Zt,Xi,tup]
     have hany:xs.any p=true:=List.any_eq_true.2 ⟨_,hx,hpx⟩
     have hfi:xs.findIdx p=i:=by
      rw [List.findIdx_eq hi']
      refine ⟨by rw [← hxe]; exact hpx,fun j hj=>?_⟩
      have:=hno j hj
      rw [List.getD,List.getElem?_eq_getElem (by omega)] at this
      exact this
     rw [idxF,if_pos hany,hfi]
 obtain rfl:i=xs.length:=by omega
 refine Zg fun N7 hN7=>?_
 simp (maxSteps:=2000000) only [↓Za,↓Zb,↓Zc,vup,cond_true,cond_false,aop,Zf,ev,sput,Ze,Zx,Ya,Nat.reduceBEq,hin]
 refine hN7 [(0,v),(1,.func (.func g) #[] caps),(4,.int .i64 0),(6,v),(7,Zd xs.length),(8,Zd xs.length),(9,.bool false)] _ _ ?_ (by simp (maxSteps:=2000000) only [vup,cond_true,cond_false,Nat.reduceBEq])
 clear hN7
 try clear N7
 refine Zg fun N8 hN8=>?_
 simp (maxSteps:=2000000) only [↓Yi,↓vdn,vup,cond_true,cond_false,Zf,ev,Nat.reduceBEq]
 refine hQ2 _ _ _ (hQ _ _ _ ?_)
 simp (maxSteps:=2000000) only [Zf,Zk,Zt,if_true]
 refine hZ [(0,v),(1,.func (.func g) #[] caps),(4,.int .i64 0)] _ _ ?_ (by simp (maxSteps:=2000000) only [vup,cond_true,cond_false,Nat.reduceBEq])
 clear hZ
 try clear Z
 refine Zm ?_
 simp (maxSteps:=2000000) only [↓Za,↓Zl,↓Zw,↓Zb,↓Zc,vup,cond_true,cond_false,aop,Zf,ev,sput,Ze,Nat.reduceBEq,Zt,Xi,tup]
 have hany:xs.any p=false:=by
  rw [List.any_eq_false]
  intro x hx
  obtain ⟨j,hj,rfl⟩:=List.mem_iff_getElem.1 hx
  have:=hno j hj
  rw [List.getD,List.getElem?_eq_getElem hj] at this
  rw [show p xs[j]=false from this]; decide
 rw [idxF,hany]
 rfl
theorem idxF_ge (p:Int→Bool) (xs:List Int):decide (idxF p xs≥0)=xs.any p:=by
 rw [idxF]
 cases xs.any p with
 | true=>rw [if_pos rfl]; simp
 | false=>rfl
theorem s83_callW [Tabs Tryd.prog] {args:List Value} {h:Zi} {Q:Value→Zi→Prop} (hsz:args.length≤9) (hk:AWS Tryd.prog 9 s83 (Zt Tryd.prog [.tmp 4] Q) (Zs 0 args) h):ACall Tryd.prog 83 args h Q :=
 Xd Tryd.func83 rfl (enters_of Tryd.func83 (by kernel_rfl) rfl) rfl rfl (by decide) s83_strip s83_ok hsz hk
theorem containsF_call [Tabs prog] {h:Zi} {v:Value} {xs:List Int} {g:FuncId} {caps:Array Value} {p:Int→Bool} (hv:IntSl h v xs) (hl:xs.length<9223372036854775807) (hp : ∀ x∈xs,Wi prog g (Zd x::caps.toList) h (.bool (p x))) :
  Wi prog 83 [v,.func (.func g) #[] caps] h (.bool (xs.any p)):=by
 refine s83_callW (by simp) ?_
 simp only [s83]
 refine Zg fun N9 hN9=>?_
 simp (maxSteps:=2000000) only [↓Za,↓Zb,↓Zc,vup,cond_false,aop,Zf,Zs,ev,sput,Ze,Nat.reduceBEq,Nat.reduceAdd]
 refine hN9 [(0,v),(1,.func (.func g) #[] caps),(4,.bool false)] _ _ ?_ (by simp (maxSteps:=2000000) only [vup,cond_true,cond_false,Nat.reduceBEq])
 clear hN9
 try clear N9
 refine Zm ?_
 simp (maxSteps:=2000000) only [↓Za,↓Zl,↓Zw,↓Zb,↓Zc,vup,List.map_cons,List.map_nil,cond_true,cond_false,aop,Zf,ev,sput,Ze,Zx,Ya,Nat.reduceBEq,Zt,Xi,tup,tyf,Yt,List.nil_append,List.append_nil]
 refine (index_call hv hl hp).mono ?_
 rintro _ h ⟨rfl,rfl⟩
 simp (maxSteps:=2000000) only [vup]
 rw [← idxF_ge]
def inB (s:Nat) (t:Int):Bool:=decide ((s:Int)≠t)&&decide (less s t.toNat=0)
theorem in_call [Tabs prog] {h:Zi} {b s t:Nat} (hb:h[b]? = some (.cells [Zd s] 3 false)) (hs:s<9223372036854775808) (ht:t<9223372036854775808):Wi prog 84 [Zd t,.pointer (some ⟨b,0,none⟩)] h (.bool (inB s t)):=by
 refine s84_call (by simp) ?_
 simp only [s84]
 have ha:Wz .andNot .i64 ((s:Nat):Int) ((t:Nat):Int)=((less s t:Nat):Int):=bitsV_andNot hs ht
 by_cases hst:s=t
 · have hne:((s:Int) != (t:Int))=false:=by simp [hst]
   simp (maxSteps:=2000000) only [↓Za,↓Zl,↓Zw,↓Zb,↓Zc,↓vdn,vup,cond_true,cond_false,aop,Zf,Zs,ev,sput,Ze,Zx,Ya,Nat.reduceBEq,Nat.reduceAdd,Zt,Xi,tup,tyf,load1 hb Xl,hne]
   rw [inB,decide_eq_false (by rw [hst]; simp)]
   rfl
 · have hne:((s:Int) != (t:Int))=true:=by rw [bne_iff_ne]; omega
   have heq:(((less s t:Nat):Int)==0)=decide (less s t=0):=by rw [Bool.eq_iff_iff]; simp
   simp (maxSteps:=2000000) only [↓Za,↓Zl,↓Zw,↓Zb,↓Zc,↓vdn,vup,cond_true,cond_false,aop,Zf,Zs,ev,sput,Ze,Zx,Ya,Nat.reduceBEq,Nat.reduceAdd,Zt,Xi,tup,tyf,load1 hb Xl,hne,ha,heq]
   rw [inB,decide_eq_true (show (s:Int)≠t by omega),Bool.true_and,Int.toNat_natCast]
theorem boxI {h:Zi} {x:Int} {K:Value→Zi→Prop}:boxK prog h 3 (Zd x) K=K (Yy h) (h++[.cells [Zd x] 3 false]):=by
 simp [boxK,Xg,Yy,cellsOf]
theorem s82_callW [Tabs Tryd.prog] {args:List Value} {h:Zi} {Q:Value→Zi→Prop} (hsz:args.length≤7) (hk:AWS Tryd.prog 7 s82 (Zt Tryd.prog [.tmp 3] Q) (Zs 0 args) h):ACall Tryd.prog 82 args h Q :=
 Xd Tryd.func82 rfl (enters_of Tryd.func82 (by kernel_rfl) rfl) rfl rfl (by decide) s82_strip s82_ok hsz hk
theorem sub_call [Tabs prog] {h:Zi} {b s:Nat} {sv:Value} {xs:List Int} (hb:h[b]? = some (.cells [sv] 22 false)) (hv:IntSl h sv xs) (hl:xs.length<9223372036854775807) (hs:s<9223372036854775808) (hx : ∀ x∈xs,∃ t:Nat,x=t∧t<9223372036854775808) :
  Wi prog 82 [Zd s,.pointer (some ⟨b,0,none⟩)] h (.bool (xs.any (inB s))):=by
 refine ACall.forget (.bool _) ?_
 have hE:Ext (fun _=>False) h (h++[Blk.cells [Zd s] 3 false]):=Ext.app _ _ _
 refine s82_callW (by simp) ?_
 simp only [s82]
 refine Zg fun N10 hN10=>?_
 simp (maxSteps:=2000000) only [↓Za,↓Zb,↓Zc,vup,cond_true,cond_false,aop,Zf,Zs,ev,sput,Ze,Nat.reduceBEq,Nat.reduceAdd,boxI,Yy]
 refine hN10 [(0,Zd s),(1,.pointer (some ⟨b,0,none⟩)),(2,.pointer (some ⟨h.length,0,none⟩)),(3,.bool false)] _ _ ?_ (by simp (maxSteps:=2000000) only [vup,cond_true,cond_false,Nat.reduceBEq])
 clear hN10
 try clear N10
 refine Zm ?_
 simp (maxSteps:=2000000) only [↓Za,↓Zl,↓Zw,↓Zb,↓Zc,vup,List.map_cons,List.map_nil,cond_true,cond_false,aop,Zf,ev,sput,Ze,Nat.reduceBEq,Zt,Xi,tup,load1 (Wy hb [Blk.cells [Zd s] 3 false]) shp_22,List.map_toArray,Yt,List.nil_append,List.append_nil]
 refine (containsF_call (p:=inB s) (hv.grow _) hl fun x hm=>?_).mono ?_
 · obtain ⟨t,rfl,ht⟩:=hx x hm
   exact in_call (Yk h (Blk.cells [Zd s] 3 false)) hs ht
 rintro _ _ ⟨rfl,rfl⟩
 simp (maxSteps:=2000000) only [vup]
 exact hE
def minT (xs:List Int):Nat→Int
 | 0=>xs.getD 0 0
 | k+1=>if xs.getD k 0<minT xs k then xs.getD k 0 else minT xs k
theorem minT_neg {xs:List Int} (h0:xs≠[]):minT xs xs.length<0↔∃ x∈xs,x<0:=by
 have hget : ∀ k,k<xs.length→xs.getD k 0∈xs:=fun k hk=>by rw [List.getD,List.getElem?_eq_getElem hk]; exact List.getElem_mem hk
 have hpos:=List.length_pos_iff.2 h0
 have h1 : ∀ k,k≤xs.length→minT xs k∈xs∧∀ j,j<k→minT xs k≤xs.getD j 0:=by
  intro k
  induction k with
  | zero=>intro _; exact ⟨hget 0 hpos,fun j hj=>absurd hj (Nat.not_lt_zero j)⟩
  | succ k ih =>
    intro hk
    obtain ⟨i1,i2⟩:=ih (by omega)
    rw [minT]
    split
    · refine ⟨hget k (by omega),fun j hj=>?_⟩
      by_cases hjk:j=k
      · subst hjk; exact Int.le_refl _
      · have:=i2 j (by omega); omega
    · refine ⟨i1,fun j hj=>?_⟩
      by_cases hjk:j=k
      · subst hjk; omega
      · exact i2 j (by omega)
 obtain ⟨i1,i2⟩:=h1 _ (Nat.le_refl _)
 constructor
 · intro h; exact ⟨_,i1,h⟩
 · rintro ⟨x,hx,hn⟩
   obtain ⟨j,hj,rfl⟩:=List.mem_iff_getElem.1 hx
   have:=i2 j hj
   rw [List.getD,List.getElem?_eq_getElem hj,Option.getD_some] at this
   omega
theorem minT_one (xs:List Int):minT xs 1=xs.getD 0 0:=by
 simp [minT]
theorem s87_callW [Tabs Tryd.prog] {args:List Value} {h:Zi} {Q:Value→Zi→Prop} (hsz:args.length≤25) (hk:AWS Tryd.prog 25 s87 (Zt Tryd.prog [.tmp 2] Q) (Zs 0 args) h):ACall Tryd.prog 87 args h Q :=
 Xd Tryd.func87 rfl (enters_of Tryd.func87 (by kernel_rfl) rfl) rfl rfl (by decide) s87_strip s87_ok hsz hk
theorem min_call [Tabs prog] {h:Zi} {v:Value} {xs:List Int} (hv:IntSl h v xs) (h0:xs≠[]) (hl:xs.length<9223372036854775807):Wi prog 87 [v] h (Zd (minT xs xs.length)):=by
 have hpos:=List.length_pos_iff.2 h0
 refine s87_callW (by simp) ?_
 simp only [s87]
 refine Zg fun N11 hN11=>?_
 simp (maxSteps:=2000000) only [↓Za,↓Zb,↓Zc,vup,cond_false,aop,Zf,Zs,ev,sput,Ze,Nat.reduceBEq]
 refine hN11 [(0,v),(2,.int .i64 0)] _ _ ?_ (by simp (maxSteps:=2000000) only [vup,cond_true,cond_false,Nat.reduceBEq])
 clear hN11
 try clear N11
 have hlt : ¬ ((xs.length:Int)<1):=by omega
 refine Zo fun M hM=>?_
 refine Zg fun N12 hN12=>?_
 simp (maxSteps:=2000000) only [↓Za,↓Zb,↓Zc,vup,List.map_cons,List.map_nil,cond_true,cond_false,aop,Zf,ev,sput,Ze,Zx,Ya,Zj,Nat.reduceBEq,tyf,hv.len,hlt]
 refine hN12 [(0,v),(2,.int .i64 0),(7,.bool false)] _ _ ?_ (by simp (maxSteps:=2000000) only [vup,cond_true,cond_false,Nat.reduceBEq])
 clear hN12
 try clear N12
 refine Yh rfl ?_
 refine Zm ?_
 simp (maxSteps:=2000000) only [↓Zn,Zf]
 refine hM [(0,v),(2,.int .i64 0)] _ _ ?_ (by simp (maxSteps:=2000000) only [vup,cond_true,cond_false,Nat.reduceBEq])
 clear hM
 try clear M
 have hi0 : ∀ K:Value→Prop,Xc prog 22 v (.int .i64 0) K=K (Wj v 1 0):=fun K=>hv.idx (k:=.i64) (i:=0) Xv Xg hpos K
 refine Zg fun N13 hN13=>?_
 simp (maxSteps:=2000000) only [↓Za,↓Zb,↓Zc,vup,cond_true,cond_false,aop,Zf,ev,sput,Ze,Nat.reduceBEq,hi0,hv.load Xl hpos,← minT_one]
 refine hN13 [(0,v),(2,.int .i64 0),(3,Zd (minT xs 1))] _ _ ?_ (by simp (maxSteps:=2000000) only [vup,cond_true,cond_false,Nat.reduceBEq])
 clear hN13
 try clear N13
 refine Zo fun Z hZ=>?_
 refine Zg fun N14 hN14=>?_
 simp (maxSteps:=2000000) only [↓Za,↓Zb,↓Zc,vup,cond_false,aop,Zf,ev,sput,Ze,Nat.reduceBEq]
 refine hN14 [(0,v),(2,.int .i64 0),(3,Zd (minT xs 1)),(4,.int .i64 1)] _ _ ?_ (by simp (maxSteps:=2000000) only [vup,cond_true,cond_false,Nat.reduceBEq])
 clear hN14
 try clear N14
 refine Zr ?_
 refine Zp fun Q hQ=>?_
 refine Yu (γ:=Nat) (fun k=>1≤k∧k≤xs.length) (fun k=>([(0,v),(2,.int .i64 0),(3,Zd (minT xs k)),(4,Zd (k:Nat))],h)) (fun k=>xs.length-k) 1 ⟨Nat.le_refl _,hpos⟩ (by simp (maxSteps:=2000000) only [vup,cond_true,cond_false,Nat.reduceBEq,Int.natCast_one]) rfl ?_
 rintro k ⟨hk1,hk⟩
 refine Zp fun Q2 hQ2=>?_
 simp only [l87_0]
 by_cases hkin:(k:Int)<xs.length
 · have hk' : k<xs.length:=by omega
   refine Zo fun A hA=>?_
   refine Zg fun N15 hN15=>?_
   simp (maxSteps:=2000000) only [↓Za,↓Zb,↓Zc,vup,List.map_cons,List.map_nil,cond_true,cond_false,aop,Zf,ev,sput,Ze,Zx,Ya,Zj,Nat.reduceBEq,tyf,hv.len,hkin]
   refine hN15 [(0,v),(2,.int .i64 0),(3,Zd (minT xs k)),(4,Zd (k:Nat)),(15,.bool true)] _ _ ?_ (by simp (maxSteps:=2000000) only [vup,cond_true,cond_false,Nat.reduceBEq])
   clear hN15
   try clear N15
   refine Yp rfl ?_
   refine Zm ?_
   simp (maxSteps:=2000000) only [↓Zn,Zf]
   refine hA [(0,v),(2,.int .i64 0),(3,Zd (minT xs k)),(4,Zd (k:Nat))] _ _ ?_ (by simp (maxSteps:=2000000) only [vup,cond_true,cond_false,Nat.reduceBEq])
   clear hA
   try clear A
   refine Zo fun B hB=>?_
   refine Zr ?_
   refine Zm ?_
   simp (maxSteps:=2000000) only [↓Za,↓Zb,↓Zc,vup,List.map_cons,List.map_nil,cond_true,cond_false,aop,Zf,Zk,ev,sput,Ze,Zj,Nat.reduceBEq,hv.idx Xv Xg hk',hv.load Xl hk',mmK,if_false,Bool.false_eq_true,show (if xs.getD k 0<minT xs k then xs.getD k 0 else minT xs k)=minT xs (k+1) from rfl]
   refine hB [(0,v),(2,.int .i64 0),(3,Zd (minT xs (k+1))),(4,Zd (k:Nat))] _ _ ?_ (by simp (maxSteps:=2000000) only [vup,cond_true,cond_false,Nat.reduceBEq])
   clear hB
   try clear B
   refine Zm ?_
   simp (maxSteps:=2000000) only [↓Za,↓Zb,↓Zc,vup,cond_true,cond_false,aop,ev,sput,Ze,Zx,Ya,Nat.reduceBEq,Wx (show k<9223372036854775807 by omega)]
   exact hQ2 _ _ _ ⟨k+1,⟨by omega,hk'⟩,by omega,by simp (maxSteps:=2000000) only [vup,cond_true,cond_false,Nat.reduceBEq],rfl⟩
 obtain rfl:k=xs.length:=by omega
 refine Zo fun A hA=>?_
 refine Zg fun N16 hN16=>?_
 simp (maxSteps:=2000000) only [↓Za,↓Zb,↓Zc,vup,List.map_cons,List.map_nil,cond_true,cond_false,aop,Zf,ev,sput,Ze,Zx,Ya,Zj,Nat.reduceBEq,tyf,hv.len,hkin]
 refine hN16 [(0,v),(2,.int .i64 0),(3,Zd (minT xs xs.length)),(4,Zd xs.length),(15,.bool false)] _ _ ?_ (by simp (maxSteps:=2000000) only [vup,cond_true,cond_false,Nat.reduceBEq])
 clear hN16
 try clear N16
 refine Yh rfl ?_
 refine Zm ?_
 simp (maxSteps:=2000000) only [↓Yi,Zf]
 refine hQ2 _ _ _ (hQ _ _ _ ?_)
 simp (maxSteps:=2000000) only [Zf,Zk,Zt,if_true]
 refine hZ [(0,v),(2,.int .i64 0),(3,Zd (minT xs xs.length))] _ _ ?_ (by simp (maxSteps:=2000000) only [vup,cond_true,cond_false,Nat.reduceBEq])
 clear hZ
 try clear Z
 refine Zm ?_
 simp (maxSteps:=2000000) only [↓Za,↓Zl,↓Zw,↓Zb,↓Zc,vup,cond_true,cond_false,aop,Zf,ev,sput,Ze,Nat.reduceBEq,Zt,Xi,tup]
theorem ownSl_clear {h:Zi} {v:Value} {xs:List Int} {i:Nat} (ho:OwnSl 3 h v xs) (hi:i≤xs.length) {K:Value→Value→Zi→Prop} (hk : ∀ w h',OwnSl 3 h' v (xs.take i++List.replicate (xs.length-i) 0)→Ext (fun j=>Yf v=some j) h h'→K w (.tuple #[]) h') :
  Xe prog 22 v (some (Zd i)) none none (fun w=>clearK prog h 22 w (K w)):=by
 have he:(elemOf' prog 22).isSome=true:=by rw [Xv]; rfl
 have hfull:i=xs.length→xs.take i++List.replicate (xs.length-i) 0=xs:=fun h=>by rw [h,Nat.sub_self,List.take_length]; simp
 rcases ho with ⟨rfl,rfl⟩ | ⟨b,ys,rfl,hb⟩
 · simp only [List.length_nil,Nat.le_zero_eq] at hi
   subst hi
   have h1:=hk (.slice none 0 0) h (.inl ⟨rfl,rfl⟩) (Ext.refl _ _)
   show _∧_∧_∧_∧_
   exact ⟨by simp [Xv,Xg],rfl,rfl,rfl,he,h1⟩
 · have hsplice:Yj (xs++ys) i (List.replicate (xs.length-i) 0)=xs.take i++List.replicate (xs.length-i) 0++ys:=by
    rw [Yj,List.length_replicate,List.take_append_of_le_length hi,show i+(xs.length-i)=xs.length by omega,List.drop_left]
   have hsto : ∀ w,i<xs.length→storesK h b i (List.replicate (xs.length-i) (.int .i64 0)) (fun h'=>K w (.tuple #[]) h'):=fun w h1=>by
    have e1:Xa (List.replicate (xs.length-i) (Value.int .i64 0))=some (List.replicate (xs.length-i) 0):=by
     have:=intsOf_map' (List.replicate (xs.length-i) 0)
     rw [List.map_replicate] at this; exact this
    refine ⟨by simp [one],?_⟩
    simp only [hb,e1]
    refine ⟨by rw [List.length_replicate,List.length_append]; omega,?_⟩
    rw [hsplice]
    exact hk w _ (.inr ⟨b,ys,by rw [List.length_append,List.length_take,List.length_replicate,Nat.min_eq_left hi,show i+(xs.length-i)=xs.length by omega],by rw [List.getElem?_set_self (Yb hb)]⟩) (Ext.set _ rfl)
   have hzb:(elemOf' prog 22).bind (Xw prog)=some [.int .i64 0]:=by rw [Xv,Option.bind_some,zero_3]
   simp only [Xe,Xv,Xg,bnd]
   refine ⟨by omega,by omega,by omega,fun h=>(by cases h),fun _=>?_⟩
   by_cases h0:i=0
   · subst h0
     refine .inl ⟨rfl,he,fun hn=>?_,fun hn=>?_⟩
     · rw [Int.toNat_natCast] at hn
       have h1:=hfull (by omega)
       exact hk _ h (by rw [h1]; exact .inr ⟨b,ys,rfl,hb⟩) (Ext.refl _ _)
     · rw [Int.toNat_natCast] at hn
       rw [hzb,Int.toNat_natCast]; exact hsto _ (by omega)
   · refine .inr ⟨by omega,?_⟩
     by_cases hl:i<xs.length
     · refine .inl ⟨by omega,by omega,he,fun hn=>by omega,fun hn=>?_⟩
       rw [hzb]
       have e2:((xs.length:Int)-((i:Nat):Int)).toNat=xs.length-i:=by omega
       have e3:0+((i:Nat):Int).toNat*1=i:=by simp
       rw [e2,e3]; exact hsto _ hl
     · have h1:=hfull (by omega)
       exact .inr ⟨by omega,he,hk _ h (by rw [h1]; exact .inr ⟨b,ys,rfl,hb⟩) (Ext.refl _ _)⟩
def stay (p:Int→Bool) (xs:List Int) (j:Nat):Nat:=((xs.take j).filter fun x=>!p x).length
theorem stay_le (p:Int→Bool) (xs:List Int) (j:Nat):stay p xs j≤j:=Nat.le_trans (List.length_filter_le _ _) (by rw [List.length_take]; omega)
theorem take_snocI {xs:List Int} {j:Nat} (hj:j<xs.length):xs.take (j+1)=xs.take j++[xs.getD j 0]:=by
 rw [List.take_succ,List.getElem?_eq_getElem hj,Option.toList_some,List.getD,List.getElem?_eq_getElem hj]; rfl
theorem stay_hit {p:Int→Bool} {xs:List Int} {j:Nat} (hj:j<xs.length) (hp:p (xs.getD j 0)=true):(xs.take (j+1)).filter (fun x=>!p x)=(xs.take j).filter fun x=>!p x:=by
 rw [take_snocI hj,List.filter_append,List.filter_cons,List.filter_nil,hp]; simp
theorem stay_miss {p:Int→Bool} {xs:List Int} {j:Nat} (hj:j<xs.length) (hp:p (xs.getD j 0)=false):(xs.take (j+1)).filter (fun x=>!p x)=((xs.take j).filter fun x=>!p x)++[xs.getD j 0]:=by
 rw [take_snocI hj,List.filter_append,List.filter_cons,List.filter_nil,hp]; simp
structure Dl (p:Int→Bool) (xs:List Int) (j:Nat) (ys:List Int):Prop where
 len:ys.length=xs.length
 tk:ys.take (stay p xs j)=(xs.take j).filter fun x=>!p x
 dr:ys.drop j=xs.drop j
theorem Dl.get {p:Int→Bool} {xs ys:List Int} {j k:Nat} (d:Dl p xs j ys) (h:j≤k):ys.getD k 0=xs.getD k 0:=by
 have h1:(ys.drop j)[k-j]? = (xs.drop j)[k-j]?:=by rw [d.dr]
 rw [List.getElem?_drop,List.getElem?_drop,show j+(k-j)=k by omega] at h1
 rw [List.getD,h1,List.getD]
theorem Dl.hit {p:Int→Bool} {xs ys:List Int} {j:Nat} (d:Dl p xs j ys) (hj:j<xs.length) (hp:p (xs.getD j 0)=true):Dl p xs (j+1) ys∧stay p xs (j+1)=stay p xs j:=by
 have h1:stay p xs (j+1)=stay p xs j:=by rw [stay,stay_hit hj hp]; rfl
 refine ⟨⟨d.len,by rw [h1,stay_hit hj hp]; exact d.tk,?_⟩,h1⟩
 have:=congrArg (List.drop 1) d.dr
 rw [List.drop_drop,List.drop_drop] at this
 exact this
theorem Dl.miss {p:Int→Bool} {xs ys:List Int} {j:Nat} (d:Dl p xs j ys) (hj:j<xs.length) (hp:p (xs.getD j 0)=false):Dl p xs (j+1) (ys.set (stay p xs j) (xs.getD j 0))∧stay p xs (j+1)=stay p xs j+1:=by
 have h1:stay p xs (j+1)=stay p xs j+1:=by rw [stay,stay_miss hj hp,List.length_append]; rfl
 have hs:=stay_le p xs j
 have hl:=d.len
 refine ⟨⟨by rw [List.length_set]; exact d.len,?_,?_⟩,h1⟩
 · rw [h1,stay_miss hj hp,← d.tk,take_snocI (by rw [List.length_set]; omega),List.take_set_of_le (Nat.le_refl _),List.getD,List.getElem?_set_self (by omega)]; rfl
 · have:=congrArg (List.drop 1) d.dr
   rw [List.drop_drop,List.drop_drop] at this
   rw [List.drop_set_of_lt (by omega)]
   exact this
theorem s81_callW [Tabs Tryd.prog] {args:List Value} {h:Zi} {Q:Value→Zi→Prop} (hsz:args.length≤42) (hk:AWS Tryd.prog 42 s81 (Zt Tryd.prog [.tmp 4] Q) (Zs 0 args) h):ACall Tryd.prog 81 args h Q :=
 Xd Tryd.func81 rfl (enters_of Tryd.func81 (by kernel_rfl) rfl) rfl rfl (by decide) s81_strip s81_ok hsz hk
theorem delete_call [Tabs prog] {h:Zi} {v:Value} {xs:List Int} {g:FuncId} {caps:Array Value} {p:Int→Bool} (ho:OwnSl 3 h v xs) (hl:xs.length<1099511627776) (hp : ∀ H,Ext (fun b=>Yf v=some b) h H→∀ x∈xs,Wi prog g (Zd x::caps.toList) H (.bool (p x))) :
  ACall prog 81 [v,.func (.func g) #[] caps] h fun r h'=>IntSl h' r (xs.filter fun x=>!p x)∧Ext (fun b=>Yf v=some b) h h':=by
 refine s81_callW (by simp) ?_
 simp only [s81]
 refine Zg fun N17 hN17=>?_
 simp (maxSteps:=2000000) only [↓Za,↓Zb,↓Zc,vup,cond_false,aop,Zf,Zs,ev,sput,Ze,Nat.reduceBEq,Nat.reduceAdd]
 refine hN17 [(0,v),(1,.func (.func g) #[] caps),(4,.slice none 0 0)] _ _ ?_ (by simp (maxSteps:=2000000) only [vup,cond_true,cond_false,Nat.reduceBEq])
 clear hN17
 try clear N17
 refine Zg fun N18 hN18=>?_
 simp (maxSteps:=2000000) only [↓Za,↓Zb,↓Zc,vup,List.map_cons,List.map_nil,cond_true,cond_false,aop,Zf,ev,sput,Ze,Nat.reduceBEq,Yt,List.nil_append,List.append_nil]
 refine (index_call ho.int (by omega) (hp _ (Ext.refl _ _))).mono ?_
 rintro _ h ⟨rfl,rfl⟩
 refine hN18 [(0,v),(1,.func (.func g) #[] caps),(4,.slice none 0 0),(5,Zd (idxF p xs))] _ _ ?_ (by simp (maxSteps:=2000000) only [vup,cond_true,cond_false,Nat.reduceBEq])
 clear hN18
 try clear N18
 cases hany:xs.any p with
 | false =>
   have hix:idxF p xs = -1:=by rw [idxF,hany]; rfl
   have hf:xs.filter (fun x=>!p x)=xs:=List.filter_eq_self.2 fun x hx=>by
    have:=List.any_eq_false.1 hany x hx
    simpa using this
   rw [hix]
   refine Zo fun M hM=>?_
   refine Zg fun N19 hN19=>?_
   simp (maxSteps:=2000000) only [↓Za,↓Zb,↓Zc,vup,cond_true,cond_false,aop,Zf,ev,sput,Ze,Zx,Ya,Nat.reduceBEq,Int.reduceBEq]
   refine hN19 [(0,v),(1,.func (.func g) #[] caps),(4,.slice none 0 0),(5,.int .i64 (-1)),(12,.bool true)] _ _ ?_ (by simp (maxSteps:=2000000) only [vup,cond_true,cond_false,Nat.reduceBEq])
   clear hN19
   try clear N19
   refine Yp rfl ?_
   refine Zm ?_
   simp (maxSteps:=2000000) only [↓Za,↓Zl,↓Zw,↓Zb,↓Zc,vup,cond_true,cond_false,aop,Zf,ev,sput,Ze,Nat.reduceBEq,Zt,Xi,tup]
   exact ⟨by rw [hf]; exact ho.int,Ext.refl _ _⟩
 | true =>
   obtain ⟨i0,hi0⟩ : ∃ i0,xs.findIdx p=i0:=⟨_,rfl⟩
   have hix:idxF p xs=((i0:Nat):Int):=by rw [idxF,if_pos hany,hi0]
   obtain ⟨x0,hx0,hpx0⟩:=List.any_eq_true.1 hany
   have hlt:i0<xs.length:=by rw [← hi0]; exact List.findIdx_lt_length_of_exists ⟨x0,hx0,hpx0⟩
   have hfs:=(List.findIdx_eq hlt).1 hi0
   have hp0:p (xs.getD i0 0)=true:=by rw [List.getD,List.getElem?_eq_getElem hlt]; exact hfs.1
   have hall:(xs.take i0).filter (fun x=>!p x)=xs.take i0:=List.filter_eq_self.2 fun x hx=>by
    obtain ⟨j,hj,rfl⟩:=List.mem_iff_getElem.1 hx
    rw [List.length_take] at hj
    rw [List.getElem_take,hfs.2 j (by omega)]; rfl
   have hst0:stay p xs i0=i0:=by rw [stay,hall,List.length_take]; omega
   have d0:Dl p xs i0 xs:=⟨rfl,by rw [hst0,hall],rfl⟩
   obtain ⟨d1,hst1⟩:=d0.hit hlt hp0
   rw [hst0] at hst1
   have hne:(((i0:Nat):Int) == -1)=false:=by rw [beq_eq_false_iff_ne]; omega
   rw [hix]
   refine Zo fun M hM=>?_
   refine Zg fun N20 hN20=>?_
   simp (maxSteps:=2000000) only [↓Za,↓Zb,↓Zc,vup,cond_true,cond_false,aop,Zf,ev,sput,Ze,Zx,Ya,Nat.reduceBEq,hne]
   refine hN20 [(0,v),(1,.func (.func g) #[] caps),(4,.slice none 0 0),(5,Zd (i0:Nat)),(12,.bool false)] _ _ ?_ (by simp (maxSteps:=2000000) only [vup,cond_true,cond_false,Nat.reduceBEq])
   clear hN20
   try clear N20
   refine Yh rfl ?_
   refine Zm ?_
   simp (maxSteps:=2000000) only [↓Zn,Zf]
   refine hM [(0,v),(1,.func (.func g) #[] caps),(4,.slice none 0 0),(5,Zd (i0:Nat))] _ _ ?_ (by simp (maxSteps:=2000000) only [vup,cond_true,cond_false,Nat.reduceBEq])
   clear hM
   try clear M
   refine Zo fun Z hZ=>?_
   refine Zg fun N21 hN21=>?_
   simp (maxSteps:=2000000) only [↓Za,↓Zb,↓Zc,vup,cond_true,cond_false,aop,Zf,ev,sput,Ze,Zx,Ya,Nat.reduceBEq,Wx (show i0<9223372036854775807 by omega)]
   refine hN21 [(0,v),(1,.func (.func g) #[] caps),(4,.slice none 0 0),(5,Zd (i0:Nat)),(6,Zd (i0+1:Nat))] _ _ ?_ (by simp (maxSteps:=2000000) only [vup,cond_true,cond_false,Nat.reduceBEq])
   clear hN21
   try clear N21
   refine Zr ?_
   refine Zp fun Q hQ=>?_
   refine Yu (γ:=Nat×List Int×Zi) (fun s=>s.1≤xs.length∧Dl p xs s.1 s.2.1∧OwnSl 3 s.2.2 v s.2.1∧Ext (fun b=>Yf v=some b) h s.2.2)
    (fun s=>([(0,v),(1,.func (.func g) #[] caps),(4,.slice none 0 0),(5,Zd (stay p xs s.1:Nat)),(6,Zd (s.1:Nat))],s.2.2)) (fun s=>xs.length-s.1) (i0+1,xs,h) ⟨hlt,d1,ho,Ext.refl _ _⟩ (by simp (maxSteps:=2000000) only [vup,cond_true,cond_false,Nat.reduceBEq,hst1]) rfl ?_
   rintro ⟨j,ys,H⟩ ⟨hj,d,hy,hE⟩
   simp only at hj d hy hE
   refine Zp fun Q2 hQ2=>?_
   simp only [l81_0]
   have hyl:=d.len
   have hsl:=stay_le p xs j
   by_cases hjin:(j:Int)<xs.length
   · have hj' : j<xs.length:=by omega
     have hjY:j<ys.length:=by omega
     have hxm:xs.getD j 0∈xs:=by rw [List.getD,List.getElem?_eq_getElem hj']; exact List.getElem_mem hj'
     refine Zo fun A hA=>?_
     refine Zg fun N22 hN22=>?_
     simp (maxSteps:=2000000) only [↓Za,↓Zb,↓Zc,vup,List.map_cons,List.map_nil,cond_true,cond_false,aop,Zf,ev,sput,Ze,Zx,Ya,Zj,Nat.reduceBEq,tyf,hy.int.len,hyl,hjin]
     refine hN22 [(0,v),(1,.func (.func g) #[] caps),(4,.slice none 0 0),(5,Zd (stay p xs j:Nat)),(6,Zd (j:Nat)),(19,.bool true)] _ _ ?_ (by simp (maxSteps:=2000000) only [vup,cond_true,cond_false,Nat.reduceBEq])
     clear hN22
     try clear N22
     refine Yp rfl ?_
     refine Zm ?_
     simp (maxSteps:=2000000) only [↓Zn,Zf]
     refine hA [(0,v),(1,.func (.func g) #[] caps),(4,.slice none 0 0),(5,Zd (stay p xs j:Nat)),(6,Zd (j:Nat))] _ _ ?_ (by simp (maxSteps:=2000000) only [vup,cond_true,cond_false,Nat.reduceBEq])
     clear hA
     try clear A
     refine Zo fun B hB=>?_
     refine Zr ?_
     refine Zg fun N23 hN23=>?_
     simp (maxSteps:=2000000) only [↓Za,↓Zb,↓Zc,vup,cond_true,cond_false,aop,Zf,ev,sput,Ze,Nat.reduceBEq,hy.int.idx Xv Xg hjY,hy.int.load Xl hjY,d.get (Nat.le_refl j)]
     refine hN23 [(0,v),(1,.func (.func g) #[] caps),(4,.slice none 0 0),(5,Zd (stay p xs j:Nat)),(6,Zd (j:Nat)),(7,Zd (xs.getD j 0))] _ _ ?_ (by simp (maxSteps:=2000000) only [vup,cond_true,cond_false,Nat.reduceBEq])
     clear hN23
     try clear N23
     refine Zg fun N24 hN24=>?_
     simp (maxSteps:=2000000) only [↓Za,↓Zb,↓Zc,vup,List.map_cons,List.map_nil,cond_true,cond_false,aop,Zf,ev,sput,Ze,unK,Nat.reduceBEq,Yt,List.nil_append,List.cons_append]
     refine (hp H hE _ hxm).mono ?_
     rintro _ H ⟨rfl,rfl⟩
     simp (maxSteps:=2000000) only []
     refine hN24 [(0,v),(1,.func (.func g) #[] caps),(4,.slice none 0 0),(5,Zd (stay p xs j:Nat)),(6,Zd (j:Nat)),(7,Zd (xs.getD j 0)),(29,.bool (!p (xs.getD j 0)))] _ _ ?_ (by simp (maxSteps:=2000000) only [vup,cond_true,cond_false,Nat.reduceBEq])
     clear hN24
     try clear N24
     cases hpx:p (xs.getD j 0) with
     | true =>
       obtain ⟨d',hs'⟩:=d.hit hj' hpx
       refine Yh rfl ?_
       refine Zm ?_
       simp (maxSteps:=2000000) only [↓Zn,vup,Zf,Zk]
       refine hB [(0,v),(1,.func (.func g) #[] caps),(4,.slice none 0 0),(5,Zd (stay p xs j:Nat)),(6,Zd (j:Nat))] _ _ ?_ (by simp (maxSteps:=2000000) only [vup,cond_true,cond_false,Nat.reduceBEq])
       clear hB
       try clear B
       refine Zm ?_
       simp (maxSteps:=2000000) only [↓Za,↓Zb,↓Zc,vup,cond_true,cond_false,aop,ev,sput,Ze,Zx,Ya,Nat.reduceBEq,Wx (show j<9223372036854775807 by omega)]
       exact hQ2 _ _ _ ⟨(j+1,ys,H),⟨hj',d',hy,hE⟩,by simp only; omega,by simp (maxSteps:=2000000) only [vup,cond_true,cond_false,Nat.reduceBEq,hs'],rfl⟩
     | false =>
       obtain ⟨d',hs'⟩:=d.miss hj' hpx
       have hsY:stay p xs j<ys.length:=by omega
       refine Yp rfl ?_
       refine Zg fun N25 hN25=>?_
       simp (maxSteps:=2000000) only [↓Za,↓Zb,↓Zc,vup,cond_true,cond_false,aop,Zf,ev,sput,Ze,Nat.reduceBEq,hy.int.idx Xv Xg hsY]
       refine ownSl_store hy hsY fun G hy2 hE2=>?_
       refine hN25 [(0,v),(1,.func (.func g) #[] caps),(4,.slice none 0 0),(5,Zd (stay p xs j:Nat)),(6,Zd (j:Nat)),(7,Zd (xs.getD j 0)),(29,.bool (!false))] _ _ ?_ (by simp (maxSteps:=2000000) only [vup,cond_true,cond_false,Nat.reduceBEq])
       clear hN25
       try clear N25
       refine Zm ?_
       simp (maxSteps:=2000000) only [↓Za,↓Zb,↓Zc,vup,cond_true,cond_false,aop,Zf,Zk,ev,sput,Ze,Zx,Ya,Nat.reduceBEq,Wx (show stay p xs j<9223372036854775807 by omega)]
       refine hB [(0,v),(1,.func (.func g) #[] caps),(4,.slice none 0 0),(5,Zd (stay p xs j+1:Nat)),(6,Zd (j:Nat))] _ _ ?_ (by simp (maxSteps:=2000000) only [vup,cond_true,cond_false,Nat.reduceBEq])
       clear hB
       try clear B
       refine Zm ?_
       simp (maxSteps:=2000000) only [↓Za,↓Zb,↓Zc,vup,cond_true,cond_false,aop,ev,sput,Ze,Zx,Ya,Nat.reduceBEq,Wx (show j<9223372036854775807 by omega)]
       exact hQ2 _ _ _ ⟨(j+1,ys.set (stay p xs j) (xs.getD j 0),G),⟨hj',d',hy2,hE.trans hE2⟩,by simp only; omega,by simp (maxSteps:=2000000) only [vup,cond_true,cond_false,Nat.reduceBEq,hs'],rfl⟩
   obtain rfl:j=xs.length:=by omega
   refine Zo fun A hA=>?_
   refine Zg fun N26 hN26=>?_
   simp (maxSteps:=2000000) only [↓Za,↓Zb,↓Zc,vup,List.map_cons,List.map_nil,cond_true,cond_false,aop,Zf,ev,sput,Ze,Zx,Ya,Zj,Nat.reduceBEq,tyf,hy.int.len,hyl,hjin]
   refine hN26 [(0,v),(1,.func (.func g) #[] caps),(4,.slice none 0 0),(5,Zd (stay p xs xs.length:Nat)),(6,Zd xs.length),(19,.bool false)] _ _ ?_ (by simp (maxSteps:=2000000) only [vup,cond_true,cond_false,Nat.reduceBEq])
   clear hN26
   try clear N26
   refine Yh rfl ?_
   refine Zm ?_
   simp (maxSteps:=2000000) only [↓Yi,Zf]
   refine hQ2 _ _ _ (hQ _ _ _ ?_)
   simp (maxSteps:=2000000) only [Zf,Zk,Zt,if_true]
   refine hZ [(0,v),(1,.func (.func g) #[] caps),(4,.slice none 0 0),(5,Zd (stay p xs xs.length:Nat))] _ _ ?_ (by simp (maxSteps:=2000000) only [vup,cond_true,cond_false,Nat.reduceBEq])
   clear hZ
   try clear Z
   clear hQ hQ2
   have hsY:stay p xs xs.length≤ys.length:=by omega
   refine Zg fun N27 hN27=>?_
   simp (maxSteps:=2000000) only [↓Za,↓Zb,↓Zc,vup,List.map_cons,List.map_nil,cond_true,cond_false,aop,Zf,ev,sput,Ze,Zj,Nat.reduceBEq,Option.map_some,Option.map_none]
   refine ownSl_clear hy hsY fun _ G hy2 hE2=>?_
   refine hN27 [(0,v),(1,.func (.func g) #[] caps),(4,.slice none 0 0),(5,Zd (stay p xs xs.length:Nat))] _ _ ?_ (by simp (maxSteps:=2000000) only [vup,cond_true,cond_false,Nat.reduceBEq])
   clear hN27
   try clear N27
   refine Zm ?_
   simp (maxSteps:=2000000) only [↓Za,↓Zl,↓Zw,↓Zb,↓Zc,vup,cond_true,cond_false,aop,Zf,ev,sput,Ze,Nat.reduceBEq,Zt,Xi,tup,Option.map_some,Option.map_none]
   refine hy2.int.pre Xv Xg (by rw [List.length_append,List.length_take]; omega) fun w hw=>?_
   have htk:=d.tk
   rw [List.take_length] at htk
   rw [List.take_append_of_le_length (by rw [List.length_take]; omega),List.take_take,Nat.min_self,htk] at hw
   exact ⟨hw,hE.trans hE2⟩
end Go.Proofs.Tryd.Am
namespace Bq
theorem left_triv {n:Nat} {M:Nat→Nat→Rat}:det n M≠0↔∀ u:Nat→Rat,(∀ c,c<n→sumTo (fun r=>u r*M c r) n=0)→∀ r,r<n→u r=0:=by
 constructor
 · intro hd u hu r hr
   obtain ⟨x,hx⟩:=sol_ex hd (fun r'=>if r' = r then 1 else 0)
   have h1:sumTo (fun r'=>u r' * (if r' = r then 1 else 0)) n=u r:=by
    rw [← sum_one u hr]
    exact Zh fun r' _=>Rat.mul_comm _ _
   have h2:sumTo (fun r'=>u r' * (if r' = r then 1 else 0)) n=sumTo (fun r'=>sumTo (fun c=>x c*(u r' * M c r')) n) n:=Zh fun r' hr'=>by
    rw [← hx r' hr',← Yc]
    exact Zh fun c _=>by grind
   rw [← h1,h2,Wf]
   refine Yr fun c hc=>?_
   rw [Yc,hu c hc,Rat.mul_zero]
 · intro h hd
   obtain ⟨u,⟨r,hr,h0⟩,hu⟩:=left_ker n M hd
   exact h0 (h u hu r hr)
theorem det_rev {n:Nat} {M:Nat→Nat→Rat}:det n (fun c=>M (n-1-c))≠0↔det n M≠0:=by
 rw [left_triv,left_triv]
 constructor
 · intro h u hu
   exact h u fun c hc=>hu (n-1-c) (by omega)
 · intro h u hu
   refine h u fun c hc=>?_
   have:=hu (n-1-c) (by omega)
   rw [show n-1-(n-1-c)=c by omega] at this
   exact this
def rowI (n:Nat) (sets:List Nat) (k:Nat):List Int:=(List.range n).map (fun i=>if k<sets.length then (if (sets.getD k 0).testBit i then 1 else 0) else if i=k-sets.length then 1 else 0)++[if k<sets.length then 1 else 0]
theorem rowI_len (n:Nat) (sets:List Nat) (k:Nat):(rowI n sets k).length=n+1:=by simp [rowI]
theorem rowI_01 {n:Nat} {sets:List Nat} {k:Nat} : ∀ y∈rowI n sets k,y=0∨y=1:=fun y hy=>by
 rw [rowI,List.mem_append,List.mem_map,List.mem_singleton] at hy
 rcases hy with ⟨i,_,rfl⟩ | rfl
 · split <;> split <;> simp
 · split <;> simp
theorem rowI_get {n:Nat} {sets:List Nat} {k c:Nat} (hc:c<n):(((rowI n sets k).getD c 0:Int):Rat)=rowA sets k c:=by
 rw [rowI,List.getD,List.getElem?_append_left (by simpa using hc),List.getElem?_map,List.getElem?_range hc]
 simp only [Option.map_some,Option.getD_some]
 rw [rowA,bitQ]
 split <;> split <;> rfl
theorem rowI_end (n:Nat) (sets:List Nat) (k:Nat):(((rowI n sets k).getD n 0:Int):Rat)=rhsA sets k:=by
 rw [rowI,List.getD,List.getElem?_append_right (by simp)]
 simp only [List.length_map,List.length_range,Nat.sub_self,List.getElem?_cons_zero,Option.getD_some]
 rw [rhsA]
 split <;> rfl
def rowsI (n:Nat) (sets B:List Nat):List (List Int):=B.map (rowI n sets)
theorem rowsI_get {n:Nat} {sets B:List Nat} {r:Nat} (hr:r<B.length):(rowsI n sets B).getD r []=rowI n sets (B.getD r 0):=by
 rw [rowsI,List.getD,List.getElem?_map,List.getD,List.getElem?_eq_getElem hr]; rfl
theorem pdet_row {n:Nat} {sets B:List Nat} (hl:B.length=n):pdet n (rowsI n sets B)≠0↔det n (fun c r=>Ww (rowA sets) B r c)≠0:=by
 have h1:=pdet_det n (rowsI n sets B) (by rw [rowsI,List.length_map,hl])
 have h2:det n (colsOf n (rowsI n sets B))=det n (fun c=>(fun c r=>Ww (rowA sets) B r c) (n-1-c)):=Xt _ fun c r hc hr=>by
  rw [colsOf,rowsI_get (by omega),rowI_get (by omega)]; rfl
 rw [← det_rev (M:=fun c r=>Ww (rowA sets) B r c),← h2]
 have hτ:tau n≠0:=fun h=>by have:=tau_sq n; rw [h] at this; simp at this
 constructor
 · intro h hc
   rw [hc,Rat.mul_zero] at h1
   exact h (Rat.intCast_eq_zero_iff.1 h1)
 · intro h hc
   rw [hc] at h1
   rcases Rat.mul_eq_zero.1 h1.symm with h3 | h3
   · exact hτ h3
   · exact h h3
theorem leaf_none {n:Nat} {sets B:List Nat} (h:pdet n (rowsI n sets B)=0) : ∀ x,¬ Corner n sets B x:=fun x c=>(pdet_row c.len).2 c.det h
theorem leaf_some {n:Nat} {sets B:List Nat} (hl:B.length=n) (h:pdet n (rowsI n sets B)≠0) : ∃ y:Nat→Rat,(∀ j,j<n→((pdet n ((rowsI n sets B).map (putR n j)):Int):Rat)=y j*((pdet n (rowsI n sets B):Int):Rat)) ∧
  (∀ r,r<n→sumTo (fun c=>y c*Ww (rowA sets) B r c) n=rhsA sets (B.getD r 0))∧∀ x,Corner n sets B x→∀ i,i<n→x i=y i:=by
 have hd:=(pdet_row hl).1 h
 obtain ⟨y,hy⟩:=sol_ex hd fun r=>rhsA sets (B.getD r 0)
 refine ⟨y,fun j hj=>?_,hy,fun x c i hi=>Classical.byContradiction fun hne=>?_⟩
 · refine pdet_cram (by rw [rowsI,List.length_map,hl]) (fun r hr=>by
    obtain ⟨k,_,rfl⟩:=List.mem_map.1 hr; exact rowI_len n sets k) (fun r hr=>?_) hj
   rw [rowsI_get (by omega),rowI_end,← hy r hr]
   exact Zh fun c hc=>by rw [rowI_get hc]; rfl
 · refine hd (ker_det (x:=fun c=>x c-y c) hi (fun hc=>hne (by grind)) fun r hr=>?_)
   have h1:=c.sol r hr
   have h2:=hy r hr
   have e:sumTo (fun c=>(x c-y c)*Ww (rowA sets) B r c) n=sumTo (fun c=>x c*Ww (rowA sets) B r c) n+(-1)*sumTo (fun c=>y c*Ww (rowA sets) B r c) n:=by
    rw [← Yc,← Xs]
    exact Zh fun c _=>by grind
   rw [e,h1,h2]; grind
end Bq
