/-
  sure: packings. Plain Lean, no program.
  sure: the determinant.
  sure: a copy that its maker may grow.
  sure: Cramer's rule.
  sure: fractions: the program's arithmetic, and the reference's.
  sure: sets within others.
  sure: a corner as the program tries it. Plain Lean, no program.
-/
import Derived.Test.YtaagkbbphgdcdaaDoorPk7
import Derived.Test.YtaagkbbphgdcdaaDoorPk5
import Derived.Test.YtaagkbbphgdcdaaDoorPk6
set_option linter.all false
namespace Bq
def rowA (sets:List Nat) (k:Nat):Nat→Rat:=fun i=>if k<sets.length then bitQ (sets.getD k 0) i else if i=k-sets.length then 1 else 0
def rhsA (sets:List Nat) (k:Nat):Rat:=if k<sets.length then 1 else 0
structure PFeas (n:Nat) (sets:List Nat) (x:Nat→Rat):Prop where
 nn : ∀ i,i<n→0≤x i
 le : ∀ s∈sets,dot (bitQ s) x n≤1
structure Corner (n:Nat) (sets B:List Nat) (x:Nat→Rat):Prop where
 len:B.length=n
 sub:B.Sublist (List.range (sets.length+n))
 det:det n (fun c r=>Wq (rowA sets) B r c)≠0
 sol : ∀ r,r<n→sumTo (fun c=>x c*Wq (rowA sets) B r c) n=rhsA sets (B.getD r 0)
 ok:PFeas n sets x
theorem dot_unit {n t:Nat} (a:Nat→Rat) (x:Nat→Rat) (h:t<n) (ha : ∀ i,i<n→a i=if i=t then 1 else 0):dot a x n=x t:=by
 rw [← sum_one x h,dot]
 exact sumTo_congr fun i hi=>by rw [ha i hi]
theorem rowA_set {sets:List Nat} {k:Nat} (h:k<sets.length):rowA sets k=bitQ (sets.getD k 0):=by
 funext i; rw [rowA,if_pos h]
theorem rowA_unit {sets:List Nat} {t n:Nat} (x:Nat→Rat) (h:t<n):dot (rowA sets (sets.length+t)) x n=x t :=
 dot_unit _ x h fun i _=>by rw [rowA,if_neg (by omega),Nat.add_sub_cancel_left]
theorem getD_in {l:List Nat} {k:Nat} (h:k<l.length):l.getD k 0∈l:=by
 rw [List.getD,List.getElem?_eq_getElem h]; exact List.getElem_mem h
theorem bitQ_nn (s i:Nat):0≤bitQ s i:=by
 rw [bitQ]; split <;> decide
theorem corner_ex {n:Nat} {sets:List Nat} (hc : ∀ i,i<n→∃ s∈sets,s.testBit i=true) {x:Nat→Rat} (hx:PFeas n sets x) : ∃ B v,Corner n sets B v∧sumTo x n≤sumTo v n:=by
 obtain ⟨σ,hσ⟩ : ∃ σ:Nat→Rat,σ=fun k=>if k<sets.length then 1 else -1:=⟨_,rfl⟩
 obtain ⟨A,hA⟩ : ∃ A:Nat→Nat→Rat,A=fun k i=>σ k*rowA sets k i:=⟨_,rfl⟩
 obtain ⟨b,hb⟩ : ∃ b:Nat→Rat,b=rhsA sets:=⟨_,rfl⟩
 have hdA : ∀ k (y:Nat→Rat),dot (A k) y n=σ k*dot (rowA sets k) y n:=fun k y=>by
  rw [hA,dot,dot,← Yb]
  exact sumTo_congr fun i _=>by grind
 have hs1 : ∀ {k},k<sets.length→σ k=1:=fun h=>by rw [hσ]; exact if_pos h
 have hs2 : ∀ t,σ (sets.length+t) = -1:=fun t=>by rw [hσ]; exact if_neg (by omega)
 have hb1 : ∀ {k},k<sets.length→b k=1:=fun h=>by rw [hb]; exact if_pos h
 have hb2 : ∀ t,b (sets.length+t)=0:=fun t=>by rw [hb]; exact if_neg (by omega)
 have feas : ∀ y:Nat→Rat,(∀ k,k<sets.length+n→dot (A k) y n≤b k)↔PFeas n sets y:=fun y=>by
  constructor
  · intro h
    refine ⟨fun i hi=>?_,fun s hs=>?_⟩
    · have:=h (sets.length+i) (by omega)
      rw [hdA,hs2,hb2,rowA_unit y hi] at this; grind
    · obtain ⟨k,hk,rfl⟩:=List.mem_iff_getElem.1 hs
      have:=h k (by omega)
      rw [hdA,hs1 hk,hb1 hk,rowA_set hk,List.getD,List.getElem?_eq_getElem hk] at this
      simpa using this
  · intro h k hk
    rcases Nat.lt_or_ge k sets.length with h1 | h1
    · rw [hdA,hs1 h1,hb1 h1,rowA_set h1,Rat.one_mul]
      exact h.le _ (getD_in h1)
    · obtain ⟨t,rfl⟩ : ∃ t,k=sets.length+t:=⟨k-sets.length,by omega⟩
      rw [hdA,hs2,hb2,rowA_unit y (by omega)]
      have:=h.nn t (by omega); grind
 obtain ⟨v,v1,v2,v3⟩:=vert (n:=n) (m:=sets.length+n) A b (fun _=>1) (fun d hne hw=>by
  refine Classical.byContradiction fun hno=>?_
  have hle : ∀ k,k<sets.length+n→dot (A k) d n≤0:=fun k hk=>by
   rcases Rat.le_total (a:=dot (A k) d n) (b:=0) with h | h
   · exact h
   · by_cases h0:dot (A k) d n=0
     · rw [h0]; decide
     · exact absurd ⟨k,hk,by grind⟩ hno
  have hd0 : ∀ i,i<n→0≤d i:=fun i hi=>by
   have:=hle (sets.length+i) (by omega)
   rw [hdA,hs2,rowA_unit d hi] at this; grind
  obtain ⟨i,hi,h0⟩:=hne
  obtain ⟨s,hs,hbit⟩:=hc i hi
  obtain ⟨k,hk,rfl⟩:=List.mem_iff_getElem.1 hs
  have h1:=hle k (by omega)
  rw [hdA,hs1 hk,rowA_set hk,List.getD,List.getElem?_eq_getElem hk,Option.getD_some,Rat.one_mul] at h1
  have h2:=sumTo_one (g:=fun i=>bitQ sets[k] i*d i) hi fun j hj=>Rat.mul_nonneg (bitQ_nn _ _) (hd0 j hj)
  have h3:bitQ sets[k] i=1:=by rw [bitQ,if_pos hbit]
  simp only [h3,Rat.one_mul] at h2
  have h4:=hd0 i hi
  rw [dot] at h1
  grind) _ x (Nat.le_refl _) ((feas x).2 hx)
 have hvf:=(feas v).1 v1
 have h0σ : ∀ k,σ k≠0:=fun k=>by rw [hσ]; simp only; split <;> decide
 obtain ⟨B,b1,b2,b3⟩:=pick_rows (A:=rowA sets) (n:=n) (L:=(List.range (sets.length+n)).filter fun k=>decide (dot (A k) v n=b k)) fun d hd=>v3 d fun k hk ht=>by
  rw [hdA,hd k (List.mem_filter.2 ⟨List.mem_range.2 hk,by simpa using ht⟩),Rat.mul_zero]
 have hsum : ∀ y:Nat→Rat,dot (fun _=>1) y n=sumTo y n:=fun y=>by rw [dot]; exact sumTo_congr fun i _=>Rat.one_mul _
 rw [hsum,hsum] at v2
 refine ⟨B,v,⟨b2,b1.trans (List.filter_sublist),b3,fun r hr=>?_,hvf⟩,v2⟩
 have hm:B.getD r 0∈B:=getD_in (by omega)
 obtain ⟨hm1,hm2⟩:=List.mem_filter.1 (b1.subset hm)
 rw [decide_eq_true_eq,hdA] at hm2
 rw [List.mem_range] at hm1
 have h4:sumTo (fun c=>v c*Wq (rowA sets) B r c) n=dot (rowA sets (B.getD r 0)) v n:=sumTo_congr fun c _=>Rat.mul_comm _ _
 rw [h4,← hb]
 rcases Nat.lt_or_ge (B.getD r 0) sets.length with h1 | h1
 · rw [hs1 h1] at hm2; grind
 · obtain ⟨t,ht⟩ : ∃ t,B.getD r 0=sets.length+t:=⟨B.getD r 0-sets.length,by omega⟩
   rw [ht] at hm2 ⊢
   rw [hs2,hb2] at hm2
   rw [hb2]; grind
structure IsOpt (n:Nat) (sets:List Nat) (q:Rat):Prop where
 at_ : ∃ x,PFeas n sets x∧sumTo x n=q
 le : ∀ x,PFeas n sets x→sumTo x n≤q
theorem isOpt_of {n:Nat} {sets:List Nat} {q:Rat} (hc : ∀ i,i<n→∃ s∈sets,s.testBit i=true) (h1 : ∃ x,PFeas n sets x∧sumTo x n=q) (h2 : ∀ B x,Corner n sets B x→sumTo x n≤q):IsOpt n sets q :=
 ⟨h1,fun x hx=>by
  obtain ⟨B,v,hv,hl⟩:=corner_ex hc hx
  exact Rat.le_trans hl (h2 B v hv)⟩
theorem IsOpt.inj {n:Nat} {sets:List Nat} {p q:Rat} (h1:IsOpt n sets p) (h2:IsOpt n sets q):p=q:=by
 obtain ⟨x,hx,e1⟩:=h1.at_
 obtain ⟨y,hy,e2⟩:=h2.at_
 have:=h1.le y hy
 have:=h2.le x hx
 grind
/-! ### The program's determinant -/
def pdet:Nat→List (List Int)→Int
 | 0,_=>1
 | n+1,s=>isum (fun i=>(if (i+n) % 2=0 then 1 else -1)*(s.getD i []).getD n 0*pdet n (s.eraseIdx i)) s.length
where
 isum (f:Nat→Int):Nat→Int
  | 0=>0
  | n+1=>isum f n+f n
def tau:Nat→Rat
 | 0=>1
 | n+1=>sgn n*tau n
theorem tau_sq (n:Nat):tau n*tau n=1:=by
 induction n with
 | zero=>rw [tau,Rat.mul_one]
 | succ n ih =>
   rw [tau]
   have:=sgn_sq n
   have e:sgn n*tau n*(sgn n*tau n)=(sgn n*sgn n)*(tau n*tau n):=by grind
   rw [e,this,ih,Rat.mul_one]
theorem sgn_even : ∀ k,((if k % 2=0 then (1:Int) else -1:Int):Rat)=sgn k
 | 0=>rfl
 | 1=>by rw [sgn,sgn]; rfl
 | k+2=>by
   rw [sgn,sgn,← sgn_even k,show (k+2) % 2=k % 2 by omega]
   split <;> decide
theorem getD_erase {α:Type} (l:List α) (d:α) (i r:Nat):(l.eraseIdx i).getD r d=l.getD (skp i r) d:=by
 rw [List.getD,List.getD,List.getElem?_eraseIdx,skp]
 split <;> rfl
theorem isum_cast (f:Nat→Int) (n:Nat):((pdet.isum f n:Int):Rat)=sumTo (fun i=>(f i:Rat)) n:=by
 induction n with
 | zero=>rfl
 | succ n ih=>rw [pdet.isum,sumTo,Rat.intCast_add,ih]
def colsOf (n:Nat) (s:List (List Int)):Nat→Nat→Rat:=fun c r=>(((s.getD r []).getD (n-1-c) 0:Int):Rat)
theorem pdet_det : ∀ (n:Nat) (s:List (List Int)),s.length=n→((pdet n s:Int):Rat)=tau n*det n (colsOf n s)
 | 0,s,h=>by rw [pdet,tau,det,Rat.mul_one]; rfl
 | n+1,s,h=>by
   rw [pdet,isum_cast,h,tau,det,← Yb]
   refine sumTo_congr fun i hi=>?_
   have h1:=pdet_det n (s.eraseIdx i) (by rw [List.length_eraseIdx,if_pos (by omega),h]; rfl)
   have h2:det n (colsOf n (s.eraseIdx i))=det n (fun c r=>colsOf (n+1) s (c+1) (skp i r)):=Xl _ fun c r hc hr=>by
    rw [colsOf,colsOf,getD_erase,show n+1-1-(c+1)=n-1-c by omega]
   rw [Rat.intCast_mul,Rat.intCast_mul,h1,h2,sgn_even,sgn_add]
   have h3:colsOf (n+1) s 0 i=(((s.getD i []).getD n 0:Int):Rat):=rfl
   rw [h3]; grind
def putR (n j:Nat) (r:List Int):List Int:=r.set j (r.getD n 0)
theorem pdet_cram {n:Nat} {s:List (List Int)} (hl:s.length=n) (hr : ∀ r∈s,r.length=n+1) {x:Nat→Rat} (hx : ∀ r,r<n→sumTo (fun c=>x c*(((s.getD r []).getD c 0:Int):Rat)) n=(((s.getD r []).getD n 0:Int):Rat)) {j:Nat} (hj:j<n) :
  ((pdet n (s.map (putR n j)):Int):Rat)=x j*((pdet n s:Int):Rat):=by
 have hrev : ∀ g:Nat→Rat,sumTo (fun c=>g (n-1-c)) n=sumTo g n:=by
  intro g
  have key : ∀ m,m≤n→sumTo (fun c=>g (n-1-c)) m+sumTo g (n-m)=sumTo g n:=by
   intro m
   induction m with
   | zero=>intro _; rw [sumTo,Rat.zero_add]; rfl
   | succ m ih =>
     intro hm
     rw [← ih (by omega),sumTo,show n-m=(n-(m+1))+1 by omega,sumTo,show n-1-m=n-(m+1) by omega]
     grind
  have:=key n (Nat.le_refl n)
  rw [Nat.sub_self,sumTo,Rat.add_zero] at this
  exact this
 have h1:=cramer (n:=n) (j:=n-1-j) (M:=colsOf n s) (b:=fun r=>(((s.getD r []).getD n 0:Int):Rat)) (x:=fun c=>x (n-1-c)) (by omega) fun r hr'=>by
  have h2:sumTo (fun c=>x (n-1-c)*colsOf n s c r) n=sumTo (fun c=>x c*(((s.getD r []).getD c 0:Int):Rat)) n:=hrev fun c=>x c*(((s.getD r []).getD c 0:Int):Rat)
  rw [h2]; exact hx r hr'
 rw [show n-1-(n-1-j)=j by omega] at h1
 rw [pdet_det n _ (by rw [List.length_map,hl]),pdet_det n s hl]
 have h3:det n (colsOf n (s.map (putR n j)))=det n (putC (colsOf n s) (n-1-j) fun r=>(((s.getD r []).getD n 0:Int):Rat)):=Xl _ fun c r hc hr'=>by
  have hrs:r<s.length:=by omega
  have hrl:=hr _ (List.getElem_mem hrs)
  have e1:(s.map (putR n j)).getD r []=putR n j (s.getD r []):=by
   rw [List.getD,List.getElem?_map,List.getD,List.getElem?_eq_getElem hrs]; rfl
  have e2:s.getD r []=s[r]:=by rw [List.getD,List.getElem?_eq_getElem hrs]; rfl
  rw [colsOf,e1,putC]
  by_cases h:c=n-1-j
  · rw [if_pos h,putR,h,show n-1-(n-1-j)=j by omega,List.getD,List.getElem?_set_self (by rw [e2]; omega)]; rfl
  · rw [if_neg h,putR,List.getD,List.getElem?_set_ne (by omega)]; rfl
 rw [h3,h1]; grind
def fact:Nat→Nat
 | 0=>1
 | n+1=>(n+1)*fact n
theorem isum_abs {f:Nat→Int} {B:Nat} : ∀ {n:Nat},(∀ i,i<n→(f i).natAbs≤B)→(pdet.isum f n).natAbs≤n*B
 | 0,_=>by simp [pdet.isum]
 | n+1,h=>by
   have h1:=isum_abs (n:=n) fun i hi=>h i (by omega)
   have h2:=h n (by omega)
   have h3:=Int.natAbs_add_le (pdet.isum f n) (f n)
   rw [pdet.isum,Nat.succ_mul]; omega
theorem pdet_abs : ∀ (n:Nat) (s:List (List Int)),s.length=n→(∀ r∈s,∀ y∈r,y=0∨y=1)→(pdet n s).natAbs≤fact n
 | 0,s,_,_=>by rw [pdet,fact]; decide
 | n+1,s,h,h01=>by
   rw [pdet,h,fact]
   refine isum_abs fun i hi=>?_
   have h1:=pdet_abs n (s.eraseIdx i) (by rw [List.length_eraseIdx,if_pos (by omega),h]; rfl) fun r hr=>h01 r (List.mem_of_mem_eraseIdx hr)
   have hy:(s.getD i []).getD n 0=0∨(s.getD i []).getD n 0=1:=by
    have e2:s.getD i []=s[i]'(by omega):=by rw [List.getD,List.getElem?_eq_getElem]; rfl
    rw [e2]
    rcases Nat.lt_or_ge n (s[i]'(by omega)).length with h2 | h2
    · rw [List.getD,List.getElem?_eq_getElem h2]; exact h01 _ (List.getElem_mem _) _ (List.getElem_mem _)
    · left; rw [List.getD,List.getElem?_eq_none h2]; rfl
   rw [Int.natAbs_mul,Int.natAbs_mul]
   have h3:(if (i+n) % 2=0 then (1:Int) else -1).natAbs=1:=by split <;> rfl
   rw [h3,Nat.one_mul]
   rcases hy with h4 | h4 <;> rw [h4]
   · simp
   · simpa using h1
end Bq
namespace Go.Proofs.Tryd.Am
open Go.Am
set_option maxRecDepth 100000
set_option maxHeartbeats 4000000
def RowsI (h:Zh) (v:Value) (rows:List (List Int)):Prop:=∃ ws,ValSl h v ws∧Each (IntSl h) ws rows
theorem RowsI.ext {h h' : Zh} {v:Value} {rows:List (List Int)} (hr:RowsI h v rows) (hE:Ext (fun _=>False) h h'):RowsI h' v rows:=by
 obtain ⟨ws,h1,h2⟩:=hr
 exact ⟨ws,h1.ext hE,h2.imp fun w l hw=>hw.same fun b hb=>hE.2 b (hw.lt hb) id⟩
theorem intSl_notI {h:Zh} {v:Value} {xs:List Int} (hv:IntSl h v xs):notI v=true∧one v=true:=by
 rcases hv with ⟨rfl,rfl⟩ | ⟨b,o,sp,cap,c,e,ro,rfl,_⟩ <;> exact ⟨rfl,rfl⟩
theorem Each.take' {R:Value→List Int→Prop} : ∀ {us:List Value} {bs:List (List Int)} (i:Nat),Each R us bs→Each R (us.take i) (bs.take i)
 | [],[],i,_=>by simp; trivial
 | _::_,_::_,0,_=>trivial
 | _::_,_::_,i+1,h=>⟨h.1,Each.take' i h.2⟩
 | [],_::_,_,h=>h.elim
 | _::_,[],_,h=>h.elim
theorem Each.drop' {R:Value→List Int→Prop} : ∀ {us:List Value} {bs:List (List Int)} (i:Nat),Each R us bs→Each R (us.drop i) (bs.drop i)
 | [],[],i,_=>by simp; trivial
 | _::_,_::_,0,h=>h
 | _::_,_::_,i+1,h=>Each.drop' i h.2
 | [],_::_,_,h=>h.elim
 | _::_,[],_,h=>h.elim
theorem ext_own {h h1 h2:Zh} {v1:Value} (hE1:Ext (fun _=>False) h h1) (hb : ∀ b,Ye v1=some b→h.length≤b) (hE2:Ext (fun i=>Ye v1=some i) h1 h2):Ext (fun _=>False) h h2 :=
 ⟨Nat.le_trans hE1.1 hE2.1,fun i hi _=>(hE2.2 i (Nat.lt_of_lt_of_le hi hE1.1) fun hc=>by have:=hb _ hc; omega).trans (hE1.2 i hi id)⟩
theorem tmod2 (k:Nat):Int.tmod (k:Int) 2=((k % 2:Nat):Int):=rfl
theorem fact_le : ∀ {n:Nat},n≤6→Bq.fact n≤720
 | 0,_=>by decide
 | 1,_=>by decide
 | 2,_=>by decide
 | 3,_=>by decide
 | 4,_=>by decide
 | 5,_=>by decide
 | 6,_=>by decide
 | n+7,h=>by omega
def detF (n:Nat) (s:List (List Int)) (i:Nat):Int:=(if (i+n) % 2=0 then 1 else -1)*(s.getD i []).getD n 0*Bq.pdet n (s.eraseIdx i)
theorem s99_callW [Tabs Tryd.prog] {args:List Value} {h:Zh} {Q:Value→Zh→Prop} (hsz:args.length≤57) (hk:AWS Tryd.prog 57 s99 (Zu Tryd.prog [.tmp 4] Q) (Zt 0 args) h):ACall Tryd.prog 99 args h Q :=
 Xd Tryd.func99 rfl (enters_of Tryd.func99 (by kernel_rfl) rfl) rfl rfl (by decide) s99_strip s99_ok hsz hk
theorem det_call [Tabs prog] : ∀ (n:Nat) {h:Zh} {v:Value} {s:List (List Int)},n≤6→s.length=n→(∀ r∈s,n≤r.length∧∀ y∈r,y=0∨y=1)→RowsI h v s→Wo prog 99 [v,Zd n] h (Zd (Bq.pdet n s)):=by
 intro n
 induction n with
 | zero =>
   intro h v s h6 hl hr hv
   refine s99_call (by simp) ?_
   simp only [s99]
   simp (maxSteps:=2000000) only [↓Za,↓Zp,↓Ya,↓Zb,↓Zc,↓vdn,vup,cond_true,cond_false,aop,Zg,Zt,ev,sput,Zf,Zv,Zx,Nat.reduceBEq,Nat.reduceAdd,Int.reduceBEq,Zu,Xu,tup,Int.natCast_zero]
   rfl
 | succ n ih =>
   intro h v s h6 hl hr hv
   refine ACall.forget (.int _ _) ?_
   have hrow : ∀ i,i<n+1→n<(s.getD i []).length∧((s.getD i []).getD n 0=0∨(s.getD i []).getD n 0=1):=fun i hi=>by
    have e2:s.getD i []=s[i]'(by omega):=by rw [List.getD,List.getElem?_eq_getElem]; rfl
    obtain ⟨h1,h2⟩:=hr _ (List.getElem_mem (show i<s.length by omega))
    rw [e2]
    have h3:n<(s[i]'(by omega)).length:=by omega
    exact ⟨h3,by rw [List.getD,List.getElem?_eq_getElem h3]; exact h2 _ (List.getElem_mem _)⟩
   have her : ∀ i,i<n+1→(s.eraseIdx i).length=n∧∀ r∈s.eraseIdx i,n≤r.length∧∀ y∈r,y=0∨y=1:=fun i hi =>
    ⟨by rw [List.length_eraseIdx,if_pos (by omega)]; omega,fun r h=>by
     obtain ⟨h1,h2⟩:=hr r (List.mem_of_mem_eraseIdx h)
     exact ⟨by omega,h2⟩⟩
   have habs : ∀ i,i<n+1→(Bq.pdet n (s.eraseIdx i)).natAbs≤720:=fun i hi =>
    Nat.le_trans (Bq.pdet_abs n _ (her i hi).1 fun r h=>((her i hi).2 r h).2) (fact_le (by omega))
   have hF : ∀ i,i<n+1→(detF n s i).natAbs≤720:=fun i hi=>by
    rw [detF,Int.natAbs_mul,Int.natAbs_mul]
    have h3:(if (i+n) % 2=0 then (1:Int) else -1).natAbs=1:=by split <;> rfl
    have h4:=habs i hi
    rw [h3,Nat.one_mul]
    rcases (hrow i hi).2 with h5 | h5 <;> rw [h5]
    · simp
    · simpa using h4
   have hsumb : ∀ i,i≤n+1→(Bq.pdet.isum (detF n s) i).natAbs≤7*720:=fun i hi =>
    Nat.le_trans (Bq.isum_abs (f:=detF n s) (B:=720) fun j hj=>hF j (by omega)) (Nat.mul_le_mul_right _ (by omega))
   have hpd:Bq.pdet (n+1) s=Bq.pdet.isum (detF n s) (n+1):=by rw [Bq.pdet,hl]; rfl
   have hn0:(((n+1:Nat):Int)==0)=false:=by rw [beq_eq_false_iff_ne]; omega
   have hsub:subV .i64 ((n+1:Nat):Int) 1=((n:Nat):Int):=by rw [Vk (by omega) (by omega)]; omega
   obtain ⟨ws,w1,w2⟩:=hv
   have hwl:ws.length=n+1:=w2.len.trans hl
   have hnot : ∀ w∈ws,notI w=true∧one w=true:=fun w hw=>by obtain ⟨l,hl⟩:=w2.mem w hw; exact intSl_notI hl
   refine s99_callW (by simp) ?_
   simp only [s99]
   refine Ze fun N1 hN1=>?_
   simp (maxSteps:=2000000) only [↓Za,↓Zb,↓Zc,vup,cond_false,aop,Zg,Zt,ev,sput,Zf,Nat.reduceBEq,Nat.reduceAdd]
   refine hN1 [(0,v),(1,Zd (n+1:Nat)),(4,.int .i64 0)] _ _ ?_ (by simp (maxSteps:=2000000) only [vup,cond_true,cond_false,Nat.reduceBEq])
   clear hN1
   try clear N1
   refine Zk fun M hM=>?_
   refine Ze fun N2 hN2=>?_
   simp (maxSteps:=2000000) only [↓Za,↓Zb,↓Zc,vup,cond_true,cond_false,aop,Zg,ev,sput,Zf,Zv,Zx,Nat.reduceBEq,hn0]
   refine hN2 [(0,v),(1,Zd (n+1:Nat)),(4,.int .i64 0),(11,.bool false)] _ _ ?_ (by simp (maxSteps:=2000000) only [vup,cond_true,cond_false,Nat.reduceBEq])
   clear hN2
   try clear N2
   refine Yg rfl ?_
   refine Zj ?_
   simp (maxSteps:=2000000) only [↓Zn,Zg]
   refine hM [(0,v),(1,Zd (n+1:Nat)),(4,.int .i64 0)] _ _ ?_ (by simp (maxSteps:=2000000) only [vup,cond_true,cond_false,Nat.reduceBEq])
   clear hM
   try clear M
   refine Ze fun N3 hN3=>?_
   simp (maxSteps:=2000000) only [↓Za,↓Zb,↓Zc,vup,cond_false,aop,Zg,ev,sput,Zf,Nat.reduceBEq]
   refine hN3 [(0,v),(1,Zd (n+1:Nat)),(4,.int .i64 0),(5,.int .i64 0),(6,.int .i64 1)] _ _ ?_ (by simp (maxSteps:=2000000) only [vup,cond_true,cond_false,Nat.reduceBEq])
   clear hN3
   try clear N3
   refine Zk fun Z hZ=>?_
   refine Ze fun N4 hN4=>?_
   simp (maxSteps:=2000000) only [↓Za,↓Zb,↓Zc,vup,List.map_cons,List.map_nil,cond_true,cond_false,aop,Zg,ev,sput,Zf,Zi,Nat.reduceBEq,tyf,w1.len,hwl]
   refine hN4 [(0,v),(1,Zd (n+1:Nat)),(4,.int .i64 0),(5,.int .i64 0),(6,.int .i64 1),(12,v),(13,Zd (n+1:Nat)),(14,.int .i64 0)] _ _ ?_ (by simp (maxSteps:=2000000) only [vup,cond_true,cond_false,Nat.reduceBEq])
   clear hN4
   try clear N4
   refine Zo ?_
   refine Zm fun Q hQ=>?_
   refine Yl (γ:=Nat×Int×Zh) (fun g=>g.1≤n+1∧Ext (fun _=>False) h g.2.2)
    (fun g=>([(0,v),(1,Zd (n+1:Nat)),(4,.int .i64 0),(5,Zd (Bq.pdet.isum (detF n s) g.1)),(6,Zd g.2.1),(12,v),(13,Zd (n+1:Nat)),(14,Zd (g.1:Nat))],g.2.2)) (fun g=>n+1-g.1) (0,1,h) ⟨Nat.zero_le _,Ext.refl _ _⟩ (by simp (maxSteps:=2000000) only [vup,cond_true,cond_false,Nat.reduceBEq,Int.natCast_zero,show Bq.pdet.isum (detF n s) 0=0 from rfl]) rfl ?_
   rintro ⟨i,sg,H⟩ ⟨hi,hE⟩
   simp only at hi hE
   refine Zm fun Q2 hQ2=>?_
   simp only [l99_0]
   by_cases hin:(i:Int)<((n+1:Nat):Int)
   · have hi' : i<n+1:=by omega
     have hiW:i<ws.length:=by omega
     have hiS:i<s.length:=by omega
     obtain ⟨w,hwd⟩ : ∃ w,w=ws.getD i undef:=⟨_,rfl⟩
     have hw:IntSl H w (s.getD i []):=by
      have:=w2.get undef [] hiS
      rw [← hwd] at this
      exact this.same fun b hb=>hE.2 b (this.lt hb) id
     obtain ⟨hrl,hr01⟩:=hrow i hi'
     have hsn:Bq.pdet.isum (detF n s) (i+1)=Bq.pdet.isum (detF n s) i+detF n s i:=rfl
     refine Ze fun N5 hN5=>?_
     simp (maxSteps:=2000000) only [↓Za,↓Zb,↓Zc,vup,cond_true,cond_false,aop,Zg,ev,sput,Zf,Zv,Zx,Nat.reduceBEq,hin]
     refine hN5 [(0,v),(1,Zd (n+1:Nat)),(4,.int .i64 0),(5,Zd (Bq.pdet.isum (detF n s) i)),(6,Zd sg),(12,v),(13,Zd (n+1:Nat)),(14,Zd (i:Nat)),(15,.bool true)] _ _ ?_ (by simp (maxSteps:=2000000) only [vup,cond_true,cond_false,Nat.reduceBEq])
     clear hN5
     try clear N5
     refine Ze fun N6 hN6=>?_
     simp (maxSteps:=2000000) only [↓Zn,↓vdn,vup,cond_true,cond_false,Zg,ev,Nat.reduceBEq]
     refine hN6 [(0,v),(1,Zd (n+1:Nat)),(4,.int .i64 0),(5,Zd (Bq.pdet.isum (detF n s) i)),(6,Zd sg),(12,v),(13,Zd (n+1:Nat)),(14,Zd (i:Nat))] _ _ ?_ (by simp (maxSteps:=2000000) only [vup,cond_true,cond_false,Nat.reduceBEq])
     clear hN6
     try clear N6
     refine Zk fun B hB=>?_
     refine Zo ?_
     refine Ze fun N7 hN7=>?_
     simp (maxSteps:=2000000) only [↓Za,↓Zb,↓Zc,vup,cond_true,cond_false,aop,Zg,ev,sput,Zf,Nat.reduceBEq,w1.idx el_84 esz_22 hiW,(w1.ext hE).load shp_22 hiW,← hwd]
     refine hN7 [(0,v),(1,Zd (n+1:Nat)),(4,.int .i64 0),(5,Zd (Bq.pdet.isum (detF n s) i)),(6,Zd sg),(7,Zd (i:Nat)),(8,w),(12,v),(13,Zd (n+1:Nat)),(14,Zd (i:Nat))] _ _ ?_ (by simp (maxSteps:=2000000) only [vup,cond_true,cond_false,Nat.reduceBEq])
     clear hN7
     try clear N7
     refine Ze fun N8 hN8=>?_
     simp (maxSteps:=2000000) only [↓Za,↓Zb,↓Zc,vup,cond_true,cond_false,aop,Zg,ev,sput,Zf,Zv,Zx,Nat.reduceBEq,tyf,hsub,hw.idx Xt Xe hrl,hw.load Xf hrl]
     refine hN8 [(0,v),(1,Zd (n+1:Nat)),(4,.int .i64 0),(5,Zd (Bq.pdet.isum (detF n s) i)),(6,Zd sg),(7,Zd (i:Nat)),(8,w),(12,v),(13,Zd (n+1:Nat)),(14,Zd (i:Nat)),(24,.bool ((s.getD i []).getD n 0 != 0))] _ _ ?_ (by simp (maxSteps:=2000000) only [vup,cond_true,cond_false,Nat.reduceBEq])
     clear hN8
     try clear N8
     rcases hr01 with h01 | h01
     · have hz:detF n s i=0:=by rw [detF,h01,Int.mul_zero,Int.zero_mul]
       rw [hz,Int.add_zero] at hsn
       refine Yg (by rw [h01]; rfl) ?_
       refine Zj ?_
       simp (maxSteps:=2000000) only [↓Zn,Zg,Zl]
       refine hB [(0,v),(1,Zd (n+1:Nat)),(4,.int .i64 0),(5,Zd (Bq.pdet.isum (detF n s) i)),(6,Zd sg),(12,v),(13,Zd (n+1:Nat)),(14,Zd (i:Nat))] _ _ ?_ (by simp (maxSteps:=2000000) only [vup,cond_true,cond_false,Nat.reduceBEq])
       clear hB
       try clear B
       refine Zj ?_
       simp (maxSteps:=2000000) only [↓Za,↓Zb,↓Zc,vup,cond_true,cond_false,aop,ev,sput,Zf,Zv,Zx,Nat.reduceBEq,Wx (show i<9223372036854775807 by omega)]
       exact hQ2 _ _ _ ⟨(i+1,sg,H),⟨hi',hE⟩,by simp only; omega,by simp (maxSteps:=2000000) only [vup,cond_true,cond_false,Nat.reduceBEq,hsn],rfl⟩
     · have hf:detF n s i=(if (i+n) % 2=0 then 1 else -1)*Bq.pdet n (s.eraseIdx i):=by rw [detF,h01,Int.mul_one]
       refine Yx (by rw [h01]; rfl) ?_
       refine Ze fun N9 hN9=>?_
       simp (maxSteps:=2000000) only [↓Za,↓Zb,↓Zc,vup,cond_false,aop,Zg,ev,sput,Zf,Nat.reduceBEq]
       refine hN9 [(0,v),(1,Zd (n+1:Nat)),(4,.int .i64 0),(5,Zd (Bq.pdet.isum (detF n s) i)),(6,Zd sg),(7,Zd (i:Nat)),(8,w),(9,.slice none 0 0),(12,v),(13,Zd (n+1:Nat)),(14,Zd (i:Nat)),(24,.bool ((s.getD i []).getD n 0 != 0))] _ _ ?_ (by simp (maxSteps:=2000000) only [vup,cond_true,cond_false,Nat.reduceBEq])
       clear hN9
       try clear N9
       refine Ze fun N10 hN10=>?_
       refine Xp [] (by kernel_rfl) (by kernel_rfl) (by kernel_rfl) (by kernel_rfl) ?_
       simp (maxSteps:=2000000) only [↓Yw,↓vdn,vup,List.map_cons,List.map_nil,cond_true,cond_false,aop,Zg,ev,sput,Zf,Zv,Zx,Zi,Nat.reduceBEq,Option.map_some,Option.map_none]
       refine (w1.ext hE).pre el_84 esz_22 (Nat.le_of_lt hiW) fun u1 hu1 _=>?_
       refine OwnV.app (ws:=[]) (.inl ⟨rfl,rfl⟩) app_84_84 hu1 (fun w hw=>hnot w (List.take_subset _ _ (by simpa using hw))) (by simp; omega) fun v1 h1 ho1 hE1 hb1=>?_
       have hE1' : Ext (fun _=>False) H h1:=hE1.mono fun _ h=>by cases h
       have hb1' : ∀ b,Ye v1=some b→H.length≤b:=fun b hb=>by
        rcases hb1 with h2 | ⟨b',h2,h3⟩
        · rw [hb] at h2; cases h2
        · rw [hb] at h2; cases h2; exact h3
       simp (maxSteps:=2000000) only [Wx (show i<9223372036854775807 by omega)]
       refine ((w1.ext hE).ext hE1').suf el_84 esz_22 hiW fun u2 hu2 hub2=>?_
       refine ho1.appS app_84_84 hu2 (fun w hw=>by
        rw [List.nil_append] at hw
        rcases List.mem_append.1 hw with hw | hw
        · exact hnot w (List.take_subset _ _ hw)
        · exact hnot w (List.drop_subset _ _ hw)) (by rw [List.nil_append,List.length_take,List.length_drop]; omega) fun v2 h2 ho2 hE2 hb2=>?_
       rw [List.nil_append,← List.eraseIdx_eq_take_drop_succ] at ho2
       have hE2' : Ext (fun _=>False) H h2:=ext_own hE1' hb1' hE2
       have hEn:Ext (fun _=>False) h h2:=hE.trans hE2'
       refine hN10 [(0,v),(1,Zd (n+1:Nat)),(4,.int .i64 0),(5,Zd (Bq.pdet.isum (detF n s) i)),(6,Zd sg),(7,Zd (i:Nat)),(8,w),(9,v2),(12,v),(13,Zd (n+1:Nat)),(14,Zd (i:Nat)),(24,.bool ((s.getD i []).getD n 0 != 0))] _ _ ?_ (by simp (maxSteps:=2000000) only [vup,cond_true,cond_false,Nat.reduceBEq])
       clear hN10
       try clear N10
       have hrest:RowsI h2 v2 (s.eraseIdx i):=⟨_,ho2.val,by
        rw [List.eraseIdx_eq_take_drop_succ,List.eraseIdx_eq_take_drop_succ]
        exact ((Each.take' i w2).app (Each.drop' (i+1) w2)).imp fun w l hw=>hw.same fun b hb=>hEn.2 b (hw.lt hb) id⟩
       have hw2:IntSl h2 w (s.getD i []):=hw.same fun b hb=>hE2'.2 b (hw.lt hb) id
       obtain ⟨g,hg⟩ : ∃ g:Int,g=if (i+n) % 2=0 then 1 else -1:=⟨_,rfl⟩
       rw [← hg] at hf
       have hcall:=ih (h:=h2) (v:=v2) (s:=s.eraseIdx i) (by omega) (her i hi').1 (her i hi').2 hrest
       have hadd1:addV .i64 ((i:Nat):Int) ((n+1:Nat):Int)=((i+n+1:Nat):Int):=by rw [Wf (by omega) (by omega)]; omega
       have hsub2:subV .i64 ((i+n+1:Nat):Int) 1=((i+n:Nat):Int):=by rw [Vk (by omega) (by omega)]; omega
       have hpar:((((i+n) % 2:Nat):Int)==0)=decide ((i+n) % 2=0):=by
        rw [Bool.eq_iff_iff]; simp; omega
       have ha:=habs i hi'
       have hs:=hsumb i hi
       have hg1:g=1∨g = -1:=by rw [hg]; split <;> simp
       have hm1:mulV .i64 g 1=g:=by rcases hg1 with h | h <;> rw [h] <;> rfl
       have hm2:mulV .i64 g (Bq.pdet n (s.eraseIdx i))=g*Bq.pdet n (s.eraseIdx i):=by
        rcases hg1 with h | h <;> rw [h] <;> exact mulV_id (by omega) (by omega)
       have hm3:addV .i64 (Bq.pdet.isum (detF n s) i) (g*Bq.pdet n (s.eraseIdx i))=Bq.pdet.isum (detF n s) (i+1):=by
        rw [hsn,hf]
        rcases hg1 with h | h <;> rw [h] <;> exact Wf (by omega) (by omega)
       refine Zk fun A hA=>?_
       refine Ze fun N11 hN11=>?_
       simp (maxSteps:=2000000) only [↓Za,↓Zb,↓Zc,vup,cond_true,cond_false,aop,Zg,ev,sput,Zf,Zv,Zx,Nat.reduceBEq,hadd1,hsub2,tmod2,hpar,show ((2:Int)≠0)=True from by simp]
       refine hN11 [(0,v),(1,Zd (n+1:Nat)),(4,.int .i64 0),(5,Zd (Bq.pdet.isum (detF n s) i)),(6,Zd sg),(7,Zd (i:Nat)),(8,w),(9,v2),(12,v),(13,Zd (n+1:Nat)),(14,Zd (i:Nat)),(24,.bool ((s.getD i []).getD n 0 != 0)),(40,.bool (decide ((i+n) % 2=0)))] _ _ ?_ (by simp (maxSteps:=2000000) only [vup,cond_true,cond_false,Nat.reduceBEq])
       clear hN11
       try clear N11
       by_cases hp:(i+n) % 2=0
       · have hg2:g=1:=by rw [hg,if_pos hp]
         rw [decide_eq_true hp]
         refine Yx rfl ?_
         refine Zj ?_
         simp (maxSteps:=2000000) only [↓Za,↓Zb,↓Zc,vup,cond_true,cond_false,aop,Zg,ev,sput,Zf,Nat.reduceBEq,show ((1:Int))=g from hg2.symm]
         refine hA [(0,v),(1,Zd (n+1:Nat)),(4,.int .i64 0),(5,Zd (Bq.pdet.isum (detF n s) i)),(6,Zd g),(7,Zd (i:Nat)),(8,w),(9,v2),(12,v),(13,Zd (n+1:Nat)),(14,Zd (i:Nat)),(24,.bool ((s.getD i []).getD n 0 != 0))] _ _ ?_ (by simp (maxSteps:=2000000) only [vup,cond_true,cond_false,Nat.reduceBEq])
         clear hA
         try clear A
         refine Zj ?_
         simp only [q99_13]
         refine Xp [(11,1)] (by kernel_rfl) (by kernel_rfl) (by kernel_rfl) (by kernel_rfl) ?_
         simp (maxSteps:=2000000) only [↓Yw,↓vdn,vup,List.map_cons,List.map_nil,cond_true,cond_false,aop,Zg,Zl,ev,sput,Zf,Zv,Zx,Nat.reduceBEq,Nat.reduceAdd,Int.reduceBNe,tyf,hsub,hw2.idx Xt Xe hrl,hw2.load Xf hrl,h01,hm1,Yz,List.nil_append,List.append_nil]
         refine ⟨_,_,hcall,rfl,?_⟩
         simp (maxSteps:=2000000) only [vup,hm2,hm3]
         refine hB [(0,v),(1,Zd (n+1:Nat)),(4,.int .i64 0),(5,Zd (Bq.pdet.isum (detF n s) (i+1))),(6,Zd g),(12,v),(13,Zd (n+1:Nat)),(14,Zd (i:Nat))] _ _ ?_ (by simp (maxSteps:=2000000) only [vup,cond_true,cond_false,Nat.reduceBEq])
         clear hB
         try clear B
         refine Zj ?_
         simp (maxSteps:=2000000) only [↓Za,↓Zb,↓Zc,vup,cond_true,cond_false,aop,ev,sput,Zf,Zv,Zx,Nat.reduceBEq,Wx (show i<9223372036854775807 by omega)]
         exact hQ2 _ _ _ ⟨(i+1,g,h2),⟨hi',hEn⟩,by simp only; omega,by simp (maxSteps:=2000000) only [vup,cond_true,cond_false,Nat.reduceBEq],rfl⟩
       · have hg2:g = -1:=by rw [hg,if_neg hp]
         rw [decide_eq_false hp]
         refine Yg rfl ?_
         refine Zj ?_
         simp (maxSteps:=2000000) only [↓Za,↓Zb,↓Zc,vup,cond_true,cond_false,aop,Zg,ev,sput,Zf,Nat.reduceBEq,show ((-1:Int))=g from hg2.symm]
         refine hA [(0,v),(1,Zd (n+1:Nat)),(4,.int .i64 0),(5,Zd (Bq.pdet.isum (detF n s) i)),(6,Zd g),(7,Zd (i:Nat)),(8,w),(9,v2),(12,v),(13,Zd (n+1:Nat)),(14,Zd (i:Nat)),(24,.bool ((s.getD i []).getD n 0 != 0))] _ _ ?_ (by simp (maxSteps:=2000000) only [vup,cond_true,cond_false,Nat.reduceBEq])
         clear hA
         try clear A
         refine Zj ?_
         simp only [q99_13]
         refine Xp [(11,1)] (by kernel_rfl) (by kernel_rfl) (by kernel_rfl) (by kernel_rfl) ?_
         simp (maxSteps:=2000000) only [↓Yw,↓vdn,vup,List.map_cons,List.map_nil,cond_true,cond_false,aop,Zg,Zl,ev,sput,Zf,Zv,Zx,Nat.reduceBEq,Nat.reduceAdd,Int.reduceBNe,tyf,hsub,hw2.idx Xt Xe hrl,hw2.load Xf hrl,h01,hm1,Yz,List.nil_append,List.append_nil]
         refine ⟨_,_,hcall,rfl,?_⟩
         simp (maxSteps:=2000000) only [vup,hm2,hm3]
         refine hB [(0,v),(1,Zd (n+1:Nat)),(4,.int .i64 0),(5,Zd (Bq.pdet.isum (detF n s) (i+1))),(6,Zd g),(12,v),(13,Zd (n+1:Nat)),(14,Zd (i:Nat))] _ _ ?_ (by simp (maxSteps:=2000000) only [vup,cond_true,cond_false,Nat.reduceBEq])
         clear hB
         try clear B
         refine Zj ?_
         simp (maxSteps:=2000000) only [↓Za,↓Zb,↓Zc,vup,cond_true,cond_false,aop,ev,sput,Zf,Zv,Zx,Nat.reduceBEq,Wx (show i<9223372036854775807 by omega)]
         exact hQ2 _ _ _ ⟨(i+1,g,h2),⟨hi',hEn⟩,by simp only; omega,by simp (maxSteps:=2000000) only [vup,cond_true,cond_false,Nat.reduceBEq],rfl⟩
   obtain rfl:i=n+1:=by omega
   refine Ze fun N12 hN12=>?_
   simp (maxSteps:=2000000) only [↓Za,↓Zb,↓Zc,vup,cond_true,cond_false,aop,Zg,ev,sput,Zf,Zv,Zx,Nat.reduceBEq,hin]
   refine hN12 [(0,v),(1,Zd (n+1:Nat)),(4,.int .i64 0),(5,Zd (Bq.pdet.isum (detF n s) (n+1))),(6,Zd sg),(12,v),(13,Zd (n+1:Nat)),(14,Zd (n+1:Nat)),(15,.bool false)] _ _ ?_ (by simp (maxSteps:=2000000) only [vup,cond_true,cond_false,Nat.reduceBEq])
   clear hN12
   try clear N12
   refine Ze fun N13 hN13=>?_
   simp (maxSteps:=2000000) only [↓Yi,↓vdn,vup,cond_true,cond_false,Zg,ev,Nat.reduceBEq]
   refine hQ2 _ _ _ (hQ _ _ _ ?_)
   simp (maxSteps:=2000000) only [Zg,Zl,Zu,if_true]
   refine hZ [(0,v),(1,Zd (n+1:Nat)),(4,.int .i64 0),(5,Zd (Bq.pdet.isum (detF n s) (n+1))),(6,Zd sg)] _ _ ?_ (by simp (maxSteps:=2000000) only [vup,cond_true,cond_false,Nat.reduceBEq])
   clear hZ
   try clear Z
   refine Zj ?_
   simp (maxSteps:=2000000) only [↓Za,↓Zp,↓Ya,↓Zb,↓Zc,vup,cond_true,cond_false,aop,Zg,ev,sput,Zf,Nat.reduceBEq,Zu,Xu,tup]
   exact ⟨by rw [hpd],hE⟩
end Go.Proofs.Tryd.Am
namespace Go.Proofs.Tryd.Am
open Go.Am Sr
set_option maxRecDepth 100000
set_option maxHeartbeats 1000000
theorem fresh_rsi {h:Zh} {xs:List Int}:RSI h (h++[.ints [] 3 false]++[.ints xs 3 false]) (.slice (some ⟨h.length+1,0,some 0⟩) xs.length xs.length) xs :=
 ⟨.inr ⟨h.length+1,[],by simp,by
  have:=Yp (h++[.ints [] 3 false]) (.ints xs 3 false)
  rw [List.length_append,List.length_singleton] at this
  rw [List.append_nil]; exact this⟩,(Ext.app _ _ _).trans (Ext.app _ _ _),fun b hb=>by
  simp only [Ye,Option.some.injEq] at hb; omega⟩
theorem clone_rsi [Tabs prog] {h:Zh} {v:Value} {xs:List Int} (hv:IntSl h v xs) (hx:xs≠[]) (hl:xs.length<1099511627776):ACall prog 26 [v] h fun r h'=>RSI h h' r xs:=by
 refine s26_call (by simp) ?_
 have hv':=hv
 rcases hv with ⟨rfl,rfl⟩ | ⟨b,o,sp,cap,c,e,ro,rfl,hc,hb,_⟩
 · exact absurd rfl hx
 · simp (maxSteps:=2000000) only [s26,↓Za,↓Zn,↓Zp,↓Ya,↓Zb,↓Zc,↓vdn,vup,List.map_cons,List.map_nil,cond_true,cond_false,aop,Zg,Zt,ev,sput,Zf,Zv,Zi,Nat.reduceBEq,Zu,Xu,tup,tyf,Option.isSome_some]
   simp only [Yo,Xt,zero_3,Xe,reps,fillL,mkb,Xa]
   refine And.intro rfl (And.intro Nat.zero_lt_one (And.intro (Nat.zero_le _) ?_))
   refine (hv'.grow [.ints [] 3 false]).copyOwn hx app_22_22 hl (by rw [List.getElem?_append_right (Nat.le_refl _)]; simp) ?_
   have:=fresh_rsi (h:=h) (xs:=xs)
   simpa using this
end Go.Proofs.Tryd.Am
namespace Go.Proofs.Tryd.Am
open Go.Am
set_option maxRecDepth 100000
set_option maxHeartbeats 4000000
theorem ownSl_store {h:Zh} {v:Value} {xs:List Int} {j:Nat} {x:Int} (ho:OwnSl 3 h v xs) (hj:j<xs.length) {K:Zh→Prop} (hk : ∀ h',OwnSl 3 h' v (xs.set j x)→Ext (fun i=>Ye v=some i) h h'→K h'):Xh prog h 3 (Wb v 1 j) (Zd x) K:=by
 rcases ho with ⟨rfl,rfl⟩ | ⟨b,ys,rfl,hb⟩
 · simp at hj
 · have hjl:j<(xs++ys).length:=by rw [List.length_append]; omega
   simp only [Wb,Nat.zero_add,Nat.mul_one]
   rw [storeBI hb Xf hjl,List.set_append_left _ _ hj]
   exact hk _ (.inr ⟨b,ys,by rw [List.length_set],by rw [List.getElem?_set_self (Zz hb)]⟩) (Ext.set _ rfl)
theorem RSI.ext {h0 h h' : Zh} {v:Value} {xs:List Int} (o:RSI h0 h v xs) (hE:Ext (fun _=>False) h h'):RSI h0 h' v xs:=⟨o.1.ext (S:=fun _=>False) hE fun _ _=>id,o.2.1.trans hE,o.2.2⟩
theorem rowsI_of {h:Zh} {v:Value} {rows:List (List Int)} (o:OwnL 22 3 h v rows):RowsI h v rows:=by
 obtain ⟨ws,h1,h2⟩:=o
 exact ⟨ws,h1.val,h2.imp fun w l hw=>hw.int⟩
def numT (n:Nat) (s:List (List Int)) (k:Nat):List Int:=(List.range k).map fun j=>Bq.pdet n (s.map (Bq.putR n j))
def numL (n:Nat) (s:List (List Int)):List Int:=if Bq.pdet n s<0 then (numT n s n).map (- ·) else numT n s n
theorem numT_len (n:Nat) (s:List (List Int)) (k:Nat):(numT n s k).length=k:=by simp [numT]
theorem numT_succ (n:Nat) (s:List (List Int)) (k:Nat):numT n s (k+1)=numT n s k++[Bq.pdet n (s.map (Bq.putR n k))]:=by rw [numT,List.range_succ,List.map_append]; rfl
theorem numT_get {n:Nat} {s:List (List Int)} {k j:Nat} (h:j<k):(numT n s k).getD j 0=Bq.pdet n (s.map (Bq.putR n j)):=by
 rw [numT,List.getD,List.getElem?_map,List.getElem?_range h]; rfl
def ngT (xs:List Int) (k:Nat):List Int:=(xs.take k).map (- ·)++xs.drop k
theorem ngT_len (xs:List Int) (k:Nat):(ngT xs k).length=xs.length:=by simp [ngT]; omega
theorem ngT_get {xs:List Int} {k:Nat} (h:k<xs.length):(ngT xs k).getD k 0=xs.getD k 0:=by
 rw [ngT,List.getD,List.getElem?_append_right (by rw [List.length_map,List.length_take]; omega)]
 simp only [List.length_map,List.length_take,List.getElem?_drop]
 rw [show k+(k-min k xs.length)=k by omega,List.getD]
theorem ngT_set {xs:List Int} {k:Nat} (h:k<xs.length):(ngT xs k).set k (- xs.getD k 0)=ngT xs (k+1):=by
 have hd:xs.drop k=xs.getD k 0::xs.drop (k+1):=by
  rw [List.drop_eq_getElem_cons h,List.getD,List.getElem?_eq_getElem h]; rfl
 have hl:((xs.take k).map (- ·)).length=k:=by rw [List.length_map,List.length_take]; omega
 rw [ngT,hd,List.set_append_right _ _ (by omega),hl,Nat.sub_self,List.set_cons_zero,ngT,List.take_succ,List.map_append,List.getElem?_eq_getElem h,List.append_assoc]
 simp [List.getD,List.getElem?_eq_getElem h]
theorem s86_callW [Tabs Tryd.prog] {args:List Value} {h:Zh} {Q:Value→Zh→Prop} (hsz:args.length≤69) (hk:AWS Tryd.prog 69 s86 (Zu Tryd.prog [.tmp 2,.tmp 3,.tmp 4] Q) (Zt 0 args) h):ACall Tryd.prog 86 args h Q :=
 Xd Tryd.func86 rfl (enters_of Tryd.func86 (by kernel_rfl) rfl) rfl rfl (by decide) s86_strip s86_ok hsz hk
theorem solve_call [Tabs prog] {n:Nat} {h:Zh} {v:Value} {s:List (List Int)} (h6:n≤6) (hl:s.length=n) (hr : ∀ r∈s,r.length=n+1∧∀ y∈r,y=0∨y=1) (hv:RowsI h v s) :
  ACall prog 86 [v] h fun r h'=>Ext (fun _=>False) h h'∧if Bq.pdet n s=0 then r = .tuple #[.slice none 0 0,.int .i64 0,.bool false] else ∃ w,r = .tuple #[w,Zd (Bq.pdet n s).natAbs,.bool true]∧IntSl h' w (numL n s):=by
 have hr1 : ∀ r∈s,n≤r.length∧∀ y∈r,y=0∨y=1:=fun r h=>⟨by rw [(hr r h).1]; omega,(hr r h).2⟩
 have hput : ∀ j r,r∈s→j<n→(Bq.putR n j r).length=n+1∧∀ y∈Bq.putR n j r,y=0∨y=1:=fun j r hm hj=>by
  obtain ⟨e1,e2⟩:=hr r hm
  refine ⟨by rw [Bq.putR,List.length_set,e1],fun y hy=>?_⟩
  rw [Bq.putR] at hy
  rcases List.mem_or_eq_of_mem_set hy with h | h
  · exact e2 y h
  · rw [h,List.getD,List.getElem?_eq_getElem (by omega)]; exact e2 _ (List.getElem_mem _)
 have hpm : ∀ j,j<n→(s.map (Bq.putR n j)).length=n∧∀ r∈s.map (Bq.putR n j),n≤r.length∧∀ y∈r,y=0∨y=1:=fun j hj=>⟨by rw [List.length_map,hl],fun r hm=>by
  obtain ⟨r',h1,rfl⟩:=List.mem_map.1 hm
  obtain ⟨e1,e2⟩:=hput j r' h1 hj
  exact ⟨by omega,e2⟩⟩
 have habs : ∀ j,j<n→(Bq.pdet n (s.map (Bq.putR n j))).natAbs≤720:=fun j hj=>Nat.le_trans (Bq.pdet_abs n _ (hpm j hj).1 fun r h=>((hpm j hj).2 r h).2) (fact_le h6)
 have hab:(Bq.pdet n s).natAbs≤720:=Nat.le_trans (Bq.pdet_abs n _ hl fun r h=>(hr r h).2) (fact_le h6)
 obtain ⟨ws,w1,w2⟩:=id hv
 have hwl:ws.length=n:=w2.len.trans hl
 obtain ⟨d,hd⟩ : ∃ d,Bq.pdet n s=d:=⟨_,rfl⟩
 refine s86_callW (by simp) ?_
 simp only [s86]
 refine Ze fun N1 hN1=>?_
 simp (maxSteps:=2000000) only [↓Za,↓Zb,↓Zc,vup,cond_false,aop,Zg,Zt,ev,sput,Zf,Nat.reduceBEq]
 refine hN1 [(0,v),(2,.slice none 0 0),(3,.int .i64 0),(4,.bool false)] _ _ ?_ (by simp (maxSteps:=2000000) only [vup,cond_true,cond_false,Nat.reduceBEq])
 clear hN1
 try clear N1
 refine Ze fun N2 hN2=>?_
 simp (maxSteps:=2000000) only [↓Za,↓Zb,↓Zc,vup,List.map_cons,List.map_nil,cond_true,cond_false,aop,Zg,ev,sput,Zf,Zi,Nat.reduceBEq,tyf,w1.len,hwl]
 refine hN2 [(0,v),(2,.slice none 0 0),(3,.int .i64 0),(4,.bool false),(5,Zd (n:Nat))] _ _ ?_ (by simp (maxSteps:=2000000) only [vup,cond_true,cond_false,Nat.reduceBEq])
 clear hN2
 try clear N2
 refine Ze fun N3 hN3=>?_
 simp (maxSteps:=2000000) only [↓Za,↓Zb,↓Zc,vup,List.map_cons,List.map_nil,cond_true,cond_false,aop,Zg,ev,sput,Zf,Nat.reduceBEq,Yz,List.nil_append,List.append_nil]
 refine (det_call n h6 hl hr1 hv).mono ?_
 rintro _ h ⟨rfl,rfl⟩
 rw [hd]
 refine hN3 [(0,v),(2,.slice none 0 0),(3,Zd d),(4,.bool false),(5,Zd (n:Nat))] _ _ ?_ (by simp (maxSteps:=2000000) only [vup,cond_true,cond_false,Nat.reduceBEq])
 clear hN3
 try clear N3
 rw [hd] at hab
 refine Zk fun M hM=>?_
 refine Ze fun N4 hN4=>?_
 simp (maxSteps:=2000000) only [↓Za,↓Zb,↓Zc,vup,cond_true,cond_false,aop,Zg,ev,sput,Zf,Zv,Zx,Nat.reduceBEq]
 refine hN4 [(0,v),(2,.slice none 0 0),(3,Zd d),(4,.bool false),(5,Zd (n:Nat)),(17,.bool (d==0))] _ _ ?_ (by simp (maxSteps:=2000000) only [vup,cond_true,cond_false,Nat.reduceBEq])
 clear hN4
 try clear N4
 by_cases hd0:d=0
 · have hb:(d==0)=true:=by rw [hd0]; rfl
   rw [hb]
   refine Yx rfl ?_
   refine Zj ?_
   simp (maxSteps:=2000000) only [↓Za,↓Zp,↓Ya,↓Zb,↓Zc,vup,cond_true,cond_false,aop,Zg,ev,sput,Zf,Nat.reduceBEq,Zu,Xu,tup]
   refine ⟨Ext.refl _ _,by rw [if_pos (hd.trans hd0)]; trivial⟩
 have hb:(d==0)=false:=by rw [beq_eq_false_iff_ne]; exact hd0
 rw [hb]
 refine Yg rfl ?_
 refine Zj ?_
 simp (maxSteps:=2000000) only [↓Zn,Zg]
 refine hM [(0,v),(2,.slice none 0 0),(3,Zd d),(4,.bool false),(5,Zd (n:Nat))] _ _ ?_ (by simp (maxSteps:=2000000) only [vup,cond_true,cond_false,Nat.reduceBEq])
 clear hM
 try clear M
 refine Zk fun Z hZ=>?_
 refine Ze fun N5 hN5=>?_
 simp (maxSteps:=2000000) only [↓Za,↓Zb,↓Zc,vup,cond_true,cond_false,aop,Zg,ev,sput,Zf,Nat.reduceBEq]
 refine hN5 [(0,v),(2,.slice none 0 0),(3,Zd d),(4,.bool false),(5,Zd (n:Nat)),(18,Zd (n:Nat)),(19,.int .i64 0)] _ _ ?_ (by simp (maxSteps:=2000000) only [vup,cond_true,cond_false,Nat.reduceBEq])
 clear hN5
 try clear N5
 refine Zo ?_
 refine Zm fun Q hQ=>?_
 refine Yl (γ:=Nat×Value×Zh) (fun g=>g.1≤n∧RSI h g.2.2 g.2.1 (numT n s g.1))
  (fun g=>([(0,v),(2,g.2.1),(3,Zd d),(4,.bool false),(5,Zd (n:Nat)),(18,Zd (n:Nat)),(19,Zd (g.1:Nat))],g.2.2)) (fun g=>n-g.1) (0,.slice none 0 0,h) ⟨Nat.zero_le _,RSI.nil h⟩ (by simp (maxSteps:=2000000) only [vup,cond_true,cond_false,Nat.reduceBEq,Int.natCast_zero]) rfl ?_
 rintro ⟨j,nv,H⟩ ⟨hj,hnv⟩
 simp only at hj hnv
 have hE:=hnv.2.1
 refine Zm fun Q2 hQ2=>?_
 simp only [l86_1]
 by_cases hjn:(j:Int)<n
 · have hj' : j<n:=by omega
   refine Ze fun N6 hN6=>?_
   simp (maxSteps:=2000000) only [↓Za,↓Zb,↓Zc,vup,cond_true,cond_false,aop,Zg,ev,sput,Zf,Zv,Zx,Nat.reduceBEq,hjn]
   refine hN6 [(0,v),(2,nv),(3,Zd d),(4,.bool false),(5,Zd (n:Nat)),(18,Zd (n:Nat)),(19,Zd (j:Nat)),(20,.bool true)] _ _ ?_ (by simp (maxSteps:=2000000) only [vup,cond_true,cond_false,Nat.reduceBEq])
   clear hN6
   try clear N6
   refine Ze fun N7 hN7=>?_
   simp (maxSteps:=2000000) only [↓Zn,↓vdn,vup,cond_true,cond_false,Zg,ev,Nat.reduceBEq]
   refine hN7 [(0,v),(2,nv),(3,Zd d),(4,.bool false),(5,Zd (n:Nat)),(18,Zd (n:Nat)),(19,Zd (j:Nat))] _ _ ?_ (by simp (maxSteps:=2000000) only [vup,cond_true,cond_false,Nat.reduceBEq])
   clear hN7
   try clear N7
   refine Zk fun B hB=>?_
   refine Zo ?_
   refine Ze fun N8 hN8=>?_
   simp (maxSteps:=2000000) only [↓Za,↓Zb,↓Zc,vup,cond_true,cond_false,aop,Zg,ev,sput,Zf,Nat.reduceBEq]
   refine hN8 [(0,v),(2,nv),(3,Zd d),(4,.bool false),(5,Zd (n:Nat)),(6,Zd (j:Nat)),(18,Zd (n:Nat)),(19,Zd (j:Nat))] _ _ ?_ (by simp (maxSteps:=2000000) only [vup,cond_true,cond_false,Nat.reduceBEq])
   clear hN8
   try clear N8
   refine Ze fun N9 hN9=>?_
   simp (maxSteps:=2000000) only [↓Za,↓Zb,↓Zc,vup,cond_false,aop,Zg,ev,sput,Zf,Nat.reduceBEq]
   refine hN9 [(0,v),(2,nv),(3,Zd d),(4,.bool false),(5,Zd (n:Nat)),(6,Zd (j:Nat)),(7,.slice none 0 0),(18,Zd (n:Nat)),(19,Zd (j:Nat))] _ _ ?_ (by simp (maxSteps:=2000000) only [vup,cond_true,cond_false,Nat.reduceBEq])
   clear hN9
   try clear N9
   refine Zk fun A hA=>?_
   refine Ze fun N10 hN10=>?_
   simp (maxSteps:=2000000) only [↓Za,↓Zb,↓Zc,vup,List.map_cons,List.map_nil,cond_true,cond_false,aop,Zg,ev,sput,Zf,Zi,Nat.reduceBEq,tyf,w1.len,hwl]
   refine hN10 [(0,v),(2,nv),(3,Zd d),(4,.bool false),(5,Zd (n:Nat)),(6,Zd (j:Nat)),(7,.slice none 0 0),(18,Zd (n:Nat)),(19,Zd (j:Nat)),(22,v),(23,Zd (n:Nat)),(24,.int .i64 0)] _ _ ?_ (by simp (maxSteps:=2000000) only [vup,cond_true,cond_false,Nat.reduceBEq])
   clear hN10
   try clear N10
   refine Zo ?_
   refine Zm fun Qa hQa=>?_
   refine Yl (γ:=Nat×Value×Zh) (fun g=>g.1≤n∧OwnL 22 3 g.2.2 g.2.1 ((s.take g.1).map (Bq.putR n j))∧Ext (fun _=>False) H g.2.2∧∀ b,Ye g.2.1=some b→H.length≤b)
    (fun g=>([(0,v),(2,nv),(3,Zd d),(4,.bool false),(5,Zd (n:Nat)),(6,Zd (j:Nat)),(7,g.2.1),(18,Zd (n:Nat)),(19,Zd (j:Nat)),(22,v),(23,Zd (n:Nat)),(24,Zd (g.1:Nat))],g.2.2)) (fun g=>n-g.1) (0,.slice none 0 0,H) ⟨Nat.zero_le _,OwnL.nil,Ext.refl _ _,fun b hb=>by cases hb⟩ (by simp (maxSteps:=2000000) only [vup,cond_true,cond_false,Nat.reduceBEq,Int.natCast_zero]) rfl ?_
   rintro ⟨k,cv,G⟩ ⟨hk,hcv,hEG,hcb⟩
   simp only at hk hcv hEG hcb
   refine Zm fun Qb hQb=>?_
   simp only [l86_0]
   by_cases hkn:(k:Int)<n
   · have hk' : k<n:=by omega
     have hkW:k<ws.length:=by omega
     have hkS:k<s.length:=by omega
     have hEh:Ext (fun _=>False) h G:=hE.trans hEG
     obtain ⟨w,hwd⟩ : ∃ w,w=ws.getD k undef:=⟨_,rfl⟩
     have hw:IntSl G w (s.getD k []):=by
      have:=w2.get undef [] hkS
      rw [← hwd] at this
      exact this.same fun b hb=>hEh.2 b (this.lt hb) id
     have e2:s.getD k []=s[k]'hkS:=by rw [List.getD,List.getElem?_eq_getElem]; rfl
     have hrl:(s.getD k []).length=n+1:=by rw [e2]; exact (hr _ (List.getElem_mem hkS)).1
     have hjr:j<(s.getD k []).length:=by omega
     have hnr:n<(s.getD k []).length:=by omega
     have hnx:(s.take (k+1)).map (Bq.putR n j)=(s.take k).map (Bq.putR n j)++[Bq.putR n j (s.getD k [])]:=by
      rw [List.take_succ,List.getElem?_eq_getElem hkS,Option.toList_some,List.map_append,List.map_singleton,e2]
     refine Ze fun N11 hN11=>?_
     simp (maxSteps:=2000000) only [↓Za,↓Zb,↓Zc,vup,cond_true,cond_false,aop,Zg,ev,sput,Zf,Zv,Zx,Nat.reduceBEq,hkn]
     refine hN11 [(0,v),(2,nv),(3,Zd d),(4,.bool false),(5,Zd (n:Nat)),(6,Zd (j:Nat)),(7,cv),(18,Zd (n:Nat)),(19,Zd (j:Nat)),(22,v),(23,Zd (n:Nat)),(24,Zd (k:Nat)),(25,.bool true)] _ _ ?_ (by simp (maxSteps:=2000000) only [vup,cond_true,cond_false,Nat.reduceBEq])
     clear hN11
     try clear N11
     refine Ze fun N12 hN12=>?_
     simp (maxSteps:=2000000) only [↓Zn,↓vdn,vup,cond_true,cond_false,Zg,ev,Nat.reduceBEq]
     refine hN12 [(0,v),(2,nv),(3,Zd d),(4,.bool false),(5,Zd (n:Nat)),(6,Zd (j:Nat)),(7,cv),(18,Zd (n:Nat)),(19,Zd (j:Nat)),(22,v),(23,Zd (n:Nat)),(24,Zd (k:Nat))] _ _ ?_ (by simp (maxSteps:=2000000) only [vup,cond_true,cond_false,Nat.reduceBEq])
     clear hN12
     try clear N12
     refine Zk fun D hD=>?_
     refine Zo ?_
     refine Ze fun N13 hN13=>?_
     simp (maxSteps:=2000000) only [↓Za,↓Zb,↓Zc,vup,cond_true,cond_false,aop,Zg,ev,sput,Zf,Nat.reduceBEq,w1.idx el_84 esz_22 hkW,(w1.ext hEh).load shp_22 hkW,← hwd]
     refine hN13 [(0,v),(2,nv),(3,Zd d),(4,.bool false),(5,Zd (n:Nat)),(6,Zd (j:Nat)),(7,cv),(9,w),(18,Zd (n:Nat)),(19,Zd (j:Nat)),(22,v),(23,Zd (n:Nat)),(24,Zd (k:Nat))] _ _ ?_ (by simp (maxSteps:=2000000) only [vup,cond_true,cond_false,Nat.reduceBEq])
     clear hN13
     try clear N13
     refine Ze fun N14 hN14=>?_
     simp (maxSteps:=2000000) only [↓Za,↓Zb,↓Zc,vup,List.map_cons,List.map_nil,cond_true,cond_false,aop,Zg,ev,sput,Zf,Nat.reduceBEq,Yz,List.nil_append,List.append_nil]
     refine (clone_rsi hw (fun hc=>by rw [hc] at hrl; simp at hrl) (by omega)).mono ?_
     rintro r G1 hr1
     refine hN14 [(0,v),(2,nv),(3,Zd d),(4,.bool false),(5,Zd (n:Nat)),(6,Zd (j:Nat)),(7,cv),(9,r),(18,Zd (n:Nat)),(19,Zd (j:Nat)),(22,v),(23,Zd (n:Nat)),(24,Zd (k:Nat))] _ _ ?_ (by simp (maxSteps:=2000000) only [vup,cond_true,cond_false,Nat.reduceBEq])
     clear hN14
     try clear N14
     have hE1:=hr1.2.1
     refine Ze fun N15 hN15=>?_
     simp (maxSteps:=2000000) only [↓Za,↓Zb,↓Zc,vup,cond_true,cond_false,aop,Zg,ev,sput,Zf,Nat.reduceBEq,hr1.1.int.idx Xt Xe hnr,hr1.1.int.load Xf hnr,hr1.1.int.idx Xt Xe hjr]
     refine ownSl_store hr1.1 hjr fun G2 hr2 hE2=>?_
     have hEG2:Ext (fun _=>False) G G2:=ext_own hE1 hr1.2.2 hE2
     refine hN15 [(0,v),(2,nv),(3,Zd d),(4,.bool false),(5,Zd (n:Nat)),(6,Zd (j:Nat)),(7,cv),(9,r),(18,Zd (n:Nat)),(19,Zd (j:Nat)),(22,v),(23,Zd (n:Nat)),(24,Zd (k:Nat))] _ _ ?_ (by simp (maxSteps:=2000000) only [vup,cond_true,cond_false,Nat.reduceBEq])
     clear hN15
     try clear N15
     have hr2' : OwnSl 3 G2 r (Bq.putR n j (s.getD k [])):=hr2
     refine Zj ?_
     simp (maxSteps:=2000000) only [↓Za,↓Zb,↓Zc,vup,List.map_cons,List.map_nil,cond_true,cond_false,aop,Zg,Zl,ev,sput,Zf,Zi,Nat.reduceBEq,buildSl1 el_84 zero_22 esz_22 hr2']
     have hval:ValSl (G2++[Blk.cells [r] 22 false]) (.slice (some ⟨G2.length,0,none⟩) 1 1) [r]:=.inr ⟨G2.length,0,none,1,[r],22,false,rfl,Nat.le_refl _,by simp [view,Blk.view],rfl⟩
     have hEa:Ext (fun _=>False) G2 (G2++[Blk.cells [r] 22 false]):=Ext.app _ _ _
     refine OwnL.app ((hcv.ext hEG2).ext hEa) app_84_84 hval (OwnL.single hr2') (by rw [List.length_map,List.length_take,List.length_singleton]; omega) fun cv' G3 ho3 hE3 hb3=>?_
     rw [← hnx] at ho3
     have hEG3:Ext (fun _=>False) H G3:=ext_own ((hEG.trans hEG2).trans hEa) hcb hE3
     have hcb' : ∀ b,Ye cv' = some b→H.length≤b:=fun b hb=>by
      rcases hb3 with h1 | ⟨b',h1,h2⟩
      · exact hcb b (h1▸hb)
      · rw [h1] at hb; cases hb
        rw [List.length_append] at h2
        have:=(hEG.trans hEG2).1; omega
     refine hD [(0,v),(2,nv),(3,Zd d),(4,.bool false),(5,Zd (n:Nat)),(6,Zd (j:Nat)),(7,cv'),(18,Zd (n:Nat)),(19,Zd (j:Nat)),(22,v),(23,Zd (n:Nat)),(24,Zd (k:Nat))] _ _ ?_ (by simp (maxSteps:=2000000) only [vup,cond_true,cond_false,Nat.reduceBEq])
     clear hD
     try clear D
     refine Zj ?_
     simp (maxSteps:=2000000) only [↓Za,↓Zb,↓Zc,vup,cond_true,cond_false,aop,ev,sput,Zf,Zv,Zx,Nat.reduceBEq,Wx (show k<9223372036854775807 by omega)]
     exact hQb _ _ _ ⟨(k+1,cv',G3),⟨hk',ho3,hEG3,hcb'⟩,by simp only; omega,by simp (maxSteps:=2000000) only [vup,cond_true,cond_false,Nat.reduceBEq],rfl⟩
   obtain rfl:n=k:=by omega
   refine Ze fun N16 hN16=>?_
   simp (maxSteps:=2000000) only [↓Za,↓Zb,↓Zc,vup,cond_true,cond_false,aop,Zg,ev,sput,Zf,Zv,Zx,Nat.reduceBEq,hkn]
   refine hN16 [(0,v),(2,nv),(3,Zd d),(4,.bool false),(5,Zd (n:Nat)),(6,Zd (j:Nat)),(7,cv),(18,Zd (n:Nat)),(19,Zd (j:Nat)),(22,v),(23,Zd (n:Nat)),(24,Zd (n:Nat)),(25,.bool false)] _ _ ?_ (by simp (maxSteps:=2000000) only [vup,cond_true,cond_false,Nat.reduceBEq])
   clear hN16
   try clear N16
   refine Ze fun N17 hN17=>?_
   simp (maxSteps:=2000000) only [↓Yi,↓vdn,vup,cond_true,cond_false,Zg,ev,Nat.reduceBEq]
   refine hQb _ _ _ (hQa _ _ _ ?_)
   simp (maxSteps:=2000000) only [Zg,Zl,if_true]
   rw [← hl,List.take_length,hl] at hcv
   refine hA [(0,v),(2,nv),(3,Zd d),(4,.bool false),(5,Zd (n:Nat)),(6,Zd (j:Nat)),(7,cv),(18,Zd (n:Nat)),(19,Zd (j:Nat))] _ _ ?_ (by simp (maxSteps:=2000000) only [vup,cond_true,cond_false,Nat.reduceBEq])
   clear hA
   try clear A
   clear hQa hQb
   refine Zj ?_
   have hdj:=det_call n (h:=G) (v:=cv) (s:=s.map (Bq.putR n j)) h6 (hpm j hj').1 (hpm j hj').2 (rowsI_of hcv)
   simp (maxSteps:=2000000) only [↓Za,↓Zb,↓Zc,vup,List.map_cons,List.map_nil,cond_true,cond_false,aop,Zg,Zl,ev,sput,Zf,Zi,Nat.reduceBEq,Yz,List.nil_append,List.append_nil]
   refine (hdj).mono ?_
   rintro _ G ⟨rfl,rfl⟩
   simp (maxSteps:=2000000) only [litI1]
   refine (hnv.ext hEG).push (by rw [numT_len]; omega) fun nv' G' hnv'=>?_
   rw [← numT_succ] at hnv'
   refine hB [(0,v),(2,nv'),(3,Zd d),(4,.bool false),(5,Zd (n:Nat)),(18,Zd (n:Nat)),(19,Zd (j:Nat))] _ _ ?_ (by simp (maxSteps:=2000000) only [vup,cond_true,cond_false,Nat.reduceBEq])
   clear hB
   try clear B
   refine Zj ?_
   simp (maxSteps:=2000000) only [↓Za,↓Zb,↓Zc,vup,cond_true,cond_false,aop,ev,sput,Zf,Zv,Zx,Nat.reduceBEq,Wx (show j<9223372036854775807 by omega)]
   exact hQ2 _ _ _ ⟨(j+1,nv',G'),⟨hj',hnv'⟩,by simp only; omega,by simp (maxSteps:=2000000) only [vup,cond_true,cond_false,Nat.reduceBEq],rfl⟩
 obtain rfl:n=j:=by omega
 refine Ze fun N18 hN18=>?_
 simp (maxSteps:=2000000) only [↓Za,↓Zb,↓Zc,vup,cond_true,cond_false,aop,Zg,ev,sput,Zf,Zv,Zx,Nat.reduceBEq,hjn]
 refine hN18 [(0,v),(2,nv),(3,Zd d),(4,.bool false),(5,Zd (n:Nat)),(18,Zd (n:Nat)),(19,Zd (n:Nat)),(20,.bool false)] _ _ ?_ (by simp (maxSteps:=2000000) only [vup,cond_true,cond_false,Nat.reduceBEq])
 clear hN18
 try clear N18
 refine Ze fun N19 hN19=>?_
 simp (maxSteps:=2000000) only [↓Yi,↓vdn,vup,cond_true,cond_false,Zg,ev,Nat.reduceBEq]
 refine hQ2 _ _ _ (hQ _ _ _ ?_)
 simp (maxSteps:=2000000) only [Zg,Zl,Zu,if_true]
 refine hZ [(0,v),(2,nv),(3,Zd d),(4,.bool false),(5,Zd (n:Nat))] _ _ ?_ (by simp (maxSteps:=2000000) only [vup,cond_true,cond_false,Nat.reduceBEq])
 clear hZ
 try clear Z
 clear hQ hQ2
 have hEH:=hnv.2.1
 have hdne:Bq.pdet n s≠0:=fun h=>hd0 (hd▸h)
 by_cases hneg:d<0
 · have hsg:subV .i64 0 d = - d:=by rw [Vk (by omega) (by omega)]; omega
   have hnl:numL n s=(numT n s n).map (- ·):=by rw [numL,if_pos (by rw [hd]; exact hneg)]
   have hna:((d.natAbs:Nat):Int) = - d:=by omega
   refine Zk fun M hM=>?_
   refine Ze fun N20 hN20=>?_
   simp (maxSteps:=2000000) only [↓Za,↓Zb,↓Zc,vup,cond_true,cond_false,aop,Zg,ev,sput,Zf,Zv,Zx,Nat.reduceBEq,hneg]
   refine hN20 [(0,v),(2,nv),(3,Zd d),(4,.bool false),(5,Zd (n:Nat)),(50,.bool true)] _ _ ?_ (by simp (maxSteps:=2000000) only [vup,cond_true,cond_false,Nat.reduceBEq])
   clear hN20
   try clear N20
   refine Yx rfl ?_
   refine Ze fun N21 hN21=>?_
   simp (maxSteps:=2000000) only [↓Za,↓Zb,↓Zc,vup,cond_true,cond_false,aop,Zg,ev,sput,Zf,unK,Nat.reduceBEq,hsg]
   refine hN21 [(0,v),(2,nv),(3,Zd (-d)),(4,.bool false),(5,Zd (n:Nat)),(50,.bool true)] _ _ ?_ (by simp (maxSteps:=2000000) only [vup,cond_true,cond_false,Nat.reduceBEq])
   clear hN21
   try clear N21
   refine Ze fun N22 hN22=>?_
   simp (maxSteps:=2000000) only [↓Za,↓Zb,↓Zc,vup,List.map_cons,List.map_nil,cond_true,cond_false,aop,Zg,ev,sput,Zf,Zi,Nat.reduceBEq,tyf,hnv.1.int.len,numT_len]
   refine hN22 [(0,v),(2,nv),(3,Zd (-d)),(4,.bool false),(5,Zd (n:Nat)),(50,.bool true),(53,nv),(54,Zd (n:Nat)),(55,.int .i64 0)] _ _ ?_ (by simp (maxSteps:=2000000) only [vup,cond_true,cond_false,Nat.reduceBEq])
   clear hN22
   try clear N22
   refine Zo ?_
   refine Zm fun Q hQ=>?_
   refine Yl (γ:=Nat×Zh) (fun g=>g.1≤n∧OwnSl 3 g.2 nv (ngT (numT n s n) g.1)∧Ext (fun _=>False) h g.2)
    (fun g=>([(0,v),(2,nv),(3,Zd (-d)),(4,.bool false),(5,Zd (n:Nat)),(50,.bool true),(53,nv),(54,Zd (n:Nat)),(55,Zd (g.1:Nat))],g.2)) (fun g=>n-g.1) (0,H) ⟨Nat.zero_le _,by simp only [ngT,List.take_zero,List.map_nil,List.nil_append,List.drop_zero]; exact hnv.1,hEH⟩ (by simp (maxSteps:=2000000) only [vup,cond_true,cond_false,Nat.reduceBEq,Int.natCast_zero]) rfl ?_
   rintro ⟨k,G⟩ ⟨hk,ho,hEG⟩
   simp only at hk ho hEG
   refine Zm fun Q2 hQ2=>?_
   simp only [l86_2]
   by_cases hkn:(k:Int)<n
   · have hk' : k<n:=by omega
     have hkT:k<(numT n s n).length:=by rw [numT_len]; exact hk'
     have hkN:k<(ngT (numT n s n) k).length:=by rw [ngT_len]; exact hkT
     have hb1:=habs k hk'
     have hsg2:subV .i64 0 (Bq.pdet n (s.map (Bq.putR n k))) = - Bq.pdet n (s.map (Bq.putR n k)):=by rw [Vk (by omega) (by omega)]; omega
     have hset:=ngT_set hkT
     rw [numT_get hk'] at hset
     refine Ze fun N23 hN23=>?_
     simp (maxSteps:=2000000) only [↓Za,↓Zb,↓Zc,vup,cond_true,cond_false,aop,Zg,ev,sput,Zf,Zv,Zx,Nat.reduceBEq,hkn]
     refine hN23 [(0,v),(2,nv),(3,Zd (-d)),(4,.bool false),(5,Zd (n:Nat)),(50,.bool true),(53,nv),(54,Zd (n:Nat)),(55,Zd (k:Nat)),(56,.bool true)] _ _ ?_ (by simp (maxSteps:=2000000) only [vup,cond_true,cond_false,Nat.reduceBEq])
     clear hN23
     try clear N23
     refine Ze fun N24 hN24=>?_
     simp (maxSteps:=2000000) only [↓Zn,↓vdn,vup,cond_true,cond_false,Zg,ev,Nat.reduceBEq]
     refine hN24 [(0,v),(2,nv),(3,Zd (-d)),(4,.bool false),(5,Zd (n:Nat)),(50,.bool true),(53,nv),(54,Zd (n:Nat)),(55,Zd (k:Nat))] _ _ ?_ (by simp (maxSteps:=2000000) only [vup,cond_true,cond_false,Nat.reduceBEq])
     clear hN24
     try clear N24
     refine Zk fun B hB=>?_
     refine Zo ?_
     refine Ze fun N25 hN25=>?_
     simp (maxSteps:=2000000) only [↓Za,↓Zb,↓Zc,vup,cond_true,cond_false,aop,Zg,ev,sput,Zf,Nat.reduceBEq]
     refine hN25 [(0,v),(2,nv),(3,Zd (-d)),(4,.bool false),(5,Zd (n:Nat)),(10,Zd (k:Nat)),(50,.bool true),(53,nv),(54,Zd (n:Nat)),(55,Zd (k:Nat))] _ _ ?_ (by simp (maxSteps:=2000000) only [vup,cond_true,cond_false,Nat.reduceBEq])
     clear hN25
     try clear N25
     refine Zj ?_
     simp (maxSteps:=2000000) only [↓Za,↓Zb,↓Zc,vup,cond_true,cond_false,aop,Zg,Zl,ev,sput,Zf,unK,Nat.reduceBEq,ho.int.idx Xt Xe hkN,ho.int.load Xf hkN,ngT_get hkT,numT_get hk',hsg2]
     refine ownSl_store ho hkN fun G2 ho2 hE2=>?_
     rw [hset] at ho2
     refine hB [(0,v),(2,nv),(3,Zd (-d)),(4,.bool false),(5,Zd (n:Nat)),(50,.bool true),(53,nv),(54,Zd (n:Nat)),(55,Zd (k:Nat))] _ _ ?_ (by simp (maxSteps:=2000000) only [vup,cond_true,cond_false,Nat.reduceBEq])
     clear hB
     try clear B
     refine Zj ?_
     simp (maxSteps:=2000000) only [↓Za,↓Zb,↓Zc,vup,cond_true,cond_false,aop,ev,sput,Zf,Zv,Zx,Nat.reduceBEq,Wx (show k<9223372036854775807 by omega)]
     exact hQ2 _ _ _ ⟨(k+1,G2),⟨hk',ho2,ext_own hEG hnv.2.2 hE2⟩,by simp only; omega,by simp (maxSteps:=2000000) only [vup,cond_true,cond_false,Nat.reduceBEq],rfl⟩
   obtain rfl:n=k:=by omega
   refine Ze fun N26 hN26=>?_
   simp (maxSteps:=2000000) only [↓Za,↓Zb,↓Zc,vup,cond_true,cond_false,aop,Zg,ev,sput,Zf,Zv,Zx,Nat.reduceBEq,hkn]
   refine hN26 [(0,v),(2,nv),(3,Zd (-d)),(4,.bool false),(5,Zd (n:Nat)),(50,.bool true),(53,nv),(54,Zd (n:Nat)),(55,Zd (n:Nat)),(56,.bool false)] _ _ ?_ (by simp (maxSteps:=2000000) only [vup,cond_true,cond_false,Nat.reduceBEq])
   clear hN26
   try clear N26
   refine Ze fun N27 hN27=>?_
   simp (maxSteps:=2000000) only [↓Yi,↓vdn,vup,cond_true,cond_false,Zg,ev,Nat.reduceBEq]
   refine hQ2 _ _ _ (hQ _ _ _ ?_)
   simp (maxSteps:=2000000) only [Zg,Zl,Zu,if_true]
   have hall:ngT (numT n s n) n=numL n s:=by
    rw [hnl,ngT,List.take_of_length_le (by rw [numT_len]; exact Nat.le_refl _),List.drop_eq_nil_of_le (by rw [numT_len]; exact Nat.le_refl _),List.append_nil]
   rw [hall] at ho
   refine hM [(0,v),(2,nv),(3,Zd (-d)),(4,.bool false),(5,Zd (n:Nat))] _ _ ?_ (by simp (maxSteps:=2000000) only [vup,cond_true,cond_false,Nat.reduceBEq])
   clear hM
   try clear M
   refine Zj ?_
   simp (maxSteps:=2000000) only [↓Za,↓Zp,↓Ya,↓Zb,↓Zc,vup,cond_true,cond_false,aop,Zg,ev,sput,Zf,Nat.reduceBEq,Zu,Xu,tup]
   refine ⟨hEG,?_⟩
   rw [if_neg hdne,hd,hna]
   exact ⟨nv,rfl,ho.int⟩
 · have hna:((d.natAbs:Nat):Int)=d:=by omega
   refine Zk fun M hM=>?_
   refine Ze fun N28 hN28=>?_
   simp (maxSteps:=2000000) only [↓Za,↓Zb,↓Zc,vup,cond_true,cond_false,aop,Zg,ev,sput,Zf,Zv,Zx,Nat.reduceBEq,hneg]
   refine hN28 [(0,v),(2,nv),(3,Zd d),(4,.bool false),(5,Zd (n:Nat)),(50,.bool false)] _ _ ?_ (by simp (maxSteps:=2000000) only [vup,cond_true,cond_false,Nat.reduceBEq])
   clear hN28
   try clear N28
   refine Yg rfl ?_
   refine Zj ?_
   simp (maxSteps:=2000000) only [↓Zn,Zg]
   refine hM [(0,v),(2,nv),(3,Zd d),(4,.bool false),(5,Zd (n:Nat))] _ _ ?_ (by simp (maxSteps:=2000000) only [vup,cond_true,cond_false,Nat.reduceBEq])
   clear hM
   try clear M
   refine Zj ?_
   simp (maxSteps:=2000000) only [↓Za,↓Zp,↓Ya,↓Zb,↓Zc,vup,cond_true,cond_false,aop,Zg,ev,sput,Zf,Nat.reduceBEq,Zu,Xu,tup]
   refine ⟨hEH,?_⟩
   rw [if_neg hdne,hd,hna,numL,if_neg (by rw [hd]; exact hneg)]
   exact ⟨nv,rfl,hnv.1.int⟩
end Go.Proofs.Tryd.Am
namespace Go.Proofs.Tryd.Am
open Go.Am Bq
set_option maxRecDepth 100000
set_option maxHeartbeats 1000000
theorem set_new (h:Zh) (A B:Blk):(h++[A]).set h.length B=h++[B]:=by
 rw [List.set_append_right _ _ (Nat.le_refl _)]; simp
def frV (x y:Int):Value:=.agg #[Zd x,Zd y]
def qV (q:Rat):Value:=frV q.num q.den
theorem low_frV (x y:Int):Low (frV x y):=.agg fun w hw=>by
 simp at hw; rcases hw with rfl | rfl <;> exact .int _ _
theorem Vj {h:Zh} {b:Nat} {x y:Int} {e:TypeId} {ro:Bool} {K:Value→Prop} (hb:h[b]? = some (.cells [Zd x,Zd y] e ro)):Xq prog h 44 (.pointer (some ⟨b,0,none⟩)) K=K (.agg #[Zd x,Zd y]) :=
 loadA hb (by rw [shp_44]; rfl)
theorem loadF0 {h:Zh} {b:Nat} {x y:Int} {e:TypeId} {ro:Bool} {K:Value→Prop} (hb:h[b]? = some (.cells [Zd x,Zd y] e ro)):Xq prog h 3 (.pointer (some ⟨b,0,none⟩)) K=K (Zd x):=loadC hb Xf rfl
theorem loadF1 {h:Zh} {b:Nat} {x y:Int} {e:TypeId} {ro:Bool} {K:Value→Prop} (hb:h[b]? = some (.cells [Zd x,Zd y] e ro)):Xq prog h 3 (.pointer (some ⟨b,1,none⟩)) K=K (Zd y):=loadC hb Xf rfl
theorem Wy {h:Zh} {b:Nat} {x y:Int} {e:TypeId} {c:List Value} {K:Zh→Prop} (hb:h[b]? = some (.cells c e false)) (hc:c.length=2):Xh prog h 44 (.pointer (some ⟨b,0,none⟩)) (.agg #[Zd x,Zd y]) K=K (h.set b (.cells [Zd x,Zd y] e false)) :=
 storeA (vs:=[Zd x,Zd y]) hb (by rw [shp_44]; rfl) rfl (by rw [hc]; rfl)
theorem bldF {x y:Int} {K:Value→Prop}:Va prog 44 [(0,Zd x),(1,Zd y)] K=K (.agg #[Zd x,Zd y]):=by
 simp [Va,zero_44,fillL,pl_44_0,pl_44_1,Wl,cellsOf,Yh]
theorem bldF0 {K:Value→Prop}:Va prog 44 [] K=K (.agg #[Zd 0,Zd 0]):=by
 simp [Va,zero_44,fillL,pl_44_0]
theorem boxF {h:Zh} {x y:Int} {K:Value→Zh→Prop}:boxK prog h 44 (.agg #[Zd x,Zd y]) K=K (Xc h) (h++[.cells [Zd x,Zd y] 44 false]):=by
 simp [boxK,esz_44,Xc,cellsOf]
theorem fA0 {b:Nat} {K:Value→Prop}:Xk prog 44 (.pointer (some ⟨b,0,none⟩)) 0 K=K (.pointer (some ⟨b,0,none⟩)):=fldA fld_44_0 Xe
theorem fA1 {b:Nat} {K:Value→Prop}:Xk prog 44 (.pointer (some ⟨b,0,none⟩)) 1 K=K (.pointer (some ⟨b,1,none⟩)):=fldA fld_44_1 Xe
noncomputable def okF (p:Field×Nat):Bool:=p.1.name != "_" && (match prog.underlying p.1.type with | some (.int .i64)=>true | _=>false)&&p.1.offset==p.2
theorem eqF [Tabs prog]:EqT prog 44 2:=eqT_struct (by kernel_rfl) (by kernel_rfl) (by kernel_rfl) (fun j f hf=>by
 have h4:(prog.fieldsOf 44).toList.zipIdx.all okF=true:=by kernel_rfl
 have h5:=List.all_eq_true.1 h4 (f,j) (by rw [List.mem_zipIdx_iff_getElem?]; exact hf)
 simp only [okF,Bool.and_eq_true,bne_iff_ne,beq_iff_eq] at h5
 refine ⟨h5.1.1,?_,h5.2⟩
 have h6:=h5.1.2
 split at h6
 · assumption
 · cases h6) (by kernel_rfl)
theorem quo_dvd {x y:Int} (hx:x.natAbs<9223372036854775808) (hd:y∣x):quoV .i64 x y=x / y:=by
 rw [quoV,Int.tdiv_eq_ediv_of_dvd hd]
 have h1:(x / y).natAbs≤x.natAbs:=by
  obtain ⟨t,rfl⟩:=hd
  rcases Int.lt_trichotomy y 0 with h | h | h
  · rw [Int.mul_ediv_cancel_left _ (by omega),Int.natAbs_mul]; exact Nat.le_mul_of_pos_left _ (by omega)
  · subst h; simp
  · rw [Int.mul_ediv_cancel_left _ (by omega),Int.natAbs_mul]; exact Nat.le_mul_of_pos_left _ (by omega)
 exact wrap_id (by omega) (by omega)
theorem tmod_abs (x:Int) {y:Int} (hy:y≠0):(x.tmod y).natAbs<y.natAbs:=by
 rw [Int.natAbs_tmod]; exact Nat.mod_lt _ (by omega)
theorem gcd_tmod (x y:Int):Nat.gcd y.natAbs (x.tmod y).natAbs=Nat.gcd x.natAbs y.natAbs:=by
 rw [Int.natAbs_tmod,Nat.gcd_comm y.natAbs,← Nat.gcd_rec,Nat.gcd_comm]
theorem max_abs {x:Int} (hx:x.natAbs<9223372036854775808):(if subV .i64 0 x > x then subV .i64 0 x else x)=(x.natAbs:Int):=by
 rw [Vk (by omega) (by omega)]; split <;> omega
theorem gcd_call [Tabs prog] {h:Zh} {a b:Int} (ha:a.natAbs<9223372036854775808∨b≠0) (hb2:b.natAbs<9223372036854775808):Wo prog 90 [Zd a,Zd b] h (Zd (Nat.gcd a.natAbs b.natAbs:Nat)):=by
 refine s90_call (by simp) ?_
 simp only [s90]
 simp (maxSteps:=2000000) only [↓Za,↓Zp,↓Yt,↓Zb,↓Zc,vup,cond_false,aop,Zg,Zt,ev,sput,Zf,Nat.reduceBEq,Nat.reduceAdd,↓Xr]
 refine Zm fun Q hQ=>?_
 refine aw_loop (γ:=Int×Int) (fun s=>Nat.gcd s.1.natAbs s.2.natAbs=Nat.gcd a.natAbs b.natAbs∧(s.1.natAbs<9223372036854775808∨s.2≠0)∧s.2.natAbs<9223372036854775808)
  (fun s=>([(0,Zd s.1),(1,Zd s.2),(4,.int .i64 0)],h)) (fun s=>s.2.natAbs) (a,b) ⟨rfl,ha,hb2⟩ (by simp (maxSteps:=2000000) only [vup,cond_true,cond_false,Nat.reduceBEq]) rfl ?_
 rintro ⟨x,y⟩ ⟨hxy,hx,hy⟩
 simp only at hxy hx hy
 refine aw_hide fun Q2 hQ2=>?_
 by_cases hy0:y=0
 · subst hy0
   have e0:((0:Int) != 0)=false:=rfl
   rw [Int.natAbs_zero,Nat.gcd_zero_right] at hxy
   have hx' : x.natAbs<9223372036854775808:=hx.resolve_right (by simp)
   simp (maxSteps:=2000000) only [↓Za,↓Zp,↓Yi,↓Zb,↓Zc,↓vdn,vup,cond_true,cond_false,aop,Zg,ev,sput,Zf,Zv,Zx,Nat.reduceBEq,l90_0,e0]
   refine hQ2 _ _ _ (hQ _ _ _ ?_)
   simp (maxSteps:=2000000) only [↓Za,↓Zp,↓Ya,↓Zb,↓Zc,vup,List.map_cons,List.map_nil,cond_true,cond_false,aop,Zg,Zl,ev,sput,Zf,unK,Zi,Nat.reduceBEq,Zu,Xu,tup,if_true,mmK,max_abs hx',hxy]
 · have e0:(y != 0)=true:=by simpa using hy0
   simp (maxSteps:=2000000) only [↓Za,↓Zn,↓Zp,↓Yt,↓Zb,↓Zc,↓vdn,vup,cond_true,cond_false,aop,Zg,ev,sput,Zf,Zv,Zx,Nat.reduceBEq,l90_0,e0]
   refine Xp [] (by kernel_rfl) (by kernel_rfl) (by kernel_rfl) (by kernel_rfl) ?_
   simp (maxSteps:=2000000) only [↓Yw,↓vdn,vup,cond_true,cond_false,aop,Zl,ev,sput,Zf,Zv,Zx,Nat.reduceBEq,ne_eq,hy0,not_false_eq_true]
   have hlt:=tmod_abs x hy0
   exact hQ2 _ _ _ ⟨(y,x.tmod y),⟨by simp only; rw [gcd_tmod,hxy],.inl hy,by simp only; omega⟩,hlt,by simp (maxSteps:=2000000) only [vup,cond_true,cond_false,Nat.reduceBEq],rfl⟩
theorem terms {x:Int} {n:Nat} (hn:0<n):x / ((Nat.gcd x.natAbs n:Nat):Int)=(Rat.divInt x n).num∧((n / Nat.gcd x.natAbs n:Nat):Int)=(Rat.divInt x n).den:=by
 rw [Rat.divInt_ofNat,Rat.num_mkRat,Rat.den_mkRat,if_neg (by omega),if_neg (by omega),Nat.gcd_comm n]
 exact ⟨rfl,rfl⟩
theorem gcd_dvd_int (x:Int) (n:Nat):((Nat.gcd x.natAbs n:Nat):Int)∣x:=Int.dvd_natAbs.1 (Int.natCast_dvd_natCast.2 (Nat.gcd_dvd_left _ _))
theorem s88_callW [Tabs Tryd.prog] {args:List Value} {h:Zh} {Q:Value→Zh→Prop} (hsz:args.length≤22) (hk:AWS Tryd.prog 22 s88 (Zu Tryd.prog [.cell 4 44] Q) (Zt 0 args) h):ACall Tryd.prog 88 args h Q :=
 Xd Tryd.func88 rfl (enters_of Tryd.func88 (by kernel_rfl) rfl) rfl rfl (by decide) s88_strip s88_ok hsz hk
theorem frac_call [Tabs prog] {h:Zh} {a b:Int} (hb:b≠0) (ha:a.natAbs<9223372036854775808) (hb2:b.natAbs<9223372036854775808):Wo prog 88 [Zd a,Zd b] h (qV (Rat.divInt a b)):=by
 have c0:=Yp h (Blk.cells [.int .i64 0,.int .i64 0] 44 false)
 have hE0:Ext (fun _=>False) h (h++[Blk.cells [.int .i64 0,.int .i64 0] 44 false]):=Ext.app _ _ _
 obtain ⟨x,n,hn,hx,hn2,hq,hneg,hpos⟩ : ∃ (x:Int) (n:Nat),0<n∧x.natAbs<9223372036854775808∧n<9223372036854775808∧Rat.divInt x n=Rat.divInt a b∧(b<0→subV .i64 0 a=x∧subV .i64 0 b=n)∧(¬ b<0→a=x∧b=n):=by
  by_cases h0:b<0
  · refine ⟨-a,b.natAbs,by omega,by omega,hb2,?_,fun _=>⟨?_,?_⟩,fun h=>absurd h0 h⟩
    · rw [show ((b.natAbs:Nat):Int) = -b by omega]; exact Rat.neg_divInt_neg a b
    · rw [Vk (by omega) (by omega)]; omega
    · rw [Vk (by omega) (by omega)]; omega
  · exact ⟨a,b.natAbs,by omega,ha,hb2,by rw [show ((b.natAbs:Nat):Int)=b by omega],fun h=>absurd h h0,fun _=>⟨rfl,by omega⟩⟩
 refine ACall.forget (low_frV _ _) ?_
 refine s88_callW (by simp) ?_
 simp only [s88]
 refine Ze fun N1 hN1=>?_
 simp (maxSteps:=2000000) only [↓Za,↓Zb,↓Zc,vup,cond_false,aop,Zg,Zt,sput,Zf,Nat.reduceBEq,Nat.reduceAdd,tyf,Xv,Xc]
 refine hN1 [(0,Zd a),(1,Zd b),(4,.pointer (some ⟨h.length,0,none⟩))] _ _ ?_ (by simp (maxSteps:=2000000) only [vup,cond_true,cond_false,Nat.reduceBEq])
 clear hN1
 try clear N1
 refine Ze fun M hM=>?_
 have key : ∀ e,ELe e [(0,Zd x),(1,Zd (n:Int)),(4,.pointer (some ⟨h.length,0,none⟩))]→M e (h++[Blk.cells [.int .i64 0,.int .i64 0] 44 false]):=by
  intro e he
  refine hM [(0,Zd x),(1,Zd (n:Int)),(4,.pointer (some ⟨h.length,0,none⟩))] _ _ ?_ he
  refine Ze fun N2 hN2=>?_
  simp (maxSteps:=2000000) only [↓Za,↓Zb,↓Zc,vup,List.map_cons,List.map_nil,cond_true,cond_false,aop,Zg,ev,sput,Zf,Nat.reduceBEq,Yz,List.nil_append,List.append_nil]
  refine (gcd_call (.inl hx) (by omega)).mono ?_
  rintro _ _ ⟨rfl,rfl⟩
  rw [Int.natAbs_natCast]
  refine hN2 [(0,Zd x),(1,Zd (n:Int)),(4,.pointer (some ⟨h.length,0,none⟩)),(5,Zd (Nat.gcd x.natAbs n:Nat))] _ _ ?_ (by simp (maxSteps:=2000000) only [vup,cond_true,cond_false,Nat.reduceBEq])
  clear hN2
  try clear N2
  have hg : ¬ ((Nat.gcd x.natAbs n:Nat):Int)=0:=by have:=Nat.gcd_pos_of_pos_right x.natAbs hn; omega
  have q1:quoV .i64 x ((Nat.gcd x.natAbs n:Nat):Int)=(Rat.divInt a b).num:=by rw [quo_dvd hx (gcd_dvd_int _ _),(terms hn).1,hq]
  have q2:quoV .i64 (n:Int) ((Nat.gcd x.natAbs n:Nat):Int)=(Rat.divInt a b).den:=by
   rw [quo_dvd (by omega) (Int.natCast_dvd_natCast.2 (Nat.gcd_dvd_right _ _)),← hq,← (terms hn).2,Int.natCast_ediv]
  refine Zj ?_
  simp only [q88_4]
  refine aw_cut fun N hN=>?_
  refine Xp [] (by kernel_rfl) (by kernel_rfl) (by kernel_rfl) (by kernel_rfl) ?_
  simp (maxSteps:=2000000) only [↓Yw,↓vdn,vup,List.map_cons,List.map_nil,cond_true,cond_false,aop,Zg,ev,sput,Zf,Zv,Zx,Nat.reduceBEq,ne_eq,hg,not_false_eq_true,q1,q2,bldF,Wy c0 rfl]
  refine hN _ _ ?_
  simp (maxSteps:=2000000) only [↓Ya,vup,cond_true,cond_false,Nat.reduceBEq,Zu,Xu,tup,Vj (Xj (h:=h++[Blk.cells [.int .i64 0,.int .i64 0] 44 false]) (b:=h.length) (by simp) _)]
  exact ⟨rfl,hE0.set_ge (Nat.le_refl _) _⟩
 by_cases hb0:b<0
 · simp (maxSteps:=2000000) only [↓Za,↓Zp,↓Zb,↓Zc,↓vdn,vup,cond_true,cond_false,aop,Zg,ev,sput,Zf,Zv,Zx,unK,Nat.reduceBEq,hb0,(hneg hb0).1,(hneg hb0).2]
   exact key _ (by simp (maxSteps:=2000000) only [vup,cond_true,cond_false,Nat.reduceBEq])
 · simp (maxSteps:=2000000) only [↓Za,↓Zn,↓Zp,↓Zb,↓Zc,↓vdn,vup,cond_true,cond_false,aop,Zg,ev,sput,Zf,Zv,Zx,Nat.reduceBEq,hb0]
   exact key _ (by simp (maxSteps:=2000000) only [vup,cond_true,cond_false,Nat.reduceBEq,(hpos hb0).1,(hpos hb0).2])
theorem less_call [Tabs prog] {h:Zh} {a b c d:Int} (h1 : -9223372036854775808≤a*d∧a*d<9223372036854775808) (h2 : -9223372036854775808≤c*b∧c*b<9223372036854775808):Wo prog 66 [frV a b,frV c d] h (.bool (decide (a*d<c*b))):=by
 refine ACall.forget (.bool _) ?_
 have e1:=Vc (Yp h (Blk.cells [Zd a,Zd b] 44 false)) [Blk.cells [Zd c,Zd d] 44 false]
 have e2:=Yp (h++[Blk.cells [Zd a,Zd b] 44 false]) (Blk.cells [Zd c,Zd d] 44 false)
 have hE:Ext (fun _=>False) h (h++[Blk.cells [Zd a,Zd b] 44 false]++[Blk.cells [Zd c,Zd d] 44 false]):=(Ext.app _ _ _).trans (Ext.app _ _ _)
 refine s66_call (by simp) ?_
 simp only [s66,frV]
 simp (maxSteps:=2000000) only [↓Za,↓Zp,↓Ya,↓Zb,↓Zc,vup,cond_true,cond_false,aop,Zg,Zt,ev,sput,Zf,Zv,Zx,Nat.reduceBEq,Nat.reduceAdd,Zu,Xu,tup,tyf,boxF,Xc,fA0,fA1,loadF0 e1,loadF1 e1,loadF0 e2,loadF1 e2,mulV_id h1.1 h1.2,mulV_id h2.1 h2.2]
 exact hE
end Go.Proofs.Tryd.Am
namespace Go.Proofs.Tryd.Am
open Go.Am
set_option maxRecDepth 100000
set_option maxHeartbeats 4000000
def idxF (p:Int→Bool) (xs:List Int):Int:=if xs.any p then ((xs.findIdx p:Nat):Int) else -1
theorem s98_callW [Tabs Tryd.prog] {args:List Value} {h:Zh} {Q:Value→Zh→Prop} (hsz:args.length≤19) (hk:AWS Tryd.prog 19 s98 (Zu Tryd.prog [.tmp 4] Q) (Zt 0 args) h):ACall Tryd.prog 98 args h Q :=
 Xd Tryd.func98 rfl (enters_of Tryd.func98 (by kernel_rfl) rfl) rfl rfl (by decide) s98_strip s98_ok hsz hk
theorem index_call [Tabs prog] {h:Zh} {v:Value} {xs:List Int} {g:FuncId} {caps:Array Value} {p:Int→Bool} (hv:IntSl h v xs) (hl:xs.length<9223372036854775807) (hp : ∀ x∈xs,Wo prog g (Zd x::caps.toList) h (.bool (p x))) :
  Wo prog 98 [v,.func (.func g) #[] caps] h (Zd (idxF p xs)):=by
 refine s98_callW (by simp) ?_
 simp only [s98]
 refine Ze fun N1 hN1=>?_
 simp (maxSteps:=2000000) only [↓Za,↓Zb,↓Zc,vup,cond_false,aop,Zg,Zt,ev,sput,Zf,Nat.reduceBEq,Nat.reduceAdd]
 refine hN1 [(0,v),(1,.func (.func g) #[] caps),(4,.int .i64 0)] _ _ ?_ (by simp (maxSteps:=2000000) only [vup,cond_true,cond_false,Nat.reduceBEq])
 clear hN1
 try clear N1
 refine Zk fun Z hZ=>?_
 refine Ze fun N2 hN2=>?_
 simp (maxSteps:=2000000) only [↓Za,↓Zb,↓Zc,vup,List.map_cons,List.map_nil,cond_true,cond_false,aop,Zg,ev,sput,Zf,Zi,Nat.reduceBEq,tyf,hv.len]
 refine hN2 [(0,v),(1,.func (.func g) #[] caps),(4,.int .i64 0),(6,v),(7,Zd xs.length),(8,.int .i64 0)] _ _ ?_ (by simp (maxSteps:=2000000) only [vup,cond_true,cond_false,Nat.reduceBEq])
 clear hN2
 try clear N2
 refine Zo ?_
 refine Zm fun Q hQ=>?_
 refine Yl (γ:=Nat) (fun i=>i≤xs.length∧∀ j,j<i→p (xs.getD j 0)=false) (fun i=>([(0,v),(1,.func (.func g) #[] caps),(4,.int .i64 0),(6,v),(7,Zd xs.length),(8,Zd (i:Nat))],h)) (fun i=>xs.length-i) 0 ⟨Nat.zero_le _,fun j hj=>absurd hj (Nat.not_lt_zero j)⟩ (by simp (maxSteps:=2000000) only [vup,cond_true,cond_false,Nat.reduceBEq,Int.natCast_zero]) rfl ?_
 rintro i ⟨hi,hno⟩
 refine Zm fun Q2 hQ2=>?_
 simp only [l98_0]
 by_cases hin:(i:Int)<xs.length
 · have hi' : i<xs.length:=by omega
   have hx:xs.getD i 0∈xs:=by rw [List.getD,List.getElem?_eq_getElem hi']; exact List.getElem_mem hi'
   have hxe:xs.getD i 0=xs[i]:=by rw [List.getD,List.getElem?_eq_getElem hi']; rfl
   refine Ze fun N3 hN3=>?_
   simp (maxSteps:=2000000) only [↓Za,↓Zb,↓Zc,vup,cond_true,cond_false,aop,Zg,ev,sput,Zf,Zv,Zx,Nat.reduceBEq,hin]
   refine hN3 [(0,v),(1,.func (.func g) #[] caps),(4,.int .i64 0),(6,v),(7,Zd xs.length),(8,Zd (i:Nat)),(9,.bool true)] _ _ ?_ (by simp (maxSteps:=2000000) only [vup,cond_true,cond_false,Nat.reduceBEq])
   clear hN3
   try clear N3
   refine Ze fun N4 hN4=>?_
   simp (maxSteps:=2000000) only [↓Zn,↓vdn,vup,cond_true,cond_false,Zg,ev,Nat.reduceBEq]
   refine hN4 [(0,v),(1,.func (.func g) #[] caps),(4,.int .i64 0),(6,v),(7,Zd xs.length),(8,Zd (i:Nat))] _ _ ?_ (by simp (maxSteps:=2000000) only [vup,cond_true,cond_false,Nat.reduceBEq])
   clear hN4
   try clear N4
   refine Zk fun B hB=>?_
   refine Zo ?_
   refine Ze fun N5 hN5=>?_
   simp (maxSteps:=2000000) only [↓Za,↓Zb,↓Zc,vup,cond_true,cond_false,aop,Zg,ev,sput,Zf,Nat.reduceBEq]
   refine hN5 [(0,v),(1,.func (.func g) #[] caps),(4,.int .i64 0),(5,Zd (i:Nat)),(6,v),(7,Zd xs.length),(8,Zd (i:Nat))] _ _ ?_ (by simp (maxSteps:=2000000) only [vup,cond_true,cond_false,Nat.reduceBEq])
   clear hN5
   try clear N5
   refine Ze fun N6 hN6=>?_
   simp (maxSteps:=2000000) only [↓Za,↓Zb,↓Zc,vup,List.map_cons,List.map_nil,cond_true,cond_false,aop,Zg,ev,sput,Zf,Nat.reduceBEq,hv.idx Xt Xe hi',hv.load Xf hi',Yz,List.nil_append,List.cons_append]
   refine (hp _ hx).mono ?_
   rintro _ h ⟨rfl,rfl⟩
   refine hN6 [(0,v),(1,.func (.func g) #[] caps),(4,.int .i64 0),(5,Zd (i:Nat)),(6,v),(7,Zd xs.length),(8,Zd (i:Nat)),(16,.bool (p (xs.getD i 0)))] _ _ ?_ (by simp (maxSteps:=2000000) only [vup,cond_true,cond_false,Nat.reduceBEq])
   clear hN6
   try clear N6
   cases hpx:p (xs.getD i 0) with
   | false =>
     refine Yg rfl ?_
     refine Zj ?_
     simp (maxSteps:=2000000) only [↓Zn,Zg,Zl]
     refine hB [(0,v),(1,.func (.func g) #[] caps),(4,.int .i64 0),(6,v),(7,Zd xs.length),(8,Zd (i:Nat))] _ _ ?_ (by simp (maxSteps:=2000000) only [vup,cond_true,cond_false,Nat.reduceBEq])
     clear hB
     try clear B
     refine Zj ?_
     simp (maxSteps:=2000000) only [↓Za,↓Zb,↓Zc,vup,cond_true,cond_false,aop,ev,sput,Zf,Zv,Zx,Nat.reduceBEq,Wx (show i<9223372036854775807 by omega)]
     exact hQ2 _ _ _ ⟨i+1,⟨hi',fun j hj=>by
      by_cases hji:j=i
      · rw [hji]; exact hpx
      · exact hno j (by omega)⟩,by omega,by simp (maxSteps:=2000000) only [vup,cond_true,cond_false,Nat.reduceBEq],rfl⟩
   | true =>
     refine Yx rfl ?_
     refine Zj ?_
     simp (maxSteps:=2000000) only [↓Za,↓Zp,↓Ya,↓Zb,↓Zc,vup,cond_true,cond_false,aop,Zg,Zl,ev,sput,Zf,Nat.reduceBEq]
     refine hQ2 _ _ _ (hQ _ _ _ ?_)
     simp (maxSteps:=2000000) only [vup,cond_true,cond_false,Zg,Zl,Nat.reduceBEq,Zu,Xu,tup]
     have hany:xs.any p=true:=List.any_eq_true.2 ⟨_,hx,hpx⟩
     have hfi:xs.findIdx p=i:=by
      rw [List.findIdx_eq hi']
      refine ⟨by rw [← hxe]; exact hpx,fun j hj=>?_⟩
      have:=hno j hj
      rw [List.getD,List.getElem?_eq_getElem (by omega)] at this
      exact this
     rw [idxF,if_pos hany,hfi]
 obtain rfl:i=xs.length:=by omega
 refine Ze fun N7 hN7=>?_
 simp (maxSteps:=2000000) only [↓Za,↓Zb,↓Zc,vup,cond_true,cond_false,aop,Zg,ev,sput,Zf,Zv,Zx,Nat.reduceBEq,hin]
 refine hN7 [(0,v),(1,.func (.func g) #[] caps),(4,.int .i64 0),(6,v),(7,Zd xs.length),(8,Zd xs.length),(9,.bool false)] _ _ ?_ (by simp (maxSteps:=2000000) only [vup,cond_true,cond_false,Nat.reduceBEq])
 clear hN7
 try clear N7
 refine Ze fun N8 hN8=>?_
 simp (maxSteps:=2000000) only [↓Yi,↓vdn,vup,cond_true,cond_false,Zg,ev,Nat.reduceBEq]
 refine hQ2 _ _ _ (hQ _ _ _ ?_)
 simp (maxSteps:=2000000) only [Zg,Zl,Zu,if_true]
 refine hZ [(0,v),(1,.func (.func g) #[] caps),(4,.int .i64 0)] _ _ ?_ (by simp (maxSteps:=2000000) only [vup,cond_true,cond_false,Nat.reduceBEq])
 clear hZ
 try clear Z
 refine Zj ?_
 simp (maxSteps:=2000000) only [↓Za,↓Zp,↓Ya,↓Zb,↓Zc,vup,cond_true,cond_false,aop,Zg,ev,sput,Zf,Nat.reduceBEq,Zu,Xu,tup]
 have hany:xs.any p=false:=by
  rw [List.any_eq_false]
  intro x hx
  obtain ⟨j,hj,rfl⟩:=List.mem_iff_getElem.1 hx
  have:=hno j hj
  rw [List.getD,List.getElem?_eq_getElem hj] at this
  rw [show p xs[j]=false from this]; decide
 rw [idxF,hany]
 rfl
theorem idxF_ge (p:Int→Bool) (xs:List Int):decide (idxF p xs≥0)=xs.any p:=by
 rw [idxF]
 cases xs.any p with
 | true=>rw [if_pos rfl]; simp
 | false=>rfl
theorem s83_callW [Tabs Tryd.prog] {args:List Value} {h:Zh} {Q:Value→Zh→Prop} (hsz:args.length≤9) (hk:AWS Tryd.prog 9 s83 (Zu Tryd.prog [.tmp 4] Q) (Zt 0 args) h):ACall Tryd.prog 83 args h Q :=
 Xd Tryd.func83 rfl (enters_of Tryd.func83 (by kernel_rfl) rfl) rfl rfl (by decide) s83_strip s83_ok hsz hk
theorem containsF_call [Tabs prog] {h:Zh} {v:Value} {xs:List Int} {g:FuncId} {caps:Array Value} {p:Int→Bool} (hv:IntSl h v xs) (hl:xs.length<9223372036854775807) (hp : ∀ x∈xs,Wo prog g (Zd x::caps.toList) h (.bool (p x))) :
  Wo prog 83 [v,.func (.func g) #[] caps] h (.bool (xs.any p)):=by
 refine s83_callW (by simp) ?_
 simp only [s83]
 refine Ze fun N9 hN9=>?_
 simp (maxSteps:=2000000) only [↓Za,↓Zb,↓Zc,vup,cond_false,aop,Zg,Zt,ev,sput,Zf,Nat.reduceBEq,Nat.reduceAdd]
 refine hN9 [(0,v),(1,.func (.func g) #[] caps),(4,.bool false)] _ _ ?_ (by simp (maxSteps:=2000000) only [vup,cond_true,cond_false,Nat.reduceBEq])
 clear hN9
 try clear N9
 refine Zj ?_
 simp (maxSteps:=2000000) only [↓Za,↓Zp,↓Ya,↓Zb,↓Zc,vup,List.map_cons,List.map_nil,cond_true,cond_false,aop,Zg,ev,sput,Zf,Zv,Zx,Nat.reduceBEq,Zu,Xu,tup,tyf,Yz,List.nil_append,List.append_nil]
 refine (index_call hv hl hp).mono ?_
 rintro _ h ⟨rfl,rfl⟩
 simp (maxSteps:=2000000) only [vup]
 rw [← idxF_ge]
def inB (s:Nat) (t:Int):Bool:=decide ((s:Int)≠t)&&decide (less s t.toNat=0)
theorem in_call [Tabs prog] {h:Zh} {b s t:Nat} (hb:h[b]? = some (.cells [Zd s] 3 false)) (hs:s<9223372036854775808) (ht:t<9223372036854775808):Wo prog 84 [Zd t,.pointer (some ⟨b,0,none⟩)] h (.bool (inB s t)):=by
 refine s84_call (by simp) ?_
 simp only [s84]
 have ha:Wj .andNot .i64 ((s:Nat):Int) ((t:Nat):Int)=((less s t:Nat):Int):=bitsV_andNot hs ht
 by_cases hst:s=t
 · have hne:((s:Int) != (t:Int))=false:=by simp [hst]
   simp (maxSteps:=2000000) only [↓Za,↓Zp,↓Ya,↓Zb,↓Zc,↓vdn,vup,cond_true,cond_false,aop,Zg,Zt,ev,sput,Zf,Zv,Zx,Nat.reduceBEq,Nat.reduceAdd,Zu,Xu,tup,tyf,load1 hb Xf,hne]
   rw [inB,decide_eq_false (by rw [hst]; simp)]
   rfl
 · have hne:((s:Int) != (t:Int))=true:=by rw [bne_iff_ne]; omega
   have heq:(((less s t:Nat):Int)==0)=decide (less s t=0):=by rw [Bool.eq_iff_iff]; simp
   simp (maxSteps:=2000000) only [↓Za,↓Zp,↓Ya,↓Zb,↓Zc,↓vdn,vup,cond_true,cond_false,aop,Zg,Zt,ev,sput,Zf,Zv,Zx,Nat.reduceBEq,Nat.reduceAdd,Zu,Xu,tup,tyf,load1 hb Xf,hne,ha,heq]
   rw [inB,decide_eq_true (show (s:Int)≠t by omega),Bool.true_and,Int.toNat_natCast]
theorem boxI {h:Zh} {x:Int} {K:Value→Zh→Prop}:boxK prog h 3 (Zd x) K=K (Xc h) (h++[.cells [Zd x] 3 false]):=by
 simp [boxK,Xe,Xc,cellsOf]
theorem s82_callW [Tabs Tryd.prog] {args:List Value} {h:Zh} {Q:Value→Zh→Prop} (hsz:args.length≤7) (hk:AWS Tryd.prog 7 s82 (Zu Tryd.prog [.tmp 3] Q) (Zt 0 args) h):ACall Tryd.prog 82 args h Q :=
 Xd Tryd.func82 rfl (enters_of Tryd.func82 (by kernel_rfl) rfl) rfl rfl (by decide) s82_strip s82_ok hsz hk
theorem sub_call [Tabs prog] {h:Zh} {b s:Nat} {sv:Value} {xs:List Int} (hb:h[b]? = some (.cells [sv] 22 false)) (hv:IntSl h sv xs) (hl:xs.length<9223372036854775807) (hs:s<9223372036854775808) (hx : ∀ x∈xs,∃ t:Nat,x=t∧t<9223372036854775808) :
  Wo prog 82 [Zd s,.pointer (some ⟨b,0,none⟩)] h (.bool (xs.any (inB s))):=by
 refine ACall.forget (.bool _) ?_
 have hE:Ext (fun _=>False) h (h++[Blk.cells [Zd s] 3 false]):=Ext.app _ _ _
 refine s82_callW (by simp) ?_
 simp only [s82]
 refine Ze fun N10 hN10=>?_
 simp (maxSteps:=2000000) only [↓Za,↓Zb,↓Zc,vup,cond_true,cond_false,aop,Zg,Zt,ev,sput,Zf,Nat.reduceBEq,Nat.reduceAdd,boxI,Xc]
 refine hN10 [(0,Zd s),(1,.pointer (some ⟨b,0,none⟩)),(2,.pointer (some ⟨h.length,0,none⟩)),(3,.bool false)] _ _ ?_ (by simp (maxSteps:=2000000) only [vup,cond_true,cond_false,Nat.reduceBEq])
 clear hN10
 try clear N10
 refine Zj ?_
 simp (maxSteps:=2000000) only [↓Za,↓Zp,↓Ya,↓Zb,↓Zc,vup,List.map_cons,List.map_nil,cond_true,cond_false,aop,Zg,ev,sput,Zf,Nat.reduceBEq,Zu,Xu,tup,load1 (Vc hb [Blk.cells [Zd s] 3 false]) shp_22,List.map_toArray,Yz,List.nil_append,List.append_nil]
 refine (containsF_call (p:=inB s) (hv.grow _) hl fun x hm=>?_).mono ?_
 · obtain ⟨t,rfl,ht⟩:=hx x hm
   exact in_call (Yp h (Blk.cells [Zd s] 3 false)) hs ht
 rintro _ _ ⟨rfl,rfl⟩
 simp (maxSteps:=2000000) only [vup]
 exact hE
def minT (xs:List Int):Nat→Int
 | 0=>xs.getD 0 0
 | k+1=>if xs.getD k 0<minT xs k then xs.getD k 0 else minT xs k
theorem minT_neg {xs:List Int} (h0:xs≠[]):minT xs xs.length<0↔∃ x∈xs,x<0:=by
 have hget : ∀ k,k<xs.length→xs.getD k 0∈xs:=fun k hk=>by rw [List.getD,List.getElem?_eq_getElem hk]; exact List.getElem_mem hk
 have hpos:=List.length_pos_iff.2 h0
 have h1 : ∀ k,k≤xs.length→minT xs k∈xs∧∀ j,j<k→minT xs k≤xs.getD j 0:=by
  intro k
  induction k with
  | zero=>intro _; exact ⟨hget 0 hpos,fun j hj=>absurd hj (Nat.not_lt_zero j)⟩
  | succ k ih =>
    intro hk
    obtain ⟨i1,i2⟩:=ih (by omega)
    rw [minT]
    split
    · refine ⟨hget k (by omega),fun j hj=>?_⟩
      by_cases hjk:j=k
      · subst hjk; exact Int.le_refl _
      · have:=i2 j (by omega); omega
    · refine ⟨i1,fun j hj=>?_⟩
      by_cases hjk:j=k
      · subst hjk; omega
      · exact i2 j (by omega)
 obtain ⟨i1,i2⟩:=h1 _ (Nat.le_refl _)
 constructor
 · intro h; exact ⟨_,i1,h⟩
 · rintro ⟨x,hx,hn⟩
   obtain ⟨j,hj,rfl⟩:=List.mem_iff_getElem.1 hx
   have:=i2 j hj
   rw [List.getD,List.getElem?_eq_getElem hj,Option.getD_some] at this
   omega
theorem minT_one (xs:List Int):minT xs 1=xs.getD 0 0:=by
 simp [minT]
theorem s87_callW [Tabs Tryd.prog] {args:List Value} {h:Zh} {Q:Value→Zh→Prop} (hsz:args.length≤25) (hk:AWS Tryd.prog 25 s87 (Zu Tryd.prog [.tmp 2] Q) (Zt 0 args) h):ACall Tryd.prog 87 args h Q :=
 Xd Tryd.func87 rfl (enters_of Tryd.func87 (by kernel_rfl) rfl) rfl rfl (by decide) s87_strip s87_ok hsz hk
theorem min_call [Tabs prog] {h:Zh} {v:Value} {xs:List Int} (hv:IntSl h v xs) (h0:xs≠[]) (hl:xs.length<9223372036854775807):Wo prog 87 [v] h (Zd (minT xs xs.length)):=by
 have hpos:=List.length_pos_iff.2 h0
 refine s87_callW (by simp) ?_
 simp only [s87]
 refine Ze fun N11 hN11=>?_
 simp (maxSteps:=2000000) only [↓Za,↓Zb,↓Zc,vup,cond_false,aop,Zg,Zt,ev,sput,Zf,Nat.reduceBEq]
 refine hN11 [(0,v),(2,.int .i64 0)] _ _ ?_ (by simp (maxSteps:=2000000) only [vup,cond_true,cond_false,Nat.reduceBEq])
 clear hN11
 try clear N11
 have hlt : ¬ ((xs.length:Int)<1):=by omega
 refine Zk fun M hM=>?_
 refine Ze fun N12 hN12=>?_
 simp (maxSteps:=2000000) only [↓Za,↓Zb,↓Zc,vup,List.map_cons,List.map_nil,cond_true,cond_false,aop,Zg,ev,sput,Zf,Zv,Zx,Zi,Nat.reduceBEq,tyf,hv.len,hlt]
 refine hN12 [(0,v),(2,.int .i64 0),(7,.bool false)] _ _ ?_ (by simp (maxSteps:=2000000) only [vup,cond_true,cond_false,Nat.reduceBEq])
 clear hN12
 try clear N12
 refine Yg rfl ?_
 refine Zj ?_
 simp (maxSteps:=2000000) only [↓Zn,Zg]
 refine hM [(0,v),(2,.int .i64 0)] _ _ ?_ (by simp (maxSteps:=2000000) only [vup,cond_true,cond_false,Nat.reduceBEq])
 clear hM
 try clear M
 have hi0 : ∀ K:Value→Prop,Yy prog 22 v (.int .i64 0) K=K (Wb v 1 0):=fun K=>hv.idx (k:=.i64) (i:=0) Xt Xe hpos K
 refine Ze fun N13 hN13=>?_
 simp (maxSteps:=2000000) only [↓Za,↓Zb,↓Zc,vup,cond_true,cond_false,aop,Zg,ev,sput,Zf,Nat.reduceBEq,hi0,hv.load Xf hpos,← minT_one]
 refine hN13 [(0,v),(2,.int .i64 0),(3,Zd (minT xs 1))] _ _ ?_ (by simp (maxSteps:=2000000) only [vup,cond_true,cond_false,Nat.reduceBEq])
 clear hN13
 try clear N13
 refine Zk fun Z hZ=>?_
 refine Ze fun N14 hN14=>?_
 simp (maxSteps:=2000000) only [↓Za,↓Zb,↓Zc,vup,cond_false,aop,Zg,ev,sput,Zf,Nat.reduceBEq]
 refine hN14 [(0,v),(2,.int .i64 0),(3,Zd (minT xs 1)),(4,.int .i64 1)] _ _ ?_ (by simp (maxSteps:=2000000) only [vup,cond_true,cond_false,Nat.reduceBEq])
 clear hN14
 try clear N14
 refine Zo ?_
 refine Zm fun Q hQ=>?_
 refine Yl (γ:=Nat) (fun k=>1≤k∧k≤xs.length) (fun k=>([(0,v),(2,.int .i64 0),(3,Zd (minT xs k)),(4,Zd (k:Nat))],h)) (fun k=>xs.length-k) 1 ⟨Nat.le_refl _,hpos⟩ (by simp (maxSteps:=2000000) only [vup,cond_true,cond_false,Nat.reduceBEq,Int.natCast_one]) rfl ?_
 rintro k ⟨hk1,hk⟩
 refine Zm fun Q2 hQ2=>?_
 simp only [l87_0]
 by_cases hkin:(k:Int)<xs.length
 · have hk' : k<xs.length:=by omega
   refine Zk fun A hA=>?_
   refine Ze fun N15 hN15=>?_
   simp (maxSteps:=2000000) only [↓Za,↓Zb,↓Zc,vup,List.map_cons,List.map_nil,cond_true,cond_false,aop,Zg,ev,sput,Zf,Zv,Zx,Zi,Nat.reduceBEq,tyf,hv.len,hkin]
   refine hN15 [(0,v),(2,.int .i64 0),(3,Zd (minT xs k)),(4,Zd (k:Nat)),(15,.bool true)] _ _ ?_ (by simp (maxSteps:=2000000) only [vup,cond_true,cond_false,Nat.reduceBEq])
   clear hN15
   try clear N15
   refine Yx rfl ?_
   refine Zj ?_
   simp (maxSteps:=2000000) only [↓Zn,Zg]
   refine hA [(0,v),(2,.int .i64 0),(3,Zd (minT xs k)),(4,Zd (k:Nat))] _ _ ?_ (by simp (maxSteps:=2000000) only [vup,cond_true,cond_false,Nat.reduceBEq])
   clear hA
   try clear A
   refine Zk fun B hB=>?_
   refine Zo ?_
   refine Zj ?_
   simp (maxSteps:=2000000) only [↓Za,↓Zb,↓Zc,vup,List.map_cons,List.map_nil,cond_true,cond_false,aop,Zg,Zl,ev,sput,Zf,Zi,Nat.reduceBEq,hv.idx Xt Xe hk',hv.load Xf hk',mmK,if_false,Bool.false_eq_true,show (if xs.getD k 0<minT xs k then xs.getD k 0 else minT xs k)=minT xs (k+1) from rfl]
   refine hB [(0,v),(2,.int .i64 0),(3,Zd (minT xs (k+1))),(4,Zd (k:Nat))] _ _ ?_ (by simp (maxSteps:=2000000) only [vup,cond_true,cond_false,Nat.reduceBEq])
   clear hB
   try clear B
   refine Zj ?_
   simp (maxSteps:=2000000) only [↓Za,↓Zb,↓Zc,vup,cond_true,cond_false,aop,ev,sput,Zf,Zv,Zx,Nat.reduceBEq,Wx (show k<9223372036854775807 by omega)]
   exact hQ2 _ _ _ ⟨k+1,⟨by omega,hk'⟩,by omega,by simp (maxSteps:=2000000) only [vup,cond_true,cond_false,Nat.reduceBEq],rfl⟩
 obtain rfl:k=xs.length:=by omega
 refine Zk fun A hA=>?_
 refine Ze fun N16 hN16=>?_
 simp (maxSteps:=2000000) only [↓Za,↓Zb,↓Zc,vup,List.map_cons,List.map_nil,cond_true,cond_false,aop,Zg,ev,sput,Zf,Zv,Zx,Zi,Nat.reduceBEq,tyf,hv.len,hkin]
 refine hN16 [(0,v),(2,.int .i64 0),(3,Zd (minT xs xs.length)),(4,Zd xs.length),(15,.bool false)] _ _ ?_ (by simp (maxSteps:=2000000) only [vup,cond_true,cond_false,Nat.reduceBEq])
 clear hN16
 try clear N16
 refine Yg rfl ?_
 refine Zj ?_
 simp (maxSteps:=2000000) only [↓Yi,Zg]
 refine hQ2 _ _ _ (hQ _ _ _ ?_)
 simp (maxSteps:=2000000) only [Zg,Zl,Zu,if_true]
 refine hZ [(0,v),(2,.int .i64 0),(3,Zd (minT xs xs.length))] _ _ ?_ (by simp (maxSteps:=2000000) only [vup,cond_true,cond_false,Nat.reduceBEq])
 clear hZ
 try clear Z
 refine Zj ?_
 simp (maxSteps:=2000000) only [↓Za,↓Zp,↓Ya,↓Zb,↓Zc,vup,cond_true,cond_false,aop,Zg,ev,sput,Zf,Nat.reduceBEq,Zu,Xu,tup]
theorem ownSl_clear {h:Zh} {v:Value} {xs:List Int} {i:Nat} (ho:OwnSl 3 h v xs) (hi:i≤xs.length) {K:Value→Value→Zh→Prop} (hk : ∀ w h',OwnSl 3 h' v (xs.take i++List.replicate (xs.length-i) 0)→Ext (fun j=>Ye v=some j) h h'→K w (.tuple #[]) h') :
  Xb prog 22 v (some (Zd i)) none none (fun w=>clearK prog h 22 w (K w)):=by
 have he:(elemOf' prog 22).isSome=true:=by rw [Xt]; rfl
 have hfull:i=xs.length→xs.take i++List.replicate (xs.length-i) 0=xs:=fun h=>by rw [h,Nat.sub_self,List.take_length]; simp
 rcases ho with ⟨rfl,rfl⟩ | ⟨b,ys,rfl,hb⟩
 · simp only [List.length_nil,Nat.le_zero_eq] at hi
   subst hi
   have h1:=hk (.slice none 0 0) h (.inl ⟨rfl,rfl⟩) (Ext.refl _ _)
   show _∧_∧_∧_∧_
   exact ⟨by simp [Xt,Xe],rfl,rfl,rfl,he,h1⟩
 · have hsplice:Yh (xs++ys) i (List.replicate (xs.length-i) 0)=xs.take i++List.replicate (xs.length-i) 0++ys:=by
    rw [Yh,List.length_replicate,List.take_append_of_le_length hi,show i+(xs.length-i)=xs.length by omega,List.drop_left]
   have hsto : ∀ w,i<xs.length→storesK h b i (List.replicate (xs.length-i) (.int .i64 0)) (fun h'=>K w (.tuple #[]) h'):=fun w h1=>by
    have e1:Xa (List.replicate (xs.length-i) (Value.int .i64 0))=some (List.replicate (xs.length-i) 0):=by
     have:=intsOf_map' (List.replicate (xs.length-i) 0)
     rw [List.map_replicate] at this; exact this
    refine ⟨by simp [one],?_⟩
    simp only [hb,e1]
    refine ⟨by rw [List.length_replicate,List.length_append]; omega,?_⟩
    rw [hsplice]
    exact hk w _ (.inr ⟨b,ys,by rw [List.length_append,List.length_take,List.length_replicate,Nat.min_eq_left hi,show i+(xs.length-i)=xs.length by omega],by rw [List.getElem?_set_self (Zz hb)]⟩) (Ext.set _ rfl)
   have hzb:(elemOf' prog 22).bind (Xs prog)=some [.int .i64 0]:=by rw [Xt,Option.bind_some,zero_3]
   simp only [Xb,Xt,Xe,bnd]
   refine ⟨by omega,by omega,by omega,fun h=>(by cases h),fun _=>?_⟩
   by_cases h0:i=0
   · subst h0
     refine .inl ⟨rfl,he,fun hn=>?_,fun hn=>?_⟩
     · rw [Int.toNat_natCast] at hn
       have h1:=hfull (by omega)
       exact hk _ h (by rw [h1]; exact .inr ⟨b,ys,rfl,hb⟩) (Ext.refl _ _)
     · rw [Int.toNat_natCast] at hn
       rw [hzb,Int.toNat_natCast]; exact hsto _ (by omega)
   · refine .inr ⟨by omega,?_⟩
     by_cases hl:i<xs.length
     · refine .inl ⟨by omega,by omega,he,fun hn=>by omega,fun hn=>?_⟩
       rw [hzb]
       have e2:((xs.length:Int)-((i:Nat):Int)).toNat=xs.length-i:=by omega
       have e3:0+((i:Nat):Int).toNat*1=i:=by simp
       rw [e2,e3]; exact hsto _ hl
     · have h1:=hfull (by omega)
       exact .inr ⟨by omega,he,hk _ h (by rw [h1]; exact .inr ⟨b,ys,rfl,hb⟩) (Ext.refl _ _)⟩
def stay (p:Int→Bool) (xs:List Int) (j:Nat):Nat:=((xs.take j).filter fun x=>!p x).length
theorem stay_le (p:Int→Bool) (xs:List Int) (j:Nat):stay p xs j≤j:=Nat.le_trans (List.length_filter_le _ _) (by rw [List.length_take]; omega)
theorem take_snocI {xs:List Int} {j:Nat} (hj:j<xs.length):xs.take (j+1)=xs.take j++[xs.getD j 0]:=by
 rw [List.take_succ,List.getElem?_eq_getElem hj,Option.toList_some,List.getD,List.getElem?_eq_getElem hj]; rfl
theorem stay_hit {p:Int→Bool} {xs:List Int} {j:Nat} (hj:j<xs.length) (hp:p (xs.getD j 0)=true):(xs.take (j+1)).filter (fun x=>!p x)=(xs.take j).filter fun x=>!p x:=by
 rw [take_snocI hj,List.filter_append,List.filter_cons,List.filter_nil,hp]; simp
theorem stay_miss {p:Int→Bool} {xs:List Int} {j:Nat} (hj:j<xs.length) (hp:p (xs.getD j 0)=false):(xs.take (j+1)).filter (fun x=>!p x)=((xs.take j).filter fun x=>!p x)++[xs.getD j 0]:=by
 rw [take_snocI hj,List.filter_append,List.filter_cons,List.filter_nil,hp]; simp
structure Dl (p:Int→Bool) (xs:List Int) (j:Nat) (ys:List Int):Prop where
 len:ys.length=xs.length
 tk:ys.take (stay p xs j)=(xs.take j).filter fun x=>!p x
 dr:ys.drop j=xs.drop j
theorem Dl.get {p:Int→Bool} {xs ys:List Int} {j k:Nat} (d:Dl p xs j ys) (h:j≤k):ys.getD k 0=xs.getD k 0:=by
 have h1:(ys.drop j)[k-j]? = (xs.drop j)[k-j]?:=by rw [d.dr]
 rw [List.getElem?_drop,List.getElem?_drop,show j+(k-j)=k by omega] at h1
 rw [List.getD,h1,List.getD]
theorem Dl.hit {p:Int→Bool} {xs ys:List Int} {j:Nat} (d:Dl p xs j ys) (hj:j<xs.length) (hp:p (xs.getD j 0)=true):Dl p xs (j+1) ys∧stay p xs (j+1)=stay p xs j:=by
 have h1:stay p xs (j+1)=stay p xs j:=by rw [stay,stay_hit hj hp]; rfl
 refine ⟨⟨d.len,by rw [h1,stay_hit hj hp]; exact d.tk,?_⟩,h1⟩
 have:=congrArg (List.drop 1) d.dr
 rw [List.drop_drop,List.drop_drop] at this
 exact this
theorem Dl.miss {p:Int→Bool} {xs ys:List Int} {j:Nat} (d:Dl p xs j ys) (hj:j<xs.length) (hp:p (xs.getD j 0)=false):Dl p xs (j+1) (ys.set (stay p xs j) (xs.getD j 0))∧stay p xs (j+1)=stay p xs j+1:=by
 have h1:stay p xs (j+1)=stay p xs j+1:=by rw [stay,stay_miss hj hp,List.length_append]; rfl
 have hs:=stay_le p xs j
 have hl:=d.len
 refine ⟨⟨by rw [List.length_set]; exact d.len,?_,?_⟩,h1⟩
 · rw [h1,stay_miss hj hp,← d.tk,take_snocI (by rw [List.length_set]; omega),List.take_set_of_le (Nat.le_refl _),List.getD,List.getElem?_set_self (by omega)]; rfl
 · have:=congrArg (List.drop 1) d.dr
   rw [List.drop_drop,List.drop_drop] at this
   rw [List.drop_set_of_lt (by omega)]
   exact this
theorem s81_callW [Tabs Tryd.prog] {args:List Value} {h:Zh} {Q:Value→Zh→Prop} (hsz:args.length≤42) (hk:AWS Tryd.prog 42 s81 (Zu Tryd.prog [.tmp 4] Q) (Zt 0 args) h):ACall Tryd.prog 81 args h Q :=
 Xd Tryd.func81 rfl (enters_of Tryd.func81 (by kernel_rfl) rfl) rfl rfl (by decide) s81_strip s81_ok hsz hk
theorem delete_call [Tabs prog] {h:Zh} {v:Value} {xs:List Int} {g:FuncId} {caps:Array Value} {p:Int→Bool} (ho:OwnSl 3 h v xs) (hl:xs.length<1099511627776) (hp : ∀ H,Ext (fun b=>Ye v=some b) h H→∀ x∈xs,Wo prog g (Zd x::caps.toList) H (.bool (p x))) :
  ACall prog 81 [v,.func (.func g) #[] caps] h fun r h'=>IntSl h' r (xs.filter fun x=>!p x)∧Ext (fun b=>Ye v=some b) h h':=by
 refine s81_callW (by simp) ?_
 simp only [s81]
 refine Ze fun N17 hN17=>?_
 simp (maxSteps:=2000000) only [↓Za,↓Zb,↓Zc,vup,cond_false,aop,Zg,Zt,ev,sput,Zf,Nat.reduceBEq,Nat.reduceAdd]
 refine hN17 [(0,v),(1,.func (.func g) #[] caps),(4,.slice none 0 0)] _ _ ?_ (by simp (maxSteps:=2000000) only [vup,cond_true,cond_false,Nat.reduceBEq])
 clear hN17
 try clear N17
 refine Ze fun N18 hN18=>?_
 simp (maxSteps:=2000000) only [↓Za,↓Zb,↓Zc,vup,List.map_cons,List.map_nil,cond_true,cond_false,aop,Zg,ev,sput,Zf,Nat.reduceBEq,Yz,List.nil_append,List.append_nil]
 refine (index_call ho.int (by omega) (hp _ (Ext.refl _ _))).mono ?_
 rintro _ h ⟨rfl,rfl⟩
 refine hN18 [(0,v),(1,.func (.func g) #[] caps),(4,.slice none 0 0),(5,Zd (idxF p xs))] _ _ ?_ (by simp (maxSteps:=2000000) only [vup,cond_true,cond_false,Nat.reduceBEq])
 clear hN18
 try clear N18
 cases hany:xs.any p with
 | false =>
   have hix:idxF p xs = -1:=by rw [idxF,hany]; rfl
   have hf:xs.filter (fun x=>!p x)=xs:=List.filter_eq_self.2 fun x hx=>by
    have:=List.any_eq_false.1 hany x hx
    simpa using this
   rw [hix]
   refine Zk fun M hM=>?_
   refine Ze fun N19 hN19=>?_
   simp (maxSteps:=2000000) only [↓Za,↓Zb,↓Zc,vup,cond_true,cond_false,aop,Zg,ev,sput,Zf,Zv,Zx,Nat.reduceBEq,Int.reduceBEq]
   refine hN19 [(0,v),(1,.func (.func g) #[] caps),(4,.slice none 0 0),(5,.int .i64 (-1)),(12,.bool true)] _ _ ?_ (by simp (maxSteps:=2000000) only [vup,cond_true,cond_false,Nat.reduceBEq])
   clear hN19
   try clear N19
   refine Yx rfl ?_
   refine Zj ?_
   simp (maxSteps:=2000000) only [↓Za,↓Zp,↓Ya,↓Zb,↓Zc,vup,cond_true,cond_false,aop,Zg,ev,sput,Zf,Nat.reduceBEq,Zu,Xu,tup]
   exact ⟨by rw [hf]; exact ho.int,Ext.refl _ _⟩
 | true =>
   obtain ⟨i0,hi0⟩ : ∃ i0,xs.findIdx p=i0:=⟨_,rfl⟩
   have hix:idxF p xs=((i0:Nat):Int):=by rw [idxF,if_pos hany,hi0]
   obtain ⟨x0,hx0,hpx0⟩:=List.any_eq_true.1 hany
   have hlt:i0<xs.length:=by rw [← hi0]; exact List.findIdx_lt_length_of_exists ⟨x0,hx0,hpx0⟩
   have hfs:=(List.findIdx_eq hlt).1 hi0
   have hp0:p (xs.getD i0 0)=true:=by rw [List.getD,List.getElem?_eq_getElem hlt]; exact hfs.1
   have hall:(xs.take i0).filter (fun x=>!p x)=xs.take i0:=List.filter_eq_self.2 fun x hx=>by
    obtain ⟨j,hj,rfl⟩:=List.mem_iff_getElem.1 hx
    rw [List.length_take] at hj
    rw [List.getElem_take,hfs.2 j (by omega)]; rfl
   have hst0:stay p xs i0=i0:=by rw [stay,hall,List.length_take]; omega
   have d0:Dl p xs i0 xs:=⟨rfl,by rw [hst0,hall],rfl⟩
   obtain ⟨d1,hst1⟩:=d0.hit hlt hp0
   rw [hst0] at hst1
   have hne:(((i0:Nat):Int) == -1)=false:=by rw [beq_eq_false_iff_ne]; omega
   rw [hix]
   refine Zk fun M hM=>?_
   refine Ze fun N20 hN20=>?_
   simp (maxSteps:=2000000) only [↓Za,↓Zb,↓Zc,vup,cond_true,cond_false,aop,Zg,ev,sput,Zf,Zv,Zx,Nat.reduceBEq,hne]
   refine hN20 [(0,v),(1,.func (.func g) #[] caps),(4,.slice none 0 0),(5,Zd (i0:Nat)),(12,.bool false)] _ _ ?_ (by simp (maxSteps:=2000000) only [vup,cond_true,cond_false,Nat.reduceBEq])
   clear hN20
   try clear N20
   refine Yg rfl ?_
   refine Zj ?_
   simp (maxSteps:=2000000) only [↓Zn,Zg]
   refine hM [(0,v),(1,.func (.func g) #[] caps),(4,.slice none 0 0),(5,Zd (i0:Nat))] _ _ ?_ (by simp (maxSteps:=2000000) only [vup,cond_true,cond_false,Nat.reduceBEq])
   clear hM
   try clear M
   refine Zk fun Z hZ=>?_
   refine Ze fun N21 hN21=>?_
   simp (maxSteps:=2000000) only [↓Za,↓Zb,↓Zc,vup,cond_true,cond_false,aop,Zg,ev,sput,Zf,Zv,Zx,Nat.reduceBEq,Wx (show i0<9223372036854775807 by omega)]
   refine hN21 [(0,v),(1,.func (.func g) #[] caps),(4,.slice none 0 0),(5,Zd (i0:Nat)),(6,Zd (i0+1:Nat))] _ _ ?_ (by simp (maxSteps:=2000000) only [vup,cond_true,cond_false,Nat.reduceBEq])
   clear hN21
   try clear N21
   refine Zo ?_
   refine Zm fun Q hQ=>?_
   refine Yl (γ:=Nat×List Int×Zh) (fun s=>s.1≤xs.length∧Dl p xs s.1 s.2.1∧OwnSl 3 s.2.2 v s.2.1∧Ext (fun b=>Ye v=some b) h s.2.2)
    (fun s=>([(0,v),(1,.func (.func g) #[] caps),(4,.slice none 0 0),(5,Zd (stay p xs s.1:Nat)),(6,Zd (s.1:Nat))],s.2.2)) (fun s=>xs.length-s.1) (i0+1,xs,h) ⟨hlt,d1,ho,Ext.refl _ _⟩ (by simp (maxSteps:=2000000) only [vup,cond_true,cond_false,Nat.reduceBEq,hst1]) rfl ?_
   rintro ⟨j,ys,H⟩ ⟨hj,d,hy,hE⟩
   simp only at hj d hy hE
   refine Zm fun Q2 hQ2=>?_
   simp only [l81_0]
   have hyl:=d.len
   have hsl:=stay_le p xs j
   by_cases hjin:(j:Int)<xs.length
   · have hj' : j<xs.length:=by omega
     have hjY:j<ys.length:=by omega
     have hxm:xs.getD j 0∈xs:=by rw [List.getD,List.getElem?_eq_getElem hj']; exact List.getElem_mem hj'
     refine Zk fun A hA=>?_
     refine Ze fun N22 hN22=>?_
     simp (maxSteps:=2000000) only [↓Za,↓Zb,↓Zc,vup,List.map_cons,List.map_nil,cond_true,cond_false,aop,Zg,ev,sput,Zf,Zv,Zx,Zi,Nat.reduceBEq,tyf,hy.int.len,hyl,hjin]
     refine hN22 [(0,v),(1,.func (.func g) #[] caps),(4,.slice none 0 0),(5,Zd (stay p xs j:Nat)),(6,Zd (j:Nat)),(19,.bool true)] _ _ ?_ (by simp (maxSteps:=2000000) only [vup,cond_true,cond_false,Nat.reduceBEq])
     clear hN22
     try clear N22
     refine Yx rfl ?_
     refine Zj ?_
     simp (maxSteps:=2000000) only [↓Zn,Zg]
     refine hA [(0,v),(1,.func (.func g) #[] caps),(4,.slice none 0 0),(5,Zd (stay p xs j:Nat)),(6,Zd (j:Nat))] _ _ ?_ (by simp (maxSteps:=2000000) only [vup,cond_true,cond_false,Nat.reduceBEq])
     clear hA
     try clear A
     refine Zk fun B hB=>?_
     refine Zo ?_
     refine Ze fun N23 hN23=>?_
     simp (maxSteps:=2000000) only [↓Za,↓Zb,↓Zc,vup,cond_true,cond_false,aop,Zg,ev,sput,Zf,Nat.reduceBEq,hy.int.idx Xt Xe hjY,hy.int.load Xf hjY,d.get (Nat.le_refl j)]
     refine hN23 [(0,v),(1,.func (.func g) #[] caps),(4,.slice none 0 0),(5,Zd (stay p xs j:Nat)),(6,Zd (j:Nat)),(7,Zd (xs.getD j 0))] _ _ ?_ (by simp (maxSteps:=2000000) only [vup,cond_true,cond_false,Nat.reduceBEq])
     clear hN23
     try clear N23
     refine Ze fun N24 hN24=>?_
     simp (maxSteps:=2000000) only [↓Za,↓Zb,↓Zc,vup,List.map_cons,List.map_nil,cond_true,cond_false,aop,Zg,ev,sput,Zf,unK,Nat.reduceBEq,Yz,List.nil_append,List.cons_append]
     refine (hp H hE _ hxm).mono ?_
     rintro _ H ⟨rfl,rfl⟩
     simp (maxSteps:=2000000) only []
     refine hN24 [(0,v),(1,.func (.func g) #[] caps),(4,.slice none 0 0),(5,Zd (stay p xs j:Nat)),(6,Zd (j:Nat)),(7,Zd (xs.getD j 0)),(29,.bool (!p (xs.getD j 0)))] _ _ ?_ (by simp (maxSteps:=2000000) only [vup,cond_true,cond_false,Nat.reduceBEq])
     clear hN24
     try clear N24
     cases hpx:p (xs.getD j 0) with
     | true =>
       obtain ⟨d',hs'⟩:=d.hit hj' hpx
       refine Yg rfl ?_
       refine Zj ?_
       simp (maxSteps:=2000000) only [↓Zn,vup,Zg,Zl]
       refine hB [(0,v),(1,.func (.func g) #[] caps),(4,.slice none 0 0),(5,Zd (stay p xs j:Nat)),(6,Zd (j:Nat))] _ _ ?_ (by simp (maxSteps:=2000000) only [vup,cond_true,cond_false,Nat.reduceBEq])
       clear hB
       try clear B
       refine Zj ?_
       simp (maxSteps:=2000000) only [↓Za,↓Zb,↓Zc,vup,cond_true,cond_false,aop,ev,sput,Zf,Zv,Zx,Nat.reduceBEq,Wx (show j<9223372036854775807 by omega)]
       exact hQ2 _ _ _ ⟨(j+1,ys,H),⟨hj',d',hy,hE⟩,by simp only; omega,by simp (maxSteps:=2000000) only [vup,cond_true,cond_false,Nat.reduceBEq,hs'],rfl⟩
     | false =>
       obtain ⟨d',hs'⟩:=d.miss hj' hpx
       have hsY:stay p xs j<ys.length:=by omega
       refine Yx rfl ?_
       refine Ze fun N25 hN25=>?_
       simp (maxSteps:=2000000) only [↓Za,↓Zb,↓Zc,vup,cond_true,cond_false,aop,Zg,ev,sput,Zf,Nat.reduceBEq,hy.int.idx Xt Xe hsY]
       refine ownSl_store hy hsY fun G hy2 hE2=>?_
       refine hN25 [(0,v),(1,.func (.func g) #[] caps),(4,.slice none 0 0),(5,Zd (stay p xs j:Nat)),(6,Zd (j:Nat)),(7,Zd (xs.getD j 0)),(29,.bool (!false))] _ _ ?_ (by simp (maxSteps:=2000000) only [vup,cond_true,cond_false,Nat.reduceBEq])
       clear hN25
       try clear N25
       refine Zj ?_
       simp (maxSteps:=2000000) only [↓Za,↓Zb,↓Zc,vup,cond_true,cond_false,aop,Zg,Zl,ev,sput,Zf,Zv,Zx,Nat.reduceBEq,Wx (show stay p xs j<9223372036854775807 by omega)]
       refine hB [(0,v),(1,.func (.func g) #[] caps),(4,.slice none 0 0),(5,Zd (stay p xs j+1:Nat)),(6,Zd (j:Nat))] _ _ ?_ (by simp (maxSteps:=2000000) only [vup,cond_true,cond_false,Nat.reduceBEq])
       clear hB
       try clear B
       refine Zj ?_
       simp (maxSteps:=2000000) only [↓Za,↓Zb,↓Zc,vup,cond_true,cond_false,aop,ev,sput,Zf,Zv,Zx,Nat.reduceBEq,Wx (show j<9223372036854775807 by omega)]
       exact hQ2 _ _ _ ⟨(j+1,ys.set (stay p xs j) (xs.getD j 0),G),⟨hj',d',hy2,hE.trans hE2⟩,by simp only; omega,by simp (maxSteps:=2000000) only [vup,cond_true,cond_false,Nat.reduceBEq,hs'],rfl⟩
   obtain rfl:j=xs.length:=by omega
   refine Zk fun A hA=>?_
   refine Ze fun N26 hN26=>?_
   simp (maxSteps:=2000000) only [↓Za,↓Zb,↓Zc,vup,List.map_cons,List.map_nil,cond_true,cond_false,aop,Zg,ev,sput,Zf,Zv,Zx,Zi,Nat.reduceBEq,tyf,hy.int.len,hyl,hjin]
   refine hN26 [(0,v),(1,.func (.func g) #[] caps),(4,.slice none 0 0),(5,Zd (stay p xs xs.length:Nat)),(6,Zd xs.length),(19,.bool false)] _ _ ?_ (by simp (maxSteps:=2000000) only [vup,cond_true,cond_false,Nat.reduceBEq])
   clear hN26
   try clear N26
   refine Yg rfl ?_
   refine Zj ?_
   simp (maxSteps:=2000000) only [↓Yi,Zg]
   refine hQ2 _ _ _ (hQ _ _ _ ?_)
   simp (maxSteps:=2000000) only [Zg,Zl,Zu,if_true]
   refine hZ [(0,v),(1,.func (.func g) #[] caps),(4,.slice none 0 0),(5,Zd (stay p xs xs.length:Nat))] _ _ ?_ (by simp (maxSteps:=2000000) only [vup,cond_true,cond_false,Nat.reduceBEq])
   clear hZ
   try clear Z
   clear hQ hQ2
   have hsY:stay p xs xs.length≤ys.length:=by omega
   refine Ze fun N27 hN27=>?_
   simp (maxSteps:=2000000) only [↓Za,↓Zb,↓Zc,vup,List.map_cons,List.map_nil,cond_true,cond_false,aop,Zg,ev,sput,Zf,Zi,Nat.reduceBEq,Option.map_some,Option.map_none]
   refine ownSl_clear hy hsY fun _ G hy2 hE2=>?_
   refine hN27 [(0,v),(1,.func (.func g) #[] caps),(4,.slice none 0 0),(5,Zd (stay p xs xs.length:Nat))] _ _ ?_ (by simp (maxSteps:=2000000) only [vup,cond_true,cond_false,Nat.reduceBEq])
   clear hN27
   try clear N27
   refine Zj ?_
   simp (maxSteps:=2000000) only [↓Za,↓Zp,↓Ya,↓Zb,↓Zc,vup,cond_true,cond_false,aop,Zg,ev,sput,Zf,Nat.reduceBEq,Zu,Xu,tup,Option.map_some,Option.map_none]
   refine hy2.int.pre Xt Xe (by rw [List.length_append,List.length_take]; omega) fun w hw=>?_
   have htk:=d.tk
   rw [List.take_length] at htk
   rw [List.take_append_of_le_length (by rw [List.length_take]; omega),List.take_take,Nat.min_self,htk] at hw
   exact ⟨hw,hE.trans hE2⟩
end Go.Proofs.Tryd.Am
namespace Bq
theorem left_triv {n:Nat} {M:Nat→Nat→Rat}:det n M≠0↔∀ u:Nat→Rat,(∀ c,c<n→sumTo (fun r=>u r*M c r) n=0)→∀ r,r<n→u r=0:=by
 constructor
 · intro hd u hu r hr
   obtain ⟨x,hx⟩:=sol_ex hd (fun r'=>if r' = r then 1 else 0)
   have h1:sumTo (fun r'=>u r' * (if r' = r then 1 else 0)) n=u r:=by
    rw [← sum_one u hr]
    exact sumTo_congr fun r' _=>Rat.mul_comm _ _
   have h2:sumTo (fun r'=>u r' * (if r' = r then 1 else 0)) n=sumTo (fun r'=>sumTo (fun c=>x c*(u r' * M c r')) n) n:=sumTo_congr fun r' hr'=>by
    rw [← hx r' hr',← Yb]
    exact sumTo_congr fun c _=>by grind
   rw [← h1,h2,Wd]
   refine Yk fun c hc=>?_
   rw [Yb,hu c hc,Rat.mul_zero]
 · intro h hd
   obtain ⟨u,⟨r,hr,h0⟩,hu⟩:=left_ker n M hd
   exact h0 (h u hu r hr)
theorem det_rev {n:Nat} {M:Nat→Nat→Rat}:det n (fun c=>M (n-1-c))≠0↔det n M≠0:=by
 rw [left_triv,left_triv]
 constructor
 · intro h u hu
   exact h u fun c hc=>hu (n-1-c) (by omega)
 · intro h u hu
   refine h u fun c hc=>?_
   have:=hu (n-1-c) (by omega)
   rw [show n-1-(n-1-c)=c by omega] at this
   exact this
def rowI (n:Nat) (sets:List Nat) (k:Nat):List Int:=(List.range n).map (fun i=>if k<sets.length then (if (sets.getD k 0).testBit i then 1 else 0) else if i=k-sets.length then 1 else 0)++[if k<sets.length then 1 else 0]
theorem rowI_len (n:Nat) (sets:List Nat) (k:Nat):(rowI n sets k).length=n+1:=by simp [rowI]
theorem rowI_01 {n:Nat} {sets:List Nat} {k:Nat} : ∀ y∈rowI n sets k,y=0∨y=1:=fun y hy=>by
 rw [rowI,List.mem_append,List.mem_map,List.mem_singleton] at hy
 rcases hy with ⟨i,_,rfl⟩ | rfl
 · split <;> split <;> simp
 · split <;> simp
theorem rowI_get {n:Nat} {sets:List Nat} {k c:Nat} (hc:c<n):(((rowI n sets k).getD c 0:Int):Rat)=rowA sets k c:=by
 rw [rowI,List.getD,List.getElem?_append_left (by simpa using hc),List.getElem?_map,List.getElem?_range hc]
 simp only [Option.map_some,Option.getD_some]
 rw [rowA,bitQ]
 split <;> split <;> rfl
theorem rowI_end (n:Nat) (sets:List Nat) (k:Nat):(((rowI n sets k).getD n 0:Int):Rat)=rhsA sets k:=by
 rw [rowI,List.getD,List.getElem?_append_right (by simp)]
 simp only [List.length_map,List.length_range,Nat.sub_self,List.getElem?_cons_zero,Option.getD_some]
 rw [rhsA]
 split <;> rfl
def Wv (n:Nat) (sets B:List Nat):List (List Int):=B.map (rowI n sets)
theorem rowsI_get {n:Nat} {sets B:List Nat} {r:Nat} (hr:r<B.length):(Wv n sets B).getD r []=rowI n sets (B.getD r 0):=by
 rw [Wv,List.getD,List.getElem?_map,List.getD,List.getElem?_eq_getElem hr]; rfl
theorem pdet_row {n:Nat} {sets B:List Nat} (hl:B.length=n):pdet n (Wv n sets B)≠0↔det n (fun c r=>Wq (rowA sets) B r c)≠0:=by
 have h1:=pdet_det n (Wv n sets B) (by rw [Wv,List.length_map,hl])
 have h2:det n (colsOf n (Wv n sets B))=det n (fun c=>(fun c r=>Wq (rowA sets) B r c) (n-1-c)):=Xl _ fun c r hc hr=>by
  rw [colsOf,rowsI_get (by omega),rowI_get (by omega)]; rfl
 rw [← det_rev (M:=fun c r=>Wq (rowA sets) B r c),← h2]
 have hτ:tau n≠0:=fun h=>by have:=tau_sq n; rw [h] at this; simp at this
 constructor
 · intro h hc
   rw [hc,Rat.mul_zero] at h1
   exact h (Rat.intCast_eq_zero_iff.1 h1)
 · intro h hc
   rw [hc] at h1
   rcases Rat.mul_eq_zero.1 h1.symm with h3 | h3
   · exact hτ h3
   · exact h h3
theorem leaf_none {n:Nat} {sets B:List Nat} (h:pdet n (Wv n sets B)=0) : ∀ x,¬ Corner n sets B x:=fun x c=>(pdet_row c.len).2 c.det h
theorem leaf_some {n:Nat} {sets B:List Nat} (hl:B.length=n) (h:pdet n (Wv n sets B)≠0) : ∃ y:Nat→Rat,(∀ j,j<n→((pdet n ((Wv n sets B).map (putR n j)):Int):Rat)=y j*((pdet n (Wv n sets B):Int):Rat)) ∧
  (∀ r,r<n→sumTo (fun c=>y c*Wq (rowA sets) B r c) n=rhsA sets (B.getD r 0))∧∀ x,Corner n sets B x→∀ i,i<n→x i=y i:=by
 have hd:=(pdet_row hl).1 h
 obtain ⟨y,hy⟩:=sol_ex hd fun r=>rhsA sets (B.getD r 0)
 refine ⟨y,fun j hj=>?_,hy,fun x c i hi=>Classical.byContradiction fun hne=>?_⟩
 · refine pdet_cram (by rw [Wv,List.length_map,hl]) (fun r hr=>by
    obtain ⟨k,_,rfl⟩:=List.mem_map.1 hr; exact rowI_len n sets k) (fun r hr=>?_) hj
   rw [rowsI_get (by omega),rowI_end,← hy r hr]
   exact sumTo_congr fun c hc=>by rw [rowI_get hc]; rfl
 · refine hd (ker_det (x:=fun c=>x c-y c) hi (fun hc=>hne (by grind)) fun r hr=>?_)
   have h1:=c.sol r hr
   have h2:=hy r hr
   have e:sumTo (fun c=>(x c-y c)*Wq (rowA sets) B r c) n=sumTo (fun c=>x c*Wq (rowA sets) B r c) n+(-1)*sumTo (fun c=>y c*Wq (rowA sets) B r c) n:=by
    rw [← Yb,← Xm]
    exact sumTo_congr fun c _=>by grind
   rw [e,h1,h2]; grind
end Bq
