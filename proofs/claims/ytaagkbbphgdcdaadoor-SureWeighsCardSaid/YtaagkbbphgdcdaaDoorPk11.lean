/-
  sure: the tableau in memory; the first column that helps, and the first row that stops it.
  sure: the simplex method walked: which row stops a column.
  sure: the simplex method walked: one turn.
  sure: the simplex method walked: turn by turn.
  sure: the simplex method walked: a row is laid.
  sure: the simplex method walked: what is to be as great as can be; the first tableau; Greatest.
  sure: Greatest walked.
-/
import Derived.Test.YtaagkbbphgdcdaaDoorPk10
import Derived.Test.YtaagkbbphgdcdaaDoorPk9
import Derived.Test.YtaagkbbphgdcdaaDoorPk7
set_option linter.all false
namespace Go.Proofs.Tryd.Am
open Go.Am Sr
set_option maxRecDepth 100000
set_option maxHeartbeats 4000000
theorem rnum_le {q:Rat}:q.num≤0↔q≤0:=by rw [Rat.le_iff]; simp
theorem rnum_pos {q:Rat}:0<q.num↔0<q:=by rw [Rat.lt_iff]; simp
structure TM (H z:Zi) (n m:Nat) (tv:Value) (bt bb bg:Nat) (ys:List Int) (rb:Nat→Nat) (t:Nat→Nat→Rat) (g:Nat→Rat) (base:Nat→Nat):Prop where
 ext:Ext (fun _=>False) H z
 tS:ValSl z tv ((List.range m).map fun i=>smV (rb i) (n+m+1))
 bl:Yf tv=some bt
 tb : ∃ c,z[bt]? = some (.cells c 50 false)
 row : ∀ i,i<m→z[rb i]? = some (smB (t i) (n+m+1))
 gn:z[bg]? = some (smB g (n+m+1))
 bs:z[bb]? = some (.ints ((List.range m).map (fun i=>((base i:Nat):Int))++ys) 3 false)
 inj : ∀ i k,i<m→k<m→rb i=rb k→i=k
 rg : ∀ i,i<m→rb i≠bg
 nr : ∀ i,i<m→H.length≤rb i
 ng:H.length≤bg
 nb:H.length≤bb
abbrev bsV (bb m:Nat) (ys:List Int):Value:=.slice (some ⟨bb,0,some 0⟩) m (m+ys.length)
section
variable {H z z1:Zi} {n m:Nat} {tv:Value} {bt bb bg:Nat} {ys:List Int} {rb:Nat→Nat} {t:Nat→Nat→Rat} {g:Nat→Rat} {base:Nat→Nat}
theorem TM.more (s:TM H z n m tv bt bb bg ys rb t g base) (hE:Ext (fun _=>False) z z1):TM H z1 n m tv bt bb bg ys rb t g base:=by
 have o : ∀ {b B},z[b]? = some B→z1[b]? = some B:=fun hb=>(hE.2 _ (Yb hb) id).trans hb
 obtain ⟨c,hc⟩:=s.tb
 exact ⟨s.ext.trans hE,s.tS.ext hE,s.bl,⟨c,o hc⟩,fun i hi=>o (s.row i hi),o s.gn,o s.bs,s.inj,s.rg,s.nr,s.ng,s.nb⟩
theorem TM.set (s:TM H z n m tv bt bb bg ys rb t g base) {b:Nat} (hb:H.length≤b) (hE:Ext (fun i=>i=b) z z1) (hbt:bt≠b) {t' : Nat→Nat→Rat} {g' : Nat→Rat} {base' : Nat→Nat}
  (hr : ∀ i,i<m→z1[rb i]? = some (smB (t' i) (n+m+1))) (hg:z1[bg]? = some (smB g' (n+m+1))) (hs:z1[bb]? = some (.ints ((List.range m).map (fun i=>((base' i:Nat):Int))++ys) 3 false)):TM H z1 n m tv bt bb bg ys rb t' g' base':=by
 obtain ⟨c,hc⟩:=s.tb
 refine ⟨⟨Nat.le_trans s.ext.1 hE.1,fun q hq _=>?_⟩,s.tS.same fun x hx=>?_,s.bl,⟨c,(hE.2 _ (Yb hc) hbt).trans hc⟩,hr,hg,hs,s.inj,s.rg,s.nr,s.ng,s.nb⟩
 · rw [hE.2 q (Nat.lt_of_lt_of_le hq s.ext.1) (by omega)]; exact s.ext.2 q hq id
 · rw [s.bl] at hx
   obtain rfl:bt=x:=Option.some.inj hx
   exact hE.2 _ (Yb hc) hbt
theorem TM.neb (s:TM H z n m tv bt bb bg ys rb t g base) {i:Nat} (hi:i<m):rb i≠bb:=fun h=>by
 have h1:=s.row i hi
 rw [h,s.bs] at h1; cases h1
theorem TM.net (s:TM H z n m tv bt bb bg ys rb t g base) {i:Nat} (hi:i<m):bt≠rb i:=fun h=>by
 obtain ⟨c,hc⟩:=s.tb
 have h1:=s.row i hi
 rw [← h,hc] at h1; cases h1
theorem TM.gnb (s:TM H z n m tv bt bb bg ys rb t g base):bg≠bb:=fun h=>by
 have h1:=s.gn
 rw [h,s.bs] at h1; cases h1
theorem TM.gnt (s:TM H z n m tv bt bb bg ys rb t g base):bt≠bg:=fun h=>by
 obtain ⟨c,hc⟩:=s.tb
 have h1:=s.gn
 rw [← h,hc] at h1; cases h1
theorem TM.bnt (s:TM H z n m tv bt bb bg ys rb t g base):bt≠bb:=fun h=>by
 obtain ⟨c,hc⟩:=s.tb
 have h1:=s.bs
 rw [← h,hc] at h1; cases h1
theorem TM.setR (s:TM H z n m tv bt bb bg ys rb t g base) {i:Nat} (hi:i<m) {f:Nat→Rat} (hf:z1[rb i]? = some (smB f (n+m+1))) (hE:Ext (fun b=>b=rb i) z z1):TM H z1 n m tv bt bb bg ys rb (fun k=>if k=i then f else t k) g base:=by
 refine s.set (s.nr i hi) hE (s.net hi) (fun k hk=>?_) ((hE.2 _ (Yb s.gn) (Ne.symm (s.rg i hi))).trans s.gn) ((hE.2 _ (Yb s.bs) (Ne.symm (s.neb hi))).trans s.bs)
 by_cases hki:k=i
 · subst hki; rw [if_pos rfl]; exact hf
 · rw [if_neg hki]
   exact (hE.2 _ (Yb (s.row k hk)) fun h=>hki (s.inj k i hk hi h)).trans (s.row k hk)
theorem TM.setG (s:TM H z n m tv bt bb bg ys rb t g base) {f:Nat→Rat} (hf:z1[bg]? = some (smB f (n+m+1))) (hE:Ext (fun b=>b=bg) z z1):TM H z1 n m tv bt bb bg ys rb t f base :=
 s.set s.ng hE s.gnt (fun k hk=>(hE.2 _ (Yb (s.row k hk)) (s.rg k hk)).trans (s.row k hk)) hf ((hE.2 _ (Yb s.bs) (Ne.symm s.gnb)).trans s.bs)
theorem TM.congr (s:TM H z n m tv bt bb bg ys rb t g base) {t' : Nat→Nat→Rat} {g' : Nat→Rat} {base' : Nat→Nat} (ht : ∀ i j,i<m→j<n+m+1→t i j=t' i j) (hg : ∀ j,j<n+m+1→g j=g' j) (hb : ∀ i,i<m→base i=base' i):TM H z n m tv bt bb bg ys rb t' g' base':=by
 refine ⟨s.ext,s.tS,s.bl,s.tb,fun i hi=>?_,?_,?_,s.inj,s.rg,s.nr,s.ng,s.nb⟩
 · rw [s.row i hi,smB,smB,smR_congr (ht i · hi)]
 · rw [s.gn,smB,smB,smR_congr hg]
 · rw [s.bs]
   have:(List.range m).map (fun i=>((base i:Nat):Int))=(List.range m).map fun i=>((base' i:Nat):Int):=List.map_congr_left fun i hi=>by rw [hb i (List.mem_range.1 hi)]
   rw [this]
theorem TM.idx (s:TM H z n m tv bt bb bg ys rb t g base) {i:Nat} (hi:i<m) (K:Value→Prop):Xc prog 89 tv (.int .i64 i) K=K (Wj tv 1 i):=s.tS.idx el_89 esz_50 (by simpa using hi) K
theorem TM.ld (s:TM H z n m tv bt bb bg ys rb t g base) {i:Nat} (hi:i<m) (K:Value→Prop):Xu prog z 50 (Wj tv 1 i) K=K (smV (rb i) (n+m+1)):=by
 rw [s.tS.load shp_50 (by simpa using hi),List.getD,List.getElem?_map,List.getElem?_range hi]; rfl
theorem TM.bInt (s:TM H z n m tv bt bb bg ys rb t g base):IntSl z (bsV bb m ys) ((List.range m).map fun i=>((base i:Nat):Int)):=by
 have:OwnSl 3 z (bsV bb m ys) ((List.range m).map fun i=>((base i:Nat):Int)):=.inr ⟨bb,ys,by simp,s.bs⟩
 exact this.int
theorem TM.bIdx (s:TM H z n m tv bt bb bg ys rb t g base) {i:Nat} (hi:i<m) (K:Value→Prop):Xc prog 22 (bsV bb m ys) (.int .i64 i) K=K (.pointer (some ⟨bb,i,none⟩)):=by
 rw [s.bInt.idx Xv Xg (by simpa using hi)]
 simp [Wj]
theorem TM.bLd (s:TM H z n m tv bt bb bg ys rb t g base) {i:Nat} (hi:i<m) (K:Value→Prop):Xu prog z 3 (.pointer (some ⟨bb,i,none⟩)) K=K (Zd (base i:Nat)):=by
 have h1:=s.bInt.load (P:=prog) Xl (i:=i) (by simpa using hi) K
 rw [List.getD,List.getElem?_map,List.getElem?_range hi] at h1
 simpa [Wj] using h1
end
theorem sm_in [Tabs prog] {z:Zi} {n m bg:Nat} {g:Nat→Rat} {e4 e6 e7:Value} (hg:z[bg]? = some (smB g (n+m+1))) (hW:n+m<1099511627776) {N:Env→Zi→Prop} {Q0:Exit→Env→Zi→Prop}
  (hN0 : ∀ e k,k≤n+m→(∀ j,j<k→g j≤0)→(k=n+m∨0<g k)→ELe e [(0,Zd (n:Nat)),(4,e4),(5,Zd (m:Nat)),(6,e6),(7,e7),(12,smV bg (n+m+1)),(14,Zd (k:Nat))]→N e z) :
  AWS prog 253 (.block 8 (.loop l67_3)) (Zf N Q0) [(0,Zd (n:Nat)),(4,e4),(5,Zd (m:Nat)),(6,e6),(7,e7),(12,smV bg (n+m+1)),(14,.int .i64 0)] z:=by
 have hnm:addV .i64 (n:Int) (m:Int)=((n+m:Nat):Int):=by rw [Wl (by omega) (by omega)]; omega
 refine Zr ?_
 refine Zp fun Q hQ=>?_
 refine Yu (γ:=Nat) (fun s=>s≤n+m∧∀ j,j<s→g j≤0)
  (fun s=>([(0,Zd (n:Nat)),(4,e4),(5,Zd (m:Nat)),(6,e6),(7,e7),(12,smV bg (n+m+1)),(14,Zd (s:Nat))],z)) (fun s=>n+m-s) 0 ⟨Nat.zero_le _,fun j hj=>by omega⟩ (by simp (maxSteps:=2000000) only [vup,cond_true,cond_false,Nat.reduceBEq,Int.natCast_zero]) rfl ?_
 rintro k ⟨hk,hl⟩
 refine Zp fun Q2 hQ2=>?_
 simp only [l67_3]
 refine Zo fun A hA=>?_
 by_cases hin:k<n+m
 · have h1:decide ((k:Int)<((n+m:Nat):Int))=true:=decide_eq_true (by omega)
   by_cases hle:(g k).num≤0
   · have h2:decide ((g k).num≤0)=true:=decide_eq_true hle
     refine Zg fun N1 hN1=>?_
     simp (maxSteps:=2000000) only [↓Za,↓Zb,↓Zc,↓vdn,vup,cond_true,cond_false,aop,Zf,ev,sput,Ze,Zx,Ya,Nat.reduceBEq,tyf,hnm,h1,smIdx hg (show k<n+m+1 by omega),smFld0,smNum hg (show k<n+m+1 by omega),h2]
     refine hN1 [(0,Zd (n:Nat)),(4,e4),(5,Zd (m:Nat)),(6,e6),(7,e7),(12,smV bg (n+m+1)),(14,Zd (k:Nat)),(119,.bool true)] _ _ ?_ (by simp (maxSteps:=2000000) only [vup,cond_true,cond_false,Nat.reduceBEq])
     clear hN1
     try clear N1
     refine Yp rfl ?_
     refine Zm ?_
     simp (maxSteps:=2000000) only [↓Zn,Zf]
     refine hA [(0,Zd (n:Nat)),(4,e4),(5,Zd (m:Nat)),(6,e6),(7,e7),(12,smV bg (n+m+1)),(14,Zd (k:Nat))] _ _ ?_ (by simp (maxSteps:=2000000) only [vup,cond_true,cond_false,Nat.reduceBEq])
     clear hA
     try clear A
     refine Zm ?_
     simp (maxSteps:=2000000) only [↓Za,↓Ym,↓Zb,↓Zc,vup,cond_true,cond_false,aop,Zk,ev,sput,Ze,Zx,Ya,Nat.reduceBEq,Wx (show k<9223372036854775807 by omega)]
     exact hQ2 _ _ _ ⟨k+1,⟨hin,fun j hj=>if hjk:j<k then hl j hjk else (show k=j by omega)▸rnum_le.1 hle⟩,by omega,by simp (maxSteps:=2000000) only [vup,cond_true,cond_false,Nat.reduceBEq],rfl⟩
   · have h2:decide ((g k).num≤0)=false:=decide_eq_false hle
     refine Zg fun N2 hN2=>?_
     simp (maxSteps:=2000000) only [↓Za,↓Zb,↓Zc,↓vdn,vup,cond_true,cond_false,aop,Zf,ev,sput,Ze,Zx,Ya,Nat.reduceBEq,tyf,hnm,h1,smIdx hg (show k<n+m+1 by omega),smFld0,smNum hg (show k<n+m+1 by omega),h2]
     refine hN2 [(0,Zd (n:Nat)),(4,e4),(5,Zd (m:Nat)),(6,e6),(7,e7),(12,smV bg (n+m+1)),(14,Zd (k:Nat)),(119,.bool false)] _ _ ?_ (by simp (maxSteps:=2000000) only [vup,cond_true,cond_false,Nat.reduceBEq])
     clear hN2
     try clear N2
     refine Yh rfl ?_
     refine Zm ?_
     simp (maxSteps:=2000000) only [↓Yi,Zf]
     refine hQ2 _ _ _ (hQ _ _ _ ?_)
     simp (maxSteps:=2000000) only [Zf,Zk,if_true]
     exact hN0 _ k hk hl (.inr (rnum_pos.1 (by omega))) (by simp (maxSteps:=2000000) only [vup,cond_true,cond_false,Nat.reduceBEq])
 · have h1:decide ((k:Int)<((n+m:Nat):Int))=false:=decide_eq_false (by omega)
   refine Zg fun N3 hN3=>?_
   simp (maxSteps:=2000000) only [↓Za,↓Zb,↓Zc,↓vdn,vup,cond_true,cond_false,aop,Zf,ev,sput,Ze,Zx,Ya,Nat.reduceBEq,hnm,h1]
   refine hN3 [(0,Zd (n:Nat)),(4,e4),(5,Zd (m:Nat)),(6,e6),(7,e7),(12,smV bg (n+m+1)),(14,Zd (k:Nat)),(119,.bool false)] _ _ ?_ (by simp (maxSteps:=2000000) only [vup,cond_true,cond_false,Nat.reduceBEq])
   clear hN3
   try clear N3
   refine Yh rfl ?_
   refine Zm ?_
   simp (maxSteps:=2000000) only [↓Yi,Zf]
   refine hQ2 _ _ _ (hQ _ _ _ ?_)
   simp (maxSteps:=2000000) only [Zf,Zk,if_true]
   exact hN0 _ k hk hl (.inl (by omega)) (by simp (maxSteps:=2000000) only [vup,cond_true,cond_false,Nat.reduceBEq])
theorem sm_quot {a b:Rat} (ha:Bq.Sml a) (hb:Bq.Sml b) (h0:b≠0):(a / b).num.natAbs≤3628800∧(a / b).den≤3628800:=by
 have hn:b.num≠0:=fun hc=>h0 (Rat.num_eq_zero.1 hc)
 have h3:=Bq.natAbs_divInt_num_le (a.num*b.den) (y:=(a.den:Int)*b.num) (Int.mul_ne_zero (by have:=a.den_nz; omega) hn)
 rw [sm_div h0,Int.natAbs_mul,Int.natAbs_mul,Int.natAbs_natCast,Int.natAbs_natCast] at h3
 exact ⟨Nat.le_trans h3.1 (Nat.mul_le_mul ha.1 hb.2),Nat.le_trans h3.2 (Nat.mul_le_mul ha.2 hb.1)⟩
theorem smless [Tabs prog] {h:Zi} {a b:Rat} (ha:a.num.natAbs≤3628800∧a.den≤3628800) (hb:b.num.natAbs≤3628800∧b.den≤3628800):Wi prog 37 [qV a,qV b] h (.bool (decide (a<b))):=by
 have h1:(a.num*(b.den:Int)).natAbs≤3628800*3628800:=by
  rw [Int.natAbs_mul,Int.natAbs_natCast]; exact Nat.mul_le_mul ha.1 hb.2
 have h2:(b.num*(a.den:Int)).natAbs≤3628800*3628800:=by
  rw [Int.natAbs_mul,Int.natAbs_natCast]; exact Nat.mul_le_mul hb.1 ha.2
 have:=rless_call (h:=h) (a:=a.num) (b:=(a.den:Int)) (c:=b.num) (d:=(b.den:Int)) (by omega) (by omega)
 rwa [← decide_eq_decide.2 (Rat.lt_iff (a:=a) (b:=b))] at this
def BestR (t:Nat→Nat→Rat) (base:Nat→Nat) (N e i:Nat):Option Nat→Prop
 | none=>∀ k,k<i→t k e≤0
 | some o=>o<i∧0<t o e∧∀ k,k<i→0<t k e→t o N / t o e≤t k N / t k e∧(t o N / t o e=t k N / t k e→base o≤base k)
def outI:Option Nat→Int
 | none=>-1
 | some o=>(o:Int)
def takeB (t:Nat→Nat→Rat) (base:Nat→Nat) (N e i:Nat):Option Nat→Bool
 | none=>true
 | some o=>decide (t i N / t i e<t o N / t o e) || (decide (t i N / t i e=t o N / t o e)&&decide (base i<base o))
section
variable {t:Nat→Nat→Rat} {base:Nat→Nat} {N e i:Nat} {o:Option Nat}
theorem BestR.skip (h:BestR t base N e i o) (h0:t i e≤0):BestR t base N e (i+1) o:=by
 cases o with
 | none =>
   intro k hk
   by_cases hki:k<i
   · exact h k hki
   · obtain rfl:k=i:=by omega
     exact h0
 | some o =>
   obtain ⟨h1,h2,h3⟩:=h
   refine ⟨by omega,h2,fun k hk hp=>?_⟩
   by_cases hki:k<i
   · exact h3 k hki hp
   · obtain rfl:k=i:=by omega
     grind
theorem BestR.take (h:BestR t base N e i o) (h0:0<t i e) (ht:takeB t base N e i o=true):BestR t base N e (i+1) (some i):=by
 refine ⟨by omega,h0,fun k hk hp=>?_⟩
 by_cases hki:k<i
 · cases o with
   | none =>
     have:=h k hki
     grind
   | some o =>
     obtain ⟨h1,h2,h3⟩:=h
     obtain ⟨h4,h5⟩:=h3 k hki hp
     simp only [takeB,Bool.or_eq_true,decide_eq_true_eq,Bool.and_eq_true] at ht
     rcases ht with ht | ⟨ht1,ht2⟩
     · exact ⟨by grind,fun hc=>by grind⟩
     · rw [ht1]
       exact ⟨h4,fun hc=>Nat.le_trans (Nat.le_of_lt ht2) (h5 hc)⟩
 · obtain rfl:k=i:=by omega
   exact ⟨Rat.le_refl,fun _=>Nat.le_refl _⟩
theorem BestR.keep {o:Nat} (h:BestR t base N e i (some o)) (ht:takeB t base N e i (some o)=false):BestR t base N e (i+1) (some o):=by
 obtain ⟨h1,h2,h3⟩:=h
 refine ⟨by omega,h2,fun k hk hp=>?_⟩
 by_cases hki:k<i
 · exact h3 k hki hp
 · obtain rfl:k=i:=by omega
   simp only [takeB,Bool.or_eq_false_iff,decide_eq_false_iff_not,Bool.and_eq_false_iff] at ht
   obtain ⟨h4,h5⟩:=ht
   refine ⟨by grind,fun hc=>?_⟩
   rcases h5 with h5 | h5
   · exact absurd hc.symm h5
   · omega
end
end Go.Proofs.Tryd.Am
namespace Go.Proofs.Tryd.Am
open Go.Am Sr
set_option maxRecDepth 100000
set_option maxHeartbeats 8000000
theorem frEq {a b:Rat}:(([a.num,(a.den:Int)]:List Int)==[b.num,(b.den:Int)])=decide (a=b):=by
 rw [Bool.eq_iff_iff,beq_iff_eq,decide_eq_true_eq]
 constructor
 · intro h
   simp at h
   exact Rat.ext h.1 (by have:=h.2; omega)
 · rintro rfl; rfl
theorem outI_lt {o:Nat}:decide (outI (some o)<0)=false:=decide_eq_false (by unfold outI; simp only; omega)
theorem outI_no:decide (outI none<0)=true:=rfl
theorem sm_out [Tabs prog] {H z y0:Zi} {n m e b16:Nat} {tv e4:Value} {bt bb bg:Nat} {ys:List Int} {rb:Nat→Nat} {t:Nat→Nat→Rat} {g:Nat→Rat} {base:Nat→Nat} (s:TM H z n m tv bt bb bg ys rb t g base) (hs : ∀ i j,i<m→j≤n+m→Bq.Sml (t i j)) (he:e<n+m) (hW:n+m<1099511627776) (h16:z.length≤b16)
  (hy0:Ext (fun _=>False) z y0) (c16:y0[b16]? = some z0) {N:Env→Zi→Prop} {Q0:Exit→Env→Zi→Prop}
  (hN0 : ∀ e' y o,Ext (fun _=>False) z y→BestR t base (n+m) e m o→ELe e' [(0,Zd (n:Nat)),(4,e4),(5,Zd (m:Nat)),(6,tv),(7,bsV bb m ys),(12,smV bg (n+m+1)),(14,Zd (e:Nat)),(15,Zd (outI o))]→N e' y) :
  AWS prog 253 (.seq q67_33 (.block 10 (.loop l67_4))) (Zf N Q0) [(0,Zd (n:Nat)),(4,e4),(5,Zd (m:Nat)),(6,tv),(7,bsV bb m ys),(12,smV bg (n+m+1)),(14,Zd (e:Nat)),(15,.int .i64 (-1)),(16,pT b16)] y0:=by
 have hnm:addV .i64 (n:Int) (m:Int)=((n+m:Nat):Int):=by rw [Wl (by omega) (by omega)]; omega
 have hst : ∀ (y:Zi) (q:Rat) (K:Zi→Prop),Xp prog (y++[z0]) 44 (.pointer (some ⟨y.length,0,none⟩)) (qV q) K=K (y++[fC q.num q.den]):=fun y q K=>by
  rw [qV,frV,Wq (Yk y z0) rfl,set_new]
 have hlen:=(s.more hy0).tS.len
 rw [List.length_map,List.length_range] at hlen
 refine Zg fun N1 hN1=>?_
 simp (maxSteps:=2000000) only [↓Za,↓Zb,↓Zc,vup,List.map_cons,List.map_nil,cond_true,cond_false,aop,Zf,ev,sput,Ze,Zj,Nat.reduceBEq,hlen,isl_89]
 refine hN1 [(0,Zd (n:Nat)),(4,e4),(5,Zd (m:Nat)),(6,tv),(7,bsV bb m ys),(12,smV bg (n+m+1)),(14,Zd (e:Nat)),(15,.int .i64 (-1)),(16,pT b16),(135,tv),(136,Zd (m:Nat)),(137,.int .i64 0)] _ _ ?_ (by simp (maxSteps:=2000000) only [vup,cond_true,cond_false,Nat.reduceBEq])
 clear hN1
 try clear N1
 refine Zr ?_
 refine Zp fun Q hQ=>?_
 refine Yu (γ:=Nat×Option Nat×Zi) (fun q=>q.1≤m∧BestR t base (n+m) e q.1 q.2.1∧Ext (fun _=>False) z q.2.2∧∃ u w:Int,q.2.2[b16]? = some (fC u w)∧∀ o,q.2.1=some o→u=(t o (n+m) / t o e).num∧w=((t o (n+m) / t o e).den:Int))
  (fun q=>([(0,Zd (n:Nat)),(4,e4),(5,Zd (m:Nat)),(6,tv),(7,bsV bb m ys),(12,smV bg (n+m+1)),(14,Zd (e:Nat)),(15,Zd (outI q.2.1)),(16,pT b16),(135,tv),(136,Zd (m:Nat)),(137,Zd (q.1:Nat))],q.2.2)) (fun q=>m-q.1) (0,none,y0) ⟨Nat.zero_le _,fun k hk=>by omega,hy0,0,0,c16,nofun⟩ (by simp (maxSteps:=2000000) only [vup,cond_true,cond_false,Nat.reduceBEq,Int.natCast_zero,outI]) rfl ?_
 clear hlen c16
 rintro ⟨i,o,y⟩ ⟨hi,hbest,hE,u,w,c16,huw⟩
 simp only at hi hbest hE c16 huw
 refine Zp fun Q2 hQ2=>?_
 simp only [l67_4]
 have sy:=s.more hE
 by_cases hin:(i:Int)<m
 · have hi' : i<m:=by omega
   have row:=sy.row i hi'
   have hep:e<n+m+1:=by omega
   refine Zg fun N2 hN2=>?_
   simp (maxSteps:=2000000) only [↓Za,↓Zb,↓Zc,vup,cond_true,cond_false,aop,Zf,ev,sput,Ze,Zx,Ya,Nat.reduceBEq,hin]
   refine hN2 [(0,Zd (n:Nat)),(4,e4),(5,Zd (m:Nat)),(6,tv),(7,bsV bb m ys),(12,smV bg (n+m+1)),(14,Zd (e:Nat)),(15,Zd (outI o)),(16,pT b16),(135,tv),(136,Zd (m:Nat)),(137,Zd (i:Nat)),(138,.bool true)] _ _ ?_ (by simp (maxSteps:=2000000) only [vup,cond_true,cond_false,Nat.reduceBEq])
   clear hN2
   try clear N2
   refine Zg fun N3 hN3=>?_
   simp (maxSteps:=2000000) only [↓Zn,↓vdn,vup,cond_true,cond_false,Zf,ev,Nat.reduceBEq]
   refine hN3 [(0,Zd (n:Nat)),(4,e4),(5,Zd (m:Nat)),(6,tv),(7,bsV bb m ys),(12,smV bg (n+m+1)),(14,Zd (e:Nat)),(15,Zd (outI o)),(16,pT b16),(135,tv),(136,Zd (m:Nat)),(137,Zd (i:Nat))] _ _ ?_ (by simp (maxSteps:=2000000) only [vup,cond_true,cond_false,Nat.reduceBEq])
   clear hN3
   try clear N3
   refine Zo fun B hB=>?_
   refine Zr ?_
   refine Zg fun N4 hN4=>?_
   simp (maxSteps:=2000000) only [↓Za,↓Zb,↓Zc,vup,cond_true,cond_false,aop,Zf,ev,sput,Ze,Nat.reduceBEq]
   refine hN4 [(0,Zd (n:Nat)),(4,e4),(5,Zd (m:Nat)),(6,tv),(7,bsV bb m ys),(12,smV bg (n+m+1)),(14,Zd (e:Nat)),(15,Zd (outI o)),(16,pT b16),(17,Zd (i:Nat)),(135,tv),(136,Zd (m:Nat)),(137,Zd (i:Nat))] _ _ ?_ (by simp (maxSteps:=2000000) only [vup,cond_true,cond_false,Nat.reduceBEq])
   clear hN4
   try clear N4
   refine Zo fun C hC=>?_
   by_cases hle:(t i e).num≤0
   · have h2:decide ((t i e).num≤0)=true:=decide_eq_true hle
     refine Zg fun N5 hN5=>?_
     simp (maxSteps:=2000000) only [↓Za,↓Zb,↓Zc,vup,cond_true,cond_false,aop,Zf,ev,sput,Ze,Zx,Ya,Nat.reduceBEq,tyf,sy.idx hi',sy.ld hi',smIdx row hep,smFld0,smNum row hep,h2]
     refine hN5 [(0,Zd (n:Nat)),(4,e4),(5,Zd (m:Nat)),(6,tv),(7,bsV bb m ys),(12,smV bg (n+m+1)),(14,Zd (e:Nat)),(15,Zd (outI o)),(16,pT b16),(17,Zd (i:Nat)),(135,tv),(136,Zd (m:Nat)),(137,Zd (i:Nat)),(148,.bool true)] _ _ ?_ (by simp (maxSteps:=2000000) only [vup,cond_true,cond_false,Nat.reduceBEq])
     clear hN5
     try clear N5
     refine Yp rfl ?_
     refine Zm ?_
     simp (maxSteps:=2000000) only [↓Yi,Zf,Zk,if_true]
     refine hB [(0,Zd (n:Nat)),(4,e4),(5,Zd (m:Nat)),(6,tv),(7,bsV bb m ys),(12,smV bg (n+m+1)),(14,Zd (e:Nat)),(15,Zd (outI o)),(16,pT b16),(135,tv),(136,Zd (m:Nat)),(137,Zd (i:Nat))] _ _ ?_ (by simp (maxSteps:=2000000) only [vup,cond_true,cond_false,Nat.reduceBEq])
     clear hB
     try clear B
     refine Zm ?_
     simp (maxSteps:=2000000) only [↓Za,↓Zb,↓Zc,vup,cond_true,cond_false,aop,ev,sput,Ze,Zx,Ya,Nat.reduceBEq,Wx (show i<9223372036854775807 by omega)]
     exact hQ2 _ _ _ ⟨(i+1,o,y),⟨hi',hbest.skip (rnum_le.1 hle),hE,u,w,c16,huw⟩,by simp only; omega,by simp (maxSteps:=2000000) only [vup,cond_true,cond_false,Nat.reduceBEq],rfl⟩
   · have h2:decide ((t i e).num≤0)=false:=decide_eq_false hle
     have hpos:0<t i e:=rnum_pos.1 (by omega)
     have hne:=Bq.ne_of_pos hpos
     refine Zg fun N6 hN6=>?_
     simp (maxSteps:=2000000) only [↓Za,↓Zb,↓Zc,vup,cond_true,cond_false,aop,Zf,ev,sput,Ze,Zx,Ya,Nat.reduceBEq,tyf,sy.idx hi',sy.ld hi',smIdx row hep,smFld0,smNum row hep,h2]
     refine hN6 [(0,Zd (n:Nat)),(4,e4),(5,Zd (m:Nat)),(6,tv),(7,bsV bb m ys),(12,smV bg (n+m+1)),(14,Zd (e:Nat)),(15,Zd (outI o)),(16,pT b16),(17,Zd (i:Nat)),(135,tv),(136,Zd (m:Nat)),(137,Zd (i:Nat)),(148,.bool false)] _ _ ?_ (by simp (maxSteps:=2000000) only [vup,cond_true,cond_false,Nat.reduceBEq])
     clear hN6
     try clear N6
     refine Yh rfl ?_
     refine Zm ?_
     simp (maxSteps:=2000000) only [↓Zn,Zf]
     refine hC [(0,Zd (n:Nat)),(4,e4),(5,Zd (m:Nat)),(6,tv),(7,bsV bb m ys),(12,smV bg (n+m+1)),(14,Zd (e:Nat)),(15,Zd (outI o)),(16,pT b16),(17,Zd (i:Nat)),(135,tv),(136,Zd (m:Nat)),(137,Zd (i:Nat))] _ _ ?_ (by simp (maxSteps:=2000000) only [vup,cond_true,cond_false,Nat.reduceBEq])
     clear hC
     try clear C
     refine Zg fun N7 hN7=>?_
     simp only [q67_37]
     refine aw_drawE (fun _=>True) [(16,2)] 17 18 [3,8,12,15] (by kernel_rfl) (by kernel_rfl) (by kernel_rfl) (by kernel_rfl) (by kernel_rfl) (by rfl) trivial ?_
     simp (maxSteps:=2000000) only [↓dopsR_nil,↓vdn,vup,List.map_cons,List.map_nil,cond_true,cond_false,aop,Zf,ev,sput,Ze,Zx,Ya,Nat.reduceBEq,Nat.reduceAdd,hnm,sy.idx hi',sy.ld hi',smIdx row (show n+m<n+m+1 by omega),smLoad row (show n+m<n+m+1 by omega),smIdx row hep,smLoad row hep,Yt,List.nil_append,List.append_nil]
     refine ⟨qV (t i (n+m) / t i e),fun _ _=>⟨_,_,smover (hs i (n+m) hi' (Nat.le_refl _)) (hs i e hi' (by omega)) hne,rfl,rfl⟩,?_⟩
     simp (maxSteps:=2000000) only [tyf,Xn,Yy,hst]
     have hq1:=sm_quot (hs i (n+m) hi' (Nat.le_refl _)) (hs i e hi' (by omega)) hne
     obtain ⟨ri,hri⟩ : ∃ r,r=t i (n+m) / t i e:=⟨_,rfl⟩
     rw [← hri] at hq1 ⊢
     have hE1:Ext (fun _=>False) y (y++[fC ri.num ri.den]):=Ext.app _ _ _
     have c18:=Yk y (fC ri.num ri.den)
     have d16:=Wy c16 [fC ri.num ri.den]
     have hyl:y.length≠b16:=by have:=Yb c16; omega
     generalize y++[fC ri.num ri.den]=y1 at hE1 c18 d16 ⊢
     generalize y.length=b18 at c18 hyl ⊢
     refine hN7 [(0,Zd (n:Nat)),(4,e4),(5,Zd (m:Nat)),(6,tv),(7,bsV bb m ys),(12,smV bg (n+m+1)),(14,Zd (e:Nat)),(15,Zd (outI o)),(16,pT b16),(17,Zd (i:Nat)),(18,pT b18),(135,tv),(136,Zd (m:Nat)),(137,Zd (i:Nat))] _ _ ?_ (by simp (maxSteps:=2000000) only [vup,cond_true,cond_false,Nat.reduceBEq])
     clear hN7
     try clear N7
     have hE2:=hE.trans hE1
     have s1:=s.more hE2
     have fin : ∀ (b:Bool),b=takeB t base (n+m) e i o→AWS prog 253 (.cond (.tmp 188) q67_39 .skip) (Zk 11 (Zf B Q2)) [(0,Zd (n:Nat)),(4,e4),(5,Zd (m:Nat)),(6,tv),(7,bsV bb m ys),(12,smV bg (n+m+1)),(14,Zd (e:Nat)),(15,Zd (outI o)),(16,pT b16),(17,Zd (i:Nat)),(18,pT b18),(135,tv),(136,Zd (m:Nat)),(137,Zd (i:Nat)),(188,.bool b)] y1:=by
      intro b hb
      cases b with
      | false =>
        refine Yh rfl ?_
        refine Zm ?_
        simp (maxSteps:=2000000) only [↓Zn,Zf,Zk]
        refine hB [(0,Zd (n:Nat)),(4,e4),(5,Zd (m:Nat)),(6,tv),(7,bsV bb m ys),(12,smV bg (n+m+1)),(14,Zd (e:Nat)),(15,Zd (outI o)),(16,pT b16),(135,tv),(136,Zd (m:Nat)),(137,Zd (i:Nat))] _ _ ?_ (by simp (maxSteps:=2000000) only [vup,cond_true,cond_false,Nat.reduceBEq])
        clear hB
        try clear B
        refine Zm ?_
        simp (maxSteps:=2000000) only [↓Za,↓Zb,↓Zc,vup,cond_true,cond_false,aop,ev,sput,Ze,Zx,Ya,Nat.reduceBEq,Wx (show i<9223372036854775807 by omega)]
        cases o with
        | none=>cases hb
        | some o=>exact hQ2 _ _ _ ⟨(i+1,some o,y1),⟨hi',hbest.keep hb.symm,hE2,u,w,d16,huw⟩,by simp only; omega,by simp (maxSteps:=2000000) only [vup,cond_true,cond_false,Nat.reduceBEq],rfl⟩
      | true =>
        refine Yp rfl ?_
        refine Zm ?_
        simp only [q67_39]
        refine Xo [] (by kernel_rfl) (by kernel_rfl) (by kernel_rfl) (by kernel_rfl) ?_
        simp (maxSteps:=2000000) only [↓Yn,↓vdn,vup,cond_true,cond_false,aop,Zf,Zk,ev,sput,Ze,Nat.reduceBEq,Nat.reduceAdd,Wk c18,Wq d16 rfl]
        refine hB [(0,Zd (n:Nat)),(4,e4),(5,Zd (m:Nat)),(6,tv),(7,bsV bb m ys),(12,smV bg (n+m+1)),(14,Zd (e:Nat)),(15,Zd (i:Nat)),(16,pT b16),(135,tv),(136,Zd (m:Nat)),(137,Zd (i:Nat))] _ _ ?_ (by simp (maxSteps:=2000000) only [vup,cond_true,cond_false,Nat.reduceBEq])
        clear hB
        try clear B
        refine Zm ?_
        simp (maxSteps:=2000000) only [↓Za,↓Zb,↓Zc,vup,cond_true,cond_false,aop,ev,sput,Ze,Zx,Ya,Nat.reduceBEq,Wx (show i<9223372036854775807 by omega)]
        have hE3:Ext (fun _=>False) z (y1.set b16 (fC ri.num ri.den)):=⟨by rw [List.length_set]; exact hE2.1,fun q hq _=>by rw [List.getElem?_set_ne (by omega)]; exact hE2.2 q hq id⟩
        exact hQ2 _ _ _ ⟨(i+1,some i,y1.set b16 (fC ri.num ri.den)),⟨hi',hbest.take hpos hb.symm,hE3,ri.num,ri.den,Xh (Yb d16) _,fun o ho=>by cases ho; rw [hri]; exact ⟨rfl,rfl⟩⟩,by simp only; omega,by simp (maxSteps:=2000000) only [vup,cond_true,cond_false,Nat.reduceBEq,outI],rfl⟩
     refine Zg fun N8 hN8=>?_
     simp only [q67_38]
     refine Xo [(5,1)] (by kernel_rfl) (by kernel_rfl) (by kernel_rfl) (by kernel_rfl) ?_
     cases o with
     | none =>
       simp (maxSteps:=2000000) only [↓Yn,↓vdn,vup,cond_true,cond_false,aop,Zf,ev,sput,Ze,Zx,Ya,pickK,Nat.reduceBEq,outI_no]
       refine hN8 [(0,Zd (n:Nat)),(4,e4),(5,Zd (m:Nat)),(6,tv),(7,bsV bb m ys),(12,smV bg (n+m+1)),(14,Zd (e:Nat)),(15,Zd (outI none)),(16,pT b16),(17,Zd (i:Nat)),(18,pT b18),(135,tv),(136,Zd (m:Nat)),(137,Zd (i:Nat)),(188,.bool true)] _ _ ?_ (by simp (maxSteps:=2000000) only [vup,cond_true,cond_false,Nat.reduceBEq])
       clear hN8
       try clear N8
       exact fin true rfl
     | some o =>
       obtain ⟨rfl,rfl⟩:=huw o rfl
       obtain ⟨ho,hpo,_⟩:=hbest
       have hq2:=sm_quot (hs o (n+m) (by omega) (Nat.le_refl _)) (hs o e (by omega) (by omega)) (Bq.ne_of_pos hpo)
       obtain ⟨ro,hro⟩ : ∃ r,r=t o (n+m) / t o e:=⟨_,rfl⟩
       rw [← hro] at hq2 d16
       have htk:takeB t base (n+m) e i (some o)=(decide (ri<ro) || (decide (ri=ro)&&decide (base i<base o))):=by rw [takeB,hri,hro]
       rw [htk] at fin
       have hb4:decide (((base i:Nat):Int)<((base o:Nat):Int))=decide (base i<base o):=decide_eq_decide.2 (by omega)
       have hbo : ∀ K:Value→Prop,Xc prog 22 (bsV bb m ys) (.int .i64 (outI (some o))) K=K (.pointer (some ⟨bb,o,none⟩)):=fun K=>s1.bIdx (show o<m by omega) K
       simp (maxSteps:=2000000) only [↓vdn,vup,List.map_cons,List.map_nil,cond_true,cond_false,aop,ev,sput,Ze,Zx,Ya,pickK,Nat.reduceBEq,Nat.reduceAdd,outI_lt,Wk c18,Wk d16,Yt,List.nil_append,List.append_nil]
       refine ⟨_,_,smless hq1 hq2,rfl,?_⟩
       cases hlt:decide (ri<ro) with
       | true =>
         simp (maxSteps:=2000000) only [↓Yn,↓vdn,vup,cond_true,cond_false,aop,Zf,ev,sput,Ze,pickK,Nat.reduceBEq]
         refine hN8 [(0,Zd (n:Nat)),(4,e4),(5,Zd (m:Nat)),(6,tv),(7,bsV bb m ys),(12,smV bg (n+m+1)),(14,Zd (e:Nat)),(15,Zd (outI (some o))),(16,pT b16),(17,Zd (i:Nat)),(18,pT b18),(135,tv),(136,Zd (m:Nat)),(137,Zd (i:Nat)),(188,.bool true)] _ _ ?_ (by simp (maxSteps:=2000000) only [vup,cond_true,cond_false,Nat.reduceBEq])
         clear hN8
         try clear N8
         exact fin true (by rw [hlt]; rfl)
       | false =>
         cases heq:decide (ri=ro) with
         | false =>
           simp (maxSteps:=2000000) only [↓Yn,↓vdn,vup,cond_true,cond_false,aop,Zf,ev,sput,Ze,Zx,Ya,pickK,Nat.reduceBEq,Nat.reduceAdd,tyf,Wk c18,Wk d16,Xa,Option.map_some,List.length_cons,List.length_nil,Nat.zero_add,eqF,frEq,heq]
           refine hN8 [(0,Zd (n:Nat)),(4,e4),(5,Zd (m:Nat)),(6,tv),(7,bsV bb m ys),(12,smV bg (n+m+1)),(14,Zd (e:Nat)),(15,Zd (outI (some o))),(16,pT b16),(17,Zd (i:Nat)),(18,pT b18),(135,tv),(136,Zd (m:Nat)),(137,Zd (i:Nat)),(188,.bool false)] _ _ ?_ (by simp (maxSteps:=2000000) only [vup,cond_true,cond_false,Nat.reduceBEq])
           clear hN8
           try clear N8
           exact fin false (by rw [hlt,heq]; rfl)
         | true =>
           simp (maxSteps:=2000000) only [↓Yn,↓vdn,vup,cond_true,cond_false,aop,Zf,ev,sput,Ze,Zx,Ya,pickK,Nat.reduceBEq,Nat.reduceAdd,tyf,Wk c18,Wk d16,Xa,Option.map_some,List.length_cons,List.length_nil,Nat.zero_add,eqF,frEq,heq,s1.bIdx hi',s1.bLd hi',hbo,s1.bLd (show o<m by omega),hb4]
           refine hN8 [(0,Zd (n:Nat)),(4,e4),(5,Zd (m:Nat)),(6,tv),(7,bsV bb m ys),(12,smV bg (n+m+1)),(14,Zd (e:Nat)),(15,Zd (outI (some o))),(16,pT b16),(17,Zd (i:Nat)),(18,pT b18),(135,tv),(136,Zd (m:Nat)),(137,Zd (i:Nat)),(188,.bool (decide (base i<base o)))] _ _ ?_ (by simp (maxSteps:=2000000) only [vup,cond_true,cond_false,Nat.reduceBEq])
           clear hN8
           try clear N8
           exact fin _ (by rw [hlt,heq]; rfl)
 · obtain rfl:m=i:=by omega
   refine Zg fun N9 hN9=>?_
   simp (maxSteps:=2000000) only [↓Za,↓Zb,↓Zc,vup,cond_true,cond_false,aop,Zf,ev,sput,Ze,Zx,Ya,Nat.reduceBEq,hin]
   refine hN9 [(0,Zd (n:Nat)),(4,e4),(5,Zd (m:Nat)),(6,tv),(7,bsV bb m ys),(12,smV bg (n+m+1)),(14,Zd (e:Nat)),(15,Zd (outI o)),(16,pT b16),(135,tv),(136,Zd (m:Nat)),(137,Zd (m:Nat)),(138,.bool false)] _ _ ?_ (by simp (maxSteps:=2000000) only [vup,cond_true,cond_false,Nat.reduceBEq])
   clear hN9
   try clear N9
   refine Zg fun N10 hN10=>?_
   simp (maxSteps:=2000000) only [↓Yi,↓vdn,vup,cond_true,cond_false,Zf,ev,Nat.reduceBEq]
   refine hQ2 _ _ _ (hQ _ _ _ ?_)
   simp (maxSteps:=2000000) only [Zf,Zk,if_true]
   exact hN0 _ _ o hE hbest (by simp (maxSteps:=2000000) only [vup,cond_true,cond_false,Nat.reduceBEq])
end Go.Proofs.Tryd.Am
namespace Go.Proofs.Tryd.Am
open Go.Am Sr
set_option maxRecDepth 100000
set_option maxHeartbeats 8000000
def clrT (s:Bq.Tb) (o e i:Nat):Nat→Nat→Rat:=fun k=>if k=o then (Bq.piv s o e).t o else if k<i then (Bq.piv s o e).t k else s.t k
theorem clrT_step {s:Bq.Tb} {o e i:Nat}:clrT s o e (i+1)=fun k=>if k=i then (Bq.piv s o e).t i else clrT s o e i k:=by
 funext k
 simp only [clrT]
 by_cases hki:k=i
 · rw [if_pos hki,hki]
   by_cases hio:i=o
   · rw [if_pos hio,hio]
   · rw [if_neg hio,if_pos (by omega)]
 · rw [if_neg hki]
   by_cases hko:k=o
   · rw [if_pos hko,if_pos hko]
   · rw [if_neg hko,if_neg hko]
     by_cases h:k<i
     · rw [if_pos h,if_pos (by omega)]
     · rw [if_neg h,if_neg (by omega)]
theorem clrT_skip {s:Bq.Tb} {o e:Nat}:clrT s o e (o+1)=clrT s o e o:=by
 funext k
 simp only [clrT]
 by_cases hko:k=o
 · rw [if_pos hko,if_pos hko]
 · rw [if_neg hko,if_neg hko]
   by_cases h:k<o
   · rw [if_pos h,if_pos (by omega)]
   · rw [if_neg h,if_neg (by omega)]
theorem sm_turn [Tabs prog] {H z:Zi} {n m e o:Nat} {tv e4:Value} {bt bb bg:Nat} {ys:List Int} {rb:Nat→Nat} {sets:List Nat} {s:Bq.Tb} (M:TM H z n m tv bt bb bg ys rb s.t s.g s.base) (G:Bq.Good m (n+m) (Bq.smA n m sets) (Bq.smC n) s) (T:Bq.Turn m (n+m) s e o) (h6:n≤6) (hW:n+m<1099511627775)
  {Q:Exit→Env→Zi→Prop} (hN0 : ∀ e' y,TM H y n m tv bt bb bg ys rb (Bq.piv s o e).t (Bq.piv s o e).g (Bq.piv s o e).base→ELe e' [(0,Zd (n:Nat)),(4,e4),(5,Zd (m:Nat)),(6,tv),(7,bsV bb m ys),(12,smV bg (n+m+1))]→Q .normal e' y) :
  AWS prog 253 (.seq q67_41 (.seq (.seq q67_42 (.block 12 (.loop l67_5))) (.seq q67_47 (.seq (.seq q67_48 (.block 14 (.loop l67_6))) q67_54)))) Q [(0,Zd (n:Nat)),(4,e4),(5,Zd (m:Nat)),(6,tv),(7,bsV bb m ys),(12,smV bg (n+m+1)),(14,Zd (e:Nat)),(15,Zd (o:Nat))] z:=by
 have hst : ∀ (y:Zi) (q:Rat) (K:Zi→Prop),Xp prog (y++[z0]) 44 (.pointer (some ⟨y.length,0,none⟩)) (qV q) K=K (y++[fC q.num q.den]):=fun y q K=>by
  rw [qV,frV,Wq (Yk y z0) rfl,set_new]
 have ho:=T.om
 have he:e<n+m+1:=by have:=T.eN; omega
 have hp0:=Bq.ne_of_pos T.op
 obtain ⟨smT,smG⟩:=G.sml h6
 obtain ⟨smT',_⟩:=(G.piv T).sml h6
 have row:=M.row o ho
 refine Zg fun N1 hN1=>?_
 simp (maxSteps:=2000000) only [↓Za,↓Zb,↓Zc,vup,cond_true,cond_false,aop,Zf,ev,sput,Ze,Nat.reduceBEq,tyf,M.idx ho,M.ld ho,smIdx row he,smLoad row he,Xn,Yy,hst]
 have hE1:Ext (fun _=>False) z (z++[fC (s.t o e).num (s.t o e).den]):=Ext.app _ _ _
 have c19:=Yk z (fC (s.t o e).num (s.t o e).den)
 have M1:=M.more hE1
 generalize z++[fC (s.t o e).num (s.t o e).den]=z1 at hE1 c19 M1 ⊢
 generalize hbe:z.length=b19 at c19 ⊢
 refine hN1 [(0,Zd (n:Nat)),(4,e4),(5,Zd (m:Nat)),(6,tv),(7,bsV bb m ys),(12,smV bg (n+m+1)),(14,Zd (e:Nat)),(15,Zd (o:Nat)),(19,pT b19)] _ _ ?_ (by simp (maxSteps:=2000000) only [vup,cond_true,cond_false,Nat.reduceBEq])
 clear hN1
 try clear N1
 have row1:=M1.row o ho
 have hl:=(smSl row1).len
 rw [smR_len] at hl
 have hrb:rb o≠b19:=by have:=Yb row; omega
 refine Zo fun Y9 hY9=>?_
 refine Zg fun N2 hN2=>?_
 simp (maxSteps:=2000000) only [↓Za,↓Zb,↓Zc,vup,List.map_cons,List.map_nil,cond_true,cond_false,aop,Zf,ev,sput,Ze,Zj,Nat.reduceBEq,tyf,M1.idx ho,M1.ld ho,hl]
 refine hN2 [(0,Zd (n:Nat)),(4,e4),(5,Zd (m:Nat)),(6,tv),(7,bsV bb m ys),(12,smV bg (n+m+1)),(14,Zd (e:Nat)),(15,Zd (o:Nat)),(19,pT b19),(202,smV (rb o) (n+m+1)),(203,Zd ((n+m+1:Nat):Int)),(204,.int .i64 0)] _ _ ?_ (by simp (maxSteps:=2000000) only [vup,cond_true,cond_false,Nat.reduceBEq])
 clear hN2
 try clear N2
 refine Zr ?_
 refine Zp fun Q1 hQ1=>?_
 refine Yu (γ:=Nat×Zi) (fun q=>q.1≤n+m+1∧TM H q.2 n m tv bt bb bg ys rb (fun k=>if k=o then mixF (s.t o) ((Bq.piv s o e).t o) q.1 else s.t k) s.g s.base∧q.2[b19]? = some (fC (s.t o e).num (s.t o e).den))
  (fun q=>([(0,Zd (n:Nat)),(4,e4),(5,Zd (m:Nat)),(6,tv),(7,bsV bb m ys),(12,smV bg (n+m+1)),(14,Zd (e:Nat)),(15,Zd (o:Nat)),(19,pT b19),(202,smV (rb o) (n+m+1)),(203,Zd ((n+m+1:Nat):Int)),(204,Zd (q.1:Nat))],q.2)) (fun q=>n+m+1-q.1) (0,z1) ⟨Nat.zero_le _,M1.congr (fun i j _ _=>by
   simp only [mixF_zero]
   by_cases h:i=o
   · rw [if_pos h,h]
   · rw [if_neg h]) (fun _ _=>rfl) (fun _ _=>rfl),c19⟩ (by simp (maxSteps:=2000000) only [vup,cond_true,cond_false,Nat.reduceBEq,Int.natCast_zero]) rfl ?_
 clear c19 M1 row1 hl hE1 row M
 rintro ⟨j,y⟩ ⟨hj,M,c19⟩
 simp only at hj M c19
 refine Zp fun Q2 hQ2=>?_
 simp only [l67_5]
 by_cases hjn:(j:Int)<((n+m+1:Nat):Int)
 · have hj' : j<n+m+1:=by omega
   have row:=M.row o ho
   simp only [if_pos] at row
   have hld:=fun K=>smLoad row hj' K
   rw [mixF_at] at hld
   refine Zg fun N3 hN3=>?_
   simp (maxSteps:=2000000) only [↓Za,↓Zb,↓Zc,vup,cond_true,cond_false,aop,Zf,ev,sput,Ze,Zx,Ya,Nat.reduceBEq,hjn]
   refine hN3 [(0,Zd (n:Nat)),(4,e4),(5,Zd (m:Nat)),(6,tv),(7,bsV bb m ys),(12,smV bg (n+m+1)),(14,Zd (e:Nat)),(15,Zd (o:Nat)),(19,pT b19),(202,smV (rb o) (n+m+1)),(203,Zd ((n+m+1:Nat):Int)),(204,Zd (j:Nat)),(205,.bool true)] _ _ ?_ (by simp (maxSteps:=2000000) only [vup,cond_true,cond_false,Nat.reduceBEq])
   clear hN3
   try clear N3
   refine Zg fun N4 hN4=>?_
   simp (maxSteps:=2000000) only [↓Zn,↓vdn,vup,cond_true,cond_false,Zf,ev,Nat.reduceBEq]
   refine hN4 [(0,Zd (n:Nat)),(4,e4),(5,Zd (m:Nat)),(6,tv),(7,bsV bb m ys),(12,smV bg (n+m+1)),(14,Zd (e:Nat)),(15,Zd (o:Nat)),(19,pT b19),(202,smV (rb o) (n+m+1)),(203,Zd ((n+m+1:Nat):Int)),(204,Zd (j:Nat))] _ _ ?_ (by simp (maxSteps:=2000000) only [vup,cond_true,cond_false,Nat.reduceBEq])
   clear hN4
   try clear N4
   refine Zo fun B hB=>?_
   refine Zr ?_
   refine Zg fun N5 hN5=>?_
   simp (maxSteps:=2000000) only [↓Za,↓Zb,↓Zc,vup,cond_true,cond_false,aop,Zf,ev,sput,Ze,Nat.reduceBEq]
   refine hN5 [(0,Zd (n:Nat)),(4,e4),(5,Zd (m:Nat)),(6,tv),(7,bsV bb m ys),(12,smV bg (n+m+1)),(14,Zd (e:Nat)),(15,Zd (o:Nat)),(19,pT b19),(20,Zd (j:Nat)),(202,smV (rb o) (n+m+1)),(203,Zd ((n+m+1:Nat):Int)),(204,Zd (j:Nat))] _ _ ?_ (by simp (maxSteps:=2000000) only [vup,cond_true,cond_false,Nat.reduceBEq])
   clear hN5
   try clear N5
   refine Zm ?_
   simp only [q67_45]
   refine Xo [(13,1)] (by kernel_rfl) (by kernel_rfl) (by kernel_rfl) (by kernel_rfl) ?_
   simp (maxSteps:=2000000) only [↓Yn,↓vdn,vup,List.map_cons,List.map_nil,cond_true,cond_false,aop,Zf,Zk,ev,sput,Ze,Nat.reduceBEq,Nat.reduceAdd,M.idx ho,M.ld ho,smIdx row hj',hld,Wk c19,Yt,List.nil_append,List.append_nil]
   refine ⟨_,_,smover (smT o j ho (by omega)) (smT o e ho (by omega)) hp0,rfl,?_⟩
   have hstr:=fun K=>smStore ((Bq.piv s o e).t o j) row hj' K
   rw [mixF_step] at hstr
   rw [show s.t o j / s.t o e=(Bq.piv s o e).t o j from (Bq.piv_own j).symm]
   simp (maxSteps:=2000000) only [hstr]
   refine hB [(0,Zd (n:Nat)),(4,e4),(5,Zd (m:Nat)),(6,tv),(7,bsV bb m ys),(12,smV bg (n+m+1)),(14,Zd (e:Nat)),(15,Zd (o:Nat)),(19,pT b19),(202,smV (rb o) (n+m+1)),(203,Zd ((n+m+1:Nat):Int)),(204,Zd (j:Nat))] _ _ ?_ (by simp (maxSteps:=2000000) only [vup,cond_true,cond_false,Nat.reduceBEq])
   clear hB
   try clear B
   refine Zm ?_
   simp (maxSteps:=2000000) only [↓Za,↓Zb,↓Zc,vup,cond_true,cond_false,aop,ev,sput,Ze,Zx,Ya,Nat.reduceBEq,Wx (show j<9223372036854775807 by omega)]
   refine hQ2 _ _ _ ⟨(j+1,y.set (rb o) (smB (mixF (s.t o) ((Bq.piv s o e).t o) (j+1)) (n+m+1))),⟨hj',(M.setR ho (Xh (Yb row) _) (Ext.set _ rfl)).congr (fun i k _ _=>?_) (fun _ _=>rfl) (fun _ _=>rfl),?_⟩,by simp only; omega,by simp (maxSteps:=2000000) only [vup,cond_true,cond_false,Nat.reduceBEq],rfl⟩
   · by_cases h:i=o
     · rw [if_pos h,if_pos h]
     · rw [if_neg h,if_neg h,if_neg h]
   · rw [List.getElem?_set_ne hrb]; exact c19
 obtain rfl:j=n+m+1:=by omega
 refine Zg fun N6 hN6=>?_
 simp (maxSteps:=2000000) only [↓Za,↓Zb,↓Zc,vup,cond_true,cond_false,aop,Zf,ev,sput,Ze,Zx,Ya,Nat.reduceBEq,hjn]
 refine hN6 [(0,Zd (n:Nat)),(4,e4),(5,Zd (m:Nat)),(6,tv),(7,bsV bb m ys),(12,smV bg (n+m+1)),(14,Zd (e:Nat)),(15,Zd (o:Nat)),(19,pT b19),(202,smV (rb o) (n+m+1)),(203,Zd ((n+m+1:Nat):Int)),(204,Zd ((n+m+1:Nat):Int)),(205,.bool false)] _ _ ?_ (by simp (maxSteps:=2000000) only [vup,cond_true,cond_false,Nat.reduceBEq])
 clear hN6
 try clear N6
 refine Zg fun N7 hN7=>?_
 simp (maxSteps:=2000000) only [↓Yi,↓vdn,vup,cond_true,cond_false,Zf,ev,Nat.reduceBEq]
 refine hQ2 _ _ _ (hQ1 _ _ _ ?_)
 simp (maxSteps:=2000000) only [Zf,Zk,if_true]
 refine hY9 [(0,Zd (n:Nat)),(4,e4),(5,Zd (m:Nat)),(6,tv),(7,bsV bb m ys),(12,smV bg (n+m+1)),(14,Zd (e:Nat)),(15,Zd (o:Nat)),(205,.bool false)] _ _ ?_ (by simp (maxSteps:=2000000) only [vup,cond_true,cond_false,Nat.reduceBEq])
 clear hY9
 try clear Y9
 have M2:TM H y n m tv bt bb bg ys rb (clrT s o e 0) s.g s.base:=M.congr (fun i k _ hk=>by
  simp only [clrT]
  by_cases h:i=o
  · rw [if_pos h,if_pos h,mixF,if_pos hk]
  · rw [if_neg h,if_neg h,if_neg (by omega)]) (fun _ _=>rfl) (fun _ _=>rfl)
 clear hQ1 hQ2 M c19
 -- what the row stands for
 have hbs : ∀ K:Zi→Prop,Xp prog y 3 (.pointer (some ⟨bb,o,none⟩)) (Zd (e:Nat)) K=K (y.set bb (.ints ((List.range m).map (fun i=>(((Bq.piv s o e).base i:Nat):Int))++ys) 3 false)):=fun K=>by
  rw [storeBI M2.bs Xl (by simp; omega)]
  congr 2
  rw [List.set_append_left _ _ (by simpa using ho)]
  congr 2
  apply List.ext_getElem (by simp)
  intro i h1 h2
  rw [List.getElem_set]
  simp only [List.getElem_map,List.getElem_range,Bq.piv]
  by_cases h:o=i
  · rw [if_pos h,if_pos h.symm]
  · rw [if_neg h,if_neg (Ne.symm h)]
 refine Zg fun N8 hN8=>?_
 simp (maxSteps:=2000000) only [↓Za,↓Zb,↓Zc,vup,cond_true,cond_false,aop,Zf,ev,sput,Ze,Nat.reduceBEq,M2.bIdx ho,hbs]
 have hb3:=Xh (Yb M2.bs) (.ints ((List.range m).map (fun i=>(((Bq.piv s o e).base i:Nat):Int))++ys) 3 false)
 have hE3:Ext (fun i=>i=bb) y (y.set bb (.ints ((List.range m).map (fun i=>(((Bq.piv s o e).base i:Nat):Int))++ys) 3 false)):=Ext.set _ rfl
 generalize y.set bb (.ints ((List.range m).map (fun i=>(((Bq.piv s o e).base i:Nat):Int))++ys) 3 false)=y1 at hb3 hE3 ⊢
 have M3:TM H y1 n m tv bt bb bg ys rb (clrT s o e 0) s.g (Bq.piv s o e).base:=M2.set M2.nb hE3 M2.bnt (fun i hi=>(hE3.2 _ (Yb (M2.row i hi)) (M2.neb hi)).trans (M2.row i hi)) ((hE3.2 _ (Yb M2.gn) M2.gnb).trans M2.gn) hb3
 refine hN8 [(0,Zd (n:Nat)),(4,e4),(5,Zd (m:Nat)),(6,tv),(7,bsV bb m ys),(12,smV bg (n+m+1)),(14,Zd (e:Nat)),(15,Zd (o:Nat)),(205,.bool false)] _ _ ?_ (by simp (maxSteps:=2000000) only [vup,cond_true,cond_false,Nat.reduceBEq])
 clear hN8
 try clear N8
 clear M2 hb3 hE3 hbs
 -- the other rows
 have hlen:=M3.tS.len
 rw [List.length_map,List.length_range] at hlen
 refine Zo fun Z hZ=>?_
 refine Zg fun N9 hN9=>?_
 simp (maxSteps:=2000000) only [↓Za,↓Zb,↓Zc,vup,List.map_cons,List.map_nil,cond_true,cond_false,aop,Zf,ev,sput,Ze,Zj,Nat.reduceBEq,hlen,isl_89]
 refine hN9 [(0,Zd (n:Nat)),(4,e4),(5,Zd (m:Nat)),(6,tv),(7,bsV bb m ys),(12,smV bg (n+m+1)),(14,Zd (e:Nat)),(15,Zd (o:Nat)),(205,.bool false),(227,tv),(228,Zd (m:Nat)),(229,.int .i64 0)] _ _ ?_ (by simp (maxSteps:=2000000) only [vup,cond_true,cond_false,Nat.reduceBEq])
 clear hN9
 try clear N9
 refine Zr ?_
 refine Zp fun Q3 hQ3=>?_
 refine Yu (γ:=Nat×Zi) (fun q=>q.1≤m∧TM H q.2 n m tv bt bb bg ys rb (clrT s o e q.1) s.g (Bq.piv s o e).base)
  (fun q=>([(0,Zd (n:Nat)),(4,e4),(5,Zd (m:Nat)),(6,tv),(7,bsV bb m ys),(12,smV bg (n+m+1)),(14,Zd (e:Nat)),(15,Zd (o:Nat)),(205,.bool false),(227,tv),(228,Zd (m:Nat)),(229,Zd (q.1:Nat))],q.2)) (fun q=>m-q.1) (0,y1) ⟨Nat.zero_le _,M3⟩ (by simp (maxSteps:=2000000) only [vup,cond_true,cond_false,Nat.reduceBEq,Int.natCast_zero]) rfl ?_
 clear M3 hlen
 rintro ⟨i,x⟩ ⟨hi,M⟩
 simp only at hi M
 refine Zp fun Q4 hQ4=>?_
 simp only [l67_6]
 have rowo:=M.row o ho
 simp only [clrT,if_pos] at rowo
 by_cases hin:(i:Int)<m
 · have hi' : i<m:=by omega
   refine Zg fun N10 hN10=>?_
   simp (maxSteps:=2000000) only [↓Za,↓Zb,↓Zc,vup,cond_true,cond_false,aop,Zf,ev,sput,Ze,Zx,Ya,Nat.reduceBEq,hin]
   refine hN10 [(0,Zd (n:Nat)),(4,e4),(5,Zd (m:Nat)),(6,tv),(7,bsV bb m ys),(12,smV bg (n+m+1)),(14,Zd (e:Nat)),(15,Zd (o:Nat)),(205,.bool false),(227,tv),(228,Zd (m:Nat)),(229,Zd (i:Nat)),(230,.bool true)] _ _ ?_ (by simp (maxSteps:=2000000) only [vup,cond_true,cond_false,Nat.reduceBEq])
   clear hN10
   try clear N10
   refine Zg fun N11 hN11=>?_
   simp (maxSteps:=2000000) only [↓Zn,↓vdn,vup,cond_true,cond_false,Zf,ev,Nat.reduceBEq]
   refine hN11 [(0,Zd (n:Nat)),(4,e4),(5,Zd (m:Nat)),(6,tv),(7,bsV bb m ys),(12,smV bg (n+m+1)),(14,Zd (e:Nat)),(15,Zd (o:Nat)),(205,.bool false),(227,tv),(228,Zd (m:Nat)),(229,Zd (i:Nat))] _ _ ?_ (by simp (maxSteps:=2000000) only [vup,cond_true,cond_false,Nat.reduceBEq])
   clear hN11
   try clear N11
   refine Zo fun B hB=>?_
   refine Zr ?_
   refine Zg fun N12 hN12=>?_
   simp (maxSteps:=2000000) only [↓Za,↓Zb,↓Zc,vup,cond_true,cond_false,aop,Zf,ev,sput,Ze,Nat.reduceBEq]
   refine hN12 [(0,Zd (n:Nat)),(4,e4),(5,Zd (m:Nat)),(6,tv),(7,bsV bb m ys),(12,smV bg (n+m+1)),(14,Zd (e:Nat)),(15,Zd (o:Nat)),(21,Zd (i:Nat)),(205,.bool false),(227,tv),(228,Zd (m:Nat)),(229,Zd (i:Nat))] _ _ ?_ (by simp (maxSteps:=2000000) only [vup,cond_true,cond_false,Nat.reduceBEq])
   clear hN12
   try clear N12
   by_cases hio:i=o
   · have h1:((i:Int) != (o:Int))=false:=by rw [hio]; simp
     refine Zg fun N13 hN13=>?_
     simp (maxSteps:=2000000) only [↓Za,↓Zb,↓Zc,vup,cond_true,cond_false,aop,Zf,ev,sput,Ze,Zx,Ya,Nat.reduceBEq,h1]
     refine hN13 [(0,Zd (n:Nat)),(4,e4),(5,Zd (m:Nat)),(6,tv),(7,bsV bb m ys),(12,smV bg (n+m+1)),(14,Zd (e:Nat)),(15,Zd (o:Nat)),(21,Zd (i:Nat)),(205,.bool false),(227,tv),(228,Zd (m:Nat)),(229,Zd (i:Nat)),(234,.bool false)] _ _ ?_ (by simp (maxSteps:=2000000) only [vup,cond_true,cond_false,Nat.reduceBEq])
     clear hN13
     try clear N13
     refine Yh rfl ?_
     refine Zm ?_
     simp (maxSteps:=2000000) only [↓Zn,Zf,Zk]
     refine hB [(0,Zd (n:Nat)),(4,e4),(5,Zd (m:Nat)),(6,tv),(7,bsV bb m ys),(12,smV bg (n+m+1)),(14,Zd (e:Nat)),(15,Zd (o:Nat)),(205,.bool false),(227,tv),(228,Zd (m:Nat)),(229,Zd (i:Nat))] _ _ ?_ (by simp (maxSteps:=2000000) only [vup,cond_true,cond_false,Nat.reduceBEq])
     clear hB
     try clear B
     refine Zm ?_
     simp (maxSteps:=2000000) only [↓Za,↓Zb,↓Zc,vup,cond_true,cond_false,aop,ev,sput,Ze,Zx,Ya,Nat.reduceBEq,Wx (show i<9223372036854775807 by omega)]
     have h9:clrT s o e (i+1)=clrT s o e i:=by rw [hio,clrT_skip]
     exact hQ4 _ _ _ ⟨(i+1,x),⟨hi',by simp only; rw [h9]; exact M⟩,by simp only; omega,by simp (maxSteps:=2000000) only [vup,cond_true,cond_false,Nat.reduceBEq],rfl⟩
   · have h1:((i:Int) != (o:Int))=true:=by rw [bne_iff_ne]; omega
     have rowi:=M.row i hi'
     simp only [clrT,if_neg hio,if_neg (Nat.lt_irrefl i)] at rowi
     refine Zg fun N14 hN14=>?_
     simp (maxSteps:=2000000) only [↓Za,↓Zb,↓Zc,vup,cond_true,cond_false,aop,Zf,ev,sput,Ze,Zx,Ya,Nat.reduceBEq,h1]
     refine hN14 [(0,Zd (n:Nat)),(4,e4),(5,Zd (m:Nat)),(6,tv),(7,bsV bb m ys),(12,smV bg (n+m+1)),(14,Zd (e:Nat)),(15,Zd (o:Nat)),(21,Zd (i:Nat)),(205,.bool false),(227,tv),(228,Zd (m:Nat)),(229,Zd (i:Nat)),(234,.bool true)] _ _ ?_ (by simp (maxSteps:=2000000) only [vup,cond_true,cond_false,Nat.reduceBEq])
     clear hN14
     try clear N14
     refine Yp rfl ?_
     refine Zm ?_
     simp only [q67_52]
     refine Xo [(9,4)] (by kernel_rfl) (by kernel_rfl) (by kernel_rfl) (by kernel_rfl) ?_
     simp (maxSteps:=2000000) only [↓Yn,↓vdn,vup,List.map_cons,List.map_nil,cond_true,cond_false,aop,Zf,Zk,ev,sput,Ze,Nat.reduceBEq,Nat.reduceAdd,M.idx hi',M.ld hi',M.idx ho,M.ld ho,Yt,List.nil_append,List.append_nil]
     refine (smclear_call rowi rowo (fun h=>hio (M.inj i o hi' ho h)) he (by omega) (fun j hj=>smT i j hi' (by omega)) (fun j hj=>smT' o j ho (by omega))).mono ?_
     rintro _ x1 ⟨hr,hEr⟩
     refine hB [(0,Zd (n:Nat)),(4,e4),(5,Zd (m:Nat)),(6,tv),(7,bsV bb m ys),(12,smV bg (n+m+1)),(14,Zd (e:Nat)),(15,Zd (o:Nat)),(205,.bool false),(227,tv),(228,Zd (m:Nat)),(229,Zd (i:Nat))] _ _ ?_ (by simp (maxSteps:=2000000) only [vup,cond_true,cond_false,Nat.reduceBEq])
     clear hB
     try clear B
     refine Zm ?_
     simp (maxSteps:=2000000) only [↓Za,↓Zb,↓Zc,vup,cond_true,cond_false,aop,ev,sput,Ze,Zx,Ya,Nat.reduceBEq,Wx (show i<9223372036854775807 by omega)]
     refine hQ4 _ _ _ ⟨(i+1,x1),⟨hi',(M.setR hi' hr hEr).congr (fun k j _ _=>?_) (fun _ _=>rfl) (fun _ _=>rfl)⟩,by simp only; omega,by simp (maxSteps:=2000000) only [vup,cond_true,cond_false,Nat.reduceBEq],rfl⟩
     simp only [clrT_step]
     by_cases hki:k=i
     · rw [if_pos hki,if_pos hki,Bq.piv_old hio,Bq.piv_own]
     · rw [if_neg hki,if_neg hki]
 obtain rfl:m=i:=by omega
 refine Zg fun N15 hN15=>?_
 simp (maxSteps:=2000000) only [↓Za,↓Zb,↓Zc,vup,cond_true,cond_false,aop,Zf,ev,sput,Ze,Zx,Ya,Nat.reduceBEq,hin]
 refine hN15 [(0,Zd (n:Nat)),(4,e4),(5,Zd (m:Nat)),(6,tv),(7,bsV bb m ys),(12,smV bg (n+m+1)),(14,Zd (e:Nat)),(15,Zd (o:Nat)),(205,.bool false),(227,tv),(228,Zd (m:Nat)),(229,Zd (m:Nat)),(230,.bool false)] _ _ ?_ (by simp (maxSteps:=2000000) only [vup,cond_true,cond_false,Nat.reduceBEq])
 clear hN15
 try clear N15
 refine Zg fun N16 hN16=>?_
 simp (maxSteps:=2000000) only [↓Yi,↓vdn,vup,cond_true,cond_false,Zf,ev,Nat.reduceBEq]
 refine hQ4 _ _ _ (hQ3 _ _ _ ?_)
 simp (maxSteps:=2000000) only [Zf,Zk,if_true]
 refine hZ [(0,Zd (n:Nat)),(4,e4),(5,Zd (m:Nat)),(6,tv),(7,bsV bb m ys),(12,smV bg (n+m+1)),(14,Zd (e:Nat)),(15,Zd (o:Nat)),(205,.bool false),(230,.bool false)] _ _ ?_ (by simp (maxSteps:=2000000) only [vup,cond_true,cond_false,Nat.reduceBEq])
 clear hZ
 try clear Z
 clear hQ3 hQ4
 refine Zm ?_
 simp (maxSteps:=2000000) only [↓Za,↓Zb,↓Zc,vup,List.map_cons,List.map_nil,cond_true,cond_false,aop,ev,sput,Ze,Nat.reduceBEq,M.idx ho,M.ld ho,Yt,List.nil_append,List.append_nil]
 refine (smclear_call M.gn rowo (fun h=>M.rg o ho h.symm) he (by omega) (fun j hj=>smG j (by omega)) (fun j hj=>smT' o j ho (by omega))).mono ?_
 rintro _ x1 ⟨hr,hEr⟩
 refine hN0 _ _ ((M.setG hr hEr).congr (fun k j hk _=>?_) (fun j _=>?_) (fun _ _=>rfl)) (by simp (maxSteps:=2000000) only [vup,cond_true,cond_false,Nat.reduceBEq])
 · simp only [clrT]
   by_cases hko:k=o
   · rw [if_pos hko,hko]
   · rw [if_neg hko,if_pos hk]
 · rw [Bq.piv_own]; rfl
end Go.Proofs.Tryd.Am
namespace Go.Proofs.Tryd.Am
open Go.Am Sr
set_option maxRecDepth 100000
set_option maxHeartbeats 8000000
theorem sml_neg1:Bq.Sml (-1):=⟨by decide,by decide⟩
theorem qV_neg1:qV (-1) = .agg #[Zd (-1),Zd 1]:=rfl
theorem sm_loop [Tabs prog] {H z:Zi} {n m k b4:Nat} {tv:Value} {bt bb bg:Nat} {ys:List Int} {rb:Nat→Nat} {sets:List Nat} {s:Bq.Tb} (M:TM H z n m tv bt bb bg ys rb s.t s.g s.base) (G:Bq.Good m (n+m) (Bq.smA n m sets) (Bq.smC n) s) (hk:Bq.Stops m (n+m) k s) (h6:n≤6) (hW:n+m<1099511627775) (hm:sets.length=m)
  (hc : ∀ i,i<n→∃ c∈sets,c.testBit i=true) (h4:H[b4]? = some z0) {Q:Value→Zi→Prop} (hQ0 : ∀ q z',Bq.IsOpt n sets q→Ext (fun i=>i=b4) H z'→Q (qV q) z') :
  AWS prog 253 (.block 6 (.loop l67_7)) (Zt prog [.cell 4 44] Q) [(0,Zd (n:Nat)),(4,pT b4),(5,Zd (m:Nat)),(6,tv),(7,bsV bb m ys),(12,smV bg (n+m+1))] z:=by
 have hnm:addV .i64 (n:Int) (m:Int)=((n+m:Nat):Int):=by rw [Wl (by omega) (by omega)]; omega
 have h4l:=Yb h4
 refine Zr ?_
 refine Zp fun Q1 hQ1=>?_
 refine Yu (γ:=Bq.Tb×Nat×Zi) (fun q=>Bq.Good m (n+m) (Bq.smA n m sets) (Bq.smC n) q.1∧Bq.Stops m (n+m) q.2.1 q.1∧TM H q.2.2 n m tv bt bb bg ys rb q.1.t q.1.g q.1.base)
  (fun q=>([(0,Zd (n:Nat)),(4,pT b4),(5,Zd (m:Nat)),(6,tv),(7,bsV bb m ys),(12,smV bg (n+m+1))],q.2.2)) (fun q=>q.2.1) (s,k,z) ⟨G,hk,M⟩ (by simp (maxSteps:=2000000) only [vup,cond_true,cond_false,Nat.reduceBEq]) rfl ?_
 clear M G hk
 rintro ⟨s,k,z⟩ ⟨G,hk,M⟩
 simp only at G hk M
 refine Zp fun Q2 hQ2=>?_
 simp only [l67_7]
 refine Zr ?_
 obtain ⟨smT,smG⟩:=G.sml h6
 refine Zg fun N1 hN1=>?_
 simp (maxSteps:=2000000) only [↓Za,↓Zb,↓Zc,vup,cond_false,aop,Zf,ev,sput,Ze,Nat.reduceBEq]
 refine hN1 [(0,Zd (n:Nat)),(4,pT b4),(5,Zd (m:Nat)),(6,tv),(7,bsV bb m ys),(12,smV bg (n+m+1)),(14,.int .i64 0)] _ _ ?_ (by simp (maxSteps:=2000000) only [vup,cond_true,cond_false,Nat.reduceBEq])
 clear hN1
 try clear N1
 refine Zo fun M1 hM1=>?_
 refine sm_in M.gn (by omega) fun e' c hcn hl hx he=>hM1 [(0,Zd (n:Nat)),(4,pT b4),(5,Zd (m:Nat)),(6,tv),(7,bsV bb m ys),(12,smV bg (n+m+1)),(14,Zd (c:Nat))] _ _ ?_ he
 clear hM1
 refine Zo fun A hA=>?_
 by_cases hend:c=n+m
 · have h1:((c:Int)==((n+m:Nat):Int))=true:=by rw [hend]; exact beq_self_eq_true _
   refine Zg fun N2 hN2=>?_
   simp (maxSteps:=2000000) only [↓Za,↓Zb,↓Zc,vup,cond_true,cond_false,aop,Zf,ev,sput,Ze,Zx,Ya,Nat.reduceBEq,hnm,h1]
   refine hN2 [(0,Zd (n:Nat)),(4,pT b4),(5,Zd (m:Nat)),(6,tv),(7,bsV bb m ys),(12,smV bg (n+m+1)),(14,Zd (c:Nat)),(126,.bool true)] _ _ ?_ (by simp (maxSteps:=2000000) only [vup,cond_true,cond_false,Nat.reduceBEq])
   clear hN2
   try clear N2
   refine Yp rfl ?_
   have hz4:z[b4]? = some z0:=(M.ext.2 _ h4l id).trans h4
   have ht:=smtimes (h:=z) sml_neg1 (smG (n+m) (Nat.le_refl _))
   rw [qV_neg1] at ht
   have hopt:=G.opt hm (fun j hj=>hl j (by omega))
   rw [show -1*s.g (n+m) = - s.g (n+m) by grind] at ht
   generalize-s.g (n+m)=q at ht hopt
   refine Zm ?_
   simp (maxSteps:=2000000) only [↓Za,↓Zl,↓Zw,↓Zb,↓Zc,vup,List.map_cons,List.map_nil,cond_true,cond_false,aop,Zf,Zk,ev,sput,Ze,Zx,Ya,Nat.reduceBEq,hnm,bldF,smIdx M.gn (show n+m<n+m+1 by omega),smLoad M.gn (show n+m<n+m+1 by omega),Yt,List.nil_append,List.append_nil]
   refine ht.mono ?_
   rintro _ z ⟨rfl,rfl⟩
   simp (maxSteps:=2000000) only [qV,frV,Wq hz4 rfl]
   refine hQ2 _ _ _ (hQ1 _ _ _ ?_)
   simp (maxSteps:=2000000) only [vup,cond_true,cond_false,Zk,Nat.reduceBEq,Zt,Xi,tup,Wk (Xh (Yb hz4) _)]
   refine hQ0 q _ hopt ⟨by rw [List.length_set]; exact M.ext.1,fun i hi hne=>?_⟩
   rw [List.getElem?_set_ne (Ne.symm hne)]
   exact M.ext.2 i hi id
 · have h1:((c:Int)==((n+m:Nat):Int))=false:=by rw [beq_eq_false_iff_ne]; omega
   have hgc:0<s.g c:=hx.resolve_left hend
   have hcN:c<n+m:=by omega
   refine Zg fun N3 hN3=>?_
   simp (maxSteps:=2000000) only [↓Za,↓Zb,↓Zc,vup,cond_true,cond_false,aop,Zf,ev,sput,Ze,Zx,Ya,Nat.reduceBEq,hnm,h1]
   refine hN3 [(0,Zd (n:Nat)),(4,pT b4),(5,Zd (m:Nat)),(6,tv),(7,bsV bb m ys),(12,smV bg (n+m+1)),(14,Zd (c:Nat)),(126,.bool false)] _ _ ?_ (by simp (maxSteps:=2000000) only [vup,cond_true,cond_false,Nat.reduceBEq])
   clear hN3
   try clear N3
   refine Yh rfl ?_
   refine Zm ?_
   simp (maxSteps:=2000000) only [↓Zn,Zf]
   refine hA [(0,Zd (n:Nat)),(4,pT b4),(5,Zd (m:Nat)),(6,tv),(7,bsV bb m ys),(12,smV bg (n+m+1)),(14,Zd (c:Nat))] _ _ ?_ (by simp (maxSteps:=2000000) only [vup,cond_true,cond_false,Nat.reduceBEq])
   clear hA
   try clear A
   refine Zg fun N4 hN4=>?_
   simp (maxSteps:=2000000) only [↓Za,↓Zb,↓Zc,vup,cond_false,aop,Zf,ev,sput,Ze,Nat.reduceBEq]
   refine hN4 [(0,Zd (n:Nat)),(4,pT b4),(5,Zd (m:Nat)),(6,tv),(7,bsV bb m ys),(12,smV bg (n+m+1)),(14,Zd (c:Nat)),(15,.int .i64 (-1))] _ _ ?_ (by simp (maxSteps:=2000000) only [vup,cond_true,cond_false,Nat.reduceBEq])
   clear hN4
   try clear N4
   refine Zg fun N5 hN5=>?_
   simp (maxSteps:=2000000) only [↓Za,↓Zb,↓Zc,vup,cond_false,aop,Zf,sput,Ze,Nat.reduceBEq,tyf,Xn,Yy]
   have hE1:Ext (fun _=>False) z (z++[z0]):=Ext.app _ _ _
   have c16:=Yk z z0
   refine hN5 [(0,Zd (n:Nat)),(4,pT b4),(5,Zd (m:Nat)),(6,tv),(7,bsV bb m ys),(12,smV bg (n+m+1)),(14,Zd (c:Nat)),(15,.int .i64 (-1)),(16,pT z.length)] _ _ ?_ (by simp (maxSteps:=2000000) only [vup,cond_true,cond_false,Nat.reduceBEq])
   clear hN5
   try clear N5
   refine Zo fun Z hZ=>?_
   refine sm_out M smT hcN (by omega) (Nat.le_refl _) hE1 c16 fun e' y o hE hbest he=>?_
   have hio : ∃ o',o=some o':=by
    cases o with
    | some o'=>exact ⟨o',rfl⟩
    | none =>
      obtain ⟨i,hi,hp⟩:=G.stop hm hc hcN
      have:=hbest i hi
      grind
   obtain ⟨o,rfl⟩:=hio
   obtain ⟨b1,b2,b3⟩:=hbest
   have T:Bq.Turn m (n+m) s c o:=⟨hcN,hgc,hl,b1,b2,b3⟩
   refine hZ [(0,Zd (n:Nat)),(4,pT b4),(5,Zd (m:Nat)),(6,tv),(7,bsV bb m ys),(12,smV bg (n+m+1)),(14,Zd (c:Nat)),(15,Zd (o:Nat))] _ _ ?_ he
   refine sm_turn (M.more hE) G T h6 hW fun e' y M' he=>?_
   cases k with
   | zero=>exact absurd T (hk c o)
   | succ k=>exact hQ2 _ _ _ ⟨(Bq.piv s o c,k,y),⟨G.piv T,hk c o T,M'⟩,by simp only; omega,he,rfl⟩
end Go.Proofs.Tryd.Am
namespace Go.Proofs.Tryd.Am
open Go.Am Sr
set_option maxRecDepth 100000
set_option maxHeartbeats 8000000
def pL (f:Nat→Rat) (j W:Nat):List (Int×Int):=(List.range j).map (fun k=>smF (f k))++List.replicate (W-j) (0,0)
abbrev pB (ps:List (Int×Int)):Blk:=.cells ((Xb ps).map Zd) 44 false
section
variable {f:Nat→Rat} {j W:Nat}
theorem pL_len (h:j≤W):(pL f j W).length=W:=by simp [pL]; omega
theorem pL_zero:pL f 0 W=List.replicate W (0,0):=by simp [pL]
theorem pL_all:pL f W W=smR f W:=by simp [pL,smR]
theorem pL_set (h:j<W):(pL f j W).set j (smF (f j))=pL f (j+1) W:=by
 unfold pL
 rw [List.set_append_right _ _ (by simp),List.length_map,List.length_range,Nat.sub_self,List.range_succ,List.map_append,List.append_assoc]
 congr 1
 obtain ⟨k,hk⟩ : ∃ k,W-j=k+1:=⟨W-j-1,by omega⟩
 rw [hk,show W-(j+1)=k by omega,List.replicate_succ]
 rfl
end
theorem flat_num {ps:List (Int×Int)} {j:Nat} (hj:j<ps.length) (a b x:Int):((Xb (ps.set j (a,b))).map Zd).set (j*2) (Zd x)=(Xb (ps.set j (x,b))).map Zd:=by
 have hl:=Xx ps
 rw [flatP_set ps j a b hj,flatP_set ps j x b hj,splice_map,splice_map]
 simp only [Yj,List.map_cons,List.map_nil,List.append_assoc]
 rw [List.set_append_right _ _ (by simp; omega)]
 have e:j*2-(((Xb ps).map Zd).take (j*2)).length=0:=by simp; omega
 rw [e]; rfl
theorem sm_row [Tabs prog] {z:Zi} {n m i br s:Nat} {e1 e4 e6 e7 e24 e25 e26:Value} {sets:List Nat} (hi:i<m) (hsi:s=sets.getD i 0) (hs:s<9223372036854775808) (hW:n+m<1099511627775) (hn:n≤62) (hb:z[br]? = some (pB (List.replicate (n+m+1) (0,0)))) {N:Env→Zi→Prop} {Q0:Exit→Env→Zi→Prop}
  (hN0 : ∀ e,ELe e [(0,Zd (n:Nat)),(1,e1),(4,e4),(5,Zd (m:Nat)),(6,e6),(7,e7),(8,Zd (i:Nat)),(10,smV br (n+m+1)),(24,e24),(25,e25),(26,e26)]→N e (z.set br (smB (Bq.smA n m sets i) (n+m+1)))) :
  AWS prog 253 (.seq q67_8 (.block 2 (.loop l67_0))) (Zf N Q0) [(0,Zd (n:Nat)),(1,e1),(4,e4),(5,Zd (m:Nat)),(6,e6),(7,e7),(8,Zd (i:Nat)),(9,Zd (s:Nat)),(10,smV br (n+m+1)),(24,e24),(25,e25),(26,e26)] z:=by
 have hnn : ∀ k:Nat,(0:Int)≤(k:Int):=Int.natCast_nonneg
 have hnm:addV .i64 (n:Int) (m:Int)=((n+m:Nat):Int):=by rw [Wl (by omega) (by omega)]; omega
 have hni:addV .i64 (n:Int) (i:Int)=((n+i:Nat):Int):=by rw [Wl (by omega) (by omega)]; omega
 have hbl:=Yb hb
 have slice : ∀ (y:Zi) (ps:List (Int×Int)),ps.length=n+m+1→y[br]? = some (pB ps)→PairSl y (smV br (n+m+1)) ps:=fun y ps hl hy=>by
  have:=pairSl_cells hy
  rwa [hl] at this
 have hl0:=(slice z _ (by simp) hb).len
 rw [List.length_replicate] at hl0
 refine Zg fun N1 hN1=>?_
 simp (maxSteps:=2000000) only [↓Za,↓Zb,↓Zc,vup,List.map_cons,List.map_nil,cond_true,cond_false,aop,Zf,ev,sput,Ze,Zj,Nat.reduceBEq,tyf,hl0]
 refine hN1 [(0,Zd (n:Nat)),(1,e1),(4,e4),(5,Zd (m:Nat)),(6,e6),(7,e7),(8,Zd (i:Nat)),(9,Zd (s:Nat)),(10,smV br (n+m+1)),(24,e24),(25,e25),(26,e26),(36,smV br (n+m+1)),(37,Zd ((n+m+1:Nat):Int)),(38,.int .i64 0)] _ _ ?_ (by simp (maxSteps:=2000000) only [vup,cond_true,cond_false,Nat.reduceBEq])
 clear hN1
 try clear N1
 refine Zr ?_
 refine Zp fun Q hQ=>?_
 refine Yu (γ:=Nat) (fun j=>j≤n+m+1)
  (fun j=>([(0,Zd (n:Nat)),(1,e1),(4,e4),(5,Zd (m:Nat)),(6,e6),(7,e7),(8,Zd (i:Nat)),(9,Zd (s:Nat)),(10,smV br (n+m+1)),(24,e24),(25,e25),(26,e26),(36,smV br (n+m+1)),(37,Zd ((n+m+1:Nat):Int)),(38,Zd (j:Nat))],z.set br (pB (pL (Bq.smA n m sets i) j (n+m+1))))) (fun j=>n+m+1-j) 0 (Nat.zero_le _) (by simp (maxSteps:=2000000) only [vup,cond_true,cond_false,Nat.reduceBEq,Int.natCast_zero]) (by
   rw [pL_zero]
   apply List.ext_getElem?
   intro q
   by_cases hq:br=q
   · rw [← hq,List.getElem?_set_self hbl]; exact hb
   · rw [List.getElem?_set_ne hq]) ?_
 intro j hj
 refine Zp fun Q2 hQ2=>?_
 simp only [l67_0]
 obtain ⟨y,hy⟩ : ∃ y,y=z.set br (pB (pL (Bq.smA n m sets i) j (n+m+1))):=⟨_,rfl⟩
 rw [← hy]
 have yb:y[br]? = some (pB (pL (Bq.smA n m sets i) j (n+m+1))):=by rw [hy]; exact Xh hbl _
 have hpl:=pL_len (f:=Bq.smA n m sets i) hj
 by_cases hjn:(j:Int)<((n+m+1:Nat):Int)
 · have hj' : j<n+m+1:=by omega
   have hjp:j<(pL (Bq.smA n m sets i) j (n+m+1)).length:=by rw [hpl]; exact hj'
   refine Zg fun N2 hN2=>?_
   simp (maxSteps:=2000000) only [↓Za,↓Zb,↓Zc,vup,cond_true,cond_false,aop,Zf,ev,sput,Ze,Zx,Ya,Nat.reduceBEq,hjn]
   refine hN2 [(0,Zd (n:Nat)),(1,e1),(4,e4),(5,Zd (m:Nat)),(6,e6),(7,e7),(8,Zd (i:Nat)),(9,Zd (s:Nat)),(10,smV br (n+m+1)),(24,e24),(25,e25),(26,e26),(36,smV br (n+m+1)),(37,Zd ((n+m+1:Nat):Int)),(38,Zd (j:Nat)),(39,.bool true)] _ _ ?_ (by simp (maxSteps:=2000000) only [vup,cond_true,cond_false,Nat.reduceBEq])
   clear hN2
   try clear N2
   refine Zg fun N3 hN3=>?_
   simp (maxSteps:=2000000) only [↓Zn,↓vdn,vup,cond_true,cond_false,Zf,ev,Nat.reduceBEq]
   refine hN3 [(0,Zd (n:Nat)),(1,e1),(4,e4),(5,Zd (m:Nat)),(6,e6),(7,e7),(8,Zd (i:Nat)),(9,Zd (s:Nat)),(10,smV br (n+m+1)),(24,e24),(25,e25),(26,e26),(36,smV br (n+m+1)),(37,Zd ((n+m+1:Nat):Int)),(38,Zd (j:Nat))] _ _ ?_ (by simp (maxSteps:=2000000) only [vup,cond_true,cond_false,Nat.reduceBEq])
   clear hN3
   try clear N3
   refine Zo fun B hB=>?_
   refine Zr ?_
   refine Zg fun N4 hN4=>?_
   simp (maxSteps:=2000000) only [↓Za,↓Zb,↓Zc,vup,cond_true,cond_false,aop,Zf,ev,sput,Ze,Nat.reduceBEq]
   refine hN4 [(0,Zd (n:Nat)),(1,e1),(4,e4),(5,Zd (m:Nat)),(6,e6),(7,e7),(8,Zd (i:Nat)),(9,Zd (s:Nat)),(10,smV br (n+m+1)),(11,Zd (j:Nat)),(24,e24),(25,e25),(26,e26),(36,smV br (n+m+1)),(37,Zd ((n+m+1:Nat):Int)),(38,Zd (j:Nat))] _ _ ?_ (by simp (maxSteps:=2000000) only [vup,cond_true,cond_false,Nat.reduceBEq])
   clear hN4
   try clear N4
   have bld1 : ∀ K:Value→Prop,Vc prog 44 [(1,.int .i64 1)] K=K (.agg #[Zd 0,Zd 1]):=fun K=>by
    simp [Vc,zero_44,Vi,pl_44_1,Wm,cellsOf,Yj]
   refine Zg fun N5 hN5=>?_
   simp (maxSteps:=2000000) only [↓Za,↓Zb,↓Zc,vup,List.map_cons,List.map_nil,cond_true,cond_false,aop,Zf,ev,sput,Ze,Nat.reduceBEq,bld1,(slice y _ hpl yb).idx el_50 esz_44 hjp,elemP_pair,storePC yb shp_44 hjp]
   obtain ⟨y1,hy1⟩ : ∃ y1,y1=y.set br (pB ((pL (Bq.smA n m sets i) j (n+m+1)).set j (0,1))):=⟨_,rfl⟩
   rw [← hy1]
   have yb1:y1[br]? = some (pB ((pL (Bq.smA n m sets i) j (n+m+1)).set j (0,1))):=by rw [hy1]; exact Xh (Yb yb) _
   refine hN5 [(0,Zd (n:Nat)),(1,e1),(4,e4),(5,Zd (m:Nat)),(6,e6),(7,e7),(8,Zd (i:Nat)),(9,Zd (s:Nat)),(10,smV br (n+m+1)),(11,Zd (j:Nat)),(24,e24),(25,e25),(26,e26),(36,smV br (n+m+1)),(37,Zd ((n+m+1:Nat):Int)),(38,Zd (j:Nat))] _ _ ?_ (by simp (maxSteps:=2000000) only [vup,cond_true,cond_false,Nat.reduceBEq])
   clear hN5
   try clear N5
   have hpl1:((pL (Bq.smA n m sets i) j (n+m+1)).set j ((0:Int),(1:Int))).length=n+m+1:=by rw [List.length_set]; exact hpl
   have fin : ∀ (b:Bool),Bq.smA n m sets i j=(if b=true then 1 else 0)→AWS prog 253 (.cond (.tmp 68) q67_13 .skip) (Zk 3 (Zf B Q2)) [(0,Zd (n:Nat)),(1,e1),(4,e4),(5,Zd (m:Nat)),(6,e6),(7,e7),(8,Zd (i:Nat)),(9,Zd (s:Nat)),(10,smV br (n+m+1)),(11,Zd (j:Nat)),(24,e24),(25,e25),(26,e26),(36,smV br (n+m+1)),(37,Zd ((n+m+1:Nat):Int)),(38,Zd (j:Nat)),(68,.bool b)] y1:=by
    intro b hb2
    cases b with
    | false =>
      refine Yh rfl ?_
      refine Zm ?_
      simp (maxSteps:=2000000) only [↓Zn,Zf,Zk]
      refine hB [(0,Zd (n:Nat)),(1,e1),(4,e4),(5,Zd (m:Nat)),(6,e6),(7,e7),(8,Zd (i:Nat)),(9,Zd (s:Nat)),(10,smV br (n+m+1)),(24,e24),(25,e25),(26,e26),(36,smV br (n+m+1)),(37,Zd ((n+m+1:Nat):Int)),(38,Zd (j:Nat))] _ _ ?_ (by simp (maxSteps:=2000000) only [vup,cond_true,cond_false,Nat.reduceBEq])
      clear hB
      try clear B
      refine Zm ?_
      simp (maxSteps:=2000000) only [↓Za,↓Zb,↓Zc,vup,cond_true,cond_false,aop,ev,sput,Ze,Zx,Ya,Nat.reduceBEq,Wx (show j<9223372036854775807 by omega)]
      refine hQ2 _ _ _ ⟨j+1,hj',by omega,by simp (maxSteps:=2000000) only [vup,cond_true,cond_false,Nat.reduceBEq],?_⟩
      rw [hy1,hy,List.set_set,← pL_set hj',hb2]; rfl
    | true =>
      refine Yp rfl ?_
      refine Zm ?_
      simp (maxSteps:=2000000) only [↓Za,↓Zb,↓Zc,vup,cond_true,cond_false,aop,Zf,Zk,ev,sput,Ze,Nat.reduceBEq,(slice y1 _ hpl1 yb1).idx el_50 esz_44 (show j<_ by rw [hpl1]; exact hj'),elemP_pair,smFld0,storeC yb1 Xl (show one (Zd 1)=true from rfl) (show j*2<_ by rw [List.length_map,Xx,hpl1]; omega),flat_num hjp]
      refine hB [(0,Zd (n:Nat)),(1,e1),(4,e4),(5,Zd (m:Nat)),(6,e6),(7,e7),(8,Zd (i:Nat)),(9,Zd (s:Nat)),(10,smV br (n+m+1)),(24,e24),(25,e25),(26,e26),(36,smV br (n+m+1)),(37,Zd ((n+m+1:Nat):Int)),(38,Zd (j:Nat))] _ _ ?_ (by simp (maxSteps:=2000000) only [vup,cond_true,cond_false,Nat.reduceBEq])
      clear hB
      try clear B
      refine Zm ?_
      simp (maxSteps:=2000000) only [↓Za,↓Zb,↓Zc,vup,cond_true,cond_false,aop,ev,sput,Ze,Zx,Ya,Nat.reduceBEq,Wx (show j<9223372036854775807 by omega)]
      refine hQ2 _ _ _ ⟨j+1,hj',by omega,by simp (maxSteps:=2000000) only [vup,cond_true,cond_false,Nat.reduceBEq],?_⟩
      rw [hy1,hy,List.set_set,List.set_set,← pL_set hj',hb2]; rfl
   refine Zg fun N6 hN6=>?_
   simp only [q67_12]
   by_cases hjlt:j<n
   · have h1:decide ((j:Int)<(n:Int))=true:=decide_eq_true (by omega)
     have h2:((j:Int)==((n+i:Nat):Int))=false:=by rw [beq_eq_false_iff_ne]; omega
     have h3:((j:Int)==((n+m:Nat):Int))=false:=by rw [beq_eq_false_iff_ne]; omega
     have hA:Bq.smA n m sets i j=(if s.testBit j=true then 1 else 0):=by rw [Bq.smA_lo hjlt,← hsi]; rfl
     cases hb:s.testBit j with
     | true =>
       rw [hb] at hA
       refine Xz 10 fun N1 hN1=>?_
       simp (maxSteps:=2000000) only [↓Za,↓Zb,↓Zc,↓vdn,vup,cond_true,cond_false,aop,ev,sput,Ze,Zx,Ya,Nat.reduceBEq,List.take_succ_cons,List.take_zero,h1,hnn,testV hs,hb,if_true,show ((1:Int)==1)=true from rfl]
       refine hN1 _ _ ?_
       clear hN1 N1
       simp only [List.drop_succ_cons,List.drop_zero]
       simp (maxSteps:=2000000) only [↓Za,↓Zb,↓Zc,↓vdn,vup,cond_true,cond_false,aop,Zf,ev,sput,Ze,Nat.reduceBEq]
       refine hN6 [(0,Zd (n:Nat)),(1,e1),(4,e4),(5,Zd (m:Nat)),(6,e6),(7,e7),(8,Zd (i:Nat)),(9,Zd (s:Nat)),(10,smV br (n+m+1)),(11,Zd (j:Nat)),(24,e24),(25,e25),(26,e26),(36,smV br (n+m+1)),(37,Zd ((n+m+1:Nat):Int)),(38,Zd (j:Nat)),(68,.bool true)] _ _ ?_ (by simp (maxSteps:=2000000) only [vup,cond_true,cond_false,Nat.reduceBEq])
       clear hN6
       try clear N6
       exact fin true hA
     | false =>
       rw [hb] at hA
       refine Xz 10 fun N1 hN1=>?_
       simp (maxSteps:=2000000) only [↓Za,↓Zb,↓Zc,↓vdn,vup,cond_true,cond_false,aop,ev,sput,Ze,Zx,Ya,Nat.reduceBEq,List.take_succ_cons,List.take_zero,h1,hnn,testV hs,hb,Bool.false_eq_true,if_false,show ((0:Int)==1)=false from rfl]
       refine hN1 _ _ ?_
       clear hN1 N1
       simp only [List.drop_succ_cons,List.drop_zero]
       refine Xz 7 fun N1 hN1=>?_
       simp (maxSteps:=2000000) only [↓Za,↓Zb,↓Zc,↓vdn,vup,cond_true,cond_false,aop,ev,sput,Ze,Zx,Ya,Nat.reduceBEq,List.take_succ_cons,List.take_zero,hni,h2]
       refine hN1 _ _ ?_
       clear hN1 N1
       simp only [List.drop_succ_cons,List.drop_zero]
       simp (maxSteps:=2000000) only [↓Za,↓Zb,↓Zc,↓vdn,vup,cond_true,cond_false,aop,Zf,ev,sput,Ze,Zx,Ya,Nat.reduceBEq,hnm,h3]
       refine hN6 [(0,Zd (n:Nat)),(1,e1),(4,e4),(5,Zd (m:Nat)),(6,e6),(7,e7),(8,Zd (i:Nat)),(9,Zd (s:Nat)),(10,smV br (n+m+1)),(11,Zd (j:Nat)),(24,e24),(25,e25),(26,e26),(36,smV br (n+m+1)),(37,Zd ((n+m+1:Nat):Int)),(38,Zd (j:Nat)),(68,.bool false)] _ _ ?_ (by simp (maxSteps:=2000000) only [vup,cond_true,cond_false,Nat.reduceBEq])
       clear hN6
       try clear N6
       exact fin false hA
   · have h1:decide ((j:Int)<(n:Int))=false:=decide_eq_false (by omega)
     by_cases hji:j=n+i
     · have h2:((j:Int)==((n+i:Nat):Int))=true:=by rw [hji]; exact beq_self_eq_true _
       refine Xz 10 fun N1 hN1=>?_
       simp (maxSteps:=2000000) only [↓Za,↓Zb,↓Zc,↓vdn,vup,cond_true,cond_false,aop,ev,sput,Ze,Zx,Ya,Nat.reduceBEq,List.take_succ_cons,List.take_zero,h1]
       refine hN1 _ _ ?_
       clear hN1 N1
       simp only [List.drop_succ_cons,List.drop_zero]
       refine Xz 7 fun N1 hN1=>?_
       simp (maxSteps:=2000000) only [↓Za,↓Zb,↓Zc,↓vdn,vup,cond_true,cond_false,aop,ev,sput,Ze,Zx,Ya,Nat.reduceBEq,List.take_succ_cons,List.take_zero,hni,h2]
       refine hN1 _ _ ?_
       clear hN1 N1
       simp only [List.drop_succ_cons,List.drop_zero]
       simp (maxSteps:=2000000) only [↓Za,↓Zb,↓Zc,↓vdn,vup,cond_true,cond_false,aop,Zf,ev,sput,Ze,Nat.reduceBEq]
       refine hN6 [(0,Zd (n:Nat)),(1,e1),(4,e4),(5,Zd (m:Nat)),(6,e6),(7,e7),(8,Zd (i:Nat)),(9,Zd (s:Nat)),(10,smV br (n+m+1)),(11,Zd (j:Nat)),(24,e24),(25,e25),(26,e26),(36,smV br (n+m+1)),(37,Zd ((n+m+1:Nat):Int)),(38,Zd (j:Nat)),(68,.bool true)] _ _ ?_ (by simp (maxSteps:=2000000) only [vup,cond_true,cond_false,Nat.reduceBEq])
       clear hN6
       try clear N6
       exact fin true (by rw [hji,Bq.smA_mid hi,if_pos rfl,if_pos rfl])
     · have h2:((j:Int)==((n+i:Nat):Int))=false:=by rw [beq_eq_false_iff_ne]; omega
       by_cases hjm:j=n+m
       · have h3:((j:Int)==((n+m:Nat):Int))=true:=by rw [hjm]; exact beq_self_eq_true _
         refine Xz 10 fun N1 hN1=>?_
         simp (maxSteps:=2000000) only [↓Za,↓Zb,↓Zc,↓vdn,vup,cond_true,cond_false,aop,ev,sput,Ze,Zx,Ya,Nat.reduceBEq,List.take_succ_cons,List.take_zero,h1]
         refine hN1 _ _ ?_
         clear hN1 N1
         simp only [List.drop_succ_cons,List.drop_zero]
         refine Xz 7 fun N1 hN1=>?_
         simp (maxSteps:=2000000) only [↓Za,↓Zb,↓Zc,↓vdn,vup,cond_true,cond_false,aop,ev,sput,Ze,Zx,Ya,Nat.reduceBEq,List.take_succ_cons,List.take_zero,hni,h2]
         refine hN1 _ _ ?_
         clear hN1 N1
         simp only [List.drop_succ_cons,List.drop_zero]
         simp (maxSteps:=2000000) only [↓Za,↓Zb,↓Zc,↓vdn,vup,cond_true,cond_false,aop,Zf,ev,sput,Ze,Zx,Ya,Nat.reduceBEq,hnm,h3]
         refine hN6 [(0,Zd (n:Nat)),(1,e1),(4,e4),(5,Zd (m:Nat)),(6,e6),(7,e7),(8,Zd (i:Nat)),(9,Zd (s:Nat)),(10,smV br (n+m+1)),(11,Zd (j:Nat)),(24,e24),(25,e25),(26,e26),(36,smV br (n+m+1)),(37,Zd ((n+m+1:Nat):Int)),(38,Zd (j:Nat)),(68,.bool true)] _ _ ?_ (by simp (maxSteps:=2000000) only [vup,cond_true,cond_false,Nat.reduceBEq])
         clear hN6
         try clear N6
         exact fin true (by rw [hjm,Bq.smA_end,if_pos rfl])
       · have h3:((j:Int)==((n+m:Nat):Int))=false:=by rw [beq_eq_false_iff_ne]; omega
         refine Xz 10 fun N1 hN1=>?_
         simp (maxSteps:=2000000) only [↓Za,↓Zb,↓Zc,↓vdn,vup,cond_true,cond_false,aop,ev,sput,Ze,Zx,Ya,Nat.reduceBEq,List.take_succ_cons,List.take_zero,h1]
         refine hN1 _ _ ?_
         clear hN1 N1
         simp only [List.drop_succ_cons,List.drop_zero]
         refine Xz 7 fun N1 hN1=>?_
         simp (maxSteps:=2000000) only [↓Za,↓Zb,↓Zc,↓vdn,vup,cond_true,cond_false,aop,ev,sput,Ze,Zx,Ya,Nat.reduceBEq,List.take_succ_cons,List.take_zero,hni,h2]
         refine hN1 _ _ ?_
         clear hN1 N1
         simp only [List.drop_succ_cons,List.drop_zero]
         simp (maxSteps:=2000000) only [↓Za,↓Zb,↓Zc,↓vdn,vup,cond_true,cond_false,aop,Zf,ev,sput,Ze,Zx,Ya,Nat.reduceBEq,hnm,h3]
         refine hN6 [(0,Zd (n:Nat)),(1,e1),(4,e4),(5,Zd (m:Nat)),(6,e6),(7,e7),(8,Zd (i:Nat)),(9,Zd (s:Nat)),(10,smV br (n+m+1)),(11,Zd (j:Nat)),(24,e24),(25,e25),(26,e26),(36,smV br (n+m+1)),(37,Zd ((n+m+1:Nat):Int)),(38,Zd (j:Nat)),(68,.bool false)] _ _ ?_ (by simp (maxSteps:=2000000) only [vup,cond_true,cond_false,Nat.reduceBEq])
         clear hN6
         try clear N6
         refine fin false ?_
         obtain ⟨r,rfl⟩ : ∃ r,j=n+r:=⟨j-n,by omega⟩
         rw [Bq.smA_mid (by omega),if_neg (by omega),if_neg (by decide)]
 · obtain rfl:j=n+m+1:=by omega
   refine Zg fun N7 hN7=>?_
   simp (maxSteps:=2000000) only [↓Za,↓Zb,↓Zc,vup,cond_true,cond_false,aop,Zf,ev,sput,Ze,Zx,Ya,Nat.reduceBEq,hjn]
   refine hN7 [(0,Zd (n:Nat)),(1,e1),(4,e4),(5,Zd (m:Nat)),(6,e6),(7,e7),(8,Zd (i:Nat)),(9,Zd (s:Nat)),(10,smV br (n+m+1)),(24,e24),(25,e25),(26,e26),(36,smV br (n+m+1)),(37,Zd ((n+m+1:Nat):Int)),(38,Zd ((n+m+1:Nat):Int)),(39,.bool false)] _ _ ?_ (by simp (maxSteps:=2000000) only [vup,cond_true,cond_false,Nat.reduceBEq])
   clear hN7
   try clear N7
   refine Zg fun N8 hN8=>?_
   simp (maxSteps:=2000000) only [↓Yi,↓vdn,vup,cond_true,cond_false,Zf,ev,Nat.reduceBEq]
   refine hQ2 _ _ _ (hQ _ _ _ ?_)
   simp (maxSteps:=2000000) only [Zf,Zk,if_true]
   rw [hy,pL_all]
   exact hN0 _ (by simp (maxSteps:=2000000) only [vup,cond_true,cond_false,Nat.reduceBEq])
end Go.Proofs.Tryd.Am
namespace Go.Proofs.Tryd.Am
open Go.Am Sr
set_option maxRecDepth 100000
set_option maxHeartbeats 8000000
theorem sm_gain [Tabs prog] {z:Zi} {n m bg:Nat} {e1 e4 e6 e7:Value} (hW:n+m<1099511627775) (hb:z[bg]? = some (pB (List.replicate (n+m+1) (0,0)))) {N:Env→Zi→Prop} {Q0:Exit→Env→Zi→Prop}
  (hN0 : ∀ e,ELe e [(0,Zd (n:Nat)),(1,e1),(4,e4),(5,Zd (m:Nat)),(6,e6),(7,e7),(12,smV bg (n+m+1))]→N e (z.set bg (smB (Bq.smC n) (n+m+1)))) :
  AWS prog 253 (.seq q67_19 (.block 4 (.loop l67_2))) (Zf N Q0) [(0,Zd (n:Nat)),(1,e1),(4,e4),(5,Zd (m:Nat)),(6,e6),(7,e7),(12,smV bg (n+m+1))] z:=by
 have hbl:=Yb hb
 have slice : ∀ (y:Zi) (ps:List (Int×Int)),ps.length=n+m+1→y[bg]? = some (pB ps)→PairSl y (smV bg (n+m+1)) ps:=fun y ps hl hy=>by
  have:=pairSl_cells hy
  rwa [hl] at this
 have hl0:=(slice z _ (by simp) hb).len
 rw [List.length_replicate] at hl0
 refine Zg fun N1 hN1=>?_
 simp (maxSteps:=2000000) only [↓Za,↓Zb,↓Zc,vup,List.map_cons,List.map_nil,cond_true,cond_false,aop,Zf,ev,sput,Ze,Zj,Nat.reduceBEq,tyf,hl0]
 refine hN1 [(0,Zd (n:Nat)),(1,e1),(4,e4),(5,Zd (m:Nat)),(6,e6),(7,e7),(12,smV bg (n+m+1)),(90,smV bg (n+m+1)),(91,Zd ((n+m+1:Nat):Int)),(92,.int .i64 0)] _ _ ?_ (by simp (maxSteps:=2000000) only [vup,cond_true,cond_false,Nat.reduceBEq])
 clear hN1
 try clear N1
 refine Zr ?_
 refine Zp fun Q hQ=>?_
 refine Yu (γ:=Nat) (fun j=>j≤n+m+1)
  (fun j=>([(0,Zd (n:Nat)),(1,e1),(4,e4),(5,Zd (m:Nat)),(6,e6),(7,e7),(12,smV bg (n+m+1)),(90,smV bg (n+m+1)),(91,Zd ((n+m+1:Nat):Int)),(92,Zd (j:Nat))],z.set bg (pB (pL (Bq.smC n) j (n+m+1))))) (fun j=>n+m+1-j) 0 (Nat.zero_le _) (by simp (maxSteps:=2000000) only [vup,cond_true,cond_false,Nat.reduceBEq,Int.natCast_zero]) (by
   rw [pL_zero]
   apply List.ext_getElem?
   intro q
   by_cases hq:bg=q
   · rw [← hq,List.getElem?_set_self hbl]; exact hb
   · rw [List.getElem?_set_ne hq]) ?_
 intro j hj
 refine Zp fun Q2 hQ2=>?_
 simp only [l67_2]
 obtain ⟨y,hy⟩ : ∃ y,y=z.set bg (pB (pL (Bq.smC n) j (n+m+1))):=⟨_,rfl⟩
 rw [← hy]
 have yb:y[bg]? = some (pB (pL (Bq.smC n) j (n+m+1))):=by rw [hy]; exact Xh hbl _
 have hpl:=pL_len (f:=Bq.smC n) hj
 by_cases hjn:(j:Int)<((n+m+1:Nat):Int)
 · have hj' : j<n+m+1:=by omega
   have hjp:j<(pL (Bq.smC n) j (n+m+1)).length:=by rw [hpl]; exact hj'
   refine Zg fun N2 hN2=>?_
   simp (maxSteps:=2000000) only [↓Za,↓Zb,↓Zc,vup,cond_true,cond_false,aop,Zf,ev,sput,Ze,Zx,Ya,Nat.reduceBEq,hjn]
   refine hN2 [(0,Zd (n:Nat)),(1,e1),(4,e4),(5,Zd (m:Nat)),(6,e6),(7,e7),(12,smV bg (n+m+1)),(90,smV bg (n+m+1)),(91,Zd ((n+m+1:Nat):Int)),(92,Zd (j:Nat)),(93,.bool true)] _ _ ?_ (by simp (maxSteps:=2000000) only [vup,cond_true,cond_false,Nat.reduceBEq])
   clear hN2
   try clear N2
   refine Zg fun N3 hN3=>?_
   simp (maxSteps:=2000000) only [↓Zn,↓vdn,vup,cond_true,cond_false,Zf,ev,Nat.reduceBEq]
   refine hN3 [(0,Zd (n:Nat)),(1,e1),(4,e4),(5,Zd (m:Nat)),(6,e6),(7,e7),(12,smV bg (n+m+1)),(90,smV bg (n+m+1)),(91,Zd ((n+m+1:Nat):Int)),(92,Zd (j:Nat))] _ _ ?_ (by simp (maxSteps:=2000000) only [vup,cond_true,cond_false,Nat.reduceBEq])
   clear hN3
   try clear N3
   refine Zo fun B hB=>?_
   refine Zr ?_
   refine Zg fun N4 hN4=>?_
   simp (maxSteps:=2000000) only [↓Za,↓Zb,↓Zc,vup,cond_true,cond_false,aop,Zf,ev,sput,Ze,Nat.reduceBEq]
   refine hN4 [(0,Zd (n:Nat)),(1,e1),(4,e4),(5,Zd (m:Nat)),(6,e6),(7,e7),(12,smV bg (n+m+1)),(13,Zd (j:Nat)),(90,smV bg (n+m+1)),(91,Zd ((n+m+1:Nat):Int)),(92,Zd (j:Nat))] _ _ ?_ (by simp (maxSteps:=2000000) only [vup,cond_true,cond_false,Nat.reduceBEq])
   clear hN4
   try clear N4
   have bld1 : ∀ K:Value→Prop,Vc prog 44 [(1,.int .i64 1)] K=K (.agg #[Zd 0,Zd 1]):=fun K=>by
    simp [Vc,zero_44,Vi,pl_44_1,Wm,cellsOf,Yj]
   refine Zg fun N5 hN5=>?_
   simp (maxSteps:=2000000) only [↓Za,↓Zb,↓Zc,vup,List.map_cons,List.map_nil,cond_true,cond_false,aop,Zf,ev,sput,Ze,Nat.reduceBEq,bld1,(slice y _ hpl yb).idx el_50 esz_44 hjp,elemP_pair,storePC yb shp_44 hjp]
   obtain ⟨y1,hy1⟩ : ∃ y1,y1=y.set bg (pB ((pL (Bq.smC n) j (n+m+1)).set j (0,1))):=⟨_,rfl⟩
   rw [← hy1]
   have yb1:y1[bg]? = some (pB ((pL (Bq.smC n) j (n+m+1)).set j (0,1))):=by rw [hy1]; exact Xh (Yb yb) _
   refine hN5 [(0,Zd (n:Nat)),(1,e1),(4,e4),(5,Zd (m:Nat)),(6,e6),(7,e7),(12,smV bg (n+m+1)),(13,Zd (j:Nat)),(90,smV bg (n+m+1)),(91,Zd ((n+m+1:Nat):Int)),(92,Zd (j:Nat))] _ _ ?_ (by simp (maxSteps:=2000000) only [vup,cond_true,cond_false,Nat.reduceBEq])
   clear hN5
   try clear N5
   have hpl1:((pL (Bq.smC n) j (n+m+1)).set j ((0:Int),(1:Int))).length=n+m+1:=by rw [List.length_set]; exact hpl
   by_cases hjlt:(j:Int)<(n:Int)
   · have hA:Bq.smC n j=1:=if_pos (by omega)
     refine Zg fun N6 hN6=>?_
     simp (maxSteps:=2000000) only [↓Za,↓Zb,↓Zc,vup,cond_true,cond_false,aop,Zf,ev,sput,Ze,Zx,Ya,Nat.reduceBEq,hjlt]
     refine hN6 [(0,Zd (n:Nat)),(1,e1),(4,e4),(5,Zd (m:Nat)),(6,e6),(7,e7),(12,smV bg (n+m+1)),(13,Zd (j:Nat)),(90,smV bg (n+m+1)),(91,Zd ((n+m+1:Nat):Int)),(92,Zd (j:Nat)),(101,.bool true)] _ _ ?_ (by simp (maxSteps:=2000000) only [vup,cond_true,cond_false,Nat.reduceBEq])
     clear hN6
     try clear N6
     refine Yp rfl ?_
     refine Zm ?_
     simp (maxSteps:=2000000) only [↓Za,↓Zb,↓Zc,vup,cond_true,cond_false,aop,Zf,Zk,ev,sput,Ze,Nat.reduceBEq,(slice y1 _ hpl1 yb1).idx el_50 esz_44 (show j<_ by rw [hpl1]; exact hj'),elemP_pair,smFld0,storeC yb1 Xl (show one (Zd 1)=true from rfl) (show j*2<_ by rw [List.length_map,Xx,hpl1]; omega),flat_num hjp]
     refine hB [(0,Zd (n:Nat)),(1,e1),(4,e4),(5,Zd (m:Nat)),(6,e6),(7,e7),(12,smV bg (n+m+1)),(90,smV bg (n+m+1)),(91,Zd ((n+m+1:Nat):Int)),(92,Zd (j:Nat))] _ _ ?_ (by simp (maxSteps:=2000000) only [vup,cond_true,cond_false,Nat.reduceBEq])
     clear hB
     try clear B
     refine Zm ?_
     simp (maxSteps:=2000000) only [↓Za,↓Zb,↓Zc,vup,cond_true,cond_false,aop,ev,sput,Ze,Zx,Ya,Nat.reduceBEq,Wx (show j<9223372036854775807 by omega)]
     refine hQ2 _ _ _ ⟨j+1,hj',by omega,by simp (maxSteps:=2000000) only [vup,cond_true,cond_false,Nat.reduceBEq],?_⟩
     rw [hy1,hy,List.set_set,List.set_set,← pL_set hj',hA]; rfl
   · have hA:Bq.smC n j=0:=if_neg (by omega)
     refine Zg fun N7 hN7=>?_
     simp (maxSteps:=2000000) only [↓Za,↓Zb,↓Zc,vup,cond_true,cond_false,aop,Zf,ev,sput,Ze,Zx,Ya,Nat.reduceBEq,hjlt]
     refine hN7 [(0,Zd (n:Nat)),(1,e1),(4,e4),(5,Zd (m:Nat)),(6,e6),(7,e7),(12,smV bg (n+m+1)),(13,Zd (j:Nat)),(90,smV bg (n+m+1)),(91,Zd ((n+m+1:Nat):Int)),(92,Zd (j:Nat)),(101,.bool false)] _ _ ?_ (by simp (maxSteps:=2000000) only [vup,cond_true,cond_false,Nat.reduceBEq])
     clear hN7
     try clear N7
     refine Yh rfl ?_
     refine Zm ?_
     simp (maxSteps:=2000000) only [↓Zn,Zf,Zk]
     refine hB [(0,Zd (n:Nat)),(1,e1),(4,e4),(5,Zd (m:Nat)),(6,e6),(7,e7),(12,smV bg (n+m+1)),(90,smV bg (n+m+1)),(91,Zd ((n+m+1:Nat):Int)),(92,Zd (j:Nat))] _ _ ?_ (by simp (maxSteps:=2000000) only [vup,cond_true,cond_false,Nat.reduceBEq])
     clear hB
     try clear B
     refine Zm ?_
     simp (maxSteps:=2000000) only [↓Za,↓Zb,↓Zc,vup,cond_true,cond_false,aop,ev,sput,Ze,Zx,Ya,Nat.reduceBEq,Wx (show j<9223372036854775807 by omega)]
     refine hQ2 _ _ _ ⟨j+1,hj',by omega,by simp (maxSteps:=2000000) only [vup,cond_true,cond_false,Nat.reduceBEq],?_⟩
     rw [hy1,hy,List.set_set,← pL_set hj',hA]; rfl
 · obtain rfl:j=n+m+1:=by omega
   refine Zg fun N8 hN8=>?_
   simp (maxSteps:=2000000) only [↓Za,↓Zb,↓Zc,vup,cond_true,cond_false,aop,Zf,ev,sput,Ze,Zx,Ya,Nat.reduceBEq,hjn]
   refine hN8 [(0,Zd (n:Nat)),(1,e1),(4,e4),(5,Zd (m:Nat)),(6,e6),(7,e7),(12,smV bg (n+m+1)),(90,smV bg (n+m+1)),(91,Zd ((n+m+1:Nat):Int)),(92,Zd ((n+m+1:Nat):Int)),(93,.bool false)] _ _ ?_ (by simp (maxSteps:=2000000) only [vup,cond_true,cond_false,Nat.reduceBEq])
   clear hN8
   try clear N8
   refine Zg fun N9 hN9=>?_
   simp (maxSteps:=2000000) only [↓Yi,↓vdn,vup,cond_true,cond_false,Zf,ev,Nat.reduceBEq]
   refine hQ2 _ _ _ (hQ _ _ _ ?_)
   simp (maxSteps:=2000000) only [Zf,Zk,if_true]
   rw [hy,pL_all]
   exact hN0 _ (by simp (maxSteps:=2000000) only [vup,cond_true,cond_false,Nat.reduceBEq])
theorem litV1 {h:Zi} {b W:Nat} (K:Value→Zi→Prop):Yl prog h 89 1 [(0,smV b W)] K=K (.slice (some ⟨h.length,0,none⟩) 1 1) (h++[.cells [smV b W] 50 false]):=by
 simp only [Yl,el_89,zero_50,esz_50,reps,Vi,mkb,Wm,cellsOf,List.length_singleton,Nat.mul_one,Nat.zero_add]
 exact propext ⟨fun h=>h.2.2.2,fun h=>⟨trivial,by decide,by decide,h⟩⟩
theorem pushE {h:Zi} {v:Value} {xs:List Int} (ho:OwnSl 3 h v xs) {x:Int} (hn:xs.length<1099511627776) {K:Value→Zi→Prop}
  (hk : ∀ v' h',OwnSl 3 h' v' (xs++[x])→Ext (fun i=>Yf v=some i) h h'→(Yf v' = Yf v∨∃ b,Yf v' = some b∧h.length≤b)→K v' h') :
  Yw prog (h++[.ints [x] 3 false]) 22 22 v (.slice (some ⟨h.length,0,none⟩) 1 1) K:=by
 have hx1:Ext (fun _=>False) h (h++[.ints [x] 3 false]):=Ext.app _ _ _
 refine (ho.ext hx1 fun _ _=>id).append app_22_22 hn (Yk _ _) fun v' h' ho' hE hb=>hk v' h' ho' ((hx1.mono fun _ h=>h.elim).trans hE) ?_
 rcases hb with h1 | ⟨b,h1,h2⟩
 · exact .inl h1
 · exact .inr ⟨b,h1,by have:=hx1.1; omega⟩
theorem pushV {h:Zi} {v:Value} {ws:List Value} (ho:OwnV 50 h v ws) {b W:Nat} (hw : ∀ w∈ws,notI w=true∧one w=true) (hn:ws.length<1000000) {K:Value→Zi→Prop}
  (hk : ∀ v' h',OwnV 50 h' v' (ws++[smV b W])→Ext (fun i=>Yf v=some i) h h'→(Yf v' = Yf v∨∃ b,Yf v' = some b∧h.length≤b)→K v' h') :
  Yw prog (h++[.cells [smV b W] 50 false]) 89 89 v (.slice (some ⟨h.length,0,none⟩) 1 1) K:=by
 have hx1:Ext (fun _=>False) h (h++[.cells [smV b W] 50 false]):=Ext.app _ _ _
 have hx:ValSl (h++[.cells [smV b W] 50 false]) (.slice (some ⟨h.length,0,none⟩) 1 1) [smV b W]:=.inr ⟨h.length,0,none,_,[smV b W],50,false,rfl,by simp,by simp [view,Blk.view],by simp⟩
 refine (ho.ext hx1).app app_89_89 hx (fun w h=>?_) (by simp; omega) fun v' h' ho' hE hb=>hk v' h' ho' ((hx1.mono fun _ h=>h.elim).trans hE) ?_
 · rcases List.mem_append.1 h with h | h
   · exact hw w h
   · rw [List.mem_singleton.1 h]; exact ⟨rfl,rfl⟩
 · rcases hb with h1 | ⟨b,h1,h2⟩
   · exact .inl h1
   · exact .inr ⟨b,h1,by have:=hx1.1; omega⟩
structure TI (H z:Zi) (n m k:Nat) (sets:List Nat) (tv bv:Value) (rb:Nat→Nat):Prop where
 ext:Ext (fun _=>False) H z
 tS:OwnV 50 z tv ((List.range k).map fun i=>smV (rb i) (n+m+1))
 bS:OwnSl 3 z bv ((List.range k).map fun i=>((n+i:Nat):Int))
 row : ∀ i,i<k→z[rb i]? = some (smB (Bq.smA n m sets i) (n+m+1))
 inj : ∀ i j,i<k→j<k→rb i=rb j→i=j
 nr : ∀ i,i<k→H.length≤rb i
 nt : ∀ b,Yf tv=some b→H.length≤b
 nb : ∀ b,Yf bv=some b→H.length≤b
theorem own_int {h:Zi} {v:Value} {xs:List Int} (o:OwnSl 3 h v xs) {b:Nat} (hb:Yf v=some b) : ∃ c,h[b]? = some (.ints c 3 false):=by
 rcases o with ⟨rfl,rfl⟩ | ⟨b',ys,rfl,h1⟩
 · cases hb
 · cases hb; exact ⟨_,h1⟩
theorem TI.zero (H:Zi) (n m:Nat) (sets:List Nat):TI H H n m 0 sets (.slice none 0 0) (.slice none 0 0) fun _=>0 :=
 ⟨Ext.refl _ _,.inl ⟨rfl,rfl⟩,.inl ⟨rfl,rfl⟩,fun i h=>by omega,fun i j h _ _=>by omega,fun i h=>by omega,fun b h=>(by cases h),fun b h=>(by cases h)⟩
section
variable {H z z1:Zi} {n m k:Nat} {sets:List Nat} {tv bv tv' bv' : Value} {rb:Nat→Nat}
theorem TI.more (s:TI H z n m k sets tv bv rb) (hE:Ext (fun _=>False) z z1):TI H z1 n m k sets tv bv rb:=by
 have o : ∀ {b B},z[b]? = some B→z1[b]? = some B:=fun hb=>(hE.2 _ (Yb hb) id).trans hb
 exact ⟨s.ext.trans hE,s.tS.ext hE,s.bS.ext hE fun _ _=>id,fun i hi=>o (s.row i hi),s.inj,s.nr,s.nt,s.nb⟩
theorem TI.push {z2 z3:Zi} {br:Nat} (s:TI H z n m k sets tv bv rb) (hbr:H.length≤br) (hne : ∀ i,i<k→rb i≠br) (hr:z[br]? = some (smB (Bq.smA n m sets k) (n+m+1)))
  (h1:OwnV 50 z2 tv' (((List.range k).map fun i=>smV (rb i) (n+m+1))++[smV br (n+m+1)])) (hE1:Ext (fun i=>Yf tv=some i) z z2) (hb1:Yf tv' = Yf tv∨∃ b,Yf tv' = some b∧z.length≤b)
  (h2:OwnSl 3 z3 bv' (((List.range k).map fun i=>((n+i:Nat):Int))++[((n+k:Nat):Int)])) (hE2:Ext (fun i=>Yf bv=some i) z2 z3) (hb2:Yf bv' = Yf bv∨∃ b,Yf bv' = some b∧z2.length≤b) :
  TI H z3 n m (k+1) sets tv' bv' (fun i=>if i<k then rb i else br):=by
 have hl1:=s.ext.1
 have hl2:=hE1.1
 have hbv : ∀ b,Yf bv=some b→∃ c,z2[b]? = some (.ints c 3 false):=fun b hb=>by
  obtain ⟨c,hc⟩:=own_int s.bS hb
  refine ⟨c,(hE1.2 b (Yb hc) fun h=>?_).trans hc⟩
  obtain ⟨d,hd⟩:=s.tS.blk h
  rw [hc] at hd; cases hd
 have keep : ∀ {b:Nat} {f:Nat→Rat},z[b]? = some (smB f (n+m+1))→z3[b]? = some (smB f (n+m+1)):=fun {b f} hb=>by
  have h3:z2[b]? = some (smB f (n+m+1)):=(hE1.2 b (Yb hb) fun h=>by
   obtain ⟨d,hd⟩:=s.tS.blk h
   rw [hb] at hd; cases hd).trans hb
  exact (hE2.2 b (Yb h3) fun h=>by
   obtain ⟨d,hd⟩:=hbv b h
   rw [h3] at hd; cases hd).trans h3
 have hcg:((List.range k).map fun i=>smV (if i<k then rb i else br) (n+m+1))=(List.range k).map fun i=>smV (rb i) (n+m+1):=List.map_congr_left fun i hi=>by rw [if_pos (List.mem_range.1 hi)]
 refine ⟨⟨by have:=hE2.1; omega,fun i hi _=>?_⟩,?_,?_,fun i hi=>?_,fun i j hi hj h=>?_,fun i hi=>?_,fun b hb=>?_,fun b hb=>?_⟩
 · rw [hE2.2 i (by omega) fun h=>by have:=s.nb i h; omega,hE1.2 i (by omega) fun h=>by have:=s.nt i h; omega]
   exact s.ext.2 i hi id
 · rw [List.range_succ,List.map_append,hcg,List.map_singleton,if_neg (Nat.lt_irrefl k)]
   refine h1.same fun b hb=>?_
   obtain ⟨d,hd⟩:=h1.blk hb
   exact hE2.2 b (Yb hd) fun h=>by
    obtain ⟨c,hc⟩:=hbv b h
    rw [hd] at hc; cases hc
 · rw [List.range_succ,List.map_append,List.map_singleton]; exact h2
 · by_cases hik:i<k
   · rw [if_pos hik]; exact keep (s.row i hik)
   · obtain rfl:i=k:=by omega
     rw [if_neg hik]; exact keep hr
 · by_cases hik:i<k
   · by_cases hjk:j<k
     · rw [if_pos hik,if_pos hjk] at h; exact s.inj i j hik hjk h
     · rw [if_pos hik,if_neg hjk] at h; exact absurd h (hne i hik)
   · by_cases hjk:j<k
     · rw [if_neg hik,if_pos hjk] at h; exact absurd h.symm (hne j hjk)
     · omega
 · by_cases hik:i<k
   · rw [if_pos hik]; exact s.nr i hik
   · rw [if_neg hik]; exact hbr
 · rcases hb1 with h | ⟨b',h,h'⟩
   · exact s.nt b (h▸hb)
   · rw [h] at hb; cases hb; omega
 · rcases hb2 with h | ⟨b',h,h'⟩
   · exact s.nb b (h▸hb)
   · rw [h] at hb; cases hb; omega
end
end Go.Proofs.Tryd.Am
namespace Go.Proofs.Tryd.Am
open Go.Am Sr
set_option maxRecDepth 100000
set_option maxHeartbeats 8000000
theorem TI.whole {H z z1:Zi} {n m bg:Nat} {sets:List Nat} {tv bv:Value} {rb:Nat→Nat} (s:TI H z n m m sets tv bv rb) (h1:1≤m) (hbg:z.length≤bg) (hg:z1[bg]? = some (smB (Bq.smC n) (n+m+1))) (hE:Ext (fun _=>False) z z1) :
  ∃ bt bb ys,bv=bsV bb m ys∧TM H z1 n m tv bt bb bg ys rb (Bq.tb0 n m sets).t (Bq.tb0 n m sets).g (Bq.tb0 n m sets).base:=by
 have hl:=s.ext.1
 have s1:=s.more hE
 rcases s1.tS with ⟨_,h⟩ | ⟨bt,yt,ht,_,hbt⟩
 · have:=congrArg List.length h
   simp at this; omega
 · rcases s1.bS with ⟨_,h⟩ | ⟨bb,ys,hb,hbb⟩
   · have:=congrArg List.length h
     simp at this; omega
   · refine ⟨bt,bb,ys,by rw [hb,List.length_map,List.length_range],s1.ext,s1.tS.val,by rw [ht]; rfl,⟨_,hbt⟩,s1.row,hg,hbb,s1.inj,fun i hi h=>?_,s1.nr,by omega,s1.nb bb (by rw [hb]; rfl)⟩
     have:=Yb (s.row i hi)
     omega
theorem s67_callW [Tabs Tryd.prog] {args:List Value} {h:Zi} {Q:Value→Zi→Prop} (hsz:args.length≤253) (hk:AWS Tryd.prog 253 s67 (Zt Tryd.prog [.cell 4 44] Q) (Zs 0 args) h):ACall Tryd.prog 67 args h Q :=
 Xd Tryd.func67 rfl (enters_of Tryd.func67 (by kernel_rfl) rfl) rfl rfl (by decide) s67_strip s67_ok hsz hk
theorem greatest_call [Tabs prog] {h:Zi} {n:Nat} {sv:Value} {sets:List Nat} (hv:IntSl h sv (sets.map Int.ofNat)) (h6:n≤6) (hm:sets.length≤5000) (h1:sets≠[]) (hs : ∀ s∈sets,s<9223372036854775808) (hc : ∀ i,i<n→∃ c∈sets,c.testBit i=true) :
  ACall prog 67 [Zd n,sv] h fun r h'=>∃ q,r=qV q∧Bq.IsOpt n sets q∧Ext (fun _=>False) h h':=by
 obtain ⟨m,hmm⟩ : ∃ m,sets.length=m:=⟨_,rfl⟩
 have hm1:1≤m:=by
  rcases Nat.eq_zero_or_pos m with h | h
  · exact absurd (List.length_eq_zero_iff.1 (hmm.trans h)) h1
  · exact h
 rw [hmm] at hm
 have hW:n+m<1099511627775:=by omega
 have hnm:addV .i64 (n:Int) (m:Int)=((n+m:Nat):Int):=by rw [Wl (by omega) (by omega)]; omega
 have hnm1:addV .i64 ((n+m:Nat):Int) 1=((n+m+1:Nat):Int):=by rw [Wl (by omega) (by omega)]; omega
 have hl0:=hv.len
 rw [List.length_map,hmm] at hl0
 refine s67_callW (by simp) ?_
 simp only [s67]
 refine Zg fun N1 hN1=>?_
 simp (maxSteps:=2000000) only [↓Za,↓Zb,↓Zc,vup,cond_false,aop,Zf,Zs,sput,Ze,Nat.reduceBEq,Nat.reduceAdd,tyf,Xn,Yy]
 obtain ⟨H,hH⟩ : ∃ H,H=h++[z0]:=⟨_,rfl⟩
 have hE0:Ext (fun _=>False) h H:=hH▸Ext.app _ _ _
 have h4:H[h.length]? = some z0:=hH▸Yk h z0
 have hv:=Xk hv hE0
 have hlH:=hE0.1
 have h4l:=Yb h4
 rw [← hH]
 clear hH
 have fin : ∀ q z',Bq.IsOpt n sets q→Ext (fun i=>i=h.length) H z'→(∃ q',qV q=qV q'∧Bq.IsOpt n sets q'∧Ext (fun _=>False) h z'):=fun q z' hq hE=>⟨q,rfl,hq,⟨by have:=hE.1; omega,fun i hi _=>by rw [hE.2 i (by omega) (by omega)]; exact hE0.2 i hi id⟩⟩
 generalize h.length=b4 at h4 h4l fin ⊢
 refine hN1 [(0,Zd (n:Nat)),(1,sv),(4,pT b4)] _ _ ?_ (by simp (maxSteps:=2000000) only [vup,cond_true,cond_false,Nat.reduceBEq])
 clear hN1
 try clear N1
 refine Zg fun N2 hN2=>?_
 simp (maxSteps:=2000000) only [↓Za,↓Zb,↓Zc,vup,List.map_cons,List.map_nil,cond_true,cond_false,aop,Zf,ev,sput,Ze,Zj,Nat.reduceBEq,tyf,hl0]
 refine hN2 [(0,Zd (n:Nat)),(1,sv),(4,pT b4),(5,Zd (m:Nat))] _ _ ?_ (by simp (maxSteps:=2000000) only [vup,cond_true,cond_false,Nat.reduceBEq])
 clear hN2
 try clear N2
 refine Zg fun N3 hN3=>?_
 simp (maxSteps:=2000000) only [↓Za,↓Zb,↓Zc,vup,cond_false,aop,Zf,ev,sput,Ze,Nat.reduceBEq]
 refine hN3 [(0,Zd (n:Nat)),(1,sv),(4,pT b4),(5,Zd (m:Nat)),(6,.slice none 0 0)] _ _ ?_ (by simp (maxSteps:=2000000) only [vup,cond_true,cond_false,Nat.reduceBEq])
 clear hN3
 try clear N3
 refine Zg fun N4 hN4=>?_
 simp (maxSteps:=2000000) only [↓Za,↓Zb,↓Zc,vup,cond_false,aop,Zf,ev,sput,Ze,Nat.reduceBEq]
 refine hN4 [(0,Zd (n:Nat)),(1,sv),(4,pT b4),(5,Zd (m:Nat)),(6,.slice none 0 0),(7,.slice none 0 0)] _ _ ?_ (by simp (maxSteps:=2000000) only [vup,cond_true,cond_false,Nat.reduceBEq])
 clear hN4
 try clear N4
 refine Zo fun Z hZ=>?_
 refine Zg fun N5 hN5=>?_
 simp (maxSteps:=2000000) only [↓Za,↓Zb,↓Zc,vup,List.map_cons,List.map_nil,cond_true,cond_false,aop,Zf,ev,sput,Ze,Zj,Nat.reduceBEq,tyf,hl0]
 refine hN5 [(0,Zd (n:Nat)),(1,sv),(4,pT b4),(5,Zd (m:Nat)),(6,.slice none 0 0),(7,.slice none 0 0),(24,sv),(25,Zd (m:Nat)),(26,.int .i64 0)] _ _ ?_ (by simp (maxSteps:=2000000) only [vup,cond_true,cond_false,Nat.reduceBEq])
 clear hN5
 try clear N5
 refine Zr ?_
 refine Zp fun Q hQ=>?_
 refine Yu (γ:=Nat×Value×Value×Zi) (fun s=>s.1≤m∧∃ rb,TI H s.2.2.2 n m s.1 sets s.2.1 s.2.2.1 rb)
  (fun s=>([(0,Zd (n:Nat)),(1,sv),(4,pT b4),(5,Zd (m:Nat)),(6,s.2.1),(7,s.2.2.1),(24,sv),(25,Zd (m:Nat)),(26,Zd (s.1:Nat))],s.2.2.2)) (fun s=>m-s.1) (0,.slice none 0 0,.slice none 0 0,H) ⟨Nat.zero_le _,_,TI.zero H n m sets⟩ (by simp (maxSteps:=2000000) only [vup,cond_true,cond_false,Nat.reduceBEq,Int.natCast_zero]) rfl ?_
 rintro ⟨k,tv,bv,z⟩ ⟨hk,rb,T⟩
 simp only at hk T
 refine Zp fun Q2 hQ2=>?_
 simp only [l67_1]
 have hvz:=Xk hv T.ext
 by_cases hin:(k:Int)<(m:Int)
 · have hk' : k<m:=by omega
   have hkl:k<(sets.map Int.ofNat).length:=by rw [List.length_map,hmm]; exact hk'
   obtain ⟨s,hsd⟩ : ∃ s,s=sets.getD k 0:=⟨_,rfl⟩
   have hsk:(sets.map Int.ofNat).getD k 0=(s:Int):=by
    rw [hsd,List.getD,List.getElem?_map,List.getD,List.getElem?_eq_getElem (by omega)]; rfl
   have hs' : s<9223372036854775808:=hs s (by rw [hsd,List.getD,List.getElem?_eq_getElem (by omega)]; exact List.getElem_mem _)
   refine Zg fun N6 hN6=>?_
   simp (maxSteps:=2000000) only [↓Za,↓Zb,↓Zc,vup,cond_true,cond_false,aop,Zf,ev,sput,Ze,Zx,Ya,Nat.reduceBEq,hin]
   refine hN6 [(0,Zd (n:Nat)),(1,sv),(4,pT b4),(5,Zd (m:Nat)),(6,tv),(7,bv),(24,sv),(25,Zd (m:Nat)),(26,Zd (k:Nat)),(27,.bool true)] _ _ ?_ (by simp (maxSteps:=2000000) only [vup,cond_true,cond_false,Nat.reduceBEq])
   clear hN6
   try clear N6
   refine Zg fun N7 hN7=>?_
   simp (maxSteps:=2000000) only [↓Zn,↓vdn,vup,cond_true,cond_false,Zf,ev,Nat.reduceBEq]
   refine hN7 [(0,Zd (n:Nat)),(1,sv),(4,pT b4),(5,Zd (m:Nat)),(6,tv),(7,bv),(24,sv),(25,Zd (m:Nat)),(26,Zd (k:Nat))] _ _ ?_ (by simp (maxSteps:=2000000) only [vup,cond_true,cond_false,Nat.reduceBEq])
   clear hN7
   try clear N7
   refine Zo fun B hB=>?_
   refine Zr ?_
   refine Zg fun N8 hN8=>?_
   simp (maxSteps:=2000000) only [↓Za,↓Zb,↓Zc,vup,cond_true,cond_false,aop,Zf,ev,sput,Ze,Nat.reduceBEq,hvz.idx Xv Xg hkl,hvz.load Xl hkl,hsk]
   refine hN8 [(0,Zd (n:Nat)),(1,sv),(4,pT b4),(5,Zd (m:Nat)),(6,tv),(7,bv),(8,Zd (k:Nat)),(9,Zd (s:Nat)),(24,sv),(25,Zd (m:Nat)),(26,Zd (k:Nat))] _ _ ?_ (by simp (maxSteps:=2000000) only [vup,cond_true,cond_false,Nat.reduceBEq])
   clear hN8
   try clear N8
   refine Zg fun N9 hN9=>?_
   simp (maxSteps:=2000000) only [↓Za,↓Zb,↓Zc,vup,cond_true,cond_false,aop,Zf,ev,sput,Ze,Zx,Ya,Nat.reduceBEq,hnm,hnm1,makeP el_50 zero_44 info_44 rfl (show n+m+1≤1099511627776 by omega)]
   have hE1:Ext (fun _=>False) z (z++[pB (List.replicate (n+m+1) (0,0))]):=Ext.app _ _ _
   have c10:=Yk z (pB (List.replicate (n+m+1) (0,0)))
   have hb0:H.length≤z.length:=T.ext.1
   have hne : ∀ i,i<k→rb i≠z.length:=fun i hi hc=>by have:=Yb (T.row i hi); omega
   have hset : ∀ B,Ext (fun _=>False) z ((z++[pB (List.replicate (n+m+1) (0,0))]).set z.length B):=fun B=>⟨by simp,fun i hi _=>by rw [List.getElem?_set_ne (by omega)]; exact hE1.2 i hi id⟩
   generalize z++[pB (List.replicate (n+m+1) (0,0))]=y at hE1 c10 hset ⊢
   generalize z.length=br at c10 hb0 hne hset ⊢
   refine hN9 [(0,Zd (n:Nat)),(1,sv),(4,pT b4),(5,Zd (m:Nat)),(6,tv),(7,bv),(8,Zd (k:Nat)),(9,Zd (s:Nat)),(10,smV br (n+m+1)),(24,sv),(25,Zd (m:Nat)),(26,Zd (k:Nat))] _ _ ?_ (by simp (maxSteps:=2000000) only [vup,cond_true,cond_false,Nat.reduceBEq])
   clear hN9
   try clear N9
   refine Zo fun M1 hM1=>?_
   refine sm_row hk' hsd hs' hW (by omega) c10 fun e' he=>hM1 [(0,Zd (n:Nat)),(1,sv),(4,pT b4),(5,Zd (m:Nat)),(6,tv),(7,bv),(8,Zd (k:Nat)),(10,smV br (n+m+1)),(24,sv),(25,Zd (m:Nat)),(26,Zd (k:Nat))] _ _ ?_ he
   clear hM1
   have T:=T.more (hset (smB (Bq.smA n m sets k) (n+m+1)))
   have c10:=Xh (Yb c10) (smB (Bq.smA n m sets k) (n+m+1))
   clear hset hE1
   generalize y.set br (smB (Bq.smA n m sets k) (n+m+1))=z at T c10 ⊢
   have hnk:addV .i64 (n:Int) (k:Int)=((n+k:Nat):Int):=by rw [Wl (by omega) (by omega)]; omega
   refine Zg fun N10 hN10=>?_
   simp (maxSteps:=2000000) only [↓Za,↓Zb,↓Zc,vup,List.map_cons,List.map_nil,cond_true,cond_false,aop,Zf,ev,sput,Ze,Zj,Nat.reduceBEq,litV1]
   refine pushV T.tS (fun w hw=>?_) (by rw [List.length_map,List.length_range]; omega) fun tv' z2 o1 x1 d1=>?_
   · obtain ⟨i,_,rfl⟩:=List.mem_map.1 hw
     exact ⟨rfl,rfl⟩
   refine hN10 [(0,Zd (n:Nat)),(1,sv),(4,pT b4),(5,Zd (m:Nat)),(6,tv'),(7,bv),(8,Zd (k:Nat)),(10,smV br (n+m+1)),(24,sv),(25,Zd (m:Nat)),(26,Zd (k:Nat))] _ _ ?_ (by simp (maxSteps:=2000000) only [vup,cond_true,cond_false,Nat.reduceBEq])
   clear hN10
   try clear N10
   refine Zm ?_
   simp (maxSteps:=2000000) only [↓Za,↓Zb,↓Zc,vup,List.map_cons,List.map_nil,cond_true,cond_false,aop,Zf,Zk,ev,sput,Ze,Zx,Ya,Zj,Nat.reduceBEq,hnk,litI1]
   refine pushE (h:=z2) (xs:=(List.range k).map fun i=>((n+i:Nat):Int)) (T.bS.ext x1 fun b hb hb'=>?_) (by rw [List.length_map,List.length_range]; omega) fun bv' z3 o2 x2 d2=>?_
   · obtain ⟨c,hc⟩:=own_int T.bS hb
     obtain ⟨d,hd⟩:=T.tS.blk hb'
     rw [hc] at hd; cases hd
   refine hB [(0,Zd (n:Nat)),(1,sv),(4,pT b4),(5,Zd (m:Nat)),(6,tv'),(7,bv'),(24,sv),(25,Zd (m:Nat)),(26,Zd (k:Nat))] _ _ ?_ (by simp (maxSteps:=2000000) only [vup,cond_true,cond_false,Nat.reduceBEq])
   clear hB
   try clear B
   refine Zm ?_
   simp (maxSteps:=2000000) only [↓Za,↓Zb,↓Zc,vup,cond_true,cond_false,aop,ev,sput,Ze,Zx,Ya,Nat.reduceBEq,Wx (show k<9223372036854775807 by omega)]
   exact hQ2 _ _ _ ⟨(k+1,tv',bv',z3),⟨hk',_,T.push hb0 hne c10 o1 x1 d1 o2 x2 d2⟩,by simp only; omega,by simp (maxSteps:=2000000) only [vup,cond_true,cond_false,Nat.reduceBEq],rfl⟩
 · obtain rfl:k=m:=by omega
   refine Zg fun N11 hN11=>?_
   simp (maxSteps:=2000000) only [↓Za,↓Zb,↓Zc,vup,cond_true,cond_false,aop,Zf,ev,sput,Ze,Zx,Ya,Nat.reduceBEq,hin]
   refine hN11 [(0,Zd (n:Nat)),(1,sv),(4,pT b4),(5,Zd (k:Nat)),(6,tv),(7,bv),(24,sv),(25,Zd (k:Nat)),(26,Zd (k:Nat)),(27,.bool false)] _ _ ?_ (by simp (maxSteps:=2000000) only [vup,cond_true,cond_false,Nat.reduceBEq])
   clear hN11
   try clear N11
   refine Zg fun N12 hN12=>?_
   simp (maxSteps:=2000000) only [↓Yi,↓vdn,vup,cond_true,cond_false,Zf,ev,Nat.reduceBEq]
   refine hQ2 _ _ _ (hQ _ _ _ ?_)
   simp (maxSteps:=2000000) only [Zf,Zk,Zt,if_true]
   refine hZ [(0,Zd (n:Nat)),(1,sv),(4,pT b4),(5,Zd (k:Nat)),(6,tv),(7,bv)] _ _ ?_ (by simp (maxSteps:=2000000) only [vup,cond_true,cond_false,Nat.reduceBEq])
   clear hZ
   try clear Z
   clear hQ hQ2
   refine Zg fun N13 hN13=>?_
   simp (maxSteps:=2000000) only [↓Za,↓Zb,↓Zc,vup,cond_true,cond_false,aop,Zf,ev,sput,Ze,Zx,Ya,Nat.reduceBEq,hnm,hnm1,makeP el_50 zero_44 info_44 rfl (show n+k+1≤1099511627776 by omega)]
   have hE1:Ext (fun _=>False) z (z++[pB (List.replicate (n+k+1) (0,0))]):=Ext.app _ _ _
   have c12:=Yk z (pB (List.replicate (n+k+1) (0,0)))
   have hset : ∀ B,Ext (fun _=>False) z ((z++[pB (List.replicate (n+k+1) (0,0))]).set z.length B):=fun B=>⟨by simp,fun i hi _=>by rw [List.getElem?_set_ne (by omega)]; exact hE1.2 i hi id⟩
   refine hN13 [(0,Zd (n:Nat)),(1,sv),(4,pT b4),(5,Zd (k:Nat)),(6,tv),(7,bv),(12,smV z.length (n+k+1))] _ _ ?_ (by simp (maxSteps:=2000000) only [vup,cond_true,cond_false,Nat.reduceBEq])
   clear hN13
   try clear N13
   refine Zo fun M2 hM2=>?_
   refine sm_gain hW c12 fun e' he=>hM2 [(0,Zd (n:Nat)),(1,sv),(4,pT b4),(5,Zd (k:Nat)),(6,tv),(7,bv),(12,smV z.length (n+k+1))] _ _ ?_ he
   clear hM2
   have c12:=Xh (Yb c12) (smB (Bq.smC n) (n+k+1))
   obtain ⟨bt,bb,ys,rfl,M⟩:=T.whole hm1 (Nat.le_refl _) c12 (hset _)
   obtain ⟨r,hr⟩:=(Bq.good0 n k sets).ends h6 (by omega)
   refine aws_le (sm_loop M (Bq.good0 n k sets) hr h6 hW hmm hc h4 fin) (by simp (maxSteps:=2000000) only [vup,cond_true,cond_false,Nat.reduceBEq])
end Go.Proofs.Tryd.Am
