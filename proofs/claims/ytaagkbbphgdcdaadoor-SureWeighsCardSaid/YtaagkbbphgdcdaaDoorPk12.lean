/-
  sure: Light, and the reference's Weights.
  sure: the reference's Weigh, and its Light.
  Sums of rows modulo 2, plain: how many rows a base has.
  Rows taken from each other until the rank is seen; the least rank of all choices of rows, plain.
  Products of rows modulo 2: vectors with duals are at most as many as their places. Plain Lean, no program.
  Printed by gen.py: the code of some functions, without what no step looks at; held against the program's own by the kernel.
  sure: the library's sort of a short slice, with the comparison that puts the greatest first.
  sure: the library's sort of a short slice: what stands ahead of the insertion.
  sure: a base with one row more.
  sure: the least rank, as the program finds it.
  sure: the reference's rank.
  sure: Fit, by the program and by the reference.
  sure: codes against weights and ranks.
  Printed by gen.py: the code of some functions, without what no step looks at; held against the program's own by the kernel.
  sure: the law SureLight.
  Printed by gen.py: the code of some functions, without what no step looks at; held against the program's own by the kernel.
  sure: Lists's copy named, of whatever length.
  sure: the law SureWeighs.
-/
import Derived.Test.YtaagkbbphgdcdaaDoorPk10
import Derived.Test.YtaagkbbphgdcdaaDoorPk11
import Derived.Test.YtaagkbbphgdcdaaDoorPk6
import Derived.Test.YtaagkbbphgdcdaaDoorPk3
import Derived.Test.YtaagkbbphgdcdaaDoorProg
import Derived.KernelRfl
import Derived.Shelf.Abstract
import Derived.Test.YtaagkbbphgdcdaaDoorPk7
import Derived.Test.YtaagkbbphgdcdaaDoorPk8
import Derived.Test.YtaagkbbphgdcdaaDoorPk9
set_option linter.all false
namespace Go.Proofs.Tryd.Am
open Go.Am Sr
set_option maxRecDepth 100000
set_option maxHeartbeats 4000000
def prodD (ps:List (Int×Int)):Nat:=ps.foldr (fun p n=>p.2.natAbs*n) 1
theorem prodD_cons (p:Int×Int) (ps:List (Int×Int)):prodD (p::ps)=p.2.natAbs*prodD ps:=rfl
theorem prodD_pos : ∀ {ps:List (Int×Int)},allW ps=true→0<prodD ps
 | [],_=>by decide
 | p::ps,h=>by
   rw [allW,List.all_cons,Bool.and_eq_true] at h
   have:=isW_iff.1 h.1
   rw [prodD_cons]
   exact Nat.mul_pos (by omega) (prodD_pos h.2)
theorem prodD_le : ∀ {ps:List (Int×Int)},allW ps=true→prodD ps≤60 ^ ps.length
 | [],_=>by decide
 | p::ps,h=>by
   rw [allW,List.all_cons,Bool.and_eq_true] at h
   have:=isW_iff.1 h.1
   rw [prodD_cons,List.length_cons,Nat.pow_succ,Nat.mul_comm]
   exact Nat.mul_le_mul (prodD_le h.2) (by omega)
theorem prodD_dvd : ∀ {ps:List (Int×Int)},∀ p∈ps,p.2.natAbs∣prodD ps
 | [],p,h=>by cases h
 | a::ps,p,h=>by
   rw [prodD_cons]
   rcases List.mem_cons.1 h with rfl | h
   · exact Nat.dvd_mul_right _ _
   · exact Nat.dvd_trans (prodD_dvd p h) (Nat.dvd_mul_left _ _)
def wf (ps:List (Int×Int)) (i:Nat):Rat:=wq (ps.getD i (0,0))
theorem wf_isW {ps:List (Int×Int)} (ha:allW ps=true) {i:Nat} (hi:i<ps.length):isW (ps.getD i (0,0))=true:=List.all_eq_true.1 ha _ (getP_mem hi)
theorem wf_rp {ps:List (Int×Int)} (ha:allW ps=true) {i:Nat} (hi:i<ps.length) : ∃ x:Int,0≤x∧x≤prodD ps∧Bq.Rp (prodD ps) x (wf ps i):=by
 have h:=wf_isW ha hi
 obtain ⟨h1,h2,h3,h4,h5⟩:=isW_iff.1 h
 obtain ⟨e1,e2⟩:=isW_parts h
 have hd:(wf ps i).den∣prodD ps:=by
  have:=prodD_dvd _ (getP_mem hi)
  have e3:(wf ps i).den=(ps.getD i (0,0)).2.natAbs:=by rw [wf]; omega
  rw [e3]; exact this
 have hr:=(Bq.Rp.own (wf ps i)).up' hd (prodD_pos ha)
 have hn:(wf ps i).num≤(wf ps i).den:=by rw [wf,e1,e2]; exact h4
 have hn0:0≤(wf ps i).num:=by rw [wf,e1]; exact h3
 refine ⟨_,Int.mul_nonneg hn0 (Int.natCast_nonneg _),?_,hr⟩
 have h6:(wf ps i).num*((prodD ps / (wf ps i).den:Nat):Int)≤((wf ps i).den:Int)*((prodD ps / (wf ps i).den:Nat):Int):=Int.mul_le_mul_of_nonneg_right hn (Int.natCast_nonneg _)
 rw [← Int.natCast_mul,Nat.mul_div_cancel' hd] at h6
 exact h6
def sumW (ps:List (Int×Int)) (s i:Nat):Rat:=Bq.sumTo (fun j=>Bq.bitQ s j*wf ps j) i
theorem sumW_succ (ps:List (Int×Int)) (s i:Nat):sumW ps s (i+1)=if s.testBit i=true then sumW ps s i+wf ps i else sumW ps s i:=by
 have e:sumW ps s (i+1)=sumW ps s i+Bq.bitQ s i*wf ps i:=rfl
 rw [e,Bq.bitQ]
 split
 · rw [Rat.one_mul]
 · rw [Rat.zero_mul,Rat.add_zero]
theorem sumW_rp {ps:List (Int×Int)} (ha:allW ps=true) (s:Nat) : ∀ {i:Nat},i≤ps.length→∃ x:Int,0≤x∧x≤i*prodD ps∧Bq.Rp (prodD ps) x (sumW ps s i)
 | 0,_=>⟨0,by decide,by simp,⟨prodD_pos ha,by rw [sumW,Bq.sumTo,Rat.zero_mul]; rfl⟩⟩
 | i+1,h=>by
   obtain ⟨x,x0,x1,hx⟩:=sumW_rp ha s (i:=i) (by omega)
   obtain ⟨y,y0,y1,hy⟩:=wf_rp ha (i:=i) (by omega)
   rw [sumW_succ]
   have e:((i+1:Nat):Int)*(prodD ps:Int)=i*(prodD ps:Int)+prodD ps:=by rw [Int.natCast_add,Int.add_mul]; simp
   split
   · have:=hx.plus hy 1
     rw [Int.one_mul,show ((1:Int):Rat)=1 from rfl,Rat.one_mul] at this
     exact ⟨x+y,by omega,by omega,this⟩
   · exact ⟨x,x0,by omega,hx⟩
def Vg (xs:List Int) (ps:List (Int×Int)):Bool:=(clq xs).all fun s=>decide (sumW ps s xs.length≤1)
def okL (xs:List Int) (ps:List (Int×Int)):Bool:=grs xs&&(decide (ps.length=xs.length)&&allW ps)
def lightV (xs:List Int) (ps:List (Int×Int)):Value:=if okL xs ps=true then .tuple #[.bool (Vg xs ps),.int .i64 0] else .tuple #[.bool false,.int .i64 2]
theorem s38_callW [Tabs Tryd.prog] {args:List Value} {h:Zi} {Q:Value→Zi→Prop} (hsz:args.length≤57) (hk:AWS Tryd.prog 57 s38 (Zt Tryd.prog [.tmp 4,.tmp 5] Q) (Zs 0 args) h):ACall Tryd.prog 38 args h Q :=
 Xd Tryd.func38 rfl (enters_of Tryd.func38 (by kernel_rfl) rfl) rfl rfl (by decide) s38_strip s38_ok hsz hk
theorem light_call [Tabs prog] {h:Zi} {v w:Value} {xs:List Int} {ps:List (Int×Int)} (hv:IntSl h v xs) (hl:xs.length<9223372036854775808) (hx : ∀ x∈xs,-9223372036854775808≤x∧x<9223372036854775808) (hw:PairSl h w ps) (hwl:ps.length<9223372036854775808) :
  ACall prog 38 [v,w] h fun r h'=>Ext (fun _=>False) h h'∧r=lightV xs ps:=by
 refine s38_callW (by simp) ?_
 simp only [s38]
 refine Zg fun N1 hN1=>?_
 simp (maxSteps:=2000000) only [↓Za,↓Zb,↓Zc,vup,cond_false,aop,Zf,Zs,ev,sput,Ze,Nat.reduceBEq,Nat.reduceAdd]
 refine hN1 [(0,v),(1,w),(4,.bool false),(5,.int .i64 0)] _ _ ?_ (by simp (maxSteps:=2000000) only [vup,cond_true,cond_false,Nat.reduceBEq])
 clear hN1
 try clear N1
 refine Zg fun N2 hN2=>?_
 simp (maxSteps:=2000000) only [↓Za,↓Zb,↓Zc,vup,cond_true,cond_false,aop,Zf,ev,sput,Ze,Nat.reduceBEq]
 refine hN2 [(0,v),(1,w),(4,.bool false),(5,.int .i64 0),(6,v)] _ _ ?_ (by simp (maxSteps:=2000000) only [vup,cond_true,cond_false,Nat.reduceBEq])
 clear hN2
 try clear N2
 refine Zo fun M hM=>?_
 refine Zg fun N3 hN3=>?_
 simp (maxSteps:=2000000) only [↓Za,↓Zc,vup,List.map_cons,List.map_nil,cond_true,cond_false,aop,ev,sput,Ze,unK,Nat.reduceBEq,Yt,List.nil_append,List.append_nil]
 refine (valid_call hv hl hx).mono ?_
 rintro _ h ⟨rfl,rfl⟩
 have bad:okL xs ps=false→lightV xs ps = .tuple #[.bool false,.int .i64 2]:=fun hno=>by rw [lightV,hno,if_neg (by decide)]
 cases hg:grs xs with
 | false =>
   simp (maxSteps:=2000000) only [↓Zb,↓Zc,↓vdn,vup,cond_true,cond_false,aop,Zf,ev,sput,Ze,Nat.reduceBEq]
   refine hN3 [(0,v),(1,w),(4,.bool false),(5,.int .i64 0),(6,v),(27,.bool true)] _ _ ?_ (by simp (maxSteps:=2000000) only [vup,cond_true,cond_false,Nat.reduceBEq])
   clear hN3
   try clear N3
   refine Yp rfl ?_
   refine Zm ?_
   simp (maxSteps:=2000000) only [↓Za,↓Zl,↓Zw,↓Zb,↓Zc,vup,cond_true,cond_false,aop,Zf,ev,sput,Ze,Nat.reduceBEq,Zt,Xi,tup]
   exact ⟨Ext.refl _ _,(bad (by rw [okL,hg]; rfl)).symm⟩
 | true =>
   have g:=grs_iff.1 hg
   have h6:=g.2.1
   by_cases hlen:ps.length=xs.length
   case neg =>
    have hne:((ps.length:Int) != (xs.length:Int))=true:=by rw [bne_iff_ne]; omega
    simp (maxSteps:=2000000) only [↓Zb,↓Zc,↓vdn,vup,List.map_cons,List.map_nil,cond_true,cond_false,aop,Zf,ev,sput,Ze,Zx,Ya,Zj,Nat.reduceBEq,tyf,hw.len,hv.len,hne]
    refine hN3 [(0,v),(1,w),(4,.bool false),(5,.int .i64 0),(6,v),(27,.bool true)] _ _ ?_ (by simp (maxSteps:=2000000) only [vup,cond_true,cond_false,Nat.reduceBEq])
    clear hN3
    try clear N3
    refine Yp rfl ?_
    refine Zm ?_
    simp (maxSteps:=2000000) only [↓Za,↓Zl,↓Zw,↓Zb,↓Zc,vup,cond_true,cond_false,aop,Zf,ev,sput,Ze,Nat.reduceBEq,Zt,Xi,tup]
    exact ⟨Ext.refl _ _,(bad (by rw [okL,decide_eq_false hlen,Bool.false_and,Bool.and_false])).symm⟩
   have hne:((ps.length:Int) != (xs.length:Int))=false:=by rw [bne_eq_false_iff_eq]; omega
   simp (maxSteps:=2000000) only [↓Zb,↓Zc,↓vdn,vup,List.map_cons,List.map_nil,cond_true,cond_false,aop,Zf,ev,sput,Ze,Zx,Ya,Zj,Nat.reduceBEq,tyf,hw.len,hv.len,hne,Yt,List.nil_append,List.append_nil]
   refine (contW_call hw hwl).mono ?_
   rintro _ h ⟨rfl,rfl⟩
   cases ha:allW ps with
   | false =>
     simp (maxSteps:=2000000) only [vup]
     refine hN3 [(0,v),(1,w),(4,.bool false),(5,.int .i64 0),(6,v),(27,.bool true)] _ _ ?_ (by simp (maxSteps:=2000000) only [vup,cond_true,cond_false,Nat.reduceBEq])
     clear hN3
     try clear N3
     refine Yp rfl ?_
     refine Zm ?_
     simp (maxSteps:=2000000) only [↓Za,↓Zl,↓Zw,↓Zb,↓Zc,vup,cond_true,cond_false,aop,Zf,ev,sput,Ze,Nat.reduceBEq,Zt,Xi,tup]
     exact ⟨Ext.refl _ _,(bad (by rw [okL,ha,Bool.and_false,Bool.and_false])).symm⟩
   | true =>
     have hok:okL xs ps=true:=by rw [okL,hg,ha,decide_eq_true hlen]; rfl
     have good:lightV xs ps = .tuple #[.bool (Vg xs ps),.int .i64 0]:=by rw [lightV,if_pos hok]
     simp (maxSteps:=2000000) only [vup]
     refine hN3 [(0,v),(1,w),(4,.bool false),(5,.int .i64 0),(6,v),(27,.bool false)] _ _ ?_ (by simp (maxSteps:=2000000) only [vup,cond_true,cond_false,Nat.reduceBEq])
     clear hN3
     try clear N3
     refine Yh rfl ?_
     refine Zm ?_
     simp (maxSteps:=2000000) only [↓Zn,Zf]
     refine hM [(0,v),(1,w),(4,.bool false),(5,.int .i64 0),(6,v)] _ _ ?_ (by simp (maxSteps:=2000000) only [vup,cond_true,cond_false,Nat.reduceBEq])
     clear hM
     try clear M
     have hNp:=prodD_pos ha
     have hN6:prodD ps≤46656000000:=Nat.le_trans (prodD_le ha) (by rw [hlen]; exact Nat.le_trans (Nat.pow_le_pow_right (by decide) h6) (by decide))
     refine Zg fun N4 hN4=>?_
     simp (maxSteps:=2000000) only [↓Za,↓Zb,↓Zc,vup,List.map_cons,List.map_nil,cond_true,cond_false,aop,Zf,ev,sput,Ze,Nat.reduceBEq,tyf,bldF,Xn,Yy,newF]
     have c7:=Yk h (fC 1 1)
     have hE7:Ext (fun _=>False) h (h++[fC 1 1]):=Ext.app _ _ _
     generalize h++[fC 1 1]=H at c7 hE7 ⊢
     generalize h.length=b7 at c7 ⊢
     refine hN4 [(0,v),(1,w),(4,.bool false),(5,.int .i64 0),(6,v),(7,.pointer (some ⟨b7,0,none⟩))] _ _ ?_ (by simp (maxSteps:=2000000) only [vup,cond_true,cond_false,Nat.reduceBEq])
     clear hN4
     try clear N4
     have hvH:=Xk hv hE7
     have hwH:=hw.ext hE7
     refine Zo fun Z hZ=>?_
     refine Zg fun N5 hN5=>?_
     simp (maxSteps:=2000000) only [↓Za,↓Zb,↓Zc,vup,List.map_cons,List.map_nil,cond_true,cond_false,aop,Zf,ev,sput,Ze,Zj,Nat.reduceBEq,tyf,Yt,List.nil_append,List.append_nil]
     refine (cliques_call hvH g).mono ?_
     rintro u H1 ⟨hu,hE1,hub⟩
     have hcl:((clq xs).map Int.ofNat).length=(clq xs).length:=List.length_map ..
     simp (maxSteps:=2000000) only [hu.int.len,hcl]
     refine hN5 [(0,v),(1,w),(4,.bool false),(5,.int .i64 0),(6,v),(7,.pointer (some ⟨b7,0,none⟩)),(30,u),(31,Zd (clq xs).length),(32,.int .i64 0)] _ _ ?_ (by simp (maxSteps:=2000000) only [vup,cond_true,cond_false,Nat.reduceBEq])
     clear hN5
     try clear N5
     refine Zr ?_
     refine Zp fun Q hQ=>?_
     refine Yu (γ:=Nat×Zi) (fun t=>t.1≤(clq xs).length∧Ext (fun _=>False) H1 t.2∧∀ j,j<t.1→sumW ps ((clq xs).getD j 0) xs.length≤1)
      (fun t=>([(0,v),(1,w),(4,.bool false),(5,.int .i64 0),(6,v),(7,.pointer (some ⟨b7,0,none⟩)),(30,u),(31,Zd (clq xs).length),(32,Zd (t.1:Nat))],t.2)) (fun t=>(clq xs).length-t.1) (0,H1) ⟨Nat.zero_le _,Ext.refl _ _,fun j hj=>absurd hj (Nat.not_lt_zero j)⟩ (by simp (maxSteps:=2000000) only [vup,cond_true,cond_false,Nat.reduceBEq,Int.natCast_zero]) rfl ?_
     rintro ⟨k,G⟩ ⟨hk,hEG,hall⟩
     simp only at hk hEG hall
     refine Zp fun Q2 hQ2=>?_
     simp only [l38_1]
     by_cases hkn:(k:Int)<(clq xs).length
     · have hk' : k<(clq xs).length:=by omega
       have hkC:k<((clq xs).map Int.ofNat).length:=by rw [hcl]; exact hk'
       obtain ⟨s,hs⟩ : ∃ s,(clq xs).getD k 0=s:=⟨_,rfl⟩
       have hsm:s∈clq xs:=by
        rw [← hs,List.getD,List.getElem?_eq_getElem hk']; exact List.getElem_mem _
       have hs64:s<64:=Nat.lt_of_lt_of_le ((mem_clq g).1 hsm).1 (pow6N h6)
       have hgs:((clq xs).map Int.ofNat).getD k 0=((s:Nat):Int):=by
        rw [← hs,List.getD,List.getElem?_map,List.getD,List.getElem?_eq_getElem hk']; rfl
       have huG:IntSl G u ((clq xs).map Int.ofNat):=Xk hu.int hEG
       have hEHG:=hE1.trans hEG
       have hwG:=hwH.ext hEHG
       have c7G:=(hEHG.2 _ (Yb c7) id).trans c7
       refine Zg fun N6 hN6=>?_
       simp (maxSteps:=2000000) only [↓Za,↓Zb,↓Zc,vup,cond_true,cond_false,aop,Zf,ev,sput,Ze,Zx,Ya,Nat.reduceBEq,hkn]
       refine hN6 [(0,v),(1,w),(4,.bool false),(5,.int .i64 0),(6,v),(7,.pointer (some ⟨b7,0,none⟩)),(30,u),(31,Zd (clq xs).length),(32,Zd (k:Nat)),(33,.bool true)] _ _ ?_ (by simp (maxSteps:=2000000) only [vup,cond_true,cond_false,Nat.reduceBEq])
       clear hN6
       try clear N6
       refine Zg fun N7 hN7=>?_
       simp (maxSteps:=2000000) only [↓Zn,↓vdn,vup,cond_true,cond_false,Zf,ev,Nat.reduceBEq]
       refine hN7 [(0,v),(1,w),(4,.bool false),(5,.int .i64 0),(6,v),(7,.pointer (some ⟨b7,0,none⟩)),(30,u),(31,Zd (clq xs).length),(32,Zd (k:Nat))] _ _ ?_ (by simp (maxSteps:=2000000) only [vup,cond_true,cond_false,Nat.reduceBEq])
       clear hN7
       try clear N7
       refine Zo fun B hB=>?_
       refine Zr ?_
       refine Zg fun N8 hN8=>?_
       simp (maxSteps:=2000000) only [↓Za,↓Zb,↓Zc,vup,cond_true,cond_false,aop,Zf,ev,sput,Ze,Nat.reduceBEq,huG.idx Xv Xg hkC,huG.load Xl hkC,hgs]
       refine hN8 [(0,v),(1,w),(4,.bool false),(5,.int .i64 0),(6,v),(7,.pointer (some ⟨b7,0,none⟩)),(9,Zd (s:Nat)),(30,u),(31,Zd (clq xs).length),(32,Zd (k:Nat))] _ _ ?_ (by simp (maxSteps:=2000000) only [vup,cond_true,cond_false,Nat.reduceBEq])
       clear hN8
       try clear N8
       refine Zg fun N9 hN9=>?_
       simp (maxSteps:=2000000) only [↓Za,↓Zb,↓Zc,vup,List.map_cons,List.map_nil,cond_true,cond_false,aop,Zf,ev,sput,Ze,Nat.reduceBEq,tyf,bldF,Xn,Yy,newF]
       have c10:=Yk G (fC 0 1)
       have hE10:Ext (fun _=>False) G (G++[fC 0 1]):=Ext.app _ _ _
       have hb10:b7<G.length:=Yb c7G
       generalize G++[fC 0 1]=G0 at c10 hE10 ⊢
       obtain ⟨b10,hb10e⟩ : ∃ b,b=G.length:=⟨_,rfl⟩
       rw [← hb10e] at c10 hb10 ⊢
       refine hN9 [(0,v),(1,w),(4,.bool false),(5,.int .i64 0),(6,v),(7,.pointer (some ⟨b7,0,none⟩)),(9,Zd (s:Nat)),(10,.pointer (some ⟨b10,0,none⟩)),(30,u),(31,Zd (clq xs).length),(32,Zd (k:Nat))] _ _ ?_ (by simp (maxSteps:=2000000) only [vup,cond_true,cond_false,Nat.reduceBEq])
       clear hN9
       try clear N9
       have hwG0:=hwG.ext hE10
       have c7G0:=(hE10.2 _ (Yb c7G) id).trans c7G
       refine Zo fun A hA=>?_
       refine Zg fun N10 hN10=>?_
       simp (maxSteps:=2000000) only [↓Za,↓Zb,↓Zc,vup,List.map_cons,List.map_nil,cond_true,cond_false,aop,Zf,ev,sput,Ze,Zj,Nat.reduceBEq,tyf,hwG0.len]
       refine hN10 [(0,v),(1,w),(4,.bool false),(5,.int .i64 0),(6,v),(7,.pointer (some ⟨b7,0,none⟩)),(9,Zd (s:Nat)),(10,.pointer (some ⟨b10,0,none⟩)),(30,u),(31,Zd (clq xs).length),(32,Zd (k:Nat)),(37,w),(38,Zd ps.length),(39,.int .i64 0)] _ _ ?_ (by simp (maxSteps:=2000000) only [vup,cond_true,cond_false,Nat.reduceBEq])
       clear hN10
       try clear N10
       refine Zr ?_
       refine Zp fun Qa hQa=>?_
       refine Yu (γ:=Nat×Zi) (fun t=>t.1≤ps.length∧Ext (fun b=>b=b10) G0 t.2∧t.2[b10]? = some (fC (sumW ps s t.1).num (sumW ps s t.1).den))
        (fun t=>([(0,v),(1,w),(4,.bool false),(5,.int .i64 0),(6,v),(7,.pointer (some ⟨b7,0,none⟩)),(9,Zd (s:Nat)),(10,.pointer (some ⟨b10,0,none⟩)),(30,u),(31,Zd (clq xs).length),(32,Zd (k:Nat)),(37,w),(38,Zd ps.length),(39,Zd (t.1:Nat))],t.2)) (fun t=>ps.length-t.1) (0,G0) ⟨Nat.zero_le _,Ext.refl _ _,c10⟩ (by simp (maxSteps:=2000000) only [vup,cond_true,cond_false,Nat.reduceBEq,Int.natCast_zero]) rfl ?_
       rintro ⟨i,F⟩ ⟨hi,hEF,cF⟩
       simp only at hi hEF cF
       refine Zp fun Qb hQb=>?_
       simp only [l38_0]
       by_cases hin:(i:Int)<ps.length
       · have hi' : i<ps.length:=by omega
         have hwF:PairSl F w ps:=hwG0.same fun b hb=>by
          have hlt:=hwG.lt hb
          exact hEF.2 b (by have:=hE10.1; omega) (by omega)
         obtain ⟨⟨px,py⟩,hp⟩ : ∃ p,ps.getD i (0,0)=p:=⟨_,rfl⟩
         have hW:=wf_isW ha hi'
         rw [hp] at hW
         obtain ⟨e1,e2⟩:=isW_parts hW
         have hwfe:wf ps i=wq (px,py):=by rw [wf,hp]
         refine Zg fun N11 hN11=>?_
         simp (maxSteps:=2000000) only [↓Za,↓Zb,↓Zc,vup,cond_true,cond_false,aop,Zf,ev,sput,Ze,Zx,Ya,Nat.reduceBEq,hin]
         refine hN11 [(0,v),(1,w),(4,.bool false),(5,.int .i64 0),(6,v),(7,.pointer (some ⟨b7,0,none⟩)),(9,Zd (s:Nat)),(10,.pointer (some ⟨b10,0,none⟩)),(30,u),(31,Zd (clq xs).length),(32,Zd (k:Nat)),(37,w),(38,Zd ps.length),(39,Zd (i:Nat)),(40,.bool true)] _ _ ?_ (by simp (maxSteps:=2000000) only [vup,cond_true,cond_false,Nat.reduceBEq])
         clear hN11
         try clear N11
         refine Zg fun N12 hN12=>?_
         simp (maxSteps:=2000000) only [↓Zn,↓vdn,vup,cond_true,cond_false,Zf,ev,Nat.reduceBEq]
         refine hN12 [(0,v),(1,w),(4,.bool false),(5,.int .i64 0),(6,v),(7,.pointer (some ⟨b7,0,none⟩)),(9,Zd (s:Nat)),(10,.pointer (some ⟨b10,0,none⟩)),(30,u),(31,Zd (clq xs).length),(32,Zd (k:Nat)),(37,w),(38,Zd ps.length),(39,Zd (i:Nat))] _ _ ?_ (by simp (maxSteps:=2000000) only [vup,cond_true,cond_false,Nat.reduceBEq])
         clear hN12
         try clear N12
         refine Zo fun D hD=>?_
         refine Zr ?_
         refine Zg fun N13 hN13=>?_
         simp (maxSteps:=2000000) only [↓Za,↓Zb,↓Zc,vup,cond_true,cond_false,aop,Zf,ev,sput,Ze,Nat.reduceBEq,tyf,hwF.idx el_50 esz_44 hi',hwF.load shp_44 hi',hp,Xn,Yy,newF]
         have c12:=Yk F (fC px py)
         have hEF1:Ext (fun _=>False) F (F++[fC px py]):=Ext.app _ _ _
         have cF1:=Wy cF [fC px py]
         generalize F++[fC px py]=F1 at c12 hEF1 cF1 ⊢
         generalize F.length=b12 at c12 ⊢
         refine hN13 [(0,v),(1,w),(4,.bool false),(5,.int .i64 0),(6,v),(7,.pointer (some ⟨b7,0,none⟩)),(9,Zd (s:Nat)),(10,.pointer (some ⟨b10,0,none⟩)),(11,Zd (i:Nat)),(12,.pointer (some ⟨b12,0,none⟩)),(30,u),(31,Zd (clq xs).length),(32,Zd (k:Nat)),(37,w),(38,Zd ps.length),(39,Zd (i:Nat))] _ _ ?_ (by simp (maxSteps:=2000000) only [vup,cond_true,cond_false,Nat.reduceBEq])
         clear hN13
         try clear N13
         have hE01:Ext (fun b=>b=b10) G0 F1:=hEF.trans (hEF1.mono fun _ h=>h.elim)
         have htst:=@testV s i (by omega)
         have hnn:(0:Int)≤(i:Int):=Int.natCast_nonneg i
         have fin : ∀ F2,Ext (fun b=>b=b10) G0 F2→F2[b10]? = some (fC (sumW ps s (i+1)).num (sumW ps s (i+1)).den)→∀ e,ELe e [(0,v),(1,w),(4,.bool false),(5,.int .i64 0),(6,v),(7,.pointer (some ⟨b7,0,none⟩)),(9,Zd (s:Nat)),(10,.pointer (some ⟨b10,0,none⟩)),(30,u),(31,Zd (clq xs).length),(32,Zd (k:Nat)),(37,w),(38,Zd ps.length),(39,Zd (i:Nat))]→D e F2:=by
          intro F2 hE2 c2 e he
          refine hD [(0,v),(1,w),(4,.bool false),(5,.int .i64 0),(6,v),(7,.pointer (some ⟨b7,0,none⟩)),(9,Zd (s:Nat)),(10,.pointer (some ⟨b10,0,none⟩)),(30,u),(31,Zd (clq xs).length),(32,Zd (k:Nat)),(37,w),(38,Zd ps.length),(39,Zd (i:Nat))] _ _ ?_ he
          refine Zm ?_
          simp (maxSteps:=2000000) only [↓Za,↓Zb,↓Zc,vup,cond_true,cond_false,aop,ev,sput,Ze,Zx,Ya,Nat.reduceBEq,Wx (show i<9223372036854775807 by omega)]
          exact hQb _ _ _ ⟨(i+1,F2),⟨hi',hE2,c2⟩,by simp only; omega,by simp (maxSteps:=2000000) only [vup,cond_true,cond_false,Nat.reduceBEq],rfl⟩
         cases hb:s.testBit i with
         | false =>
           rw [hb,if_neg (by decide)] at htst
           have e01:((0:Int)==1)=false:=rfl
           refine Zg fun N14 hN14=>?_
           simp (maxSteps:=2000000) only [↓Za,↓Zb,↓Zc,vup,cond_true,cond_false,aop,Zf,ev,sput,Ze,Zx,Ya,Nat.reduceBEq,hnn,htst,e01]
           refine hN14 [(0,v),(1,w),(4,.bool false),(5,.int .i64 0),(6,v),(7,.pointer (some ⟨b7,0,none⟩)),(9,Zd (s:Nat)),(10,.pointer (some ⟨b10,0,none⟩)),(11,Zd (i:Nat)),(12,.pointer (some ⟨b12,0,none⟩)),(30,u),(31,Zd (clq xs).length),(32,Zd (k:Nat)),(37,w),(38,Zd ps.length),(39,Zd (i:Nat)),(48,.bool false)] _ _ ?_ (by simp (maxSteps:=2000000) only [vup,cond_true,cond_false,Nat.reduceBEq])
           clear hN14
           try clear N14
           refine Yh rfl ?_
           refine Zm ?_
           simp (maxSteps:=2000000) only [↓Zn,Zf,Zk]
           refine fin F1 hE01 ?_ _ (by simp (maxSteps:=2000000) only [vup,cond_true,cond_false,Nat.reduceBEq])
           rw [sumW_succ,hb,if_neg (by decide)]; exact cF1
         | true =>
           rw [hb,if_pos rfl] at htst
           have e11:((1:Int)==1)=true:=rfl
           refine Zg fun N15 hN15=>?_
           simp (maxSteps:=2000000) only [↓Za,↓Zb,↓Zc,vup,cond_true,cond_false,aop,Zf,ev,sput,Ze,Zx,Ya,Nat.reduceBEq,hnn,htst,e11]
           refine hN15 [(0,v),(1,w),(4,.bool false),(5,.int .i64 0),(6,v),(7,.pointer (some ⟨b7,0,none⟩)),(9,Zd (s:Nat)),(10,.pointer (some ⟨b10,0,none⟩)),(11,Zd (i:Nat)),(12,.pointer (some ⟨b12,0,none⟩)),(30,u),(31,Zd (clq xs).length),(32,Zd (k:Nat)),(37,w),(38,Zd ps.length),(39,Zd (i:Nat)),(48,.bool true)] _ _ ?_ (by simp (maxSteps:=2000000) only [vup,cond_true,cond_false,Nat.reduceBEq])
           clear hN15
           try clear N15
           refine Yp rfl ?_
           refine Zm ?_
           obtain ⟨x,x0,x1,hxr⟩:=sumW_rp ha s (i:=i) hi
           obtain ⟨y,y0,y1,hyr⟩:=wf_rp ha (i:=i) hi'
           have hi6:(i:Int)*prodD ps≤6*46656000000:=Int.mul_le_mul (by omega) (by omega) (by omega) (by omega)
           have hpl:=plus_call (h:=F1) hxr hyr (by omega) (by omega)
           rw [hwfe] at hpl
           simp only [qV,frV,e1,e2] at hpl
           have es:sumW ps s i+wq (px,py)=sumW ps s (i+1):=by rw [sumW_succ,hb,if_pos rfl,hwfe]
           rw [es] at hpl
           simp (maxSteps:=2000000) only [↓Za,↓Zb,↓Zc,vup,List.map_cons,List.map_nil,cond_true,cond_false,aop,Zf,Zk,ev,sput,Ze,Nat.reduceBEq,Yt,List.nil_append,List.append_nil,Wk cF1,Wk c12]
           refine (hpl).mono ?_
           rintro _ F1 ⟨rfl,rfl⟩
           simp (maxSteps:=2000000) only [Wq cF1 rfl]
           exact fin _ (hE01.trans (Ext.set _ rfl)) (Xh (Yb cF1) _) _ (by simp (maxSteps:=2000000) only [vup,cond_true,cond_false,Nat.reduceBEq])
       obtain rfl:i=ps.length:=by omega
       refine Zg fun N16 hN16=>?_
       simp (maxSteps:=2000000) only [↓Za,↓Zb,↓Zc,vup,cond_true,cond_false,aop,Zf,ev,sput,Ze,Zx,Ya,Nat.reduceBEq,hin]
       refine hN16 [(0,v),(1,w),(4,.bool false),(5,.int .i64 0),(6,v),(7,.pointer (some ⟨b7,0,none⟩)),(9,Zd (s:Nat)),(10,.pointer (some ⟨b10,0,none⟩)),(30,u),(31,Zd (clq xs).length),(32,Zd (k:Nat)),(37,w),(38,Zd ps.length),(39,Zd ps.length),(40,.bool false)] _ _ ?_ (by simp (maxSteps:=2000000) only [vup,cond_true,cond_false,Nat.reduceBEq])
       clear hN16
       try clear N16
       refine Zg fun N17 hN17=>?_
       simp (maxSteps:=2000000) only [↓Yi,↓vdn,vup,cond_true,cond_false,Zf,ev,Nat.reduceBEq]
       refine hQb _ _ _ (hQa _ _ _ ?_)
       simp (maxSteps:=2000000) only [Zf,Zk,if_true]
       refine hA [(0,v),(1,w),(4,.bool false),(5,.int .i64 0),(6,v),(7,.pointer (some ⟨b7,0,none⟩)),(9,Zd (s:Nat)),(10,.pointer (some ⟨b10,0,none⟩)),(30,u),(31,Zd (clq xs).length),(32,Zd (k:Nat))] _ _ ?_ (by simp (maxSteps:=2000000) only [vup,cond_true,cond_false,Nat.reduceBEq])
       clear hA
       try clear A
       clear hQa hQb
       have c7F:=(hEF.2 _ (Yb c7G0) (by omega)).trans c7G0
       rw [hlen] at cF
       obtain ⟨x,x0,x1,hxr⟩:=sumW_rp ha s (i:=xs.length) (by omega)
       have hi6:(xs.length:Int)*prodD ps≤6*46656000000:=Int.mul_le_mul (by omega) (by omega) (by omega) (by omega)
       have hnb:=hxr.le
       have hdb:=hxr.den_le
       have hlc:=less_call (h:=F) (a:=1) (b:=1) (c:=(sumW ps s xs.length).num) (d:=(sumW ps s xs.length).den) (by omega) (by omega)
       simp only [frV] at hlc
       have hEnd:Ext (fun _=>False) H1 F:=hEG.trans (ext_ge hE10 (fun b hb=>by omega) hEF)
       by_cases hle:sumW ps s xs.length≤1
       · have hd:decide ((1:Int)*(sumW ps s xs.length).den<(sumW ps s xs.length).num*1)=false:=decide_eq_false fun h=>by
          rw [Rat.le_iff] at hle
          have a1:(1:Rat).num=1:=rfl
          have a2:(1:Rat).den=1:=rfl
          rw [a1,a2] at hle
          omega
         rw [hd] at hlc
         refine Zg fun N18 hN18=>?_
         simp (maxSteps:=2000000) only [↓Za,↓Zb,↓Zc,vup,List.map_cons,List.map_nil,cond_true,cond_false,aop,Zf,ev,sput,Ze,Nat.reduceBEq,Yt,List.nil_append,List.append_nil,Wk c7F,Wk cF]
         refine (hlc).mono ?_
         rintro _ F ⟨rfl,rfl⟩
         refine hN18 [(0,v),(1,w),(4,.bool false),(5,.int .i64 0),(6,v),(7,.pointer (some ⟨b7,0,none⟩)),(9,Zd (s:Nat)),(10,.pointer (some ⟨b10,0,none⟩)),(30,u),(31,Zd (clq xs).length),(32,Zd (k:Nat)),(55,.bool false)] _ _ ?_ (by simp (maxSteps:=2000000) only [vup,cond_true,cond_false,Nat.reduceBEq])
         clear hN18
         try clear N18
         refine Yh rfl ?_
         refine Zm ?_
         simp (maxSteps:=2000000) only [↓Zn,Zf,Zk]
         refine hB [(0,v),(1,w),(4,.bool false),(5,.int .i64 0),(6,v),(7,.pointer (some ⟨b7,0,none⟩)),(30,u),(31,Zd (clq xs).length),(32,Zd (k:Nat))] _ _ ?_ (by simp (maxSteps:=2000000) only [vup,cond_true,cond_false,Nat.reduceBEq])
         clear hB
         try clear B
         refine Zm ?_
         simp (maxSteps:=2000000) only [↓Za,↓Zb,↓Zc,vup,cond_true,cond_false,aop,ev,sput,Ze,Zx,Ya,Nat.reduceBEq,Wx (show k<9223372036854775807 by have:=clqTo_len xs (2 ^ xs.length); have:=pow6N h6; rw [clq] at hk'; omega)]
         refine hQ2 _ _ _ ⟨(k+1,F),⟨hk',hEnd,fun j hj=>?_⟩,by simp only; omega,by simp (maxSteps:=2000000) only [vup,cond_true,cond_false,Nat.reduceBEq],rfl⟩
         by_cases hjk:j=k
         · rw [hjk,hs]; exact hle
         · exact hall j (by omega)
       · have hd:decide ((1:Int)*(sumW ps s xs.length).den<(sumW ps s xs.length).num*1)=true:=decide_eq_true (by
          rw [Rat.le_iff] at hle
          have a1:(1:Rat).num=1:=rfl
          have a2:(1:Rat).den=1:=rfl
          rw [a1,a2] at hle
          omega)
         rw [hd] at hlc
         refine Zg fun N19 hN19=>?_
         simp (maxSteps:=2000000) only [↓Za,↓Zb,↓Zc,vup,List.map_cons,List.map_nil,cond_true,cond_false,aop,Zf,ev,sput,Ze,Nat.reduceBEq,Yt,List.nil_append,List.append_nil,Wk c7F,Wk cF]
         refine (hlc).mono ?_
         rintro _ F ⟨rfl,rfl⟩
         refine hN19 [(0,v),(1,w),(4,.bool false),(5,.int .i64 0),(6,v),(7,.pointer (some ⟨b7,0,none⟩)),(9,Zd (s:Nat)),(10,.pointer (some ⟨b10,0,none⟩)),(30,u),(31,Zd (clq xs).length),(32,Zd (k:Nat)),(55,.bool true)] _ _ ?_ (by simp (maxSteps:=2000000) only [vup,cond_true,cond_false,Nat.reduceBEq])
         clear hN19
         try clear N19
         refine Yp rfl ?_
         refine Zm ?_
         simp (maxSteps:=2000000) only [↓Za,↓Zl,↓Zw,↓Zb,↓Zc,vup,cond_true,cond_false,aop,Zf,Zk,ev,sput,Ze,Nat.reduceBEq]
         refine hQ2 _ _ _ (hQ _ _ _ ?_)
         simp (maxSteps:=2000000) only [vup,cond_true,cond_false,Zf,Zk,Nat.reduceBEq,Zt,Xi,tup]
         have hlB:Vg xs ps=false:=by
          rw [← Bool.not_eq_true,Vg,List.all_eq_true]
          exact fun h=>hle (of_decide_eq_true (h s hsm))
         exact ⟨(hE7.trans hE1).trans hEnd,by rw [good,hlB]⟩
     obtain rfl:k=(clq xs).length:=by omega
     refine Zg fun N20 hN20=>?_
     simp (maxSteps:=2000000) only [↓Za,↓Zb,↓Zc,vup,cond_true,cond_false,aop,Zf,ev,sput,Ze,Zx,Ya,Nat.reduceBEq,hkn]
     refine hN20 [(0,v),(1,w),(4,.bool false),(5,.int .i64 0),(6,v),(7,.pointer (some ⟨b7,0,none⟩)),(30,u),(31,Zd (clq xs).length),(32,Zd (clq xs).length),(33,.bool false)] _ _ ?_ (by simp (maxSteps:=2000000) only [vup,cond_true,cond_false,Nat.reduceBEq])
     clear hN20
     try clear N20
     refine Zg fun N21 hN21=>?_
     simp (maxSteps:=2000000) only [↓Yi,↓vdn,vup,cond_true,cond_false,Zf,ev,Nat.reduceBEq]
     refine hQ2 _ _ _ (hQ _ _ _ ?_)
     simp (maxSteps:=2000000) only [Zf,Zk,Zt,if_true]
     refine hZ [(0,v),(1,w),(4,.bool false),(5,.int .i64 0),(6,v),(7,.pointer (some ⟨b7,0,none⟩))] _ _ ?_ (by simp (maxSteps:=2000000) only [vup,cond_true,cond_false,Nat.reduceBEq])
     clear hZ
     try clear Z
     refine Zm ?_
     simp (maxSteps:=2000000) only [↓Za,↓Zl,↓Zw,↓Zb,↓Zc,vup,cond_true,cond_false,aop,Zf,ev,sput,Ze,Nat.reduceBEq,Zt,Xi,tup]
     have hlB:Vg xs ps=true:=by
      rw [Vg,List.all_eq_true]
      intro s hs
      obtain ⟨j,hj,rfl⟩:=List.mem_iff_getElem.1 hs
      have:=hall j hj
      rw [List.getD,List.getElem?_eq_getElem hj] at this
      exact decide_eq_true this
     exact ⟨(hE7.trans hE1).trans hEG,by rw [good,hlB]⟩
theorem s42_callW [Tabs Tryd.prog] {args:List Value} {h:Zi} {Q:Value→Zi→Prop} (hsz:args.length≤48) (hk:AWS Tryd.prog 48 s42 (Zt Tryd.prog [.tmp 4] Q) (Zs 0 args) h):ACall Tryd.prog 42 args h Q :=
 Xd Tryd.func42 rfl (enters_of Tryd.func42 (by kernel_rfl) rfl) rfl rfl (by decide) s42_strip s42_ok hsz hk
theorem wts_call [Tabs prog] {h:Zi} {v w:Value} {xs:List Int} {ps:List (Int×Int)} (hv:IntSl h v xs) (hw:PairSl h w ps) (hwl:ps.length<9223372036854775808) :
  ACall prog 42 [v,w] h fun r h'=>Ext (fun _=>False) h h'∧r = .bool (decide (ps.length=xs.length)&&allW ps):=by
 refine s42_callW (by simp) ?_
 simp only [s42]
 refine Zg fun N22 hN22=>?_
 simp (maxSteps:=2000000) only [↓Za,↓Zb,↓Zc,vup,cond_false,aop,Zf,Zs,ev,sput,Ze,Nat.reduceBEq,Nat.reduceAdd]
 refine hN22 [(0,v),(1,w),(4,.bool false)] _ _ ?_ (by simp (maxSteps:=2000000) only [vup,cond_true,cond_false,Nat.reduceBEq])
 clear hN22
 try clear N22
 refine Zo fun Z hZ=>?_
 refine Zg fun N23 hN23=>?_
 simp (maxSteps:=2000000) only [↓Za,↓Zb,↓Zc,vup,List.map_cons,List.map_nil,cond_true,cond_false,aop,Zf,ev,sput,Ze,Zj,Nat.reduceBEq,tyf,hw.len]
 refine hN23 [(0,v),(1,w),(4,.bool false),(7,w),(8,Zd ps.length),(9,.int .i64 0)] _ _ ?_ (by simp (maxSteps:=2000000) only [vup,cond_true,cond_false,Nat.reduceBEq])
 clear hN23
 try clear N23
 refine Zr ?_
 refine Zp fun Q hQ=>?_
 refine Yu (γ:=Nat×Zi) (fun t=>t.1≤ps.length∧Ext (fun _=>False) h t.2∧∀ p∈ps.take t.1,isW p=true) (fun t=>([(0,v),(1,w),(4,.bool false),(7,w),(8,Zd ps.length),(9,Zd (t.1:Nat))],t.2)) (fun t=>ps.length-t.1) (0,h) ⟨Nat.zero_le _,Ext.refl _ _,by simp⟩ (by simp (maxSteps:=2000000) only [vup,cond_true,cond_false,Nat.reduceBEq,Int.natCast_zero]) rfl ?_
 rintro ⟨k,G⟩ ⟨hk,hEG,hall⟩
 simp only at hk hEG hall
 refine Zp fun Q2 hQ2=>?_
 simp only [l42_0]
 have hwG:=hw.ext hEG
 by_cases hin:(k:Int)<ps.length
 · have hk' : k<ps.length:=by omega
   obtain ⟨⟨x,y⟩,hp⟩ : ∃ p,ps.getD k (0,0)=p:=⟨_,rfl⟩
   have hmem:(x,y)∈ps:=hp▸getP_mem hk'
   refine Zg fun N24 hN24=>?_
   simp (maxSteps:=2000000) only [↓Za,↓Zb,↓Zc,vup,cond_true,cond_false,aop,Zf,ev,sput,Ze,Zx,Ya,Nat.reduceBEq,hin]
   refine hN24 [(0,v),(1,w),(4,.bool false),(7,w),(8,Zd ps.length),(9,Zd (k:Nat)),(10,.bool true)] _ _ ?_ (by simp (maxSteps:=2000000) only [vup,cond_true,cond_false,Nat.reduceBEq])
   clear hN24
   try clear N24
   refine Zg fun N25 hN25=>?_
   simp (maxSteps:=2000000) only [↓Zn,↓vdn,vup,cond_true,cond_false,Zf,ev,Nat.reduceBEq]
   refine hN25 [(0,v),(1,w),(4,.bool false),(7,w),(8,Zd ps.length),(9,Zd (k:Nat))] _ _ ?_ (by simp (maxSteps:=2000000) only [vup,cond_true,cond_false,Nat.reduceBEq])
   clear hN25
   try clear N25
   refine Zo fun B hB=>?_
   refine Zr ?_
   refine Zg fun N26 hN26=>?_
   simp (maxSteps:=2000000) only [↓Za,↓Zb,↓Zc,vup,cond_true,cond_false,aop,Zf,ev,sput,Ze,Nat.reduceBEq,tyf,hwG.idx el_50 esz_44 hk',hwG.load shp_44 hk',hp,Xn,Yy,newF]
   have c6:=Yk G (fC x y)
   have hE6:Ext (fun _=>False) G (G++[fC x y]):=Ext.app _ _ _
   generalize G++[fC x y]=F at c6 hE6 ⊢
   generalize G.length=b6 at c6 ⊢
   refine hN26 [(0,v),(1,w),(4,.bool false),(6,.pointer (some ⟨b6,0,none⟩)),(7,w),(8,Zd ps.length),(9,Zd (k:Nat))] _ _ ?_ (by simp (maxSteps:=2000000) only [vup,cond_true,cond_false,Nat.reduceBEq])
   clear hN26
   try clear N26
   have hEF:=hEG.trans hE6
   refine Zg fun N27 hN27=>?_
   simp only [q42_4]
   refine Xo [(25,1)] (by kernel_rfl) (by kernel_rfl) (by kernel_rfl) (by kernel_rfl) ?_
   have none_:isW (x,y)=false→allW ps=false:=fun h=>by
    rw [← Bool.not_eq_true,allW,List.all_eq_true]
    intro ha; rw [ha _ hmem] at h; cases h
   have e0:isW (x,y)=(decide (1≤y)&&(decide (y≤60)&&(decide (0≤x)&&(decide (x≤y)&&(Nat.gcd x.natAbs y.natAbs==1))))):=rfl
   by_cases h1:y<1
   · simp (maxSteps:=2000000) only [↓Yn,↓vdn,vup,cond_true,cond_false,aop,Zf,ev,sput,Ze,Zx,Ya,pickK,Nat.reduceBEq,Nat.reduceAdd,tyf,fA1,Wa c6,h1]
     refine hN27 [(0,v),(1,w),(4,.bool false),(6,.pointer (some ⟨b6,0,none⟩)),(7,w),(8,Zd ps.length),(9,Zd (k:Nat)),(41,.bool true)] _ _ ?_ (by simp (maxSteps:=2000000) only [vup,cond_true,cond_false,Nat.reduceBEq])
     clear hN27
     try clear N27
     refine Yp rfl ?_
     refine Zm ?_
     simp (maxSteps:=2000000) only [↓Za,↓Zl,↓Zw,↓Zb,↓Zc,vup,cond_true,cond_false,aop,Zf,Zk,ev,sput,Ze,Nat.reduceBEq]
     refine hQ2 _ _ _ (hQ _ _ _ ?_)
     simp (maxSteps:=2000000) only [vup,cond_true,cond_false,Zf,Zk,Nat.reduceBEq,Zt,Xi,tup]
     exact ⟨hEF,by rw [none_ (by rw [e0,decide_eq_false (by omega),Bool.false_and]),Bool.and_false]⟩
   by_cases h2:60<y
   · simp (maxSteps:=2000000) only [↓Yn,↓vdn,vup,cond_true,cond_false,aop,Zf,ev,sput,Ze,Zx,Ya,pickK,Nat.reduceBEq,Nat.reduceAdd,tyf,fA1,Wa c6,h1,h2]
     refine hN27 [(0,v),(1,w),(4,.bool false),(6,.pointer (some ⟨b6,0,none⟩)),(7,w),(8,Zd ps.length),(9,Zd (k:Nat)),(41,.bool true)] _ _ ?_ (by simp (maxSteps:=2000000) only [vup,cond_true,cond_false,Nat.reduceBEq])
     clear hN27
     try clear N27
     refine Yp rfl ?_
     refine Zm ?_
     simp (maxSteps:=2000000) only [↓Za,↓Zl,↓Zw,↓Zb,↓Zc,vup,cond_true,cond_false,aop,Zf,Zk,ev,sput,Ze,Nat.reduceBEq]
     refine hQ2 _ _ _ (hQ _ _ _ ?_)
     simp (maxSteps:=2000000) only [vup,cond_true,cond_false,Zf,Zk,Nat.reduceBEq,Zt,Xi,tup]
     exact ⟨hEF,by rw [none_ (by rw [e0,decide_eq_false (show ¬ y≤60 by omega),Bool.false_and,Bool.and_false]),Bool.and_false]⟩
   by_cases h3:x<0
   · simp (maxSteps:=2000000) only [↓Yn,↓vdn,vup,cond_true,cond_false,aop,Zf,ev,sput,Ze,Zx,Ya,pickK,Nat.reduceBEq,Nat.reduceAdd,tyf,fA0,fA1,Wv c6,Wa c6,h1,h2,h3]
     refine hN27 [(0,v),(1,w),(4,.bool false),(6,.pointer (some ⟨b6,0,none⟩)),(7,w),(8,Zd ps.length),(9,Zd (k:Nat)),(41,.bool true)] _ _ ?_ (by simp (maxSteps:=2000000) only [vup,cond_true,cond_false,Nat.reduceBEq])
     clear hN27
     try clear N27
     refine Yp rfl ?_
     refine Zm ?_
     simp (maxSteps:=2000000) only [↓Za,↓Zl,↓Zw,↓Zb,↓Zc,vup,cond_true,cond_false,aop,Zf,Zk,ev,sput,Ze,Nat.reduceBEq]
     refine hQ2 _ _ _ (hQ _ _ _ ?_)
     simp (maxSteps:=2000000) only [vup,cond_true,cond_false,Zf,Zk,Nat.reduceBEq,Zt,Xi,tup]
     exact ⟨hEF,by rw [none_ (by rw [e0,decide_eq_false (show ¬ 0≤x by omega),Bool.false_and,Bool.and_false,Bool.and_false]),Bool.and_false]⟩
   by_cases h4:y<x
   · simp (maxSteps:=2000000) only [↓Yn,↓vdn,vup,cond_true,cond_false,aop,Zf,ev,sput,Ze,Zx,Ya,pickK,Nat.reduceBEq,Nat.reduceAdd,tyf,fA0,fA1,Wv c6,Wa c6,h1,h2,h3,h4]
     refine hN27 [(0,v),(1,w),(4,.bool false),(6,.pointer (some ⟨b6,0,none⟩)),(7,w),(8,Zd ps.length),(9,Zd (k:Nat)),(41,.bool true)] _ _ ?_ (by simp (maxSteps:=2000000) only [vup,cond_true,cond_false,Nat.reduceBEq])
     clear hN27
     try clear N27
     refine Yp rfl ?_
     refine Zm ?_
     simp (maxSteps:=2000000) only [↓Za,↓Zl,↓Zw,↓Zb,↓Zc,vup,cond_true,cond_false,aop,Zf,Zk,ev,sput,Ze,Nat.reduceBEq]
     refine hQ2 _ _ _ (hQ _ _ _ ?_)
     simp (maxSteps:=2000000) only [vup,cond_true,cond_false,Zf,Zk,Nat.reduceBEq,Zt,Xi,tup]
     exact ⟨hEF,by rw [none_ (by rw [e0,decide_eq_false (show ¬ x≤y by omega),Bool.false_and,Bool.and_false,Bool.and_false,Bool.and_false]),Bool.and_false]⟩
   have h1' : 1≤y:=by omega
   have hrf:=rfrac_call (h:=F) (a:=x) (b:=y) (by omega) (by omega) (by omega)
   have hlow:([(wq (x,y)).num,((wq (x,y)).den:Int)] != [x,y]) = !isW (x,y):=by
    rw [e0,decide_eq_true h1',decide_eq_true (show y≤60 by omega),decide_eq_true (show 0≤x by omega),decide_eq_true (show x≤y by omega),Bool.true_and,Bool.true_and,Bool.true_and,Bool.true_and,bne]
    congr 1
    rw [Bool.eq_iff_iff,beq_iff_eq,beq_iff_eq,← low_iff (p:=(x,y)) h1']
    simp
   simp (maxSteps:=2000000) only [↓Yn,↓vdn,vup,List.map_cons,List.map_nil,cond_true,cond_false,aop,Zf,ev,sput,Ze,Zx,Ya,pickK,Nat.reduceBEq,Nat.reduceAdd,tyf,fA0,fA1,Wv c6,Wa c6,h1,h2,h3,h4,Yt,List.nil_append,List.append_nil]
   refine ⟨_,_,hrf,rfl,?_⟩
   have hrw:Rat.divInt x y=wq (x,y):=rfl
   simp (maxSteps:=2000000) only [vup,Nat.reduceAdd,Wk c6,hrw,qV,frV,Xa,Option.map_some,List.length_cons,List.length_nil,Nat.zero_add,eqF,hlow]
   cases hW:isW (x,y) with
   | false =>
     refine hN27 [(0,v),(1,w),(4,.bool false),(6,.pointer (some ⟨b6,0,none⟩)),(7,w),(8,Zd ps.length),(9,Zd (k:Nat)),(41,.bool true)] _ _ ?_ (by simp (maxSteps:=2000000) only [vup,cond_true,cond_false,Nat.reduceBEq])
     clear hN27
     try clear N27
     refine Yp rfl ?_
     refine Zm ?_
     simp (maxSteps:=2000000) only [↓Za,↓Zl,↓Zw,↓Zb,↓Zc,vup,cond_true,cond_false,aop,Zf,Zk,ev,sput,Ze,Nat.reduceBEq]
     refine hQ2 _ _ _ (hQ _ _ _ ?_)
     simp (maxSteps:=2000000) only [vup,cond_true,cond_false,Zf,Zk,Nat.reduceBEq,Zt,Xi,tup]
     exact ⟨hEF,by rw [none_ hW,Bool.and_false]⟩
   | true =>
     refine hN27 [(0,v),(1,w),(4,.bool false),(6,.pointer (some ⟨b6,0,none⟩)),(7,w),(8,Zd ps.length),(9,Zd (k:Nat)),(41,.bool false)] _ _ ?_ (by simp (maxSteps:=2000000) only [vup,cond_true,cond_false,Nat.reduceBEq])
     clear hN27
     try clear N27
     refine Yh rfl ?_
     refine Zm ?_
     simp (maxSteps:=2000000) only [↓Zn,Zf,Zk]
     refine hB [(0,v),(1,w),(4,.bool false),(7,w),(8,Zd ps.length),(9,Zd (k:Nat))] _ _ ?_ (by simp (maxSteps:=2000000) only [vup,cond_true,cond_false,Nat.reduceBEq])
     clear hB
     try clear B
     refine Zm ?_
     simp (maxSteps:=2000000) only [↓Za,↓Zb,↓Zc,vup,cond_true,cond_false,aop,ev,sput,Ze,Zx,Ya,Nat.reduceBEq,Wx (show k<9223372036854775807 by omega)]
     refine hQ2 _ _ _ ⟨(k+1,F),⟨hk',hEF,fun p hpm=>?_⟩,by simp only; omega,by simp (maxSteps:=2000000) only [vup,cond_true,cond_false,Nat.reduceBEq],rfl⟩
     rw [take_snoc (d:=((0,0):Int×Int)) hk',hp] at hpm
     rcases List.mem_append.1 hpm with h5 | h5
     · exact hall p h5
     · rw [List.mem_singleton.1 h5]; exact hW
 obtain rfl:k=ps.length:=by omega
 refine Zg fun N28 hN28=>?_
 simp (maxSteps:=2000000) only [↓Za,↓Zb,↓Zc,vup,cond_true,cond_false,aop,Zf,ev,sput,Ze,Zx,Ya,Nat.reduceBEq,hin]
 refine hN28 [(0,v),(1,w),(4,.bool false),(7,w),(8,Zd ps.length),(9,Zd ps.length),(10,.bool false)] _ _ ?_ (by simp (maxSteps:=2000000) only [vup,cond_true,cond_false,Nat.reduceBEq])
 clear hN28
 try clear N28
 refine Zg fun N29 hN29=>?_
 simp (maxSteps:=2000000) only [↓Yi,↓vdn,vup,cond_true,cond_false,Zf,ev,Nat.reduceBEq]
 refine hQ2 _ _ _ (hQ _ _ _ ?_)
 simp (maxSteps:=2000000) only [Zf,Zk,Zt,if_true]
 refine hZ [(0,v),(1,w),(4,.bool false)] _ _ ?_ (by simp (maxSteps:=2000000) only [vup,cond_true,cond_false,Nat.reduceBEq])
 clear hZ
 try clear Z
 refine Zm ?_
 rw [List.take_length] at hall
 have ha:allW ps=true:=List.all_eq_true.2 hall
 have he:((ps.length:Int)==(xs.length:Int))=(decide (ps.length=xs.length)&&allW ps):=by
  rw [ha,Bool.and_true,Bool.eq_iff_iff,beq_iff_eq,decide_eq_true_eq]; omega
 have hvG:=Xk hv hEG
 simp (maxSteps:=2000000) only [↓Za,↓Zl,↓Zw,↓Zb,↓Zc,vup,List.map_cons,List.map_nil,cond_true,cond_false,aop,Zf,ev,sput,Ze,Zx,Ya,Zj,Nat.reduceBEq,Zt,Xi,tup,tyf,hwG.len,hvG.len,he]
 exact hEG
end Go.Proofs.Tryd.Am
namespace Go.Proofs.Tryd.Am
open Go.Am Sr
set_option maxRecDepth 100000
set_option maxHeartbeats 8000000
theorem s41_callW [Tabs Tryd.prog] {args:List Value} {h:Zi} {Q:Value→Zi→Prop} (hsz:args.length≤8) (hk:AWS Tryd.prog 8 s41 (Zt Tryd.prog [.cell 2 44] Q) (Zs 0 args) h):ACall Tryd.prog 41 args h Q :=
 Xd Tryd.func41 rfl (enters_of Tryd.func41 (by kernel_rfl) rfl) rfl rfl (by decide) s41_strip s41_ok hsz hk
theorem rweigh_call [Tabs prog] {h:Zi} {v:Value} {xs:List Int} (hv:IntSl h v xs) (g:Gs xs) :
  ACall prog 41 [v] h fun r h'=>∃ q,r=qV q∧Bq.IsOpt xs.length (clq xs) q∧Ext (fun _=>False) h h':=by
 have h6:=g.2.1
 have hlc:=clqTo_len xs (2 ^ xs.length)
 have h64:=pow6N h6
 refine s41_callW (by simp) ?_
 simp only [s41]
 refine Zg fun N1 hN1=>?_
 simp (maxSteps:=2000000) only [↓Za,↓Zb,↓Zc,vup,cond_false,aop,Zf,Zs,sput,Ze,Nat.reduceBEq,tyf,Xn,Yy]
 have hE0:Ext (fun _=>False) h (h++[z0]):=Ext.app _ _ _
 have c2:=Yk h z0
 have hb2:h.length≤h.length:=Nat.le_refl _
 generalize h++[z0]=H at hE0 c2 ⊢
 generalize hb:h.length=b2 at c2 hb2 ⊢
 refine hN1 [(0,v),(2,pT b2)] _ _ ?_ (by simp (maxSteps:=2000000) only [vup,cond_true,cond_false,Nat.reduceBEq])
 clear hN1
 try clear N1
 have hv:=Xk hv hE0
 refine Zm ?_
 simp (maxSteps:=2000000) only [↓Za,↓Zl,↓Zw,↓Zb,↓Zc,vup,List.map_cons,List.map_nil,cond_true,cond_false,aop,Zf,ev,sput,Ze,Zj,Nat.reduceBEq,Zt,Xi,tup,tyf,hv.len,Yt,List.nil_append,List.append_nil]
 refine (rcliques_call hv g).mono fun u H1 hu=>?_
 obtain ⟨ho,hE1,hub⟩:=hu
 refine (greatest_call (n:=xs.length) ho.int h6 (by rw [clq]; omega) (clq_ne g) (fun s hs=>?_) (fun i hi=>⟨2 ^ i,single_clq g hi,by simp⟩)).mono ?_
 · have:=((mem_clq g).1 hs).1
   omega
 rintro _ H2 ⟨q,rfl,hq,hE2⟩
 have c2':=((hE1.trans hE2).2 _ (Yb c2) id).trans c2
 simp (maxSteps:=2000000) only [qV,frV,Wq c2' rfl,Wk (Xh (Yb c2') _)]
 exact ⟨q,rfl,hq,((hE0.trans (hE1.trans hE2)).set_ge (by omega) _)⟩
theorem s43_callW [Tabs Tryd.prog] {args:List Value} {h:Zi} {Q:Value→Zi→Prop} (hsz:args.length≤40) (hk:AWS Tryd.prog 40 s43 (Zt Tryd.prog [.tmp 4] Q) (Zs 0 args) h):ACall Tryd.prog 43 args h Q :=
 Xd Tryd.func43 rfl (enters_of Tryd.func43 (by kernel_rfl) rfl) rfl rfl (by decide) s43_strip s43_ok hsz hk
theorem rlight_call [Tabs prog] {h:Zi} {v w:Value} {xs:List Int} {ps:List (Int×Int)} (hv:IntSl h v xs) (g:Gs xs) (hw:PairSl h w ps) (hlen:ps.length=xs.length) (ha:allW ps=true) :
  ACall prog 43 [v,w] h fun r h'=>Ext (fun _=>False) h h'∧r = .bool (Vg xs ps):=by
 have h6:=g.2.1
 refine s43_callW (by simp) ?_
 simp only [s43]
 refine Zg fun N2 hN2=>?_
 simp (maxSteps:=2000000) only [↓Za,↓Zb,↓Zc,vup,cond_false,aop,Zf,Zs,ev,sput,Ze,Nat.reduceBEq,Nat.reduceAdd]
 refine hN2 [(0,v),(1,w),(4,.bool false)] _ _ ?_ (by simp (maxSteps:=2000000) only [vup,cond_true,cond_false,Nat.reduceBEq])
 clear hN2
 try clear N2
 have hNp:=prodD_pos ha
 have hN6:prodD ps≤46656000000:=Nat.le_trans (prodD_le ha) (by rw [hlen]; exact Nat.le_trans (Nat.pow_le_pow_right (by decide) h6) (by decide))
 refine Zo fun Z hZ=>?_
 refine Zg fun N3 hN3=>?_
 simp (maxSteps:=2000000) only [↓Za,↓Zb,↓Zc,vup,List.map_cons,List.map_nil,cond_true,cond_false,aop,Zf,ev,sput,Ze,Zj,Nat.reduceBEq,tyf,Yt,List.nil_append,List.append_nil]
 refine (rcliques_call hv g).mono ?_
 rintro u H1 ⟨hu,hE1,hub⟩
 have hcl:((clq xs).map Int.ofNat).length=(clq xs).length:=List.length_map ..
 simp (maxSteps:=2000000) only [hu.int.len,hcl]
 refine hN3 [(0,v),(1,w),(4,.bool false),(11,u),(12,Zd (clq xs).length),(13,.int .i64 0)] _ _ ?_ (by simp (maxSteps:=2000000) only [vup,cond_true,cond_false,Nat.reduceBEq])
 clear hN3
 try clear N3
 have hwH:=hw.ext hE1
 refine Zr ?_
 refine Zp fun Q hQ=>?_
 refine Yu (γ:=Nat×Zi) (fun t=>t.1≤(clq xs).length∧Ext (fun _=>False) H1 t.2∧∀ j,j<t.1→sumW ps ((clq xs).getD j 0) xs.length≤1)
  (fun t=>([(0,v),(1,w),(4,.bool false),(11,u),(12,Zd (clq xs).length),(13,Zd (t.1:Nat))],t.2)) (fun t=>(clq xs).length-t.1) (0,H1) ⟨Nat.zero_le _,Ext.refl _ _,fun j hj=>absurd hj (Nat.not_lt_zero j)⟩ (by simp (maxSteps:=2000000) only [vup,cond_true,cond_false,Nat.reduceBEq,Int.natCast_zero]) rfl ?_
 rintro ⟨k,G⟩ ⟨hk,hEG,hall⟩
 simp only at hk hEG hall
 refine Zp fun Q2 hQ2=>?_
 simp only [l43_1]
 by_cases hkn:(k:Int)<(clq xs).length
 · have hk' : k<(clq xs).length:=by omega
   have hkC:k<((clq xs).map Int.ofNat).length:=by rw [hcl]; exact hk'
   obtain ⟨s,hs⟩ : ∃ s,(clq xs).getD k 0=s:=⟨_,rfl⟩
   have hsm:s∈clq xs:=by
    rw [← hs,List.getD,List.getElem?_eq_getElem hk']; exact List.getElem_mem _
   have hs64:s<64:=Nat.lt_of_lt_of_le ((mem_clq g).1 hsm).1 (pow6N h6)
   have hgs:((clq xs).map Int.ofNat).getD k 0=((s:Nat):Int):=by
    rw [← hs,List.getD,List.getElem?_map,List.getD,List.getElem?_eq_getElem hk']; rfl
   have huG:IntSl G u ((clq xs).map Int.ofNat):=Xk hu.int hEG
   have hwG:=hwH.ext hEG
   refine Zg fun N4 hN4=>?_
   simp (maxSteps:=2000000) only [↓Za,↓Zb,↓Zc,vup,cond_true,cond_false,aop,Zf,ev,sput,Ze,Zx,Ya,Nat.reduceBEq,hkn]
   refine hN4 [(0,v),(1,w),(4,.bool false),(11,u),(12,Zd (clq xs).length),(13,Zd (k:Nat)),(14,.bool true)] _ _ ?_ (by simp (maxSteps:=2000000) only [vup,cond_true,cond_false,Nat.reduceBEq])
   clear hN4
   try clear N4
   refine Zg fun N5 hN5=>?_
   simp (maxSteps:=2000000) only [↓Zn,↓vdn,vup,cond_true,cond_false,Zf,ev,Nat.reduceBEq]
   refine hN5 [(0,v),(1,w),(4,.bool false),(11,u),(12,Zd (clq xs).length),(13,Zd (k:Nat))] _ _ ?_ (by simp (maxSteps:=2000000) only [vup,cond_true,cond_false,Nat.reduceBEq])
   clear hN5
   try clear N5
   refine Zo fun B hB=>?_
   refine Zr ?_
   refine Zg fun N6 hN6=>?_
   simp (maxSteps:=2000000) only [↓Za,↓Zb,↓Zc,vup,cond_true,cond_false,aop,Zf,ev,sput,Ze,Nat.reduceBEq,huG.idx Xv Xg hkC,huG.load Xl hkC,hgs]
   refine hN6 [(0,v),(1,w),(4,.bool false),(6,Zd (s:Nat)),(11,u),(12,Zd (clq xs).length),(13,Zd (k:Nat))] _ _ ?_ (by simp (maxSteps:=2000000) only [vup,cond_true,cond_false,Nat.reduceBEq])
   clear hN6
   try clear N6
   have bld1 : ∀ K:Value→Prop,Vc prog 44 [(1,.int .i64 1)] K=K (.agg #[Zd 0,Zd 1]):=fun K=>by
    simp [Vc,zero_44,Vi,pl_44_1,Wm,cellsOf,Yj]
   refine Zg fun N7 hN7=>?_
   simp (maxSteps:=2000000) only [↓Za,↓Zb,↓Zc,vup,List.map_cons,List.map_nil,cond_true,cond_false,aop,Zf,ev,sput,Ze,Nat.reduceBEq,tyf,bld1,Xn,Yy,newF]
   have c7:=Yk G (fC 0 1)
   have hE7:Ext (fun _=>False) G (G++[fC 0 1]):=Ext.app _ _ _
   generalize G++[fC 0 1]=G0 at c7 hE7 ⊢
   obtain ⟨b7,hb7⟩ : ∃ b,b=G.length:=⟨_,rfl⟩
   rw [← hb7] at c7 ⊢
   refine hN7 [(0,v),(1,w),(4,.bool false),(6,Zd (s:Nat)),(7,pT b7),(11,u),(12,Zd (clq xs).length),(13,Zd (k:Nat))] _ _ ?_ (by simp (maxSteps:=2000000) only [vup,cond_true,cond_false,Nat.reduceBEq])
   clear hN7
   try clear N7
   have hwG0:=hwG.ext hE7
   refine Zo fun A hA=>?_
   refine Zg fun N8 hN8=>?_
   simp (maxSteps:=2000000) only [↓Za,↓Zb,↓Zc,vup,List.map_cons,List.map_nil,cond_true,cond_false,aop,Zf,ev,sput,Ze,Zj,Nat.reduceBEq,tyf,hwG0.len]
   refine hN8 [(0,v),(1,w),(4,.bool false),(6,Zd (s:Nat)),(7,pT b7),(11,u),(12,Zd (clq xs).length),(13,Zd (k:Nat)),(18,w),(19,Zd ps.length),(20,.int .i64 0)] _ _ ?_ (by simp (maxSteps:=2000000) only [vup,cond_true,cond_false,Nat.reduceBEq])
   clear hN8
   try clear N8
   refine Zr ?_
   refine Zp fun Qa hQa=>?_
   refine Yu (γ:=Nat×Zi) (fun t=>t.1≤ps.length∧Ext (fun b=>b=b7) G0 t.2∧t.2[b7]? = some (fC (sumW ps s t.1).num (sumW ps s t.1).den))
    (fun t=>([(0,v),(1,w),(4,.bool false),(6,Zd (s:Nat)),(7,pT b7),(11,u),(12,Zd (clq xs).length),(13,Zd (k:Nat)),(18,w),(19,Zd ps.length),(20,Zd (t.1:Nat))],t.2)) (fun t=>ps.length-t.1) (0,G0) ⟨Nat.zero_le _,Ext.refl _ _,c7⟩ (by simp (maxSteps:=2000000) only [vup,cond_true,cond_false,Nat.reduceBEq,Int.natCast_zero]) rfl ?_
   rintro ⟨i,F⟩ ⟨hi,hEF,cF⟩
   simp only at hi hEF cF
   refine Zp fun Qb hQb=>?_
   simp only [l43_0]
   by_cases hin:(i:Int)<ps.length
   · have hi' : i<ps.length:=by omega
     have hwF:PairSl F w ps:=hwG0.same fun b hb=>by
      have hlt:=hwG.lt hb
      exact hEF.2 b (by have:=hE7.1; omega) (by omega)
     obtain ⟨⟨px,py⟩,hp⟩ : ∃ p,ps.getD i (0,0)=p:=⟨_,rfl⟩
     have hW:=wf_isW ha hi'
     rw [hp] at hW
     obtain ⟨e1,e2⟩:=isW_parts hW
     obtain ⟨w1,w2,w3,w4,_⟩:=isW_iff.1 hW
     simp only at w1 w2 w3 w4
     have hwfe:wf ps i=wq (px,py):=by rw [wf,hp]
     refine Zg fun N9 hN9=>?_
     simp (maxSteps:=2000000) only [↓Za,↓Zb,↓Zc,vup,cond_true,cond_false,aop,Zf,ev,sput,Ze,Zx,Ya,Nat.reduceBEq,hin]
     refine hN9 [(0,v),(1,w),(4,.bool false),(6,Zd (s:Nat)),(7,pT b7),(11,u),(12,Zd (clq xs).length),(13,Zd (k:Nat)),(18,w),(19,Zd ps.length),(20,Zd (i:Nat)),(21,.bool true)] _ _ ?_ (by simp (maxSteps:=2000000) only [vup,cond_true,cond_false,Nat.reduceBEq])
     clear hN9
     try clear N9
     refine Zg fun N10 hN10=>?_
     simp (maxSteps:=2000000) only [↓Zn,↓vdn,vup,cond_true,cond_false,Zf,ev,Nat.reduceBEq]
     refine hN10 [(0,v),(1,w),(4,.bool false),(6,Zd (s:Nat)),(7,pT b7),(11,u),(12,Zd (clq xs).length),(13,Zd (k:Nat)),(18,w),(19,Zd ps.length),(20,Zd (i:Nat))] _ _ ?_ (by simp (maxSteps:=2000000) only [vup,cond_true,cond_false,Nat.reduceBEq])
     clear hN10
     try clear N10
     refine Zo fun D hD=>?_
     refine Zr ?_
     refine Zg fun N11 hN11=>?_
     simp (maxSteps:=2000000) only [↓Za,↓Zb,↓Zc,vup,cond_true,cond_false,aop,Zf,ev,sput,Ze,Nat.reduceBEq,tyf,hwF.idx el_50 esz_44 hi',hwF.load shp_44 hi',hp,Xn,Yy,newF]
     have c9:=Yk F (fC px py)
     have hEF1:Ext (fun _=>False) F (F++[fC px py]):=Ext.app _ _ _
     have cF1:=Wy cF [fC px py]
     generalize F++[fC px py]=F1 at c9 hEF1 cF1 ⊢
     generalize F.length=b9 at c9 ⊢
     refine hN11 [(0,v),(1,w),(4,.bool false),(6,Zd (s:Nat)),(7,pT b7),(8,Zd (i:Nat)),(9,pT b9),(11,u),(12,Zd (clq xs).length),(13,Zd (k:Nat)),(18,w),(19,Zd ps.length),(20,Zd (i:Nat))] _ _ ?_ (by simp (maxSteps:=2000000) only [vup,cond_true,cond_false,Nat.reduceBEq])
     clear hN11
     try clear N11
     have hE01:Ext (fun b=>b=b7) G0 F1:=hEF.trans (hEF1.mono fun _ h=>h.elim)
     have htst:=@testV s i (by omega)
     have hnn:(0:Int)≤(i:Int):=Int.natCast_nonneg i
     have fin : ∀ F2,Ext (fun b=>b=b7) G0 F2→F2[b7]? = some (fC (sumW ps s (i+1)).num (sumW ps s (i+1)).den)→∀ e,ELe e [(0,v),(1,w),(4,.bool false),(6,Zd (s:Nat)),(7,pT b7),(11,u),(12,Zd (clq xs).length),(13,Zd (k:Nat)),(18,w),(19,Zd ps.length),(20,Zd (i:Nat))]→D e F2:=by
      intro F2 hE2 c2 e he
      refine hD [(0,v),(1,w),(4,.bool false),(6,Zd (s:Nat)),(7,pT b7),(11,u),(12,Zd (clq xs).length),(13,Zd (k:Nat)),(18,w),(19,Zd ps.length),(20,Zd (i:Nat))] _ _ ?_ he
      refine Zm ?_
      simp (maxSteps:=2000000) only [↓Za,↓Zb,↓Zc,vup,cond_true,cond_false,aop,ev,sput,Ze,Zx,Ya,Nat.reduceBEq,Wx (show i<9223372036854775807 by omega)]
      exact hQb _ _ _ ⟨(i+1,F2),⟨hi',hE2,c2⟩,by simp only; omega,by simp (maxSteps:=2000000) only [vup,cond_true,cond_false,Nat.reduceBEq],rfl⟩
     cases hb:s.testBit i with
     | false =>
       rw [hb,if_neg (by decide)] at htst
       have e01:((0:Int)==1)=false:=rfl
       refine Zg fun N12 hN12=>?_
       simp (maxSteps:=2000000) only [↓Za,↓Zb,↓Zc,vup,cond_true,cond_false,aop,Zf,ev,sput,Ze,Zx,Ya,Nat.reduceBEq,hnn,htst,e01]
       refine hN12 [(0,v),(1,w),(4,.bool false),(6,Zd (s:Nat)),(7,pT b7),(8,Zd (i:Nat)),(9,pT b9),(11,u),(12,Zd (clq xs).length),(13,Zd (k:Nat)),(18,w),(19,Zd ps.length),(20,Zd (i:Nat)),(29,.bool false)] _ _ ?_ (by simp (maxSteps:=2000000) only [vup,cond_true,cond_false,Nat.reduceBEq])
       clear hN12
       try clear N12
       refine Yh rfl ?_
       refine Zm ?_
       simp (maxSteps:=2000000) only [↓Zn,Zf,Zk]
       refine fin F1 hE01 ?_ _ (by simp (maxSteps:=2000000) only [vup,cond_true,cond_false,Nat.reduceBEq])
       rw [sumW_succ,hb,if_neg (by decide)]; exact cF1
     | true =>
       rw [hb,if_pos rfl] at htst
       have e11:((1:Int)==1)=true:=rfl
       refine Zg fun N13 hN13=>?_
       simp (maxSteps:=2000000) only [↓Za,↓Zb,↓Zc,vup,cond_true,cond_false,aop,Zf,ev,sput,Ze,Zx,Ya,Nat.reduceBEq,hnn,htst,e11]
       refine hN13 [(0,v),(1,w),(4,.bool false),(6,Zd (s:Nat)),(7,pT b7),(8,Zd (i:Nat)),(9,pT b9),(11,u),(12,Zd (clq xs).length),(13,Zd (k:Nat)),(18,w),(19,Zd ps.length),(20,Zd (i:Nat)),(29,.bool true)] _ _ ?_ (by simp (maxSteps:=2000000) only [vup,cond_true,cond_false,Nat.reduceBEq])
       clear hN13
       try clear N13
       refine Yp rfl ?_
       refine Zm ?_
       obtain ⟨x,x0,x1,hxr⟩:=sumW_rp ha s (i:=i) hi
       have hi6:(i:Int)*prodD ps≤6*46656000000:=Int.mul_le_mul (by omega) (by omega) (by omega) (by omega)
       have hxn:=hxr.le
       have hxd:=hxr.den_le
       have k1:(sumW ps s i).num.natAbs*60<9223372036854775808 / 4:=by omega
       have hden:(wq (px,py)).den≤60:=by omega
       have hnum:(wq (px,py)).num.natAbs≤60:=by omega
       have m1:(sumW ps s i).num.natAbs*(wq (px,py)).den≤279936000000*60:=Nat.mul_le_mul (by omega) hden
       have m2:(wq (px,py)).num.natAbs*(sumW ps s i).den≤60*46656000000:=Nat.mul_le_mul hnum (by omega)
       have m3:(sumW ps s i).den*(wq (px,py)).den≤46656000000*60:=Nat.mul_le_mul (by omega) hden
       have hpl:=smplus_call (h:=F1) (a:=sumW ps s i) (b:=wq (px,py)) (by rw [Int.natAbs_mul,Int.natAbs_mul,Int.natAbs_natCast,Int.natAbs_natCast]; omega) (by omega)
       simp only [qV,frV,e1,e2] at hpl
       have es:sumW ps s i+wq (px,py)=sumW ps s (i+1):=by rw [sumW_succ,hb,if_pos rfl,hwfe]
       rw [es] at hpl
       simp (maxSteps:=2000000) only [↓Za,↓Zb,↓Zc,vup,List.map_cons,List.map_nil,cond_true,cond_false,aop,Zf,Zk,ev,sput,Ze,Nat.reduceBEq,Yt,List.nil_append,List.append_nil,Wk cF1,Wk c9]
       refine (hpl).mono ?_
       rintro _ F1 ⟨rfl,rfl⟩
       simp (maxSteps:=2000000) only [Wq cF1 rfl]
       exact fin _ (hE01.trans (Ext.set _ rfl)) (Xh (Yb cF1) _) _ (by simp (maxSteps:=2000000) only [vup,cond_true,cond_false,Nat.reduceBEq])
   obtain rfl:i=ps.length:=by omega
   refine Zg fun N14 hN14=>?_
   simp (maxSteps:=2000000) only [↓Za,↓Zb,↓Zc,vup,cond_true,cond_false,aop,Zf,ev,sput,Ze,Zx,Ya,Nat.reduceBEq,hin]
   refine hN14 [(0,v),(1,w),(4,.bool false),(6,Zd (s:Nat)),(7,pT b7),(11,u),(12,Zd (clq xs).length),(13,Zd (k:Nat)),(18,w),(19,Zd ps.length),(20,Zd ps.length),(21,.bool false)] _ _ ?_ (by simp (maxSteps:=2000000) only [vup,cond_true,cond_false,Nat.reduceBEq])
   clear hN14
   try clear N14
   refine Zg fun N15 hN15=>?_
   simp (maxSteps:=2000000) only [↓Yi,↓vdn,vup,cond_true,cond_false,Zf,ev,Nat.reduceBEq]
   refine hQb _ _ _ (hQa _ _ _ ?_)
   simp (maxSteps:=2000000) only [Zf,Zk,if_true]
   refine hA [(0,v),(1,w),(4,.bool false),(6,Zd (s:Nat)),(7,pT b7),(11,u),(12,Zd (clq xs).length),(13,Zd (k:Nat))] _ _ ?_ (by simp (maxSteps:=2000000) only [vup,cond_true,cond_false,Nat.reduceBEq])
   clear hA
   try clear A
   clear hQa hQb
   rw [hlen] at cF
   have hEnd:Ext (fun _=>False) H1 F:=hEG.trans (ext_ge hE7 (fun b hb=>by omega) hEF)
   by_cases hle:sumW ps s xs.length≤1
   · have hd : ¬ ((sumW ps s xs.length).den:Int)<(sumW ps s xs.length).num:=fun h=>by
      rw [Rat.le_iff] at hle
      have a1:(1:Rat).num=1:=rfl
      have a2:(1:Rat).den=1:=rfl
      rw [a1,a2] at hle
      omega
     refine Zg fun N16 hN16=>?_
     simp (maxSteps:=2000000) only [↓Za,↓Zb,↓Zc,vup,cond_true,cond_false,aop,Zf,ev,sput,Ze,Zx,Ya,Nat.reduceBEq,tyf,fA0,fA1,Wv cF,Wa cF,hd]
     refine hN16 [(0,v),(1,w),(4,.bool false),(6,Zd (s:Nat)),(7,pT b7),(11,u),(12,Zd (clq xs).length),(13,Zd (k:Nat)),(38,.bool false)] _ _ ?_ (by simp (maxSteps:=2000000) only [vup,cond_true,cond_false,Nat.reduceBEq])
     clear hN16
     try clear N16
     refine Yh rfl ?_
     refine Zm ?_
     simp (maxSteps:=2000000) only [↓Zn,Zf,Zk]
     refine hB [(0,v),(1,w),(4,.bool false),(11,u),(12,Zd (clq xs).length),(13,Zd (k:Nat))] _ _ ?_ (by simp (maxSteps:=2000000) only [vup,cond_true,cond_false,Nat.reduceBEq])
     clear hB
     try clear B
     refine Zm ?_
     simp (maxSteps:=2000000) only [↓Za,↓Zb,↓Zc,vup,cond_true,cond_false,aop,ev,sput,Ze,Zx,Ya,Nat.reduceBEq,Wx (show k<9223372036854775807 by have:=clqTo_len xs (2 ^ xs.length); have:=pow6N h6; rw [clq] at hk'; omega)]
     refine hQ2 _ _ _ ⟨(k+1,F),⟨hk',hEnd,fun j hj=>?_⟩,by simp only; omega,by simp (maxSteps:=2000000) only [vup,cond_true,cond_false,Nat.reduceBEq],rfl⟩
     by_cases hjk:j=k
     · rw [hjk,hs]; exact hle
     · exact hall j (by omega)
   · have hd:((sumW ps s xs.length).den:Int)<(sumW ps s xs.length).num:=by
      rw [Rat.le_iff] at hle
      have a1:(1:Rat).num=1:=rfl
      have a2:(1:Rat).den=1:=rfl
      rw [a1,a2] at hle
      omega
     refine Zg fun N17 hN17=>?_
     simp (maxSteps:=2000000) only [↓Za,↓Zb,↓Zc,vup,cond_true,cond_false,aop,Zf,ev,sput,Ze,Zx,Ya,Nat.reduceBEq,tyf,fA0,fA1,Wv cF,Wa cF,hd]
     refine hN17 [(0,v),(1,w),(4,.bool false),(6,Zd (s:Nat)),(7,pT b7),(11,u),(12,Zd (clq xs).length),(13,Zd (k:Nat)),(38,.bool true)] _ _ ?_ (by simp (maxSteps:=2000000) only [vup,cond_true,cond_false,Nat.reduceBEq])
     clear hN17
     try clear N17
     refine Yp rfl ?_
     refine Zm ?_
     simp (maxSteps:=2000000) only [↓Za,↓Zl,↓Zw,↓Zb,↓Zc,vup,cond_true,cond_false,aop,Zf,Zk,ev,sput,Ze,Nat.reduceBEq]
     refine hQ2 _ _ _ (hQ _ _ _ ?_)
     simp (maxSteps:=2000000) only [vup,cond_true,cond_false,Zf,Zk,Nat.reduceBEq,Zt,Xi,tup]
     have hlB:Vg xs ps=false:=by
      rw [← Bool.not_eq_true,Vg,List.all_eq_true]
      exact fun h=>hle (of_decide_eq_true (h s hsm))
     exact ⟨hE1.trans hEnd,by rw [hlB]⟩
 obtain rfl:k=(clq xs).length:=by omega
 refine Zg fun N18 hN18=>?_
 simp (maxSteps:=2000000) only [↓Za,↓Zb,↓Zc,vup,cond_true,cond_false,aop,Zf,ev,sput,Ze,Zx,Ya,Nat.reduceBEq,hkn]
 refine hN18 [(0,v),(1,w),(4,.bool false),(11,u),(12,Zd (clq xs).length),(13,Zd (clq xs).length),(14,.bool false)] _ _ ?_ (by simp (maxSteps:=2000000) only [vup,cond_true,cond_false,Nat.reduceBEq])
 clear hN18
 try clear N18
 refine Zg fun N19 hN19=>?_
 simp (maxSteps:=2000000) only [↓Yi,↓vdn,vup,cond_true,cond_false,Zf,ev,Nat.reduceBEq]
 refine hQ2 _ _ _ (hQ _ _ _ ?_)
 simp (maxSteps:=2000000) only [Zf,Zk,Zt,if_true]
 refine hZ [(0,v),(1,w),(4,.bool false)] _ _ ?_ (by simp (maxSteps:=2000000) only [vup,cond_true,cond_false,Nat.reduceBEq])
 clear hZ
 try clear Z
 refine Zm ?_
 simp (maxSteps:=2000000) only [↓Za,↓Zl,↓Zw,↓Zb,↓Zc,vup,cond_true,cond_false,aop,Zf,ev,sput,Ze,Nat.reduceBEq,Zt,Xi,tup]
 have hlB:Vg xs ps=true:=by
  rw [Vg,List.all_eq_true]
  intro s hs
  obtain ⟨j,hj,rfl⟩:=List.mem_iff_getElem.1 hs
  have:=hall j hj
  rw [List.getD,List.getElem?_eq_getElem hj] at this
  exact decide_eq_true this
 exact ⟨hE1.trans hEG,by rw [hlB]⟩
end Go.Proofs.Tryd.Am
namespace Rn
def S:List Nat→Nat→Bool
 | [],y=>y==0
 | x::l,y=>S l y || S l (y ^^^ x)
theorem S_zero : ∀ l,S l 0=true
 | []=>rfl
 | x::l=>by rw [S,S_zero l]; rfl
theorem Vl (a b:Nat):(a ^^^ b) ^^^ b=a:=by rw [Nat.xor_assoc,Nat.xor_self,Nat.xor_zero]
theorem S_xor : ∀ (l:List Nat) {a b:Nat},S l a=true→S l b=true→S l (a ^^^ b)=true
 | [],a,b,ha,hb=>by
   rw [S,beq_iff_eq] at ha hb ⊢; subst ha hb; rfl
 | x::l,a,b,ha,hb=>by
   rw [S,Bool.or_eq_true] at ha hb ⊢
   rcases ha with ha | ha <;> rcases hb with hb | hb
   · exact .inl (S_xor l ha hb)
   · right; have:=S_xor l ha hb; rw [← Nat.xor_assoc] at this; exact this
   · right; have:=S_xor l ha hb
     rw [Nat.xor_assoc,Nat.xor_comm x b,← Nat.xor_assoc] at this; exact this
   · left; have:=S_xor l ha hb
     rw [Nat.xor_assoc,Nat.xor_comm x,Vl] at this; exact this
theorem S_mem : ∀ {l:List Nat} {x:Nat},x∈l→S l x=true
 | y::l,x,h=>by
   rw [S,Bool.or_eq_true]
   rcases List.mem_cons.1 h with rfl | h
   · right; rw [Nat.xor_self]; exact S_zero l
   · exact .inl (S_mem h)
theorem S_sub {m:List Nat} : ∀ {l:List Nat} {y:Nat},(∀ x∈l,S m x=true)→S l y=true→S m y=true
 | [],y,_,h=>by rw [S,beq_iff_eq] at h; subst h; exact S_zero m
 | x::l,y,hm,h=>by
   rw [S,Bool.or_eq_true] at h
   rcases h with h | h
   · exact S_sub (fun z hz=>hm z (by simp [hz])) h
   · have h1:=S_sub (fun z hz=>hm z (by simp [hz])) h
     have:=S_xor m h1 (hm x (by simp))
     rw [Vl] at this; exact this
theorem S_eq {l m:List Nat} (h1 : ∀ x∈l,S m x=true) (h2 : ∀ x∈m,S l x=true) (y:Nat):S l y=S m y:=by
 rw [Bool.eq_iff_iff]; exact ⟨S_sub h1,S_sub h2⟩
/-! How many sums there are. -/
theorem cnt_sub {L:List Nat} (hL:L.Nodup) : ∀ l:List Nat,l.Nodup→(∀ x∈l,x∈L)→l.length≤L.length:=by
 intro l hl hs
 induction l generalizing L with
 | nil=>exact Nat.zero_le _
 | cons x l ih =>
   have hn:=List.nodup_cons.1 hl
   have hx:=hs x (by simp)
   have h1:=ih (L:=L.erase x) (hL.erase x) hn.2 fun y hy=>(List.mem_erase_of_ne (by rintro rfl; exact hn.1 hy)).2 (hs y (by simp [hy]))
   rw [List.length_erase_of_mem hx] at h1
   have:=List.length_pos_of_mem hx
   rw [List.length_cons]; omega
theorem countP_xor_le {p:Nat→Bool} {x n:Nat} (hx:x<2 ^ n):(List.range (2 ^ n)).countP (fun y=>p (y ^^^ x))≤(List.range (2 ^ n)).countP p:=by
 rw [List.countP_eq_length_filter,List.countP_eq_length_filter,← List.length_map (f:=fun y=>y ^^^ x)]
 refine cnt_sub (List.Pairwise.filter _ List.nodup_range) _ ?_ fun z hz=>?_
 · rw [List.Nodup,List.pairwise_map]
   refine (List.Pairwise.filter _ List.nodup_range).imp fun h e=>h ?_
   have:=congrArg (· ^^^ x) e
   simp only [Vl] at this; exact this
 · obtain ⟨y,hy,rfl⟩:=List.mem_map.1 hz
   rw [List.mem_filter,List.mem_range] at hy ⊢
   exact ⟨Nat.xor_lt_two_pow hy.1 hx,hy.2⟩
theorem countP_xor {p:Nat→Bool} {x n:Nat} (hx:x<2 ^ n):(List.range (2 ^ n)).countP (fun y=>p (y ^^^ x))=(List.range (2 ^ n)).countP p:=by
 refine Nat.le_antisymm (countP_xor_le hx) ?_
 have:=countP_xor_le (p:=fun y=>p (y ^^^ x)) hx
 simp only [Vl] at this; exact this
theorem countP_or {p q:Nat→Bool} (h : ∀ y,p y=true→q y=false) : ∀ l:List Nat,l.countP (fun y=>p y || q y)=l.countP p+l.countP q
 | []=>rfl
 | y::l=>by
   rw [List.countP_cons,List.countP_cons,List.countP_cons,countP_or h l]
   cases hp:p y with
   | true=>rw [h y hp]; simp; omega
   | false=>simp; omega
def Ind:List Nat→Prop
 | []=>True
 | x::l=>S l x=false∧Ind l
def cnt (n:Nat) (l:List Nat):Nat:=(List.range (2 ^ n)).countP (S l)
theorem cnt_nil (n:Nat):cnt n []=1:=by
 have : ∀ m,0<m→(List.range m).countP (fun y=>y==0)=1:=by
  intro m
  induction m with
  | zero=>intro h; omega
  | succ m ih =>
    intro _
    rw [List.range_succ,List.countP_append]
    by_cases hm:m=0
    · subst hm; rfl
    · rw [ih (by omega)]; simp [hm]
 exact this _ (Nat.two_pow_pos n)
theorem cnt_ind {n:Nat} : ∀ (l:List Nat),(∀ x∈l,x<2 ^ n)→Ind l→cnt n l=2 ^ l.length
 | [],_,_=>cnt_nil n
 | x::l,hl,⟨h1,h2⟩=>by
   have ih:=cnt_ind l (fun z hz=>hl z (by simp [hz])) h2
   have e:cnt n (x::l)=(List.range (2 ^ n)).countP (S l)+(List.range (2 ^ n)).countP fun y=>S l (y ^^^ x):=by
    refine countP_or (q:=fun y=>S l (y ^^^ x)) (fun y hy=>?_) _
    cases h:S l (y ^^^ x) with
    | false=>rfl
    | true =>
      have:=S_xor l hy h
      rw [← Nat.xor_assoc,Nat.xor_self,Nat.zero_xor,h1] at this; cases this
   rw [e,countP_xor (hl x (by simp))]
   unfold cnt at ih
   rw [ih,List.length_cons,Nat.pow_succ]; omega
def dim (n:Nat) (l:List Nat):Nat:=(cnt n l).log2
theorem dim_ind {n:Nat} {l:List Nat} (hl : ∀ x∈l,x<2 ^ n) (h:Ind l):dim n l=l.length:=by rw [dim,cnt_ind l hl h,Nat.log2_two_pow]
theorem dim_congr {n:Nat} {l m:List Nat} (h : ∀ y,S l y=S m y):dim n l=dim n m:=by
 rw [dim,dim,cnt,cnt,List.countP_congr fun y _=>by rw [h y]]
theorem cnt_pos (n:Nat) (l:List Nat):cnt n l≠0:=by
 have:0<cnt n l:=List.countP_pos_iff.2 ⟨0,List.mem_range.2 (Nat.two_pow_pos n),S_zero l⟩
 omega
theorem dim_mono {n:Nat} {l m:List Nat} (h : ∀ y,S l y=true→S m y=true):dim n l≤dim n m:=by
 have h1:cnt n l≤cnt n m:=List.countP_mono_left fun y _=>h y
 rw [dim,dim,Nat.le_log2 (cnt_pos n m)]
 exact Nat.le_trans (Nat.log2_self_le (cnt_pos n l)) h1
/-! Bases: each row has a greatest column of its own. -/
theorem bit_top {b:Nat} (h:b≠0):b.testBit b.log2=true:=Nat.testBit_log2 h
theorem bit_over {b j:Nat} (h:b.log2<j):b.testBit j=false:=Nat.testBit_lt_two_pow (Nat.lt_of_lt_of_le Nat.lt_log2_self (Nat.pow_le_pow_right (by decide) h))
theorem lt_bit {n m i:Nat} (hn:n.testBit i=false) (hm:m.testBit i=true) (h : ∀ j,i<j→n.testBit j=m.testBit j):n<m:=by
 have e:n / 2 ^ (i+1)=m / 2 ^ (i+1):=by
  apply Nat.eq_of_testBit_eq
  intro j
  rw [Nat.testBit_div_two_pow,Nat.testBit_div_two_pow]; exact h _ (by omega)
 have h1:n % 2 ^ (i+1)<2 ^ i:=by
  refine Nat.lt_pow_two_of_testBit _ fun j hj=>?_
  rw [Nat.testBit_mod_two_pow]
  by_cases hji:j=i
  · subst hji; rw [hn,Bool.and_false]
  · have : ¬ j<i+1:=by omega
    simp [this]
 have h2:2 ^ i≤m % 2 ^ (i+1):=Nat.ge_two_pow_of_testBit (by rw [Nat.testBit_mod_two_pow,hm]; simp)
 have a:=Nat.div_add_mod n (2 ^ (i+1))
 have b:=Nat.div_add_mod m (2 ^ (i+1))
 rw [e] at a
 generalize 2 ^ (i+1)*(m / 2 ^ (i+1))=q at a b
 omega
def mn (a b:Nat):Nat:=if b<a then b else a
theorem mn_bits {r b:Nat} (hb:b≠0):(mn r (r ^^^ b)).testBit b.log2=false∧(∀ j,b.log2<j→(mn r (r ^^^ b)).testBit j=r.testBit j)∧(mn r (r ^^^ b)=r∨mn r (r ^^^ b)=r ^^^ b):=by
 have hi : ∀ j,b.log2<j→(r ^^^ b).testBit j=r.testBit j:=fun j hj=>by rw [Nat.testBit_xor,bit_over hj,Bool.xor_false]
 have ht:(r ^^^ b).testBit b.log2 = !r.testBit b.log2:=by rw [Nat.testBit_xor,bit_top hb,Bool.xor_true]
 cases hr:r.testBit b.log2 with
 | true =>
   rw [hr] at ht
   have:r ^^^ b<r:=lt_bit ht hr hi
   rw [mn,if_pos this]
   exact ⟨ht,hi,.inr rfl⟩
 | false =>
   rw [hr] at ht
   have:r<r ^^^ b:=lt_bit hr ht fun j hj=>(hi j hj).symm
   rw [mn,if_neg (by omega)]
   exact ⟨hr,fun _ _=>rfl,.inl rfl⟩
def red (B:List Nat) (row:Nat):Nat:=B.foldl (fun r b=>mn r (r ^^^ b)) row
def Bs (B:List Nat):Prop:=B.Pairwise (fun a b=>b.log2<a.log2)∧∀ x∈B,x≠0
theorem red_keep : ∀ (B:List Nat) (r j:Nat),(∀ b∈B,b≠0∧b.log2<j)→(red B r).testBit j=r.testBit j
 | [],_,_,_=>rfl
 | b::B,r,j,h=>by
   have hb:=h b (by simp)
   rw [red,List.foldl_cons]
   exact (red_keep B _ j fun c hc=>h c (by simp [hc])).trans ((mn_bits hb.1).2.1 j hb.2)
theorem red_clear : ∀ (B:List Nat) (r:Nat),Bs B→∀ b∈B,(red B r).testBit b.log2=false
 | [],_,_,_,h=>by cases h
 | c::B,r,⟨hp,h0⟩,b,hb=>by
   rw [List.pairwise_cons] at hp
   have hc:=h0 c (by simp)
   rw [red,List.foldl_cons]
   rcases List.mem_cons.1 hb with rfl | hb
   · exact (red_keep B _ _ fun d hd=>⟨h0 d (by simp [hd]),hp.1 d hd⟩).trans (mn_bits hc).1
   · exact red_clear B _ ⟨hp.2,fun x hx=>h0 x (by simp [hx])⟩ b hb
theorem red_S {B:List Nat} : ∀ (l:List Nat) (r:Nat),(∀ b∈l,b∈B∧b≠0)→S B (r ^^^ red l r)=true
 | [],r,_=>by rw [red,List.foldl_nil,Nat.xor_self]; exact S_zero B
 | b::l,r,h=>by
   have hb:=h b (by simp)
   rw [red,List.foldl_cons]
   have h1:=red_S l (mn r (r ^^^ b)) fun c hc=>h c (by simp [hc])
   rw [red] at h1
   rcases (mn_bits (r:=r) hb.2).2.2 with e | e
   · rw [e] at h1 ⊢; exact h1
   · rw [e] at h1 ⊢
     have:=S_xor B (S_mem hb.1) h1
     rw [← Nat.xor_assoc,Nat.xor_comm b,Vl] at this
     exact this
theorem red_top {B:List Nat} (hB:Bs B) {r:Nat} (h:red B r≠0) : ∀ b∈B,(red B r).log2≠b.log2:=fun b hb e=>by
 have:=red_clear B r hB b hb
 rw [← e,bit_top h] at this; cases this
theorem Bs.more {B C:List Nat} (hB:Bs B) {r:Nat} (h:red B r≠0) (hm : ∀ x,x∈C↔x∈B∨x=red B r) (hs:C.Pairwise fun a b=>b≤a) (hn:C.Nodup):Bs C∧∀ y,S C y=S (B++[r]) y:=by
 have hd : ∀ x∈C,∀ y∈C,x≠y→x.log2≠y.log2:=by
  have dB : ∀ x∈B,∀ y∈B,x≠y→x.log2≠y.log2:=by
   intro x hx y hy hne
   obtain ⟨i,hi,rfl⟩:=List.getElem_of_mem hx
   obtain ⟨j,hj,rfl⟩:=List.getElem_of_mem hy
   rcases Nat.lt_trichotomy i j with h1 | h1 | h1
   · have:=List.pairwise_iff_getElem.1 hB.1 i j hi hj h1; omega
   · subst h1; exact absurd rfl hne
   · have:=List.pairwise_iff_getElem.1 hB.1 j i hj hi h1; omega
  intro x hx y hy hne
  rcases (hm x).1 hx with hx | rfl <;> rcases (hm y).1 hy with hy | rfl
  · exact dB x hx y hy hne
  · exact fun e=>red_top hB h x hx e.symm
  · exact red_top hB h y hy
  · exact absurd rfl hne
 have h0 : ∀ x∈C,x≠0:=fun x hx=>by
  rcases (hm x).1 hx with hx | rfl
  · exact hB.2 x hx
  · exact h
 refine ⟨⟨?_,h0⟩,fun y=>?_⟩
 · rw [List.pairwise_iff_getElem] at hs ⊢
   intro i j hi hj hij
   have h1:=hs i j hi hj hij
   have h2:=hd C[i] (List.getElem_mem hi) C[j] (List.getElem_mem hj) (List.pairwise_iff_getElem.1 hn i j hi hj hij)
   have h3:C[j].log2≤C[i].log2:=by
    rw [Nat.le_log2 (h0 _ (List.getElem_mem hi))]
    exact Nat.le_trans (Nat.log2_self_le (h0 _ (List.getElem_mem hj))) h1
   omega
 · have hx:=red_S (B:=B) B r fun b hb=>⟨hb,hB.2 b hb⟩
   have up : ∀ {z},S B z=true→S (B++[r]) z=true:=fun hz=>S_sub (fun x hx=>S_mem (by simp [hx])) hz
   have upC : ∀ {z},S B z=true→S C z=true:=fun hz=>S_sub (fun x hx=>S_mem ((hm x).2 (.inl hx))) hz
   refine S_eq (fun x hxC=>?_) (fun x hxB=>?_) y
   · rcases (hm x).1 hxC with h1 | rfl
     · exact S_mem (by simp [h1])
     · have:=S_xor (B++[r]) (S_mem (show r∈B++[r] by simp)) (up hx)
       rw [← Nat.xor_assoc,Nat.xor_self,Nat.zero_xor] at this; exact this
   · rcases List.mem_append.1 hxB with h1 | h1
     · exact S_mem ((hm x).2 (.inl h1))
     · obtain rfl:=List.mem_singleton.1 h1
       have:=S_xor C (upC hx) (S_mem ((hm _).2 (.inr rfl)))
       rw [Vl] at this; exact this
end Rn
namespace Rn
def rowsF (L:Nat→Nat) (n:Nat):List Nat:=(List.range n).map L
theorem Wu {L:Nat→Nat} {n x:Nat}:x∈rowsF L n↔∃ i,i<n∧L i=x:=by simp [rowsF]
theorem rowsF_S {L:Nat→Nat} {n i:Nat} (h:i<n):S (rowsF L n) (L i)=true:=S_mem (Wu.2 ⟨i,h,rfl⟩)
structure EI (n:Nat) (L0 L:Nat→Nat) (k c:Nat) (pv:Nat→Nat):Prop where
 kn:k≤n
 lt : ∀ i,i<n→L i<2 ^ n
 same : ∀ y,S (rowsF L n) y=S (rowsF L0 n) y
 piv : ∀ j,j<k→(L j).testBit (pv j)=true∧∀ i,i<n→i≠j→(L i).testBit (pv j)=false
 low : ∀ i,k≤i→i<n→∀ b,b<c→(L i).testBit b=false
section
variable {n k c a:Nat} {L0 L:Nat→Nat} {pv:Nat→Nat}
theorem EI.start (h : ∀ i,i<n→L i<2 ^ n):EI n L L 0 0 pv:=⟨Nat.zero_le _,h,fun _=>rfl,fun _ h=>by omega,fun _ _ _ _ h=>by omega⟩
theorem EI.none (e:EI n L0 L k c pv) (h : ∀ i,k≤i→i<n→(L i).testBit c=false):EI n L0 L k (c+1) pv :=
 ⟨e.kn,e.lt,e.same,e.piv,fun i h1 h2 b hb=>(Nat.lt_or_eq_of_le (Nat.le_of_lt_succ hb)).elim (fun hc=>e.low i h1 h2 b hc) fun hc=>by subst hc; exact h i h1 h2⟩
def swp (L:Nat→Nat) (k a:Nat):Nat→Nat:=fun i=>if i=k then L a else if i=a then L k else L i
def elm (L:Nat→Nat) (k c:Nat):Nat→Nat:=fun i=>if i≠k∧(L i).testBit c=true then L i ^^^ L k else L i
theorem swp_from (L:Nat→Nat) {k a n:Nat} (hk:k≤a) (ha:a<n) (i:Nat) (hi:i<n) : ∃ j,j<n∧swp L k a i=L j∧(k≤i→k≤j)∧(i<k→j=i):=by
 unfold swp
 by_cases h1:i=k
 · rw [if_pos h1]; exact ⟨a,ha,rfl,fun _=>hk,fun h=>by omega⟩
 · rw [if_neg h1]
   by_cases h2:i=a
   · rw [if_pos h2]; exact ⟨k,by omega,rfl,fun _=>Nat.le_refl _,fun h=>by omega⟩
   · rw [if_neg h2]; exact ⟨i,hi,rfl,fun h=>h,fun _=>rfl⟩
theorem swp_to (L:Nat→Nat) {k a n:Nat} (hk:k≤a) (ha:a<n) (j:Nat) (hj:j<n) : ∃ i,i<n∧swp L k a i=L j:=by
 by_cases h1:j=a
 · exact ⟨k,by omega,by rw [swp,if_pos rfl,h1]⟩
 · by_cases h2:j=k
   · refine ⟨a,ha,?_⟩
     unfold swp
     rw [if_neg (by omega),if_pos rfl,h2]
   · exact ⟨j,hj,by rw [swp,if_neg h2,if_neg h1]⟩
theorem swp_S (hk:k≤a) (ha:a<n) (y:Nat):S (rowsF (swp L k a) n) y=S (rowsF L n) y:=by
 refine S_eq (fun x hx=>?_) (fun x hx=>?_) y
 · obtain ⟨i,hi,rfl⟩:=Wu.1 hx
   obtain ⟨j,hj,e,_⟩:=swp_from L hk ha i hi
   rw [e]; exact rowsF_S hj
 · obtain ⟨j,hj,rfl⟩:=Wu.1 hx
   obtain ⟨i,hi,e⟩:=swp_to L hk ha j hj
   rw [← e]; exact rowsF_S hi
theorem elm_S (hk:k<n) (y:Nat):S (rowsF (elm L k c) n) y=S (rowsF L n) y:=by
 have ek:elm L k c k=L k:=by rw [elm,if_neg (by simp)]
 refine S_eq (fun x hx=>?_) (fun x hx=>?_) y
 · obtain ⟨i,hi,rfl⟩:=Wu.1 hx
   unfold elm
   split
   · exact S_xor _ (rowsF_S hi) (rowsF_S hk)
   · exact rowsF_S hi
 · obtain ⟨i,hi,rfl⟩:=Wu.1 hx
   have h1:=rowsF_S (L:=elm L k c) hi
   have h2:=rowsF_S (L:=elm L k c) hk
   rw [ek] at h2
   unfold elm at h1
   split at h1
   · have:=S_xor _ h1 h2
     rw [Vl] at this; exact this
   · exact h1
theorem EI.some (e:EI n L0 L k c pv) (hk:k≤a) (ha:a<n) (hb:(L a).testBit c=true):EI n L0 (elm (swp L k a) k c) (k+1) (c+1) fun j=>if j=k then c else pv j:=by
 have hkn:k<n:=by omega
 have srow:swp L k a k=L a:=by rw [swp,if_pos rfl]
 have ek:elm (swp L k a) k c k=L a:=by rw [elm,if_neg (by simp),srow]
 have other : ∀ i,i≠k→elm (swp L k a) k c i=if (swp L k a i).testBit c=true then swp L k a i ^^^ L a else swp L k a i:=fun i hi=>by
  unfold elm; rw [srow]
  by_cases h:(swp L k a i).testBit c=true
  · rw [if_pos ⟨hi,h⟩,if_pos h]
  · rw [if_neg (fun h2=>h h2.2),if_neg h]
 refine ⟨by omega,fun i hi=>?_,fun y=>?_,fun j hj=>?_,fun i h1 h2 b hbc=>?_⟩
 · obtain ⟨j,hj,es,_⟩:=swp_from L hk ha i hi
   unfold elm
   rw [srow,es]
   split
   · exact Nat.xor_lt_two_pow (e.lt j hj) (e.lt a ha)
   · exact e.lt j hj
 · rw [elm_S hkn,swp_S hk ha]; exact e.same y
 · by_cases hjk:j=k
   · subst hjk
     rw [if_pos rfl,ek]
     refine ⟨hb,fun i hi hne=>?_⟩
     rw [other i hne]
     cases h:(swp L j a i).testBit c with
     | true=>rw [if_pos rfl,Nat.testBit_xor,h,hb]; rfl
     | false=>rw [if_neg (by decide),h]
   · rw [if_neg hjk]
     have hj' : j<k:=by omega
     obtain ⟨p1,p2⟩:=e.piv j hj'
     have ra:=p2 a ha (by omega)
     refine ⟨?_,fun i hi hne=>?_⟩
     · rw [other j hjk]
       obtain ⟨j2,_,es,_,e2⟩:=swp_from L hk ha j (by omega)
       rw [es,e2 hj']
       split
       · rw [Nat.testBit_xor,p1,ra]; rfl
       · exact p1
     · by_cases hik:i=k
       · subst hik; rw [ek]; exact ra
       · rw [other i hik]
         obtain ⟨i2,hi2,es,g1,g2⟩:=swp_from L hk ha i hi
         have hne2:i2≠j:=by
          by_cases h:i<k
          · rw [g2 h]; exact hne
          · have:=g1 (by omega); omega
         have r2:=p2 i2 hi2 hne2
         rw [es]
         split
         · rw [Nat.testBit_xor,r2,ra]; rfl
         · exact r2
 · have hik:i≠k:=by omega
   rw [other i hik]
   by_cases hc:b=c
   · subst hc
     cases h:(swp L k a i).testBit b with
     | true=>rw [if_pos rfl,Nat.testBit_xor,h,hb]; rfl
     | false=>rw [if_neg (by decide),h]
   · obtain ⟨i2,hi2,es,g1,_⟩:=swp_from L hk ha i h2
     have r1:=e.low i2 (g1 (by omega)) hi2 b (by omega)
     have r2:=e.low a hk ha b (by omega)
     rw [es]
     split
     · rw [Nat.testBit_xor,r1,r2]; rfl
     · exact r1
theorem S_bit {p:Nat} : ∀ {l:List Nat} {y:Nat},(∀ z∈l,z.testBit p=false)→S l y=true→y.testBit p=false
 | [],y,_,h=>by rw [S,beq_iff_eq] at h; subst h; exact Nat.zero_testBit p
 | x::l,y,hl,h=>by
   rw [S,Bool.or_eq_true] at h
   rcases h with h | h
   · exact S_bit (fun z hz=>hl z (by simp [hz])) h
   · have h1:=S_bit (fun z hz=>hl z (by simp [hz])) h
     rw [Nat.testBit_xor,hl x (by simp),Bool.xor_false] at h1; exact h1
theorem ind_piv (L:Nat→Nat) (pv:Nat→Nat) : ∀ (k:Nat),(∀ j,j<k→(L j).testBit (pv j)=true∧∀ i,i<k→i≠j→(L i).testBit (pv j)=false)→Ind (rowsF L k).reverse
 | 0,_=>trivial
 | k+1,h=>by
   have e:(rowsF L (k+1)).reverse=L k::(rowsF L k).reverse:=by simp [rowsF,List.range_succ]
   rw [e]
   refine ⟨?_,ind_piv L pv k fun j hj=>⟨(h j (by omega)).1,fun i hi hne=>(h j (by omega)).2 i (by omega) hne⟩⟩
   cases hs:S (rowsF L k).reverse (L k) with
   | false=>rfl
   | true =>
     have:=S_bit (p:=pv k) (fun z hz=>by
      obtain ⟨i,hi,rfl⟩:=Wu.1 (List.mem_reverse.1 hz)
      exact (h k (by omega)).2 i (by omega) (by omega)) hs
     rw [(h k (by omega)).1] at this; cases this
theorem zero_low {x n:Nat} (h:x<2 ^ n) (hb : ∀ b,b<n→x.testBit b=false):x=0:=by
 apply Nat.eq_of_testBit_eq
 intro i
 rw [Nat.zero_testBit]
 by_cases hi:i<n
 · exact hb i hi
 · exact Nat.testBit_lt_two_pow (Nat.lt_of_lt_of_le h (Nat.pow_le_pow_right (by decide) (by omega)))
theorem EI.fin (e:EI n L0 L k n pv):dim n (rowsF L0 n)=k:=by
 have h1 : ∀ y,S (rowsF L0 n) y=S (rowsF L k).reverse y:=fun y=>by
  rw [← e.same y]
  refine S_eq (fun x hx=>?_) (fun x hx=>?_) y
  · obtain ⟨i,hi,rfl⟩:=Wu.1 hx
    by_cases hik:i<k
    · exact S_mem (List.mem_reverse.2 (Wu.2 ⟨i,hik,rfl⟩))
    · rw [zero_low (e.lt i hi) (e.low i (by omega) hi)]; exact S_zero _
  · obtain ⟨i,hi,rfl⟩:=Wu.1 (List.mem_reverse.1 hx)
    have:=e.kn
    exact rowsF_S (by omega)
 have hkn:=e.kn
 rw [dim_congr h1,dim_ind (fun x hx=>by
  obtain ⟨i,hi,rfl⟩:=Wu.1 (List.mem_reverse.1 hx)
  exact e.lt i (by omega)) (ind_piv L pv k fun j hj=>⟨(e.piv j hj).1,fun i hi hne=>(e.piv j hj).2 i (by omega) hne⟩)]
 simp [rowsF]
end
/-! The least of b and of some numbers. -/
def IsMin (b:Nat) (P:Nat→Prop) (v:Nat):Prop:=(v=b∨P v)∧v≤b∧∀ w,P w→v≤w
theorem IsMin.uniq {b:Nat} {P:Nat→Prop} {v w:Nat} (h1:IsMin b P v) (h2:IsMin b P w):v=w:=by
 obtain ⟨a1,b1,c1⟩:=h1
 obtain ⟨a2,b2,c2⟩:=h2
 have x1:v≤w:=by rcases a2 with rfl | h; exact b1; exact c1 w h
 have x2:w≤v:=by rcases a1 with rfl | h; exact b2; exact c2 v h
 omega
theorem IsMin.start (b:Nat):IsMin b (fun _=>False) b:=⟨.inl rfl,Nat.le_refl _,fun _ h=>h.elim⟩
theorem IsMin.next {b v w:Nat} {P P' : Nat→Prop} (h1:IsMin b P v) (h2:IsMin v P' w):IsMin b (fun x=>P x∨P' x) w:=by
 obtain ⟨a1,b1,c1⟩:=h1
 obtain ⟨a2,b2,c2⟩:=h2
 refine ⟨?_,by omega,fun x hx=>?_⟩
 · rcases a2 with rfl | h
   · exact a1.imp id .inl
   · exact .inr (.inr h)
 · rcases hx with h | h
   · have:=c1 x h; omega
   · exact c2 x h
theorem IsMin.congr {b v:Nat} {P P' : Nat→Prop} (h1:IsMin b P v) (h : ∀ x,P x↔P' x):IsMin b P' v :=
 ⟨h1.1.imp id (h v).1,h1.2.1,fun w hw=>h1.2.2 w ((h w).2 hw)⟩
theorem IsMin.skip {b:Nat} {P:Nat→Prop} (h : ∀ w,P w→b≤w):IsMin b P b:=⟨.inl rfl,Nat.le_refl _,h⟩
def okRow (g:Nat→Nat) (n i r:Nat):Prop:=r<2 ^ n∧r.testBit i=true∧∀ b,b≠i→r.testBit b=true→(g i).testBit b=true
def Cm (g:Nat→Nat) (n:Nat):Nat→Nat→List Nat→Prop
 | 0,_,c=>c=[]
 | k+1,i,c=>∃ r d,c=r::d∧okRow g n i r∧Cm g n k (i+1) d
def Rk (g:Nat→Nat) (n k i:Nat) (R:List Nat) (w:Nat):Prop:=∃ c,Cm g n k i c∧w=dim n (R++c)
theorem S_app2 {l m:List Nat} (h : ∀ y,S l y=S m y) (c:List Nat) (y:Nat):S (l++c) y=S (m++c) y:=by
 have key : ∀ {l m:List Nat},(∀ y,S l y=S m y)→∀ x∈l++c,S (m++c) x=true:=by
  intro l m h x hx
  rcases List.mem_append.1 hx with hx | hx
  · have h1:S m x=true:=by rw [← h]; exact S_mem hx
    exact S_sub (fun z hz=>S_mem (List.mem_append_left _ hz)) h1
  · exact S_mem (List.mem_append_right _ hx)
 exact S_eq (key h) (key fun y=>(h y).symm) y
theorem Rk.congr {g:Nat→Nat} {n k i:Nat} {R R' : List Nat} (h : ∀ y,S R y=S R' y) (w:Nat):Rk g n k i R w↔Rk g n k i R' w:=by
 constructor
 · rintro ⟨c,hc,e⟩; exact ⟨c,hc,by rw [e,dim_congr (S_app2 h c)]⟩
 · rintro ⟨c,hc,e⟩; exact ⟨c,hc,by rw [e,dim_congr (S_app2 h c)]⟩
theorem Rk.zero {g:Nat→Nat} {n i:Nat} {R:List Nat} (w:Nat):Rk g n 0 i R w↔w=dim n R:=by
 constructor
 · rintro ⟨c,hc,e⟩; rw [Cm] at hc; subst hc; rw [List.append_nil] at e; exact e
 · intro e; exact ⟨[],rfl,by rw [List.append_nil]; exact e⟩
theorem Rk.succ {g:Nat→Nat} {n k i:Nat} {R:List Nat} (w:Nat):Rk g n (k+1) i R w↔∃ r,okRow g n i r∧Rk g n k (i+1) (R++[r]) w:=by
 constructor
 · rintro ⟨c,⟨r,d,rfl,h1,h2⟩,e⟩
   exact ⟨r,h1,d,h2,by rw [e,List.append_assoc]; rfl⟩
 · rintro ⟨r,h1,d,h2,e⟩
   exact ⟨r::d,⟨r,d,rfl,h1,h2⟩,by rw [e,List.append_assoc]; rfl⟩
theorem Rk.ge {g:Nat→Nat} {n k i:Nat} {R:List Nat} {w:Nat} (h:Rk g n k i R w):dim n R≤w:=by
 obtain ⟨c,_,rfl⟩:=h
 exact dim_mono fun y hy=>S_sub (fun z hz=>S_mem (List.mem_append_left _ hz)) hy
end Rn
namespace Rn
open Sr
end Rn
namespace Go.Proofs.Tryd.Am
open Go.Am
set_option maxRecDepth 100000
end Go.Proofs.Tryd.Am
namespace Go.Proofs.Tryd.Am
open Go.Am Sr
set_option maxRecDepth 100000
set_option maxHeartbeats 1000000
def swL (L:List Nat) (j:Nat):List Nat:=(L.set j (L.getD (j-1) 0)).set (j-1) (L.getD j 0)
theorem swL_get {L:List Nat} {j:Nat} (h1:1≤j) (h2:j<L.length) (t:Nat):(swL L j).getD t 0=if t=j-1 then L.getD j 0 else if t=j then L.getD (j-1) 0 else L.getD t 0:=by
 rw [swL,getD_setN (by rw [List.length_set]; omega),getD_setN h2]
def SrtTo (L:List Nat) (i:Nat):Prop:=∀ p q,p<q→q<i→L.getD q 0≤L.getD p 0
def SrtBut (L:List Nat) (i j:Nat):Prop:=∀ p q,p<q→q≤i→q≠j→L.getD q 0≤L.getD p 0
theorem SrtBut.step {L:List Nat} {i j:Nat} (h:SrtBut L i j) (h1:1≤j) (h2:j<L.length) (hj:j≤i) (hlt:L.getD (j-1) 0<L.getD j 0):SrtBut (swL L j) i (j-1):=by
 intro p q hpq hq hne
 rw [swL_get h1 h2,swL_get h1 h2,if_neg hne]
 by_cases hqj:q=j
 · rw [if_pos hqj]
   by_cases hp:p=j-1
   · rw [if_pos hp]; omega
   · rw [if_neg hp,if_neg (by omega)]
     exact h p (j-1) (by omega) (by omega) (by omega)
 · rw [if_neg hqj]
   by_cases hp:p=j-1
   · rw [if_pos hp]; exact h j q (by omega) hq hqj
   · rw [if_neg hp]
     by_cases hpj:p=j
     · rw [if_pos hpj]; exact h (j-1) q (by omega) hq hqj
     · rw [if_neg hpj]; exact h p q hpq hq hqj
theorem SrtBut.done {L:List Nat} {i j:Nat} (h:SrtBut L i j) (hj:j=0∨L.getD j 0≤L.getD (j-1) 0):SrtTo L (i+1):=by
 intro p q hpq hq
 by_cases hqj:q=j
 · subst hqj
   rcases hj with hj | hj
   · omega
   · by_cases hp:p=q-1
     · subst hp; exact hj
     · exact Nat.le_trans hj (h p (q-1) (by omega) (by omega) (by omega))
 · exact h p q hpq (by omega) hqj
theorem SrtTo.pw {L:List Nat} (h:SrtTo L L.length):L.Pairwise fun a b=>b≤a:=by
 rw [List.pairwise_iff_getElem]
 intro i j hi hj hij
 have:=h i j hij hj
 rw [List.getD,List.getD,List.getElem?_eq_getElem hi,List.getElem?_eq_getElem hj] at this
 exact this
abbrev ov (b n m:Nat):Value:=.slice (some ⟨b,0,some 0⟩) n (n+m)
end Go.Proofs.Tryd.Am
namespace Go.Proofs.Tryd.Am
open Go.Am Sr
set_option maxRecDepth 100000
set_option maxHeartbeats 1000000
end Go.Proofs.Tryd.Am
namespace Go.Proofs.Tryd.Am
open Go.Am Sr
set_option maxRecDepth 100000
set_option maxHeartbeats 1000000
def SpSl (h:Zi) (v:Value) (B:List Nat):Prop:=(v = .slice none 0 0∧B=[])∨(B≠[]∧IntSl h v (iL B))
theorem SpSl.int {h:Zi} {v:Value} {B:List Nat} (hv:SpSl h v B):IntSl h v (iL B):=by
 rcases hv with ⟨rfl,rfl⟩ | ⟨_,h⟩
 · exact .inl ⟨rfl,rfl⟩
 · exact h
theorem SpSl.ext {h h' : Zi} {v:Value} {B:List Nat} (hv:SpSl h v B) (hE:Ext (fun _=>False) h h'):SpSl h' v B:=hv.imp id fun h=>⟨h.1,Xk h.2 hE⟩
theorem getD_mem {B:List Nat} {j:Nat} (hj:j<B.length):B.getD j 0∈B:=by
 rw [List.getD,List.getElem?_eq_getElem hj]; exact List.getElem_mem hj
end Go.Proofs.Tryd.Am
namespace Go.Proofs.Tryd.Am
open Go.Am Sr
set_option maxRecDepth 100000
set_option maxHeartbeats 1000000
structure FH (h:Zi) (gv:Value) (bb bg bx bf:Nat):Prop where
 g:h[bg]? = some (.cells [gv] 22 false)
 x:h[bx]? = some (.cells [gv] 56 false)
 f:h[bf]? = some (.cells [.func (.func 74) #[] #[pt bb,pt bg,pt bx,pt bf]] 75 false)
 ng:bg≠bb
 nx:bx≠bb
 nf:bf≠bb
theorem FH.ext {h h' : Zi} {gv:Value} {bb bg bx bf:Nat} (f:FH h gv bb bg bx bf) (hE:Ext (fun i=>i=bb) h h'):FH h' gv bb bg bx bf :=
 { f with g:=(hE.2 _ (Yb f.g) f.ng).trans f.g,x:=(hE.2 _ (Yb f.x) f.nx).trans f.x,f:=(hE.2 _ (Yb f.f) f.nf).trans f.f }
end Go.Proofs.Tryd.Am
namespace Go.Proofs.Tryd.Am
open Go.Am Sr
set_option maxRecDepth 100000
set_option maxHeartbeats 1000000
def c5 (L:Nat→Nat):List Value:=(List.range 5).map fun i=>Zd (L i:Nat)
def upd (L:Nat→Nat) (i x:Nat):Nat→Nat:=fun t=>if t=i then x else L t
section
variable {h:Zi} {b i:Nat} {L:Nat→Nat}
end
abbrev H5 (h:Zi) (L:Nat→Nat):Zi:=h++[.cells (c5 L) 77 false]
end Go.Proofs.Tryd.Am
namespace Go.Proofs.Tryd.Am
open Go.Am Sr
set_option maxRecDepth 100000
set_option maxHeartbeats 1000000
end Go.Proofs.Tryd.Am
namespace Go.Proofs.Tryd.Am
open Go.Am Sr
end Go.Proofs.Tryd.Am
namespace Go.Proofs.Tryd.Am
open Go.Am
set_option maxRecDepth 100000
end Go.Proofs.Tryd.Am
namespace Go.Proofs.Tryd.Am
open Go.Am Sr
set_option maxRecDepth 100000
set_option maxHeartbeats 4000000
theorem take_min {α:Type} (l:List α) (k:Nat):l.take (min l.length k)=l.take k:=by
 by_cases h:l.length≤k
 · rw [Nat.min_eq_left h,List.take_length,List.take_of_length_le h]
 · rw [Nat.min_eq_right (by omega)]
theorem min9 (n:Nat):(if (9:Int)<n then 9 else (n:Int))=((min n 9:Nat):Int):=by split <;> omega
theorem cloneF_call [Tabs prog] {h:Zi} {v:Value} {ps:List (Int×Int)} (hv:PairSl h v ps) (hl:ps.length<1099511627776):ACall prog 39 [v] h fun r h'=>PairSl h' r ps∧Ext (fun _=>False) h h':=by
 refine s39_call (by simp) ?_
 have hv':=hv
 rcases hv with ⟨rfl,rfl⟩ | ⟨b,o,sp,cap,c,e,ro,rfl,hc,hb,hx⟩
 · simp (maxSteps:=2000000) only [s39,↓Za,↓Zl,↓Zw,↓Zb,↓Zc,↓vdn,vup,cond_true,cond_false,aop,Zf,Zs,ev,sput,Ze,Zx,Nat.reduceBEq,Zt,Xi,tup,tyf,Option.isSome_some]
   exact ⟨.inl ⟨rfl,rfl⟩,Ext.refl _ _⟩
 · simp (maxSteps:=2000000) only [s39,↓Za,↓Zn,↓Zl,↓Zw,↓Zb,↓Zc,↓vdn,vup,List.map_cons,List.map_nil,cond_true,cond_false,aop,Zf,Zs,ev,sput,Ze,Zx,Zj,Nat.reduceBEq,Zt,Xi,tup,tyf,Option.isSome_some]
   simp only [Yl,el_50,zero_44,esz_44,reps,Vi,mkb,Xa]
   refine And.intro rfl (And.intro (by decide) (And.intro (Nat.zero_le _) ?_))
   refine (hv'.grow [.ints [] 44 false]).copy app_50_50 hl (by rw [List.getElem?_append_right (Nat.le_refl _)]; simp) ?_
   intro r g hr
   exact ⟨hr,by rw [List.append_assoc]; exact Ext.app _ _ _⟩
theorem clone_det [Tabs prog] {h:Zi} {v:Value} {xs:List Int} (hv:IntSl h v xs) (hx:xs≠[]) (hl:xs.length<1099511627776):ADet prog 26 [v] h (.slice (some ⟨h.length+1,0,some 0⟩) xs.length xs.length) (h++[.ints [] 3 false]++[.ints xs 3 false]):=by
 refine s26_call (by simp) ?_
 have hv':=hv
 rcases hv with ⟨rfl,rfl⟩ | ⟨b,o,sp,cap,c,e,ro,rfl,hc,hb,_⟩
 · exact absurd rfl hx
 · simp (maxSteps:=2000000) only [s26,↓Za,↓Zn,↓Zl,↓Zw,↓Zb,↓Zc,↓vdn,vup,List.map_cons,List.map_nil,cond_true,cond_false,aop,Zf,Zs,ev,sput,Ze,Zx,Zj,Nat.reduceBEq,Zt,Xi,tup,tyf,Option.isSome_some]
   simp only [Yl,Xv,zero_3,Xg,reps,Vi,mkb,Xa]
   refine And.intro rfl (And.intro Nat.zero_lt_one (And.intro (Nat.zero_le _) ?_))
   refine (hv'.grow [.ints [] 3 false]).copyOwn hx app_22_22 hl (by rw [List.getElem?_append_right (Nat.le_refl _)]; simp) ?_
   exact ⟨by simp,rfl⟩
end Go.Proofs.Tryd.Am
namespace Go.Proofs.Tryd.Am
open Go.Am
set_option maxRecDepth 100000
/-! 9: planchet planchetlaw05.SureWeighs -/
@[reducible] def q9_0:SCode:=.region [⟨some 4,.assign (.const (.bool false)),none⟩]
@[reducible] def q9_1:SCode:=.region [⟨some 10,.move (.tmp 0),none⟩,
  ⟨some 11,.call { callee:=.value (.func 18),args:=#[.tmp 10],argTypes:=#[22] },none⟩,
  ⟨some 12,.call { callee:=.value (.func 35),args:=#[.tmp 11],argTypes:=#[22] },none⟩,
  ⟨some 9,.move (.tmp 12),none⟩,
  ⟨some 13,.extract (.tmp 9) 0,none⟩,
  ⟨some 14,.extract (.tmp 9) 1,none⟩,
  ⟨some 5,.alloc 44,none⟩,
  ⟨none,.store 44 (.tmp 5) (.tmp 13),none⟩,
  ⟨some 6,.assign (.tmp 14),none⟩]
def q9_2:SCode:=.draw [⟨some 16,.move (.tmp 0),none⟩,
    ⟨some 17,.call { callee:=.value (.func 18),args:=#[.tmp 16],argTypes:=#[22] },none⟩,
    ⟨some 18,.move (.tmp 1),none⟩,
    ⟨some 19,.move (.tmp 1),none⟩,
    ⟨some 20,.call { callee:=.builtin .len,args:=#[.tmp 19],argTypes:=#[50] },none⟩,
    ⟨some 21,.call { callee:=.builtin .min,args:=#[.tmp 20,.const (.int .i64 9)],argTypes:=#[3,3] },none⟩,
    ⟨some 22,.slice 50 (.tmp 18) none (some (.tmp 21)) none,none⟩,
    ⟨some 23,.call { callee:=.value (.func 39),args:=#[.tmp 22],argTypes:=#[50] },none⟩,
    ⟨some 24,.call { callee:=.value (.func 38),args:=#[.tmp 17,.tmp 23],argTypes:=#[22,50] },none⟩,
    ⟨some 15,.move (.tmp 24),none⟩,
    ⟨some 25,.extract (.tmp 15) 0,none⟩,
    ⟨some 26,.extract (.tmp 15) 1,none⟩,
    ⟨some 7,.assign (.tmp 25),none⟩,
    ⟨some 8,.assign (.tmp 26),none⟩]
  [[],[0],[],[],[3],[4],[2,5],[6,1],[1,7,7],[8],[9],[9],[10,8,0,1,2,3,4,5,6,7,8,9,10],[11,12,0,1,2,3,4,5,6,7,8,9,10,11,12]]
@[reducible] def q9_3:SCode:=.region [⟨some 27,.move (.tmp 0),none⟩,
  ⟨some 28,.call { callee:=.value (.func 20),args:=#[.tmp 27],argTypes:=#[22] },none⟩,
  ⟨some 29,.unOp .not 4 (.tmp 28),none⟩]
@[reducible] def q9_4:SCode:=.region [⟨some 30,.load 44 (.tmp 5),none⟩,
  ⟨some 31,.call { callee:=.value (.func 40),args:=#[.tmp 30],argTypes:=#[44] },none⟩,
  ⟨some 32,.move (.tmp 31),none⟩,
  ⟨some 33,.move (.tmp 7),some (32,true)⟩,
  ⟨some 34,.unOp .not 4 (.tmp 33),some (32,true)⟩,
  ⟨some 35,.pick (.tmp 32) (.tmp 34) (.const (.bool false)),none⟩,
  ⟨some 36,.move (.tmp 35),none⟩,
  ⟨some 37,.move (.tmp 6),some (36,true)⟩,
  ⟨some 38,.binOp .eql 23 (.tmp 37) (.const (.int .i64 2)) 23,some (36,true)⟩,
  ⟨some 39,.pick (.tmp 36) (.tmp 38) (.const (.bool false)),none⟩,
  ⟨some 40,.move (.tmp 39),none⟩,
  ⟨some 41,.move (.tmp 8),some (40,true)⟩,
  ⟨some 42,.binOp .eql 23 (.tmp 41) (.const (.int .i64 2)) 23,some (40,true)⟩,
  ⟨some 43,.pick (.tmp 40) (.tmp 42) (.const (.bool false)),none⟩,
  ⟨some 44,.move (.tmp 43),none⟩,
  ⟨some 45,.call { callee:=.value (.func 21),args:=#[],argTypes:=#[] },some (44,true)⟩,
  ⟨some 46,.pick (.tmp 44) (.tmp 45) (.const (.bool false)),none⟩,
  ⟨some 4,.assign (.tmp 46),none⟩]
def q9_5:SCode:=.draw [⟨some 47,.load 44 (.tmp 5),none⟩,
    ⟨some 48,.move (.tmp 0),none⟩,
    ⟨some 49,.call { callee:=.value (.func 41),args:=#[.tmp 48],argTypes:=#[22] },none⟩,
    ⟨some 50,.binOp .neq 44 (.tmp 47) (.tmp 49) 44,none⟩,
    ⟨some 51,.move (.tmp 50),none⟩,
    ⟨some 52,.move (.tmp 6),some (51,false)⟩,
    ⟨some 53,.binOp .neq 23 (.tmp 52) (.const (.int .i64 0)) 23,some (51,false)⟩,
    ⟨some 54,.pick (.tmp 51) (.const (.bool true)) (.tmp 53),none⟩,
    ⟨some 55,.move (.tmp 54),none⟩,
    ⟨some 56,.call { callee:=.value (.func 21),args:=#[],argTypes:=#[] },some (55,false)⟩,
    ⟨some 57,.unOp .not 4 (.tmp 56),some (55,false)⟩,
    ⟨some 58,.pick (.tmp 55) (.const (.bool true)) (.tmp 57),none⟩]
  [[],[],[1],[0,2],[3,2],[4],[5,4],[4,6],[7,4],[8,8],[9,8],[8,10]]
@[reducible] def q9_6:SCode:=.region [⟨some 4,.assign (.const (.bool false)),none⟩]
@[reducible] def q9_7:SCode:=.region [⟨some 59,.move (.tmp 0),none⟩,
  ⟨some 60,.move (.tmp 1),none⟩,
  ⟨some 61,.call { callee:=.value (.func 42),args:=#[.tmp 59,.tmp 60],argTypes:=#[22,50] },none⟩,
  ⟨some 62,.unOp .not 4 (.tmp 61),none⟩]
@[reducible] def q9_8:SCode:=.region [⟨some 63,.move (.tmp 7),none⟩,
  ⟨some 64,.unOp .not 4 (.tmp 63),none⟩,
  ⟨some 65,.move (.tmp 64),none⟩,
  ⟨some 66,.move (.tmp 8),some (65,true)⟩,
  ⟨some 67,.binOp .eql 23 (.tmp 66) (.const (.int .i64 2)) 23,some (65,true)⟩,
  ⟨some 68,.pick (.tmp 65) (.tmp 67) (.const (.bool false)),none⟩,
  ⟨some 4,.assign (.tmp 68),none⟩]
@[reducible] def q9_9:SCode:=.region [⟨some 69,.move (.tmp 7),none⟩,
  ⟨some 70,.move (.tmp 0),none⟩,
  ⟨some 71,.move (.tmp 1),none⟩,
  ⟨some 72,.call { callee:=.value (.func 43),args:=#[.tmp 70,.tmp 71],argTypes:=#[22,50] },none⟩,
  ⟨some 73,.binOp .eql 4 (.tmp 69) (.tmp 72) 4,none⟩,
  ⟨some 74,.move (.tmp 73),none⟩,
  ⟨some 75,.move (.tmp 8),some (74,true)⟩,
  ⟨some 76,.binOp .eql 23 (.tmp 75) (.const (.int .i64 0)) 23,some (74,true)⟩,
  ⟨some 77,.pick (.tmp 74) (.tmp 76) (.const (.bool false)),none⟩,
  ⟨some 4,.assign (.tmp 77),none⟩]
def s9:SCode:=(.seq q9_0 (.seq q9_1 (.seq q9_2 (.seq (.seq q9_3 (.cond (.tmp 29) (.seq q9_4 .ret) .skip)) (.seq (.seq q9_5 (.cond (.tmp 58) (.seq q9_6 .ret) .skip)) (.seq (.seq q9_7 (.cond (.tmp 62) (.seq q9_8 .ret) .skip)) (.seq q9_9 .ret)))))))
theorem s9_strip:Zz (Zy Tryd.f9)=s9:=by kernel_rfl
theorem s9_ok:Yo 78 (Zy Tryd.f9)=true:=by kernel_rfl
end Go.Proofs.Tryd.Am
namespace Go.Proofs.Tryd.Am
open Go.Am Sr
set_option maxRecDepth 100000
set_option maxHeartbeats 8000000
theorem clone_detE [Tabs prog] {h:Zi} {b o cap:Nat} {sp:Option Nat}:ADet prog 26 [.slice (some ⟨b,o,sp⟩) 0 cap] h (.slice (some ⟨h.length,0,none⟩) 0 0) (h++[.ints [] 3 false]):=by
 refine s26_call (by simp) ?_
 simp (maxSteps:=2000000) only [s26,↓Za,↓Zn,↓Zl,↓Zw,↓Zb,↓Zc,↓vdn,vup,List.map_cons,List.map_nil,cond_true,cond_false,aop,Zf,Zs,ev,sput,Ze,Zx,Zj,Nat.reduceBEq,Zt,Xi,tup,tyf,Option.isSome_some]
 simp only [Yl,Xv,zero_3,Xg,reps,Vi,mkb,Xa]
 refine And.intro rfl (And.intro Nat.zero_lt_one (And.intro (Nat.zero_le _) ?_))
 simp [Yw,app_22_22,elemsK,Xr,putK]
theorem list_detE [Tabs prog] {h:Zi} {v:Value} {xs:List Int} (hv:IntSl h v xs) (hl:xs.length<9223372036854775808) : ∃ r g,ADet prog 18 [v] h r (h++g)∧IntSl (h++g) r (xs.take 80):=by
 by_cases hx:xs=[]
 · subst hx
   have hv':=hv
   rcases hv with ⟨rfl,-⟩ | ⟨b,o,sp,cap,c,e,ro,rfl,hc,hb,-⟩
   · refine ⟨.slice none 0 0,[],?_,.inl ⟨rfl,rfl⟩⟩
     rw [List.append_nil]
     refine s18_call (by simp) ?_
     simp (maxSteps:=2000000) only [s18,↓Za,↓Zl,↓Zw,↓Zb,↓Zc,vup,List.map_cons,List.map_nil,cond_true,cond_false,aop,Zf,Zs,ev,sput,Ze,Zj,Nat.reduceBEq,Zt,Xi,tup,tyf,hv'.len,mmK,Bool.false_eq_true,if_false,gt_iff_lt,min80,Option.map_none,Option.map_some]
     simp only [Xe,Xv,Xg,bnd,List.length_nil,Nat.zero_min,Option.bind_some,Option.isSome_some]
     refine ⟨trivial,rfl,rfl,rfl,?_⟩
     simp (maxSteps:=2000000) only [Yt,List.nil_append,List.append_nil]
     refine s26_call (by simp) ?_
     simp (maxSteps:=2000000) only [s26,↓Za,↓Zl,↓Zw,↓Zb,↓Zc,↓vdn,vup,cond_true,cond_false,aop,Zf,Zs,ev,sput,Ze,Zx,Nat.reduceBEq,Zt,Xi,tup,tyf,Option.isSome_some]
   · refine ⟨.slice (some ⟨h.length,0,none⟩) 0 0,[.ints [] 3 false],?_,.inr ⟨h.length,0,none,0,[],3,false,rfl,Nat.le_refl _,by simp [view,Blk.view],fun i hi=>absurd hi (Nat.not_lt_zero i)⟩⟩
     refine s18_call (by simp) ?_
     simp (maxSteps:=2000000) only [s18,↓Za,↓Zl,↓Zw,↓Zb,↓Zc,vup,List.map_cons,List.map_nil,cond_true,cond_false,aop,Zf,Zs,ev,sput,Ze,Zj,Nat.reduceBEq,Zt,Xi,tup,tyf,hv'.len,mmK,Bool.false_eq_true,if_false,gt_iff_lt,min80,Option.map_none,Option.map_some]
     simp only [Xe,Xv,Xg,bnd,List.length_nil,Nat.zero_min]
     refine ⟨by omega,by omega,by omega,fun _=>?_,fun _=>.inl ⟨rfl,?_⟩⟩ <;>
     · simp (maxSteps:=2000000) only [Yt,List.nil_append,List.append_nil]
       exact clone_detE
 · have hne:xs.take 80≠[]:=fun h=>hx (by
    have:=congrArg List.length h
    rw [List.length_take,List.length_nil] at this
    exact List.length_eq_zero_iff.1 (by omega))
   have ht:(xs.take 80).length≤80:=by rw [List.length_take]; omega
   refine ⟨.slice (some ⟨h.length+1,0,some 0⟩) (xs.take 80).length (xs.take 80).length,[.ints [] 3 false,.ints (xs.take 80) 3 false],?_,?_⟩
   · rw [show h++[Blk.ints [] 3 false,.ints (xs.take 80) 3 false]=h++[.ints [] 3 false]++[.ints (xs.take 80) 3 false] by simp]
     refine s18_call (by simp) ?_
     simp (maxSteps:=2000000) only [s18,↓Za,↓Zl,↓Zw,↓Zb,↓Zc,vup,List.map_cons,List.map_nil,cond_true,cond_false,aop,Zf,Zs,ev,sput,Ze,Zj,Nat.reduceBEq,Zt,Xi,tup,tyf,hv.len,mmK,Bool.false_eq_true,if_false,gt_iff_lt,min80,Option.map_none,Option.map_some]
     refine hv.pre Xv Xg (Nat.min_le_left _ _) ?_
     intro v' hv'
     rw [take_min] at hv'
     simp (maxSteps:=2000000) only [Yt,List.nil_append,List.append_nil]
     exact clone_det hv' hne (by omega)
   · rw [show h++[Blk.ints [] 3 false,.ints (xs.take 80) 3 false]=h++[.ints [] 3 false]++[.ints (xs.take 80) 3 false] by simp]
     exact fresh_rsi.1.int
theorem none_call [Tabs prog] {h:Zi} {x y:Int}:ACall prog 40 [frV x y] h fun r h'=>Ext (fun _=>False) h h'∧r = .bool ([x,y]==[0,0]):=by
 refine s40_call (by simp) ?_
 simp only [s40,frV]
 simp (maxSteps:=2000000) only [↓Za,↓Zl,↓Zw,↓Zb,↓Zc,vup,List.map_nil,cond_true,cond_false,aop,Zf,Zs,ev,sput,Ze,Zx,Ya,Nat.reduceBEq,Nat.reduceAdd,Zt,Xi,tup,boxF,Yy,Wk (Yk h _),bldF0,Xa,Option.map_some,List.length_cons,List.length_nil,Nat.zero_add,eqF]
 exact Ext.app _ _ _
theorem none_call0 [Tabs prog] {h:Zi}:ACall prog 40 [.agg #[Zd 0,Zd 0]] h fun r h'=>Ext (fun _=>False) h h'∧r = .bool true:=(none_call (x:=0) (y:=0)).mono fun r h' ⟨a,b⟩=>⟨a,by rw [b]; rfl⟩
theorem okL_take (xs:List Int) (ps:List (Int×Int)):okL (xs.take 80) (ps.take 9)=okL xs ps∧(okL xs ps=true→xs.take 80=xs∧ps.take 9=ps):=by
 cases hg:grs xs with
 | false =>
   have e1:okL xs ps=false:=by rw [okL,hg,Bool.false_and]
   have e2:okL (xs.take 80) (ps.take 9)=false:=by rw [okL,grs_take,hg,Bool.false_and]
   rw [e1,e2]
   exact ⟨rfl,fun h=>by cases h⟩
 | true =>
   have h6:=(grs_iff.1 hg).2.1
   have hs:=grs_same hg
   rw [hs]
   by_cases h9:ps.length≤9
   · rw [List.take_of_length_le h9]
     exact ⟨rfl,fun _=>⟨rfl,rfl⟩⟩
   · have e1:okL xs ps=false:=by rw [okL,decide_eq_false (show ¬ ps.length=xs.length by omega),Bool.false_and,Bool.and_false]
     have e2:okL xs (ps.take 9)=false:=by rw [okL,decide_eq_false (show ¬ (ps.take 9).length=xs.length by rw [List.length_take]; omega),Bool.false_and,Bool.and_false]
     rw [e1,e2]
     exact ⟨rfl,fun h=>by cases h⟩
theorem lightV_take (xs:List Int) (ps:List (Int×Int)) : ∃ (lb:Bool) (le:Int),lightV (xs.take 80) (ps.take 9) = .tuple #[.bool lb,.int .i64 le]∧((okL xs ps=false∧lb=false∧le=2)∨(okL xs ps=true∧lb=Vg xs ps∧le=0)):=by
 obtain ⟨h1,h2⟩:=okL_take xs ps
 cases hok:okL xs ps with
 | false=>exact ⟨false,2,by rw [lightV,h1,hok,if_neg (by decide)],.inl ⟨rfl,rfl,rfl⟩⟩
 | true =>
   obtain ⟨e1,e2⟩:=h2 hok
   exact ⟨Vg xs ps,0,by rw [e1,e2,lightV,hok,if_pos rfl],.inr ⟨rfl,rfl,rfl⟩⟩
end Go.Proofs.Tryd.Am
namespace Go.Proofs.Tryd.Am
open Go.Am Sr
set_option maxRecDepth 100000
set_option maxHeartbeats 8000000
theorem s9_callW [Tabs Tryd.prog] {args:List Value} {h:Zi} {Q:Value→Zi→Prop} (hsz:args.length≤78) (hk:AWS Tryd.prog 78 s9 (Zt Tryd.prog [.tmp 4] Q) (Zs 0 args) h):ACall Tryd.prog 9 args h Q :=
 Xd Tryd.func9 rfl (enters_of Tryd.func9 (by kernel_rfl) rfl) rfl rfl (by decide) s9_strip s9_ok hsz hk
theorem law_weighs [BitTab prog 0] {h:Zi} {v w:Value} {xs:List Int} {ps:List (Int×Int)} (hv:IntSl h v xs) (hl:xs.length<9223372036854775808) (hx : ∀ x∈xs,-9223372036854775808≤x∧x<9223372036854775808)
  (hw:PairSl h w ps) (hwl:ps.length<9223372036854775808):ACall prog 9 [v,w] h fun r _=>r = .bool true:=by
 have e00:((0:Int)==0)=true:=rfl
 have e22:((2:Int)==2)=true:=rfl
 have e20:((2:Int)==0)=false:=rfl
 have n00:((0:Int) != 0)=false:=rfl
 refine s9_callW (by simp) ?_
 simp only [s9]
 refine Zg fun N1 hN1=>?_
 simp (maxSteps:=2000000) only [↓Za,↓Zb,↓Zc,vup,cond_false,aop,Zf,Zs,ev,sput,Ze,Nat.reduceBEq,Nat.reduceAdd]
 refine hN1 [(0,v),(1,w),(4,.bool false)] _ _ ?_ (by simp (maxSteps:=2000000) only [vup,cond_true,cond_false,Nat.reduceBEq])
 clear hN1
 try clear N1
 refine Zg fun N2 hN2=>?_
 simp (maxSteps:=2000000) only [↓Za,↓Zb,↓Zc,vup,List.map_cons,List.map_nil,cond_true,cond_false,aop,Zf,ev,sput,Ze,Nat.reduceBEq,Yt,List.nil_append,List.append_nil]
 refine (list_call hv hl).mono ?_
 rintro l1 _ ⟨hl1,g1,rfl⟩
 refine (weigh_call hl1 (take80_len xs) (take80_rng hx)).mono ?_
 rintro r1 h1 ⟨hE1,hr1⟩
 have hr1:=weighR_take hr1 (grs_take xs) grs_same
 obtain ⟨px,py,e1,rfl,hf1⟩ : ∃ x y e,r1 = .tuple #[.agg #[Zd x,Zd y],.int .i64 e]∧((grs xs=false∧e=2∧x=0∧y=0)∨(grs xs=true∧e=0∧∃ q:Rat,x=q.num∧y=q.den∧WQ xs q)):=by
  cases hg:grs xs with
  | false=>rw [weighR,hg,if_neg (by decide)] at hr1; exact ⟨0,0,2,hr1,.inl ⟨rfl,rfl,rfl,rfl⟩⟩
  | true =>
    rw [weighR,hg,if_pos rfl] at hr1
    obtain ⟨q,a,b⟩:=hr1
    exact ⟨q.num,q.den,0,a,.inr ⟨rfl,rfl,q,rfl,rfl,b⟩⟩
 simp (maxSteps:=2000000) only [extr_20,extr_21,tyf,Xn,Yy,newF]
 have hE01:=((Ext.app (fun _=>False) h g1).trans hE1).trans (Ext.app _ _ [Blk.cells [Zd px,Zd py] 44 false])
 have c5:=Yk h1 (Blk.cells [Zd px,Zd py] 44 false)
 generalize h1++[Blk.cells [Zd px,Zd py] 44 false]=H1 at hE01 c5 ⊢
 generalize h1.length=b5 at c5 ⊢
 refine hN2 [(0,v),(1,w),(4,.bool false),(5,pT b5),(6,.int .i64 e1)] _ _ ?_ (by simp (maxSteps:=2000000) only [vup,cond_true,cond_false,Nat.reduceBEq])
 clear hN2
 try clear N2
 have hv1:=Xk hv hE01
 have hw1:=hw.ext hE01
 obtain ⟨l2,g2,hld,hl2⟩:=list_detE hv1 hl
 refine Zg fun N3 hN3=>?_
 refine Xo [(7,4),(8,4)] (by kernel_rfl) (by kernel_rfl) (by kernel_rfl) (by kernel_rfl) ?_
 simp (maxSteps:=2000000) only [↓Yn,↓vdn,vup,List.map_cons,List.map_nil,cond_true,cond_false,aop,Zf,ev,sput,Ze,Zj,Nat.reduceBEq,Nat.reduceAdd,tyf,Yt,List.nil_append,List.append_nil]
 refine ⟨_,_,hld,?_⟩
 have hE12:Ext (fun _=>False) H1 (H1++g2):=Ext.app _ _ _
 generalize H1++g2=H2 at hE12 hl2 ⊢
 have hw2:=hw1.ext hE12
 simp (maxSteps:=2000000) only [vup,cond_true,cond_false,ev,Nat.reduceBEq,hw2.len,mmK,Bool.false_eq_true,if_false,gt_iff_lt,min9,Option.map_none,Option.map_some]
 refine hw2.pre el_50 esz_44 (Nat.min_le_left _ _) fun w3 hw3=>?_
 rw [take_min] at hw3
 refine (cloneF_call hw3 (by rw [List.length_take]; omega)).mono ?_
 rintro w4 H4 ⟨hw4,hE24⟩
 refine (light_call (Xk hl2 hE24) (take80_len xs) (take80_rng hx) hw4 (by rw [List.length_take]; omega)).mono ?_
 rintro r5 H5 ⟨hE45,rfl⟩
 have hE15:=(hE12.trans hE24).trans hE45
 have hv5:=Xk hv1 hE15
 have hw5:=hw1.ext hE15
 have d5:=(hE15.2 _ (Yb c5) id).trans c5
 clear hE01 hE1 hl1 hw1 hv1 c5 hw2 hw3 hw4 hE12 hE24 hE45 hl2 hld hE15
 obtain ⟨lb,le,hle,hbb⟩:=lightV_take xs ps
 rw [hle]
 simp (maxSteps:=2000000) only [extr_20,extr_21]
 refine hN3 [(0,v),(1,w),(4,.bool false),(5,pT b5),(6,.int .i64 e1),(7,.bool lb),(8,.int .i64 le)] _ _ ?_ (by simp (maxSteps:=2000000) only [vup,cond_true,cond_false,Nat.reduceBEq])
 clear hN3
 try clear N3
 refine Zo fun A hA=>?_
 refine Zg fun N4 hN4=>?_
 simp (maxSteps:=2000000) only [↓Za,↓Zb,↓Zc,vup,List.map_cons,List.map_nil,cond_true,cond_false,aop,Zf,ev,sput,Ze,unK,Nat.reduceBEq,Yt,List.nil_append,List.append_nil]
 refine (rgraph_call hv5 hl hx).mono ?_
 rintro _ H5 ⟨rfl,rfl⟩
 rcases hf1 with ⟨hg,rfl,rfl,rfl⟩ | ⟨hg,rfl,q,rfl,rfl,hq⟩
 · obtain ⟨rfl,rfl⟩:lb=false∧le=2:=by
    rcases hbb with h | h
    · exact h.2
    · have:=h.1
      rw [okL,hg,Bool.false_and] at this; cases this
   simp (maxSteps:=2000000) only [vup,hg]
   refine hN4 [(0,v),(1,w),(4,.bool false),(5,pT b5),(6,.int .i64 2),(7,.bool false),(8,.int .i64 2),(29,.bool true)] _ _ ?_ (by simp (maxSteps:=2000000) only [vup,cond_true,cond_false,Nat.reduceBEq])
   clear hN4
   try clear N4
   refine Yp rfl ?_
   refine Zg fun N5 hN5=>?_
   simp only [q9_4]
   refine Xz 2 fun N1 hN1=>?_
   simp (maxSteps:=2000000) only [↓Za,↓Zb,↓Zc,vup,List.map_cons,List.map_nil,cond_true,cond_false,aop,ev,sput,Ze,Nat.reduceBEq,Yt,List.nil_append,List.append_nil,List.take_succ_cons,List.take_zero,Wk d5]
   refine (none_call0).mono ?_
   rintro _ H6 ⟨hE6,rfl⟩
   refine hN1 _ _ ?_
   clear hN1 N1
   simp only [List.drop_succ_cons,List.drop_zero]
   refine Xz 4 fun N1 hN1=>?_
   simp (maxSteps:=2000000) only [↓Za,↓Zb,↓Zc,↓vdn,vup,cond_true,cond_false,aop,ev,sput,Ze,unK,Nat.reduceBEq,List.take_succ_cons,List.take_zero]
   refine hN1 _ _ ?_
   clear hN1 N1
   simp only [List.drop_succ_cons,List.drop_zero]
   refine Xz 4 fun N1 hN1=>?_
   simp (maxSteps:=2000000) only [↓Za,↓Zb,↓Zc,↓vdn,vup,cond_true,cond_false,aop,ev,sput,Ze,Zx,Ya,Nat.reduceBEq,List.take_succ_cons,List.take_zero,e22]
   refine hN1 _ _ ?_
   clear hN1 N1
   simp only [List.drop_succ_cons,List.drop_zero]
   refine Xz 4 fun N1 hN1=>?_
   simp (maxSteps:=2000000) only [↓Za,↓Zb,↓Zc,↓vdn,vup,cond_true,cond_false,aop,ev,sput,Ze,Zx,Ya,Nat.reduceBEq,List.take_succ_cons,List.take_zero,e22]
   refine hN1 _ _ ?_
   clear hN1 N1
   simp only [List.drop_succ_cons,List.drop_zero]
   simp (maxSteps:=2000000) only [↓Za,↓Zb,↓Zc,↓vdn,vup,List.map_nil,cond_true,cond_false,aop,Zf,ev,sput,Ze,Nat.reduceBEq,Yt,List.append_nil]
   refine awk fun g _=>?_
   refine hN5 [(0,v),(1,w),(4,.bool true),(5,pT b5),(6,.int .i64 2),(7,.bool false),(8,.int .i64 2),(29,.bool true)] _ _ ?_ (by simp (maxSteps:=2000000) only [vup,cond_true,cond_false,Nat.reduceBEq])
   clear hN5
   try clear N5
   refine Zm ?_
   simp (maxSteps:=2000000) only [↓Zw,vup,cond_true,cond_false,Zf,Nat.reduceBEq,Zt,Xi,tup]
 have g:=grs_iff.1 hg
 have h6:=g.2.1
 simp (maxSteps:=2000000) only [vup,hg]
 refine hN4 [(0,v),(1,w),(4,.bool false),(5,pT b5),(6,.int .i64 0),(7,.bool lb),(8,.int .i64 le),(29,.bool false)] _ _ ?_ (by simp (maxSteps:=2000000) only [vup,cond_true,cond_false,Nat.reduceBEq])
 clear hN4
 try clear N4
 refine Yh rfl ?_
 refine Zm ?_
 simp (maxSteps:=2000000) only [↓Zn,Zf]
 refine hA [(0,v),(1,w),(4,.bool false),(5,pT b5),(6,.int .i64 0),(7,.bool lb),(8,.int .i64 le)] _ _ ?_ (by simp (maxSteps:=2000000) only [vup,cond_true,cond_false,Nat.reduceBEq])
 clear hA
 try clear A
 refine Zo fun A hA=>?_
 refine Zg fun N6 hN6=>?_
 refine aw_drawR (fun z=>z[b5]? = some (Blk.cells [Zd q.num,Zd (q.den:Int)] 44 false)) [(0,5),(2,4),(9,4)] (by kernel_rfl) (by kernel_rfl) (by kernel_rfl) (by kernel_rfl) d5 ?_
 simp (maxSteps:=2000000) only [↓dopsR_nil,↓vdn,vup,List.map_cons,List.map_nil,cond_true,cond_false,aop,Zf,ev,sput,Ze,Zx,Ya,unK,pickK,Nat.reduceBEq,Nat.reduceAdd,Int.reduceBNe,Yt,List.nil_append,List.append_nil]
 refine ⟨.agg #[Zd q.num,Zd q.den],fun z hz=>by rw [Wk hz],?_⟩
 refine (rweigh_call hv5 g).mono ?_
 rintro _ H6 ⟨q',rfl,hq',hE6⟩
 obtain rfl:=hq.1.inj hq'
 have d6:=(hE6.2 _ (Yb d5) id).trans d5
 refine ⟨d6,?_⟩
 have hbn:(([q.num,(q.den:Int)]:List Int) != [q.num,(q.den:Int)])=false:=by rw [bne_eq_false_iff_eq]
 simp (maxSteps:=2000000) only [↓dopsR_nil,↓vdn,vup,List.map_nil,cond_true,cond_false,aop,Zf,ev,sput,Ze,Zx,Ya,unK,pickK,Nat.reduceBEq,Nat.reduceAdd,qV,frV,Xa,Option.map_some,List.length_cons,List.length_nil,Nat.zero_add,eqF,hbn,n00,Yt,List.append_nil]
 refine awk fun g7 hE7=>?_
 refine ⟨(hE7.2 _ (Yb d6) id).trans d6,?_⟩
 have hv7:=Xk hv5 (hE6.trans hE7)
 have hw7:=hw5.ext (hE6.trans hE7)
 simp (maxSteps:=2000000) only [vup]
 refine hN6 [(0,v),(1,w),(4,.bool false),(5,pT b5),(6,.int .i64 0),(7,.bool lb),(8,.int .i64 le),(58,.bool false)] _ _ ?_ (by simp (maxSteps:=2000000) only [vup,cond_true,cond_false,Nat.reduceBEq])
 clear hN6
 try clear N6
 refine Yh rfl ?_
 refine Zm ?_
 simp (maxSteps:=2000000) only [↓Zn,Zf]
 refine hA [(0,v),(1,w),(4,.bool false),(5,pT b5),(6,.int .i64 0),(7,.bool lb),(8,.int .i64 le)] _ _ ?_ (by simp (maxSteps:=2000000) only [vup,cond_true,cond_false,Nat.reduceBEq])
 clear hA
 try clear A
 refine Zo fun A hA=>?_
 refine Zg fun N7 hN7=>?_
 simp (maxSteps:=2000000) only [↓Za,↓Zb,↓Zc,vup,List.map_cons,List.map_nil,cond_true,cond_false,aop,Zf,ev,sput,Ze,unK,Nat.reduceBEq,Yt,List.nil_append,List.append_nil]
 refine (wts_call hv7 hw7 hwl).mono ?_
 rintro _ H8 ⟨hE8,rfl⟩
 have hok:okL xs ps=(decide (ps.length=xs.length)&&allW ps):=by rw [okL,hg,Bool.true_and]
 rw [← hok]
 rcases hbb with ⟨hk,rfl,rfl⟩ | ⟨hk,rfl,rfl⟩
 · skip
   simp (maxSteps:=2000000) only [vup,hk]
   refine hN7 [(0,v),(1,w),(4,.bool false),(5,pT b5),(6,.int .i64 0),(7,.bool false),(8,.int .i64 2),(62,.bool true)] _ _ ?_ (by simp (maxSteps:=2000000) only [vup,cond_true,cond_false,Nat.reduceBEq])
   clear hN7
   try clear N7
   refine Yp rfl ?_
   refine Zm ?_
   simp (maxSteps:=2000000) only [↓Za,↓Zl,↓Zw,↓Zb,↓Zc,↓vdn,vup,cond_true,cond_false,aop,Zf,ev,sput,Ze,Zx,Ya,unK,Nat.reduceBEq,Zt,Xi,tup,e22]
 · skip
   simp (maxSteps:=2000000) only [vup,hk]
   refine hN7 [(0,v),(1,w),(4,.bool false),(5,pT b5),(6,.int .i64 0),(7,.bool (Vg xs ps)),(8,.int .i64 0),(62,.bool false)] _ _ ?_ (by simp (maxSteps:=2000000) only [vup,cond_true,cond_false,Nat.reduceBEq])
   clear hN7
   try clear N7
   refine Yh rfl ?_
   refine Zm ?_
   simp (maxSteps:=2000000) only [↓Zn,Zf]
   refine hA [(0,v),(1,w),(4,.bool false),(5,pT b5),(6,.int .i64 0),(7,.bool (Vg xs ps)),(8,.int .i64 0)] _ _ ?_ (by simp (maxSteps:=2000000) only [vup,cond_true,cond_false,Nat.reduceBEq])
   clear hA
   try clear A
   rw [hok,Bool.and_eq_true,decide_eq_true_eq] at hk
   refine Zg fun N8 hN8=>?_
   simp (maxSteps:=2000000) only [↓Za,↓Zb,↓Zc,↓vdn,vup,List.map_cons,List.map_nil,cond_true,cond_false,aop,Zf,ev,sput,Ze,Zx,Ya,Nat.reduceBEq,Int.reduceBEq,tyf,Yt,List.nil_append,List.append_nil]
   refine (rlight_call (Xk hv7 hE8) g (hw7.ext hE8) hk.1 hk.2).mono ?_
   rintro _ H9 ⟨hE9,rfl⟩
   have hbe:(Vg xs ps==Vg xs ps)=true:=beq_self_eq_true _
   simp (maxSteps:=2000000) only [↓Zb,↓Zc,↓vdn,vup,cond_true,cond_false,aop,Zf,ev,sput,Ze,Zx,Ya,Nat.reduceBEq,hbe,e00]
   refine hN8 [(0,v),(1,w),(4,.bool true),(5,pT b5),(6,.int .i64 0),(7,.bool (Vg xs ps)),(8,.int .i64 0)] _ _ ?_ (by simp (maxSteps:=2000000) only [vup,cond_true,cond_false,Nat.reduceBEq])
   clear hN8
   try clear N8
   refine Zm ?_
   simp (maxSteps:=2000000) only [↓Zw,vup,cond_true,cond_false,Nat.reduceBEq,Zt,Xi,tup]
end Go.Proofs.Tryd.Am
